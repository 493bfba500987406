import Derived.Test.YthdinakloheinaaGreatDoorkVW4
import Derived.Test.YthdinakloheinaaGreatDoorkGW4
import Derived.Test.YthdinakloheinaaGreatDoorkNFP
import Derived.Shelf.Lays2
import Derived.Ground.Names2Prog
set_option linter.all false
namespace Go.X.Vm
open Go Go.Proofs Go.X
set_option maxRecDepth 20000
set_option maxHeartbeats 4000000
def acB:cV Tryz.prog 124=true:=kq
def Va:eC Tryz.prog 145 0=some 0:=kq
def Vb:eC Tryz.prog 145 1=some 1:=kq
def acC:jw Tryz.prog 140=true:=kq
def afs:jw Tryz.prog 94=true:=kq
def aat(kb mb:Nat)(p:Option Addr)(c:Nat)(m:MS)(hm:m.Ok)(a:Int)(w:Bool):Spec Tryz.prog 199 [aC mb 0 0,iI a,.bool w] [.cells mb 0 34 (b6 kb p (aj m.aB).length c m.fr m.bu),aS p c 171 3 (aj m.aB).length (fb (aj m.aB))] (fun x H1=>x= .bool (m.y8 a w)/\H1=[.cells mb 0 34 (b6 kb p (aj m.aB).length c m.fr m.bu),aS p c 171 3 (aj m.aB).length (fb (aj m.aB))]):=by
 refine Spec.go 34 [0,1,2,6,7,13] [] Tryz.func199 rfl rfl rfl ?_;intro W;refine sp 10 rfl ?_ ?_<;>intro h1
 ·refine ah rfl rfl (ad (pz 2) rfl ?_);first | exact⟨by rw[jc];rfl,rfl⟩ | (refine⟨?_,rfl⟩;rw[oy hm hk];first | (rw[decide_eq_false (p:=0<=k) og];rfl) | (rw[decide_eq_true (p:=0<=k) og];cases w<;>first | rfl | contradiction))
 ·refine cd rfl ?_ ?_<;>intro h2
  ·refine ah rfl rfl (ad (pz 2) rfl ?_);first | exact⟨by rw[jc];rfl,rfl⟩ | (refine⟨?_,rfl⟩;rw[oy hm hk];first | (rw[decide_eq_false (p:=0<=k) og];rfl) | (rw[decide_eq_true (p:=0<=k) og];cases w<;>first | rfl | contradiction))
  ·refine XO.v (V.quo rfl rfl (by first | decide | omega) _ (sV)) rfl (gO ?_);refine ca (YH _ _ _ _ _ hm _) (pz 2) ?_;rintro _ _ ⟨⟨k,rfl,hk⟩,rfl⟩;have hrn:k<(aj m.aB).length:=by rcases hk with⟨rfl,_⟩ | ⟨q,_⟩<;>omega
   refine gO ?_;refine sp 20 rfl ?_ ?_<;>intro h3
   ·refine Pt 23 rfl ?_ ?_<;>intro h4
    ·try simp only[sb]at h4
     try(refine bH (.av .aa) og ?_;intro g1 hg1;subst hg1)
     refine ah rfl rfl (ad (pz 2) rfl ?_);first | exact⟨by rw[jc];rfl,rfl⟩ | (refine⟨?_,rfl⟩;rw[oy hm hk];first | (rw[decide_eq_false (p:=0<=k) og];rfl) | (rw[decide_eq_true (p:=0<=k) og];cases w<;>first | rfl | contradiction))
    ·try simp only[sb]at h4
     refine ld .aa (lr _ _ _ _ _ _) ?_;try(refine bH (.av .aa) og ?_;intro g1 hg1;subst hg1)
     refine sd ?_;refine W4 (.av .aa) (fb.w og) ?_;refine ah rfl rfl (ad (pz 2) rfl ?_);first | exact⟨by rw[jc];rfl,rfl⟩ | (refine⟨?_,rfl⟩;rw[oy hm hk];first | (rw[decide_eq_false (p:=0<=k) og];rfl) | (rw[decide_eq_true (p:=0<=k) og];cases w<;>first | rfl | contradiction))
   ·try(refine bH (.av .aa) og ?_;intro g1 hg1;subst hg1)
    refine ah rfl rfl (ad (pz 2) rfl ?_);first | exact⟨by rw[jc];rfl,rfl⟩ | (refine⟨?_,rfl⟩;rw[oy hm hk];first | (rw[decide_eq_false (p:=0<=k) og];rfl) | (rw[decide_eq_true (p:=0<=k) og];cases w<;>first | rfl | contradiction))
def YJ(kb mb:Nat)(p:Option Addr)(c:Nat)(m:MS)(hm:m.Ok)(a:Int):Spec Tryz.prog 200 [aC mb 0 0,iI a] [.cells mb 0 34 (b6 kb p (aj m.aB).length c m.fr m.bu),aS p c 171 3 (aj m.aB).length (fb (aj m.aB))] (fun x H1=>x= .bool (m.tJ a)/\H1=[.cells mb 0 34 (b6 kb p (aj m.aB).length c m.fr m.bu),aS p c 171 3 (aj m.aB).length (fb (aj m.aB))]):=by
 refine Spec.go 29 [0,1,4] [] Tryz.func200 rfl rfl rfl ?_;intro W;refine sp 7 rfl ?_ ?_<;>intro h1
 ·refine sp 11 rfl ?_ ?_<;>intro h2
  ·refine XO.v (V.quo rfl rfl (by first | decide | omega) _ (sV)) rfl (gO ?_);refine ca (YH _ _ _ _ _ hm _) (pz 2) ?_;rintro _ _ ⟨⟨k,rfl,hk⟩,rfl⟩;refine gO ?_;refine sp 18 rfl ?_ ?_<;>intro h3
   ·refine XO.v (V.quo rfl rfl (by first | decide | omega) _ (sV)) rfl (gO ?_);refine sd ?_;refine ld .aa (bO _ _ _ _ _ _ _) ?_;refine ah rfl rfl (ad (pz 2) rfl ?_);first | exact⟨by unfold MS.tJ;rw[jc];rfl,rfl⟩ | (refine⟨?_,rfl⟩;rw[pH hm hk];first | (rw[decide_eq_false (p:=0<=k) og];rfl) | (rw[decide_eq_true (p:=0<=k) og];rfl))
   ·refine ah rfl rfl (ad (pz 2) rfl ?_);first | exact⟨by unfold MS.tJ;rw[jc];rfl,rfl⟩ | (refine⟨?_,rfl⟩;rw[pH hm hk];first | (rw[decide_eq_false (p:=0<=k) og];rfl) | (rw[decide_eq_true (p:=0<=k) og];rfl))
  ·refine ah rfl rfl (ad (pz 2) rfl ?_);first | exact⟨by unfold MS.tJ;rw[jc];rfl,rfl⟩ | (refine⟨?_,rfl⟩;rw[pH hm hk];first | (rw[decide_eq_false (p:=0<=k) og];rfl) | (rw[decide_eq_true (p:=0<=k) og];rfl))
 ·refine ah rfl rfl (ad (pz 2) rfl ?_);first | exact⟨by unfold MS.tJ;rw[jc];rfl,rfl⟩ | (refine⟨?_,rfl⟩;rw[pH hm hk];first | (rw[decide_eq_false (p:=0<=k) og];rfl) | (rw[decide_eq_true (p:=0<=k) og];rfl))
set_option maxHeartbeats 8000000 in
def OD(kb pb mb:Nat)(v:VB)(hv:v.Ok)(p:Option Addr)(c:Nat)(m:MS)(hm:m.Ok)(a:Int)(w:Bool):Spec Tryz.prog 202 [aC mb 0 0,iI a,.bool w] [.cells kb 0 577 (dD pb v.iq v.rf),.cells pb 0 71 (bL v.bb.fi),.cells mb 0 34 (b6 kb p (aj m.aB).length c m.fr m.bu),aS p c 171 3 (aj m.aB).length (fb (aj m.aB)),.ro 1 0 64 fw] (fun x H1=>x= .tuple #[iI (m.cw v a w).1,az 102 (m.cw v a w).2.1]/\H1=[.cells kb 0 577 (dD pb (m.cw v a w).2.2.1.iq (m.cw v a w).2.2.1.rf),.cells pb 0 71 (bL (m.cw v a w).2.2.1.bb.fi),.cells mb 0 34 (b6 kb p (aj m.aB).length c (m.cw v a w).2.2.2.fr (m.cw v a w).2.2.2.bu),aS p c 171 3 (aj m.aB).length (fb (aj m.aB))]):=by
  refine Spec.go 123 [0,1,2,6,7,8,9,10,11,12,17,25,40,46,79,114] [] Tryz.func202 rfl rfl rfl ?_
  intro W
  refine cq (aat _ _ _ _ _ hm _ _) (pk [2,2]) ?_
  refine we rfl ?_ ?_<;>intro h1
  · try simp only[sb]at h1
    have eA:m.y8 a w=false:=by simpa using h1
    refine ao rfl rfl rfl (ad (pk [2,2,0,0]) rfl ?_)
    first
      | (rw[ic eA];exact⟨rfl,rfl⟩)
      | (rw[fm eA h0 ht];exact⟨rfl,by rw[ir.2]⟩)
      | (rw[ie eA h0 ht];exact⟨by show Value.tuple #[iI (ae m.fr (a/8) (v.take.1+1) (a/8)-1),_]=_;rw[au,show v.take.1+1-1=v.take.1 from og];rfl,rfl⟩)
      | (rw[fV eA h0 (by first | assumption | omega | (simp_all;done)) (by first | assumption | omega | (simp_all;done)) og ht];exact⟨rfl,by rw[ir.2]⟩)
      | (rw[fE eA h0 (by first | assumption | omega | (simp_all;done)) (by first | assumption | omega | (simp_all;done)) og ht];exact⟨by show Value.tuple #[iI (ae m.fr (a/8) (v.take.1+1) (a/8)-1),_]=_;rw[au,show v.take.1+1-1=v.take.1 from og];rfl,rfl⟩)
      | (rw[MS.ko eA h0 (by first | assumption | omega | (simp_all;done)) (by first | assumption | omega | (simp_all;done)) og];exact⟨rfl,rfl⟩)
      | (have q:w=false:=by first | assumption | omega | (simp_all;done)
         rw[cZ eA h0 (.inl q)];exact⟨rfl,rfl⟩)
      | (have q:m.bu (a/8)=true:=by first | assumption | omega | (simp_all;done)
         rw[cZ eA h0 (.inr q)];first | exact⟨rfl,rfl⟩ | (rw[jt m.bu (a/8) q];exact⟨rfl,rfl⟩))
      | (exfalso;(first | assumption | omega | (simp_all;done)))
  · try simp only[sb]at h1
    have eA:m.y8 a w=true:=by simpa using h1
    have ha:=lg eA
    have Jv:=hm.lo (a/8)
    refine XO.v (V.quo rfl rfl (by first | decide | omega) _ (sV)) rfl (gO ?_)
    refine sd ?_
    refine ld .aa (bO _ _ _ _ _ _ _) ?_
    refine cd rfl ?_ ?_<;>intro h2
    · skip
      have h0:m.fr (a/8)=0:=og
      refine ld .aa (b6.zN _ _ _ _ _ _) ?_
      refine Io 2 (U5 _ _ _ hv) (pk [2,2,2]) rfl ?_
      refine cd rfl ?_ ?_<;>intro h3
      · skip
        have ht:=h3
        have ir:=AZ ht
        refine ao rfl rfl rfl (ad (pk [0,0,1,1]) rfl ?_)
        first
          | (rw[ic eA];exact⟨rfl,rfl⟩)
          | (rw[fm eA h0 ht];exact⟨rfl,by rw[ir.2]⟩)
          | (rw[ie eA h0 ht];exact⟨by show Value.tuple #[iI (ae m.fr (a/8) (v.take.1+1) (a/8)-1),_]=_;rw[au,show v.take.1+1-1=v.take.1 from og];rfl,rfl⟩)
          | (rw[fV eA h0 (by first | assumption | omega | (simp_all;done)) (by first | assumption | omega | (simp_all;done)) og ht];exact⟨rfl,by rw[ir.2]⟩)
          | (rw[fE eA h0 (by first | assumption | omega | (simp_all;done)) (by first | assumption | omega | (simp_all;done)) og ht];exact⟨by show Value.tuple #[iI (ae m.fr (a/8) (v.take.1+1) (a/8)-1),_]=_;rw[au,show v.take.1+1-1=v.take.1 from og];rfl,rfl⟩)
          | (rw[MS.ko eA h0 (by first | assumption | omega | (simp_all;done)) (by first | assumption | omega | (simp_all;done)) og];exact⟨rfl,rfl⟩)
          | (have q:w=false:=by first | assumption | omega | (simp_all;done)
             rw[cZ eA h0 (.inl q)];exact⟨rfl,rfl⟩)
          | (have q:m.bu (a/8)=true:=by first | assumption | omega | (simp_all;done)
             rw[cZ eA h0 (.inr q)];first | exact⟨rfl,rfl⟩ | (rw[jt m.bu (a/8) q];exact⟨rfl,rfl⟩))
          | (exfalso;(first | assumption | omega | (simp_all;done)))
      · skip
        have ht:v.take.2.1=0:=og
        have htr:=pF hv ht
        refine XO.v (V.build (vs:= #[(0,iI v.take.1),(1,.bool true)]) rfl (v:=.agg #[iI v.take.1,.bool true]) fun _=>kq) rfl (gO ?_)
        refine gD (.t3 .aa) (rM _ _ _ _ _ _ _ _ _) rfl ⟨rfl,rfl⟩ ?_
        refine ld (.t3 .aa) (bO _ _ _ _ _ _ _) ?_
        refine ao rfl rfl rfl (ad (pk [0,0,1,1]) rfl ?_)
        first
          | (rw[ic eA];exact⟨rfl,rfl⟩)
          | (rw[fm eA h0 ht];exact⟨rfl,by rw[ir.2]⟩)
          | (rw[ie eA h0 ht];exact⟨by show Value.tuple #[iI (ae m.fr (a/8) (v.take.1+1) (a/8)-1),_]=_;rw[au,show v.take.1+1-1=v.take.1 from og];rfl,rfl⟩)
          | (rw[fV eA h0 (by first | assumption | omega | (simp_all;done)) (by first | assumption | omega | (simp_all;done)) og ht];exact⟨rfl,by rw[ir.2]⟩)
          | (rw[fE eA h0 (by first | assumption | omega | (simp_all;done)) (by first | assumption | omega | (simp_all;done)) og ht];exact⟨by show Value.tuple #[iI (ae m.fr (a/8) (v.take.1+1) (a/8)-1),_]=_;rw[au,show v.take.1+1-1=v.take.1 from og];rfl,rfl⟩)
          | (rw[MS.ko eA h0 (by first | assumption | omega | (simp_all;done)) (by first | assumption | omega | (simp_all;done)) og];exact⟨rfl,rfl⟩)
          | (have q:w=false:=by first | assumption | omega | (simp_all;done)
             rw[cZ eA h0 (.inl q)];exact⟨rfl,rfl⟩)
          | (have q:m.bu (a/8)=true:=by first | assumption | omega | (simp_all;done)
             rw[cZ eA h0 (.inr q)];first | exact⟨rfl,rfl⟩ | (rw[jt m.bu (a/8) q];exact⟨rfl,rfl⟩))
          | (exfalso;(first | assumption | omega | (simp_all;done)))
    · skip
      have h0:¬m.fr (a/8)=0:=og
      refine rq [0,1,2,3,4,5,6,7,8,9,10,11,12,13,14,15,16,17,18,19,20,21,22,23] mixed ?_
      refine Pt 48 rfl ?_ ?_<;>intro h4
      · try simp only[sb]at h4
        refine ld .aa (xX _ _ _ _ _ _ _ og) ?_
        refine Pt 55 rfl ?_ ?_<;>intro h5
        · try simp only[sb]at h5
          refine ld .aa (b6.zN _ _ _ _ _ _) ?_
          refine ld .aa (bO _ _ _ _ _ _ _) ?_
          refine sd ?_
          refine ld (.t2 .aa) (iP _ _ _ _) ?_
          refine cd rfl ?_ ?_<;>intro h6
          · skip
            refine ld .aa (b6.zN _ _ _ _ _ _) ?_
            refine Io 2 (U5 _ _ _ hv) (pk [2,2,2]) rfl ?_
            refine cd rfl ?_ ?_<;>intro h7
            · skip
              have ht:=h7
              have ir:=AZ ht
              refine ao rfl rfl rfl (ad (pk [0,0,1,1]) rfl ?_)
              first
                | (rw[ic eA];exact⟨rfl,rfl⟩)
                | (rw[fm eA h0 ht];exact⟨rfl,by rw[ir.2]⟩)
                | (rw[ie eA h0 ht];exact⟨by show Value.tuple #[iI (ae m.fr (a/8) (v.take.1+1) (a/8)-1),_]=_;rw[au,show v.take.1+1-1=v.take.1 from og];rfl,rfl⟩)
                | (rw[fV eA h0 (by first | assumption | omega | (simp_all;done)) (by first | assumption | omega | (simp_all;done)) og ht];exact⟨rfl,by rw[ir.2]⟩)
                | (rw[fE eA h0 (by first | assumption | omega | (simp_all;done)) (by first | assumption | omega | (simp_all;done)) og ht];exact⟨by show Value.tuple #[iI (ae m.fr (a/8) (v.take.1+1) (a/8)-1),_]=_;rw[au,show v.take.1+1-1=v.take.1 from og];rfl,rfl⟩)
                | (rw[MS.ko eA h0 (by first | assumption | omega | (simp_all;done)) (by first | assumption | omega | (simp_all;done)) og];exact⟨rfl,rfl⟩)
                | (have q:w=false:=by first | assumption | omega | (simp_all;done)
                   rw[cZ eA h0 (.inl q)];exact⟨rfl,rfl⟩)
                | (have q:m.bu (a/8)=true:=by first | assumption | omega | (simp_all;done)
                   rw[cZ eA h0 (.inr q)];first | exact⟨rfl,rfl⟩ | (rw[jt m.bu (a/8) q];exact⟨rfl,rfl⟩))
                | (exfalso;(first | assumption | omega | (simp_all;done)))
            · skip
              have ht:v.take.2.1=0:=og
              have htr:=pF hv ht
              refine rq [0,1,2,3,4,5,6,7,8,9,10,11,12,13,14,15,16,17,18,19,20] mixed ?_
              refine ld (.t3 .aa) (b6.zN _ _ _ _ _ _) ?_
              refine ld (.t3 .aa) (b6.zN _ _ _ _ _ _) ?_
              refine ld (.t3 .aa) (bO _ _ _ _ _ _ _) ?_
              refine sd ?_
              refine lZ .aa (TQ _ _ _ _ og) ?_
              refine sd ?_
              refine gD .aa (FO _ _ _ _ _) rfl ⟨rfl,rfl⟩ ?_
              refine rq [0,1,2,3,4,5,6,7,8] mixed ?_
              refine ld (.t3 .aa) (b6.zN _ _ _ _ _ _) ?_
              refine ld (.t3 .aa) (bO _ _ _ _ _ _ _) ?_
              refine Io 2 (acw _ _ (v.take.2.2.copy v.take.1 (m.fr (a/8)-1)) (hv.take.copy _ _) (m.fr (a/8)-1) og (A1 ht og)) (pz 3) rfl ?_
              refine XO.v (V.build (vs:= #[(0,iI v.take.1),(1,.bool true)]) rfl (v:=.agg #[iI v.take.1,.bool true]) fun _=>kq) rfl (gO ?_)
              refine gD (.t3 .aa) (rM _ _ _ _ _ _ _ _ _) rfl ⟨rfl,rfl⟩ ?_
              refine ld (.t3 .aa) (bO _ _ _ _ _ _ _) ?_
              refine ao rfl rfl rfl (ad (pk [0,0,1,1]) rfl ?_)
              first
                | (rw[ic eA];exact⟨rfl,rfl⟩)
                | (rw[fm eA h0 ht];exact⟨rfl,by rw[ir.2]⟩)
                | (rw[ie eA h0 ht];exact⟨by show Value.tuple #[iI (ae m.fr (a/8) (v.take.1+1) (a/8)-1),_]=_;rw[au,show v.take.1+1-1=v.take.1 from og];rfl,rfl⟩)
                | (rw[fV eA h0 (by first | assumption | omega | (simp_all;done)) (by first | assumption | omega | (simp_all;done)) og ht];exact⟨rfl,by rw[ir.2]⟩)
                | (rw[fE eA h0 (by first | assumption | omega | (simp_all;done)) (by first | assumption | omega | (simp_all;done)) og ht];exact⟨by show Value.tuple #[iI (ae m.fr (a/8) (v.take.1+1) (a/8)-1),_]=_;rw[au,show v.take.1+1-1=v.take.1 from og];rfl,rfl⟩)
                | (rw[MS.ko eA h0 (by first | assumption | omega | (simp_all;done)) (by first | assumption | omega | (simp_all;done)) og];exact⟨rfl,rfl⟩)
                | (have q:w=false:=by first | assumption | omega | (simp_all;done)
                   rw[cZ eA h0 (.inl q)];exact⟨rfl,rfl⟩)
                | (have q:m.bu (a/8)=true:=by first | assumption | omega | (simp_all;done)
                   rw[cZ eA h0 (.inr q)];first | exact⟨rfl,rfl⟩ | (rw[jt m.bu (a/8) q];exact⟨rfl,rfl⟩))
                | (exfalso;(first | assumption | omega | (simp_all;done)))
          · skip
            refine we rfl ?_ ?_<;>intro h8
            · try simp only[sb]at h8
              refine st .aa (ib _ _ _ _ _ _ _ og _) rfl ?_
              refine ld .aa (bO _ _ _ _ _ _ _) ?_
              refine ao rfl rfl rfl (ad (pk [2,2,0,0]) rfl ?_)
              first
                | (rw[ic eA];exact⟨rfl,rfl⟩)
                | (rw[fm eA h0 ht];exact⟨rfl,by rw[ir.2]⟩)
                | (rw[ie eA h0 ht];exact⟨by show Value.tuple #[iI (ae m.fr (a/8) (v.take.1+1) (a/8)-1),_]=_;rw[au,show v.take.1+1-1=v.take.1 from og];rfl,rfl⟩)
                | (rw[fV eA h0 (by first | assumption | omega | (simp_all;done)) (by first | assumption | omega | (simp_all;done)) og ht];exact⟨rfl,by rw[ir.2]⟩)
                | (rw[fE eA h0 (by first | assumption | omega | (simp_all;done)) (by first | assumption | omega | (simp_all;done)) og ht];exact⟨by show Value.tuple #[iI (ae m.fr (a/8) (v.take.1+1) (a/8)-1),_]=_;rw[au,show v.take.1+1-1=v.take.1 from og];rfl,rfl⟩)
                | (rw[MS.ko eA h0 (by first | assumption | omega | (simp_all;done)) (by first | assumption | omega | (simp_all;done)) og];exact⟨rfl,rfl⟩)
                | (have q:w=false:=by first | assumption | omega | (simp_all;done)
                   rw[cZ eA h0 (.inl q)];exact⟨rfl,rfl⟩)
                | (have q:m.bu (a/8)=true:=by first | assumption | omega | (simp_all;done)
                   rw[cZ eA h0 (.inr q)];first | exact⟨rfl,rfl⟩ | (rw[jt m.bu (a/8) q];exact⟨rfl,rfl⟩))
                | (exfalso;(first | assumption | omega | (simp_all;done)))
            · try simp only[sb]at h8
              refine ld .aa (bO _ _ _ _ _ _ _) ?_
              refine ao rfl rfl rfl (ad (pk [2,2,0,0]) rfl ?_)
              simp_all
        · try simp only[sb]at h5
          refine we rfl ?_ ?_<;>intro h9
          · try simp only[sb]at h9
            refine st .aa (ib _ _ _ _ _ _ _ og _) rfl ?_
            refine ld .aa (bO _ _ _ _ _ _ _) ?_
            refine ao rfl rfl rfl (ad (pk [2,2,0,0]) rfl ?_)
            first
              | (rw[ic eA];exact⟨rfl,rfl⟩)
              | (rw[fm eA h0 ht];exact⟨rfl,by rw[ir.2]⟩)
              | (rw[ie eA h0 ht];exact⟨by show Value.tuple #[iI (ae m.fr (a/8) (v.take.1+1) (a/8)-1),_]=_;rw[au,show v.take.1+1-1=v.take.1 from og];rfl,rfl⟩)
              | (rw[fV eA h0 (by first | assumption | omega | (simp_all;done)) (by first | assumption | omega | (simp_all;done)) og ht];exact⟨rfl,by rw[ir.2]⟩)
              | (rw[fE eA h0 (by first | assumption | omega | (simp_all;done)) (by first | assumption | omega | (simp_all;done)) og ht];exact⟨by show Value.tuple #[iI (ae m.fr (a/8) (v.take.1+1) (a/8)-1),_]=_;rw[au,show v.take.1+1-1=v.take.1 from og];rfl,rfl⟩)
              | (rw[MS.ko eA h0 (by first | assumption | omega | (simp_all;done)) (by first | assumption | omega | (simp_all;done)) og];exact⟨rfl,rfl⟩)
              | (have q:w=false:=by first | assumption | omega | (simp_all;done)
                 rw[cZ eA h0 (.inl q)];exact⟨rfl,rfl⟩)
              | (have q:m.bu (a/8)=true:=by first | assumption | omega | (simp_all;done)
                 rw[cZ eA h0 (.inr q)];first | exact⟨rfl,rfl⟩ | (rw[jt m.bu (a/8) q];exact⟨rfl,rfl⟩))
              | (exfalso;(first | assumption | omega | (simp_all;done)))
          · try simp only[sb]at h9
            refine ld .aa (bO _ _ _ _ _ _ _) ?_
            refine ao rfl rfl rfl (ad (pk [2,2,0,0]) rfl ?_)
            simp_all
      · try simp only[sb]at h4
        refine we rfl ?_ ?_<;>intro RH
        · try simp only[sb]at RH
          refine st .aa (ib _ _ _ _ _ _ _ og _) rfl ?_
          refine ld .aa (bO _ _ _ _ _ _ _) ?_
          refine ao rfl rfl rfl (ad (pk [2,2,0,0]) rfl ?_)
          simp_all
        · try simp only[sb]at RH
          refine ld .aa (bO _ _ _ _ _ _ _) ?_
          refine ao rfl rfl rfl (ad (pk [2,2,0,0]) rfl ?_)
          first
            | (rw[ic eA];exact⟨rfl,rfl⟩)
            | (rw[fm eA h0 ht];exact⟨rfl,by rw[ir.2]⟩)
            | (rw[ie eA h0 ht];exact⟨by show Value.tuple #[iI (ae m.fr (a/8) (v.take.1+1) (a/8)-1),_]=_;rw[au,show v.take.1+1-1=v.take.1 from og];rfl,rfl⟩)
            | (rw[fV eA h0 (by first | assumption | omega | (simp_all;done)) (by first | assumption | omega | (simp_all;done)) og ht];exact⟨rfl,by rw[ir.2]⟩)
            | (rw[fE eA h0 (by first | assumption | omega | (simp_all;done)) (by first | assumption | omega | (simp_all;done)) og ht];exact⟨by show Value.tuple #[iI (ae m.fr (a/8) (v.take.1+1) (a/8)-1),_]=_;rw[au,show v.take.1+1-1=v.take.1 from og];rfl,rfl⟩)
            | (rw[MS.ko eA h0 (by first | assumption | omega | (simp_all;done)) (by first | assumption | omega | (simp_all;done)) og];exact⟨rfl,rfl⟩)
            | (have q:w=false:=by first | assumption | omega | (simp_all;done)
               rw[cZ eA h0 (.inl q)];exact⟨rfl,rfl⟩)
            | (have q:m.bu (a/8)=true:=by first | assumption | omega | (simp_all;done)
               rw[cZ eA h0 (.inr q)];first | exact⟨rfl,rfl⟩ | (rw[jt m.bu (a/8) q];exact⟨rfl,rfl⟩))
            | (exfalso;(first | assumption | omega | (simp_all;done)))
set_option maxHeartbeats 8000000 in
def acD(kb pb mb:Nat)(v:VB)(hv:v.Ok)(p:Option Addr)(c:Nat)(m:MS)(hm:m.Ok)(a:Int):Spec Tryz.prog 151 [aC mb 0 0,iI a] [.cells kb 0 577 (dD pb v.iq v.rf),.cells pb 0 71 (bL v.bb.fi),.cells mb 0 34 (b6 kb p (aj m.aB).length c m.fr m.bu),aS p c 171 3 (aj m.aB).length (fb (aj m.aB)),.ro 1 0 64 fw] (fun x H1=>x= .tuple #[.int .u8 (m.load v a).1,az 102 (m.load v a).2.1]/\H1=[.cells kb 0 577 (dD pb (m.load v a).2.2.1.iq (m.load v a).2.2.1.rf),.cells pb 0 71 (bL (m.load v a).2.2.1.bb.fi),.cells mb 0 34 (b6 kb p (aj m.aB).length c (m.load v a).2.2.2.fr (m.load v a).2.2.2.bu),aS p c 171 3 (aj m.aB).length (fb (aj m.aB))]):=by
 refine Spec.go 29 [0,1,4,5,6,7,15] [] Tryz.func151 rfl rfl rfl ?_;intro W;refine Io 4 (OD _ _ _ _ hv _ _ _ hm a false) (pz 5) rfl ?_;refine cd rfl ?_ ?_<;>intro h1
 ·have ht:=h1;refine ao rfl rfl rfl (ad (pz 4) rfl ?_);rw[MS.C6 ht];exact⟨rfl,rfl⟩
 ·have ht:(m.cw v a false).2.1=0:=og;have hr:=yb hv hm ht;refine ld (.t2 .aa) (b6.zN _ _ _ _ _ _) ?_;refine XO.v (V.rem rfl rfl (by first | decide | omega) _ (Int.tmod_eq_emod_of_nonneg og)) rfl (gO ?_);refine sd ?_;refine sd ?_;refine ld .aa (EM _ _ _ _ _ og og) ?_;refine ao rfl rfl rfl (ad (pz 4) rfl ?_);rw[MS.Hr ht];exact⟨rfl,rfl⟩
set_option maxHeartbeats 8000000 in
def YK(kb pb mb:Nat)(v:VB)(hv:v.Ok)(p:Option Addr)(c:Nat)(m:MS)(hm:m.Ok)(a b:Int):Spec Tryz.prog 153 [aC mb 0 0,iI a,.int .u8 b] [.cells kb 0 577 (dD pb v.iq v.rf),.cells pb 0 71 (bL v.bb.fi),.cells mb 0 34 (b6 kb p (aj m.aB).length c m.fr m.bu),aS p c 171 3 (aj m.aB).length (fb (aj m.aB)),.ro 1 0 64 fw] (fun x H1=>x=az 102 (m.store v a b).1/\H1=[.cells kb 0 577 (dD pb (m.store v a b).2.1.iq (m.store v a b).2.1.rf),.cells pb 0 71 (bL (m.store v a b).2.1.bb.fi),.cells mb 0 34 (b6 kb p (aj m.aB).length c (m.store v a b).2.2.fr (m.store v a b).2.2.bu),aS p c 171 3 (aj m.aB).length (fb (aj m.aB))]):=by
 refine Spec.go 30 [0,1,2,6,7,8,16] [] Tryz.func153 rfl rfl rfl ?_;intro W;refine Io 4 (OD _ _ _ _ hv _ _ _ hm a true) (pz 5) rfl ?_;refine cd rfl ?_ ?_<;>intro h1
 ·have ht:=h1;refine ah rfl rfl (ad (pz 4) rfl ?_);rw[MS.FX ht];exact⟨rfl,rfl⟩
 ·have ht:(m.cw v a true).2.1=0:=og;have hr:=yb hv hm ht;refine ld (.t2 .aa) (b6.zN _ _ _ _ _ _) ?_;refine XO.v (V.rem rfl rfl (by first | decide | omega) _ (Int.tmod_eq_emod_of_nonneg og)) rfl (gO ?_);refine sd ?_;refine sd ?_;refine st .aa (vI _ _ _ _ _ og og _) rfl ?_;refine ah rfl rfl (ad (pz 4) rfl ?_);rw[MS.C7 ht];exact⟨rfl,rfl⟩
set_option maxHeartbeats 8000000 in
def HV(kb pb mb:Nat)(v:VB)(hv:v.Ok)(p:Option Addr)(c:Nat)(m:MS)(hm:m.Ok):Spec Tryz.prog 57 [aC mb 0 0] [.cells kb 0 577 (dD pb v.iq v.rf),.cells mb 0 34 (b6 kb p (aj m.aB).length c m.fr m.bu),aS p c 171 3 (aj m.aB).length (fb (aj m.aB))] (fun x H1=>∃ nb p1 c1,x=aC nb 0 0/\H1=[.cells kb 0 577 (dD pb (v.jO m).iq (v.jO m).rf),.cells mb 0 34 (b6 kb p (aj m.aB).length c m.fr fun _=>false),aS p c 171 3 (aj m.aB).length (fb (aj m.aB)),.cells nb 0 34 (b6 kb p1 (aj m.aB).length c1 m.fr fun _=>false),aS p1 c1 171 3 (aj m.aB).length (fb (aj m.aB))]):=by
 refine Spec.go 65 [0,2,3,4,16,17,43] [] Tryz.func57 rfl rfl rfl ?_;intro W;refine XC.fI mixed (f:=12) (l:= #[qF,qF,qF,qF,qF,qF,qF,qF,qF,qF,qF,qF]) rfl rfl XM.iY ?_;refine XQ.pv (i:=0) rfl kq rfl (V.move rfl) rfl rfl ?_;refine XQ.pv (i:=1) rfl kq rfl (aW rfl) rfl rfl ?_;refine XQ.pv (i:=2) rfl kq rfl (V.fieldAddr rfl Va) rfl rfl ?_;refine XQ.load (i:=3) (.cells _ _ _ _) [10] rfl kq rfl (.av .aa) (V.load rfl dJ (b6.zN _ _ _ _ _ _) afs) rfl kq rfl ?_;refine XQ.pv (i:=4) rfl kq rfl (V.move rfl) rfl rfl ?_;refine XQ.pv (i:=5) rfl kq rfl (aW rfl) rfl rfl ?_;refine XQ.pv (i:=6) rfl kq rfl (V.fieldAddr rfl Vb) rfl rfl ?_;refine XQ.load (i:=7) (.cells _ _ _ _) [8,10] rfl kq rfl (.av .aa) (V.load rfl dJ (lr _ _ _ _ _ _) acC) rfl kq rfl ?_;refine XQ.call (i:=8) rfl kq rfl rfl (YI _ _ _ (by have:=qI m.aB;omega)) (pk [2]) acB rfl (by rintro _ _ ⟨p1,c1,rfl,rfl⟩;all_goals(intro _ dG;exact⟨fun hs=>(hs 8 (by first | (simp;done) | (simp;rfl)) rfl).elim,fun _=>eD (.t3 .aa) _ dG,trivial⟩)) ?_;rintro _ _ ⟨p1,c1,rfl,rfl⟩;refine XQ.pv (i:=9) rfl kq rfl (V.build (vs:= #[(0,aC kb 0 0),(1,.slice p1 (aj m.aB).length c1)]) rfl (v:=.agg (zNs kb p1 (aj m.aB).length c1).toArray) fun _=>kq) rfl rfl ?_;refine XQ.box (i:=10) (m:=34) (C:=b6 kb p1 (aj m.aB).length c1 (fun _=>1) fun _=>false) rfl kq rfl rfl rfl (X3 _ _ _ _) rfl (fun _ _ dG=>⟨fun hs=>(hs 8 (by first | (simp;done) | (simp;rfl)) rfl).elim,fun hs=>(hs 10 (by first | (simp;done) | (simp;rfl)) rfl).elim,trivial⟩) ?_;intro nb;refine XQ.pv (i:=11) rfl kq rfl (V.assign rfl) rfl rfl ?_;refine XQ.done kq ?_;refine gE ?_;refine lp (σ:=Int) (fun i=>(16-i).toNat) (fun i=>0<=i/\i<=16) (fun i=>[(16,iI i),(0,aC mb 0 0),(3,aC nb 0 0)]) (fun i=>XM W (bZ [.cells kb 0 577 (dD pb v.iq v.rf),.cells mb 0 34 (b6 kb p (aj m.aB).length c m.fr m.bu),aS p c 171 3 (aj m.aB).length (fb (aj m.aB))]) [.cells kb 0 577 (dD pb v.iq (xV v.rf m.fr i.toNat)),.cells mb 0 34 (b6 kb p (aj m.aB).length c m.fr (wG (fun _=>false) m.bu i)),aS p c 171 3 (aj m.aB).length (fb (aj m.aB)),.cells nb 0 34 (b6 kb p1 (aj m.aB).length c1 (wG m.fr (fun _=>1) i) fun _=>false),aS p1 c1 171 3 (aj m.aB).length (fb (aj m.aB))]) (0) ?_ (S3 rfl rfl rfl) (fun _ hw=>by show XM _ _ [_,.cells mb 0 34 (b6 _ _ _ _ _ (wG (fun _=>false) m.bu 0)),_,.cells nb 0 34 (b6 _ _ _ _ (wG m.fr (fun _=>1) 0) _),_] _;rw[FY,FY];exact XM.pick (pk [3,3,1,0,0]) hw) ?_
 ·omega
 intro i hi;have Jv:=hm.lo i;have FP:=T9 v.rf m.fr i.toNat (m.fr i-1);have hrf:=hv.rf (m.fr i-1);refine gC ?_;refine cd rfl ?_ ?_<;>intro h1
 ·refine sd ?_;refine st (.av .aa) (ib _ _ _ _ _ _ _ og _) rfl ?_;refine rq [0,1,2,3,4,5,6,7,8,9,10,11] mixed ?_;refine sd ?_;refine lZ (.av .aa) (Qa _ _ _ _ _ _ _ og) ?_;refine sd ?_;refine gD (.t3 .aa) (rM _ _ _ _ _ _ _ _ _) rfl ⟨rfl,rfl⟩ ?_;refine sd ?_;refine ld (.av .aa) (bO _ _ _ _ _ _ _) ?_;refine cd rfl ?_ ?_<;>intro h2
  ·refine rq [0,1,2,3,4,5,6,7,8,9,10,11,12,13,14,15,16,17,18,19] mixed ?_;refine ld (.av .aa) (b6.zN _ _ _ _ _ _) ?_;refine sd ?_;refine ld (.av .aa) (bO _ _ _ _ _ _ _) ?_;refine sd ?_;refine ld .aa (iP _ _ _ _) ?_;refine sd ?_;refine sd ?_;refine st .aa (lL _ _ _ _ og _) rfl ?_;refine sd ?_;have hU:xV v.rf m.fr (i+1).toNat=ae (xV v.rf m.fr i.toNat) (m.fr i-1) (xV v.rf m.fr i.toNat (m.fr i-1)+1):=by rw[JX hi.1,if_pos og]
   refine ag (i+1) ?_ ?_ (S3 rfl rfl rfl) fun _ hw=>by rw[au (wG (fun _=>false) m.bu i) i false,jt (fun _=>false) i rfl]at hw;show XM _ _ [.cells kb 0 577 (dD pb v.iq (xV v.rf m.fr (i+1).toNat)),_,_,_,_] _;rw[hU,<-uX hi.1 (f:=(fun _=>false)) (g:=m.bu) (v:=false) rfl,<-uX hi.1 (f:=m.fr) (g:=fun _=>1) (v:=m.fr i-1+1)];exact XM.pick (pz 5) hw
   all_goals omega
  ·refine sd ?_;have hU:xV v.rf m.fr (i+1).toNat=xV v.rf m.fr i.toNat:=by rw[JX hi.1,if_neg og]
   refine ag (i+1) ?_ ?_ (S3 rfl rfl rfl) fun _ hw=>by rw[au (wG (fun _=>false) m.bu i) i false,jt (fun _=>false) i rfl]at hw;show XM _ _ [.cells kb 0 577 (dD pb v.iq (xV v.rf m.fr (i+1).toNat)),_,_,_,_] _;rw[hU,<-uX hi.1 (f:=(fun _=>false)) (g:=m.bu) (v:=false) rfl,<-uX hi.1 (f:=m.fr) (g:=fun _=>1) (v:=m.fr i-1+1)];exact XM.pick (pz 5) hw
   all_goals omega
 ·refine ah rfl rfl (ad (pz 5) rfl ?_);have e:i=16:=og;subst e;exact⟨nb,p1,c1,rfl,by rw[rO (f:=wG m.fr (fun _=>1) 16) (f':=m.fr) (o:=(fun _=>false)) (o':=(fun _=>false)) fun i h0 h1=>⟨by unfold wG;rw[if_pos og],rfl⟩,rO (f:=m.fr) (f':=m.fr) (o:=wG (fun _=>false) m.bu 16) (o':=(fun _=>false)) fun i h0 h1=>⟨rfl,by unfold wG;rw[if_pos og]⟩];rfl⟩
def YL(kb pb:Nat)(v:VB)(hv:v.Ok)(f:Int)(hf:0<=f/\f<64)(h1:1<=v.rf f):Spec Tryz.prog 179 [aC kb 0 0,iI f] [.cells kb 0 577 (dD pb v.iq v.rf),.cells pb 0 71 (bL v.bb.fi)] (fun x H1=>x= .tuple #[]/\H1=[.cells kb 0 577 (dD pb (v.drop f).iq (v.drop f).rf),.cells pb 0 71 (bL (v.drop f).bb.fi)]):=by
 have hb:=hv.rf f;apply Spec.go 27 [0,1,20] [] Tryz.func179 rfl rfl rfl;intro W;refine rq [0,1,2,3,4,5,6,7,8,9,10] mixed ?_;refine sd ?_;apply ld .aa (iP _ _ _ _);refine sd ?_;refine sd ?_;apply st .aa (lL _ _ _ _ og _) rfl;refine sd ?_;apply ld .aa (iP _ _ _ _);have e1:ae v.rf f (v.rf f-1) f=v.rf f-1:=au _ _ _;refine cd rfl ?_ ?_<;>intro h1
 ·apply ld .aa (dD.JH _ _ _);refine cq (U4 _ _ _ hv.bb _) (pk [1]) ?_;refine cS rfl (ad (pk [1,0]) rfl ?_);grind [zO]
 ·refine cS rfl (ad (pz 2) rfl ?_);grind [zP]
set_option maxHeartbeats 8000000 in
def Kz(kb pb mb:Nat)(v:VB)(hv:v.Ok)(p:Option Addr)(c:Nat)(m:MS)(hm:m.Ok)(vy:m.In v)(a n:Int):Spec Tryz.prog 107 [aC mb 0 0,iI a,iI n] [.cells kb 0 577 (dD pb v.iq v.rf),.cells pb 0 71 (bL v.bb.fi),.cells mb 0 34 (b6 kb p (aj m.aB).length c m.fr m.bu),aS p c 171 3 (aj m.aB).length (fb (aj m.aB))] (fun x H1=>x= .tuple #[iI (m.fJ v a n).1,az 102 (m.fJ v a n).2.1]/\∃ p2 c2,H1=[.cells kb 0 577 (dD pb (m.fJ v a n).2.2.1.iq (m.fJ v a n).2.2.1.rf),.cells pb 0 71 (bL (m.fJ v a n).2.2.1.bb.fi),.cells mb 0 34 (b6 kb p2 (aj (m.fJ v a n).2.2.2.aB).length c2 (m.fJ v a n).2.2.2.fr (m.fJ v a n).2.2.2.bu),aS p2 c2 171 3 (aj (m.fJ v a n).2.2.2.aB).length (fb (aj (m.fJ v a n).2.2.2.aB))]):=by
 apply Spec.go 59 [0,1,2,6,7,8,9,11,16,21,22,23,24,34] [] Tryz.func107 rfl rfl rfl;intro W;refine cq (MN _ _) .nil ?_;refine cd rfl ?_ ?_<;>intro h1
 ·have hb:gw a n:=by
   simp_all
  refine ao rfl rfl rfl (ad (pz 4) rfl ?_);exact⟨by rw[if_pos hb,rU hb];rfl,p,c,by rw[rU hb]⟩
 ·have hb:¬gw a n:=fun q=>h1 fun q2=>by rw[if_pos q]at q2;omega
  have Cc:=hb;unfold gw at Cc;have hn:0<n:=og;have hL:=qI m.aB;refine ca (OC _ _ _ _ _ hm _ _ hb) (pk [2,2]) ?_;rintro _ _ ⟨p4,c4,p5,c5,rfl,rfl⟩;have Fg:=C5 (aj m.aB) a n;rw[P9 hm.f hb];generalize hq:kM (fun i=>m.aB i != 0) a n.toNat=l;have gh:∀ i∈l,a<=i/\i<a+n:=fun i hi=>by rw[<-hq,ov]at hi;omega
  have sW:l.Pairwise (fun x y=>x<y):=hq▸rL _;have hle:l.length<=16:=by rw[<-hq];have:=FN (p:=fun i=>m.aB i != 0) (a:=a) n.toNat;omega
  apply gO;refine lp (σ:=Int) (fun i=>(l.length-i).toNat) (fun i=>0<=i/\i<=l.length) (fun i=>[(23,iI i),(9,iI (tH v m.fr (l.take i.toNat)).1),(0,aC mb 0 0),(21,.slice p5 l.length c5),(22,iI l.length)]) (fun i=>XM W (bZ [.cells kb 0 577 (dD pb v.iq v.rf),.cells pb 0 71 (bL v.bb.fi),.cells mb 0 34 (b6 kb p (aj m.aB).length c m.fr m.bu),aS p c 171 3 (aj m.aB).length (fb (aj m.aB))]) [.cells kb 0 577 (dD pb (tH v m.fr (l.take i.toNat)).2.iq (tH v m.fr (l.take i.toNat)).2.rf),.cells pb 0 71 (bL (tH v m.fr (l.take i.toNat)).2.bb.fi),.cells mb 0 34 (b6 kb p4 ((aj m.aB).flatMap (lY a n)).length c4 (nX m.fr (l.take i.toNat)) (ek m.bu (l.take i.toNat))),aS p4 c4 171 3 ((aj m.aB).flatMap (lY a n)).length (fb ((aj m.aB).flatMap (lY a n))),db p5 c5 3 l]) (0) ?_ (S5 rfl rfl rfl rfl rfl) (fun _ hw=>by show XM _ _ [_,_,.cells mb 0 34 (b6 kb p4 _ c4 (nX m.fr []) (ek m.bu [])),_,_] _;rw[T7,T8];exact XM.pick (pk [3,3,0,0,0]) hw) ?_
  ·omega
  intro i hi;apply gC;refine cd rfl ?_ ?_<;>intro h2
  ·apply bH (.t4 .aa) og;intro g1 h3;subst h3;refine sd (q9 (.t4 .aa) (ints_at) ?_);have hmm:=rH (l:=l) (i:=i) og;have ha:=gh _ hmm;have G2:=X0 sW (i:=i) og;have e0:nX m.fr (l.take i.toNat) (dg l i)=m.fr (dg l i):=by unfold nX;rw[if_neg G2]
   have hit:=aac (l:=l) (i:=i) og;have hu:=TZ hv hm vy _ (l.take i.toNat) rfl (L5 sW _);have hTl:(l.take i.toNat).length<=16:=by rw[List.length_take];omega
   have Jv:=hm.lo (dg l i);refine sd (ld (.t2 .aa) (bO _ _ _ _ _ _ _) ?_);refine cd rfl ?_ ?_<;>intro h4
   ·have QX:0<m.fr (dg l i):=og;have hrf:1<=(tH v m.fr (l.take i.toNat)).2.rf (nX m.fr (l.take i.toNat) (dg l i)-1):=by
     grind [MS.Ok.inj,MS.In]
    refine rq [0,1,2,3,4,5,6,7,8,9,10,11] mixed (ld (.t2 .aa) (b6.zN _ _ _ _ _ _) (sd (ld (.t2 .aa) (bO _ _ _ _ _ _ _) ?_)));refine cq (YL _ _ _ hu.1 (nX m.fr (l.take i.toNat) (dg l i)-1) og hrf) (pz 2) ?_;refine XO.v (V.build (vs:= #[(0,iI (-1))]) rfl (v:=.agg #[iI (-1),.bool false]) fun _=>kq) rfl (gO ?_);refine sd (gD (.t2 .aa) (rM _ _ _ _ _ _ _ _ _) rfl ⟨rfl,rfl⟩ (sd (sd ?_)));have hS:(tH v m.fr (l.take (i+1).toNat))=((tH v m.fr (l.take i.toNat)).1+1,(tH v m.fr (l.take i.toNat)).2.drop (nX m.fr (l.take i.toNat) (dg l i)-1)):=by rw[hit,CU];unfold unS;rw[if_pos QX,e0]
    have hC:nX m.fr (l.take (i+1).toNat)=ae (nX m.fr (l.take i.toNat)) (dg l i) (-1+1):=by rw[hit,Qf]
    have hF:ek m.bu (l.take (i+1).toNat)=ae (ek m.bu (l.take i.toNat)) (dg l i) false:=by rw[hit,Qg]
    refine ag (i+1) ?_ ?_ (S5 rfl (by show lk _ _=some (iI (tH v m.fr (l.take (i+1).toNat)).1);rw[hS];rfl) rfl rfl rfl) fun _ hw=>by show XM _ _ [.cells kb 0 577 (dD pb (tH v m.fr (l.take (i+1).toNat)).2.iq (tH v m.fr (l.take (i+1).toNat)).2.rf),.cells pb 0 71 (bL (tH v m.fr (l.take (i+1).toNat)).2.bb.fi),.cells mb 0 34 (b6 kb p4 ((aj m.aB).flatMap (lY a n)).length c4 (nX m.fr (l.take (i+1).toNat)) (ek m.bu (l.take (i+1).toNat))),aS p4 c4 171 3 ((aj m.aB).flatMap (lY a n)).length (fb ((aj m.aB).flatMap (lY a n))),_] _;rw[hS,hC,hF];exact XM.pick (pz 5) hw
    all_goals omega
   ·refine sd ?_;have h0:m.fr (dg l i)=0:=og;have hS:(tH v m.fr (l.take (i+1).toNat))=(tH v m.fr (l.take i.toNat)):=by rw[hit,CU];unfold unS;rw[if_neg og]
    have hC:nX m.fr (l.take (i+1).toNat)=nX m.fr (l.take i.toNat):=by rw[hit,Qh h0]
    have hF:ek m.bu (l.take (i+1).toNat)=ek m.bu (l.take i.toNat):=by rw[hit,Qi (hm.ow _ h0)]
    refine ag (i+1) ?_ ?_ (S5 rfl (by show lk _ _=some (iI (tH v m.fr (l.take (i+1).toNat)).1);rw[hS];rfl) rfl rfl rfl) fun _ hw=>by show XM _ _ [.cells kb 0 577 (dD pb (tH v m.fr (l.take (i+1).toNat)).2.iq (tH v m.fr (l.take (i+1).toNat)).2.rf),.cells pb 0 71 (bL (tH v m.fr (l.take (i+1).toNat)).2.bb.fi),.cells mb 0 34 (b6 kb p4 ((aj m.aB).flatMap (lY a n)).length c4 (nX m.fr (l.take (i+1).toNat)) (ek m.bu (l.take (i+1).toNat))),aS p4 c4 171 3 ((aj m.aB).flatMap (lY a n)).length (fb ((aj m.aB).flatMap (lY a n))),_] _;rw[hS,hC,hF];exact XM.pick (pz 5) hw
    all_goals omega
  ·have e:(l.take i.toNat)=l:=List.take_of_length_le og;rw[e];have eu:=JW v hm hb;rw[hq]at eu;refine ca (MO _ _ _ _ _ _ _ _ (hm.f.gR hb (.inl rfl)) (FM (jD hm.f) hn) (CO (jD hm.f) (oT hm.f) hn) (by first | omega | (simp only[List.length_append,List.length_singleton];omega))) (pk [2,2]) ?_;rintro _ _ ⟨rfl,p2,c2,rfl⟩;apply gO;refine ao rfl rfl rfl (ad (pk [2,2,0,0]) rfl ?_);exact⟨by rw[eu];rfl,p2,c2,by rw[eu]⟩
end Go.X.Vm

namespace Go.X.Kn
open Go Go.Proofs Go.X Go.X.Sg
set_option maxRecDepth 20000
set_option maxHeartbeats 4000000
def kE:jw Tryz.prog 3=true:=kq
def nI:fk Tryz.prog 3=some 1:=kq
def vi(kb:Nat)(k:KP)(n:Int)(hn:0<=n/\n<20):Spec Tryz.prog 58 [aC kb 0 (jG n)] [.cells kb 0 453 (aF k)] (fun v H1=>∃ c,v=aC c 0 0/\H1=[.cells c 0 11 (Sg.fu (k.u n).bx.bA),.cells kb 0 453 (aF k)]):=by
 apply Spec.go 8 [0,2,3] [] Tryz.func58 rfl rfl rfl;intro W;refine lZ .aa (JR _ og) (XO.bN (z:=.agg #[.int .u16 0,.int .u16 0,iI 0,iI 0,iI 0,iI 0,iI 0,iI 0,iI 0,iI 0,iI 0]) (m:=11) (C:=Sg.fu BS.cP) kq rfl PT rfl ?_);intro c;apply gO;refine gD .aa (Th Jj _) rfl ⟨rfl,rfl⟩ (st .aa (uN _ (w':=fun _=>false) rfl) rfl (ah rfl rfl (ad (pz 2) rfl ?_)));exact⟨c,rfl,rfl⟩
def OE:nq Tryz.prog 39=true:=kq
def BR:fk Tryz.prog 39=some 2:=kq
def aau:nq Tryz.prog 83=true:=kq
def Gf:nq Tryz.prog 87=true:=kq
def OF:cV Tryz.prog 57=true:=kq
def Gg:cV Tryz.prog 58=true:=kq
def HW:eC Tryz.prog 89 2=some 2:=kq
def HX:eC Tryz.prog 89 4=some 4:=kq
def OG:eC Tryz.prog 89 5=some 5:=kq
def OH:eC Tryz.prog 89 6=some 11:=kq
def Vc:jw Tryz.prog 82=true:=kq
def OJ:fk Tryz.prog 83=some 6:=kq
def qU:fk Tryz.prog 87=some 11:=kq
def qV:fk Tryz.prog 89=some 22:=kq
def oA(n g:Int)(nb:Nat)(f:Int->Int)(b:BS):∀ w,(Instr.build 89 #[(0,iI 1),(1,iI n),(2,iI g),(4,aC nb 0 0),(5,.agg (RN f)),(6,.agg (X1 b))]).run Tryz.prog w= .ok (.agg (PU.cO ⟨1,n,g,0,aC nb 0 0,f,b⟩)) w:=fun w=>kq
end Go.X.Kn

namespace Go.X.Tr
open Go Go.X
variable{p0 p1:Nat}
structure bh.U where
 aU:Int
 n:Int
 at_:Int
 cg:Bool
 cG:Int
def bh.un(s:OS)(z:Int):bh.U:=⟨s.aU z,s.n z,s.at_ z,s.cg z,s.cG z⟩
def bh.cell(u:bh.U)(j:Nat):Value:=
 if j=0 then iI u.aU else
 if j=1 then iI u.n else
 if j=2 then iI u.at_ else
 if j=3 then .bool u.cg else
 if j=4 then iI u.cG else
 undef
def bh(p0 p1:Nat)(s:OS)(i:Nat):Value:=
 if i=0 then aC p0 0 0 else
 if i=1 then aC p1 0 0 else
 if i<122 then bh.cell (bh.un s (((i-2)/5:Nat):Int)) ((i-2)%5)else
 undef
def qW(s:OS):0+0<122/\bh p0 p1 s (0+0)=aC p0 0 0:=by grind [bh]
def bh.JH(s:OS):0+1<122/\bh p0 p1 s (0+1)=aC p1 0 0:=by grind [bh]
theorem bh.at_(s:OS)(z:Int)(h:0<=z/\z<24)(j:Nat)(hj:j<5):bh p0 p1 s (0+2+z.toNat*5+j)=bh.cell (bh.un s z) j:=by
 unfold bh;grind
theorem bh.set(s s':OS)(z:Int)(h:0<=z/\z<24)(k:Nat)(hk:k<5)(v:Value)(hv:∀ j,bh.cell (bh.un s' z) j=if j=k then v else bh.cell (bh.un s z) j)(ho:∀ y,¬y=z->bh.un s' y=bh.un s y):0+2+z.toNat*5+k<122/\dE (bh p0 p1 s) (0+2+z.toNat*5+k) v=bh p0 p1 s':=by
 refine⟨og,?_⟩;funext i;grind [dE,bh]
def bh.SU(s s':OS)(z:Int)(h:0<=z/\z<24)(vs:List Value)(hl:vs.length=5)(hv:∀ j,j<5->vs[j]? =some (bh.cell (bh.un s' z) j))(ho:∀ y,¬y=z->bh.un s' y=bh.un s y):0+2+z.toNat*5+5<=122/\cB (bh p0 p1 s) (0+2+z.toNat*5) vs=bh p0 p1 s':=by
 refine⟨og,?_⟩;funext i;by_cases a1:i<0+2+z.toNat*5
 ·grind [iL,bh]
 ·by_cases a2:i<0+2+z.toNat*5+5
  ·obtain⟨j,rfl⟩:∃ j,i=0+2+z.toNat*5+j:=⟨i-(0+2+z.toNat*5),og⟩;rw[bh.at_ s' z h j og];simp_all[fQ]
  grind [jm,bh]
def lV(s:OS)(z:Int)(h:0<=z/\z<24:=by omega):0+2+z.toNat*5+0<122/\bh p0 p1 s (0+2+z.toNat*5+0)=iI (s.aU z):=⟨og,bh.at_ s z h 0 og⟩
def pO(s:OS)(z:Int)(h:0<=z/\z<24:=by omega):0+2+z.toNat*5+1<122/\bh p0 p1 s (0+2+z.toNat*5+1)=iI (s.n z):=⟨og,bh.at_ s z h 1 og⟩
def nZ(s:OS)(z:Int)(h:0<=z/\z<24:=by omega):0+2+z.toNat*5+2<122/\bh p0 p1 s (0+2+z.toNat*5+2)=iI (s.at_ z):=⟨og,bh.at_ s z h 2 og⟩
def bh.HY(s:OS)(z:Int)(h:0<=z/\z<24)(v:Int):0+2+z.toNat*5+2<122/\dE (bh p0 p1 s) (0+2+z.toNat*5+2) (iI v)=bh p0 p1 {s with at_:=ae s.at_ z v} :=bh.set s {s with at_:=ae s.at_ z v} z h 2 og _ (fun j=>by
 have e:bh.un {s with at_:=ae s.at_ z v} z= {bh.un s z with at_:=v} :=by unfold bh.un;simp only[au]
 rw[e]
 by_cases hj:j=2
 ·subst hj;rfl
 ·unfold bh.cell;simp only[if_neg hj]) fun y hy=>by unfold bh.un;simp only[ai _ _ hy]
def Bq(s:OS)(z:Int)(h:0<=z/\z<24):0+2+z.toNat*5+3<122/\bh p0 p1 s (0+2+z.toNat*5+3)= .bool (s.cg z):=⟨og,bh.at_ s z h 3 og⟩
def j8(s:OS)(z:Int)(h:0<=z/\z<24:=by omega):0+2+z.toNat*5+4<122/\bh p0 p1 s (0+2+z.toNat*5+4)=iI (s.cG z):=⟨og,bh.at_ s z h 4 og⟩
def uj(s:OS)(z:Int)(h:0<=z/\z<24)(v:Int):0+2+z.toNat*5+4<122/\dE (bh p0 p1 s) (0+2+z.toNat*5+4) (iI v)=bh p0 p1 {s with cG:=ae s.cG z v} :=bh.set s {s with cG:=ae s.cG z v} z h 4 og _ (fun j=>by
 have e:bh.un {s with cG:=ae s.cG z v} z= {bh.un s z with cG:=v} :=by unfold bh.un;simp only[au]
 rw[e]
 by_cases hj:j=4
 ·subst hj;rfl
 ·unfold bh.cell;simp only[if_neg hj]) fun y hy=>by unfold bh.un;simp only[ai _ _ hy]
def bh.cO(u:bh.U):Array Value:= #[iI u.aU,iI u.n,iI u.at_,.bool u.cg,iI u.cG]
def bh.Ly(s:OS)(z:Int)(h:0<=z/\z<24):0+2+z.toNat*5+5<=122/\dc (bh p0 p1 s) (0+2+z.toNat*5) 5= .agg (bh.cO (bh.un s z)):=by
 refine⟨og,?_⟩;have q:=fun j hj=>bh.at_ (p0:=p0) (p1:=p1) s z h j hj;simp only[dc,List.range,List.range.loop,List.map_cons,List.map_nil];rw[q 0 og,q 1 og,q 2 og,q 3 og,q 4 og];rfl
theorem bh.box(u:bh.U):∀ i,i<5->cellsOf (bh.cO u) i=bh.cell u i:=fun i h=>match i,h with
 | 0,_=>rfl
 | 1,_=>rfl
 | 2,_=>rfl
 | 3,_=>rfl
 | 4,_=>rfl
 | j+5,h=>absurd h og
def Vd(u0 u:bh.U):0+5<=5/\cB (bh.cell u0) 0 (bh.cO u).toList=bh.cell u:=by
 refine⟨og,?_⟩;funext i;match i with
 | 0=>rfl
 | 1=>rfl
 | 2=>rfl
 | 3=>rfl
 | 4=>rfl
 | k+5=>
  have e1:∀ u:bh.U,bh.cell u (k+5)=undef:=fun u=>by unfold bh.cell;iterate 5 rw[if_neg og]
  have e2:cB (bh.cell u0) 0 (bh.cO u).toList (k+5)=bh.cell u0 (k+5):=by simp[cB,dE,bh.cO]
  rw[e2,e1,e1]
def KD(u:bh.U):0+0<5/\bh.cell u (0+0)=iI u.aU:=⟨og,rfl⟩
def KE(u:bh.U):0+1<5/\bh.cell u (0+1)=iI u.n:=⟨og,rfl⟩
theorem bh.put(s:OS)(z k n:Int)(w:Bool)(r:Int)(h:0<=z/\z<24):0+2+z.toNat*5+5<=122/\cB (bh p0 p1 s) (0+2+z.toNat*5) (bh.cO ⟨k,n,0,w,r⟩).toList=bh p0 p1 ⟨ae s.aU z k,ae s.n z n,ae s.at_ z 0,ae s.cG z r,ae s.cg z w⟩:=
 bh.SU s ⟨ae s.aU z k,ae s.n z n,ae s.at_ z 0,ae s.cG z r,ae s.cg z w⟩ z h _ rfl (fun j hj=>by
  have e:bh.un ⟨ae s.aU z k,ae s.n z n,ae s.at_ z 0,ae s.cG z r,ae s.cg z w⟩ z=⟨k,n,0,w,r⟩:=by unfold bh.un;simp only[au]
  rw[e]
  match j,hj with
  | 0,_=>rfl
  | 1,_=>rfl
  | 2,_=>rfl
  | 3,_=>rfl
  | 4,_=>rfl
  | j+5,h=>exact absurd h og) fun y hy=>by unfold bh.un;simp only[ai _ _ hy]
end Go.X.Tr


namespace Go.Proofs
open Go.Shelf
def DI:Go.Shelf.Ren:=⟨fun | 26=>249 | 33=>266 | 34=>267 | 38=>280 | n=>n,fun | 24=>207 | 9=>9 | 3=>3 | 4=>4 | 40=>258 | 0=>0 | n=>n,fun | n=>n⟩
def MP:Go.Proofs.Lays2.n26 Tryz.prog DI:= {
 mixed:=by kernel_rfl
 f26:=Tryz.func249.trans (congrArg some (by kernel_rfl))
 f33:=Tryz.func266.trans (congrArg some (by kernel_rfl))
 f34:=Tryz.func267.trans (congrArg some (by kernel_rfl))
 f38:=Tryz.func280.trans (congrArg some (by kernel_rfl))
 t0:=Tryz.underlying0
 a0:=Tryz.isAgg0
 z0:=Tryz.sizeOf0
 v0:=Tryz.zeroValue0
 t3:=Tryz.underlying3
 a3:=Tryz.isAgg3
 z3:=Tryz.sizeOf3
 v3:=Tryz.zeroValue3
 t4:=Tryz.underlying4
 a4:=Tryz.isAgg4
 z4:=Tryz.sizeOf4
 v4:=Tryz.zeroValue4
 t9:=Tryz.underlying9
 a9:=Tryz.isAgg9
 z9:=Tryz.sizeOf9
 v9:=Tryz.zeroValue9
 t24:=Tryz.underlying207
 a24:=Tryz.isAgg207
 z24:=Tryz.sizeOf207
 v24:=Tryz.zeroValue207
 t40:=Tryz.underlying258
 a40:=Tryz.isAgg258
 z40:=Tryz.sizeOf258
 v40:=Tryz.zeroValue258}
def DJ:Go.Shelf.Ren:=⟨fun | 22=>250 | 29=>268 | 30=>269 | 36=>281 | 17=>288 | n=>n,fun | 24=>207 | 9=>9 | 3=>3 | 4=>4 | 0=>0 | n=>n,fun | n=>n⟩
def MQ:Go.Proofs.Lays2.n22 Tryz.prog DJ:= {
 mixed:=by kernel_rfl
 f17:=Tryz.func288.trans (congrArg some (by kernel_rfl))
 f22:=Tryz.func250.trans (congrArg some (by kernel_rfl))
 f29:=Tryz.func268.trans (congrArg some (by kernel_rfl))
 f30:=Tryz.func269.trans (congrArg some (by kernel_rfl))
 f36:=Tryz.func281.trans (congrArg some (by kernel_rfl))
 t0:=Tryz.underlying0
 a0:=Tryz.isAgg0
 z0:=Tryz.sizeOf0
 v0:=Tryz.zeroValue0
 t3:=Tryz.underlying3
 a3:=Tryz.isAgg3
 z3:=Tryz.sizeOf3
 v3:=Tryz.zeroValue3
 t4:=Tryz.underlying4
 a4:=Tryz.isAgg4
 z4:=Tryz.sizeOf4
 v4:=Tryz.zeroValue4
 t9:=Tryz.underlying9
 a9:=Tryz.isAgg9
 z9:=Tryz.sizeOf9
 v9:=Tryz.zeroValue9
 t24:=Tryz.underlying207
 a24:=Tryz.isAgg207
 z24:=Tryz.sizeOf207
 v24:=Tryz.zeroValue207
 i9:=by kernel_rfl}
def DK:Go.Shelf.Ren:=⟨fun | 21=>251 | 27=>270 | 28=>271 | 35=>282 | 39=>289 | n=>n,fun | 22=>55 | 3=>3 | 4=>4 | 0=>0 | n=>n,fun | n=>n⟩
def MR:Go.Proofs.Lays2.n21 Tryz.prog DK:= {
 mixed:=by kernel_rfl
 f21:=Tryz.func251.trans (congrArg some (by kernel_rfl))
 f27:=Tryz.func270.trans (congrArg some (by kernel_rfl))
 f28:=Tryz.func271.trans (congrArg some (by kernel_rfl))
 f35:=Tryz.func282.trans (congrArg some (by kernel_rfl))
 f39:=Tryz.func289.trans (congrArg some (by kernel_rfl))
 t0:=Tryz.underlying0
 a0:=Tryz.isAgg0
 z0:=Tryz.sizeOf0
 v0:=Tryz.zeroValue0
 t3:=Tryz.underlying3
 a3:=Tryz.isAgg3
 z3:=Tryz.sizeOf3
 v3:=Tryz.zeroValue3
 t4:=Tryz.underlying4
 a4:=Tryz.isAgg4
 z4:=Tryz.sizeOf4
 v4:=Tryz.zeroValue4
 t22:=Tryz.underlying55
 a22:=Tryz.isAgg55
 z22:=Tryz.sizeOf55
 v22:=Tryz.zeroValue55
 i3:=by kernel_rfl}
def DL:Go.Shelf.Ren:=⟨fun | 24=>252 | n=>n,fun | 24=>207 | 9=>9 | 3=>3 | 4=>4 | 0=>0 | n=>n,fun | n=>n⟩
def MU:Go.Proofs.Lays2.n24 Tryz.prog DL:= {
 mixed:=by kernel_rfl
 f24:=Tryz.func252.trans (congrArg some (by kernel_rfl))
 t0:=Tryz.underlying0
 a0:=Tryz.isAgg0
 z0:=Tryz.sizeOf0
 v0:=Tryz.zeroValue0
 t3:=Tryz.underlying3
 a3:=Tryz.isAgg3
 z3:=Tryz.sizeOf3
 v3:=Tryz.zeroValue3
 t4:=Tryz.underlying4
 a4:=Tryz.isAgg4
 z4:=Tryz.sizeOf4
 v4:=Tryz.zeroValue4
 t9:=Tryz.underlying9
 a9:=Tryz.isAgg9
 z9:=Tryz.sizeOf9
 v9:=Tryz.zeroValue9
 t24:=Tryz.underlying207
 a24:=Tryz.isAgg207
 z24:=Tryz.sizeOf207
 v24:=Tryz.zeroValue207
 i9:=by kernel_rfl}
def DM:Go.Shelf.Ren:=⟨fun | 23=>253 | n=>n,fun | 22=>55 | 3=>3 | 4=>4 | 0=>0 | n=>n,fun | n=>n⟩
def MV:Go.Proofs.Lays2.n23 Tryz.prog DM:= {
 mixed:=by kernel_rfl
 f23:=Tryz.func253.trans (congrArg some (by kernel_rfl))
 t0:=Tryz.underlying0
 a0:=Tryz.isAgg0
 z0:=Tryz.sizeOf0
 v0:=Tryz.zeroValue0
 t3:=Tryz.underlying3
 a3:=Tryz.isAgg3
 z3:=Tryz.sizeOf3
 v3:=Tryz.zeroValue3
 t4:=Tryz.underlying4
 a4:=Tryz.isAgg4
 z4:=Tryz.sizeOf4
 v4:=Tryz.zeroValue4
 t22:=Tryz.underlying55
 a22:=Tryz.isAgg55
 z22:=Tryz.sizeOf55
 v22:=Tryz.zeroValue55
 i3:=by kernel_rfl}
def EX:Go.Shelf.Ren:=⟨fun | 16=>240 | n=>n,fun | 24=>207 | 9=>9 | 4=>4 | n=>n,fun | n=>n⟩
def Q4:Go.Proofs.Lays2.n16 Tryz.prog EX:= {
 mixed:=by kernel_rfl
 f16:=Tryz.func240.trans (congrArg some (by kernel_rfl))
 t4:=Tryz.underlying4
 a4:=Tryz.isAgg4
 z4:=Tryz.sizeOf4
 v4:=Tryz.zeroValue4
 t9:=Tryz.underlying9
 a9:=Tryz.isAgg9
 z9:=Tryz.sizeOf9
 v9:=Tryz.zeroValue9
 t24:=Tryz.underlying207
 a24:=Tryz.isAgg207
 z24:=Tryz.sizeOf207
 v24:=Tryz.zeroValue207
 i9:=by kernel_rfl}
end Go.Proofs
