import Derived.Test.YthdinakloheinaaGreatDoorkVW4
import Derived.Shelf.Lays2
import Derived.Ground.Names2Prog
set_option linter.all false
namespace Go.X.Vm
open Go Go.Proofs Go.X
set_option maxRecDepth 20000
set_option maxHeartbeats 4000000
def adp:cX Tryz.prog 124=true:=kq
def Wi:eI Tryz.prog 145 0=some 0:=kq
def Wj:eI Tryz.prog 145 1=some 1:=kq
def adq:jR Tryz.prog 140=true:=kq
def ago:jR Tryz.prog 94=true:=kq
def aa8(kb mb:Nat)(p:Option Addr)(c:Nat)(m:MS)(hm:m.Ok)(a:Int)(w:Bool):Spec Tryz.prog 199 [az mb 0 0,iI a,.bool w] [.cells mb 0 34 (b6 kb p (ai m.ax).length c m.fr m.aX),aM p c 171 3 (ai m.ax).length (fh (ai m.ax))] (fun x H1=>x= .bool (m.sm a w)/\H1=[.cells mb 0 34 (b6 kb p (ai m.ax).length c m.fr m.aX),aM p c 171 3 (ai m.ax).length (fh (ai m.ax))]):=by
 refine Spec.go 34 [0,1,2,6,7,13] [] Tryz.func199 fun W=> ?_;refine sp 10 rfl ?_ ?_<;>intro h1
 ·refine bI (pz 2) ?_;first | exact⟨by rw[jr];rfl,rfl⟩ | (refine⟨?_,rfl⟩;rw[oG hm hk];first | (rw[decide_eq_false (p:=0<=k) og];rfl) | (rw[decide_eq_true (p:=0<=k) og];cases w<;>first | rfl | contradiction))
 ·refine cd ?_ ?_<;>intro h2
  ·refine bI (pz 2) ?_;first | exact⟨by rw[jr];rfl,rfl⟩ | (refine⟨?_,rfl⟩;rw[oG hm hk];first | (rw[decide_eq_false (p:=0<=k) og];rfl) | (rw[decide_eq_true (p:=0<=k) og];cases w<;>first | rfl | contradiction))
  ·refine XO.v (V.quo rfl rfl (by first | decide | omega) _ (tB)) rfl (gO ?_);refine ca (Zs _ _ _ _ _ hm _) (pz 2) ?_;rintro _ _ ⟨⟨k,rfl,hk⟩,rfl⟩;have hrn:k<(ai m.ax).length:=by rcases hk with⟨rfl,_⟩ | ⟨q,_⟩<;>omega
   refine gO ?_;refine sp 20 rfl ?_ ?_<;>intro h3
   ·refine P9 23 rfl ?_ ?_<;>intro h4
    ·try simp only[sb]at h4
     try(refine bR (.ao .aa) og ?_;intro g1 hg1;subst hg1)
     refine bI (pz 2) ?_;first | exact⟨by rw[jr];rfl,rfl⟩ | (refine⟨?_,rfl⟩;rw[oG hm hk];first | (rw[decide_eq_false (p:=0<=k) og];rfl) | (rw[decide_eq_true (p:=0<=k) og];cases w<;>first | rfl | contradiction))
    ·try simp only[sb]at h4
     refine ld .aa (lI _ _ _ _ _ _) ?_;try(refine bR (.ao .aa) og ?_;intro g1 hg1;subst hg1)
     refine sd ?_;refine XV (.ao .aa) (fh.w og) ?_;refine bI (pz 2) ?_;first | exact⟨by rw[jr];rfl,rfl⟩ | (refine⟨?_,rfl⟩;rw[oG hm hk];first | (rw[decide_eq_false (p:=0<=k) og];rfl) | (rw[decide_eq_true (p:=0<=k) og];cases w<;>first | rfl | contradiction))
   ·try(refine bR (.ao .aa) og ?_;intro g1 hg1;subst hg1)
    refine bI (pz 2) ?_;first | exact⟨by rw[jr];rfl,rfl⟩ | (refine⟨?_,rfl⟩;rw[oG hm hk];first | (rw[decide_eq_false (p:=0<=k) og];rfl) | (rw[decide_eq_true (p:=0<=k) og];cases w<;>first | rfl | contradiction))
def Zu(kb mb:Nat)(p:Option Addr)(c:Nat)(m:MS)(hm:m.Ok)(a:Int):Spec Tryz.prog 200 [az mb 0 0,iI a] [.cells mb 0 34 (b6 kb p (ai m.ax).length c m.fr m.aX),aM p c 171 3 (ai m.ax).length (fh (ai m.ax))] (fun x H1=>x= .bool (m.l5 a)/\H1=[.cells mb 0 34 (b6 kb p (ai m.ax).length c m.fr m.aX),aM p c 171 3 (ai m.ax).length (fh (ai m.ax))]):=by
 refine Spec.go 29 [0,1,4] [] Tryz.func200 fun W=> ?_;refine sp 7 rfl ?_ ?_<;>intro h1
 ·refine sp 11 rfl ?_ ?_<;>intro h2
  ·refine XO.v (V.quo rfl rfl (by first | decide | omega) _ (tB)) rfl (gO ?_);refine ca (Zs _ _ _ _ _ hm _) (pz 2) ?_;rintro _ _ ⟨⟨k,rfl,hk⟩,rfl⟩;refine gO ?_;refine sp 18 rfl ?_ ?_<;>intro h3
   ·refine XO.v (V.quo rfl rfl (by first | decide | omega) _ (tB)) rfl (gO ?_);refine sd ?_;refine ld .aa (bS _ _ _ _ _ _ _) ?_;refine bI (pz 2) ?_;first | exact⟨by unfold MS.l5;rw[jr];rfl,rfl⟩ | (refine⟨?_,rfl⟩;rw[pU hm hk];first | (rw[decide_eq_false (p:=0<=k) og];rfl) | (rw[decide_eq_true (p:=0<=k) og];rfl))
   ·refine bI (pz 2) ?_;first | exact⟨by unfold MS.l5;rw[jr];rfl,rfl⟩ | (refine⟨?_,rfl⟩;rw[pU hm hk];first | (rw[decide_eq_false (p:=0<=k) og];rfl) | (rw[decide_eq_true (p:=0<=k) og];rfl))
  ·refine bI (pz 2) ?_;first | exact⟨by unfold MS.l5;rw[jr];rfl,rfl⟩ | (refine⟨?_,rfl⟩;rw[pU hm hk];first | (rw[decide_eq_false (p:=0<=k) og];rfl) | (rw[decide_eq_true (p:=0<=k) og];rfl))
 ·refine bI (pz 2) ?_;first | exact⟨by unfold MS.l5;rw[jr];rfl,rfl⟩ | (refine⟨?_,rfl⟩;rw[pU hm hk];first | (rw[decide_eq_false (p:=0<=k) og];rfl) | (rw[decide_eq_true (p:=0<=k) og];rfl))
set_option maxHeartbeats 8000000 in
def Pp(kb pb mb:Nat)(v:VB)(hv:v.Ok)(p:Option Addr)(c:Nat)(m:MS)(hm:m.Ok)(a:Int)(w:Bool):Spec Tryz.prog 202 [az mb 0 0,iI a,.bool w] [.cells kb 0 577 (dM pb v.fR v.rf),.cells pb 0 71 (bO v.bb.fp),.cells mb 0 34 (b6 kb p (ai m.ax).length c m.fr m.aX),aM p c 171 3 (ai m.ax).length (fh (ai m.ax)),.ro 1 0 64 gL] (fun x H1=>x= .tuple #[iI (m.bF v a w).1,ay 102 (m.bF v a w).2.1]/\H1=[.cells kb 0 577 (dM pb (m.bF v a w).2.2.1.fR (m.bF v a w).2.2.1.rf),.cells pb 0 71 (bO (m.bF v a w).2.2.1.bb.fp),.cells mb 0 34 (b6 kb p (ai m.ax).length c (m.bF v a w).2.2.2.fr (m.bF v a w).2.2.2.aX),aM p c 171 3 (ai m.ax).length (fh (ai m.ax))]):=by
  refine Spec.go 123 [0,1,2,6,7,8,9,10,11,12,17,25,40,46,79,114] [] Tryz.func202 fun W=> ?_
  refine cq (aa8 _ _ _ _ _ hm _ _) (pk [2,2]) ?_
  refine wM ?_ ?_<;>intro h1
  · try simp only[sb]at h1
    have eD:m.sm a w=false:=by simpa using h1
    refine bA rfl rfl rfl (ah (pk [2,2,0,0]) rfl ?_)
    first
      | (rw[ix eD];exact⟨rfl,rfl⟩)
      | (rw[fv eD h0 ht];exact⟨rfl,by rw[iC.2]⟩)
      | (rw[iy eD h0 ht];exact⟨by show Value.tuple #[iI (ad m.fr (a/8) (v.take.1+1) (a/8)-1),_]=_;rw[aj,show v.take.1+1-1=v.take.1 from og];rfl,rfl⟩)
      | (rw[gu eD h0 (by first | assumption | omega | (simp_all;done)) (by first | assumption | omega | (simp_all;done)) og ht];exact⟨rfl,by rw[iC.2]⟩)
      | (rw[fM eD h0 (by first | assumption | omega | (simp_all;done)) (by first | assumption | omega | (simp_all;done)) og ht];exact⟨by show Value.tuple #[iI (ad m.fr (a/8) (v.take.1+1) (a/8)-1),_]=_;rw[aj,show v.take.1+1-1=v.take.1 from og];rfl,rfl⟩)
      | (rw[MS.kD eD h0 (by first | assumption | omega | (simp_all;done)) (by first | assumption | omega | (simp_all;done)) og];exact⟨rfl,rfl⟩)
      | (have q:w=false:=by first | assumption | omega | (simp_all;done)
         rw[cZ eD h0 (.inl q)];exact⟨rfl,rfl⟩)
      | (have q:m.aX (a/8)=true:=by first | assumption | omega | (simp_all;done)
         rw[cZ eD h0 (.inr q)];first | exact⟨rfl,rfl⟩ | (rw[jG m.aX (a/8) q];exact⟨rfl,rfl⟩))
      | (exfalso;(first | assumption | omega | (simp_all;done)))
  · try simp only[sb]at h1
    have eD:m.sm a w=true:=by simpa using h1
    have ha:=MS.kB eD
    have Ix:=hm.lo (a/8)
    refine XO.v (V.quo rfl rfl (by first | decide | omega) _ (tB)) rfl (gO ?_)
    refine sd ?_
    refine ld .aa (bS _ _ _ _ _ _ _) ?_
    refine cd ?_ ?_<;>intro h2
    · skip
      have h0:m.fr (a/8)=0:=og
      refine ld .aa (b6.Ad _ _ _ _ _ _) ?_
      refine Iv 2 (Wd _ _ _ hv) (pk [2,2,2]) rfl ?_
      refine cd ?_ ?_<;>intro h3
      · skip
        have ht:=h3
        have iC:=Bg ht
        refine bA rfl rfl rfl (ah (pk [0,0,1,1]) rfl ?_)
        first
          | (rw[ix eD];exact⟨rfl,rfl⟩)
          | (rw[fv eD h0 ht];exact⟨rfl,by rw[iC.2]⟩)
          | (rw[iy eD h0 ht];exact⟨by show Value.tuple #[iI (ad m.fr (a/8) (v.take.1+1) (a/8)-1),_]=_;rw[aj,show v.take.1+1-1=v.take.1 from og];rfl,rfl⟩)
          | (rw[gu eD h0 (by first | assumption | omega | (simp_all;done)) (by first | assumption | omega | (simp_all;done)) og ht];exact⟨rfl,by rw[iC.2]⟩)
          | (rw[fM eD h0 (by first | assumption | omega | (simp_all;done)) (by first | assumption | omega | (simp_all;done)) og ht];exact⟨by show Value.tuple #[iI (ad m.fr (a/8) (v.take.1+1) (a/8)-1),_]=_;rw[aj,show v.take.1+1-1=v.take.1 from og];rfl,rfl⟩)
          | (rw[MS.kD eD h0 (by first | assumption | omega | (simp_all;done)) (by first | assumption | omega | (simp_all;done)) og];exact⟨rfl,rfl⟩)
          | (have q:w=false:=by first | assumption | omega | (simp_all;done)
             rw[cZ eD h0 (.inl q)];exact⟨rfl,rfl⟩)
          | (have q:m.aX (a/8)=true:=by first | assumption | omega | (simp_all;done)
             rw[cZ eD h0 (.inr q)];first | exact⟨rfl,rfl⟩ | (rw[jG m.aX (a/8) q];exact⟨rfl,rfl⟩))
          | (exfalso;(first | assumption | omega | (simp_all;done)))
      · skip
        have ht:v.take.2.1=0:=og
        have htr:=ny hv ht
        refine XO.v (V.build (vs:= #[(0,iI v.take.1),(1,.bool true)]) rfl (v:=.agg #[iI v.take.1,.bool true]) fun _=>kq) rfl (gO ?_)
        refine gn (.t3 .aa) (sn _ _ _ _ _ _ _ _ _) rfl ⟨rfl,rfl⟩ ?_
        refine ld (.t3 .aa) (bS _ _ _ _ _ _ _) ?_
        refine bA rfl rfl rfl (ah (pk [0,0,1,1]) rfl ?_)
        first
          | (rw[ix eD];exact⟨rfl,rfl⟩)
          | (rw[fv eD h0 ht];exact⟨rfl,by rw[iC.2]⟩)
          | (rw[iy eD h0 ht];exact⟨by show Value.tuple #[iI (ad m.fr (a/8) (v.take.1+1) (a/8)-1),_]=_;rw[aj,show v.take.1+1-1=v.take.1 from og];rfl,rfl⟩)
          | (rw[gu eD h0 (by first | assumption | omega | (simp_all;done)) (by first | assumption | omega | (simp_all;done)) og ht];exact⟨rfl,by rw[iC.2]⟩)
          | (rw[fM eD h0 (by first | assumption | omega | (simp_all;done)) (by first | assumption | omega | (simp_all;done)) og ht];exact⟨by show Value.tuple #[iI (ad m.fr (a/8) (v.take.1+1) (a/8)-1),_]=_;rw[aj,show v.take.1+1-1=v.take.1 from og];rfl,rfl⟩)
          | (rw[MS.kD eD h0 (by first | assumption | omega | (simp_all;done)) (by first | assumption | omega | (simp_all;done)) og];exact⟨rfl,rfl⟩)
          | (have q:w=false:=by first | assumption | omega | (simp_all;done)
             rw[cZ eD h0 (.inl q)];exact⟨rfl,rfl⟩)
          | (have q:m.aX (a/8)=true:=by first | assumption | omega | (simp_all;done)
             rw[cZ eD h0 (.inr q)];first | exact⟨rfl,rfl⟩ | (rw[jG m.aX (a/8) q];exact⟨rfl,rfl⟩))
          | (exfalso;(first | assumption | omega | (simp_all;done)))
    · skip
      have h0:¬m.fr (a/8)=0:=og
      refine rq [0,1,2,3,4,5,6,7,8,9,10,11,12,13,14,15,16,17,18,19,20,21,22,23] mixed ?_
      refine P9 48 rfl ?_ ?_<;>intro h4
      · try simp only[sb]at h4
        refine ld .aa (yq _ _ _ _ _ _ _ og) ?_
        refine P9 55 rfl ?_ ?_<;>intro h5
        · try simp only[sb]at h5
          refine ld .aa (b6.Ad _ _ _ _ _ _) ?_
          refine ld .aa (bS _ _ _ _ _ _ _) ?_
          refine sd ?_
          refine ld (.t2 .aa) (iY _ _ _ _) ?_
          refine cd ?_ ?_<;>intro h6
          · skip
            refine ld .aa (b6.Ad _ _ _ _ _ _) ?_
            refine Iv 2 (Wd _ _ _ hv) (pk [2,2,2]) rfl ?_
            refine cd ?_ ?_<;>intro h7
            · skip
              have ht:=h7
              have iC:=Bg ht
              refine bA rfl rfl rfl (ah (pk [0,0,1,1]) rfl ?_)
              first
                | (rw[ix eD];exact⟨rfl,rfl⟩)
                | (rw[fv eD h0 ht];exact⟨rfl,by rw[iC.2]⟩)
                | (rw[iy eD h0 ht];exact⟨by show Value.tuple #[iI (ad m.fr (a/8) (v.take.1+1) (a/8)-1),_]=_;rw[aj,show v.take.1+1-1=v.take.1 from og];rfl,rfl⟩)
                | (rw[gu eD h0 (by first | assumption | omega | (simp_all;done)) (by first | assumption | omega | (simp_all;done)) og ht];exact⟨rfl,by rw[iC.2]⟩)
                | (rw[fM eD h0 (by first | assumption | omega | (simp_all;done)) (by first | assumption | omega | (simp_all;done)) og ht];exact⟨by show Value.tuple #[iI (ad m.fr (a/8) (v.take.1+1) (a/8)-1),_]=_;rw[aj,show v.take.1+1-1=v.take.1 from og];rfl,rfl⟩)
                | (rw[MS.kD eD h0 (by first | assumption | omega | (simp_all;done)) (by first | assumption | omega | (simp_all;done)) og];exact⟨rfl,rfl⟩)
                | (have q:w=false:=by first | assumption | omega | (simp_all;done)
                   rw[cZ eD h0 (.inl q)];exact⟨rfl,rfl⟩)
                | (have q:m.aX (a/8)=true:=by first | assumption | omega | (simp_all;done)
                   rw[cZ eD h0 (.inr q)];first | exact⟨rfl,rfl⟩ | (rw[jG m.aX (a/8) q];exact⟨rfl,rfl⟩))
                | (exfalso;(first | assumption | omega | (simp_all;done)))
            · skip
              have ht:v.take.2.1=0:=og
              have htr:=ny hv ht
              refine rq [0,1,2,3,4,5,6,7,8,9,10,11,12,13,14,15,16,17,18,19,20] mixed ?_
              refine ld (.t3 .aa) (b6.Ad _ _ _ _ _ _) ?_
              refine ld (.t3 .aa) (b6.Ad _ _ _ _ _ _) ?_
              refine ld (.t3 .aa) (bS _ _ _ _ _ _ _) ?_
              refine sd ?_
              refine lP .aa (UG _ _ _ _ og) ?_
              refine sd ?_
              refine gn .aa (FW _ _ _ _ _) rfl ⟨rfl,rfl⟩ ?_
              refine rq [0,1,2,3,4,5,6,7,8] mixed ?_
              refine ld (.t3 .aa) (b6.Ad _ _ _ _ _ _) ?_
              refine ld (.t3 .aa) (bS _ _ _ _ _ _ _) ?_
              refine Iv 2 (adk _ _ (v.take.2.2.copy v.take.1 (m.fr (a/8)-1)) (hv.take.copy _ _) (m.fr (a/8)-1) og (Bh ht og)) (pz 3) rfl ?_
              refine XO.v (V.build (vs:= #[(0,iI v.take.1),(1,.bool true)]) rfl (v:=.agg #[iI v.take.1,.bool true]) fun _=>kq) rfl (gO ?_)
              refine gn (.t3 .aa) (sn _ _ _ _ _ _ _ _ _) rfl ⟨rfl,rfl⟩ ?_
              refine ld (.t3 .aa) (bS _ _ _ _ _ _ _) ?_
              refine bA rfl rfl rfl (ah (pk [0,0,1,1]) rfl ?_)
              first
                | (rw[ix eD];exact⟨rfl,rfl⟩)
                | (rw[fv eD h0 ht];exact⟨rfl,by rw[iC.2]⟩)
                | (rw[iy eD h0 ht];exact⟨by show Value.tuple #[iI (ad m.fr (a/8) (v.take.1+1) (a/8)-1),_]=_;rw[aj,show v.take.1+1-1=v.take.1 from og];rfl,rfl⟩)
                | (rw[gu eD h0 (by first | assumption | omega | (simp_all;done)) (by first | assumption | omega | (simp_all;done)) og ht];exact⟨rfl,by rw[iC.2]⟩)
                | (rw[fM eD h0 (by first | assumption | omega | (simp_all;done)) (by first | assumption | omega | (simp_all;done)) og ht];exact⟨by show Value.tuple #[iI (ad m.fr (a/8) (v.take.1+1) (a/8)-1),_]=_;rw[aj,show v.take.1+1-1=v.take.1 from og];rfl,rfl⟩)
                | (rw[MS.kD eD h0 (by first | assumption | omega | (simp_all;done)) (by first | assumption | omega | (simp_all;done)) og];exact⟨rfl,rfl⟩)
                | (have q:w=false:=by first | assumption | omega | (simp_all;done)
                   rw[cZ eD h0 (.inl q)];exact⟨rfl,rfl⟩)
                | (have q:m.aX (a/8)=true:=by first | assumption | omega | (simp_all;done)
                   rw[cZ eD h0 (.inr q)];first | exact⟨rfl,rfl⟩ | (rw[jG m.aX (a/8) q];exact⟨rfl,rfl⟩))
                | (exfalso;(first | assumption | omega | (simp_all;done)))
          · skip
            refine wM ?_ ?_<;>intro h8
            · try simp only[sb]at h8
              refine st .aa (iw _ _ _ _ _ _ _ og _) rfl ?_
              refine ld .aa (bS _ _ _ _ _ _ _) ?_
              refine bA rfl rfl rfl (ah (pk [2,2,0,0]) rfl ?_)
              first
                | (rw[ix eD];exact⟨rfl,rfl⟩)
                | (rw[fv eD h0 ht];exact⟨rfl,by rw[iC.2]⟩)
                | (rw[iy eD h0 ht];exact⟨by show Value.tuple #[iI (ad m.fr (a/8) (v.take.1+1) (a/8)-1),_]=_;rw[aj,show v.take.1+1-1=v.take.1 from og];rfl,rfl⟩)
                | (rw[gu eD h0 (by first | assumption | omega | (simp_all;done)) (by first | assumption | omega | (simp_all;done)) og ht];exact⟨rfl,by rw[iC.2]⟩)
                | (rw[fM eD h0 (by first | assumption | omega | (simp_all;done)) (by first | assumption | omega | (simp_all;done)) og ht];exact⟨by show Value.tuple #[iI (ad m.fr (a/8) (v.take.1+1) (a/8)-1),_]=_;rw[aj,show v.take.1+1-1=v.take.1 from og];rfl,rfl⟩)
                | (rw[MS.kD eD h0 (by first | assumption | omega | (simp_all;done)) (by first | assumption | omega | (simp_all;done)) og];exact⟨rfl,rfl⟩)
                | (have q:w=false:=by first | assumption | omega | (simp_all;done)
                   rw[cZ eD h0 (.inl q)];exact⟨rfl,rfl⟩)
                | (have q:m.aX (a/8)=true:=by first | assumption | omega | (simp_all;done)
                   rw[cZ eD h0 (.inr q)];first | exact⟨rfl,rfl⟩ | (rw[jG m.aX (a/8) q];exact⟨rfl,rfl⟩))
                | (exfalso;(first | assumption | omega | (simp_all;done)))
            · try simp only[sb]at h8
              refine ld .aa (bS _ _ _ _ _ _ _) ?_
              refine bA rfl rfl rfl (ah (pk [2,2,0,0]) rfl ?_)
              simp_all
        · try simp only[sb]at h5
          refine wM ?_ ?_<;>intro h9
          · try simp only[sb]at h9
            refine st .aa (iw _ _ _ _ _ _ _ og _) rfl ?_
            refine ld .aa (bS _ _ _ _ _ _ _) ?_
            refine bA rfl rfl rfl (ah (pk [2,2,0,0]) rfl ?_)
            first
              | (rw[ix eD];exact⟨rfl,rfl⟩)
              | (rw[fv eD h0 ht];exact⟨rfl,by rw[iC.2]⟩)
              | (rw[iy eD h0 ht];exact⟨by show Value.tuple #[iI (ad m.fr (a/8) (v.take.1+1) (a/8)-1),_]=_;rw[aj,show v.take.1+1-1=v.take.1 from og];rfl,rfl⟩)
              | (rw[gu eD h0 (by first | assumption | omega | (simp_all;done)) (by first | assumption | omega | (simp_all;done)) og ht];exact⟨rfl,by rw[iC.2]⟩)
              | (rw[fM eD h0 (by first | assumption | omega | (simp_all;done)) (by first | assumption | omega | (simp_all;done)) og ht];exact⟨by show Value.tuple #[iI (ad m.fr (a/8) (v.take.1+1) (a/8)-1),_]=_;rw[aj,show v.take.1+1-1=v.take.1 from og];rfl,rfl⟩)
              | (rw[MS.kD eD h0 (by first | assumption | omega | (simp_all;done)) (by first | assumption | omega | (simp_all;done)) og];exact⟨rfl,rfl⟩)
              | (have q:w=false:=by first | assumption | omega | (simp_all;done)
                 rw[cZ eD h0 (.inl q)];exact⟨rfl,rfl⟩)
              | (have q:m.aX (a/8)=true:=by first | assumption | omega | (simp_all;done)
                 rw[cZ eD h0 (.inr q)];first | exact⟨rfl,rfl⟩ | (rw[jG m.aX (a/8) q];exact⟨rfl,rfl⟩))
              | (exfalso;(first | assumption | omega | (simp_all;done)))
          · try simp only[sb]at h9
            refine ld .aa (bS _ _ _ _ _ _ _) ?_
            refine bA rfl rfl rfl (ah (pk [2,2,0,0]) rfl ?_)
            simp_all
      · try simp only[sb]at h4
        refine wM ?_ ?_<;>intro Ss
        · try simp only[sb]at Ss
          refine st .aa (iw _ _ _ _ _ _ _ og _) rfl ?_
          refine ld .aa (bS _ _ _ _ _ _ _) ?_
          refine bA rfl rfl rfl (ah (pk [2,2,0,0]) rfl ?_)
          simp_all
        · try simp only[sb]at Ss
          refine ld .aa (bS _ _ _ _ _ _ _) ?_
          refine bA rfl rfl rfl (ah (pk [2,2,0,0]) rfl ?_)
          first
            | (rw[ix eD];exact⟨rfl,rfl⟩)
            | (rw[fv eD h0 ht];exact⟨rfl,by rw[iC.2]⟩)
            | (rw[iy eD h0 ht];exact⟨by show Value.tuple #[iI (ad m.fr (a/8) (v.take.1+1) (a/8)-1),_]=_;rw[aj,show v.take.1+1-1=v.take.1 from og];rfl,rfl⟩)
            | (rw[gu eD h0 (by first | assumption | omega | (simp_all;done)) (by first | assumption | omega | (simp_all;done)) og ht];exact⟨rfl,by rw[iC.2]⟩)
            | (rw[fM eD h0 (by first | assumption | omega | (simp_all;done)) (by first | assumption | omega | (simp_all;done)) og ht];exact⟨by show Value.tuple #[iI (ad m.fr (a/8) (v.take.1+1) (a/8)-1),_]=_;rw[aj,show v.take.1+1-1=v.take.1 from og];rfl,rfl⟩)
            | (rw[MS.kD eD h0 (by first | assumption | omega | (simp_all;done)) (by first | assumption | omega | (simp_all;done)) og];exact⟨rfl,rfl⟩)
            | (have q:w=false:=by first | assumption | omega | (simp_all;done)
               rw[cZ eD h0 (.inl q)];exact⟨rfl,rfl⟩)
            | (have q:m.aX (a/8)=true:=by first | assumption | omega | (simp_all;done)
               rw[cZ eD h0 (.inr q)];first | exact⟨rfl,rfl⟩ | (rw[jG m.aX (a/8) q];exact⟨rfl,rfl⟩))
            | (exfalso;(first | assumption | omega | (simp_all;done)))
set_option maxHeartbeats 8000000 in
def adr(kb pb mb:Nat)(v:VB)(hv:v.Ok)(p:Option Addr)(c:Nat)(m:MS)(hm:m.Ok)(a:Int):Spec Tryz.prog 151 [az mb 0 0,iI a] [.cells kb 0 577 (dM pb v.fR v.rf),.cells pb 0 71 (bO v.bb.fp),.cells mb 0 34 (b6 kb p (ai m.ax).length c m.fr m.aX),aM p c 171 3 (ai m.ax).length (fh (ai m.ax)),.ro 1 0 64 gL] (fun x H1=>x= .tuple #[.int .u8 (m.load v a).1,ay 102 (m.load v a).2.1]/\H1=[.cells kb 0 577 (dM pb (m.load v a).2.2.1.fR (m.load v a).2.2.1.rf),.cells pb 0 71 (bO (m.load v a).2.2.1.bb.fp),.cells mb 0 34 (b6 kb p (ai m.ax).length c (m.load v a).2.2.2.fr (m.load v a).2.2.2.aX),aM p c 171 3 (ai m.ax).length (fh (ai m.ax))]):=by
 refine Spec.go 29 [0,1,4,5,6,7,15] [] Tryz.func151 fun W=> ?_;refine Iv 4 (Pp _ _ _ _ hv _ _ _ hm a false) (pz 5) rfl ?_;refine cd ?_ ?_<;>intro h1
 ·have ht:=h1;refine eH (pz 4) ?_;rw[MS.ui ht];exact⟨rfl,rfl⟩
 ·have ht:(m.bF v a false).2.1=0:=og;have hr:=oq hv hm ht;refine ld (.t2 .aa) (b6.Ad _ _ _ _ _ _) ?_;refine XO.v (V.rem rfl rfl (by first | decide | omega) _ (Int.tmod_eq_emod_of_nonneg og)) rfl (gO ?_);refine sd ?_;refine sd ?_;refine ld .aa (EV _ _ _ _ _ og og) ?_;refine eH (pz 4) ?_;rw[MS.yA ht];exact⟨rfl,rfl⟩
set_option maxHeartbeats 8000000 in
def Zv(kb pb mb:Nat)(v:VB)(hv:v.Ok)(p:Option Addr)(c:Nat)(m:MS)(hm:m.Ok)(a b:Int):Spec Tryz.prog 153 [az mb 0 0,iI a,.int .u8 b] [.cells kb 0 577 (dM pb v.fR v.rf),.cells pb 0 71 (bO v.bb.fp),.cells mb 0 34 (b6 kb p (ai m.ax).length c m.fr m.aX),aM p c 171 3 (ai m.ax).length (fh (ai m.ax)),.ro 1 0 64 gL] (fun x H1=>x=ay 102 (m.store v a b).1/\H1=[.cells kb 0 577 (dM pb (m.store v a b).2.1.fR (m.store v a b).2.1.rf),.cells pb 0 71 (bO (m.store v a b).2.1.bb.fp),.cells mb 0 34 (b6 kb p (ai m.ax).length c (m.store v a b).2.2.fr (m.store v a b).2.2.aX),aM p c 171 3 (ai m.ax).length (fh (ai m.ax))]):=by
 refine Spec.go 30 [0,1,2,6,7,8,16] [] Tryz.func153 fun W=> ?_;refine Iv 4 (Pp _ _ _ _ hv _ _ _ hm a true) (pz 5) rfl ?_;refine cd ?_ ?_<;>intro h1
 ·have ht:=h1;refine bI (pz 4) ?_;rw[MS.q7 ht];exact⟨rfl,rfl⟩
 ·have ht:(m.bF v a true).2.1=0:=og;have hr:=oq hv hm ht;refine ld (.t2 .aa) (b6.Ad _ _ _ _ _ _) ?_;refine XO.v (V.rem rfl rfl (by first | decide | omega) _ (Int.tmod_eq_emod_of_nonneg og)) rfl (gO ?_);refine sd ?_;refine sd ?_;refine st .aa (wh _ _ _ _ _ og og _) rfl ?_;refine bI (pz 4) ?_;rw[MS.uj ht];exact⟨rfl,rfl⟩
set_option maxHeartbeats 8000000 in
def H7(kb pb mb:Nat)(v:VB)(hv:v.Ok)(p:Option Addr)(c:Nat)(m:MS)(hm:m.Ok):Spec Tryz.prog 57 [az mb 0 0] [.cells kb 0 577 (dM pb v.fR v.rf),.cells mb 0 34 (b6 kb p (ai m.ax).length c m.fr m.aX),aM p c 171 3 (ai m.ax).length (fh (ai m.ax))] (fun x H1=>∃ nb p1 c1,x=az nb 0 0/\H1=[.cells kb 0 577 (dM pb (v.im m).fR (v.im m).rf),.cells mb 0 34 (b6 kb p (ai m.ax).length c m.fr fun _=>false),aM p c 171 3 (ai m.ax).length (fh (ai m.ax)),.cells nb 0 34 (b6 kb p1 (ai m.ax).length c1 m.fr fun _=>false),aM p1 c1 171 3 (ai m.ax).length (fh (ai m.ax))]):=by
 refine Spec.go 65 [0,2,3,4,16,17,43] [] Tryz.func57 fun W=> ?_;refine XC.il mixed (f:=12) (l:= #[qF,qF,qF,qF,qF,qF,qF,qF,qF,qF,qF,qF]) rfl rfl XM.kL ?_;refine XQ.pv (i:=0) rfl kq rfl (V.move rfl) rfl rfl ?_;refine XQ.pv (i:=1) rfl kq rfl (bC rfl) rfl rfl ?_;refine XQ.pv (i:=2) rfl kq rfl (V.fieldAddr rfl Wi) rfl rfl ?_;refine XQ.load (i:=3) (.cells _ _ _ _) [10] rfl kq rfl (.ao .aa) (V.load rfl eh (b6.Ad _ _ _ _ _ _) ago) rfl kq rfl ?_;refine XQ.pv (i:=4) rfl kq rfl (V.move rfl) rfl rfl ?_;refine XQ.pv (i:=5) rfl kq rfl (bC rfl) rfl rfl ?_;refine XQ.pv (i:=6) rfl kq rfl (V.fieldAddr rfl Wj) rfl rfl ?_;refine XQ.load (i:=7) (.cells _ _ _ _) [8,10] rfl kq rfl (.ao .aa) (V.load rfl eh (lI _ _ _ _ _ _) adq) rfl kq rfl ?_;refine XQ.call (i:=8) rfl kq rfl rfl (Zt _ _ _ (by have:=qX m.ax;omega)) (pk [2]) adp rfl (by rintro _ _ ⟨p1,c1,rfl,rfl⟩;all_goals(intro _ dX;exact⟨fun hs=>(hs 8 (by first | (simp;done) | (simp;rfl)) rfl).elim,fun _=>fb (.t3 .aa) _ dX,trivial⟩)) ?_;rintro _ _ ⟨p1,c1,rfl,rfl⟩;refine XQ.pv (i:=9) rfl kq rfl (V.build (vs:= #[(0,az kb 0 0),(1,.slice p1 (ai m.ax).length c1)]) rfl (v:=.agg (zNs kb p1 (ai m.ax).length c1).toArray) fun _=>kq) rfl rfl ?_;refine XQ.box (i:=10) (m:=34) (C:=b6 kb p1 (ai m.ax).length c1 (fun _=>1) fun _=>false) rfl kq rfl rfl rfl (YJ _ _ _ _) rfl (fun _ _ dX=>⟨fun hs=>(hs 8 (by first | (simp;done) | (simp;rfl)) rfl).elim,fun hs=>(hs 10 (by first | (simp;done) | (simp;rfl)) rfl).elim,trivial⟩) ?_;intro nb;refine XQ.pv (i:=11) rfl kq rfl (V.assign rfl) rfl rfl ?_;refine XQ.done kq ?_;refine gE ?_;refine lp (σ:=Int) (fun i=>(16-i).toNat) (fun i=>0<=i/\i<=16) (fun i=>[(16,iI i),(0,az mb 0 0),(3,az nb 0 0)]) (fun i=>XM W (cm [.cells kb 0 577 (dM pb v.fR v.rf),.cells mb 0 34 (b6 kb p (ai m.ax).length c m.fr m.aX),aM p c 171 3 (ai m.ax).length (fh (ai m.ax))]) [.cells kb 0 577 (dM pb v.fR (yo v.rf m.fr i.toNat)),.cells mb 0 34 (b6 kb p (ai m.ax).length c m.fr (w7 (fun _=>false) m.aX i)),aM p c 171 3 (ai m.ax).length (fh (ai m.ax)),.cells nb 0 34 (b6 kb p1 (ai m.ax).length c1 (w7 m.fr (fun _=>1) i) fun _=>false),aM p1 c1 171 3 (ai m.ax).length (fh (ai m.ax))]) (0) ?_ S3 (fun _ hw=>by show XM _ _ [_,.cells mb 0 34 (b6 _ _ _ _ _ (w7 (fun _=>false) m.aX 0)),_,.cells nb 0 34 (b6 _ _ _ _ (w7 m.fr (fun _=>1) 0) _),_] _;rw[F4,F4];exact XM.pick (pk [3,3,1,0,0]) hw) ?_
 ·omega
 intro i hi;have Ix:=hm.lo i;have Ly:=UZ v.rf m.fr i.toNat (m.fr i-1);have hrf:=hv.rf (m.fr i-1);refine gC ?_;refine cd ?_ ?_<;>intro h1
 ·refine sd ?_;refine st (.ao .aa) (iw _ _ _ _ _ _ _ og _) rfl ?_;refine rq [0,1,2,3,4,5,6,7,8,9,10,11] mixed ?_;refine sd ?_;refine lP (.ao .aa) (QI _ _ _ _ _ _ _ og) ?_;refine sd ?_;refine gn (.t3 .aa) (sn _ _ _ _ _ _ _ _ _) rfl ⟨rfl,rfl⟩ ?_;refine sd ?_;refine ld (.ao .aa) (bS _ _ _ _ _ _ _) ?_;refine cd ?_ ?_<;>intro h2
  ·refine rq [0,1,2,3,4,5,6,7,8,9,10,11,12,13,14,15,16,17,18,19] mixed ?_;refine ld (.ao .aa) (b6.Ad _ _ _ _ _ _) ?_;refine sd ?_;refine ld (.ao .aa) (bS _ _ _ _ _ _ _) ?_;refine sd ?_;refine ld .aa (iY _ _ _ _) ?_;refine sd ?_;refine sd ?_;refine st .aa (l6 _ _ _ _ og _) rfl ?_;refine sd ?_;have hU:yo v.rf m.fr (i+1).toNat=ad (yo v.rf m.fr i.toNat) (m.fr i-1) (yo v.rf m.fr i.toNat (m.fr i-1)+1):=by rw[J3 hi.1,if_pos og]
   refine ag (i+1) ?_ ?_ S3 fun _ hw=>by rw[aj (w7 (fun _=>false) m.aX i) i false,jG (fun _=>false) i rfl]at hw;show XM _ _ [.cells kb 0 577 (dM pb v.fR (yo v.rf m.fr (i+1).toNat)),_,_,_,_] _;rw[hU,<-vu hi.1 (f:=(fun _=>false)) (g:=m.aX) (v:=false) rfl,<-vu hi.1 (f:=m.fr) (g:=fun _=>1) (v:=m.fr i-1+1)];exact XM.pick (pz 5) hw
   all_goals omega
  ·refine sd ?_;have hU:yo v.rf m.fr (i+1).toNat=yo v.rf m.fr i.toNat:=by rw[J3 hi.1,if_neg og]
   refine ag (i+1) ?_ ?_ S3 fun _ hw=>by rw[aj (w7 (fun _=>false) m.aX i) i false,jG (fun _=>false) i rfl]at hw;show XM _ _ [.cells kb 0 577 (dM pb v.fR (yo v.rf m.fr (i+1).toNat)),_,_,_,_] _;rw[hU,<-vu hi.1 (f:=(fun _=>false)) (g:=m.aX) (v:=false) rfl,<-vu hi.1 (f:=m.fr) (g:=fun _=>1) (v:=m.fr i-1+1)];exact XM.pick (pz 5) hw
   all_goals omega
 ·refine bI (pz 5) ?_;have e:i=16:=og;subst e;exact⟨nb,p1,c1,rfl,by rw[so (f:=w7 m.fr (fun _=>1) 16) (f':=m.fr) (o:=(fun _=>false)) (o':=(fun _=>false)) fun i h0 h1=>⟨by unfold w7;rw[if_pos og],rfl⟩,so (f:=m.fr) (f':=m.fr) (o:=w7 (fun _=>false) m.aX 16) (o':=(fun _=>false)) fun i h0 h1=>⟨rfl,by unfold w7;rw[if_pos og]⟩];rfl⟩
def Zw(kb pb:Nat)(v:VB)(hv:v.Ok)(f:Int)(hf:0<=f/\f<64)(h1:1<=v.rf f):Spec Tryz.prog 179 [az kb 0 0,iI f] [.cells kb 0 577 (dM pb v.fR v.rf),.cells pb 0 71 (bO v.bb.fp)] (fun x H1=>x= .tuple #[]/\H1=[.cells kb 0 577 (dM pb (v.drop f).fR (v.drop f).rf),.cells pb 0 71 (bO (v.drop f).bb.fp)]):=by
 have hb:=hv.rf f;refine Spec.go 27 [0,1,20] [] Tryz.func179 fun W=> ?_;refine rq [0,1,2,3,4,5,6,7,8,9,10] mixed ?_;refine sd ?_;refine ld .aa (iY _ _ _ _) ?_;refine sd ?_;refine sd ?_;refine st .aa (l6 _ _ _ _ og _) rfl ?_;refine sd ?_;refine ld .aa (iY _ _ _ _) ?_;have e1:ad v.rf f (v.rf f-1) f=v.rf f-1:=aj _ _ _;refine cd ?_ ?_<;>intro h1
 ·refine ld .aa (dM.JQ _ _ _) ?_;refine cq (Wc _ _ _ hv.bb _) (pk [1]) ?_;refine cU rfl (ah (pk [1,0]) rfl ?_);grind [vn]
 ·refine cU rfl (ah (pz 2) rfl ?_);grind [vo]
set_option maxHeartbeats 8000000 in
def K6(kb pb mb:Nat)(v:VB)(hv:v.Ok)(p:Option Addr)(c:Nat)(m:MS)(hm:m.Ok)(vV:m.In v)(a n:Int):Spec Tryz.prog 107 [az mb 0 0,iI a,iI n] [.cells kb 0 577 (dM pb v.fR v.rf),.cells pb 0 71 (bO v.bb.fp),.cells mb 0 34 (b6 kb p (ai m.ax).length c m.fr m.aX),aM p c 171 3 (ai m.ax).length (fh (ai m.ax))] (fun x H1=>x= .tuple #[iI (m.cS v a n).1,ay 102 (m.cS v a n).2.1]/\∃ p2 c2,H1=[.cells kb 0 577 (dM pb (m.cS v a n).2.2.1.fR (m.cS v a n).2.2.1.rf),.cells pb 0 71 (bO (m.cS v a n).2.2.1.bb.fp),.cells mb 0 34 (b6 kb p2 (ai (m.cS v a n).2.2.2.ax).length c2 (m.cS v a n).2.2.2.fr (m.cS v a n).2.2.2.aX),aM p2 c2 171 3 (ai (m.cS v a n).2.2.2.ax).length (fh (ai (m.cS v a n).2.2.2.ax))]):=by
 refine Spec.go 59 [0,1,2,6,7,8,9,11,16,21,22,23,24,34] [] Tryz.func107 fun W=> ?_;refine cq (Nu _ _) .nil ?_;refine cd ?_ ?_<;>intro h1
 ·have hb:fT a n:=by
   simp_all
  refine eH (pz 4) ?_;exact⟨by rw[if_pos hb,MS.vt hb];rfl,p,c,by rw[MS.vt hb]⟩
 ·have hb:¬fT a n:=fun q=>h1 fun q2=>by rw[if_pos q]at q2;omega
  have Cv:=hb;unfold fT at Cv;have hn:0<n:=og;have hL:=qX m.ax;refine ca (Po _ _ _ _ _ hm _ _ hb) (pk [2,2]) ?_;rintro _ _ ⟨p4,c4,p5,c5,rfl,rfl⟩;have Iw:=Di (ai m.ax) a n;rw[QH hm.f hb];generalize hq:kW (fun i=>m.ax i != 0) a n.toNat=l;have ic:∀ i∈l,a<=i/\i<a+n:=fun i hi=>by rw[<-hq,oF]at hi;omega
  have qw:l.Pairwise (fun x y=>x<y):=hq▸sj _;have hle:l.length<=16:=by rw[<-hq];have:=FV (p:=fun i=>m.ax i != 0) (a:=a) n.toNat;omega
  refine gO ?_;refine lp (σ:=Int) (fun i=>(l.length-i).toNat) (fun i=>0<=i/\i<=l.length) (fun i=>[(23,iI i),(9,iI (ud v m.fr (l.take i.toNat)).1),(0,az mb 0 0),(21,.slice p5 l.length c5),(22,iI l.length)]) (fun i=>XM W (cm [.cells kb 0 577 (dM pb v.fR v.rf),.cells pb 0 71 (bO v.bb.fp),.cells mb 0 34 (b6 kb p (ai m.ax).length c m.fr m.aX),aM p c 171 3 (ai m.ax).length (fh (ai m.ax))]) [.cells kb 0 577 (dM pb (ud v m.fr (l.take i.toNat)).2.fR (ud v m.fr (l.take i.toNat)).2.rf),.cells pb 0 71 (bO (ud v m.fr (l.take i.toNat)).2.bb.fp),.cells mb 0 34 (b6 kb p4 ((ai m.ax).flatMap (mr a n)).length c4 (om m.fr (l.take i.toNat)) (ew m.aX (l.take i.toNat))),aM p4 c4 171 3 ((ai m.ax).flatMap (mr a n)).length (fh ((ai m.ax).flatMap (mr a n))),dh p5 c5 3 l]) (0) ?_ S5 (fun _ hw=>by show XM _ _ [_,_,.cells mb 0 34 (b6 kb p4 _ c4 (om m.fr []) (ew m.aX [])),_,_] _;rw[UX,UY];exact XM.pick (pk [3,3,0,0,0]) hw) ?_
  ·omega
  intro i hi;refine gC ?_;refine cd ?_ ?_<;>intro h2
  ·refine bR (.t4 .aa) og ?_;intro g1 h3;subst h3;refine sd (zp (.t4 .aa) (ints_at) ?_);have hmm:=r6 (l:=l) (i:=i) og;have ha:=ic _ hmm;have Qf:=YG qw (i:=i) og;have e0:om m.fr (l.take i.toNat) (jc l i)=m.fr (jc l i):=by unfold om;rw[if_neg Qf]
   have hit:=aaM (l:=l) (i:=i) og;have hu:=UO hv hm vV _ (l.take i.toNat) rfl (Mv qw _);have hTl:(l.take i.toNat).length<=16:=by rw[List.length_take];omega
   have Ix:=hm.lo (jc l i);refine sd (ld (.t2 .aa) (bS _ _ _ _ _ _ _) ?_);refine cd ?_ ?_<;>intro h4
   ·have RP:0<m.fr (jc l i):=og;have hrf:1<=(ud v m.fr (l.take i.toNat)).2.rf (om m.fr (l.take i.toNat) (jc l i)-1):=by
     grind [MS.Ok.inj,MS.In]
    refine rq [0,1,2,3,4,5,6,7,8,9,10,11] mixed (ld (.t2 .aa) (b6.Ad _ _ _ _ _ _) (sd (ld (.t2 .aa) (bS _ _ _ _ _ _ _) ?_)));refine cq (Zw _ _ _ hu.1 (om m.fr (l.take i.toNat) (jc l i)-1) og hrf) (pz 2) ?_;refine XO.v (V.build (vs:= #[(0,iI (-1))]) rfl (v:=.agg #[iI (-1),.bool false]) fun _=>kq) rfl (gO ?_);refine sd (gn (.t2 .aa) (sn _ _ _ _ _ _ _ _ _) rfl ⟨rfl,rfl⟩ (sd (sd ?_)));have hS:(ud v m.fr (l.take (i+1).toNat))=((ud v m.fr (l.take i.toNat)).1+1,(ud v m.fr (l.take i.toNat)).2.drop (om m.fr (l.take i.toNat) (jc l i)-1)):=by rw[hit,Da];unfold UB;rw[if_pos RP,e0]
    have hC:om m.fr (l.take (i+1).toNat)=ad (om m.fr (l.take i.toNat)) (jc l i) (-1+1):=by rw[hit,QM]
    have hF:ew m.aX (l.take (i+1).toNat)=ad (ew m.aX (l.take i.toNat)) (jc l i) false:=by rw[hit,QN]
    refine ag (i+1) ?_ ?_ (S5 rfl (by show lk _ _=some (iI (ud v m.fr (l.take (i+1).toNat)).1);rw[hS];rfl) rfl rfl rfl) fun _ hw=>by show XM _ _ [.cells kb 0 577 (dM pb (ud v m.fr (l.take (i+1).toNat)).2.fR (ud v m.fr (l.take (i+1).toNat)).2.rf),.cells pb 0 71 (bO (ud v m.fr (l.take (i+1).toNat)).2.bb.fp),.cells mb 0 34 (b6 kb p4 ((ai m.ax).flatMap (mr a n)).length c4 (om m.fr (l.take (i+1).toNat)) (ew m.aX (l.take (i+1).toNat))),aM p4 c4 171 3 ((ai m.ax).flatMap (mr a n)).length (fh ((ai m.ax).flatMap (mr a n))),_] _;rw[hS,hC,hF];exact XM.pick (pz 5) hw
    all_goals omega
   ·refine sd ?_;have h0:m.fr (jc l i)=0:=og;have hS:(ud v m.fr (l.take (i+1).toNat))=(ud v m.fr (l.take i.toNat)):=by rw[hit,Da];unfold UB;rw[if_neg og]
    have hC:om m.fr (l.take (i+1).toNat)=om m.fr (l.take i.toNat):=by rw[hit,QO h0]
    have hF:ew m.aX (l.take (i+1).toNat)=ew m.aX (l.take i.toNat):=by rw[hit,QP (hm.ow _ h0)]
    refine ag (i+1) ?_ ?_ (S5 rfl (by show lk _ _=some (iI (ud v m.fr (l.take (i+1).toNat)).1);rw[hS];rfl) rfl rfl rfl) fun _ hw=>by show XM _ _ [.cells kb 0 577 (dM pb (ud v m.fr (l.take (i+1).toNat)).2.fR (ud v m.fr (l.take (i+1).toNat)).2.rf),.cells pb 0 71 (bO (ud v m.fr (l.take (i+1).toNat)).2.bb.fp),.cells mb 0 34 (b6 kb p4 ((ai m.ax).flatMap (mr a n)).length c4 (om m.fr (l.take (i+1).toNat)) (ew m.aX (l.take (i+1).toNat))),aM p4 c4 171 3 ((ai m.ax).flatMap (mr a n)).length (fh ((ai m.ax).flatMap (mr a n))),_] _;rw[hS,hC,hF];exact XM.pick (pz 5) hw
    all_goals omega
  ·have e:(l.take i.toNat)=l:=List.take_of_length_le og;rw[e];have eu:=J2 v hm hb;rw[hq]at eu;refine ca (Nv _ _ _ _ _ _ _ _ (hm.f.df hb (.inl rfl)) (FU (jM hm.f) hn) (C5 (jM hm.f) (pd hm.f) hn) (by first | omega | (simp only[List.length_append,List.length_singleton];omega))) (pk [2,2]) ?_;rintro _ _ ⟨rfl,p2,c2,rfl⟩;refine gO ?_;refine bA rfl rfl rfl (ah (pk [2,2,0,0]) rfl ?_);exact⟨by rw[eu];rfl,p2,c2,by rw[eu]⟩
end Go.X.Vm

namespace Go.X.Kn
open Go Go.Proofs Go.X Go.X.Sg
set_option maxRecDepth 20000
set_option maxHeartbeats 4000000
def la:jR Tryz.prog 3=true:=kq
def nW:fm Tryz.prog 3=some 1:=kq
def vJ(kb:Nat)(k:KP)(n:Int)(hn:0<=n/\n<20):Spec Tryz.prog 58 [az kb 0 (jT n)] [.cells kb 0 453 (aG k)] (fun v H1=>∃ c,v=az c 0 0/\H1=[.cells c 0 11 (Sg.fC (k.u n).bx.bB),.cells kb 0 453 (aG k)]):=by
 refine Spec.go 8 [0,2,3] [] Tryz.func58 fun W=> ?_;refine lP .aa (JX _ og) (XO.bQ (z:=.agg #[.int .u16 0,.int .u16 0,iI 0,iI 0,iI 0,iI 0,iI 0,iI 0,iI 0,iI 0,iI 0]) (m:=11) (C:=Sg.fC BS.cC) Qs ?_);intro c;apply gO;refine gn .aa (Ub Js _) rfl ⟨rfl,rfl⟩ (st .aa (vi _ (w':=fun _=>false) rfl) rfl (aO rfl rfl (ah (pz 2) rfl ?_)));exact⟨c,rfl,rfl⟩
def Pq:n5 Tryz.prog 39=true:=kq
def Cf:fm Tryz.prog 39=some 2:=kq
def aa9:n5 Tryz.prog 83=true:=kq
def GG:n5 Tryz.prog 87=true:=kq
def Pr:cX Tryz.prog 57=true:=kq
def GH:cX Tryz.prog 58=true:=kq
def H8:eI Tryz.prog 89 2=some 2:=kq
def H9:eI Tryz.prog 89 4=some 4:=kq
def Ps:eI Tryz.prog 89 5=some 5:=kq
def Pt:eI Tryz.prog 89 6=some 11:=kq
def Wl:jR Tryz.prog 82=true:=kq
def Pu:fm Tryz.prog 83=some 6:=kq
def rs:fm Tryz.prog 87=some 11:=kq
def ru:fm Tryz.prog 89=some 22:=kq
def oI(n g:Int)(nb:Nat)(f:Int->Int)(b:BS):∀ w,(Instr.build 89 #[(0,iI 1),(1,iI n),(2,iI g),(4,az nb 0 0),(5,.agg (SB f)),(6,.agg (YH b))]).run Tryz.prog w= .ok (.agg (PU.cR ⟨1,n,g,0,az nb 0 0,f,b⟩)) w:=fun w=>kq
end Go.X.Kn

namespace Go.X.Tr
open Go Go.X
variable{p0 p1:Nat}
structure bu.U where
 aN:Int
 n:Int
 at_:Int
 cb:Bool
 cP:Int
def bu.un(s:OS)(z:Int):bu.U:=⟨s.aN z,s.n z,s.at_ z,s.cb z,s.cP z⟩
def bu.cell(u:bu.U)(j:Nat):Value:=
 if j=0 then iI u.aN else
 if j=1 then iI u.n else
 if j=2 then iI u.at_ else
 if j=3 then .bool u.cb else
 if j=4 then iI u.cP else
 undef
def bu(p0 p1:Nat)(s:OS)(i:Nat):Value:=
 if i=0 then az p0 0 0 else
 if i=1 then az p1 0 0 else
 if i<122 then bu.cell (bu.un s (((i-2)/5:Nat):Int)) ((i-2)%5)else
 undef
def ry(s:OS):0+0<122/\bu p0 p1 s (0+0)=az p0 0 0:=by grind [bu]
def bu.JQ(s:OS):0+1<122/\bu p0 p1 s (0+1)=az p1 0 0:=by grind [bu]
theorem bu.at_(s:OS)(z:Int)(h:0<=z/\z<24)(j:Nat)(hj:j<5):bu p0 p1 s (0+2+z.toNat*5+j)=bu.cell (bu.un s z) j:=by
 unfold bu;grind
theorem bu.set(s s':OS)(z:Int)(h:0<=z/\z<24)(k:Nat)(hk:k<5)(v:Value)(hv:∀ j,bu.cell (bu.un s' z) j=if j=k then v else bu.cell (bu.un s z) j)(ho:∀ y,¬y=z->bu.un s' y=bu.un s y):0+2+z.toNat*5+k<122/\dJ (bu p0 p1 s) (0+2+z.toNat*5+k) v=bu p0 p1 s':=by
 refine⟨og,?_⟩;funext i;grind [dJ,bu]
def bu.TX(s s':OS)(z:Int)(h:0<=z/\z<24)(vs:List Value)(hl:vs.length=5)(hv:∀ j,j<5->vs[j]? =some (bu.cell (bu.un s' z) j))(ho:∀ y,¬y=z->bu.un s' y=bu.un s y):0+2+z.toNat*5+5<=122/\cD (bu p0 p1 s) (0+2+z.toNat*5) vs=bu p0 p1 s':=by
 refine⟨og,?_⟩;funext i;by_cases a1:i<0+2+z.toNat*5
 ·grind [iV,bu]
 ·by_cases a2:i<0+2+z.toNat*5+5
  ·obtain⟨j,rfl⟩:∃ j,i=0+2+z.toNat*5+j:=⟨i-(0+2+z.toNat*5),og⟩;rw[bu.at_ s' z h j og];simp_all[gh]
  grind [jA,bu]
def mn(s:OS)(z:Int)(h:0<=z/\z<24:=by omega):0+2+z.toNat*5+0<122/\bu p0 p1 s (0+2+z.toNat*5+0)=iI (s.aN z):=⟨og,bu.at_ s z h 0 og⟩
def pX(s:OS)(z:Int)(h:0<=z/\z<24:=by omega):0+2+z.toNat*5+1<122/\bu p0 p1 s (0+2+z.toNat*5+1)=iI (s.n z):=⟨og,bu.at_ s z h 1 og⟩
def oz(s:OS)(z:Int)(h:0<=z/\z<24:=by omega):0+2+z.toNat*5+2<122/\bu p0 p1 s (0+2+z.toNat*5+2)=iI (s.at_ z):=⟨og,bu.at_ s z h 2 og⟩
def bu.Ia(s:OS)(z:Int)(h:0<=z/\z<24)(v:Int):0+2+z.toNat*5+2<122/\dJ (bu p0 p1 s) (0+2+z.toNat*5+2) (iI v)=bu p0 p1 {s with at_:=ad s.at_ z v} :=bu.set s {s with at_:=ad s.at_ z v} z h 2 og _ (fun j=>by
 have e:bu.un {s with at_:=ad s.at_ z v} z= {bu.un s z with at_:=v} :=by unfold bu.un;simp only[aj]
 rw[e]
 by_cases hj:j=2
 ·subst hj;rfl
 ·unfold bu.cell;simp only[if_neg hj]) fun y hy=>by unfold bu.un;simp only[ae _ _ hy]
def BO(s:OS)(z:Int)(h:0<=z/\z<24):0+2+z.toNat*5+3<122/\bu p0 p1 s (0+2+z.toNat*5+3)= .bool (s.cb z):=⟨og,bu.at_ s z h 3 og⟩
def ku(s:OS)(z:Int)(h:0<=z/\z<24:=by omega):0+2+z.toNat*5+4<122/\bu p0 p1 s (0+2+z.toNat*5+4)=iI (s.cP z):=⟨og,bu.at_ s z h 4 og⟩
def uS(s:OS)(z:Int)(h:0<=z/\z<24)(v:Int):0+2+z.toNat*5+4<122/\dJ (bu p0 p1 s) (0+2+z.toNat*5+4) (iI v)=bu p0 p1 {s with cP:=ad s.cP z v} :=bu.set s {s with cP:=ad s.cP z v} z h 4 og _ (fun j=>by
 have e:bu.un {s with cP:=ad s.cP z v} z= {bu.un s z with cP:=v} :=by unfold bu.un;simp only[aj]
 rw[e]
 by_cases hj:j=4
 ·subst hj;rfl
 ·unfold bu.cell;simp only[if_neg hj]) fun y hy=>by unfold bu.un;simp only[ae _ _ hy]
def bu.cR(u:bu.U):Array Value:= #[iI u.aN,iI u.n,iI u.at_,.bool u.cb,iI u.cP]
def bu.LS(s:OS)(z:Int)(h:0<=z/\z<24):0+2+z.toNat*5+5<=122/\de (bu p0 p1 s) (0+2+z.toNat*5) 5= .agg (bu.cR (bu.un s z)):=by
 refine⟨og,?_⟩;have q:=fun j hj=>bu.at_ (p0:=p0) (p1:=p1) s z h j hj;simp only[de,List.range,List.range.loop,List.map_cons,List.map_nil];rw[q 0 og,q 1 og,q 2 og,q 3 og,q 4 og];rfl
theorem bu.box(u:bu.U):∀ i,i<5->cellsOf (bu.cR u) i=bu.cell u i:=fun i h=>match i,h with
 | 0,_=>rfl
 | 1,_=>rfl
 | 2,_=>rfl
 | 3,_=>rfl
 | 4,_=>rfl
 | j+5,h=>absurd h og
def Wm(u0 u:bu.U):0+5<=5/\cD (bu.cell u0) 0 (bu.cR u).toList=bu.cell u:=by
 refine⟨og,?_⟩;funext i;match i with
 | 0=>rfl
 | 1=>rfl
 | 2=>rfl
 | 3=>rfl
 | 4=>rfl
 | k+5=>
  have e1:∀ u:bu.U,bu.cell u (k+5)=undef:=fun u=>by unfold bu.cell;iterate 5 rw[if_neg og]
  have e2:cD (bu.cell u0) 0 (bu.cR u).toList (k+5)=bu.cell u0 (k+5):=by simp[cD,dJ,bu.cR]
  rw[e2,e1,e1]
def K7(u:bu.U):0+0<5/\bu.cell u (0+0)=iI u.aN:=⟨og,rfl⟩
def K8(u:bu.U):0+1<5/\bu.cell u (0+1)=iI u.n:=⟨og,rfl⟩
theorem bu.put(s:OS)(z k n:Int)(w:Bool)(r:Int)(h:0<=z/\z<24):0+2+z.toNat*5+5<=122/\cD (bu p0 p1 s) (0+2+z.toNat*5) (bu.cR ⟨k,n,0,w,r⟩).toList=bu p0 p1 ⟨ad s.aN z k,ad s.n z n,ad s.at_ z 0,ad s.cP z r,ad s.cb z w⟩:=
 bu.TX s ⟨ad s.aN z k,ad s.n z n,ad s.at_ z 0,ad s.cP z r,ad s.cb z w⟩ z h _ rfl (fun j hj=>by
  have e:bu.un ⟨ad s.aN z k,ad s.n z n,ad s.at_ z 0,ad s.cP z r,ad s.cb z w⟩ z=⟨k,n,0,w,r⟩:=by unfold bu.un;simp only[aj]
  rw[e]
  match j,hj with
  | 0,_=>rfl
  | 1,_=>rfl
  | 2,_=>rfl
  | 3,_=>rfl
  | 4,_=>rfl
  | j+5,h=>exact absurd h og) fun y hy=>by unfold bu.un;simp only[ae _ _ hy]
end Go.X.Tr


namespace Go.Proofs
open Go.Shelf
def Ef:Go.Shelf.Ren:=⟨fun | 26=>249 | 33=>266 | 34=>267 | 38=>280 | n=>n,fun | 24=>207 | 9=>9 | 3=>3 | 4=>4 | 40=>258 | 0=>0 | n=>n,fun | n=>n⟩
def Nw:Go.Proofs.Lays2.n26 Tryz.prog Ef:= {
 mixed:=by kernel_rfl
 f26:=Tryz.func249.trans (congrArg some (by kernel_rfl))
 f33:=Tryz.func266.trans (congrArg some (by kernel_rfl))
 f34:=Tryz.func267.trans (congrArg some (by kernel_rfl))
 f38:=Tryz.func280.trans (congrArg some (by kernel_rfl))
 t0:=Tryz.underlying0
 a0:=Tryz.isAgg0
 z0:=Tryz.sizeOf0
 v0:=Tryz.zeroValue0
 t3:=Tryz.underlying3
 a3:=Tryz.isAgg3
 z3:=Tryz.sizeOf3
 v3:=Tryz.zeroValue3
 t4:=Tryz.underlying4
 a4:=Tryz.isAgg4
 z4:=Tryz.sizeOf4
 v4:=Tryz.zeroValue4
 t9:=Tryz.underlying9
 a9:=Tryz.isAgg9
 z9:=Tryz.sizeOf9
 v9:=Tryz.zeroValue9
 t24:=Tryz.underlying207
 a24:=Tryz.isAgg207
 z24:=Tryz.sizeOf207
 v24:=Tryz.zeroValue207
 t40:=Tryz.underlying258
 a40:=Tryz.isAgg258
 z40:=Tryz.sizeOf258
 v40:=Tryz.zeroValue258}
def Eg:Go.Shelf.Ren:=⟨fun | 22=>250 | 29=>268 | 30=>269 | 36=>281 | 17=>288 | n=>n,fun | 24=>207 | 9=>9 | 3=>3 | 4=>4 | 0=>0 | n=>n,fun | n=>n⟩
def Nx:Go.Proofs.Lays2.n22 Tryz.prog Eg:= {
 mixed:=by kernel_rfl
 f17:=Tryz.func288.trans (congrArg some (by kernel_rfl))
 f22:=Tryz.func250.trans (congrArg some (by kernel_rfl))
 f29:=Tryz.func268.trans (congrArg some (by kernel_rfl))
 f30:=Tryz.func269.trans (congrArg some (by kernel_rfl))
 f36:=Tryz.func281.trans (congrArg some (by kernel_rfl))
 t0:=Tryz.underlying0
 a0:=Tryz.isAgg0
 z0:=Tryz.sizeOf0
 v0:=Tryz.zeroValue0
 t3:=Tryz.underlying3
 a3:=Tryz.isAgg3
 z3:=Tryz.sizeOf3
 v3:=Tryz.zeroValue3
 t4:=Tryz.underlying4
 a4:=Tryz.isAgg4
 z4:=Tryz.sizeOf4
 v4:=Tryz.zeroValue4
 t9:=Tryz.underlying9
 a9:=Tryz.isAgg9
 z9:=Tryz.sizeOf9
 v9:=Tryz.zeroValue9
 t24:=Tryz.underlying207
 a24:=Tryz.isAgg207
 z24:=Tryz.sizeOf207
 v24:=Tryz.zeroValue207
 i9:=by kernel_rfl}
def Eh:Go.Shelf.Ren:=⟨fun | 21=>251 | 27=>270 | 28=>271 | 35=>282 | 39=>289 | n=>n,fun | 22=>55 | 3=>3 | 4=>4 | 0=>0 | n=>n,fun | n=>n⟩
def Ny:Go.Proofs.Lays2.n21 Tryz.prog Eh:= {
 mixed:=by kernel_rfl
 f21:=Tryz.func251.trans (congrArg some (by kernel_rfl))
 f27:=Tryz.func270.trans (congrArg some (by kernel_rfl))
 f28:=Tryz.func271.trans (congrArg some (by kernel_rfl))
 f35:=Tryz.func282.trans (congrArg some (by kernel_rfl))
 f39:=Tryz.func289.trans (congrArg some (by kernel_rfl))
 t0:=Tryz.underlying0
 a0:=Tryz.isAgg0
 z0:=Tryz.sizeOf0
 v0:=Tryz.zeroValue0
 t3:=Tryz.underlying3
 a3:=Tryz.isAgg3
 z3:=Tryz.sizeOf3
 v3:=Tryz.zeroValue3
 t4:=Tryz.underlying4
 a4:=Tryz.isAgg4
 z4:=Tryz.sizeOf4
 v4:=Tryz.zeroValue4
 t22:=Tryz.underlying55
 a22:=Tryz.isAgg55
 z22:=Tryz.sizeOf55
 v22:=Tryz.zeroValue55
 i3:=by kernel_rfl}
def Ei:Go.Shelf.Ren:=⟨fun | 24=>252 | n=>n,fun | 24=>207 | 9=>9 | 3=>3 | 4=>4 | 0=>0 | n=>n,fun | n=>n⟩
def Nz:Go.Proofs.Lays2.n24 Tryz.prog Ei:= {
 mixed:=by kernel_rfl
 f24:=Tryz.func252.trans (congrArg some (by kernel_rfl))
 t0:=Tryz.underlying0
 a0:=Tryz.isAgg0
 z0:=Tryz.sizeOf0
 v0:=Tryz.zeroValue0
 t3:=Tryz.underlying3
 a3:=Tryz.isAgg3
 z3:=Tryz.sizeOf3
 v3:=Tryz.zeroValue3
 t4:=Tryz.underlying4
 a4:=Tryz.isAgg4
 z4:=Tryz.sizeOf4
 v4:=Tryz.zeroValue4
 t9:=Tryz.underlying9
 a9:=Tryz.isAgg9
 z9:=Tryz.sizeOf9
 v9:=Tryz.zeroValue9
 t24:=Tryz.underlying207
 a24:=Tryz.isAgg207
 z24:=Tryz.sizeOf207
 v24:=Tryz.zeroValue207
 i9:=by kernel_rfl}
def Ej:Go.Shelf.Ren:=⟨fun | 23=>253 | n=>n,fun | 22=>55 | 3=>3 | 4=>4 | 0=>0 | n=>n,fun | n=>n⟩
def NA:Go.Proofs.Lays2.n23 Tryz.prog Ej:= {
 mixed:=by kernel_rfl
 f23:=Tryz.func253.trans (congrArg some (by kernel_rfl))
 t0:=Tryz.underlying0
 a0:=Tryz.isAgg0
 z0:=Tryz.sizeOf0
 v0:=Tryz.zeroValue0
 t3:=Tryz.underlying3
 a3:=Tryz.isAgg3
 z3:=Tryz.sizeOf3
 v3:=Tryz.zeroValue3
 t4:=Tryz.underlying4
 a4:=Tryz.isAgg4
 z4:=Tryz.sizeOf4
 v4:=Tryz.zeroValue4
 t22:=Tryz.underlying55
 a22:=Tryz.isAgg55
 z22:=Tryz.sizeOf55
 v22:=Tryz.zeroValue55
 i3:=by kernel_rfl}
def E7:Go.Shelf.Ren:=⟨fun | 16=>240 | n=>n,fun | 24=>207 | 9=>9 | 4=>4 | n=>n,fun | n=>n⟩
def RU:Go.Proofs.Lays2.n16 Tryz.prog E7:= {
 mixed:=by kernel_rfl
 f16:=Tryz.func240.trans (congrArg some (by kernel_rfl))
 t4:=Tryz.underlying4
 a4:=Tryz.isAgg4
 z4:=Tryz.sizeOf4
 v4:=Tryz.zeroValue4
 t9:=Tryz.underlying9
 a9:=Tryz.isAgg9
 z9:=Tryz.sizeOf9
 v9:=Tryz.zeroValue9
 t24:=Tryz.underlying207
 a24:=Tryz.isAgg207
 z24:=Tryz.sizeOf207
 v24:=Tryz.zeroValue207
 i9:=by kernel_rfl}
end Go.Proofs

namespace Go.X.Tr
open Go Go.Proofs Go.X
set_option maxRecDepth 20000
set_option maxHeartbeats 4000000
def zl(p:Option Addr)(cap:Nat)(l:List ByteArray)(x:ByteArray)(hl:l.length<=1000000:=by omega):Spec Tryz.prog 249 [.slice p l.length cap,.string x] [jZ p cap 9 l] (fun v H1=>v= .tuple #[iI (bsS l x),.bool (I6 l x)]/\H1=[jZ p cap 9 l]):=LX Go.Proofs.Nw p cap 9 l x hl
def ads(p:Option Addr)(cap:Nat)(l:List ByteArray)(i:Nat)(hi:i<=l.length)(x:ByteArray)(vb:Nat)(hl:l.length<=1000000):Spec Tryz.prog 250 [.slice p l.length cap,iI i,.slice (some ⟨vb,0,none⟩) 1 1] [jZ p cap 9 l,.row (.slice (some ⟨vb,0,none⟩) 1 1) 9 1 1 [.string x]]
   (fun v H1=>∃ p' cQ,v= .slice p' (l.length+1) cQ/\H1=[.row (.slice p' (l.length+1) cQ) 9 1 (l.length+1) (strs (l.insertIdx i x)),.row (.slice (some ⟨vb,0,none⟩) 1 1) 9 1 1 [.string x]]):=EB Go.Proofs.Nx p cap l i hi x vb 9 hl
def adt(p:Option Addr)(cap:Nat)(l:List Int)(i:Nat)(hi:i<=l.length)(x:Int)(vb:Nat)(hl:l.length<=1000000):Spec Tryz.prog 251 [.slice p l.length cap,iI i,.slice (some ⟨vb,0,none⟩) 1 1] [dh p cap 3 l,.row (.slice (some ⟨vb,0,none⟩) 1 1) 3 1 1 [iI x]]
   (fun v H1=>∃ p' cQ,v= .slice p' (l.length+1) cQ/\H1=[.row (.slice p' (l.length+1) cQ) 3 1 (l.length+1) (fS (l.insertIdx i x)),.row (.slice (some ⟨vb,0,none⟩) 1 1) 3 1 1 [iI x]]):=LW Go.Proofs.Ny p cap l i hi x vb 3 hl
def adu(p:Option Addr)(cap:Nat)(l:List ByteArray)(i:Nat)(hi:i<l.length)(hl:l.length<=1000000):Spec Tryz.prog 252 [.slice p l.length cap,iI i,iI (i+1)] [jZ p cap 9 l] (fun v H1=>v= .slice p (l.length-1) cap/\H1=[.row (.slice p (l.length-1) cap) 9 1 (l.length-1) (strs (l.eraseIdx i))]):=EC Go.Proofs.Nz p cap l i hi 9 hl
def adv(p:Option Addr)(cap:Nat)(l:List Int)(i:Nat)(hi:i<l.length)(hl:l.length<=1000000):Spec Tryz.prog 253 [.slice p l.length cap,iI i,iI (i+1)] [dh p cap 3 l] (fun v H1=>v= .slice p (l.length-1) cap/\H1=[.row (.slice p (l.length-1) cap) 3 1 (l.length-1) (fS (l.eraseIdx i))]):=LY Go.Proofs.NA p cap l i hi 3 hl
def Zx(p:Option Addr)(cap:Nat)(l:List ByteArray)(hl:l.length<=1000000):Spec Tryz.prog 240 [.slice p l.length cap] [jZ p cap 9 l] (fun v H1=>∃ p' cQ,v= .slice p' l.length cQ/\H1=[jZ p' cQ 9 l,jZ p cap 9 l]):=G2 Go.Proofs.RU p cap 9 l hl
def Wn(x:ByteArray)(hx:x.size<=9223372036854775807):Spec Tryz.prog 247 [.string x] [] (fun v H1=>v= .bool (ki x)/\H1=[]):=by
 refine Spec.go 53 [0,2,3,5,6,7,36] [] Tryz.func247 fun W=> ?_;refine lp (σ:=Int) (fun i=>(x.size-i).toNat) (fun i=>(0<=i/\i<=x.size)/\∀ j,j<i.toNat->YO (x.get! j)=true) (fun i=>[(6,iI i),(0,.string x),(5,iI x.size)]) (fun i=>XM W (cm []) []) (0) ?_ S3 (xq .nil) ?_
 ·simp_all
 intro i hi;obtain⟨hi,ho⟩:=hi;apply gC;refine cd ?_ ?_<;>intro h1
 ·obtain⟨u,hu⟩:=J8 (s:=x) (j:=i.toNat) og;have hg:=U1 hu;refine XO.v (gG rfl rfl Tryz.underlying9 og hu) rfl (gO ?_);refine sp 13 rfl ?_ ?_<;>intro h2
  ·refine XO.v (gG rfl rfl Tryz.underlying9 og hu) rfl (gO ?_);refine sp 24 rfl ?_ ?_<;>intro h3
   ·refine XO.v (gG rfl rfl Tryz.underlying9 og hu) rfl (gO ?_);refine cd ?_ ?_<;>intro h4
    ·refine bI .nil ?_;grind [aU,aS,bN,YO,ki]
    ·refine sd (ag (i+1) ?_ ?_ S3 (xq .nil));all_goals grind [YO]
   ·refine XO.v (gG rfl rfl Tryz.underlying9 og hu) rfl (gO ?_);refine sp 31 rfl ?_ ?_<;>intro h5
    ·refine XO.v (gG rfl rfl Tryz.underlying9 og hu) rfl (gO ?_);refine cd ?_ ?_<;>intro h6
     ·refine bI .nil ?_;grind [aU,aS,bN,YO,ki]
     ·refine sd (ag (i+1) ?_ ?_ S3 (xq .nil));all_goals omega
    ·refine sd (ag (i+1) ?_ ?_ S3 (xq .nil));all_goals grind [YO]
  ·refine XO.v (gG rfl rfl Tryz.underlying9 og hu) rfl (gO ?_);refine sp 19 rfl ?_ ?_<;>intro h7
   ·refine XO.v (gG rfl rfl Tryz.underlying9 og hu) rfl (gO ?_);refine sp 24 rfl ?_ ?_<;>intro h8
    ·refine XO.v (gG rfl rfl Tryz.underlying9 og hu) rfl (gO ?_);refine cd ?_ ?_<;>intro h9
     ·refine bI .nil ?_;omega
     ·refine sd (ag (i+1) ?_ ?_ S3 (xq .nil));all_goals omega
    ·refine XO.v (gG rfl rfl Tryz.underlying9 og hu) rfl (gO ?_);refine sp 31 rfl ?_ ?_<;>intro Ss
     ·refine XO.v (gG rfl rfl Tryz.underlying9 og hu) rfl (gO ?_);refine cd ?_ ?_<;>intro h11
      ·refine bI .nil ?_;grind [aU,aS,bN,YO,ki]
      ·refine sd (ag (i+1) ?_ ?_ S3 (xq .nil));all_goals omega
     ·refine sd (ag (i+1) ?_ ?_ S3 (xq .nil));all_goals omega
   ·refine sd (ag (i+1) ?_ ?_ S3 (xq .nil));all_goals grind [YO]
 ·have LH:∀ j,j<x.size->YO (x.get! j)=true:=fun j hj=>ho j og;refine sp 40 rfl ?_ ?_<;>intro h12
  ·refine sp 44 rfl ?_ ?_<;>intro h13
   ·refine sp 48 rfl ?_ ?_<;>intro h14
    ·refine bI .nil ?_;grind [aU,aS,yE,ki]
    ·refine bI .nil ?_;grind [aU,aS,bN,ki]
   ·refine bI .nil ?_;grind [aU,aS,bN,ki]
  ·refine bI .nil ?_;grind [aU,aS,bN,yE,ki]
def AH(b o:Nat)(s:FC)(n:Int):Spec Tryz.prog 185 [az b o 0,iI n] [.cells b o 321 (aC s)] (fun v H1=>v=ay 102 (s.cF n 0)/\H1=[.cells b o 321 (aC s)]):=by
 refine Spec.go 21 [0,1,4,10,19] [] Tryz.func185 fun W=> ?_;refine sp 7 rfl ?_ ?_<;>intro h1
 ·refine bI .h1 ?_;try dsimp only[aU,aS,bG,bN]
  have e:s.cF n 0=1:=by unfold FF.cF;rw[if_pos og]
  grind [ay]
 ·refine cd ?_ ?_<;>intro h2
  ·refine bI .h1 ?_;try dsimp only[aU,aS,bG,bN]
   have e:s.cF n 0=1:=by unfold FF.cF;rw[if_pos og]
   grind [ay]
  ·refine sd (ld .aa (fQ _ _) ?_);refine cd ?_ ?_<;>intro h3
   ·refine bI .h1 ?_;try dsimp only[aU,aS,bG,bN]
    have e:s.cF n 0=2:=by unfold FF.cF;rw[if_neg og,if_pos og]
    grind [ay]
   ·refine bI .h1 ?_;try dsimp only[aU,aS,bG,bN]
    have e:s.cF n 0=0:=by unfold FF.cF;rw[if_neg og,if_neg og,if_neg og]
    grind [ay]
def Pv(b o:Nat)(s:FC)(n:Int):Spec Tryz.prog 237 [az b o 0,iI n] [.cells b o 321 (aC s)] (fun v H1=>v=ay 102 (s.cF n 2)/\H1=[.cells b o 321 (aC s)]):=by
 refine Spec.go 23 [0,1,4,5,20] [] Tryz.func237 fun W=> ?_;refine cq (AH _ _ _ _) .h1 ?_;refine sp 11 rfl ?_ ?_<;>intro h1
 ·obtain⟨i1,i2,i3⟩:=FF.yG (show s.cF n 0=0 by assumption);refine sd (ld .aa (fQ _ _) ?_);refine cd ?_ ?_<;>intro h2
  ·refine bI .h1 ?_;try dsimp only[aU,aS,bG,bN]
   have e:s.cF n 2=11:=by unfold FF.cF;rw[if_neg og,if_neg og,if_pos og]
   grind [ay]
  ·refine bI .h1 ?_;try dsimp only[aU,aS,bG,bN]
   have e:s.cF n 2=0:=by unfold FF.cF;rw[if_neg og,if_neg og,if_neg og]
   simp_all
 ·have i0:s.cF n 0≠0:=aq;refine bI .h1 ?_;try dsimp only[aU,aS,bG,bN]
  exact⟨by rw[FF.U2 i0],rfl⟩
def NB(b o:Nat)(s:FC)(n:Int):Spec Tryz.prog 194 [az b o 0,iI n] [.cells b o 321 (aC s)] (fun v H1=>v=ay 102 (s.cF n 1)/\H1=[.cells b o 321 (aC s)]):=by
 refine Spec.go 23 [0,1,4,5,20] [] Tryz.func194 fun W=> ?_;refine cq (AH _ _ _ _) .h1 ?_;refine sp 11 rfl ?_ ?_<;>intro h1
 ·obtain⟨i1,i2,i3⟩:=FF.yG (show s.cF n 0=0 by assumption);refine sd (ld .aa (fQ _ _) ?_);refine cd ?_ ?_<;>intro h2
  ·refine bI .h1 ?_;try dsimp only[aU,aS,bG,bN]
   have e:s.cF n 1=11:=by unfold FF.cF;rw[if_neg og,if_neg og,if_pos og]
   grind [ay]
  ·refine bI .h1 ?_;try dsimp only[aU,aS,bG,bN]
   have e:s.cF n 1=0:=by unfold FF.cF;rw[if_neg og,if_neg og,if_neg og]
   simp_all
 ·have i0:s.cF n 0≠0:=aq;refine bI .h1 ?_;try dsimp only[aU,aS,bG,bN]
  exact⟨by rw[FF.U2 i0],rfl⟩
def xw(b o:Nat)(s:FC)(hI:s.toFF.Sh)(n:Int)(x:ByteArray):Spec Tryz.prog 235 [az b o 0,iI n,.string x] [.cells b o 321 (aC s),.aW au (s.bd 9),.aW au (s.bh 3)] (fun v H1=>v= .tuple #[iI (s.bM n x),ay 102 (s.fK n x)]/\H1=[.cells b o 321 (aC s),.aW au (FC.bd 9 s),.aW au (FC.bh 3 s)]):=by
 refine Spec.go 42 [0,1,2,6,7,8,9,10,15,30] [] Tryz.func235 fun W=> ?_;refine cq (Pv _ _ _ _) .h1 ?_;refine cd ?_ ?_<;>intro h1
 ·have i0:s.cF n 2≠0:=aq;refine eH (pz 3) ?_;have e:s.fK n x=s.cF n 2:=by unfold FF.fK;rw[if_pos i0]
  exact⟨by rw[show s.bM n x=0 from by unfold FF.bM;rw[if_neg og],e]<;>rfl,rfl⟩
 ·obtain⟨i1,i2,i3,i4⟩:=FF.jt (show s.cF n 2=0 by simpa using h1);have i0:s.cF n 2=0:=by simpa using h1
  obtain⟨hr,hk,h8,_⟩:=hI.js n i1 i2;have SG:=Dp hr x;have hbh:=yD hr x;have hpl:=ot (s.aI n) x;refine sd (ld .aa (fw _ _) (XR.mono (fun _ bL=>nB (s:=s) (z:=n) og (pk [1]) bL) ?_));refine cq (zl _ _ _ _) .h1 ?_;apply XR.mono fun _ bL=>lM (s:=s) s (z:=n) og rfl (cJ _ rfl).symm (cJ _ rfl).symm (cJ _ rfl).symm (pz 2) bL;refine wM ?_ ?_<;>intro h2
  ·try simp only[sb]at h2
   have hh:ph (s.aI n) x=false:=by rw[<-hbh];simpa using h2
   refine eH (pk [1,0,0]) ?_;have e:s.fK n x=2:=by unfold FF.fK;rw[if_neg og,if_neg (by rw[hh];simp)]
   exact⟨by rw[show s.bM n x=0 from by unfold FF.bM;rw[if_neg og],e];rfl,rfl⟩
  ·try simp only[sb]at h2
   have hh:ph (s.aI n) x=true:=by rw[<-hbh];simpa using h2
   obtain⟨SH,Lw⟩:=ma.1 hh;refine sd (XR.mono (fun _ bL=>yN (s:=s) (z:=n) og (pk [2]) bL) (ld (.t3 .aa) (mf _ _) (bR .aa og ?_)));intro g hg;rw[hg];refine sd (zp .aa (ints_at) (XR.mono (fun _ bL=>vx (s:=s) s (z:=n) og rfl (cJ _ rfl).symm (cJ _ hg).symm (cJ _ rfl).symm (pz 2) bL) (bA rfl rfl rfl (ah (pk [2,1,0]) rfl ?_))));have e:s.fK n x=0:=by unfold FF.fK;rw[if_neg og,if_pos hh]
   exact⟨by rw[show s.bM n x=jc (s.kids n) (ey (s.aI n) x)from by unfold FF.bM;rw[if_pos e],e,SG];rfl,rfl⟩
def Ek(b o:Nat)(s:FC)(hI:s.toFF.Sh)(n:Int)(x:ByteArray)(hx:x.size<=9223372036854775807):Spec Tryz.prog 233 [az b o 0,iI n,.string x] [.cells b o 321 (aC s),.aW au (s.bd 9),.aW au (s.bh 3)] (fun v H1=>v=ay 102 (s.fe n x)/\H1=[.cells b o 321 (aC s),.aW au (FC.bd 9 s),.aW au (FC.bh 3 s)]):=by
 refine Spec.go 44 [0,1,2,6,7,9,14,18,32,42] [] Tryz.func233 fun W=> ?_;refine cq (Pv _ _ _ _) .h1 ?_;refine cd ?_ ?_<;>intro h1
 ·have i0:s.cF n 2≠0:=aq;refine bI (pz 3) ?_;try dsimp only[aU,aS,bG,bN]
  have e:s.fe n x=s.cF n 2:=by unfold FF.fe;rw[if_pos i0]
  simp_all
 ·obtain⟨i1,i2,i3,i4⟩:=FF.jt (show s.cF n 2=0 by simpa using h1);have i0:s.cF n 2=0:=by simpa using h1
  obtain⟨hr,hk,h8,_⟩:=hI.js n og og;have SG:=Dp hr x;have hbh:=yD hr x;have hpl:=ot (s.aI n) x;refine cq (Wn _ og) .nil ?_;refine wM ?_ ?_<;>intro h2
  ·try simp only[sb]at h2
   have hn:ki x=false:=by simpa using h2
   refine bI (pz 3) ?_;try dsimp only[aU,aS,bG,bN]
   have e:s.fe n x=9:=by unfold FF.fe;rw[if_neg og,if_pos hn]
   grind [ay]
  ·try simp only[sb]at h2
   have hn:ki x=true:=by simpa using h2
   refine sd (ld .aa (fw _ _) (XR.mono (fun _ bL=>nB (s:=s) (z:=n) og (pk [1]) bL) ?_));refine cq (zl _ _ _ _) .h1 ?_;refine XR.mono (fun _ bL=>lM (s:=s) s (z:=n) og rfl (cJ _ rfl).symm (cJ _ rfl).symm (cJ _ rfl).symm (pz 2) bL) ?_;refine wM ?_ ?_<;>intro h3
   ·try simp only[sb]at h3
    have hh:ph (s.aI n) x=true:=by rw[<-hbh];simpa using h3
    refine bI (pk [1,0,0]) ?_;try dsimp only[aU,aS,bG,bN]
    have e:s.fe n x=3:=by unfold FF.fe;rw[if_neg og,if_neg (by rw[hn];simp),if_pos hh]
    grind [ay]
   ·try simp only[sb]at h3
    have hh:ph (s.aI n) x=false:=by rw[<-hbh];simpa using h3
    refine sd (ld (.ao .aa) (fw _ _) ?_);refine cd ?_ ?_<;>intro h4
    ·refine bI (pk [1,0,0]) ?_;try dsimp only[aU,aS,bG,bN]
     have e:s.fe n x=4:=by unfold FF.fe;rw[if_neg og,if_neg (by rw[hn];simp),if_neg (by rw[hh];simp),if_pos og]
     grind [ay]
    ·refine bI (pk [1,0,0]) ?_;try dsimp only[aU,aS,bG,bN]
     have e:s.fe n x=0:=by unfold FF.fe;rw[if_neg og,if_neg (by rw[hn];simp),if_neg (by rw[hh];simp),if_neg og]
     grind [ay]
def El(b o:Nat)(s:FC)(hI:s.toFF.Sh)(n:Int)(x:ByteArray)(k:Int)(hn:0<=n/\n<40:=by omega):Spec Tryz.prog 234 [az b o 0,iI n,.string x,iI k] [.cells b o 321 (aC s),.aW au (s.bd 9),.aW au (s.bh 3)] (fun v H1=>v= .tuple #[]/\∃ t:FC,t.toFF=s.ti n x k/\t.rP=s.rP/\t.rC=s.rC/\H1=[.cells b o 321 (aC t),.aW au (FC.bd 9 t),.aW au (FC.bh 3 t)]):=by
 obtain⟨hr,hk,h8,_⟩:=hI.js n og og;have SG:=Dp hr x;have hbh:=yD hr x;have hpl:=ot (s.aI n) x;refine Spec.go 47 [2,3,8,9] [] Tryz.func234 fun W=> ?_;refine sd (ld .aa (fw _ _) (XR.mono (fun _ bL=>nB (s:=s) (z:=n) og (pk [1]) bL) ?_));refine ca (zl _ _ _ _) .h1 ?_;rintro _ _ ⟨rfl,rfl⟩;rw[SG];apply gO;refine XR.mono (fun _ bL=>lM (s:=s) s (z:=n) og rfl (cJ _ rfl).symm (cJ _ rfl).symm (cJ _ rfl).symm (pz 2) bL) (ld (.ao .aa) (fw _ _) (XR.mono (fun _ bL=>nB (s:=s) (z:=n) og .h1 bL) (nt (e:=9) (vs:= #[(0,.string x)]) (A:= #[.string x]) (sz:=1) rfl (fun _=>kq) rfl og rfl ?_)));intro b1;apply gO;refine ca (ads _ _ _ _ hpl _ _ og) (pk [1,0]) ?_;rintro _ _ ⟨p1,c1,rfl,rfl⟩;apply gO;refine XR.mono (fun _ bL=>lM (s:=s) ({s with aI:=ad s.aI n ((s.aI n).insertIdx (ey (s.aI n) x) x),nP:=ad s.nP n p1,nC:=ad s.nC n c1} :FC) (z:=n) (l:=((s.aI n).insertIdx (ey (s.aI n) x) x)) og (by rw[List.length_insertIdx,if_pos hpl]) rfl rfl rfl (pk [0,1]) bL) (st (.t2 .aa) (sS _ _ og ((s.aI n).insertIdx (ey (s.aI n) x) x) _ _ _ (by rw[List.length_insertIdx,if_pos hpl])) rfl (ld (.t2 .aa) (mf _ _) (XR.mono (fun _ bL=>yN (s:=s) (z:=n) og (pk [3]) bL) (nt (e:=3) (vs:= #[(0,iI k)]) (A:= #[iI k]) (sz:=1) rfl (fun _=>kq) rfl og rfl ?_))));intro b2;apply gO;refine ca (adt (s.kP n) (s.kC n) (s.kids n) (ey (s.aI n) x) og k _ og) (pk [1,0]) ?_;rintro _ _ ⟨p2,c2,rfl,rfl⟩;apply gO;refine XR.mono (fun _ bL=>vx (s:=s) (s.afK n x k p1 c1 p2 c2) (z:=n) (l:=((s.kids n).insertIdx (ey (s.aI n) x) k)) og (by rw[List.length_insertIdx,if_pos og]) rfl rfl rfl (pk [0,1]) bL) (st (.t4 .aa) (ur _ _ og ((s.kids n).insertIdx (ey (s.aI n) x) k) _ _ _ (by rw[List.length_insertIdx,if_pos og])) rfl (cU rfl (ah (pk [4,2,0]) rfl ?_)));exact⟨rfl,s.afK n x k p1 c1 p2 c2,rfl,rfl,rfl,rfl⟩
def Pw(b o:Nat)(s:FC)(hI:s.toFF.Sh)(n:Int)(x:ByteArray)(hn:0<=n/\n<40)(hh:ph (s.aI n) x=true):Spec Tryz.prog 236 [az b o 0,iI n,.string x] [.cells b o 321 (aC s),.aW au (s.bd 9),.aW au (s.bh 3)] (fun v H1=>v= .tuple #[]/\∃ t:FC,t.toFF=s.ew n x/\t.rP=s.rP/\t.rC=s.rC/\H1=[.cells b o 321 (aC t),.aW au (FC.bd 9 t),.aW au (FC.bh 3 t)]):=by
 obtain⟨hr,hk,h8,_⟩:=hI.js n og og;have SG:=Dp hr x;have hbh:=yD hr x;have hpl:=ot (s.aI n) x;have rz:=(ma.1 hh).1;refine Spec.go 45 [2,6,7] [] Tryz.func236 fun W=> ?_;refine sd (ld .aa (fw _ _) (XR.mono (fun _ bL=>nB (s:=s) (z:=n) og (pk [1]) bL) ?_));refine ca (zl _ _ _ _) .h1 ?_;rintro _ _ ⟨rfl,rfl⟩;rw[SG];apply gO;refine XR.mono (fun _ bL=>lM (s:=s) s (z:=n) og rfl (cJ _ rfl).symm (cJ _ rfl).symm (cJ _ rfl).symm (pz 2) bL) (ld (.ao .aa) (fw _ _) (XR.mono (fun _ bL=>nB (s:=s) (z:=n) og .h1 bL) (sd ?_)));refine cq (adu _ _ _ _ rz og) .h1 ?_;refine XR.mono (fun _ bL=>lM (s:=s) ({s with aI:=ad s.aI n ((s.aI n).eraseIdx (ey (s.aI n) x)),nP:=ad s.nP n (s.nP n),nC:=ad s.nC n (s.nC n)} :FC) (z:=n) (l:=((s.aI n).eraseIdx (ey (s.aI n) x))) og (by rw[List.length_eraseIdx,if_pos rz]) rfl rfl rfl (pz 2) bL) (st (.ao .aa) (sS _ _ og ((s.aI n).eraseIdx (ey (s.aI n) x)) _ _ _ (by rw[List.length_eraseIdx,if_pos rz])) rfl (ld (.ao .aa) (mf _ _) (XR.mono (fun _ bL=>yN (s:=s) (z:=n) og (pk [2]) bL) (sd ?_))));refine cq (adv (s.kP n) (s.kC n) (s.kids n) (ey (s.aI n) x) og og) .h1 ?_;refine XR.mono (fun _ bL=>vx (s:=s) (s.afL n x) (z:=n) (l:=((s.kids n).eraseIdx (ey (s.aI n) x))) og (by rw[List.length_eraseIdx,if_pos og]) rfl rfl rfl (pz 2) bL) (st (.t2 .aa) (ur _ _ og ((s.kids n).eraseIdx (ey (s.aI n) x)) _ _ _ (by rw[List.length_eraseIdx,if_pos og])) rfl (cU rfl (ah (pk [2,1,0]) rfl ?_)));exact⟨rfl,s.afL n x,rfl,rfl,rfl,rfl⟩
def vH(b o:Nat)(s:FC)(k t l u:Int):Spec Tryz.prog 175 [az b o 0,.agg (yO k t l u)] [.cells b o 321 (aC s),.aW au (s.bd 9),.aW au (s.bh 3)] (fun v H1=>(s.free<0/\v= .tuple #[iI 0,ay 102 4]/\H1=[.cells b o 321 (aC s),.aW au (FC.bd 9 s),.aW au (FC.bh 3 s)])\/(¬s.free<0/\v= .tuple #[iI s.free,ay 102 0]/\H1=[.cells b o 321 (aC (s.xc s.free k t l u)),.aW au (FC.bd 9 (s.xc s.free k t l u)),.aW au (FC.bh 3 (s.xc s.free k t l u))])):=by
 refine Spec.go 27 [0,3,4,5,6,7,8,17] [] Tryz.func175 fun W=> ?_;refine XO.box (m:=8) (C:=aC.cell (Gd k t l u)) rfl rfl (Kg k t l u) rfl ?_;intro bx;apply gO;refine lp (σ:=Int) (fun i=>(40-i).toNat) (fun i=>(0<=i/\i<=40)/\∀ j,0<=j->j<i->s.aN j≠0) (fun i=>[(7,iI i),(0,az b o 0),(3,az bx 0 0)]) (fun i=>XM W (cm [.cells b o 321 (aC s),.aW au (s.bd 9),.aW au (s.bh 3)]) [.cells b o 321 (aC s),.aW au (s.bd 9),.aW au (s.bh 3),.cells bx 0 8 (aC.cell (Gd k t l u))]) (0) ?_ S3 (xq (pk [1,1,1,0])) ?_
 ·grind
 intro i hi;obtain⟨hi,ho⟩:=hi;apply gC;refine cd ?_ ?_<;>intro h1
 ·refine sd (ld .aa (fQ _ _) ?_);refine cd ?_ ?_<;>intro h2
  ·refine rq [0,1,2,3,4,5,6] mixed (lP (.t3 .aa) (U5 k t l u) (sd (gn .aa (Kf s i k t l u) rfl ⟨rfl,rfl⟩ (XR.mono (fun _ bL=>OJ (s:=s) (s.xc i k t l u) og rfl rfl rfl (pk [1]) bL) (XR.mono (fun _ bL=>OK (s:=s) (s.xc i k t l u) og rfl rfl rfl (pk [2]) bL) (bA rfl rfl rfl (ah (pk [2,1,0]) rfl ?_)))))));try dsimp only[aU,aS,bG,bN]
   have e:=FF.pV hi.1 og ho aq;grind [ay]
  ·refine sd (ag (i+1) ?_ ?_ S3 (xq (pz 4)));all_goals grind
 ·refine eH (pz 3) ?_;try dsimp only[aU,aS,bG,bN]
  have e:=FF.zW (s:=s.toFF) fun j a b=>ho j a og;grind [ay]
def NC(b o:Nat)(s:FC)(n:Int)(hn:0<=n/\n<40:=by omega):Spec Tryz.prog 195 [az b o 0,iI n] [.cells b o 321 (aC s),.aW au (s.bd 9),.aW au (s.bh 3)] (fun v H1=>v= .tuple #[]/\∃ t:FC,t.toFF=s.q8 n/\t.rP=s.rP/\t.rC=s.rC/\H1=[.cells b o 321 (aC t),.aW au (FC.bd 9 t),.aW au (FC.bh 3 t)]):=by
 refine Spec.go 28 [0,1,21] [] Tryz.func195 fun W=> ?_;refine sd (ld .aa (lr _ _) ?_);refine sp 12 rfl ?_ ?_<;>intro h1
 ·refine sd (ld .aa (kj _ _) ?_);refine cd ?_ ?_<;>intro h2
  ·refine XO.v (V.build (vs:= #[]) rfl (v:=.agg (yO 0 0 0 0)) fun _=>kq) rfl (gO ?_);refine sd (gn .aa (Kf s n 0 0 0 0) rfl ⟨rfl,rfl⟩ (XR.mono (fun _ bL=>OJ (s:=s) (s.xc n 0 0 0 0) og rfl rfl rfl (pk [1]) bL) (XR.mono (fun _ bL=>OK (s:=s) (s.xc n 0 0 0 0) og rfl rfl rfl (pk [2]) bL) (cU rfl (ah (pk [2,1,0]) rfl ?_)))));exact⟨rfl,s.xc n 0 0 0 0,by unfold FF.q8;rw[if_pos ⟨aq,aq⟩];rfl,rfl,rfl,rfl⟩
  ·refine cU rfl (ah (pz 3) rfl ?_);exact⟨rfl,s,by unfold FF.q8;rw[if_neg og],rfl,rfl,rfl⟩
 ·refine cU rfl (ah (pz 3) rfl ?_);exact⟨rfl,s,by unfold FF.q8;rw[if_neg og],rfl,rfl,rfl⟩
def adx(b o:Nat)(s:FC)(n:Int):Spec Tryz.prog 239 [az b o 0,iI n] [.cells b o 321 (aC s)] (fun v H1=>v= .tuple #[iI (if s.cF n 0=0 then s.dD n else 0),ay 102 (s.cF n 0)]/\H1=[.cells b o 321 (aC s)]):=by
 refine Spec.go 20 [0,1,4,5,6,11] [] Tryz.func239 fun W=> ?_;refine cq (AH _ _ _ _) .h1 ?_;refine cd ?_ ?_<;>intro h1
 ·have i0:s.cF n 0≠0:=aq;refine eH .h1 ?_;grind [aU,aS,bN]
 ·obtain⟨i1,i2,i3,i4⟩:=FF.jt (show s.cF n 0=0 by simpa using h1);have i0:s.cF n 0=0:=by simpa using h1
  refine sd (ld .aa (gN _ _) (bA rfl rfl rfl (ah .h1 rfl ?_)));grind [aU,aS,bN,ay]
def Zy(b o:Nat)(s:FC)(d:Int->Nat)(n k:Int)(hn:0<=n/\n<40/\s.aN n=2)(hc:s.toFF.Ch d k):Spec Tryz.prog 238 [az b o 0,iI n,iI k] [.cells b o 321 (aC s)] (fun v H1=>v= .bool (FF.J9 d s.toFF n k)/\H1=[.cells b o 321 (aC s)]):=by
 refine Spec.go 26 [0,1,2,6,9,18] [] Tryz.func238 fun W=> ?_;refine lp (σ:=Int) (fun i=>d i) (fun i=>(0<=i/\i<40/\s.aN i=2)/\FF.J9 d s.toFF n k=FF.J9 d s.toFF i k) (fun i=>[(1,iI i),(0,az b o 0),(2,iI k)]) (fun i=>XM W (cm [.cells b o 321 (aC s)]) [.cells b o 321 (aC s)]) (n) ?_ S3 (xq .h1) ?_
 ·simp_all
 intro i hi;obtain⟨hi,he⟩:=hi;refine gC ?_;refine cd ?_ ?_<;>intro h1
 ·refine sd (ld .aa (yH _ _) ?_);refine cd ?_ ?_<;>intro h2
  ·refine bI .h1 ?_;try dsimp only[aU,aS,bG,bN]
   have e:=FF.yJ hc og og hi.2.2 (show i≠k by assumption);simp_all
  ·refine sd (ld .aa (yH _ _) (ag (s.up i) ?_ ?_ S3 (xq .h1)))
   ·rcases hc i og og hi.2.2 aq with g | ⟨g1,g2,g3,g4⟩;all_goals omega
   ·have e:=FF.yJ hc og og hi.2.2 (show i≠k by assumption);rw[if_neg aq]at e;rcases hc i og og hi.2.2 aq with g | ⟨g1,g2,g3,g4⟩;all_goals simp_all
 ·refine bI .h1 ?_;try dsimp only[aU,aS,bG,bN]
  have e:i=k:=og;exact⟨by rw[he,e,FF.Kd],rfl⟩
def Wo(b o:Nat)(s:FC)(hI:s.toFF.Sh)(t:Int):Spec Tryz.prog 176 [az b o 0,iI t] [.cells b o 321 (aC s),dh s.rP s.rC 3 s.roots] (fun v H1=>v= .tuple #[iI (s.fW t),ay 102 (s.mF t)]/\H1=[.cells b o 321 (aC s),dh s.rP s.rC 3 s.roots]):=by
 have hr4:=hI.roots.1;refine Spec.go 28 [0,1,4,5,11,19] [] Tryz.func176 fun W=> ?_;refine sp 8 rfl ?_ ?_<;>intro h1
 ·refine eH (pz 2) ?_;have e:s.mF t=1:=by unfold FF.mF;rw[if_pos og]
  exact⟨by rw[show s.fW t=0 from by unfold FF.fW;rw[if_neg og],e];rfl,rfl⟩
 ·refine cd ?_ ?_<;>intro h2
  ·refine eH (pz 2) ?_;have e:s.mF t=1:=by unfold FF.mF;rw[if_pos og]
   exact⟨by rw[show s.fW t=0 from by unfold FF.fW;rw[if_neg og],e];rfl,rfl⟩
  ·apply ld .aa (mV _);refine cd ?_ ?_<;>intro h3
   ·refine eH (pz 2) ?_;have e:s.mF t=2:=by unfold FF.mF;rw[if_neg og,if_pos og]
    exact⟨by rw[show s.fW t=0 from by unfold FF.fW;rw[if_neg og],e];rfl,rfl⟩
   ·refine ld .aa (mV _) (bR (.ao .aa) og ?_);intro g hg;rw[hg];refine sd (zp (.ao .aa) (ints_at) (bA rfl rfl rfl (ah (pz 2) rfl ?_)));have e:s.mF t=0:=by unfold FF.mF;rw[if_neg og,if_neg og]
    exact⟨by rw[show s.fW t=jc s.roots t from by unfold FF.fW;rw[if_pos e],e];rfl,rfl⟩
def AK:n5 Tryz.prog 211=true:=kq
def uP(z:Int):∀ w,(Instr.buildSlice 55 1 #[(0,iI z)]).run Tryz.prog w= .ok (.slice (some ⟨w.heap.size,0,none⟩) 1 1) (w.alloc (.cells #[iI z] 3)):=fun w=>kq
def qp:rF Tryz.prog 3 1=true:=kq
def nI:fm Tryz.prog 211=some 4:=kq
def VX:Spec Tryz.prog 99 [] [] (fun v H1=>∃ b,v=az b 0 0/\H1=[.cells b 0 321 (aC FC.du),.aW au (FC.bd 9 FC.du),.aW au (FC.bh 3 FC.du),dh (FC.rP FC.du) (FC.rC FC.du) 3 (FC.toFF FC.du).roots]):=by
 refine Spec.go 3 [0] [] Tryz.func99 fun W=> ?_;refine XO.v (V.build (vs:= #[]) rfl (v:=.agg Kh) fun _=>kq) rfl (gO ?_);refine XO.box (m:=321) (C:=aC FC.du) rfl ML Q8 rfl ?_;intro p;apply XO.mono fun _ bL=>HG bL;apply gO;refine bI (pk [3,0,0,0]) ?_;exact⟨_,rfl,rfl⟩
def Px(b o:Nat)(s:FC)(hI:s.toFF.Sh):Spec Tryz.prog 101 [az b o 0] [.cells b o 321 (aC s),.aW au (s.bd 9),.aW au (s.bh 3),dh s.rP s.rC 3 s.roots] (fun v H1=>∃ t:FC,v= .tuple #[iI s.w8,ay 102 s.qf]/\t.toFF=s.yF/\H1=[.cells b o 321 (aC t),.aW au (FC.bd 9 t),.aW au (FC.bh 3 t),dh (FC.rP t) (FC.rC t) 3 (FC.toFF t).roots]):=by
 have hr4:=hI.roots.1;refine Spec.go 50 [0,2,3,4,5,11,25] [] Tryz.func101 fun W=> ?_;apply ld .aa (mV _);refine cd ?_ ?_<;>intro h1
 ·refine eH (pz 4) ?_;have e:s.qf=4:=by unfold FF.qf;rw[if_pos og]
  exact⟨s,by rw[show s.w8=0 from by unfold FF.w8;rw[if_neg og],e];rfl,by unfold FF.yF;rw[if_neg og],rfl⟩
 ·apply ld .aa (mV _);refine XO.v (V.build (vs:= #[(0,iI 2),(1,iI (s.roots.length)),(2,iI 1)]) rfl (v:=.agg (yO 2 s.roots.length 1 0)) fun _=>kq) rfl (gO ?_);refine ca (vH _ _ _ _ _ _ _) (pz 3) ?_;rintro _ _ (⟨h2,rfl,rfl⟩ | ⟨h2,rfl,rfl⟩)
  ·try dsimp only[qo,Aw,Ax,Ay,Az,AB,AD,AE,AF,AG,vD,vE,vF,vG]
   apply gO;refine eH (pz 4) ?_;have e:s.qf=4:=by unfold FF.qf;rw[if_neg og,if_pos aq]
   exact⟨s,by rw[show s.w8=0 from by unfold FF.w8;rw[if_neg og],e]<;>rfl,by unfold FF.yF;rw[if_neg og],rfl⟩
  ·try dsimp only[qo,Aw,Ax,Ay,Az,AB,AD,AE,AF,AG,vD,vE,vF,vG]
   have f:=FF.yK (show ¬s.free<0 by assumption);apply gO;refine sd ?_;apply st .aa (ss _ _ og _) rfl;apply ld .aa (mV _);apply XO.buildSlice (A:= #[iI _]) (vs:= #[(0,iI _)]) rfl (uP _) rfl rfl;intro h3;apply gO;apply lv (e:=3) rfl rfl Tryz.underlying55 qp (.t4 .aa) .aa (by show s.roots.length+1<=_;omega) rfl;intro p1 c1;apply gO;apply st (.t2 .aa) (E1 _ (s.roots++[s.free]) _ _ _ rfl) rfl;apply ld (.t2 .aa) (mV _);refine sd ?_ (by simp only[List.length_append,List.length_singleton];omega);refine bA rfl rfl rfl (ah (pk [2,2,2,0]) rfl ?_);try dsimp only[aU,aS,bG,bN]
   have e:s.qf=0:=by unfold FF.qf;rw[if_neg og,if_neg aq]
   refine⟨_,?_,?_,rfl⟩
   ·rw[show s.w8=s.roots.length from by unfold FF.w8;rw[if_pos e],e];grind [ay]
   ·unfold FF.yF;rw[if_pos e,<-FF.YQ s.toFF s.free 2 _ 1 0 s.free];rfl
def No(b o:Nat)(s:FC)(hI:s.toFF.Sh)(n:Int):Spec Tryz.prog 217 [az b o 0,iI n] [.cells b o 321 (aC s)] (fun v H1=>v= .tuple #[.agg (s.Xi n).cR,ay 102 (s.cF n 0)]/\H1=[.cells b o 321 (aC s)]):=by
 refine Spec.go 35 [0,1,4,5,6,7,12] [] Tryz.func217 fun W=> ?_;apply XO.bQ (z:=.agg NV.zero.cR) (m:=4) (C:=nZ NV.zero) (oH _);intro bg;apply gO;refine cq (AH _ _ _ _) (pk [1]) ?_;refine cd ?_ ?_<;>intro h1
 ·have i0:s.cF n 0≠0:=aq;refine XO.v (V.build (vs:= #[]) rfl (v:=.agg NV.zero.cR) fun _=>kq) rfl (gO ?_);apply gn (.ao .aa) (mh _ _) rfl ⟨rfl,rfl⟩;refine dY rfl (.agg rfl (.ao .aa) (q9 _) AK nI) (.tmp rfl) (ah .h1 rfl ?_);grind [aU,aS,FF.Xi]
 ·obtain⟨i1,i2,i3⟩:=FF.yG (show s.cF n 0=0 by simpa using h1);have i0:s.cF n 0=0:=by simpa using h1
  refine sd ?_;apply lP .aa (Q9 _ _ og);apply XO.bQ (z:=.agg (yO 0 0 0 0)) (m:=8) (C:=aC.cell (Gd 0 0 0 0)) (Kg 0 0 0 0);intro bx;apply gO;apply gn .aa (U6 _ _) rfl ⟨rfl,rfl⟩;apply ld .aa (YS _);apply ld .aa (YT _);apply ld .aa (YU _);apply ld .aa (YV _);apply ld .aa (YW _);refine XO.v (V.build (vs:= #[(0,iI (s.aN n)),(1,iI (s.bK n)),(2,iI (s.bj n)),(3,iI (max ((s.data n).size:Int) ((s.kids n).length:Int)))]) rfl (v:=.agg (NV.mk (s.aN n) (s.bK n) (s.bj n) (max ((s.data n).size:Int) ((s.kids n).length:Int))).cR) fun _=>kq) rfl (gO ?_);apply gn (.t2 .aa) (mh _ _) rfl ⟨rfl,rfl⟩;refine dY rfl (.agg rfl (.t2 .aa) (q9 _) AK nI) (.tmp rfl) (ah (pk [1]) rfl ?_);grind [aU,aS,bN,FF.Xi,ay]
def ady(b o:Nat)(s:FC)(hI:s.toFF.Sh)(n:Int):Spec Tryz.prog 216 [az b o 0,iI n] [.cells b o 321 (aC s),.aW au (s.bd 9),.aW au (s.bh 3)] (fun v H1=>(s.cF n 2≠0/\v= .tuple #[.slice none 0 0,ay 102 (s.cF n 2)]/\H1=[.cells b o 321 (aC s),.aW au (FC.bd 9 s),.aW au (FC.bh 3 s)])\/(s.cF n 2=0/\∃ p c,v= .tuple #[.slice p (s.aI n).length c,ay 102 0]/\H1=jZ p c 9 (s.aI n)::[.cells b o 321 (aC s),.aW au (FC.bd 9 s),.aW au (FC.bh 3 s)])):=by
 refine Spec.go 21 [0,1,4,5,6,11] [] Tryz.func216 fun W=> ?_;refine cq (Pv _ _ _ _) .h1 ?_;refine cd ?_ ?_<;>intro h1
 ·have i0:s.cF n 2≠0:=aq;refine eH (pz 3) ?_;grind [aU,aS,bN]
 ·obtain⟨i1,i2,i3,i4⟩:=FF.jt (show s.cF n 2=0 by simpa using h1);have i0:s.cF n 2=0:=by simpa using h1
  obtain⟨hr,hk,h8,_⟩:=hI.js n og og;refine sd (ld .aa (fw _ _) (XR.mono (fun _ bL=>nB (s:=s) (z:=n) og (pk [1]) bL) ?_));refine ca (Zx _ _ _ og) .h1 ?_;rintro _ _ ⟨p1,c1,rfl,rfl⟩;apply gO;refine XR.mono (fun _ bL=>lM (s:=s) s (z:=n) og rfl (cJ _ rfl).symm (cJ _ rfl).symm (cJ _ rfl).symm (pk [1,1]) bL) (bA rfl rfl rfl (ah (pk [1,1,0,0]) rfl ?_));grind [aU,aS,bN,ay]
def Wp(b o:Nat)(s:FC)(hI:s.toFF.Sh)(n:Int)(x:ByteArray)(k:Int)(hx:x.size<=9223372036854775807):Spec Tryz.prog 207 [az b o 0,iI n,.string x,iI k] [.cells b o 321 (aC s),.aW au (s.bd 9),.aW au (s.bh 3)] (fun v H1=>v= .tuple #[iI (s.pj n x k),ay 102 (s.mG n x k)]/\∃ t:FC,t.toFF=s.make n x k/\t.rP=s.rP/\t.rC=s.rC/\H1=[.cells b o 321 (aC t),.aW au (FC.bd 9 t),.aW au (FC.bh 3 t)]):=by
 refine Spec.go 50 [0,1,2,3,8,9,10,11,17,24,42] [] Tryz.func207 fun W=> ?_;refine sp 14 rfl ?_ ?_<;>intro h1
 ·refine cd ?_ ?_<;>intro h2
  ·refine eH (pz 3) ?_;have e:s.mG n x k=1:=by unfold FF.mG;rw[if_pos og]
   exact⟨by rw[show s.pj n x k=0 from by unfold FF.pj;rw[if_neg og],e];rfl,s,by unfold FF.make;rw[if_neg og],rfl,rfl,rfl⟩
  ·refine cq (Ek _ _ _ hI _ _ aq) (pz 3) ?_;refine cd ?_ ?_<;>intro h3
   ·have m0:s.fe n x≠0:=aq;refine eH (pz 3) ?_;have e:s.mG n x k=s.fe n x:=by unfold FF.mG;rw[if_neg og,if_pos og]
    exact⟨by rw[show s.pj n x k=0 from by unfold FF.pj;rw[if_neg og],e]<;>rfl,s,by unfold FF.make;rw[if_neg og],rfl,rfl,rfl⟩
   ·obtain⟨m1,m2,m3,m4⟩:=FF.vw (show s.fe n x=0 by simpa using h3);obtain⟨i1,i2,i3,i4⟩:=FF.jt m1;have i5:=i4 og;have m0:s.fe n x=0:=by simpa using h3
    refine sd (ld .aa (gN _ _) (XO.v (V.build (vs:= #[(0,iI k),(1,iI (s.dD n)),(2,iI 1),(7,iI n)]) rfl (v:=.agg (yO k (s.dD n) 1 n)) fun _=>kq) rfl (gO ?_)));refine ca (vH _ _ _ _ _ _ _) (pz 3) ?_;rintro _ _ (⟨h4,rfl,rfl⟩ | ⟨h4,rfl,rfl⟩)
    ·try dsimp only[qo,Aw,Ax,Ay,Az,AB,AD,AE,AF,AG,vD,vE,vF,vG]
     apply gO;refine eH (pz 3) ?_;have e:s.mG n x k=4:=by unfold FF.mG;rw[if_neg og,if_neg og,if_pos aq]
     exact⟨by rw[show s.pj n x k=0 from by unfold FF.pj;rw[if_neg og],e]<;>rfl,s,by unfold FF.make;rw[if_neg og],rfl,rfl,rfl⟩
    ·try dsimp only[qo,Aw,Ax,Ay,Az,AB,AD,AE,AF,AG,vD,vE,vF,vG]
     have f:=FF.yK (show ¬s.free<0 by assumption);have RN:(s.xc s.free k (s.dD n) 1 n).toFF.Sh:=hI.jE _ _ _ _ _ og;apply gO;refine ca (El _ _ _ RN _ _ _) (pz 3) ?_;rintro _ _ ⟨rfl,t,ht,hp,hc,rfl⟩;apply gO;refine eH (pz 3) ?_;have e:s.mG n x k=0:=by unfold FF.mG;rw[if_neg og,if_neg og,if_neg aq]
     exact⟨by rw[show s.pj n x k=s.free from by unfold FF.pj;rw[if_pos e],e];rfl,t,by rw[ht];unfold FF.make;rw[if_pos e];rfl,hp,hc,rfl⟩
 ·refine cq (Ek _ _ _ hI _ _ aq) (pz 3) ?_;refine cd ?_ ?_<;>intro h5
  ·have m0:s.fe n x≠0:=aq;refine eH (pz 3) ?_;have e:s.mG n x k=s.fe n x:=by unfold FF.mG;rw[if_neg og,if_pos og]
   exact⟨by rw[show s.pj n x k=0 from by unfold FF.pj;rw[if_neg og],e]<;>rfl,s,by unfold FF.make;rw[if_neg og],rfl,rfl,rfl⟩
  ·obtain⟨m1,m2,m3,m4⟩:=FF.vw (show s.fe n x=0 by simpa using h5);obtain⟨i1,i2,i3,i4⟩:=FF.jt m1;have i5:=i4 og;have m0:s.fe n x=0:=by simpa using h5
   refine sd (ld .aa (gN _ _) (XO.v (V.build (vs:= #[(0,iI k),(1,iI (s.dD n)),(2,iI 1),(7,iI n)]) rfl (v:=.agg (yO k (s.dD n) 1 n)) fun _=>kq) rfl (gO ?_)));refine ca (vH _ _ _ _ _ _ _) (pz 3) ?_;rintro _ _ (⟨h6,rfl,rfl⟩ | ⟨h6,rfl,rfl⟩)
   ·try dsimp only[qo,Aw,Ax,Ay,Az,AB,AD,AE,AF,AG,vD,vE,vF,vG]
    apply gO;refine eH (pz 3) ?_;have e:s.mG n x k=4:=by unfold FF.mG;rw[if_neg og,if_neg og,if_pos aq]
    exact⟨by rw[show s.pj n x k=0 from by unfold FF.pj;rw[if_neg og],e]<;>rfl,s,by unfold FF.make;rw[if_neg og],rfl,rfl,rfl⟩
   ·try dsimp only[qo,Aw,Ax,Ay,Az,AB,AD,AE,AF,AG,vD,vE,vF,vG]
    have f:=FF.yK (show ¬s.free<0 by assumption);have RN:(s.xc s.free k (s.dD n) 1 n).toFF.Sh:=hI.jE _ _ _ _ _ og;apply gO;refine ca (El _ _ _ RN _ _ _) (pz 3) ?_;rintro _ _ ⟨rfl,t,ht,hp,hc,rfl⟩;apply gO;refine eH (pz 3) ?_;have e:s.mG n x k=0:=by unfold FF.mG;rw[if_neg og,if_neg og,if_neg aq]
    exact⟨by rw[show s.pj n x k=s.free from by unfold FF.pj;rw[if_pos e],e];rfl,t,by rw[ht];unfold FF.make;rw[if_pos e];rfl,hp,hc,rfl⟩
def adz(b o:Nat)(s:FC)(hI:s.toFF.Sh)(k n:Int)(x:ByteArray)(hx:x.size<=9223372036854775807):Spec Tryz.prog 212 [az b o 0,iI k,iI n,.string x] [.cells b o 321 (aC s),.aW au (s.bd 9),.aW au (s.bh 3)] (fun v H1=>v=ay 102 (s.uo k n x)/\∃ t:FC,t.toFF=s.Dr k n x/\t.rP=s.rP/\t.rC=s.rC/\H1=[.cells b o 321 (aC t),.aW au (FC.bd 9 t),.aW au (FC.bh 3 t)]):=by
 refine Spec.go 55 [0,1,2,3,8,9,14,20,36] [] Tryz.func212 fun W=> ?_;refine cq (NB _ _ _ _) .h1 ?_;refine cd ?_ ?_<;>intro h1
 ·obtain⟨j1,j2,j3,j4⟩:=FF.jt (show s.cF k 1=0 by assumption);have j0:s.cF k 1=0:=aq;refine cq (Ek _ _ _ hI _ _ aq) (pz 3) ?_;refine cd ?_ ?_<;>intro h2
  ·refine bI (pz 3) ?_;try dsimp only[aU,aS,bG,bN]
   have e:s.uo k n x=s.fe n x:=by unfold FF.uo;rw[if_neg og,if_pos og]
   exact⟨by rw[e],s,by unfold FF.Dr;rw[if_neg og],rfl,rfl,rfl⟩
  ·skip;refine rq [0,1,2,3,4,5,6,7,8,9,10,11,12,13,14] mixed ?_;have m0:s.fe n x=0:=og;obtain⟨m1,m2,m3,m4⟩:=FF.vw m0;obtain⟨i1,i2,i3,i4⟩:=FF.jt m1;refine sd ?_;apply ld .aa (gN _ _);refine sd ?_;apply ld .aa (gN _ _);refine cd ?_ ?_<;>intro h3
   ·refine bI (pz 3) ?_;have e:s.uo k n x=11:=by unfold FF.uo;rw[if_neg og,if_neg og,if_pos aq]
    exact⟨by rw[e]<;>rfl,s,by unfold FF.Dr;rw[if_neg og],rfl,rfl,rfl⟩
   ·refine ca (El _ _ _ hI _ _ _) (pz 3) ?_;rintro _ _ ⟨rfl,t,ht,hp,hc,rfl⟩;apply gO;refine rq [0,1,2,3,4,5,6,7,8,9,10,11,12] mixed ?_;have hln:t.bK k=s.bK k:=congrFun (congrArg FF.bK ht) k;have hlb:=hI.num k og og;refine sd ?_;apply ld .aa (lr _ _);refine sd ?_;refine sd ?_;apply st .aa (nR _ _ og _) rfl;refine bI (pz 3) ?_;have e:s.uo k n x=0:=by unfold FF.uo;rw[if_neg og,if_neg og,if_neg og]
    exact⟨by rw[e]<;>rfl,({t with bK:=ad t.bK k (t.bK k+1)} :FC),by rw[Dy ht,hln];unfold FF.Dr;rw[if_pos e];rfl,hp,hc,rfl⟩
 ·have j0:s.cF k 1≠0:=aq;apply XT rfl aq;refine bI (pz 3) ?_;try dsimp only[aU,aS,bG,bN]
  have e:s.uo k n x=s.cF k 1:=by unfold FF.uo;rw[if_pos og]
  exact⟨by rw[e],s,by unfold FF.Dr;rw[if_neg og],rfl,rfl,rfl⟩
end Go.X.Tr
