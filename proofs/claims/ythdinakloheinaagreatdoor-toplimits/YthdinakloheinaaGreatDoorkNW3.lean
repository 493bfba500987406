import Derived.Test.YthdinakloheinaaGreatDoorkVW4
import Derived.Test.YthdinakloheinaaGreatDoorkFW5
import Derived.Shelf.Lays2
import Derived.Ground.Names2Prog
set_option linter.all false
namespace Go.X.Vm
open Go Go.Proofs Go.X
set_option maxRecDepth 20000
set_option maxHeartbeats 4000000
def ada:dc Tryz.prog 124=true:=kq
def Wc:eK Tryz.prog 145 0=some 0:=kq
def Wd:eK Tryz.prog 145 1=some 1:=kq
def adb:jU Tryz.prog 140=true:=kq
def af5:jU Tryz.prog 94=true:=kq
def aa3(kb mb:Nat)(p:Option Addr)(c:Nat)(m:MS)(hm:m.Ok)(a:Int)(w:Bool):Spec Tryz.prog 199 [ay mb 0 0,iI a,.bool w] [.cells mb 0 34 (b7 kb p (ai m.az).length c m.fr m.bH),aL p c 171 3 (ai m.az).length (fm (ai m.az))] (fun x H1=>x= .bool (m.sV a w)/\H1=[.cells mb 0 34 (b7 kb p (ai m.az).length c m.fr m.bH),aL p c 171 3 (ai m.az).length (fm (ai m.az))]):=by
 refine Spec.go 34 [0,1,2,6,7,13] [] Tryz.func199 fun W=> ?_;refine sp 10 rfl ?_ ?_<;>intro h1
 ·refine bL (pz 2) ?_;first | exact⟨by rw[jr];rfl,rfl⟩ | (refine⟨?_,rfl⟩;rw[oP hm hk];first | (rw[decide_eq_false (p:=0<=k) og];rfl) | (rw[decide_eq_true (p:=0<=k) og];cases w<;>first | rfl | contradiction))
 ·refine cd ?_ ?_<;>intro h2
  ·refine bL (pz 2) ?_;first | exact⟨by rw[jr];rfl,rfl⟩ | (refine⟨?_,rfl⟩;rw[oP hm hk];first | (rw[decide_eq_false (p:=0<=k) og];rfl) | (rw[decide_eq_true (p:=0<=k) og];cases w<;>first | rfl | contradiction))
  ·refine XO.v (V.quo rfl rfl tC _ (tG)) rfl (gO ?_);refine ca (Zi _ _ _ _ _ hm _) (pz 2) ?_;rintro _ _ ⟨⟨k,rfl,hk⟩,rfl⟩;have hrn:k<(ai m.az).length:=by rcases hk with⟨rfl,_⟩ | ⟨q,_⟩<;>omega
   refine gO ?_;refine sp 20 rfl ?_ ?_<;>intro h3
   ·refine P5 23 rfl ?_ ?_<;>intro h4
    ·try simp only[sb]at h4
     try(refine bP (.ao .aa) og ?_;intro g1 hg1;subst hg1)
     refine bL (pz 2) ?_;first | exact⟨by rw[jr];rfl,rfl⟩ | (refine⟨?_,rfl⟩;rw[oP hm hk];first | (rw[decide_eq_false (p:=0<=k) og];rfl) | (rw[decide_eq_true (p:=0<=k) og];cases w<;>first | rfl | contradiction))
    ·try simp only[sb]at h4
     refine ld .aa (lL _ _ _ _ _ _) ?_;try(refine bP (.ao .aa) og ?_;intro g1 hg1;subst hg1)
     refine sd ?_;refine XH (.ao .aa) (fm.w og) ?_;refine bL (pz 2) ?_;first | exact⟨by rw[jr];rfl,rfl⟩ | (refine⟨?_,rfl⟩;rw[oP hm hk];first | (rw[decide_eq_false (p:=0<=k) og];rfl) | (rw[decide_eq_true (p:=0<=k) og];cases w<;>first | rfl | contradiction))
   ·try(refine bP (.ao .aa) og ?_;intro g1 hg1;subst hg1)
    refine bL (pz 2) ?_;first | exact⟨by rw[jr];rfl,rfl⟩ | (refine⟨?_,rfl⟩;rw[oP hm hk];first | (rw[decide_eq_false (p:=0<=k) og];rfl) | (rw[decide_eq_true (p:=0<=k) og];cases w<;>first | rfl | contradiction))
def Zk(kb mb:Nat)(p:Option Addr)(c:Nat)(m:MS)(hm:m.Ok)(a:Int):Spec Tryz.prog 200 [ay mb 0 0,iI a] [.cells mb 0 34 (b7 kb p (ai m.az).length c m.fr m.bH),aL p c 171 3 (ai m.az).length (fm (ai m.az))] (fun x H1=>x= .bool (m.l9 a)/\H1=[.cells mb 0 34 (b7 kb p (ai m.az).length c m.fr m.bH),aL p c 171 3 (ai m.az).length (fm (ai m.az))]):=by
 refine Spec.go 29 [0,1,4] [] Tryz.func200 fun W=> ?_;refine sp 7 rfl ?_ ?_<;>intro h1
 ·refine sp 11 rfl ?_ ?_<;>intro h2
  ·refine XO.v (V.quo rfl rfl tC _ (tG)) rfl (gO ?_);refine ca (Zi _ _ _ _ _ hm _) (pz 2) ?_;rintro _ _ ⟨⟨k,rfl,hk⟩,rfl⟩;refine gO ?_;refine sp 18 rfl ?_ ?_<;>intro h3
   ·refine XO.v (V.quo rfl rfl tC _ (tG)) rfl (gO ?_);refine sd ?_;refine ld .aa (bR _ _ _ _ _ _ _) ?_;refine bL (pz 2) ?_;first | exact⟨by unfold MS.l9;rw[jr];rfl,rfl⟩ | (refine⟨?_,rfl⟩;rw[p7 hm hk];first | (rw[decide_eq_false (p:=0<=k) og];rfl) | (rw[decide_eq_true (p:=0<=k) og];rfl))
   ·refine bL (pz 2) ?_;first | exact⟨by unfold MS.l9;rw[jr];rfl,rfl⟩ | (refine⟨?_,rfl⟩;rw[p7 hm hk];first | (rw[decide_eq_false (p:=0<=k) og];rfl) | (rw[decide_eq_true (p:=0<=k) og];rfl))
  ·refine bL (pz 2) ?_;first | exact⟨by unfold MS.l9;rw[jr];rfl,rfl⟩ | (refine⟨?_,rfl⟩;rw[p7 hm hk];first | (rw[decide_eq_false (p:=0<=k) og];rfl) | (rw[decide_eq_true (p:=0<=k) og];rfl))
 ·refine bL (pz 2) ?_;first | exact⟨by unfold MS.l9;rw[jr];rfl,rfl⟩ | (refine⟨?_,rfl⟩;rw[p7 hm hk];first | (rw[decide_eq_false (p:=0<=k) og];rfl) | (rw[decide_eq_true (p:=0<=k) og];rfl))
set_option maxHeartbeats 8000000 in
def Pj(kb pb mb:Nat)(v:VB)(hv:v.Ok)(p:Option Addr)(c:Nat)(m:MS)(hm:m.Ok)(a:Int)(w:Bool):Spec Tryz.prog 202 [ay mb 0 0,iI a,.bool w] [.cells kb 0 577 (dI pb v.ij v.rf),.cells pb 0 71 (bK v.bb.fe),.cells mb 0 34 (b7 kb p (ai m.az).length c m.fr m.bH),aL p c 171 3 (ai m.az).length (fm (ai m.az)),.ro 1 0 64 fQ] (fun x H1=>x= .tuple #[iI (m.b6 v a w).1,ax 102 (m.b6 v a w).2.1]/\H1=[.cells kb 0 577 (dI pb (m.b6 v a w).2.2.1.ij (m.b6 v a w).2.2.1.rf),.cells pb 0 71 (bK (m.b6 v a w).2.2.1.bb.fe),.cells mb 0 34 (b7 kb p (ai m.az).length c (m.b6 v a w).2.2.2.fr (m.b6 v a w).2.2.2.bH),aL p c 171 3 (ai m.az).length (fm (ai m.az))]):=by
  refine Spec.go 123 [0,1,2,6,7,8,9,10,11,12,17,25,40,46,79,114] [] Tryz.func202 fun W=> ?_
  refine cq (aa3 _ _ _ _ _ hm _ _) (pk [2,2]) ?_
  refine wM ?_ ?_<;>intro h1
  · try simp only[sb]at h1
    have eI:m.sV a w=false:=by simpa using h1
    refine aW rfl rfl rfl (ah (pk [2,2,0,0]) rfl ?_)
    first
      | (rw[iB eI];exact⟨rfl,rfl⟩)
      | (rw[fA eI h0 ht];exact⟨rfl,by rw[iG.2]⟩)
      | (rw[iC eI h0 ht];exact⟨by show Value.tuple #[iI (ad m.fr (a/8) (v.take.1+1) (a/8)-1),_]=_;rw[aj,show v.take.1+1-1=v.take.1 from og];rfl,rfl⟩)
      | (rw[gu eI h0 cS cS og ht];exact⟨rfl,by rw[iG.2]⟩)
      | (rw[fN eI h0 cS cS og ht];exact⟨by show Value.tuple #[iI (ad m.fr (a/8) (v.take.1+1) (a/8)-1),_]=_;rw[aj,show v.take.1+1-1=v.take.1 from og];rfl,rfl⟩)
      | (rw[MS.kH eI h0 cS cS og];exact⟨rfl,rfl⟩)
      | (have q:w=false:=cS
         rw[de eI h0 (.inl q)];exact⟨rfl,rfl⟩)
      | (have q:m.bH (a/8)=true:=cS
         rw[de eI h0 (.inr q)];first | exact⟨rfl,rfl⟩ | (rw[jH m.bH (a/8) q];exact⟨rfl,rfl⟩))
      | (exfalso;(first | assumption | omega | (simp_all;done)))
  · try simp only[sb]at h1
    have eI:m.sV a w=true:=by simpa using h1
    have ha:=MS.p6 eI
    have JP:=hm.lo (a/8)
    refine XO.v (V.quo rfl rfl tC _ (tG)) rfl (gO ?_)
    refine sd ?_
    refine ld .aa (bR _ _ _ _ _ _ _) ?_
    refine cd ?_ ?_<;>intro h2
    · skip
      have h0:m.fr (a/8)=0:=og
      refine ld .aa (b7.Ae _ _ _ _ _ _) ?_
      refine IE 2 (V7 _ _ _ hv) (pk [2,2,2]) rfl ?_
      refine cd ?_ ?_<;>intro h3
      · skip
        have ht:=h3
        have iG:=Bn ht
        refine aW rfl rfl rfl (ah (pk [0,0,1,1]) rfl ?_)
        first
          | (rw[iB eI];exact⟨rfl,rfl⟩)
          | (rw[fA eI h0 ht];exact⟨rfl,by rw[iG.2]⟩)
          | (rw[iC eI h0 ht];exact⟨by show Value.tuple #[iI (ad m.fr (a/8) (v.take.1+1) (a/8)-1),_]=_;rw[aj,show v.take.1+1-1=v.take.1 from og];rfl,rfl⟩)
          | (rw[gu eI h0 cS cS og ht];exact⟨rfl,by rw[iG.2]⟩)
          | (rw[fN eI h0 cS cS og ht];exact⟨by show Value.tuple #[iI (ad m.fr (a/8) (v.take.1+1) (a/8)-1),_]=_;rw[aj,show v.take.1+1-1=v.take.1 from og];rfl,rfl⟩)
          | (rw[MS.kH eI h0 cS cS og];exact⟨rfl,rfl⟩)
          | (have q:w=false:=cS
             rw[de eI h0 (.inl q)];exact⟨rfl,rfl⟩)
          | (have q:m.bH (a/8)=true:=cS
             rw[de eI h0 (.inr q)];first | exact⟨rfl,rfl⟩ | (rw[jH m.bH (a/8) q];exact⟨rfl,rfl⟩))
          | (exfalso;(first | assumption | omega | (simp_all;done)))
      · skip
        have ht:v.take.2.1=0:=og
        have htr:=nA hv ht
        refine XO.v (V.build (vs:= #[(0,iI v.take.1),(1,.bool true)]) rfl (v:=.agg #[iI v.take.1,.bool true]) fun _=>kq) rfl (gO ?_)
        refine fW (.t3 .aa) (ss _ _ _ _ _ _ _ _ _) rfl ⟨rfl,rfl⟩ ?_
        refine ld (.t3 .aa) (bR _ _ _ _ _ _ _) ?_
        refine aW rfl rfl rfl (ah (pk [0,0,1,1]) rfl ?_)
        first
          | (rw[iB eI];exact⟨rfl,rfl⟩)
          | (rw[fA eI h0 ht];exact⟨rfl,by rw[iG.2]⟩)
          | (rw[iC eI h0 ht];exact⟨by show Value.tuple #[iI (ad m.fr (a/8) (v.take.1+1) (a/8)-1),_]=_;rw[aj,show v.take.1+1-1=v.take.1 from og];rfl,rfl⟩)
          | (rw[gu eI h0 cS cS og ht];exact⟨rfl,by rw[iG.2]⟩)
          | (rw[fN eI h0 cS cS og ht];exact⟨by show Value.tuple #[iI (ad m.fr (a/8) (v.take.1+1) (a/8)-1),_]=_;rw[aj,show v.take.1+1-1=v.take.1 from og];rfl,rfl⟩)
          | (rw[MS.kH eI h0 cS cS og];exact⟨rfl,rfl⟩)
          | (have q:w=false:=cS
             rw[de eI h0 (.inl q)];exact⟨rfl,rfl⟩)
          | (have q:m.bH (a/8)=true:=cS
             rw[de eI h0 (.inr q)];first | exact⟨rfl,rfl⟩ | (rw[jH m.bH (a/8) q];exact⟨rfl,rfl⟩))
          | (exfalso;(first | assumption | omega | (simp_all;done)))
    · skip
      have h0:¬m.fr (a/8)=0:=og
      refine rq [0,1,2,3,4,5,6,7,8,9,10,11,12,13,14,15,16,17,18,19,20,21,22,23] mixed ?_
      refine P5 48 rfl ?_ ?_<;>intro h4
      · try simp only[sb]at h4
        refine ld .aa (yt _ _ _ _ _ _ _ og) ?_
        refine P5 55 rfl ?_ ?_<;>intro h5
        · try simp only[sb]at h5
          refine ld .aa (b7.Ae _ _ _ _ _ _) ?_
          refine ld .aa (bR _ _ _ _ _ _ _) ?_
          refine sd ?_
          refine ld (.t2 .aa) (ja _ _ _ _) ?_
          refine cd ?_ ?_<;>intro h6
          · skip
            refine ld .aa (b7.Ae _ _ _ _ _ _) ?_
            refine IE 2 (V7 _ _ _ hv) (pk [2,2,2]) rfl ?_
            refine cd ?_ ?_<;>intro h7
            · skip
              have ht:=h7
              have iG:=Bn ht
              refine aW rfl rfl rfl (ah (pk [0,0,1,1]) rfl ?_)
              first
                | (rw[iB eI];exact⟨rfl,rfl⟩)
                | (rw[fA eI h0 ht];exact⟨rfl,by rw[iG.2]⟩)
                | (rw[iC eI h0 ht];exact⟨by show Value.tuple #[iI (ad m.fr (a/8) (v.take.1+1) (a/8)-1),_]=_;rw[aj,show v.take.1+1-1=v.take.1 from og];rfl,rfl⟩)
                | (rw[gu eI h0 cS cS og ht];exact⟨rfl,by rw[iG.2]⟩)
                | (rw[fN eI h0 cS cS og ht];exact⟨by show Value.tuple #[iI (ad m.fr (a/8) (v.take.1+1) (a/8)-1),_]=_;rw[aj,show v.take.1+1-1=v.take.1 from og];rfl,rfl⟩)
                | (rw[MS.kH eI h0 cS cS og];exact⟨rfl,rfl⟩)
                | (have q:w=false:=cS
                   rw[de eI h0 (.inl q)];exact⟨rfl,rfl⟩)
                | (have q:m.bH (a/8)=true:=cS
                   rw[de eI h0 (.inr q)];first | exact⟨rfl,rfl⟩ | (rw[jH m.bH (a/8) q];exact⟨rfl,rfl⟩))
                | (exfalso;(first | assumption | omega | (simp_all;done)))
            · skip
              have ht:v.take.2.1=0:=og
              have htr:=nA hv ht
              refine rq [0,1,2,3,4,5,6,7,8,9,10,11,12,13,14,15,16,17,18,19,20] mixed ?_
              refine ld (.t3 .aa) (b7.Ae _ _ _ _ _ _) ?_
              refine ld (.t3 .aa) (b7.Ae _ _ _ _ _ _) ?_
              refine ld (.t3 .aa) (bR _ _ _ _ _ _ _) ?_
              refine sd ?_
              refine lW .aa (Uw _ _ _ _ og) ?_
              refine sd ?_
              refine fW .aa (F8 _ _ _ _ _) rfl ⟨rfl,rfl⟩ ?_
              refine rq [0,1,2,3,4,5,6,7,8] mixed ?_
              refine ld (.t3 .aa) (b7.Ae _ _ _ _ _ _) ?_
              refine ld (.t3 .aa) (bR _ _ _ _ _ _ _) ?_
              refine IE 2 (ac5 _ _ (v.take.2.2.copy v.take.1 (m.fr (a/8)-1)) (hv.take.copy _ _) (m.fr (a/8)-1) og (Bo ht og)) (pz 3) rfl ?_
              refine XO.v (V.build (vs:= #[(0,iI v.take.1),(1,.bool true)]) rfl (v:=.agg #[iI v.take.1,.bool true]) fun _=>kq) rfl (gO ?_)
              refine fW (.t3 .aa) (ss _ _ _ _ _ _ _ _ _) rfl ⟨rfl,rfl⟩ ?_
              refine ld (.t3 .aa) (bR _ _ _ _ _ _ _) ?_
              refine aW rfl rfl rfl (ah (pk [0,0,1,1]) rfl ?_)
              first
                | (rw[iB eI];exact⟨rfl,rfl⟩)
                | (rw[fA eI h0 ht];exact⟨rfl,by rw[iG.2]⟩)
                | (rw[iC eI h0 ht];exact⟨by show Value.tuple #[iI (ad m.fr (a/8) (v.take.1+1) (a/8)-1),_]=_;rw[aj,show v.take.1+1-1=v.take.1 from og];rfl,rfl⟩)
                | (rw[gu eI h0 cS cS og ht];exact⟨rfl,by rw[iG.2]⟩)
                | (rw[fN eI h0 cS cS og ht];exact⟨by show Value.tuple #[iI (ad m.fr (a/8) (v.take.1+1) (a/8)-1),_]=_;rw[aj,show v.take.1+1-1=v.take.1 from og];rfl,rfl⟩)
                | (rw[MS.kH eI h0 cS cS og];exact⟨rfl,rfl⟩)
                | (have q:w=false:=cS
                   rw[de eI h0 (.inl q)];exact⟨rfl,rfl⟩)
                | (have q:m.bH (a/8)=true:=cS
                   rw[de eI h0 (.inr q)];first | exact⟨rfl,rfl⟩ | (rw[jH m.bH (a/8) q];exact⟨rfl,rfl⟩))
                | (exfalso;(first | assumption | omega | (simp_all;done)))
          · skip
            refine wM ?_ ?_<;>intro h8
            · try simp only[sb]at h8
              refine st .aa (iy _ _ _ _ _ _ _ og _) rfl ?_
              refine ld .aa (bR _ _ _ _ _ _ _) ?_
              refine aW rfl rfl rfl (ah (pk [2,2,0,0]) rfl ?_)
              first
                | (rw[iB eI];exact⟨rfl,rfl⟩)
                | (rw[fA eI h0 ht];exact⟨rfl,by rw[iG.2]⟩)
                | (rw[iC eI h0 ht];exact⟨by show Value.tuple #[iI (ad m.fr (a/8) (v.take.1+1) (a/8)-1),_]=_;rw[aj,show v.take.1+1-1=v.take.1 from og];rfl,rfl⟩)
                | (rw[gu eI h0 cS cS og ht];exact⟨rfl,by rw[iG.2]⟩)
                | (rw[fN eI h0 cS cS og ht];exact⟨by show Value.tuple #[iI (ad m.fr (a/8) (v.take.1+1) (a/8)-1),_]=_;rw[aj,show v.take.1+1-1=v.take.1 from og];rfl,rfl⟩)
                | (rw[MS.kH eI h0 cS cS og];exact⟨rfl,rfl⟩)
                | (have q:w=false:=cS
                   rw[de eI h0 (.inl q)];exact⟨rfl,rfl⟩)
                | (have q:m.bH (a/8)=true:=cS
                   rw[de eI h0 (.inr q)];first | exact⟨rfl,rfl⟩ | (rw[jH m.bH (a/8) q];exact⟨rfl,rfl⟩))
                | (exfalso;(first | assumption | omega | (simp_all;done)))
            · try simp only[sb]at h8
              refine ld .aa (bR _ _ _ _ _ _ _) ?_
              refine aW rfl rfl rfl (ah (pk [2,2,0,0]) rfl ?_)
              simp_all
        · try simp only[sb]at h5
          refine wM ?_ ?_<;>intro h9
          · try simp only[sb]at h9
            refine st .aa (iy _ _ _ _ _ _ _ og _) rfl ?_
            refine ld .aa (bR _ _ _ _ _ _ _) ?_
            refine aW rfl rfl rfl (ah (pk [2,2,0,0]) rfl ?_)
            first
              | (rw[iB eI];exact⟨rfl,rfl⟩)
              | (rw[fA eI h0 ht];exact⟨rfl,by rw[iG.2]⟩)
              | (rw[iC eI h0 ht];exact⟨by show Value.tuple #[iI (ad m.fr (a/8) (v.take.1+1) (a/8)-1),_]=_;rw[aj,show v.take.1+1-1=v.take.1 from og];rfl,rfl⟩)
              | (rw[gu eI h0 cS cS og ht];exact⟨rfl,by rw[iG.2]⟩)
              | (rw[fN eI h0 cS cS og ht];exact⟨by show Value.tuple #[iI (ad m.fr (a/8) (v.take.1+1) (a/8)-1),_]=_;rw[aj,show v.take.1+1-1=v.take.1 from og];rfl,rfl⟩)
              | (rw[MS.kH eI h0 cS cS og];exact⟨rfl,rfl⟩)
              | (have q:w=false:=cS
                 rw[de eI h0 (.inl q)];exact⟨rfl,rfl⟩)
              | (have q:m.bH (a/8)=true:=cS
                 rw[de eI h0 (.inr q)];first | exact⟨rfl,rfl⟩ | (rw[jH m.bH (a/8) q];exact⟨rfl,rfl⟩))
              | (exfalso;(first | assumption | omega | (simp_all;done)))
          · try simp only[sb]at h9
            refine ld .aa (bR _ _ _ _ _ _ _) ?_
            refine aW rfl rfl rfl (ah (pk [2,2,0,0]) rfl ?_)
            simp_all
      · try simp only[sb]at h4
        refine wM ?_ ?_<;>intro Tu
        · try simp only[sb]at Tu
          refine st .aa (iy _ _ _ _ _ _ _ og _) rfl ?_
          refine ld .aa (bR _ _ _ _ _ _ _) ?_
          refine aW rfl rfl rfl (ah (pk [2,2,0,0]) rfl ?_)
          simp_all
        · try simp only[sb]at Tu
          refine ld .aa (bR _ _ _ _ _ _ _) ?_
          refine aW rfl rfl rfl (ah (pk [2,2,0,0]) rfl ?_)
          first
            | (rw[iB eI];exact⟨rfl,rfl⟩)
            | (rw[fA eI h0 ht];exact⟨rfl,by rw[iG.2]⟩)
            | (rw[iC eI h0 ht];exact⟨by show Value.tuple #[iI (ad m.fr (a/8) (v.take.1+1) (a/8)-1),_]=_;rw[aj,show v.take.1+1-1=v.take.1 from og];rfl,rfl⟩)
            | (rw[gu eI h0 cS cS og ht];exact⟨rfl,by rw[iG.2]⟩)
            | (rw[fN eI h0 cS cS og ht];exact⟨by show Value.tuple #[iI (ad m.fr (a/8) (v.take.1+1) (a/8)-1),_]=_;rw[aj,show v.take.1+1-1=v.take.1 from og];rfl,rfl⟩)
            | (rw[MS.kH eI h0 cS cS og];exact⟨rfl,rfl⟩)
            | (have q:w=false:=cS
               rw[de eI h0 (.inl q)];exact⟨rfl,rfl⟩)
            | (have q:m.bH (a/8)=true:=cS
               rw[de eI h0 (.inr q)];first | exact⟨rfl,rfl⟩ | (rw[jH m.bH (a/8) q];exact⟨rfl,rfl⟩))
            | (exfalso;(first | assumption | omega | (simp_all;done)))
set_option maxHeartbeats 8000000 in
def ade(kb pb mb:Nat)(v:VB)(hv:v.Ok)(p:Option Addr)(c:Nat)(m:MS)(hm:m.Ok)(a:Int):Spec Tryz.prog 151 [ay mb 0 0,iI a] [.cells kb 0 577 (dI pb v.ij v.rf),.cells pb 0 71 (bK v.bb.fe),.cells mb 0 34 (b7 kb p (ai m.az).length c m.fr m.bH),aL p c 171 3 (ai m.az).length (fm (ai m.az)),.ro 1 0 64 fQ] (fun x H1=>x= .tuple #[.int .u8 (m.load v a).1,ax 102 (m.load v a).2.1]/\H1=[.cells kb 0 577 (dI pb (m.load v a).2.2.1.ij (m.load v a).2.2.1.rf),.cells pb 0 71 (bK (m.load v a).2.2.1.bb.fe),.cells mb 0 34 (b7 kb p (ai m.az).length c (m.load v a).2.2.2.fr (m.load v a).2.2.2.bH),aL p c 171 3 (ai m.az).length (fm (ai m.az))]):=by
 refine Spec.go 29 [0,1,4,5,6,7,15] [] Tryz.func151 fun W=> ?_;refine IE 4 (Pj _ _ _ _ hv _ _ _ hm a false) (pz 5) rfl ?_;refine cd ?_ ?_<;>intro h1
 ·have ht:=h1;refine er (pz 4) ?_;rw[MS.Du ht];exact⟨rfl,rfl⟩
 ·have ht:(m.b6 v a false).2.1=0:=og;have hr:=yC hv hm ht;refine ld (.t2 .aa) (b7.Ae _ _ _ _ _ _) ?_;refine XO.v (V.rem rfl rfl tC _ (Int.tmod_eq_emod_of_nonneg og)) rfl (gO ?_);refine sd ?_;refine sd ?_;refine ld .aa (E8 _ _ _ _ _ og og) ?_;refine er (pz 4) ?_;rw[MS.HG ht];exact⟨rfl,rfl⟩
set_option maxHeartbeats 8000000 in
def Zl(kb pb mb:Nat)(v:VB)(hv:v.Ok)(p:Option Addr)(c:Nat)(m:MS)(hm:m.Ok)(a b:Int):Spec Tryz.prog 153 [ay mb 0 0,iI a,.int .u8 b] [.cells kb 0 577 (dI pb v.ij v.rf),.cells pb 0 71 (bK v.bb.fe),.cells mb 0 34 (b7 kb p (ai m.az).length c m.fr m.bH),aL p c 171 3 (ai m.az).length (fm (ai m.az)),.ro 1 0 64 fQ] (fun x H1=>x=ax 102 (m.store v a b).1/\H1=[.cells kb 0 577 (dI pb (m.store v a b).2.1.ij (m.store v a b).2.1.rf),.cells pb 0 71 (bK (m.store v a b).2.1.bb.fe),.cells mb 0 34 (b7 kb p (ai m.az).length c (m.store v a b).2.2.fr (m.store v a b).2.2.bH),aL p c 171 3 (ai m.az).length (fm (ai m.az))]):=by
 refine Spec.go 30 [0,1,2,6,7,8,16] [] Tryz.func153 fun W=> ?_;refine IE 4 (Pj _ _ _ _ hv _ _ _ hm a true) (pz 5) rfl ?_;refine cd ?_ ?_<;>intro h1
 ·have ht:=h1;refine bL (pz 4) ?_;rw[MS.Gf ht];exact⟨rfl,rfl⟩
 ·have ht:(m.b6 v a true).2.1=0:=og;have hr:=yC hv hm ht;refine ld (.t2 .aa) (b7.Ae _ _ _ _ _ _) ?_;refine XO.v (V.rem rfl rfl tC _ (Int.tmod_eq_emod_of_nonneg og)) rfl (gO ?_);refine sd ?_;refine sd ?_;refine st .aa (we _ _ _ _ _ og og _) rfl ?_;refine bL (pz 4) ?_;rw[MS.Dv ht];exact⟨rfl,rfl⟩
set_option maxHeartbeats 8000000 in
def Io(kb pb mb:Nat)(v:VB)(hv:v.Ok)(p:Option Addr)(c:Nat)(m:MS)(hm:m.Ok):Spec Tryz.prog 57 [ay mb 0 0] [.cells kb 0 577 (dI pb v.ij v.rf),.cells mb 0 34 (b7 kb p (ai m.az).length c m.fr m.bH),aL p c 171 3 (ai m.az).length (fm (ai m.az))] (fun x H1=>∃ nb p1 c1,x=ay nb 0 0/\H1=[.cells kb 0 577 (dI pb (v.jl m).ij (v.jl m).rf),.cells mb 0 34 (b7 kb p (ai m.az).length c m.fr fun _=>false),aL p c 171 3 (ai m.az).length (fm (ai m.az)),.cells nb 0 34 (b7 kb p1 (ai m.az).length c1 m.fr fun _=>false),aL p1 c1 171 3 (ai m.az).length (fm (ai m.az))]):=by
 refine Spec.go 65 [0,2,3,4,16,17,43] [] Tryz.func57 fun W=> ?_;refine XC.im mixed (f:=12) (l:= #[qF,qF,qF,qF,qF,qF,qF,qF,qF,qF,qF,qF]) rfl rfl XM.kN ?_;refine XQ.pv (i:=0) rfl kq rfl (V.move rfl) rfl rfl ?_;refine XQ.pv (i:=1) rfl kq rfl (bB rfl) rfl rfl ?_;refine XQ.pv (i:=2) rfl kq rfl (V.fieldAddr rfl Wc) rfl rfl ?_;refine XQ.load (i:=3) (.cells _ _ _ _) [10] rfl kq rfl (.ao .aa) (V.load rfl eh (b7.Ae _ _ _ _ _ _) af5) rfl kq rfl ?_;refine XQ.pv (i:=4) rfl kq rfl (V.move rfl) rfl rfl ?_;refine XQ.pv (i:=5) rfl kq rfl (bB rfl) rfl rfl ?_;refine XQ.pv (i:=6) rfl kq rfl (V.fieldAddr rfl Wd) rfl rfl ?_;refine XQ.load (i:=7) (.cells _ _ _ _) [8,10] rfl kq rfl (.ao .aa) (V.load rfl eh (lL _ _ _ _ _ _) adb) rfl kq rfl ?_;refine XQ.call (i:=8) rfl kq rfl rfl (Zj _ _ _ (by have:=re m.az;omega)) (pk [2]) ada rfl (by rintro _ _ ⟨p1,c1,rfl,rfl⟩;all_goals(intro _ dZ;exact⟨fun hs=>(hs 8 b8 rfl).elim,fun _=>fb (.t3 .aa) _ dZ,trivial⟩)) ?_;rintro _ _ ⟨p1,c1,rfl,rfl⟩;refine XQ.pv (i:=9) rfl kq rfl (V.build (vs:= #[(0,ay kb 0 0),(1,.slice p1 (ai m.az).length c1)]) rfl (v:=.agg (zNs kb p1 (ai m.az).length c1).toArray) fun _=>kq) rfl rfl ?_;refine XQ.box (i:=10) (m:=34) (C:=b7 kb p1 (ai m.az).length c1 (fun _=>1) fun _=>false) rfl kq rfl rfl rfl (Yz _ _ _ _) rfl (fun _ _ dZ=>⟨fun hs=>(hs 8 b8 rfl).elim,fun hs=>(hs 10 b8 rfl).elim,trivial⟩) ?_;intro nb;refine XQ.pv (i:=11) rfl kq rfl (V.assign rfl) rfl rfl ?_;refine XQ.done kq ?_;refine gE ?_;refine lp (σ:=Int) (fun i=>(16-i).toNat) (fun i=>0<=i/\i<=16) (fun i=>[(16,iI i),(0,ay mb 0 0),(3,ay nb 0 0)]) (fun i=>XM W (bX [.cells kb 0 577 (dI pb v.ij v.rf),.cells mb 0 34 (b7 kb p (ai m.az).length c m.fr m.bH),aL p c 171 3 (ai m.az).length (fm (ai m.az))]) [.cells kb 0 577 (dI pb v.ij (yq v.rf m.fr i.toNat)),.cells mb 0 34 (b7 kb p (ai m.az).length c m.fr (w7 (fun _=>false) m.bH i)),aL p c 171 3 (ai m.az).length (fm (ai m.az)),.cells nb 0 34 (b7 kb p1 (ai m.az).length c1 (w7 m.fr (fun _=>1) i) fun _=>false),aL p1 c1 171 3 (ai m.az).length (fm (ai m.az))]) (0) ?_ S3 (fun _ hw=>by show XM _ _ [_,.cells mb 0 34 (b7 _ _ _ _ _ (w7 (fun _=>false) m.bH 0)),_,.cells nb 0 34 (b7 _ _ _ _ (w7 m.fr (fun _=>1) 0) _),_] _;rw[Gg,Gg];exact XM.pick (pk [3,3,1,0,0]) hw) ?_
 ·omega
 intro i hi;have JP:=hm.lo i;have QZ:=UO v.rf m.fr i.toNat (m.fr i-1);have hrf:=hv.rf (m.fr i-1);refine gC ?_;refine cd ?_ ?_<;>intro h1
 ·refine sd ?_;refine st (.ao .aa) (iy _ _ _ _ _ _ _ og _) rfl ?_;refine rq [0,1,2,3,4,5,6,7,8,9,10,11] mixed ?_;refine sd ?_;refine lW (.ao .aa) (QE _ _ _ _ _ _ _ og) ?_;refine sd ?_;refine fW (.t3 .aa) (ss _ _ _ _ _ _ _ _ _) rfl ⟨rfl,rfl⟩ ?_;refine sd ?_;refine ld (.ao .aa) (bR _ _ _ _ _ _ _) ?_;refine cd ?_ ?_<;>intro h2
  ·refine rq [0,1,2,3,4,5,6,7,8,9,10,11,12,13,14,15,16,17,18,19] mixed ?_;refine ld (.ao .aa) (b7.Ae _ _ _ _ _ _) ?_;refine sd ?_;refine ld (.ao .aa) (bR _ _ _ _ _ _ _) ?_;refine sd ?_;refine ld .aa (ja _ _ _ _) ?_;refine sd ?_;refine sd ?_;refine st .aa (ma _ _ _ _ og _) rfl ?_;refine sd ?_;have hU:yq v.rf m.fr (i+1).toNat=ad (yq v.rf m.fr i.toNat) (m.fr i-1) (yq v.rf m.fr i.toNat (m.fr i-1)+1):=by rw[Kb hi.1,if_pos og]
   refine ag (i+1) ?_ ?_ S3 fun _ hw=>by rw[aj (w7 (fun _=>false) m.bH i) i false,jH (fun _=>false) i rfl]at hw;show XM _ _ [.cells kb 0 577 (dI pb v.ij (yq v.rf m.fr (i+1).toNat)),_,_,_,_] _;rw[hU,<-vq hi.1 (f:=(fun _=>false)) (g:=m.bH) (v:=false) rfl,<-vq hi.1 (f:=m.fr) (g:=fun _=>1) (v:=m.fr i-1+1)];exact XM.pick (pz 5) hw
   all_goals omega
  ·refine sd ?_;have hU:yq v.rf m.fr (i+1).toNat=yq v.rf m.fr i.toNat:=by rw[Kb hi.1,if_neg og]
   refine ag (i+1) ?_ ?_ S3 fun _ hw=>by rw[aj (w7 (fun _=>false) m.bH i) i false,jH (fun _=>false) i rfl]at hw;show XM _ _ [.cells kb 0 577 (dI pb v.ij (yq v.rf m.fr (i+1).toNat)),_,_,_,_] _;rw[hU,<-vq hi.1 (f:=(fun _=>false)) (g:=m.bH) (v:=false) rfl,<-vq hi.1 (f:=m.fr) (g:=fun _=>1) (v:=m.fr i-1+1)];exact XM.pick (pz 5) hw
   all_goals omega
 ·refine bL (pz 5) ?_;have e:i=16:=og;subst e;exact⟨nb,p1,c1,rfl,by rw[su (f:=w7 m.fr (fun _=>1) 16) (f':=m.fr) (o:=(fun _=>false)) (o':=(fun _=>false)) fun i h0 h1=>⟨by unfold w7;rw[if_pos og],rfl⟩,su (f:=m.fr) (f':=m.fr) (o:=w7 (fun _=>false) m.bH 16) (o':=(fun _=>false)) fun i h0 h1=>⟨rfl,by unfold w7;rw[if_pos og]⟩];rfl⟩
def Zm(kb pb:Nat)(v:VB)(hv:v.Ok)(f:Int)(hf:0<=f/\f<64)(h1:1<=v.rf f):Spec Tryz.prog 179 [ay kb 0 0,iI f] [.cells kb 0 577 (dI pb v.ij v.rf),.cells pb 0 71 (bK v.bb.fe)] (fun x H1=>x= .tuple #[]/\H1=[.cells kb 0 577 (dI pb (v.drop f).ij (v.drop f).rf),.cells pb 0 71 (bK (v.drop f).bb.fe)]):=by
 have hb:=hv.rf f;refine Spec.go 27 [0,1,20] [] Tryz.func179 fun W=> ?_;refine rq [0,1,2,3,4,5,6,7,8,9,10] mixed ?_;refine sd ?_;refine ld .aa (ja _ _ _ _) ?_;refine sd ?_;refine sd ?_;refine st .aa (ma _ _ _ _ og _) rfl ?_;refine sd ?_;refine ld .aa (ja _ _ _ _) ?_;have e1:ad v.rf f (v.rf f-1) f=v.rf f-1:=aj _ _ _;refine cd ?_ ?_<;>intro h1
 ·refine ld .aa (dI.J1 _ _ _) ?_;refine cq (V6 _ _ _ hv.bb _) (pk [1]) ?_;refine cY rfl (ah (pk [1,0]) rfl ?_);grind [Af]
 ·refine cY rfl (ah (pz 2) rfl ?_);grind [Ag]
set_option maxHeartbeats 8000000 in
def Le(kb pb mb:Nat)(v:VB)(hv:v.Ok)(p:Option Addr)(c:Nat)(m:MS)(hm:m.Ok)(vS:m.In v)(a n:Int):Spec Tryz.prog 107 [ay mb 0 0,iI a,iI n] [.cells kb 0 577 (dI pb v.ij v.rf),.cells pb 0 71 (bK v.bb.fe),.cells mb 0 34 (b7 kb p (ai m.az).length c m.fr m.bH),aL p c 171 3 (ai m.az).length (fm (ai m.az))] (fun x H1=>x= .tuple #[iI (m.ep v a n).1,ax 102 (m.ep v a n).2.1]/\∃ p2 c2,H1=[.cells kb 0 577 (dI pb (m.ep v a n).2.2.1.ij (m.ep v a n).2.2.1.rf),.cells pb 0 71 (bK (m.ep v a n).2.2.1.bb.fe),.cells mb 0 34 (b7 kb p2 (ai (m.ep v a n).2.2.2.az).length c2 (m.ep v a n).2.2.2.fr (m.ep v a n).2.2.2.bH),aL p2 c2 171 3 (ai (m.ep v a n).2.2.2.az).length (fm (ai (m.ep v a n).2.2.2.az))]):=by
 refine Spec.go 59 [0,1,2,6,7,8,9,11,16,21,22,23,24,34] [] Tryz.func107 fun W=> ?_;refine cq (Nt _ _) .nil ?_;refine cd ?_ ?_<;>intro h1
 ·have hb:gM a n:=by
   simp_all
  refine er (pz 4) ?_;exact⟨by rw[if_pos hb,sy hb];rfl,p,c,by rw[sy hb]⟩
 ·have hb:¬gM a n:=fun q=>h1 fun q2=>by rw[if_pos q]at q2;omega
  have Cy:=hb;unfold gM at Cy;have hn:0<n:=og;have hL:=re m.az;refine ca (Ph _ _ _ _ _ hm _ _ hb) (pk [2,2]) ?_;rintro _ _ ⟨p4,c4,p5,c5,rfl,rfl⟩;have IG:=Dt (ai m.az) a n;rw[QD hm.f hb];generalize hq:lh (fun i=>m.az i != 0) a n.toNat=l;have gn:∀ i∈l,a<=i/\i<a+n:=fun i hi=>by rw[<-hq,oO]at hi;omega
  have s8:l.Pairwise (fun x y=>x<y):=hq▸sr _;have hle:l.length<=16:=by rw[<-hq];have:=F7 (p:=fun i=>m.az i != 0) (a:=a) n.toNat;omega
  refine gO ?_;refine lp (σ:=Int) (fun i=>(l.length-i).toNat) (fun i=>0<=i/\i<=l.length) (fun i=>[(23,iI i),(9,iI (ui v m.fr (l.take i.toNat)).1),(0,ay mb 0 0),(21,.slice p5 l.length c5),(22,iI l.length)]) (fun i=>XM W (bX [.cells kb 0 577 (dI pb v.ij v.rf),.cells pb 0 71 (bK v.bb.fe),.cells mb 0 34 (b7 kb p (ai m.az).length c m.fr m.bH),aL p c 171 3 (ai m.az).length (fm (ai m.az))]) [.cells kb 0 577 (dI pb (ui v m.fr (l.take i.toNat)).2.ij (ui v m.fr (l.take i.toNat)).2.rf),.cells pb 0 71 (bK (ui v m.fr (l.take i.toNat)).2.bb.fe),.cells mb 0 34 (b7 kb p4 ((ai m.az).flatMap (my a n)).length c4 (oB m.fr (l.take i.toNat)) (ey m.bH (l.take i.toNat))),aL p4 c4 171 3 ((ai m.az).flatMap (my a n)).length (fm ((ai m.az).flatMap (my a n))),dy p5 c5 3 l]) (0) ?_ S5 (fun _ hw=>by show XM _ _ [_,_,.cells mb 0 34 (b7 kb p4 _ c4 (oB m.fr []) (ey m.bH [])),_,_] _;rw[UM,UN];exact XM.pick (pk [3,3,0,0,0]) hw) ?_
  ·omega
  intro i hi;refine gC ?_;refine cd ?_ ?_<;>intro h2
  ·refine bP (.t4 .aa) og ?_;intro g1 h3;subst h3;refine sd (zC (.t4 .aa) (ints_at) ?_);have hmm:=se (l:=l) (i:=i) og;have ha:=gn _ hmm;have Qa:=Yw s8 (i:=i) og;have e0:oB m.fr (l.take i.toNat) (gh l i)=m.fr (gh l i):=by unfold oB;rw[if_neg Qa]
   have hit:=aaF (l:=l) (i:=i) og;have hu:=UE hv hm vS _ (l.take i.toNat) rfl (Ms s8 _);have hTl:(l.take i.toNat).length<=16:=by rw[List.length_take];omega
   have JP:=hm.lo (gh l i);refine sd (ld (.t2 .aa) (bR _ _ _ _ _ _ _) ?_);refine cd ?_ ?_<;>intro h4
   ·have RP:0<m.fr (gh l i):=og;have hrf:1<=(ui v m.fr (l.take i.toNat)).2.rf (oB m.fr (l.take i.toNat) (gh l i)-1):=by
     grind [MS.Ok.inj,MS.In]
    refine rq [0,1,2,3,4,5,6,7,8,9,10,11] mixed (ld (.t2 .aa) (b7.Ae _ _ _ _ _ _) (sd (ld (.t2 .aa) (bR _ _ _ _ _ _ _) ?_)));refine cq (Zm _ _ _ hu.1 (oB m.fr (l.take i.toNat) (gh l i)-1) og hrf) (pz 2) ?_;refine XO.v (V.build (vs:= #[(0,iI (-1))]) rfl (v:=.agg #[iI (-1),.bool false]) fun _=>kq) rfl (gO ?_);refine sd (fW (.t2 .aa) (ss _ _ _ _ _ _ _ _ _) rfl ⟨rfl,rfl⟩ (sd (sd ?_)));have hS:(ui v m.fr (l.take (i+1).toNat))=((ui v m.fr (l.take i.toNat)).1+1,(ui v m.fr (l.take i.toNat)).2.drop (oB m.fr (l.take i.toNat) (gh l i)-1)):=by rw[hit,Dj];unfold Yr;rw[if_pos RP,e0]
    have hC:oB m.fr (l.take (i+1).toNat)=ad (oB m.fr (l.take i.toNat)) (gh l i) (-1+1):=by rw[hit,QI]
    have hF:ey m.bH (l.take (i+1).toNat)=ad (ey m.bH (l.take i.toNat)) (gh l i) false:=by rw[hit,QJ]
    refine ag (i+1) ?_ ?_ (S5 rfl (by show lk _ _=some (iI (ui v m.fr (l.take (i+1).toNat)).1);rw[hS];rfl) rfl rfl rfl) fun _ hw=>by show XM _ _ [.cells kb 0 577 (dI pb (ui v m.fr (l.take (i+1).toNat)).2.ij (ui v m.fr (l.take (i+1).toNat)).2.rf),.cells pb 0 71 (bK (ui v m.fr (l.take (i+1).toNat)).2.bb.fe),.cells mb 0 34 (b7 kb p4 ((ai m.az).flatMap (my a n)).length c4 (oB m.fr (l.take (i+1).toNat)) (ey m.bH (l.take (i+1).toNat))),aL p4 c4 171 3 ((ai m.az).flatMap (my a n)).length (fm ((ai m.az).flatMap (my a n))),_] _;rw[hS,hC,hF];exact XM.pick (pz 5) hw
    all_goals omega
   ·refine sd ?_;have h0:m.fr (gh l i)=0:=og;have hS:(ui v m.fr (l.take (i+1).toNat))=(ui v m.fr (l.take i.toNat)):=by rw[hit,Dj];unfold Yr;rw[if_neg og]
    have hC:oB m.fr (l.take (i+1).toNat)=oB m.fr (l.take i.toNat):=by rw[hit,QK h0]
    have hF:ey m.bH (l.take (i+1).toNat)=ey m.bH (l.take i.toNat):=by rw[hit,QL (hm.ow _ h0)]
    refine ag (i+1) ?_ ?_ (S5 rfl (by show lk _ _=some (iI (ui v m.fr (l.take (i+1).toNat)).1);rw[hS];rfl) rfl rfl rfl) fun _ hw=>by show XM _ _ [.cells kb 0 577 (dI pb (ui v m.fr (l.take (i+1).toNat)).2.ij (ui v m.fr (l.take (i+1).toNat)).2.rf),.cells pb 0 71 (bK (ui v m.fr (l.take (i+1).toNat)).2.bb.fe),.cells mb 0 34 (b7 kb p4 ((ai m.az).flatMap (my a n)).length c4 (oB m.fr (l.take (i+1).toNat)) (ey m.bH (l.take (i+1).toNat))),aL p4 c4 171 3 ((ai m.az).flatMap (my a n)).length (fm ((ai m.az).flatMap (my a n))),_] _;rw[hS,hC,hF];exact XM.pick (pz 5) hw
    all_goals omega
  ·have e:(l.take i.toNat)=l:=List.take_of_length_le og;rw[e];have eu:=Ka v hm hb;rw[hq]at eu;refine ca (Nu _ _ _ _ _ _ _ _ (hm.f.fT hb (.inl rfl)) (F6 (jQ hm.f) hn) (De (jQ hm.f) (po hm.f) hn) (by first | omega | (simp only[List.length_append,List.length_singleton];omega))) (pk [2,2]) ?_;rintro _ _ ⟨rfl,p2,c2,rfl⟩;refine gO ?_;refine aW rfl rfl rfl (ah (pk [2,2,0,0]) rfl ?_);exact⟨by rw[eu];rfl,p2,c2,by rw[eu]⟩
end Go.X.Vm

namespace Go.X.Kn
open Go Go.Proofs Go.X Go.X.Sg
set_option maxRecDepth 20000
set_option maxHeartbeats 4000000
def lq:jU Tryz.prog 3=true:=kq
def ot:fp Tryz.prog 3=some 1:=kq
def vG(kb:Nat)(k:KP)(n:Int)(hn:0<=n/\n<20):Spec Tryz.prog 58 [ay kb 0 (jV n)] [.cells kb 0 453 (aD k)] (fun v H1=>∃ c,v=ay c 0 0/\H1=[.cells c 0 11 (Sg.fF (k.u n).bx.bA),.cells kb 0 453 (aD k)]):=by
 refine Spec.go 8 [0,2,3] [] Tryz.func58 fun W=> ?_;refine lW .aa (J5 _ og) (XO.bG (z:=.agg #[.int .u16 0,.int .u16 0,iI 0,iI 0,iI 0,iI 0,iI 0,iI 0,iI 0,iI 0,iI 0]) (m:=11) (C:=Sg.fF BS.cP) Qn ?_);intro c;apply gO;refine fW .aa (T3 JB _) rfl ⟨rfl,rfl⟩ (st .aa (vi _ (w':=fun _=>false) rfl) rfl (aM rfl rfl (ah (pz 2) rfl ?_)));exact⟨c,rfl,rfl⟩
def Pm:nT Tryz.prog 39=true:=kq
def Cj:fp Tryz.prog 39=some 2:=kq
def aa4:nT Tryz.prog 83=true:=kq
def GW:nT Tryz.prog 87=true:=kq
def Pn:dc Tryz.prog 57=true:=kq
def GX:dc Tryz.prog 58=true:=kq
def Ip:eK Tryz.prog 89 2=some 2:=kq
def Iq:eK Tryz.prog 89 4=some 4:=kq
def Po:eK Tryz.prog 89 5=some 5:=kq
def Pp:eK Tryz.prog 89 6=some 11:=kq
def We:jU Tryz.prog 82=true:=kq
def Pq:fp Tryz.prog 83=some 6:=kq
def rE:fp Tryz.prog 87=some 11:=kq
def rF:fp Tryz.prog 89=some 22:=kq
def oT(n g:Int)(nb:Nat)(f:Int->Int)(b:BS):∀ w,(Instr.build 89 #[(0,iI 1),(1,iI n),(2,iI g),(4,ay nb 0 0),(5,.agg (Sx f)),(6,.agg (Yx b))]).run Tryz.prog w= .ok (.agg (PU.cF ⟨1,n,g,0,ay nb 0 0,f,b⟩)) w:=fun w=>kq
end Go.X.Kn

namespace Go.X.Tr
open Go Go.X
variable{p0 p1:Nat}
structure aZ.U where
 aO:Int
 n:Int
 at_:Int
 cm:Bool
 cQ:Int
def aZ.un(s:OS)(z:Int):aZ.U:=⟨s.aO z,s.n z,s.at_ z,s.cm z,s.cQ z⟩
def aZ.cell(u:aZ.U)(j:Nat):Value:=
 if j=0 then iI u.aO else
 if j=1 then iI u.n else
 if j=2 then iI u.at_ else
 if j=3 then .bool u.cm else
 if j=4 then iI u.cQ else
 undef
def aZ(p0 p1:Nat)(s:OS)(i:Nat):Value:=
 if i=0 then ay p0 0 0 else
 if i=1 then ay p1 0 0 else
 if i<122 then aZ.cell (aZ.un s (((i-2)/5:Nat):Int)) ((i-2)%5)else
 undef
def rG(s:OS):0+0<122/\aZ p0 p1 s (0+0)=ay p0 0 0:=by grind [aZ]
def aZ.J1(s:OS):0+1<122/\aZ p0 p1 s (0+1)=ay p1 0 0:=by grind [aZ]
theorem aZ.at_(s:OS)(z:Int)(h:0<=z/\z<24)(j:Nat)(hj:j<5):aZ p0 p1 s (0+2+z.toNat*5+j)=aZ.cell (aZ.un s z) j:=by
 unfold aZ;grind
theorem aZ.set(s s':OS)(z:Int)(h:0<=z/\z<24)(k:Nat)(hk:k<5)(v:Value)(hv:∀ j,aZ.cell (aZ.un s' z) j=if j=k then v else aZ.cell (aZ.un s z) j)(ho:∀ y,¬y=z->aZ.un s' y=aZ.un s y):0+2+z.toNat*5+k<122/\dP (aZ p0 p1 s) (0+2+z.toNat*5+k) v=aZ p0 p1 s':=by
 refine⟨og,?_⟩;funext i;grind [dP,aZ]
def aZ.TP(s s':OS)(z:Int)(h:0<=z/\z<24)(vs:List Value)(hl:vs.length=5)(hv:∀ j,j<5->vs[j]? =some (aZ.cell (aZ.un s' z) j))(ho:∀ y,¬y=z->aZ.un s' y=aZ.un s y):0+2+z.toNat*5+5<=122/\cD (aZ p0 p1 s) (0+2+z.toNat*5) vs=aZ p0 p1 s':=by
 refine⟨og,?_⟩;funext i;by_cases a1:i<0+2+z.toNat*5
 ·grind [iw,aZ]
 ·by_cases a2:i<0+2+z.toNat*5+5
  ·obtain⟨j,rfl⟩:∃ j,i=0+2+z.toNat*5+j:=⟨i-(0+2+z.toNat*5),og⟩;rw[aZ.at_ s' z h j og];simp_all[fP]
  grind [ix,aZ]
def mv(s:OS)(z:Int)(h:0<=z/\z<24:=by omega):0+2+z.toNat*5+0<122/\aZ p0 p1 s (0+2+z.toNat*5+0)=iI (s.aO z):=⟨og,aZ.at_ s z h 0 og⟩
def qf(s:OS)(z:Int)(h:0<=z/\z<24:=by omega):0+2+z.toNat*5+1<122/\aZ p0 p1 s (0+2+z.toNat*5+1)=iI (s.n z):=⟨og,aZ.at_ s z h 1 og⟩
def oG(s:OS)(z:Int)(h:0<=z/\z<24:=by omega):0+2+z.toNat*5+2<122/\aZ p0 p1 s (0+2+z.toNat*5+2)=iI (s.at_ z):=⟨og,aZ.at_ s z h 2 og⟩
def aZ.Ir(s:OS)(z:Int)(h:0<=z/\z<24)(v:Int):0+2+z.toNat*5+2<122/\dP (aZ p0 p1 s) (0+2+z.toNat*5+2) (iI v)=aZ p0 p1 {s with at_:=ad s.at_ z v} :=aZ.set s {s with at_:=ad s.at_ z v} z h 2 og _ (fun j=>by
 have e:aZ.un {s with at_:=ad s.at_ z v} z= {aZ.un s z with at_:=v} :=by unfold aZ.un;simp only[aj]
 rw[e]
 by_cases hj:j=2
 ·subst hj;rfl
 ·unfold aZ.cell;simp only[if_neg hj]) fun y hy=>by unfold aZ.un;simp only[ae _ _ hy]
def BR(s:OS)(z:Int)(h:0<=z/\z<24):0+2+z.toNat*5+3<122/\aZ p0 p1 s (0+2+z.toNat*5+3)= .bool (s.cm z):=⟨og,aZ.at_ s z h 3 og⟩
def ky(s:OS)(z:Int)(h:0<=z/\z<24:=by omega):0+2+z.toNat*5+4<122/\aZ p0 p1 s (0+2+z.toNat*5+4)=iI (s.cQ z):=⟨og,aZ.at_ s z h 4 og⟩
def uT(s:OS)(z:Int)(h:0<=z/\z<24)(v:Int):0+2+z.toNat*5+4<122/\dP (aZ p0 p1 s) (0+2+z.toNat*5+4) (iI v)=aZ p0 p1 {s with cQ:=ad s.cQ z v} :=aZ.set s {s with cQ:=ad s.cQ z v} z h 4 og _ (fun j=>by
 have e:aZ.un {s with cQ:=ad s.cQ z v} z= {aZ.un s z with cQ:=v} :=by unfold aZ.un;simp only[aj]
 rw[e]
 by_cases hj:j=4
 ·subst hj;rfl
 ·unfold aZ.cell;simp only[if_neg hj]) fun y hy=>by unfold aZ.un;simp only[ae _ _ hy]
def aZ.cF(u:aZ.U):Array Value:= #[iI u.aO,iI u.n,iI u.at_,.bool u.cm,iI u.cQ]
def aZ.LQ(s:OS)(z:Int)(h:0<=z/\z<24):0+2+z.toNat*5+5<=122/\dv (aZ p0 p1 s) (0+2+z.toNat*5) 5= .agg (aZ.cF (aZ.un s z)):=by
 refine⟨og,?_⟩;have q:=fun j hj=>aZ.at_ (p0:=p0) (p1:=p1) s z h j hj;simp only[dv,List.range,List.range.loop,List.map_cons,List.map_nil];rw[q 0 og,q 1 og,q 2 og,q 3 og,q 4 og];rfl
theorem aZ.box(u:aZ.U):∀ i,i<5->cellsOf (aZ.cF u) i=aZ.cell u i:=fun i h=>match i,h with
 | 0,_=>rfl
 | 1,_=>rfl
 | 2,_=>rfl
 | 3,_=>rfl
 | 4,_=>rfl
 | j+5,h=>absurd h og
def Wf(u0 u:aZ.U):0+5<=5/\cD (aZ.cell u0) 0 (aZ.cF u).toList=aZ.cell u:=by
 refine⟨og,?_⟩;funext i;match i with
 | 0=>rfl
 | 1=>rfl
 | 2=>rfl
 | 3=>rfl
 | 4=>rfl
 | k+5=>
  have e1:∀ u:aZ.U,aZ.cell u (k+5)=undef:=fun u=>by unfold aZ.cell;iterate 5 rw[if_neg og]
  have e2:cD (aZ.cell u0) 0 (aZ.cF u).toList (k+5)=aZ.cell u0 (k+5):=by simp[cD,dP,aZ.cF]
  rw[e2,e1,e1]
def Lf(u:aZ.U):0+0<5/\aZ.cell u (0+0)=iI u.aO:=⟨og,rfl⟩
def Lg(u:aZ.U):0+1<5/\aZ.cell u (0+1)=iI u.n:=⟨og,rfl⟩
theorem aZ.put(s:OS)(z k n:Int)(w:Bool)(r:Int)(h:0<=z/\z<24):0+2+z.toNat*5+5<=122/\cD (aZ p0 p1 s) (0+2+z.toNat*5) (aZ.cF ⟨k,n,0,w,r⟩).toList=aZ p0 p1 ⟨ad s.aO z k,ad s.n z n,ad s.at_ z 0,ad s.cQ z r,ad s.cm z w⟩:=
 aZ.TP s ⟨ad s.aO z k,ad s.n z n,ad s.at_ z 0,ad s.cQ z r,ad s.cm z w⟩ z h _ rfl (fun j hj=>by
  have e:aZ.un ⟨ad s.aO z k,ad s.n z n,ad s.at_ z 0,ad s.cQ z r,ad s.cm z w⟩ z=⟨k,n,0,w,r⟩:=by unfold aZ.un;simp only[aj]
  rw[e]
  match j,hj with
  | 0,_=>rfl
  | 1,_=>rfl
  | 2,_=>rfl
  | 3,_=>rfl
  | 4,_=>rfl
  | j+5,h=>exact absurd h og) fun y hy=>by unfold aZ.un;simp only[ae _ _ hy]
end Go.X.Tr


namespace Go.Proofs
open Go.Shelf
def Ew:Go.Shelf.Ren:=⟨fun | 26=>249 | 33=>266 | 34=>267 | 38=>280 | n=>n,fun | 24=>207 | 9=>9 | 3=>3 | 4=>4 | 40=>258 | 0=>0 | n=>n,fun | n=>n⟩
def Nv:Go.Proofs.Lays2.n26 Tryz.prog Ew:= {
 mixed:=by kernel_rfl
 f26:=Tryz.func249.trans (congrArg some (by kernel_rfl))
 f33:=Tryz.func266.trans (congrArg some (by kernel_rfl))
 f34:=Tryz.func267.trans (congrArg some (by kernel_rfl))
 f38:=Tryz.func280.trans (congrArg some (by kernel_rfl))
 t0:=Tryz.underlying0
 a0:=Tryz.isAgg0
 z0:=Tryz.sizeOf0
 v0:=Tryz.zeroValue0
 t3:=Tryz.underlying3
 a3:=Tryz.isAgg3
 z3:=Tryz.sizeOf3
 v3:=Tryz.zeroValue3
 t4:=Tryz.underlying4
 a4:=Tryz.isAgg4
 z4:=Tryz.sizeOf4
 v4:=Tryz.zeroValue4
 t9:=Tryz.underlying9
 a9:=Tryz.isAgg9
 z9:=Tryz.sizeOf9
 v9:=Tryz.zeroValue9
 t24:=Tryz.underlying207
 a24:=Tryz.isAgg207
 z24:=Tryz.sizeOf207
 v24:=Tryz.zeroValue207
 t40:=Tryz.underlying258
 a40:=Tryz.isAgg258
 z40:=Tryz.sizeOf258
 v40:=Tryz.zeroValue258}
def Ex:Go.Shelf.Ren:=⟨fun | 22=>250 | 29=>268 | 30=>269 | 36=>281 | 17=>288 | n=>n,fun | 24=>207 | 9=>9 | 3=>3 | 4=>4 | 0=>0 | n=>n,fun | n=>n⟩
def Nw:Go.Proofs.Lays2.n22 Tryz.prog Ex:= {
 mixed:=by kernel_rfl
 f17:=Tryz.func288.trans (congrArg some (by kernel_rfl))
 f22:=Tryz.func250.trans (congrArg some (by kernel_rfl))
 f29:=Tryz.func268.trans (congrArg some (by kernel_rfl))
 f30:=Tryz.func269.trans (congrArg some (by kernel_rfl))
 f36:=Tryz.func281.trans (congrArg some (by kernel_rfl))
 t0:=Tryz.underlying0
 a0:=Tryz.isAgg0
 z0:=Tryz.sizeOf0
 v0:=Tryz.zeroValue0
 t3:=Tryz.underlying3
 a3:=Tryz.isAgg3
 z3:=Tryz.sizeOf3
 v3:=Tryz.zeroValue3
 t4:=Tryz.underlying4
 a4:=Tryz.isAgg4
 z4:=Tryz.sizeOf4
 v4:=Tryz.zeroValue4
 t9:=Tryz.underlying9
 a9:=Tryz.isAgg9
 z9:=Tryz.sizeOf9
 v9:=Tryz.zeroValue9
 t24:=Tryz.underlying207
 a24:=Tryz.isAgg207
 z24:=Tryz.sizeOf207
 v24:=Tryz.zeroValue207
 i9:=by kernel_rfl}
def Ey:Go.Shelf.Ren:=⟨fun | 21=>251 | 27=>270 | 28=>271 | 35=>282 | 39=>289 | n=>n,fun | 22=>55 | 3=>3 | 4=>4 | 0=>0 | n=>n,fun | n=>n⟩
def Nx:Go.Proofs.Lays2.n21 Tryz.prog Ey:= {
 mixed:=by kernel_rfl
 f21:=Tryz.func251.trans (congrArg some (by kernel_rfl))
 f27:=Tryz.func270.trans (congrArg some (by kernel_rfl))
 f28:=Tryz.func271.trans (congrArg some (by kernel_rfl))
 f35:=Tryz.func282.trans (congrArg some (by kernel_rfl))
 f39:=Tryz.func289.trans (congrArg some (by kernel_rfl))
 t0:=Tryz.underlying0
 a0:=Tryz.isAgg0
 z0:=Tryz.sizeOf0
 v0:=Tryz.zeroValue0
 t3:=Tryz.underlying3
 a3:=Tryz.isAgg3
 z3:=Tryz.sizeOf3
 v3:=Tryz.zeroValue3
 t4:=Tryz.underlying4
 a4:=Tryz.isAgg4
 z4:=Tryz.sizeOf4
 v4:=Tryz.zeroValue4
 t22:=Tryz.underlying55
 a22:=Tryz.isAgg55
 z22:=Tryz.sizeOf55
 v22:=Tryz.zeroValue55
 i3:=by kernel_rfl}
def Ez:Go.Shelf.Ren:=⟨fun | 24=>252 | n=>n,fun | 24=>207 | 9=>9 | 3=>3 | 4=>4 | 0=>0 | n=>n,fun | n=>n⟩
def Ny:Go.Proofs.Lays2.n24 Tryz.prog Ez:= {
 mixed:=by kernel_rfl
 f24:=Tryz.func252.trans (congrArg some (by kernel_rfl))
 t0:=Tryz.underlying0
 a0:=Tryz.isAgg0
 z0:=Tryz.sizeOf0
 v0:=Tryz.zeroValue0
 t3:=Tryz.underlying3
 a3:=Tryz.isAgg3
 z3:=Tryz.sizeOf3
 v3:=Tryz.zeroValue3
 t4:=Tryz.underlying4
 a4:=Tryz.isAgg4
 z4:=Tryz.sizeOf4
 v4:=Tryz.zeroValue4
 t9:=Tryz.underlying9
 a9:=Tryz.isAgg9
 z9:=Tryz.sizeOf9
 v9:=Tryz.zeroValue9
 t24:=Tryz.underlying207
 a24:=Tryz.isAgg207
 z24:=Tryz.sizeOf207
 v24:=Tryz.zeroValue207
 i9:=by kernel_rfl}
def EA:Go.Shelf.Ren:=⟨fun | 23=>253 | n=>n,fun | 22=>55 | 3=>3 | 4=>4 | 0=>0 | n=>n,fun | n=>n⟩
def Nz:Go.Proofs.Lays2.n23 Tryz.prog EA:= {
 mixed:=by kernel_rfl
 f23:=Tryz.func253.trans (congrArg some (by kernel_rfl))
 t0:=Tryz.underlying0
 a0:=Tryz.isAgg0
 z0:=Tryz.sizeOf0
 v0:=Tryz.zeroValue0
 t3:=Tryz.underlying3
 a3:=Tryz.isAgg3
 z3:=Tryz.sizeOf3
 v3:=Tryz.zeroValue3
 t4:=Tryz.underlying4
 a4:=Tryz.isAgg4
 z4:=Tryz.sizeOf4
 v4:=Tryz.zeroValue4
 t22:=Tryz.underlying55
 a22:=Tryz.isAgg55
 z22:=Tryz.sizeOf55
 v22:=Tryz.zeroValue55
 i3:=by kernel_rfl}
def Fl:Go.Shelf.Ren:=⟨fun | 16=>240 | n=>n,fun | 24=>207 | 9=>9 | 4=>4 | n=>n,fun | n=>n⟩
def RU:Go.Proofs.Lays2.n16 Tryz.prog Fl:= {
 mixed:=by kernel_rfl
 f16:=Tryz.func240.trans (congrArg some (by kernel_rfl))
 t4:=Tryz.underlying4
 a4:=Tryz.isAgg4
 z4:=Tryz.sizeOf4
 v4:=Tryz.zeroValue4
 t9:=Tryz.underlying9
 a9:=Tryz.isAgg9
 z9:=Tryz.sizeOf9
 v9:=Tryz.zeroValue9
 t24:=Tryz.underlying207
 a24:=Tryz.isAgg207
 z24:=Tryz.sizeOf207
 v24:=Tryz.zeroValue207
 i9:=by kernel_rfl}
end Go.Proofs

namespace Go.X.Tr
open Go Go.Proofs Go.X
set_option maxRecDepth 20000
set_option maxHeartbeats 4000000
def zk(p:Option Addr)(cap:Nat)(l:List ByteArray)(x:ByteArray)(hl:l.length<=1000000:=by omega):Spec Tryz.prog 249 [.slice p l.length cap,.string x] [j9 p cap 9 l] (fun v H1=>v= .tuple #[iI (bsS l x),.bool (Jf l x)]/\H1=[j9 p cap 9 l]):=LU Go.Proofs.Nv p cap 9 l x hl
def adf(p:Option Addr)(cap:Nat)(l:List ByteArray)(i:Nat)(hi:i<=l.length)(x:ByteArray)(vb:Nat)(hl:l.length<=1000000):Spec Tryz.prog 250 [.slice p l.length cap,iI i,.slice (some ⟨vb,0,none⟩) 1 1] [j9 p cap 9 l,.row (.slice (some ⟨vb,0,none⟩) 1 1) 9 1 1 [.string x]]
   (fun v H1=>∃ p' cU,v= .slice p' (l.length+1) cU/\H1=[.row (.slice p' (l.length+1) cU) 9 1 (l.length+1) (strs (l.insertIdx i x)),.row (.slice (some ⟨vb,0,none⟩) 1 1) 9 1 1 [.string x]]):=ET Go.Proofs.Nw p cap l i hi x vb 9 hl
def adg(p:Option Addr)(cap:Nat)(l:List Int)(i:Nat)(hi:i<=l.length)(x:Int)(vb:Nat)(hl:l.length<=1000000):Spec Tryz.prog 251 [.slice p l.length cap,iI i,.slice (some ⟨vb,0,none⟩) 1 1] [dy p cap 3 l,.row (.slice (some ⟨vb,0,none⟩) 1 1) 3 1 1 [iI x]]
   (fun v H1=>∃ p' cU,v= .slice p' (l.length+1) cU/\H1=[.row (.slice p' (l.length+1) cU) 3 1 (l.length+1) (fS (l.insertIdx i x)),.row (.slice (some ⟨vb,0,none⟩) 1 1) 3 1 1 [iI x]]):=LS Go.Proofs.Nx p cap l i hi x vb 3 hl
def adh(p:Option Addr)(cap:Nat)(l:List ByteArray)(i:Nat)(hi:i<l.length)(hl:l.length<=1000000):Spec Tryz.prog 252 [.slice p l.length cap,iI i,iI (i+1)] [j9 p cap 9 l] (fun v H1=>v= .slice p (l.length-1) cap/\H1=[.row (.slice p (l.length-1) cap) 9 1 (l.length-1) (strs (l.eraseIdx i))]):=EU Go.Proofs.Ny p cap l i hi 9 hl
def adi(p:Option Addr)(cap:Nat)(l:List Int)(i:Nat)(hi:i<l.length)(hl:l.length<=1000000):Spec Tryz.prog 253 [.slice p l.length cap,iI i,iI (i+1)] [dy p cap 3 l] (fun v H1=>v= .slice p (l.length-1) cap/\H1=[.row (.slice p (l.length-1) cap) 3 1 (l.length-1) (fS (l.eraseIdx i))]):=LV Go.Proofs.Nz p cap l i hi 3 hl
def Zn(p:Option Addr)(cap:Nat)(l:List ByteArray)(hl:l.length<=1000000):Spec Tryz.prog 240 [.slice p l.length cap] [j9 p cap 9 l] (fun v H1=>∃ p' cU,v= .slice p' l.length cU/\H1=[j9 p' cU 9 l,j9 p cap 9 l]):=He Go.Proofs.RU p cap 9 l hl
def Wg(x:ByteArray)(hx:x.size<=9223372036854775807):Spec Tryz.prog 247 [.string x] [] (fun v H1=>v= .bool (ko x)/\H1=[]):=by
 refine Spec.go 53 [0,2,3,5,6,7,36] [] Tryz.func247 fun W=> ?_;refine lp (σ:=Int) (fun i=>(x.size-i).toNat) (fun i=>(0<=i/\i<=x.size)/\∀ j,j<i.toNat->YE (x.get! j)=true) (fun i=>[(6,iI i),(0,.string x),(5,iI x.size)]) (fun i=>XM W (bX []) []) (0) ?_ S3 (xq .nil) ?_
 ·simp_all
 intro i hi;obtain⟨hi,ho⟩:=hi;apply gC;refine cd ?_ ?_<;>intro h1
 ·obtain⟨u,hu⟩:=Kf (s:=x) (j:=i.toNat) og;have hg:=UQ hu;refine XO.v (gH rfl rfl Tryz.underlying9 og hu) rfl (gO ?_);refine sp 13 rfl ?_ ?_<;>intro h2
  ·refine XO.v (gH rfl rfl Tryz.underlying9 og hu) rfl (gO ?_);refine sp 24 rfl ?_ ?_<;>intro h3
   ·refine XO.v (gH rfl rfl Tryz.underlying9 og hu) rfl (gO ?_);refine cd ?_ ?_<;>intro h4
    ·refine bL .nil ?_;grind [aS,aR,bN,YE,ko]
    ·refine sd (ag (i+1) ?_ ?_ S3 (xq .nil));all_goals grind [YE]
   ·refine XO.v (gH rfl rfl Tryz.underlying9 og hu) rfl (gO ?_);refine sp 31 rfl ?_ ?_<;>intro h5
    ·refine XO.v (gH rfl rfl Tryz.underlying9 og hu) rfl (gO ?_);refine cd ?_ ?_<;>intro h6
     ·refine bL .nil ?_;grind [aS,aR,bN,YE,ko]
     ·refine sd (ag (i+1) ?_ ?_ S3 (xq .nil));all_goals omega
    ·refine sd (ag (i+1) ?_ ?_ S3 (xq .nil));all_goals grind [YE]
  ·refine XO.v (gH rfl rfl Tryz.underlying9 og hu) rfl (gO ?_);refine sp 19 rfl ?_ ?_<;>intro h7
   ·refine XO.v (gH rfl rfl Tryz.underlying9 og hu) rfl (gO ?_);refine sp 24 rfl ?_ ?_<;>intro h8
    ·refine XO.v (gH rfl rfl Tryz.underlying9 og hu) rfl (gO ?_);refine cd ?_ ?_<;>intro h9
     ·refine bL .nil ?_;omega
     ·refine sd (ag (i+1) ?_ ?_ S3 (xq .nil));all_goals omega
    ·refine XO.v (gH rfl rfl Tryz.underlying9 og hu) rfl (gO ?_);refine sp 31 rfl ?_ ?_<;>intro Tu
     ·refine XO.v (gH rfl rfl Tryz.underlying9 og hu) rfl (gO ?_);refine cd ?_ ?_<;>intro h11
      ·refine bL .nil ?_;grind [aS,aR,bN,YE,ko]
      ·refine sd (ag (i+1) ?_ ?_ S3 (xq .nil));all_goals omega
     ·refine sd (ag (i+1) ?_ ?_ S3 (xq .nil));all_goals omega
   ·refine sd (ag (i+1) ?_ ?_ S3 (xq .nil));all_goals grind [YE]
 ·have G3:∀ j,j<x.size->YE (x.get! j)=true:=fun j hj=>ho j og;refine sp 40 rfl ?_ ?_<;>intro h12
  ·refine sp 44 rfl ?_ ?_<;>intro h13
   ·refine sp 48 rfl ?_ ?_<;>intro h14
    ·refine bL .nil ?_;grind [aS,aR,yF,ko]
    ·refine bL .nil ?_;grind [aS,aR,bN,ko]
   ·refine bL .nil ?_;grind [aS,aR,bN,ko]
  ·refine bL .nil ?_;grind [aS,aR,bN,yF,ko]
def AO(b o:Nat)(s:FC)(n:Int):Spec Tryz.prog 185 [ay b o 0,iI n] [.cells b o 321 (aC s)] (fun v H1=>v=ax 102 (s.cC n 0)/\H1=[.cells b o 321 (aC s)]):=by
 refine Spec.go 21 [0,1,4,10,19] [] Tryz.func185 fun W=> ?_;refine sp 7 rfl ?_ ?_<;>intro h1
 ·refine bL .h1 ?_;try dsimp only[aS,aR,bI,bN]
  have e:s.cC n 0=1:=by unfold FF.cC;rw[if_pos og]
  grind [ax]
 ·refine cd ?_ ?_<;>intro h2
  ·refine bL .h1 ?_;try dsimp only[aS,aR,bI,bN]
   have e:s.cC n 0=1:=by unfold FF.cC;rw[if_pos og]
   grind [ax]
  ·refine sd (ld .aa (fR _ _) ?_);refine cd ?_ ?_<;>intro h3
   ·refine bL .h1 ?_;try dsimp only[aS,aR,bI,bN]
    have e:s.cC n 0=2:=by unfold FF.cC;rw[if_neg og,if_pos og]
    grind [ax]
   ·refine bL .h1 ?_;try dsimp only[aS,aR,bI,bN]
    have e:s.cC n 0=0:=by unfold FF.cC;rw[if_neg og,if_neg og,if_neg og]
    grind [ax]
def Pr(b o:Nat)(s:FC)(n:Int):Spec Tryz.prog 237 [ay b o 0,iI n] [.cells b o 321 (aC s)] (fun v H1=>v=ax 102 (s.cC n 2)/\H1=[.cells b o 321 (aC s)]):=by
 refine Spec.go 23 [0,1,4,5,20] [] Tryz.func237 fun W=> ?_;refine cq (AO _ _ _ _) .h1 ?_;refine sp 11 rfl ?_ ?_<;>intro h1
 ·obtain⟨i1,i2,i3⟩:=FF.yH (show s.cC n 0=0 by assumption);refine sd (ld .aa (fR _ _) ?_);refine cd ?_ ?_<;>intro h2
  ·refine bL .h1 ?_;try dsimp only[aS,aR,bI,bN]
   have e:s.cC n 2=11:=by unfold FF.cC;rw[if_neg og,if_neg og,if_pos og]
   grind [ax]
  ·refine bL .h1 ?_;try dsimp only[aS,aR,bI,bN]
   have e:s.cC n 2=0:=by unfold FF.cC;rw[if_neg og,if_neg og,if_neg og]
   simp_all
 ·have i0:s.cC n 0≠0:=aq;refine bL .h1 ?_;try dsimp only[aS,aR,bI,bN]
  exact⟨by rw[FF.UR i0],rfl⟩
def NA(b o:Nat)(s:FC)(n:Int):Spec Tryz.prog 194 [ay b o 0,iI n] [.cells b o 321 (aC s)] (fun v H1=>v=ax 102 (s.cC n 1)/\H1=[.cells b o 321 (aC s)]):=by
 refine Spec.go 23 [0,1,4,5,20] [] Tryz.func194 fun W=> ?_;refine cq (AO _ _ _ _) .h1 ?_;refine sp 11 rfl ?_ ?_<;>intro h1
 ·obtain⟨i1,i2,i3⟩:=FF.yH (show s.cC n 0=0 by assumption);refine sd (ld .aa (fR _ _) ?_);refine cd ?_ ?_<;>intro h2
  ·refine bL .h1 ?_;try dsimp only[aS,aR,bI,bN]
   have e:s.cC n 1=11:=by unfold FF.cC;rw[if_neg og,if_neg og,if_pos og]
   grind [ax]
  ·refine bL .h1 ?_;try dsimp only[aS,aR,bI,bN]
   have e:s.cC n 1=0:=by unfold FF.cC;rw[if_neg og,if_neg og,if_neg og]
   simp_all
 ·have i0:s.cC n 0≠0:=aq;refine bL .h1 ?_;try dsimp only[aS,aR,bI,bN]
  exact⟨by rw[FF.UR i0],rfl⟩
def xy(b o:Nat)(s:FC)(hI:s.toFF.Sh)(n:Int)(x:ByteArray):Spec Tryz.prog 235 [ay b o 0,iI n,.string x] [.cells b o 321 (aC s),.aQ au (s.aX 9),.aQ au (s.aY 3)] (fun v H1=>v= .tuple #[iI (s.bO n x),ax 102 (s.fK n x)]/\H1=[.cells b o 321 (aC s),.aQ au (FC.aX 9 s),.aQ au (FC.aY 3 s)]):=by
 refine Spec.go 42 [0,1,2,6,7,8,9,10,15,30] [] Tryz.func235 fun W=> ?_;refine cq (Pr _ _ _ _) .h1 ?_;refine cd ?_ ?_<;>intro h1
 ·have i0:s.cC n 2≠0:=aq;refine er (pz 3) ?_;have e:s.fK n x=s.cC n 2:=by unfold FF.fK;rw[if_pos i0]
  exact⟨by rw[show s.bO n x=0 from by unfold FF.bO;rw[if_neg og],e]<;>rfl,rfl⟩
 ·obtain⟨i1,i2,i3,i4⟩:=FF.jt (show s.cC n 2=0 by simpa using h1);have i0:s.cC n 2=0:=by simpa using h1
  obtain⟨hr,hk,h8,_⟩:=hI.js n i1 i2;have Xe:=Dz hr x;have hbh:=yE hr x;have hpl:=oC (s.aI n) x;refine sd (ld .aa (fB _ _) (XR.mono (fun _ bJ=>nH (s:=s) (z:=n) og (pk [1]) bJ) ?_));refine cq (zk _ _ _ _) .h1 ?_;apply XR.mono fun _ bJ=>lO (s:=s) s (z:=n) og rfl (cH _ rfl).symm (cH _ rfl).symm (cH _ rfl).symm (pz 2) bJ;refine wM ?_ ?_<;>intro h2
  ·try simp only[sb]at h2
   have hh:pt (s.aI n) x=false:=by rw[<-hbh];simpa using h2
   refine er (pk [1,0,0]) ?_;have e:s.fK n x=2:=by unfold FF.fK;rw[if_neg og,if_neg (by rw[hh];simp)]
   exact⟨by rw[show s.bO n x=0 from by unfold FF.bO;rw[if_neg og],e];rfl,rfl⟩
  ·try simp only[sb]at h2
   have hh:pt (s.aI n) x=true:=by rw[<-hbh];simpa using h2
   obtain⟨Sy,Ly⟩:=mi.1 hh;refine sd (XR.mono (fun _ bJ=>yO (s:=s) (z:=n) og (pk [2]) bJ) (ld (.t3 .aa) (ml _ _) (bP .aa og ?_)));intro g hg;rw[hg];refine sd (zC .aa (ints_at) (XR.mono (fun _ bJ=>vu (s:=s) s (z:=n) og rfl (cH _ rfl).symm (cH _ hg).symm (cH _ rfl).symm (pz 2) bJ) (aW rfl rfl rfl (ah (pk [2,1,0]) rfl ?_))));have e:s.fK n x=0:=by unfold FF.fK;rw[if_neg og,if_pos hh]
   exact⟨by rw[show s.bO n x=gh (s.kids n) (eC (s.aI n) x)from by unfold FF.bO;rw[if_pos e],e,Xe];rfl,rfl⟩
def EB(b o:Nat)(s:FC)(hI:s.toFF.Sh)(n:Int)(x:ByteArray)(hx:x.size<=9223372036854775807):Spec Tryz.prog 233 [ay b o 0,iI n,.string x] [.cells b o 321 (aC s),.aQ au (s.aX 9),.aQ au (s.aY 3)] (fun v H1=>v=ax 102 (s.fi n x)/\H1=[.cells b o 321 (aC s),.aQ au (FC.aX 9 s),.aQ au (FC.aY 3 s)]):=by
 refine Spec.go 44 [0,1,2,6,7,9,14,18,32,42] [] Tryz.func233 fun W=> ?_;refine cq (Pr _ _ _ _) .h1 ?_;refine cd ?_ ?_<;>intro h1
 ·have i0:s.cC n 2≠0:=aq;refine bL (pz 3) ?_;try dsimp only[aS,aR,bI,bN]
  have e:s.fi n x=s.cC n 2:=by unfold FF.fi;rw[if_pos i0]
  simp_all
 ·obtain⟨i1,i2,i3,i4⟩:=FF.jt (show s.cC n 2=0 by simpa using h1);have i0:s.cC n 2=0:=by simpa using h1
  obtain⟨hr,hk,h8,_⟩:=hI.js n og og;have Xe:=Dz hr x;have hbh:=yE hr x;have hpl:=oC (s.aI n) x;refine cq (Wg _ og) .nil ?_;refine wM ?_ ?_<;>intro h2
  ·try simp only[sb]at h2
   have hn:ko x=false:=by simpa using h2
   refine bL (pz 3) ?_;try dsimp only[aS,aR,bI,bN]
   have e:s.fi n x=9:=by unfold FF.fi;rw[if_neg og,if_pos hn]
   grind [ax]
  ·try simp only[sb]at h2
   have hn:ko x=true:=by simpa using h2
   refine sd (ld .aa (fB _ _) (XR.mono (fun _ bJ=>nH (s:=s) (z:=n) og (pk [1]) bJ) ?_));refine cq (zk _ _ _ _) .h1 ?_;refine XR.mono (fun _ bJ=>lO (s:=s) s (z:=n) og rfl (cH _ rfl).symm (cH _ rfl).symm (cH _ rfl).symm (pz 2) bJ) ?_;refine wM ?_ ?_<;>intro h3
   ·try simp only[sb]at h3
    have hh:pt (s.aI n) x=true:=by rw[<-hbh];simpa using h3
    refine bL (pk [1,0,0]) ?_;try dsimp only[aS,aR,bI,bN]
    have e:s.fi n x=3:=by unfold FF.fi;rw[if_neg og,if_neg (by rw[hn];simp),if_pos hh]
    grind [ax]
   ·try simp only[sb]at h3
    have hh:pt (s.aI n) x=false:=by rw[<-hbh];simpa using h3
    refine sd (ld (.ao .aa) (fB _ _) ?_);refine cd ?_ ?_<;>intro h4
    ·refine bL (pk [1,0,0]) ?_;try dsimp only[aS,aR,bI,bN]
     have e:s.fi n x=4:=by unfold FF.fi;rw[if_neg og,if_neg (by rw[hn];simp),if_neg (by rw[hh];simp),if_pos og]
     grind [ax]
    ·refine bL (pk [1,0,0]) ?_;try dsimp only[aS,aR,bI,bN]
     have e:s.fi n x=0:=by unfold FF.fi;rw[if_neg og,if_neg (by rw[hn];simp),if_neg (by rw[hh];simp),if_neg og]
     grind [ax]
def EC(b o:Nat)(s:FC)(hI:s.toFF.Sh)(n:Int)(x:ByteArray)(k:Int)(hn:0<=n/\n<40:=by omega):Spec Tryz.prog 234 [ay b o 0,iI n,.string x,iI k] [.cells b o 321 (aC s),.aQ au (s.aX 9),.aQ au (s.aY 3)] (fun v H1=>v= .tuple #[]/\∃ t:FC,t.toFF=s.tm n x k/\t.rP=s.rP/\t.rC=s.rC/\H1=[.cells b o 321 (aC t),.aQ au (FC.aX 9 t),.aQ au (FC.aY 3 t)]):=by
 obtain⟨hr,hk,h8,_⟩:=hI.js n og og;have Xe:=Dz hr x;have hbh:=yE hr x;have hpl:=oC (s.aI n) x;refine Spec.go 47 [2,3,8,9] [] Tryz.func234 fun W=> ?_;refine sd (ld .aa (fB _ _) (XR.mono (fun _ bJ=>nH (s:=s) (z:=n) og (pk [1]) bJ) ?_));refine ca (zk _ _ _ _) .h1 ?_;rintro _ _ ⟨rfl,rfl⟩;rw[Xe];apply gO;refine XR.mono (fun _ bJ=>lO (s:=s) s (z:=n) og rfl (cH _ rfl).symm (cH _ rfl).symm (cH _ rfl).symm (pz 2) bJ) (ld (.ao .aa) (fB _ _) (XR.mono (fun _ bJ=>nH (s:=s) (z:=n) og .h1 bJ) (nt (e:=9) (vs:= #[(0,.string x)]) (A:= #[.string x]) (sz:=1) rfl (fun _=>kq) rfl og rfl ?_)));intro b1;apply gO;refine ca (adf _ _ _ _ hpl _ _ og) (pk [1,0]) ?_;rintro _ _ ⟨p1,c1,rfl,rfl⟩;apply gO;refine XR.mono (fun _ bJ=>lO (s:=s) ({s with aI:=ad s.aI n ((s.aI n).insertIdx (eC (s.aI n) x) x),nP:=ad s.nP n p1,nC:=ad s.nC n c1} :FC) (z:=n) (l:=((s.aI n).insertIdx (eC (s.aI n) x) x)) og (by rw[List.length_insertIdx,if_pos hpl]) rfl rfl rfl (pk [0,1]) bJ) (st (.t2 .aa) (sX _ _ og ((s.aI n).insertIdx (eC (s.aI n) x) x) _ _ _ (by rw[List.length_insertIdx,if_pos hpl])) rfl (ld (.t2 .aa) (ml _ _) (XR.mono (fun _ bJ=>yO (s:=s) (z:=n) og (pk [3]) bJ) (nt (e:=3) (vs:= #[(0,iI k)]) (A:= #[iI k]) (sz:=1) rfl (fun _=>kq) rfl og rfl ?_))));intro b2;apply gO;refine ca (adg (s.kP n) (s.kC n) (s.kids n) (eC (s.aI n) x) og k _ og) (pk [1,0]) ?_;rintro _ _ ⟨p2,c2,rfl,rfl⟩;apply gO;refine XR.mono (fun _ bJ=>vu (s:=s) (s.afr n x k p1 c1 p2 c2) (z:=n) (l:=((s.kids n).insertIdx (eC (s.aI n) x) k)) og (by rw[List.length_insertIdx,if_pos og]) rfl rfl rfl (pk [0,1]) bJ) (st (.t4 .aa) (uv _ _ og ((s.kids n).insertIdx (eC (s.aI n) x) k) _ _ _ (by rw[List.length_insertIdx,if_pos og])) rfl (cY rfl (ah (pk [4,2,0]) rfl ?_)));exact⟨rfl,s.afr n x k p1 c1 p2 c2,rfl,rfl,rfl,rfl⟩
def Ps(b o:Nat)(s:FC)(hI:s.toFF.Sh)(n:Int)(x:ByteArray)(hn:0<=n/\n<40)(hh:pt (s.aI n) x=true):Spec Tryz.prog 236 [ay b o 0,iI n,.string x] [.cells b o 321 (aC s),.aQ au (s.aX 9),.aQ au (s.aY 3)] (fun v H1=>v= .tuple #[]/\∃ t:FC,t.toFF=s.ey n x/\t.rP=s.rP/\t.rC=s.rC/\H1=[.cells b o 321 (aC t),.aQ au (FC.aX 9 t),.aQ au (FC.aY 3 t)]):=by
 obtain⟨hr,hk,h8,_⟩:=hI.js n og og;have Xe:=Dz hr x;have hbh:=yE hr x;have hpl:=oC (s.aI n) x;have rH:=(mi.1 hh).1;refine Spec.go 45 [2,6,7] [] Tryz.func236 fun W=> ?_;refine sd (ld .aa (fB _ _) (XR.mono (fun _ bJ=>nH (s:=s) (z:=n) og (pk [1]) bJ) ?_));refine ca (zk _ _ _ _) .h1 ?_;rintro _ _ ⟨rfl,rfl⟩;rw[Xe];apply gO;refine XR.mono (fun _ bJ=>lO (s:=s) s (z:=n) og rfl (cH _ rfl).symm (cH _ rfl).symm (cH _ rfl).symm (pz 2) bJ) (ld (.ao .aa) (fB _ _) (XR.mono (fun _ bJ=>nH (s:=s) (z:=n) og .h1 bJ) (sd ?_)));refine cq (adh _ _ _ _ rH og) .h1 ?_;refine XR.mono (fun _ bJ=>lO (s:=s) ({s with aI:=ad s.aI n ((s.aI n).eraseIdx (eC (s.aI n) x)),nP:=ad s.nP n (s.nP n),nC:=ad s.nC n (s.nC n)} :FC) (z:=n) (l:=((s.aI n).eraseIdx (eC (s.aI n) x))) og (by rw[List.length_eraseIdx,if_pos rH]) rfl rfl rfl (pz 2) bJ) (st (.ao .aa) (sX _ _ og ((s.aI n).eraseIdx (eC (s.aI n) x)) _ _ _ (by rw[List.length_eraseIdx,if_pos rH])) rfl (ld (.ao .aa) (ml _ _) (XR.mono (fun _ bJ=>yO (s:=s) (z:=n) og (pk [2]) bJ) (sd ?_))));refine cq (adi (s.kP n) (s.kC n) (s.kids n) (eC (s.aI n) x) og og) .h1 ?_;refine XR.mono (fun _ bJ=>vu (s:=s) (s.afs n x) (z:=n) (l:=((s.kids n).eraseIdx (eC (s.aI n) x))) og (by rw[List.length_eraseIdx,if_pos og]) rfl rfl rfl (pz 2) bJ) (st (.t2 .aa) (uv _ _ og ((s.kids n).eraseIdx (eC (s.aI n) x)) _ _ _ (by rw[List.length_eraseIdx,if_pos og])) rfl (cY rfl (ah (pk [2,1,0]) rfl ?_)));exact⟨rfl,s.afs n x,rfl,rfl,rfl,rfl⟩
def vD(b o:Nat)(s:FC)(k t l u:Int):Spec Tryz.prog 175 [ay b o 0,.agg (yP k t l u)] [.cells b o 321 (aC s),.aQ au (s.aX 9),.aQ au (s.aY 3)] (fun v H1=>(s.free<0/\v= .tuple #[iI 0,ax 102 4]/\H1=[.cells b o 321 (aC s),.aQ au (FC.aX 9 s),.aQ au (FC.aY 3 s)])\/(¬s.free<0/\v= .tuple #[iI s.free,ax 102 0]/\H1=[.cells b o 321 (aC (s.xd s.free k t l u)),.aQ au (FC.aX 9 (s.xd s.free k t l u)),.aQ au (FC.aY 3 (s.xd s.free k t l u))])):=by
 refine Spec.go 27 [0,3,4,5,6,7,8,17] [] Tryz.func175 fun W=> ?_;refine XO.box (m:=8) (C:=aC.cell (Gm k t l u)) rfl rfl (Ko k t l u) rfl ?_;intro bx;apply gO;refine lp (σ:=Int) (fun i=>(40-i).toNat) (fun i=>(0<=i/\i<=40)/\∀ j,0<=j->j<i->s.aO j≠0) (fun i=>[(7,iI i),(0,ay b o 0),(3,ay bx 0 0)]) (fun i=>XM W (bX [.cells b o 321 (aC s),.aQ au (s.aX 9),.aQ au (s.aY 3)]) [.cells b o 321 (aC s),.aQ au (s.aX 9),.aQ au (s.aY 3),.cells bx 0 8 (aC.cell (Gm k t l u))]) (0) ?_ S3 (xq (pk [1,1,1,0])) ?_
 ·grind
 intro i hi;obtain⟨hi,ho⟩:=hi;apply gC;refine cd ?_ ?_<;>intro h1
 ·refine sd (ld .aa (fR _ _) ?_);refine cd ?_ ?_<;>intro h2
  ·refine rq [0,1,2,3,4,5,6] mixed (lW (.t3 .aa) (UU k t l u) (sd (fW .aa (Km s i k t l u) rfl ⟨rfl,rfl⟩ (XR.mono (fun _ bJ=>OF (s:=s) (s.xd i k t l u) og rfl rfl rfl (pk [1]) bJ) (XR.mono (fun _ bJ=>OG (s:=s) (s.xd i k t l u) og rfl rfl rfl (pk [2]) bJ) (aW rfl rfl rfl (ah (pk [2,1,0]) rfl ?_)))))));try dsimp only[aS,aR,bI,bN]
   have e:=FF.p9 hi.1 og ho aq;grind [ax]
  ·refine sd (ag (i+1) ?_ ?_ S3 (xq (pz 4)));all_goals grind
 ·refine er (pz 3) ?_;try dsimp only[aS,aR,bI,bN]
  have e:=FF.zW (s:=s.toFF) fun j a b=>ho j a og;grind [ax]
def NB(b o:Nat)(s:FC)(n:Int)(hn:0<=n/\n<40:=by omega):Spec Tryz.prog 195 [ay b o 0,iI n] [.cells b o 321 (aC s),.aQ au (s.aX 9),.aQ au (s.aY 3)] (fun v H1=>v= .tuple #[]/\∃ t:FC,t.toFF=s.rk n/\t.rP=s.rP/\t.rC=s.rC/\H1=[.cells b o 321 (aC t),.aQ au (FC.aX 9 t),.aQ au (FC.aY 3 t)]):=by
 refine Spec.go 28 [0,1,21] [] Tryz.func195 fun W=> ?_;refine sd (ld .aa (lA _ _) ?_);refine sp 12 rfl ?_ ?_<;>intro h1
 ·refine sd (ld .aa (kr _ _) ?_);refine cd ?_ ?_<;>intro h2
  ·refine XO.v (V.build (vs:= #[]) rfl (v:=.agg (yP 0 0 0 0)) fun _=>kq) rfl (gO ?_);refine sd (fW .aa (Km s n 0 0 0 0) rfl ⟨rfl,rfl⟩ (XR.mono (fun _ bJ=>OF (s:=s) (s.xd n 0 0 0 0) og rfl rfl rfl (pk [1]) bJ) (XR.mono (fun _ bJ=>OG (s:=s) (s.xd n 0 0 0 0) og rfl rfl rfl (pk [2]) bJ) (cY rfl (ah (pk [2,1,0]) rfl ?_)))));exact⟨rfl,s.xd n 0 0 0 0,by unfold FF.rk;rw[if_pos ⟨aq,aq⟩];rfl,rfl,rfl,rfl⟩
  ·refine cY rfl (ah (pz 3) rfl ?_);exact⟨rfl,s,by unfold FF.rk;rw[if_neg og],rfl,rfl,rfl⟩
 ·refine cY rfl (ah (pz 3) rfl ?_);exact⟨rfl,s,by unfold FF.rk;rw[if_neg og],rfl,rfl,rfl⟩
def adk(b o:Nat)(s:FC)(n:Int):Spec Tryz.prog 239 [ay b o 0,iI n] [.cells b o 321 (aC s)] (fun v H1=>v= .tuple #[iI (if s.cC n 0=0 then s.dJ n else 0),ax 102 (s.cC n 0)]/\H1=[.cells b o 321 (aC s)]):=by
 refine Spec.go 20 [0,1,4,5,6,11] [] Tryz.func239 fun W=> ?_;refine cq (AO _ _ _ _) .h1 ?_;refine cd ?_ ?_<;>intro h1
 ·have i0:s.cC n 0≠0:=aq;refine er .h1 ?_;grind [aS,aR,bN]
 ·obtain⟨i1,i2,i3,i4⟩:=FF.jt (show s.cC n 0=0 by simpa using h1);have i0:s.cC n 0=0:=by simpa using h1
  refine sd (ld .aa (gP _ _) (aW rfl rfl rfl (ah .h1 rfl ?_)));grind [aS,aR,bN,ax]
def Zo(b o:Nat)(s:FC)(d:Int->Nat)(n k:Int)(hn:0<=n/\n<40/\s.aO n=2)(hc:s.toFF.Ch d k):Spec Tryz.prog 238 [ay b o 0,iI n,iI k] [.cells b o 321 (aC s)] (fun v H1=>v= .bool (FF.Kg d s.toFF n k)/\H1=[.cells b o 321 (aC s)]):=by
 refine Spec.go 26 [0,1,2,6,9,18] [] Tryz.func238 fun W=> ?_;refine lp (σ:=Int) (fun i=>d i) (fun i=>(0<=i/\i<40/\s.aO i=2)/\FF.Kg d s.toFF n k=FF.Kg d s.toFF i k) (fun i=>[(1,iI i),(0,ay b o 0),(2,iI k)]) (fun i=>XM W (bX [.cells b o 321 (aC s)]) [.cells b o 321 (aC s)]) (n) ?_ S3 (xq .h1) ?_
 ·simp_all
 intro i hi;obtain⟨hi,he⟩:=hi;refine gC ?_;refine cd ?_ ?_<;>intro h1
 ·refine sd (ld .aa (yJ _ _) ?_);refine cd ?_ ?_<;>intro h2
  ·refine bL .h1 ?_;try dsimp only[aS,aR,bI,bN]
   have e:=FF.yK hc og og hi.2.2 (show i≠k by assumption);simp_all
  ·refine sd (ld .aa (yJ _ _) (ag (s.up i) ?_ ?_ S3 (xq .h1)))
   ·rcases hc i og og hi.2.2 aq with g | ⟨g1,g2,g3,g4⟩;all_goals omega
   ·have e:=FF.yK hc og og hi.2.2 (show i≠k by assumption);rw[if_neg aq]at e;rcases hc i og og hi.2.2 aq with g | ⟨g1,g2,g3,g4⟩;all_goals simp_all
 ·refine bL .h1 ?_;try dsimp only[aS,aR,bI,bN]
  have e:i=k:=og;exact⟨by rw[he,e,FF.Kk],rfl⟩
def Wh(b o:Nat)(s:FC)(hI:s.toFF.Sh)(t:Int):Spec Tryz.prog 176 [ay b o 0,iI t] [.cells b o 321 (aC s),dy s.rP s.rC 3 s.roots] (fun v H1=>v= .tuple #[iI (s.fV t),ax 102 (s.mG t)]/\H1=[.cells b o 321 (aC s),dy s.rP s.rC 3 s.roots]):=by
 have hr4:=hI.roots.1;refine Spec.go 28 [0,1,4,5,11,19] [] Tryz.func176 fun W=> ?_;refine sp 8 rfl ?_ ?_<;>intro h1
 ·refine er (pz 2) ?_;have e:s.mG t=1:=by unfold FF.mG;rw[if_pos og]
  exact⟨by rw[show s.fV t=0 from by unfold FF.fV;rw[if_neg og],e];rfl,rfl⟩
 ·refine cd ?_ ?_<;>intro h2
  ·refine er (pz 2) ?_;have e:s.mG t=1:=by unfold FF.mG;rw[if_pos og]
   exact⟨by rw[show s.fV t=0 from by unfold FF.fV;rw[if_neg og],e];rfl,rfl⟩
  ·apply ld .aa (mW _);refine cd ?_ ?_<;>intro h3
   ·refine er (pz 2) ?_;have e:s.mG t=2:=by unfold FF.mG;rw[if_neg og,if_pos og]
    exact⟨by rw[show s.fV t=0 from by unfold FF.fV;rw[if_neg og],e];rfl,rfl⟩
   ·refine ld .aa (mW _) (bP (.ao .aa) og ?_);intro g hg;rw[hg];refine sd (zC (.ao .aa) (ints_at) (aW rfl rfl rfl (ah (pz 2) rfl ?_)));have e:s.mG t=0:=by unfold FF.mG;rw[if_neg og,if_neg og]
    exact⟨by rw[show s.fV t=gh s.roots t from by unfold FF.fV;rw[if_pos e],e];rfl,rfl⟩
def AR:nT Tryz.prog 211=true:=kq
def uQ(z:Int):∀ w,(Instr.buildSlice 55 1 #[(0,iI z)]).run Tryz.prog w= .ok (.slice (some ⟨w.heap.size,0,none⟩) 1 1) (w.alloc (.cells #[iI z] 3)):=fun w=>kq
def qy:rL Tryz.prog 3 1=true:=kq
def nQ:fp Tryz.prog 211=some 4:=kq
def VR:Spec Tryz.prog 99 [] [] (fun v H1=>∃ b,v=ay b 0 0/\H1=[.cells b 0 321 (aC FC.dB),.aQ au (FC.aX 9 FC.dB),.aQ au (FC.aY 3 FC.dB),dy (FC.rP FC.dB) (FC.rC FC.dB) 3 (FC.toFF FC.dB).roots]):=by
 refine Spec.go 3 [0] [] Tryz.func99 fun W=> ?_;refine XO.v (V.build (vs:= #[]) rfl (v:=.agg Kp) fun _=>kq) rfl (gO ?_);refine XO.box (m:=321) (C:=aC FC.dB) rfl ML Q7 rfl ?_;intro p;apply XO.mono fun _ bJ=>HS bJ;apply gO;refine bL (pk [3,0,0,0]) ?_;exact⟨_,rfl,rfl⟩
def Pt(b o:Nat)(s:FC)(hI:s.toFF.Sh):Spec Tryz.prog 101 [ay b o 0] [.cells b o 321 (aC s),.aQ au (s.aX 9),.aQ au (s.aY 3),dy s.rP s.rC 3 s.roots] (fun v H1=>∃ t:FC,v= .tuple #[iI s.xa,ax 102 s.qq]/\t.toFF=s.yG/\H1=[.cells b o 321 (aC t),.aQ au (FC.aX 9 t),.aQ au (FC.aY 3 t),dy (FC.rP t) (FC.rC t) 3 (FC.toFF t).roots]):=by
 have hr4:=hI.roots.1;refine Spec.go 50 [0,2,3,4,5,11,25] [] Tryz.func101 fun W=> ?_;apply ld .aa (mW _);refine cd ?_ ?_<;>intro h1
 ·refine er (pz 4) ?_;have e:s.qq=4:=by unfold FF.qq;rw[if_pos og]
  exact⟨s,by rw[show s.xa=0 from by unfold FF.xa;rw[if_neg og],e];rfl,by unfold FF.yG;rw[if_neg og],rfl⟩
 ·apply ld .aa (mW _);refine XO.v (V.build (vs:= #[(0,iI 2),(1,iI (s.roots.length)),(2,iI 1)]) rfl (v:=.agg (yP 2 s.roots.length 1 0)) fun _=>kq) rfl (gO ?_);refine ca (vD _ _ _ _ _ _ _) (pz 3) ?_;rintro _ _ (⟨h2,rfl,rfl⟩ | ⟨h2,rfl,rfl⟩)
  ·try dsimp only[nc,AF,AG,AH,AI,AJ,AK,AL,AM,AN,vz,vA,vB,vC]
   apply gO;refine er (pz 4) ?_;have e:s.qq=4:=by unfold FF.qq;rw[if_neg og,if_pos aq]
   exact⟨s,by rw[show s.xa=0 from by unfold FF.xa;rw[if_neg og],e]<;>rfl,by unfold FF.yG;rw[if_neg og],rfl⟩
  ·try dsimp only[nc,AF,AG,AH,AI,AJ,AK,AL,AM,AN,vz,vA,vB,vC]
   have f:=FF.yL (show ¬s.free<0 by assumption);apply gO;refine sd ?_;apply st .aa (sC _ _ og _) rfl;apply ld .aa (mW _);apply XO.buildSlice (A:= #[iI _]) (vs:= #[(0,iI _)]) rfl (uQ _) rfl rfl;intro h3;apply gO;apply lB (e:=3) rfl rfl Tryz.underlying55 qy (.t4 .aa) .aa (by show s.roots.length+1<=_;omega) rfl;intro p1 c1;apply gO;apply st (.t2 .aa) (Ff _ (s.roots++[s.free]) _ _ _ rfl) rfl;apply ld (.t2 .aa) (mW _);refine sd ?_ (by simp only[List.length_append,List.length_singleton];omega);refine aW rfl rfl rfl (ah (pk [2,2,2,0]) rfl ?_);try dsimp only[aS,aR,bI,bN]
   have e:s.qq=0:=by unfold FF.qq;rw[if_neg og,if_neg aq]
   refine⟨_,?_,?_,rfl⟩
   ·rw[show s.xa=s.roots.length from by unfold FF.xa;rw[if_pos e],e];grind [ax]
   ·unfold FF.yG;rw[if_pos e,<-FF.YI s.toFF s.free 2 _ 1 0 s.free];rfl
def No(b o:Nat)(s:FC)(hI:s.toFF.Sh)(n:Int):Spec Tryz.prog 217 [ay b o 0,iI n] [.cells b o 321 (aC s)] (fun v H1=>v= .tuple #[.agg (s.Xa n).cF,ax 102 (s.cC n 0)]/\H1=[.cells b o 321 (aC s)]):=by
 refine Spec.go 35 [0,1,4,5,6,7,12] [] Tryz.func217 fun W=> ?_;apply XO.bG (z:=.agg NV.zero.cF) (m:=4) (C:=oy NV.zero) (oQ _);intro bg;apply gO;refine cq (AO _ _ _ _) (pk [1]) ?_;refine cd ?_ ?_<;>intro h1
 ·have i0:s.cC n 0≠0:=aq;refine XO.v (V.build (vs:= #[]) rfl (v:=.agg NV.zero.cF) fun _=>kq) rfl (gO ?_);apply fW (.ao .aa) (mm _ _) rfl ⟨rfl,rfl⟩;refine dC rfl (.agg rfl (.ao .aa) (rm _) AR nQ) (.tmp rfl) (ah .h1 rfl ?_);grind [aS,aR,FF.Xa]
 ·obtain⟨i1,i2,i3⟩:=FF.yH (show s.cC n 0=0 by simpa using h1);have i0:s.cC n 0=0:=by simpa using h1
  refine sd ?_;apply lW .aa (Q8 _ _ og);apply XO.bG (z:=.agg (yP 0 0 0 0)) (m:=8) (C:=aC.cell (Gm 0 0 0 0)) (Ko 0 0 0 0);intro bx;apply gO;apply fW .aa (UW _ _) rfl ⟨rfl,rfl⟩;apply ld .aa (YK _);apply ld .aa (YL _);apply ld .aa (YM _);apply ld .aa (YN _);apply ld .aa (YO _);refine XO.v (V.build (vs:= #[(0,iI (s.aO n)),(1,iI (s.bM n)),(2,iI (s.bj n)),(3,iI (max ((s.data n).size:Int) ((s.kids n).length:Int)))]) rfl (v:=.agg (NV.mk (s.aO n) (s.bM n) (s.bj n) (max ((s.data n).size:Int) ((s.kids n).length:Int))).cF) fun _=>kq) rfl (gO ?_);apply fW (.t2 .aa) (mm _ _) rfl ⟨rfl,rfl⟩;refine dC rfl (.agg rfl (.t2 .aa) (rm _) AR nQ) (.tmp rfl) (ah (pk [1]) rfl ?_);grind [aS,aR,bN,FF.Xa,ax]
def adl(b o:Nat)(s:FC)(hI:s.toFF.Sh)(n:Int):Spec Tryz.prog 216 [ay b o 0,iI n] [.cells b o 321 (aC s),.aQ au (s.aX 9),.aQ au (s.aY 3)] (fun v H1=>(s.cC n 2≠0/\v= .tuple #[.slice none 0 0,ax 102 (s.cC n 2)]/\H1=[.cells b o 321 (aC s),.aQ au (FC.aX 9 s),.aQ au (FC.aY 3 s)])\/(s.cC n 2=0/\∃ p c,v= .tuple #[.slice p (s.aI n).length c,ax 102 0]/\H1=j9 p c 9 (s.aI n)::[.cells b o 321 (aC s),.aQ au (FC.aX 9 s),.aQ au (FC.aY 3 s)])):=by
 refine Spec.go 21 [0,1,4,5,6,11] [] Tryz.func216 fun W=> ?_;refine cq (Pr _ _ _ _) .h1 ?_;refine cd ?_ ?_<;>intro h1
 ·have i0:s.cC n 2≠0:=aq;refine er (pz 3) ?_;grind [aS,aR,bN]
 ·obtain⟨i1,i2,i3,i4⟩:=FF.jt (show s.cC n 2=0 by simpa using h1);have i0:s.cC n 2=0:=by simpa using h1
  obtain⟨hr,hk,h8,_⟩:=hI.js n og og;refine sd (ld .aa (fB _ _) (XR.mono (fun _ bJ=>nH (s:=s) (z:=n) og (pk [1]) bJ) ?_));refine ca (Zn _ _ _ og) .h1 ?_;rintro _ _ ⟨p1,c1,rfl,rfl⟩;apply gO;refine XR.mono (fun _ bJ=>lO (s:=s) s (z:=n) og rfl (cH _ rfl).symm (cH _ rfl).symm (cH _ rfl).symm (pk [1,1]) bJ) (aW rfl rfl rfl (ah (pk [1,1,0,0]) rfl ?_));grind [aS,aR,bN,ax]
def Wi(b o:Nat)(s:FC)(hI:s.toFF.Sh)(n:Int)(x:ByteArray)(k:Int)(hx:x.size<=9223372036854775807):Spec Tryz.prog 207 [ay b o 0,iI n,.string x,iI k] [.cells b o 321 (aC s),.aQ au (s.aX 9),.aQ au (s.aY 3)] (fun v H1=>v= .tuple #[iI (s.pw n x k),ax 102 (s.mH n x k)]/\∃ t:FC,t.toFF=s.make n x k/\t.rP=s.rP/\t.rC=s.rC/\H1=[.cells b o 321 (aC t),.aQ au (FC.aX 9 t),.aQ au (FC.aY 3 t)]):=by
 refine Spec.go 50 [0,1,2,3,8,9,10,11,17,24,42] [] Tryz.func207 fun W=> ?_;refine sp 14 rfl ?_ ?_<;>intro h1
 ·refine cd ?_ ?_<;>intro h2
  ·refine er (pz 3) ?_;have e:s.mH n x k=1:=by unfold FF.mH;rw[if_pos og]
   exact⟨by rw[show s.pw n x k=0 from by unfold FF.pw;rw[if_neg og],e];rfl,s,by unfold FF.make;rw[if_neg og],rfl,rfl,rfl⟩
  ·refine cq (EB _ _ _ hI _ _ aq) (pz 3) ?_;refine cd ?_ ?_<;>intro h3
   ·have m0:s.fi n x≠0:=aq;refine er (pz 3) ?_;have e:s.mH n x k=s.fi n x:=by unfold FF.mH;rw[if_neg og,if_pos og]
    exact⟨by rw[show s.pw n x k=0 from by unfold FF.pw;rw[if_neg og],e]<;>rfl,s,by unfold FF.make;rw[if_neg og],rfl,rfl,rfl⟩
   ·obtain⟨m1,m2,m3,m4⟩:=FF.vt (show s.fi n x=0 by simpa using h3);obtain⟨i1,i2,i3,i4⟩:=FF.jt m1;have i5:=i4 og;have m0:s.fi n x=0:=by simpa using h3
    refine sd (ld .aa (gP _ _) (XO.v (V.build (vs:= #[(0,iI k),(1,iI (s.dJ n)),(2,iI 1),(7,iI n)]) rfl (v:=.agg (yP k (s.dJ n) 1 n)) fun _=>kq) rfl (gO ?_)));refine ca (vD _ _ _ _ _ _ _) (pz 3) ?_;rintro _ _ (⟨h4,rfl,rfl⟩ | ⟨h4,rfl,rfl⟩)
    ·try dsimp only[nc,AF,AG,AH,AI,AJ,AK,AL,AM,AN,vz,vA,vB,vC]
     apply gO;refine er (pz 3) ?_;have e:s.mH n x k=4:=by unfold FF.mH;rw[if_neg og,if_neg og,if_pos aq]
     exact⟨by rw[show s.pw n x k=0 from by unfold FF.pw;rw[if_neg og],e]<;>rfl,s,by unfold FF.make;rw[if_neg og],rfl,rfl,rfl⟩
    ·try dsimp only[nc,AF,AG,AH,AI,AJ,AK,AL,AM,AN,vz,vA,vB,vC]
     have f:=FF.yL (show ¬s.free<0 by assumption);have RN:(s.xd s.free k (s.dJ n) 1 n).toFF.Sh:=hI.jF _ _ _ _ _ og;apply gO;refine ca (EC _ _ _ RN _ _ _) (pz 3) ?_;rintro _ _ ⟨rfl,t,ht,hp,hc,rfl⟩;apply gO;refine er (pz 3) ?_;have e:s.mH n x k=0:=by unfold FF.mH;rw[if_neg og,if_neg og,if_neg aq]
     exact⟨by rw[show s.pw n x k=s.free from by unfold FF.pw;rw[if_pos e],e];rfl,t,by rw[ht];unfold FF.make;rw[if_pos e];rfl,hp,hc,rfl⟩
 ·refine cq (EB _ _ _ hI _ _ aq) (pz 3) ?_;refine cd ?_ ?_<;>intro h5
  ·have m0:s.fi n x≠0:=aq;refine er (pz 3) ?_;have e:s.mH n x k=s.fi n x:=by unfold FF.mH;rw[if_neg og,if_pos og]
   exact⟨by rw[show s.pw n x k=0 from by unfold FF.pw;rw[if_neg og],e]<;>rfl,s,by unfold FF.make;rw[if_neg og],rfl,rfl,rfl⟩
  ·obtain⟨m1,m2,m3,m4⟩:=FF.vt (show s.fi n x=0 by simpa using h5);obtain⟨i1,i2,i3,i4⟩:=FF.jt m1;have i5:=i4 og;have m0:s.fi n x=0:=by simpa using h5
   refine sd (ld .aa (gP _ _) (XO.v (V.build (vs:= #[(0,iI k),(1,iI (s.dJ n)),(2,iI 1),(7,iI n)]) rfl (v:=.agg (yP k (s.dJ n) 1 n)) fun _=>kq) rfl (gO ?_)));refine ca (vD _ _ _ _ _ _ _) (pz 3) ?_;rintro _ _ (⟨h6,rfl,rfl⟩ | ⟨h6,rfl,rfl⟩)
   ·try dsimp only[nc,AF,AG,AH,AI,AJ,AK,AL,AM,AN,vz,vA,vB,vC]
    apply gO;refine er (pz 3) ?_;have e:s.mH n x k=4:=by unfold FF.mH;rw[if_neg og,if_neg og,if_pos aq]
    exact⟨by rw[show s.pw n x k=0 from by unfold FF.pw;rw[if_neg og],e]<;>rfl,s,by unfold FF.make;rw[if_neg og],rfl,rfl,rfl⟩
   ·try dsimp only[nc,AF,AG,AH,AI,AJ,AK,AL,AM,AN,vz,vA,vB,vC]
    have f:=FF.yL (show ¬s.free<0 by assumption);have RN:(s.xd s.free k (s.dJ n) 1 n).toFF.Sh:=hI.jF _ _ _ _ _ og;apply gO;refine ca (EC _ _ _ RN _ _ _) (pz 3) ?_;rintro _ _ ⟨rfl,t,ht,hp,hc,rfl⟩;apply gO;refine er (pz 3) ?_;have e:s.mH n x k=0:=by unfold FF.mH;rw[if_neg og,if_neg og,if_neg aq]
    exact⟨by rw[show s.pw n x k=s.free from by unfold FF.pw;rw[if_pos e],e];rfl,t,by rw[ht];unfold FF.make;rw[if_pos e];rfl,hp,hc,rfl⟩
def adm(b o:Nat)(s:FC)(hI:s.toFF.Sh)(k n:Int)(x:ByteArray)(hx:x.size<=9223372036854775807):Spec Tryz.prog 212 [ay b o 0,iI k,iI n,.string x] [.cells b o 321 (aC s),.aQ au (s.aX 9),.aQ au (s.aY 3)] (fun v H1=>v=ax 102 (s.uq k n x)/\∃ t:FC,t.toFF=s.DB k n x/\t.rP=s.rP/\t.rC=s.rC/\H1=[.cells b o 321 (aC t),.aQ au (FC.aX 9 t),.aQ au (FC.aY 3 t)]):=by
 refine Spec.go 55 [0,1,2,3,8,9,14,20,36] [] Tryz.func212 fun W=> ?_;refine cq (NA _ _ _ _) .h1 ?_;refine cd ?_ ?_<;>intro h1
 ·obtain⟨j1,j2,j3,j4⟩:=FF.jt (show s.cC k 1=0 by assumption);have j0:s.cC k 1=0:=aq;refine cq (EB _ _ _ hI _ _ aq) (pz 3) ?_;refine cd ?_ ?_<;>intro h2
  ·refine bL (pz 3) ?_;try dsimp only[aS,aR,bI,bN]
   have e:s.uq k n x=s.fi n x:=by unfold FF.uq;rw[if_neg og,if_pos og]
   exact⟨by rw[e],s,by unfold FF.DB;rw[if_neg og],rfl,rfl,rfl⟩
  ·skip;refine rq [0,1,2,3,4,5,6,7,8,9,10,11,12,13,14] mixed ?_;have m0:s.fi n x=0:=og;obtain⟨m1,m2,m3,m4⟩:=FF.vt m0;obtain⟨i1,i2,i3,i4⟩:=FF.jt m1;refine sd ?_;apply ld .aa (gP _ _);refine sd ?_;apply ld .aa (gP _ _);refine cd ?_ ?_<;>intro h3
   ·refine bL (pz 3) ?_;have e:s.uq k n x=11:=by unfold FF.uq;rw[if_neg og,if_neg og,if_pos aq]
    exact⟨by rw[e]<;>rfl,s,by unfold FF.DB;rw[if_neg og],rfl,rfl,rfl⟩
   ·refine ca (EC _ _ _ hI _ _ _) (pz 3) ?_;rintro _ _ ⟨rfl,t,ht,hp,hc,rfl⟩;apply gO;refine rq [0,1,2,3,4,5,6,7,8,9,10,11,12] mixed ?_;have hln:t.bM k=s.bM k:=congrFun (congrArg FF.bM ht) k;have hlb:=hI.num k og og;refine sd ?_;apply ld .aa (lA _ _);refine sd ?_;refine sd ?_;apply st .aa (n5 _ _ og _) rfl;refine bL (pz 3) ?_;have e:s.uq k n x=0:=by unfold FF.uq;rw[if_neg og,if_neg og,if_neg og]
    exact⟨by rw[e]<;>rfl,({t with bM:=ad t.bM k (t.bM k+1)} :FC),by rw[DI ht,hln];unfold FF.DB;rw[if_pos e];rfl,hp,hc,rfl⟩
 ·have j0:s.cC k 1≠0:=aq;apply XF rfl aq;refine bL (pz 3) ?_;try dsimp only[aS,aR,bI,bN]
  have e:s.uq k n x=s.cC k 1:=by unfold FF.uq;rw[if_pos og]
  exact⟨by rw[e],s,by unfold FF.DB;rw[if_neg og],rfl,rfl,rfl⟩
end Go.X.Tr
