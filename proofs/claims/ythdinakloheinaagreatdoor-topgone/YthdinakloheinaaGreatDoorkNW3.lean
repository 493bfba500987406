import Derived.Test.YthdinakloheinaaGreatDoorkVW4
import Derived.Shelf.Lays2
import Derived.Ground.Names2Prog
set_option linter.all false
set_option maxRecDepth 20000
set_option maxHeartbeats 16000000
open Go.Proofs.Tryz
namespace Go.X.Vm
open Go Go.Proofs Go.X
def YZ:ey Tryz.prog 145 0=some 0:=kq
def Y0:ey Tryz.prog 145 1=some 1:=kq
def aed(kb mb:Nat)(p:Option Addr)(c:Nat)(m:MS)(hm:m.Ok)(a:Int)(w:Bool):Fn 199 [ay mb 0 0,iI a,.bool w] [ip mb kb p c m,iF p c m] (ap (.bool (m.tT a w)) [ip mb kb p c m,iF p c m]):=by
 refine Spec.g 34 [0,1,2,6,7,13] func199 fun W=> ?_;apply UV 10<;>intro h1;rotate_left
 apply (cd)<;>intro h2;rotate_left
 refine XO.v (V.quo rfl rfl uY _ (u7)) rfl (gO ?_);refine ca (acj _ _ _ _ _ hm _) (pz 2) ?_;rintro _ _ ⟨⟨k,rfl,hk⟩,rfl⟩;have hrn:k<(aj m.az).length:=by rcases hk with⟨rfl,_⟩ | ⟨q,_⟩<;>omega
 apply gO;apply UV 20<;>intro h3
 refine SG 23 rfl ?_ ?_<;>intro h4
 try simp only[sb]at h4
 try(refine bV (.ao .aa) og ?_;intro g1 hg1;subst hg1)
 rotate_left
 try simp only[sb]at h4
 refine ld .aa (mz _ _ _ _ _ _) ?_;try(refine bV (.ao .aa) og ?_;intro g1 hg1;subst hg1)
 apply (sd);refine ldF (.ao .aa) (fG.w og) ?_;rotate_left
 try(refine bV (.ao .aa) og ?_;intro g1 hg1;subst hg1)
 rotate_left;all_goals refine bL (pz 2) ?_;first | exact⟨by rw[jX];rfl,rfl⟩ | (refine⟨?_,rfl⟩;rw[pN hm hk];first | (rw[decide_eq_false (p:=0<=k) og];rfl) | (rw[decide_eq_true (p:=0<=k) og];cases w<;>first | rfl | contradiction))
def acm(kb mb:Nat)(p:Option Addr)(c:Nat)(m:MS)(hm:m.Ok)(a:Int):Fn 200 [ay mb 0 0,iI a] [ip mb kb p c m,iF p c m] (ap (.bool (m.my a)) [ip mb kb p c m,iF p c m]):=by
 refine Spec.g 29 [0,1,4] func200 fun W=> ?_;apply UV 7<;>intro h1
 apply UV 11<;>intro h2
 refine XO.v (V.quo rfl rfl uY _ (u7)) rfl (gO ?_);refine ca (acj _ _ _ _ _ hm _) (pz 2) ?_;rintro _ _ ⟨⟨k,rfl,hk⟩,rfl⟩;apply gO;apply UV 18<;>intro h3
 refine XO.v (V.quo rfl rfl uY _ (u7)) rfl (gO ?_);apply (sd);refine ld .aa (bX _ _ _ _ _ _ _) ?_;rotate_left;rotate_left;rotate_left;rotate_left;all_goals refine bL (pz 2) ?_;first | exact⟨by unfold MS.my;rw[jX];rfl,rfl⟩ | (refine⟨?_,rfl⟩;rw[qU hm hk];first | (rw[decide_eq_false (p:=0<=k) og];rfl) | (rw[decide_eq_true (p:=0<=k) og];rfl))
def RR(kb pb mb:Nat)(v:VB)(hv:v.Ok)(p:Option Addr)(c:Nat)(m:MS)(hm:m.Ok)(a:Int)(w:Bool):Fn 202 [ay mb 0 0,iI a,.bool w] [d9 kb pb v.ja v.rf,d8 pb 0 v.bb.fu,ip mb kb p c m,iF p c m,g9] (ap (.tuple #[iI (m.cD v a w).1,ax 102 (m.cD v a w).2.1]) [d9 kb pb (m.cD v a w).2.2.1.ja (m.cD v a w).2.2.1.rf,d8 pb 0 (m.cD v a w).2.2.1.bb.fu,d7 mb kb p (aj m.az).length c (m.cD v a w).2.2.2.fr (m.cD v a w).2.2.2.aU,iF p c m]):=by
 refine Spec.g 123 [0,1,2,6,7,8,9,10,11,12,17,25,40,46,79,114] func202 fun W=> ?_
 refine cq (aed _ _ _ _ _ hm _ _) (pk [2,2]) ?_
 apply (yx)<;>intro h1
 try simp only[sb]at h1
 have fi:m.tT a w=false:=by simpa using h1
 refine bC rfl rfl rfl (ai (pk [2,2,0,0]) rfl ?_);rotate_left
 try simp only[sb]at h1
 have fi:m.tT a w=true:=by simpa using h1
 have ha:=MS.qS fi
 have LW:=hm.lo (a/8)
 refine XO.v (V.quo rfl rfl uY _ (u7)) rfl (gO ?_)
 apply (sd)
 refine ld .aa (bX _ _ _ _ _ _ _) ?_
 apply (cd)<;>intro h2
 skip
 have h0:m.fr (a/8)=0:=og
 refine ld .aa (cF.zY _ _ _ _ _ _) ?_
 refine KK 2 (YU _ _ _ hv) (pk [2,2,2]) rfl ?_
 apply (cd)<;>intro h3
 skip
 have ht:=h3
 have jc:=CR ht
 refine bC rfl rfl rfl (ai (pk [0,0,1,1]) rfl ?_);rotate_left
 skip
 have ht:v.take.2.1=0:=og
 have htr:=oC hv ht
 refine XO.v (V.build (vs:= #[(0,iI v.take.1),(1,.bool true)]) rfl (v:=.agg #[iI v.take.1,.bool true]) fun _=>kq) rfl (gO ?_)
 refine gu (.t3 .aa) (tU _ _ _ _ _ _ _ _ _) rfl ⟨rfl,rfl⟩ ?_
 refine ld (.t3 .aa) (bX _ _ _ _ _ _ _) ?_
 refine bC rfl rfl rfl (ai (pk [0,0,1,1]) rfl ?_);rotate_left
 skip
 have h0:¬m.fr (a/8)=0:=og
 refine rq [0,1,2,3,4,5,6,7,8,9,10,11,12,13,14,15,16,17,18,19,20,21,22,23] mixed ?_
 refine SG 48 rfl ?_ ?_<;>intro h4
 try simp only[sb]at h4
 refine ld .aa (zZ _ _ _ _ _ _ _ og) ?_
 refine SG 55 rfl ?_ ?_<;>intro h5
 try simp only[sb]at h5
 refine ld .aa (cF.zY _ _ _ _ _ _) ?_
 refine ld .aa (bX _ _ _ _ _ _ _) ?_
 apply (sd)
 refine ld (.t2 .aa) (jF _ _ _ _) ?_
 apply (cd)<;>intro h6
 skip
 refine ld .aa (cF.zY _ _ _ _ _ _) ?_
 refine KK 2 (YU _ _ _ hv) (pk [2,2,2]) rfl ?_
 apply (cd)<;>intro h7
 skip
 have ht:=h7
 have jc:=CR ht
 refine bC rfl rfl rfl (ai (pk [0,0,1,1]) rfl ?_);rotate_left
 skip
 have ht:v.take.2.1=0:=og
 have htr:=oC hv ht
 refine rq [0,1,2,3,4,5,6,7,8,9,10,11,12,13,14,15,16,17,18,19,20] mixed ?_
 refine ld (.t3 .aa) (cF.zY _ _ _ _ _ _) ?_
 refine ld (.t3 .aa) (cF.zY _ _ _ _ _ _) ?_
 refine ld (.t3 .aa) (bX _ _ _ _ _ _ _) ?_
 apply (sd)
 refine mP .aa (W9 _ _ _ _ og) ?_
 apply (sd)
 refine gu .aa (HM _ _ _ _ _) rfl ⟨rfl,rfl⟩ ?_
 refine rq [0,1,2,3,4,5,6,7,8] mixed ?_
 refine ld (.t3 .aa) (cF.zY _ _ _ _ _ _) ?_
 refine ld (.t3 .aa) (bX _ _ _ _ _ _ _) ?_
 refine KK 2 (agk _ _ (v.take.2.2.copy v.take.1 (m.fr (a/8)-1)) (hv.take.copy _ _) (m.fr (a/8)-1) og (CS ht og)) (pz 3) rfl ?_
 refine XO.v (V.build (vs:= #[(0,iI v.take.1),(1,.bool true)]) rfl (v:=.agg #[iI v.take.1,.bool true]) fun _=>kq) rfl (gO ?_)
 refine gu (.t3 .aa) (tU _ _ _ _ _ _ _ _ _) rfl ⟨rfl,rfl⟩ ?_
 refine ld (.t3 .aa) (bX _ _ _ _ _ _ _) ?_
 refine bC rfl rfl rfl (ai (pk [0,0,1,1]) rfl ?_);rotate_left
 skip
 apply (yx)<;>intro h8
 try simp only[sb]at h8
 refine st .aa (iS _ _ _ _ _ _ _ og _) rfl ?_
 refine ld .aa (bX _ _ _ _ _ _ _) ?_
 refine bC rfl rfl rfl (ai (pk [2,2,0,0]) rfl ?_);rotate_left
 try simp only[sb]at h8
 rotate_left
 try simp only[sb]at h5
 apply (yx)<;>intro h9
 try simp only[sb]at h9
 refine st .aa (iS _ _ _ _ _ _ _ og _) rfl ?_
 refine ld .aa (bX _ _ _ _ _ _ _) ?_
 refine bC rfl rfl rfl (ai (pk [2,2,0,0]) rfl ?_);rotate_left
 try simp only[sb]at h9
 rotate_left
 try simp only[sb]at h4
 apply (yx)<;>intro Vb
 try simp only[sb]at Vb
 refine st .aa (iS _ _ _ _ _ _ _ og _) rfl ?_;rotate_left
 try simp only[sb]at Vb
 refine ld .aa (bX _ _ _ _ _ _ _) ?_
 refine bC rfl rfl rfl (ai (pk [2,2,0,0]) rfl ?_);rotate_left;all_goals first
  | first
      | (rw[iT fi];exact⟨rfl,rfl⟩)
      | (rw[fM fi h0 ht];exact⟨rfl,by rw[jc.2]⟩)
      | (rw[iU fi h0 ht];exact⟨by show Value.tuple #[iI (ad m.fr (a/8) (v.take.1+1) (a/8)-1),_]=_;rw[ah,show v.take.1+1-1=v.take.1 from og];rfl,rfl⟩)
      | (rw[gR fi h0 dt dt og ht];exact⟨rfl,by rw[jc.2]⟩)
      | (rw[fZ fi h0 dt dt og ht];exact⟨by show Value.tuple #[iI (ad m.fr (a/8) (v.take.1+1) (a/8)-1),_]=_;rw[ah,show v.take.1+1-1=v.take.1 from og];rfl,rfl⟩)
      | (rw[MS.lA fi h0 dt dt og];exact⟨rfl,rfl⟩)
      | (have q:w=false:=dt
         rw[dz fi h0 (.inl q)];exact⟨rfl,rfl⟩)
      | (have q:m.aU (a/8)=true:=dt
         rw[dz fi h0 (.inr q)];first | exact⟨rfl,rfl⟩ | (rw[kv m.aU (a/8) q];exact⟨rfl,rfl⟩))
      | (exfalso;(first | assumption | omega | (simp_all;done)))
  | refine ld .aa (bX _ _ _ _ _ _ _) ?_
    refine bC rfl rfl rfl (ai (pk [2,2,0,0]) rfl ?_)
    simp_all
def agr(kb pb mb:Nat)(v:VB)(hv:v.Ok)(p:Option Addr)(c:Nat)(m:MS)(hm:m.Ok)(a:Int):Fn 151 [ay mb 0 0,iI a] [d9 kb pb v.ja v.rf,d8 pb 0 v.bb.fu,ip mb kb p c m,iF p c m,g9] (ap (.tuple #[.int .u8 (m.load v a).1,ax 102 (m.load v a).2.1]) [d9 kb pb (m.load v a).2.2.1.ja (m.load v a).2.2.1.rf,d8 pb 0 (m.load v a).2.2.1.bb.fu,d7 mb kb p (aj m.az).length c (m.load v a).2.2.2.fr (m.load v a).2.2.2.aU,iF p c m]):=by
 refine Spec.g 29 [0,1,4,5,6,7,15] func151 fun W=> ?_;refine KK 4 (RR _ _ _ _ hv _ _ _ hm a false) (pz 5) rfl ?_;apply (cd)<;>intro h1
 ·have ht:=h1;refine fg (pz 4) ?_;rw[MS.EO ht];exact⟨rfl,rfl⟩
 ·have ht:(m.cD v a false).2.1=0:=og;have hr:=Ah hv hm ht;refine ld (.t2 .aa) (cF.zY _ _ _ _ _ _) ?_;refine XO.v (V.rem rfl rfl uY _ (Int.tmod_eq_emod_of_nonneg og)) rfl (gO ?_);apply (sd);apply (sd);refine ld .aa (GM _ _ _ _ _ og og) ?_;refine fg (pz 4) ?_;rw[MS.JD ht];exact⟨rfl,rfl⟩
def acn(kb pb mb:Nat)(v:VB)(hv:v.Ok)(p:Option Addr)(c:Nat)(m:MS)(hm:m.Ok)(a b:Int):Fn 153 [ay mb 0 0,iI a,.int .u8 b] [d9 kb pb v.ja v.rf,d8 pb 0 v.bb.fu,ip mb kb p c m,iF p c m,g9] (ap (ax 102 (m.store v a b).1) [d9 kb pb (m.store v a b).2.1.ja (m.store v a b).2.1.rf,d8 pb 0 (m.store v a b).2.1.bb.fu,d7 mb kb p (aj m.az).length c (m.store v a b).2.2.fr (m.store v a b).2.2.aU,iF p c m]):=by
 refine Spec.g 30 [0,1,2,6,7,8,16] func153 fun W=> ?_;refine KK 4 (RR _ _ _ _ hv _ _ _ hm a true) (pz 5) rfl ?_;apply (cd)<;>intro h1
 ·have ht:=h1;refine bL (pz 4) ?_;rw[MS.HT ht];exact⟨rfl,rfl⟩
 ·have ht:(m.cD v a true).2.1=0:=og;have hr:=Ah hv hm ht;refine ld (.t2 .aa) (cF.zY _ _ _ _ _ _) ?_;refine XO.v (V.rem rfl rfl uY _ (Int.tmod_eq_emod_of_nonneg og)) rfl (gO ?_);apply (sd);apply (sd);refine st .aa (ya _ _ _ _ _ og og _) rfl ?_;refine bL (pz 4) ?_;rw[MS.EP ht];exact⟨rfl,rfl⟩
def Kj(kb pb mb:Nat)(v:VB)(hv:v.Ok)(p:Option Addr)(c:Nat)(m:MS)(hm:m.Ok):Fn 57 [ay mb 0 0] [d9 kb pb v.ja v.rf,ip mb kb p c m,iF p c m] (fun x H1=>∃ nb p1 c1,x=ay nb 0 0/\H1=[d9 kb pb (v.jo m).ja (v.jo m).rf,d7 mb kb p (aj m.az).length c m.fr fun _=>false,iF p c m,d7 nb kb p1 (aj m.az).length c1 m.fr fun _=>false,iF p1 c1 m]):=by
 refine Spec.g 65 [0,2,3,4,16,17,43] func57 fun W=> ?_;refine XC.ir mixed (f:=12) (l:= #[qF,qF,qF,qF,qF,qF,qF,qF,qF,qF,qF,qF]) rfl rfl XM.kQ ?_;refine XQ.mv 0 rfl rfl rfl ?_;refine XQ.nc 1 rfl rfl rfl ?_;refine XQ.pw 2 rfl rfl (V.fieldAddr rfl YZ) ?_;refine XQ.ll 3 [10] rfl rfl (.ao .aa) rfl (cF.zY _ _ _ _ _ _) ?_;refine XQ.mv 4 rfl rfl rfl ?_;refine XQ.nc 5 rfl rfl rfl ?_;refine XQ.pw 6 rfl rfl (V.fieldAddr rfl Y0) ?_;refine XQ.ll 7 [8,10] rfl rfl (.ao .aa) rfl (mz _ _ _ _ _ _) ?_;refine XQ.call (i:=8) rfl kq rfl rfl (ack _ _ _ (by have:=sx m.az;omega)) (pk [2]) kq rfl (by rintro _ _ ⟨p1,c1,rfl,rfl⟩<;>exact ut) ?_;rintro _ _ ⟨p1,c1,rfl,rfl⟩;refine XQ.pw 9 rfl rfl (V.build (vs:= #[(0,ay kb 0 0),(1,.slice p1 (aj m.az).length c1)]) rfl (v:=.agg (zNs kb p1 (aj m.az).length c1).toArray) fun _=>kq) ?_;refine XQ.box (i:=10) (m:=34) (C:=cF kb p1 (aj m.az).length c1 (fun _=>1) fun _=>false) rfl kq rfl rfl rfl (abw _ _ _ _) rfl ut ?_;intro nb;refine XQ.pw 11 rfl rfl (V.assign rfl) ?_;refine XQ.done kq ?_;refine gE ?_;refine lp (σ:=Int) (fun i=>(16-i).toNat) (fun i=>0<=i/\i<=16) (fun i=>[(16,iI i),(0,ay mb 0 0),(3,ay nb 0 0)]) (fun i=>XM W (cx [d9 kb pb v.ja v.rf,ip mb kb p c m,iF p c m]) [d9 kb pb v.ja (zW v.rf m.fr i.toNat),d7 mb kb p (aj m.az).length c m.fr (yP (fun _=>false) m.aU i),iF p c m,d7 nb kb p1 (aj m.az).length c1 (yP m.fr (fun _=>1) i) fun _=>false,iF p1 c1 m]) (0) ?_ S3 (fun _ hw=>by show XM _ _ [_,d7 mb _ _ _ _ _ (yP (fun _=>false) m.aU 0),_,d7 nb _ _ _ _ (yP m.fr (fun _=>1) 0) _,_] _;rw[HU,HU];exact XM.pick (pk [3,3,1,0,0]) hw) ?_
 ·omega
 intro i hi;have LW:=hm.lo i;have NN:=Xs v.rf m.fr i.toNat (m.fr i-1);have hrf:=hv.rf (m.fr i-1);apply gC;apply (cd)<;>intro h1
 ·apply (sd);refine st (.ao .aa) (iS _ _ _ _ _ _ _ og _) rfl ?_;refine rq [0,1,2,3,4,5,6,7,8,9,10,11] mixed ?_;apply (sd);refine mP (.ao .aa) (Tw _ _ _ _ _ _ _ og) ?_;apply (sd);refine gu (.t3 .aa) (tU _ _ _ _ _ _ _ _ _) rfl ⟨rfl,rfl⟩ ?_;apply (sd);refine ld (.ao .aa) (bX _ _ _ _ _ _ _) ?_;apply (cd)<;>intro h2
  ·refine rq [0,1,2,3,4,5,6,7,8,9,10,11,12,13,14,15,16,17,18,19] mixed ?_;refine ld (.ao .aa) (cF.zY _ _ _ _ _ _) ?_;apply (sd);refine ld (.ao .aa) (bX _ _ _ _ _ _ _) ?_;apply (sd);refine ld .aa (jF _ _ _ _) ?_;apply (sd);apply (sd);refine st .aa (mX _ _ _ _ og _) rfl ?_;apply (sd);have hU:zW v.rf m.fr (i+1).toNat=ad (zW v.rf m.fr i.toNat) (m.fr i-1) (zW v.rf m.fr i.toNat (m.fr i-1)+1):=by rw[Mp hi.1,if_pos og]
   refine ag (i+1) ?_ ?_ S3 fun _ hw=>by rw[ah (yP (fun _=>false) m.aU i) i false,kv (fun _=>false) i rfl]at hw;show XM _ _ [d9 kb pb v.ja (zW v.rf m.fr (i+1).toNat),_,_,_,_] _;rw[hU,<-w7 hi.1 (f:=(fun _=>false)) (g:=m.aU) (v:=false) rfl,<-w7 hi.1 (f:=m.fr) (g:=fun _=>1) (v:=m.fr i-1+1)];exact XM.pick (pz 5) hw
   all_goals omega
  ·apply (sd);have hU:zW v.rf m.fr (i+1).toNat=zW v.rf m.fr i.toNat:=by rw[Mp hi.1,if_neg og]
   refine ag (i+1) ?_ ?_ S3 fun _ hw=>by rw[ah (yP (fun _=>false) m.aU i) i false,kv (fun _=>false) i rfl]at hw;show XM _ _ [d9 kb pb v.ja (zW v.rf m.fr (i+1).toNat),_,_,_,_] _;rw[hU,<-w7 hi.1 (f:=(fun _=>false)) (g:=m.aU) (v:=false) rfl,<-w7 hi.1 (f:=m.fr) (g:=fun _=>1) (v:=m.fr i-1+1)];exact XM.pick (pz 5) hw
   all_goals omega
 ·refine bL (pz 5) ?_;have e:i=16:=og;subst e;exact⟨nb,p1,c1,rfl,by unfold d7;rw[tV (f:=yP m.fr (fun _=>1) 16) (f':=m.fr) (o:=(fun _=>false)) (o':=(fun _=>false)) fun i h0 h1=>⟨by unfold yP;rw[if_pos og],rfl⟩,tV (f:=m.fr) (f':=m.fr) (o:=yP (fun _=>false) m.aU 16) (o':=(fun _=>false)) fun i h0 h1=>⟨rfl,by unfold yP;rw[if_pos og]⟩];rfl⟩
def aco(kb pb:Nat)(v:VB)(hv:v.Ok)(f:Int)(hf:0<=f/\f<64)(h1:1<=v.rf f):Fn 179 [ay kb 0 0,iI f] [d9 kb pb v.ja v.rf,d8 pb 0 v.bb.fu] (ap (.tuple #[]) [d9 kb pb (v.drop f).ja (v.drop f).rf,d8 pb 0 (v.drop f).bb.fu]):=by
 have hb:=hv.rf f;refine Spec.g 27 [0,1,20] func179 fun W=> ?_;refine rq [0,1,2,3,4,5,6,7,8,9,10] mixed ?_;apply (sd);refine ld .aa (jF _ _ _ _) ?_;apply (sd);apply (sd);refine st .aa (mX _ _ _ _ og _) rfl ?_;apply (sd);refine ld .aa (jF _ _ _ _) ?_;have e1:ad v.rf f (v.rf f-1) f=v.rf f-1:=ah _ _ _;apply (cd)<;>intro h1
 ·refine ld .aa (ec.Jw _ _ _) ?_;refine cq (YT _ _ _ hv.bb _) (pk [1]) ?_;refine dy rfl (ai (pk [1,0]) rfl ?_);grind [wX]
 ·refine dy rfl (ai (pz 2) rfl ?_);grind [wY]
def Nq(kb pb mb:Nat)(v:VB)(hv:v.Ok)(p:Option Addr)(c:Nat)(m:MS)(hm:m.Ok)(xH:m.In v)(a n:Int):Fn 107 [ay mb 0 0,iI a,iI n] [d9 kb pb v.ja v.rf,d8 pb 0 v.bb.fu,ip mb kb p c m,iF p c m] (fun x H1=>x= .tuple #[iI (m.dM v a n).1,ax 102 (m.dM v a n).2.1]/\∃ p2 c2,H1=[d9 kb pb (m.dM v a n).2.2.1.ja (m.dM v a n).2.2.1.rf,d8 pb 0 (m.dM v a n).2.2.1.bb.fu,d7 mb kb p2 (aj (m.dM v a n).2.2.2.az).length c2 (m.dM v a n).2.2.2.fr (m.dM v a n).2.2.2.aU,gc p2 c2 (aj (m.dM v a n).2.2.2.az)]):=by
 refine Spec.g 59 [0,1,2,6,7,8,9,11,16,21,22,23,24,34] func107 fun W=> ?_;refine cq (PO _ _) .nil ?_;apply (cd)<;>intro h1
 ·have hb:gQ a n:=by
   simp_all
  refine fg (pz 4) ?_;exact⟨by rw[if_pos hb,tY hb];rfl,p,c,by rw[tY hb]⟩
 ·have hb:¬gQ a n:=fun q=>h1 fun q2=>by rw[if_pos q]at q2;omega
  have D1:=hb;unfold gQ at D1;have hn:0<n:=og;have hL:=sx m.az;refine ca (RP _ _ _ _ _ hm _ _ hb) (pk [2,2]) ?_;rintro _ _ ⟨p4,c4,p5,c5,rfl,rfl⟩;have KL:=EN (aj m.az) a n;rw[Tv hm.f hb];generalize hq:lN (fun i=>m.az i != 0) a n.toNat=l;have iw:∀ i∈l,a<=i/\i<a+n:=fun i hi=>by rw[<-hq,pM]at hi;omega
  have pf:l.Pairwise (fun x y=>x<y):=hq▸tS _;have hle:l.length<=16:=by rw[<-hq];have:=HL (p:=fun i=>m.az i != 0) (a:=a) n.toNat;omega
  apply gO;refine lp (σ:=Int) (fun i=>(l.length-i).toNat) (fun i=>0<=i/\i<=l.length) (fun i=>[(23,iI i),(9,iI (vD v m.fr (l.take i.toNat)).1),(0,ay mb 0 0),(21,.slice p5 l.length c5),(22,iI l.length)]) (fun i=>XM W (cx [d9 kb pb v.ja v.rf,d8 pb 0 v.bb.fu,ip mb kb p c m,iF p c m]) [d9 kb pb (vD v m.fr (l.take i.toNat)).2.ja (vD v m.fr (l.take i.toNat)).2.rf,d8 pb 0 (vD v m.fr (l.take i.toNat)).2.bb.fu,d7 mb kb p4 ((aj m.az).flatMap (nq a n)).length c4 (px m.fr (l.take i.toNat)) (eZ m.aU (l.take i.toNat)),gc p4 c4 ((aj m.az).flatMap (nq a n)),dH p5 c5 3 l]) (0) ?_ S5 (fun _ hw=>by show XM _ _ [_,_,d7 mb kb p4 _ c4 (px m.fr []) (eZ m.aU []),_,_] _;rw[Xq,Xr];exact XM.pick (pk [3,3,0,0,0]) hw) ?_
  ·omega
  intro i hi;apply gC;apply (cd)<;>intro h2
  ·refine bV (.t4 .aa) og ?_;intro g1 h3;subst h3;refine sd (Cx (.t4 .aa) (ints_at) ?_);have hmm:=tE (l:=l) (i:=i) og;have ha:=iw _ hmm;have I9:=abt pf (i:=i) og;have e0:px m.fr (l.take i.toNat) (jK l i)=m.fr (jK l i):=by unfold px;rw[if_neg I9]
   have hit:=adK (l:=l) (i:=i) og;have hu:=Xh hv hm xH _ (l.take i.toNat) rfl (OC pf _);have hTl:(l.take i.toNat).length<=16:=by rw[List.length_take];omega
   have LW:=hm.lo (jK l i);refine sd (ld (.t2 .aa) (bX _ _ _ _ _ _ _) ?_);apply (cd)<;>intro h4
   ·have UG:0<m.fr (jK l i):=og;have hrf:1<=(vD v m.fr (l.take i.toNat)).2.rf (px m.fr (l.take i.toNat) (jK l i)-1):=by
     grind [MS.Ok.inj,MS.In]
    refine rq [0,1,2,3,4,5,6,7,8,9,10,11] mixed (ld (.t2 .aa) (cF.zY _ _ _ _ _ _) (sd (ld (.t2 .aa) (bX _ _ _ _ _ _ _) ?_)));refine cq (aco _ _ _ hu.1 (px m.fr (l.take i.toNat) (jK l i)-1) og hrf) (pz 2) ?_;refine XO.v (V.build (vs:= #[(0,iI (-1))]) rfl (v:=.agg #[iI (-1),.bool false]) fun _=>kq) rfl (gO ?_);refine sd (gu (.t2 .aa) (tU _ _ _ _ _ _ _ _ _) rfl ⟨rfl,rfl⟩ (sd (sd ?_)));have hS:(vD v m.fr (l.take (i+1).toNat))=((vD v m.fr (l.take i.toNat)).1+1,(vD v m.fr (l.take i.toNat)).2.drop (px m.fr (l.take i.toNat) (jK l i)-1)):=by rw[hit,EG];unfold Z1;rw[if_pos UG,e0]
    have hC:px m.fr (l.take (i+1).toNat)=ad (px m.fr (l.take i.toNat)) (jK l i) (-1+1):=by rw[hit,TA]
    have hF:eZ m.aU (l.take (i+1).toNat)=ad (eZ m.aU (l.take i.toNat)) (jK l i) false:=by rw[hit,TC]
    refine ag (i+1) ?_ ?_ (S5 rfl (by show lk _ _=some (iI (vD v m.fr (l.take (i+1).toNat)).1);rw[hS];rfl) rfl rfl rfl) fun _ hw=>by show XM _ _ [d9 kb pb (vD v m.fr (l.take (i+1).toNat)).2.ja (vD v m.fr (l.take (i+1).toNat)).2.rf,d8 pb 0 (vD v m.fr (l.take (i+1).toNat)).2.bb.fu,d7 mb kb p4 ((aj m.az).flatMap (nq a n)).length c4 (px m.fr (l.take (i+1).toNat)) (eZ m.aU (l.take (i+1).toNat)),gc p4 c4 ((aj m.az).flatMap (nq a n)),_] _;rw[hS,hC,hF];exact XM.pick (pz 5) hw
    all_goals omega
   ·apply (sd);have h0:m.fr (jK l i)=0:=og;have hS:(vD v m.fr (l.take (i+1).toNat))=(vD v m.fr (l.take i.toNat)):=by rw[hit,EG];unfold Z1;rw[if_neg og]
    have hC:px m.fr (l.take (i+1).toNat)=px m.fr (l.take i.toNat):=by rw[hit,TE h0]
    have hF:eZ m.aU (l.take (i+1).toNat)=eZ m.aU (l.take i.toNat):=by rw[hit,TF (hm.ow _ h0)]
    refine ag (i+1) ?_ ?_ (S5 rfl (by show lk _ _=some (iI (vD v m.fr (l.take (i+1).toNat)).1);rw[hS];rfl) rfl rfl rfl) fun _ hw=>by show XM _ _ [d9 kb pb (vD v m.fr (l.take (i+1).toNat)).2.ja (vD v m.fr (l.take (i+1).toNat)).2.rf,d8 pb 0 (vD v m.fr (l.take (i+1).toNat)).2.bb.fu,d7 mb kb p4 ((aj m.az).flatMap (nq a n)).length c4 (px m.fr (l.take (i+1).toNat)) (eZ m.aU (l.take (i+1).toNat)),gc p4 c4 ((aj m.az).flatMap (nq a n)),_] _;rw[hS,hC,hF];exact XM.pick (pz 5) hw
    all_goals omega
  ·have e:(l.take i.toNat)=l:=List.take_of_length_le og;rw[e];have eu:=Mo v hm hb;rw[hq]at eu;refine ca (PQ _ _ _ _ _ _ _ _ (hm.f.fR hb (.inl rfl)) (HK (kE hm.f) hn) (EC (kE hm.f) (qh hm.f) hn) (by first | omega | (simp only[List.length_append,List.length_singleton];omega))) (pk [2,2]) ?_;rintro _ _ ⟨rfl,p2,c2,rfl⟩;apply gO;refine bC rfl rfl rfl (ai (pk [2,2,0,0]) rfl ?_);exact⟨by rw[eu];rfl,p2,c2,by rw[eu]⟩
end Go.X.Vm

namespace Go.X.Kn
open Go Go.Proofs Go.X Go.X.Sg
def o4:fE Tryz.prog 3=some 1:=kq
def xE(kb:Nat)(k:KP)(n:Int)(hn:0<=n/\n<20):Fn 58 [ay kb 0 (kK n)] [dO kb k] (fun v H1=>∃ c,v=ay c 0 0/\H1=[Sg.f7 c 0 (k.u n).bx.aW,dO kb k]):=by
 refine Spec.g 8 [0,2,3] func58 fun W=> ?_;refine mP .aa (Mk _ og) (XO.bP (z:=.agg #[.int .u16 0,.int .u16 0,iI 0,iI 0,iI 0,iI 0,iI 0,iI 0,iI 0,iI 0,iI 0]) (m:=11) (C:=Sg.fQ BS.cR) Ta ?_);intro c;apply gO;refine gu .aa (Wv LI _) rfl ⟨rfl,rfl⟩ (st .aa (wQ _ (w':=fun _=>false) rfl) rfl (aO rfl rfl (ai (pz 2) rfl ?_)));exact⟨c,rfl,rfl⟩
def DL:fE Tryz.prog 39=some 2:=kq
def Kk:ey Tryz.prog 89 2=some 2:=kq
def Kl:ey Tryz.prog 89 4=some 4:=kq
def RU:ey Tryz.prog 89 5=some 5:=kq
def RW:ey Tryz.prog 89 6=some 11:=kq
def RX:fE Tryz.prog 83=some 6:=kq
def sS:fE Tryz.prog 87=some 11:=kq
def sU:fE Tryz.prog 89=some 22:=kq
def pR(n g:Int)(nb:Nat)(f:Int->Int)(b:BS):∀ w,(Instr.build 89 #[(0,iI 1),(1,iI n),(2,iI g),(4,ay nb 0 0),(5,.agg (Vg f)),(6,.agg (bxA b))]).run Tryz.prog w= .ok (.agg (PU.c9 ⟨1,n,g,0,ay nb 0 0,f,b⟩)) w:=fun w=>kq
end Go.X.Kn

namespace Go.X.Tr
open Go Go.X
variable{p0 p1:Nat}
structure aZ.U where
 aI:Int
 n:Int
 at_:Int
 cC:Bool
 aY:Int
def aZ.un(s:OS)(z:Int):aZ.U:=⟨s.aI z,s.n z,s.at_ z,s.cC z,s.aY z⟩
def aZ.cell(u:aZ.U)(j:Nat):Value:=
 if j=0 then iI u.aI else
 if j=1 then iI u.n else
 if j=2 then iI u.at_ else
 if j=3 then .bool u.cC else
 if j=4 then iI u.aY else
 undef
def aZ(p0 p1:Nat)(s:OS)(i:Nat):Value:=
 if i=0 then ay p0 0 0 else
 if i=1 then ay p1 0 0 else
 if i<122 then aZ.cell (aZ.un s (((i-2)/5:Nat):Int)) ((i-2)%5)else
 undef
abbrev eQ(b0 o0:Nat)(p0 p1:Nat)(s:OS):aG:=.cells b0 o0 122 (aZ p0 p1 s)
def sV(s:OS):0+0<122/\aZ p0 p1 s (0+0)=ay p0 0 0:=by grind [aZ]
def aZ.Jw(s:OS):0+1<122/\aZ p0 p1 s (0+1)=ay p1 0 0:=by grind [aZ]
theorem aZ.at_(s:OS)(z:Int)(h:0<=z/\z<24)(j:Nat)(hj:j<5):aZ p0 p1 s (0+2+z.toNat*5+j)=aZ.cell (aZ.un s z) j:=by
 unfold aZ;grind
theorem aZ.set(s s':OS)(z:Int)(h:0<=z/\z<24)(k:Nat)(hk:k<5)(v:Value)(hv:∀ j,aZ.cell (aZ.un s' z) j=if j=k then v else aZ.cell (aZ.un s z) j)(ho:∀ y,¬y=z->aZ.un s' y=aZ.un s y):0+2+z.toNat*5+k<122/\ep (aZ p0 p1 s) (0+2+z.toNat*5+k) v=aZ p0 p1 s':=by
 refine⟨og,?_⟩;funext i;grind [ep,aZ]
def aZ.Wh(s s':OS)(z:Int)(h:0<=z/\z<24)(vs:List Value)(hl:vs.length=5)(hv:∀ j,j<5->vs[j]? =some (aZ.cell (aZ.un s' z) j))(ho:∀ y,¬y=z->aZ.un s' y=aZ.un s y):0+2+z.toNat*5+5<=122/\cY (aZ p0 p1 s) (0+2+z.toNat*5) vs=aZ p0 p1 s':=by
 refine⟨og,?_⟩;funext i;by_cases a1:i<0+2+z.toNat*5
 ·grind [jB,aZ]
 ·by_cases a2:i<0+2+z.toNat*5+5
  ·obtain⟨j,rfl⟩:∃ j,i=0+2+z.toNat*5+j:=⟨i-(0+2+z.toNat*5),og⟩;rw[aZ.at_ s' z h j og];simp_all[gB]
  grind [jC,aZ]
def np(s:OS)(z:Int)(h:0<=z/\z<24:=by omega):0+2+z.toNat*5+0<122/\aZ p0 p1 s (0+2+z.toNat*5+0)=iI (s.aI z):=⟨og,aZ.at_ s z h 0 og⟩
def q9(s:OS)(z:Int)(h:0<=z/\z<24:=by omega):0+2+z.toNat*5+1<122/\aZ p0 p1 s (0+2+z.toNat*5+1)=iI (s.n z):=⟨og,aZ.at_ s z h 1 og⟩
def pE(s:OS)(z:Int)(h:0<=z/\z<24:=by omega):0+2+z.toNat*5+2<122/\aZ p0 p1 s (0+2+z.toNat*5+2)=iI (s.at_ z):=⟨og,aZ.at_ s z h 2 og⟩
def aZ.Km(s:OS)(z:Int)(h:0<=z/\z<24)(v:Int):0+2+z.toNat*5+2<122/\ep (aZ p0 p1 s) (0+2+z.toNat*5+2) (iI v)=aZ p0 p1 {s with at_:=ad s.at_ z v} :=aZ.set s {s with at_:=ad s.at_ z v} z h 2 og _ (fun j=>by
 have e:aZ.un {s with at_:=ad s.at_ z v} z= {aZ.un s z with at_:=v} :=by unfold aZ.un;simp only[ah]
 rw[e]
 by_cases hj:j=2
 ·subst hj;rfl
 ·unfold aZ.cell;simp only[if_neg hj]) fun y hy=>by unfold aZ.un;simp only[ae _ _ hy]
def Dp(s:OS)(z:Int)(h:0<=z/\z<24):0+2+z.toNat*5+3<122/\aZ p0 p1 s (0+2+z.toNat*5+3)= .bool (s.cC z):=⟨og,aZ.at_ s z h 3 og⟩
def jJ(s:OS)(z:Int)(h:0<=z/\z<24:=by omega):0+2+z.toNat*5+4<122/\aZ p0 p1 s (0+2+z.toNat*5+4)=iI (s.aY z):=⟨og,aZ.at_ s z h 4 og⟩
def wu(s:OS)(z:Int)(h:0<=z/\z<24)(v:Int):0+2+z.toNat*5+4<122/\ep (aZ p0 p1 s) (0+2+z.toNat*5+4) (iI v)=aZ p0 p1 {s with aY:=ad s.aY z v} :=aZ.set s {s with aY:=ad s.aY z v} z h 4 og _ (fun j=>by
 have e:aZ.un {s with aY:=ad s.aY z v} z= {aZ.un s z with aY:=v} :=by unfold aZ.un;simp only[ah]
 rw[e]
 by_cases hj:j=4
 ·subst hj;rfl
 ·unfold aZ.cell;simp only[if_neg hj]) fun y hy=>by unfold aZ.un;simp only[ae _ _ hy]
def aZ.c9(u:aZ.U):Array Value:= #[iI u.aI,iI u.n,iI u.at_,.bool u.cC,iI u.aY]
def aZ.N1(s:OS)(z:Int)(h:0<=z/\z<24):0+2+z.toNat*5+5<=122/\dB (aZ p0 p1 s) (0+2+z.toNat*5) 5= .agg (aZ.c9 (aZ.un s z)):=by
 refine⟨og,?_⟩;have q:=fun j hj=>aZ.at_ (p0:=p0) (p1:=p1) s z h j hj;simp only[dB,List.range,List.range.loop,List.map_cons,List.map_nil];rw[q 0 og,q 1 og,q 2 og,q 3 og,q 4 og];rfl
theorem aZ.box(u:aZ.U):∀ i,i<5->cellsOf (aZ.c9 u) i=aZ.cell u i:=fun i h=>match i,h with
 | 0,_=>rfl
 | 1,_=>rfl
 | 2,_=>rfl
 | 3,_=>rfl
 | 4,_=>rfl
 | j+5,h=>absurd h og
def Y2(u0 u:aZ.U):0+5<=5/\cY (aZ.cell u0) 0 (aZ.c9 u).toList=aZ.cell u:=by
 refine⟨og,?_⟩;funext i;match i with
 | 0=>rfl
 | 1=>rfl
 | 2=>rfl
 | 3=>rfl
 | 4=>rfl
 | k+5=>
  have e1:∀ u:aZ.U,aZ.cell u (k+5)=undef:=fun u=>by unfold aZ.cell;iterate 5 rw[if_neg og]
  have e2:cY (aZ.cell u0) 0 (aZ.c9 u).toList (k+5)=aZ.cell u0 (k+5):=by simp[cY,ep,aZ.c9]
  rw[e2,e1,e1]
def Nr(u:aZ.U):0+0<5/\aZ.cell u (0+0)=iI u.aI:=⟨og,rfl⟩
def Ns(u:aZ.U):0+1<5/\aZ.cell u (0+1)=iI u.n:=⟨og,rfl⟩
theorem aZ.put(s:OS)(z k n:Int)(w:Bool)(r:Int)(h:0<=z/\z<24):0+2+z.toNat*5+5<=122/\cY (aZ p0 p1 s) (0+2+z.toNat*5) (aZ.c9 ⟨k,n,0,w,r⟩).toList=aZ p0 p1 ⟨ad s.aI z k,ad s.n z n,ad s.at_ z 0,ad s.aY z r,ad s.cC z w⟩:=
 aZ.Wh s ⟨ad s.aI z k,ad s.n z n,ad s.at_ z 0,ad s.aY z r,ad s.cC z w⟩ z h _ rfl (fun j hj=>by
  have e:aZ.un ⟨ad s.aI z k,ad s.n z n,ad s.at_ z 0,ad s.aY z r,ad s.cC z w⟩ z=⟨k,n,0,w,r⟩:=by unfold aZ.un;simp only[ah]
  rw[e]
  match j,hj with
  | 0,_=>rfl
  | 1,_=>rfl
  | 2,_=>rfl
  | 3,_=>rfl
  | 4,_=>rfl
  | j+5,h=>exact absurd h og) fun y hy=>by unfold aZ.un;simp only[ae _ _ hy]
end Go.X.Tr


namespace Go.Proofs
open Go.Shelf
def FW:Go.Shelf.Ren:=⟨fun | 26=>249 | 33=>266 | 34=>267 | 38=>280 | n=>n,fun | 24=>207 | 9=>9 | 3=>3 | 4=>4 | 40=>258 | 0=>0 | n=>n,fun | n=>n⟩
def PR:Go.Proofs.Lays2.n26 Tryz.prog FW:= {
 mixed:=by kernel_rfl
 f26:=func249.trans (congrArg some (by kernel_rfl))
 f33:=func266.trans (congrArg some (by kernel_rfl))
 f34:=func267.trans (congrArg some (by kernel_rfl))
 f38:=func280.trans (congrArg some (by kernel_rfl))
 t0:=underlying0
 a0:=Tryz.isAgg0
 z0:=Tryz.sizeOf0
 v0:=Tryz.zeroValue0
 t3:=underlying3
 a3:=Tryz.isAgg3
 z3:=Tryz.sizeOf3
 v3:=Tryz.zeroValue3
 t4:=underlying4
 a4:=Tryz.isAgg4
 z4:=Tryz.sizeOf4
 v4:=Tryz.zeroValue4
 t9:=underlying9
 a9:=Tryz.isAgg9
 z9:=Tryz.sizeOf9
 v9:=Tryz.zeroValue9
 t24:=underlying207
 a24:=Tryz.isAgg207
 z24:=Tryz.sizeOf207
 v24:=Tryz.zeroValue207
 t40:=underlying258
 a40:=Tryz.isAgg258
 z40:=Tryz.sizeOf258
 v40:=Tryz.zeroValue258}
def FX:Go.Shelf.Ren:=⟨fun | 22=>250 | 29=>268 | 30=>269 | 36=>281 | 17=>288 | n=>n,fun | 24=>207 | 9=>9 | 3=>3 | 4=>4 | 0=>0 | n=>n,fun | n=>n⟩
def PT:Go.Proofs.Lays2.n22 Tryz.prog FX:= {
 mixed:=by kernel_rfl
 f17:=func288.trans (congrArg some (by kernel_rfl))
 f22:=func250.trans (congrArg some (by kernel_rfl))
 f29:=func268.trans (congrArg some (by kernel_rfl))
 f30:=func269.trans (congrArg some (by kernel_rfl))
 f36:=func281.trans (congrArg some (by kernel_rfl))
 t0:=underlying0
 a0:=Tryz.isAgg0
 z0:=Tryz.sizeOf0
 v0:=Tryz.zeroValue0
 t3:=underlying3
 a3:=Tryz.isAgg3
 z3:=Tryz.sizeOf3
 v3:=Tryz.zeroValue3
 t4:=underlying4
 a4:=Tryz.isAgg4
 z4:=Tryz.sizeOf4
 v4:=Tryz.zeroValue4
 t9:=underlying9
 a9:=Tryz.isAgg9
 z9:=Tryz.sizeOf9
 v9:=Tryz.zeroValue9
 t24:=underlying207
 a24:=Tryz.isAgg207
 z24:=Tryz.sizeOf207
 v24:=Tryz.zeroValue207
 i9:=by kernel_rfl}
def FY:Go.Shelf.Ren:=⟨fun | 21=>251 | 27=>270 | 28=>271 | 35=>282 | 39=>289 | n=>n,fun | 22=>55 | 3=>3 | 4=>4 | 0=>0 | n=>n,fun | n=>n⟩
def PV:Go.Proofs.Lays2.n21 Tryz.prog FY:= {
 mixed:=by kernel_rfl
 f21:=func251.trans (congrArg some (by kernel_rfl))
 f27:=func270.trans (congrArg some (by kernel_rfl))
 f28:=func271.trans (congrArg some (by kernel_rfl))
 f35:=func282.trans (congrArg some (by kernel_rfl))
 f39:=func289.trans (congrArg some (by kernel_rfl))
 t0:=underlying0
 a0:=Tryz.isAgg0
 z0:=Tryz.sizeOf0
 v0:=Tryz.zeroValue0
 t3:=underlying3
 a3:=Tryz.isAgg3
 z3:=Tryz.sizeOf3
 v3:=Tryz.zeroValue3
 t4:=underlying4
 a4:=Tryz.isAgg4
 z4:=Tryz.sizeOf4
 v4:=Tryz.zeroValue4
 t22:=underlying55
 a22:=Tryz.isAgg55
 z22:=Tryz.sizeOf55
 v22:=Tryz.zeroValue55
 i3:=by kernel_rfl}
def FZ:Go.Shelf.Ren:=⟨fun | 24=>252 | n=>n,fun | 24=>207 | 9=>9 | 3=>3 | 4=>4 | 0=>0 | n=>n,fun | n=>n⟩
def PW:Go.Proofs.Lays2.n24 Tryz.prog FZ:= {
 mixed:=by kernel_rfl
 f24:=func252.trans (congrArg some (by kernel_rfl))
 t0:=underlying0
 a0:=Tryz.isAgg0
 z0:=Tryz.sizeOf0
 v0:=Tryz.zeroValue0
 t3:=underlying3
 a3:=Tryz.isAgg3
 z3:=Tryz.sizeOf3
 v3:=Tryz.zeroValue3
 t4:=underlying4
 a4:=Tryz.isAgg4
 z4:=Tryz.sizeOf4
 v4:=Tryz.zeroValue4
 t9:=underlying9
 a9:=Tryz.isAgg9
 z9:=Tryz.sizeOf9
 v9:=Tryz.zeroValue9
 t24:=underlying207
 a24:=Tryz.isAgg207
 z24:=Tryz.sizeOf207
 v24:=Tryz.zeroValue207
 i9:=by kernel_rfl}
def F0:Go.Shelf.Ren:=⟨fun | 23=>253 | n=>n,fun | 22=>55 | 3=>3 | 4=>4 | 0=>0 | n=>n,fun | n=>n⟩
def PX:Go.Proofs.Lays2.n23 Tryz.prog F0:= {
 mixed:=by kernel_rfl
 f23:=func253.trans (congrArg some (by kernel_rfl))
 t0:=underlying0
 a0:=Tryz.isAgg0
 z0:=Tryz.sizeOf0
 v0:=Tryz.zeroValue0
 t3:=underlying3
 a3:=Tryz.isAgg3
 z3:=Tryz.sizeOf3
 v3:=Tryz.zeroValue3
 t4:=underlying4
 a4:=Tryz.isAgg4
 z4:=Tryz.sizeOf4
 v4:=Tryz.zeroValue4
 t22:=underlying55
 a22:=Tryz.isAgg55
 z22:=Tryz.sizeOf55
 v22:=Tryz.zeroValue55
 i3:=by kernel_rfl}
def G3:Go.Shelf.Ren:=⟨fun | 16=>240 | n=>n,fun | 24=>207 | 9=>9 | 4=>4 | n=>n,fun | n=>n⟩
def UK:Go.Proofs.Lays2.n16 Tryz.prog G3:= {
 mixed:=by kernel_rfl
 f16:=func240.trans (congrArg some (by kernel_rfl))
 t4:=underlying4
 a4:=Tryz.isAgg4
 z4:=Tryz.sizeOf4
 v4:=Tryz.zeroValue4
 t9:=underlying9
 a9:=Tryz.isAgg9
 z9:=Tryz.sizeOf9
 v9:=Tryz.zeroValue9
 t24:=underlying207
 a24:=Tryz.isAgg207
 z24:=Tryz.sizeOf207
 v24:=Tryz.zeroValue207
 i9:=by kernel_rfl}
end Go.Proofs

namespace Go.X.Tr
open Go Go.Proofs Go.X
def AY(p:Option Addr)(cap:Nat)(l:List ByteArray)(x:ByteArray)(hl:l.length<=1000000:=by omega):Fn 249 [.slice p l.length cap,.string x] [kR p cap 9 l] (ap (.tuple #[iI (bsS l x),.bool (Lj l x)]) [kR p cap 9 l]):=N4 Go.Proofs.PR p cap 9 l x hl
def ags(p:Option Addr)(cap:Nat)(l:List ByteArray)(i:Nat)(hi:i<=l.length)(x:ByteArray)(vb:Nat)(hl:l.length<=1000000):Fn 250 [.slice p l.length cap,iI i,.slice (some ⟨vb,0,none⟩) 1 1] [kR p cap 9 l,.row (.slice (some ⟨vb,0,none⟩) 1 1) 9 1 1 [.string x]]
   (fun v H1=>∃ p' dv,v= .slice p' (l.length+1) dv/\H1=[.row (.slice p' (l.length+1) dv) 9 1 (l.length+1) (strs (l.insertIdx i x)),.row (.slice (some ⟨vb,0,none⟩) 1 1) 9 1 1 [.string x]]):=Gq Go.Proofs.PT p cap l i hi x vb 9 hl
def agt(p:Option Addr)(cap:Nat)(l:List Int)(i:Nat)(hi:i<=l.length)(x:Int)(vb:Nat)(hl:l.length<=1000000):Fn 251 [.slice p l.length cap,iI i,.slice (some ⟨vb,0,none⟩) 1 1] [dH p cap 3 l,.row (.slice (some ⟨vb,0,none⟩) 1 1) 3 1 1 [iI x]]
   (fun v H1=>∃ p' dv,v= .slice p' (l.length+1) dv/\H1=[.row (.slice p' (l.length+1) dv) 3 1 (l.length+1) (gi (l.insertIdx i x)),.row (.slice (some ⟨vb,0,none⟩) 1 1) 3 1 1 [iI x]]):=N3 Go.Proofs.PV p cap l i hi x vb 3 hl
def agu(p:Option Addr)(cap:Nat)(l:List ByteArray)(i:Nat)(hi:i<l.length)(hl:l.length<=1000000):Fn 252 [.slice p l.length cap,iI i,iI (i+1)] [kR p cap 9 l] (ap (.slice p (l.length-1) cap) [.row (.slice p (l.length-1) cap) 9 1 (l.length-1) (strs (l.eraseIdx i))]):=Gs Go.Proofs.PW p cap l i hi 9 hl
def agv(p:Option Addr)(cap:Nat)(l:List Int)(i:Nat)(hi:i<l.length)(hl:l.length<=1000000):Fn 253 [.slice p l.length cap,iI i,iI (i+1)] [dH p cap 3 l] (ap (.slice p (l.length-1) cap) [.row (.slice p (l.length-1) cap) 3 1 (l.length-1) (gi (l.eraseIdx i))]):=N5 Go.Proofs.PX p cap l i hi 3 hl
def acp(p:Option Addr)(cap:Nat)(l:List ByteArray)(hl:l.length<=1000000):Fn 240 [.slice p l.length cap] [kR p cap 9 l] (fun v H1=>∃ p' dv,v= .slice p' l.length dv/\H1=[kR p' dv 9 l,kR p cap 9 l]):=I7 Go.Proofs.UK p cap 9 l hl
def Y3(x:ByteArray)(hx:x.size<=9223372036854775807):Fn 247 [.string x] [] (ap (.bool (kZ x)) []):=by
 refine Spec.g 53 [0,2,3,5,6,7,36] func247 fun W=> ?_;refine wl (σ:=Int) (fun i=>(x.size-i).toNat) (fun i=>(0<=i/\i<=x.size)/\∀ j,j<i.toNat->okB (x.get! j)=true) (fun i=>[(6,iI i),(0,.string x),(5,iI x.size)]) (fun i=>[]) (0) ?_ .nil ?_
 ·simp_all
 intro i hi;obtain⟨hi,ho⟩:=hi;apply gC;apply (cd)<;>intro h1
 obtain⟨u,hu⟩:=Mt (s:=x) (j:=i.toNat) og;have hg:=Xu hu;refine XO.v (ic rfl rfl underlying9 og hu) rfl (gO ?_);apply UV 13<;>intro h2
 refine XO.v (ic rfl rfl underlying9 og hu) rfl (gO ?_);apply UV 24<;>intro h3
 refine XO.v (ic rfl rfl underlying9 og hu) rfl (gO ?_);apply (cd)<;>intro h4;rotate_left
 ·refine sd (wn (i+1) ?_ ?_ .nil);all_goals grind [okB]
 refine XO.v (ic rfl rfl underlying9 og hu) rfl (gO ?_);apply UV 31<;>intro h5
 refine XO.v (ic rfl rfl underlying9 og hu) rfl (gO ?_);apply (cd)<;>intro h6;rotate_left
 ·refine sd (wn (i+1) ?_ ?_ .nil);all_goals omega
 ·refine sd (wn (i+1) ?_ ?_ .nil);all_goals grind [okB]
 refine XO.v (ic rfl rfl underlying9 og hu) rfl (gO ?_);apply UV 19<;>intro h7
 refine XO.v (ic rfl rfl underlying9 og hu) rfl (gO ?_);apply UV 24<;>intro h8
 ·refine XO.v (ic rfl rfl underlying9 og hu) rfl (gO ?_);apply (cd)<;>intro h9
  ·refine bL .nil ?_;omega
  ·refine sd (wn (i+1) ?_ ?_ .nil);all_goals omega
 refine XO.v (ic rfl rfl underlying9 og hu) rfl (gO ?_);apply UV 31<;>intro Vb
 refine XO.v (ic rfl rfl underlying9 og hu) rfl (gO ?_);apply (cd)<;>intro h11;rotate_left
 ·refine sd (wn (i+1) ?_ ?_ .nil);all_goals omega
 ·refine sd (wn (i+1) ?_ ?_ .nil);all_goals omega
 ·refine sd (wn (i+1) ?_ ?_ .nil);all_goals grind [okB]
 ·have NS:∀ j,j<x.size->okB (x.get! j)=true:=fun j hj=>ho j og;apply UV 40<;>intro h12
  ·apply UV 44<;>intro h13
   ·apply UV 48<;>intro h14
    ·refine bL .nil ?_;grind [aR,aQ,Ak,kZ]
    ·refine bL .nil ?_;grind [aR,aQ,bQ,kZ]
   ·refine bL .nil ?_;grind [aR,aQ,bQ,kZ]
  ·refine bL .nil ?_;grind [aR,aQ,bQ,Ak,kZ]
 all_goals refine bL .nil ?_;grind [aR,aQ,bQ,okB,kZ]
def Ck(b o:Nat)(s:FC)(n:Int):Fn 185 [ay b o 0,iI n] [bi b o s] (ap (ax 102 (s.cQ n 0)) [bi b o s]):=by
 refine Spec.g 21 [0,1,4,10,19] func185 fun W=> ?_;apply UV 7<;>intro h1;rotate_left
 apply (cd)<;>intro h2;rotate_left
 ·refine sd (ld .aa (fK _ _) ?_);apply (cd)<;>intro h3
  ·refine bL .h1 ?_;try dsimp only[aR,aQ,bH,bQ]
   have e:s.cQ n 0=2:=by unfold FF.cQ;rw[if_neg og,if_pos og]
   grind [ax]
  ·refine bL .h1 ?_;try dsimp only[aR,aQ,bH,bQ]
   have e:s.cQ n 0=0:=by unfold FF.cQ;rw[if_neg og,if_neg og,if_neg og]
   grind [ax]
 all_goals
  refine bL .h1 ?_;try dsimp only[aR,aQ,bH,bQ]
  have e:s.cQ n 0=1:=by unfold FF.cQ;rw[if_pos og]
  grind [ax]
def RY(b o:Nat)(s:FC)(n:Int):Fn 237 [ay b o 0,iI n] [bi b o s] (ap (ax 102 (s.cQ n 2)) [bi b o s]):=by
 refine Spec.g 23 [0,1,4,5,20] func237 fun W=> ?_;refine cq (Ck _ _ _ _) .h1 ?_;apply UV 11<;>intro h1
 ·obtain⟨i1,i2,i3⟩:=FF.Am (show s.cQ n 0=0 by assumption);refine sd (ld .aa (fK _ _) ?_);apply (cd)<;>intro h2
  ·refine bL .h1 ?_;try dsimp only[aR,aQ,bH,bQ]
   have e:s.cQ n 2=11:=by unfold FF.cQ;rw[if_neg og,if_neg og,if_pos og]
   grind [ax]
  ·refine bL .h1 ?_;try dsimp only[aR,aQ,bH,bQ]
   have e:s.cQ n 2=0:=by unfold FF.cQ;rw[if_neg og,if_neg og,if_neg og]
   simp_all
 ·have i0:s.cQ n 0≠0:=aq;refine bL .h1 ?_;try dsimp only[aR,aQ,bH,bQ]
  exact⟨by rw[FF.Xv i0],rfl⟩
def PY(b o:Nat)(s:FC)(n:Int):Fn 194 [ay b o 0,iI n] [bi b o s] (ap (ax 102 (s.cQ n 1)) [bi b o s]):=by
 refine Spec.g 23 [0,1,4,5,20] func194 fun W=> ?_;refine cq (Ck _ _ _ _) .h1 ?_;apply UV 11<;>intro h1
 ·obtain⟨i1,i2,i3⟩:=FF.Am (show s.cQ n 0=0 by assumption);refine sd (ld .aa (fK _ _) ?_);apply (cd)<;>intro h2
  ·refine bL .h1 ?_;try dsimp only[aR,aQ,bH,bQ]
   have e:s.cQ n 1=11:=by unfold FF.cQ;rw[if_neg og,if_neg og,if_pos og]
   grind [ax]
  ·refine bL .h1 ?_;try dsimp only[aR,aQ,bH,bQ]
   have e:s.cQ n 1=0:=by unfold FF.cQ;rw[if_neg og,if_neg og,if_neg og]
   simp_all
 ·have i0:s.cQ n 0≠0:=aq;refine bL .h1 ?_;try dsimp only[aR,aQ,bH,bQ]
  exact⟨by rw[FF.Xv i0],rfl⟩
def zh(b o:Nat)(s:FC)(hI:s.toFF.Sh)(n:Int)(x:ByteArray):Fn 235 [ay b o 0,iI n,.string x] [bi b o s,.aV au (s.bA 9),.aV au (s.bB 3)] (ap (.tuple #[iI (s.bS n x),ax 102 (s.fX n x)]) [bi b o s,g6 s,g7 s]):=by
 refine Spec.g 42 [0,1,2,6,7,8,9,10,15,30] func235 fun W=> ?_;refine cq (RY _ _ _ _) .h1 ?_;apply (cd)<;>intro h1
 ·have i0:s.cQ n 2≠0:=aq;refine fg (pz 3) ?_;have e:s.fX n x=s.cQ n 2:=by unfold FF.fX;rw[if_pos i0]
  exact⟨by rw[show s.bS n x=0 from by unfold FF.bS;rw[if_neg og],e]<;>rfl,rfl⟩
 ·obtain⟨i1,i2,i3,i4⟩:=FF.jZ (show s.cQ n 2=0 by simpa using h1);have i0:s.cQ n 2=0:=by simpa using h1
  obtain⟨hr,hk,h8,_⟩:=hI.jY n i1 i2;have Z9:=EU hr x;have hbh:=Aj hr x;have hpl:=py (s.aJ n) x;refine sd (ld .aa (fN _ _) (XR.mono (fun _ bR=>oE (s:=s) (z:=n) og (pk [1]) bR) ?_));refine cq (AY _ _ _ _) .h1 ?_;apply XR.mono fun _ bR=>mE (s:=s) s (z:=n) og rfl (da _ rfl).symm (da _ rfl).symm (da _ rfl).symm (pz 2) bR;apply (yx)<;>intro h2
  ·try simp only[sb]at h2
   have hh:qk (s.aJ n) x=false:=by rw[<-hbh];simpa using h2
   refine fg (pk [1,0,0]) ?_;have e:s.fX n x=2:=by unfold FF.fX;rw[if_neg og,if_neg (by rw[hh];simp)]
   exact⟨by rw[show s.bS n x=0 from by unfold FF.bS;rw[if_neg og],e];rfl,rfl⟩
  ·try simp only[sb]at h2
   have hh:qk (s.aJ n) x=true:=by rw[<-hbh];simpa using h2
   obtain⟨RZ,NK⟩:=nc.1 hh;refine sd (XR.mono (fun _ bR=>Au (s:=s) (z:=n) og (pk [2]) bR) (ld (.t3 .aa) (ng _ _) (bV .aa og ?_)));intro g hg;rw[hg];refine sd (Cx .aa (ints_at) (XR.mono (fun _ bR=>xc (s:=s) s (z:=n) og rfl (da _ rfl).symm (da _ hg).symm (da _ rfl).symm (pz 2) bR) (bC rfl rfl rfl (ai (pk [2,1,0]) rfl ?_))));have e:s.fX n x=0:=by unfold FF.fX;rw[if_neg og,if_pos hh]
   exact⟨by rw[show s.bS n x=jK (s.kids n) (fb (s.aJ n) x)from by unfold FF.bS;rw[if_pos e],e,Z9];rfl,rfl⟩
def F2(b o:Nat)(s:FC)(hI:s.toFF.Sh)(n:Int)(x:ByteArray)(hx:x.size<=9223372036854775807):Fn 233 [ay b o 0,iI n,.string x] [bi b o s,.aV au (s.bA 9),.aV au (s.bB 3)] (ap (ax 102 (s.fD n x)) [bi b o s,g6 s,g7 s]):=by
 refine Spec.g 44 [0,1,2,6,7,9,14,18,32,42] func233 fun W=> ?_;refine cq (RY _ _ _ _) .h1 ?_;apply (cd)<;>intro h1
 ·have i0:s.cQ n 2≠0:=aq;refine bL (pz 3) ?_;try dsimp only[aR,aQ,bH,bQ]
  have e:s.fD n x=s.cQ n 2:=by unfold FF.fD;rw[if_pos i0]
  simp_all
 ·obtain⟨i1,i2,i3,i4⟩:=FF.jZ (show s.cQ n 2=0 by simpa using h1);have i0:s.cQ n 2=0:=by simpa using h1
  obtain⟨hr,hk,h8,_⟩:=hI.jY n og og;have Z9:=EU hr x;have hbh:=Aj hr x;have hpl:=py (s.aJ n) x;refine cq (Y3 _ og) .nil ?_;apply (yx)<;>intro h2
  ·try simp only[sb]at h2
   have hn:kZ x=false:=by simpa using h2
   refine bL (pz 3) ?_;try dsimp only[aR,aQ,bH,bQ]
   have e:s.fD n x=9:=by unfold FF.fD;rw[if_neg og,if_pos hn]
   grind [ax]
  ·try simp only[sb]at h2
   have hn:kZ x=true:=by simpa using h2
   refine sd (ld .aa (fN _ _) (XR.mono (fun _ bR=>oE (s:=s) (z:=n) og (pk [1]) bR) ?_));refine cq (AY _ _ _ _) .h1 ?_;refine XR.mono (fun _ bR=>mE (s:=s) s (z:=n) og rfl (da _ rfl).symm (da _ rfl).symm (da _ rfl).symm (pz 2) bR) ?_;apply (yx)<;>intro h3
   ·try simp only[sb]at h3
    have hh:qk (s.aJ n) x=true:=by rw[<-hbh];simpa using h3
    refine bL (pk [1,0,0]) ?_;try dsimp only[aR,aQ,bH,bQ]
    have e:s.fD n x=3:=by unfold FF.fD;rw[if_neg og,if_neg (by rw[hn];simp),if_pos hh]
    grind [ax]
   ·try simp only[sb]at h3
    have hh:qk (s.aJ n) x=false:=by rw[<-hbh];simpa using h3
    refine sd (ld (.ao .aa) (fN _ _) ?_);apply (cd)<;>intro h4
    ·refine bL (pk [1,0,0]) ?_;try dsimp only[aR,aQ,bH,bQ]
     have e:s.fD n x=4:=by unfold FF.fD;rw[if_neg og,if_neg (by rw[hn];simp),if_neg (by rw[hh];simp),if_pos og]
     grind [ax]
    ·refine bL (pk [1,0,0]) ?_;try dsimp only[aR,aQ,bH,bQ]
     have e:s.fD n x=0:=by unfold FF.fD;rw[if_neg og,if_neg (by rw[hn];simp),if_neg (by rw[hh];simp),if_neg og]
     grind [ax]
def F3(b o:Nat)(s:FC)(hI:s.toFF.Sh)(n:Int)(x:ByteArray)(k:Int)(hn:0<=n/\n<40:=by omega):Fn 234 [ay b o 0,iI n,.string x,iI k] [bi b o s,.aV au (s.bA 9),.aV au (s.bB 3)] (fun v H1=>v= .tuple #[]/\∃ t:FC,t.toFF=s.uT n x k/\t.rP=s.rP/\t.rC=s.rC/\H1=[bi b o t,g6 t,g7 t]):=by
 obtain⟨hr,hk,h8,_⟩:=hI.jY n og og;have Z9:=EU hr x;have hbh:=Aj hr x;have hpl:=py (s.aJ n) x;refine Spec.g 47 [2,3,8,9] func234 fun W=> ?_;refine sd (ld .aa (fN _ _) (XR.mono (fun _ bR=>oE (s:=s) (z:=n) og (pk [1]) bR) ?_));refine ca (AY _ _ _ _) .h1 ?_;rintro _ _ ⟨rfl,rfl⟩;rw[Z9];apply gO;refine XR.mono (fun _ bR=>mE (s:=s) s (z:=n) og rfl (da _ rfl).symm (da _ rfl).symm (da _ rfl).symm (pz 2) bR) (ld (.ao .aa) (fN _ _) (XR.mono (fun _ bR=>oE (s:=s) (z:=n) og .h1 bR) (iL (e:=9) (vs:= #[(0,.string x)]) (A:= #[.string x]) (sz:=1) rfl (fun _=>kq) rfl og rfl ?_)));intro b1;apply gO;refine ca (ags _ _ _ _ hpl _ _ og) (pk [1,0]) ?_;rintro _ _ ⟨p1,c1,rfl,rfl⟩;apply gO;refine XR.mono (fun _ bR=>mE (s:=s) ({s with aJ:=ad s.aJ n ((s.aJ n).insertIdx (fb (s.aJ n) x) x),nP:=ad s.nP n p1,nC:=ad s.nC n c1} :FC) (z:=n) (l:=((s.aJ n).insertIdx (fb (s.aJ n) x) x)) og (by rw[List.length_insertIdx,if_pos hpl]) rfl rfl rfl (pk [0,1]) bR) (st (.t2 .aa) (uC _ _ og ((s.aJ n).insertIdx (fb (s.aJ n) x) x) _ _ _ (by rw[List.length_insertIdx,if_pos hpl])) rfl (ld (.t2 .aa) (ng _ _) (XR.mono (fun _ bR=>Au (s:=s) (z:=n) og (pk [3]) bR) (iL (e:=3) (vs:= #[(0,iI k)]) (A:= #[iI k]) (sz:=1) rfl (fun _=>kq) rfl og rfl ?_))));intro b2;apply gO;refine ca (agt (s.kP n) (s.kC n) (s.kids n) (fb (s.aJ n) x) og k _ og) (pk [1,0]) ?_;rintro _ _ ⟨p2,c2,rfl,rfl⟩;apply gO;refine XR.mono (fun _ bR=>xc (s:=s) (s.aiJ n x k p1 c1 p2 c2) (z:=n) (l:=((s.kids n).insertIdx (fb (s.aJ n) x) k)) og (by rw[List.length_insertIdx,if_pos og]) rfl rfl rfl (pk [0,1]) bR) (st (.t4 .aa) (vL _ _ og ((s.kids n).insertIdx (fb (s.aJ n) x) k) _ _ _ (by rw[List.length_insertIdx,if_pos og])) rfl (dy rfl (ai (pk [4,2,0]) rfl ?_)));exact⟨rfl,s.aiJ n x k p1 c1 p2 c2,rfl,rfl,rfl,rfl⟩
def R1(b o:Nat)(s:FC)(hI:s.toFF.Sh)(n:Int)(x:ByteArray)(hn:0<=n/\n<40)(hh:qk (s.aJ n) x=true):Fn 236 [ay b o 0,iI n,.string x] [bi b o s,.aV au (s.bA 9),.aV au (s.bB 3)] (fun v H1=>v= .tuple #[]/\∃ t:FC,t.toFF=s.eZ n x/\t.rP=s.rP/\t.rC=s.rC/\H1=[bi b o t,g6 t,g7 t]):=by
 obtain⟨hr,hk,h8,_⟩:=hI.jY n og og;have Z9:=EU hr x;have hbh:=Aj hr x;have hpl:=py (s.aJ n) x;have sW:=(nc.1 hh).1;refine Spec.g 45 [2,6,7] func236 fun W=> ?_;refine sd (ld .aa (fN _ _) (XR.mono (fun _ bR=>oE (s:=s) (z:=n) og (pk [1]) bR) ?_));refine ca (AY _ _ _ _) .h1 ?_;rintro _ _ ⟨rfl,rfl⟩;rw[Z9];apply gO;refine XR.mono (fun _ bR=>mE (s:=s) s (z:=n) og rfl (da _ rfl).symm (da _ rfl).symm (da _ rfl).symm (pz 2) bR) (ld (.ao .aa) (fN _ _) (XR.mono (fun _ bR=>oE (s:=s) (z:=n) og .h1 bR) (sd ?_)));refine cq (agu _ _ _ _ sW og) .h1 ?_;refine XR.mono (fun _ bR=>mE (s:=s) ({s with aJ:=ad s.aJ n ((s.aJ n).eraseIdx (fb (s.aJ n) x)),nP:=ad s.nP n (s.nP n),nC:=ad s.nC n (s.nC n)} :FC) (z:=n) (l:=((s.aJ n).eraseIdx (fb (s.aJ n) x))) og (by rw[List.length_eraseIdx,if_pos sW]) rfl rfl rfl (pz 2) bR) (st (.ao .aa) (uC _ _ og ((s.aJ n).eraseIdx (fb (s.aJ n) x)) _ _ _ (by rw[List.length_eraseIdx,if_pos sW])) rfl (ld (.ao .aa) (ng _ _) (XR.mono (fun _ bR=>Au (s:=s) (z:=n) og (pk [2]) bR) (sd ?_))));refine cq (agv (s.kP n) (s.kC n) (s.kids n) (fb (s.aJ n) x) og og) .h1 ?_;refine XR.mono (fun _ bR=>xc (s:=s) (s.aiK n x) (z:=n) (l:=((s.kids n).eraseIdx (fb (s.aJ n) x))) og (by rw[List.length_eraseIdx,if_pos og]) rfl rfl rfl (pz 2) bR) (st (.t2 .aa) (vL _ _ og ((s.kids n).eraseIdx (fb (s.aJ n) x)) _ _ _ (by rw[List.length_eraseIdx,if_pos og])) rfl (dy rfl (ai (pk [2,1,0]) rfl ?_)));exact⟨rfl,s.aiK n x,rfl,rfl,rfl,rfl⟩
def xB(b o:Nat)(s:FC)(k t l u:Int):Fn 175 [ay b o 0,.agg (Av k t l u)] [bi b o s,.aV au (s.bA 9),.aV au (s.bB 3)] (fun v H1=>(s.free<0/\v= .tuple #[iI 0,ax 102 4]/\H1=[bi b o s,g6 s,g7 s])\/(¬s.free<0/\v= .tuple #[iI s.free,ax 102 0]/\H1=[bi b o (s.yU s.free k t l u),g6 (s.yU s.free k t l u),g7 (s.yU s.free k t l u)])):=by
 refine Spec.g 27 [0,3,4,5,6,7,8,17] func175 fun W=> ?_;refine XO.box (m:=8) (C:=aC.cell (H4 k t l u)) rfl rfl (MA k t l u) rfl ?_;intro bx;apply gO;refine wl (σ:=Int) (fun i=>(40-i).toNat) (fun i=>(0<=i/\i<=40)/\∀ j,0<=j->j<i->s.aI j≠0) (fun i=>[(7,iI i),(0,ay b o 0),(3,ay bx 0 0)]) (fun i=>[bi b o s,.aV au (s.bA 9),.aV au (s.bB 3),.cells bx 0 8 (aC.cell (H4 k t l u))]) (0) ?_ (pk [1,1,1,0]) ?_
 ·grind
 intro i hi;obtain⟨hi,ho⟩:=hi;apply gC;apply (cd)<;>intro h1
 ·refine sd (ld .aa (fK _ _) ?_);apply (cd)<;>intro h2
  ·refine rq [0,1,2,3,4,5,6] mixed (mP (.t3 .aa) (Xy k t l u) (sd (gu .aa (Mz s i k t l u) rfl ⟨rfl,rfl⟩ (XR.mono (fun _ bR=>Re (s:=s) (s.yU i k t l u) og rfl rfl rfl (pk [1]) bR) (XR.mono (fun _ bR=>Rg (s:=s) (s.yU i k t l u) og rfl rfl rfl (pk [2]) bR) (bC rfl rfl rfl (ai (pk [2,1,0]) rfl ?_)))))));try dsimp only[aR,aQ,bH,bQ]
   have e:=FF.qW hi.1 og ho aq;grind [ax]
  ·refine sd (wn (i+1) ?_ ?_ (pz 4));all_goals grind
 ·refine fg (pz 3) ?_;try dsimp only[aR,aQ,bH,bQ]
  have e:=FF.Bx (s:=s.toFF) fun j a b=>ho j a og;grind [ax]
def PZ(b o:Nat)(s:FC)(n:Int)(hn:0<=n/\n<40:=by omega):Fn 195 [ay b o 0,iI n] [bi b o s,.aV au (s.bA 9),.aV au (s.bB 3)] (fun v H1=>v= .tuple #[]/\∃ t:FC,t.toFF=s.sD n/\t.rP=s.rP/\t.rC=s.rC/\H1=[bi b o t,g6 t,g7 t]):=by
 refine Spec.g 28 [0,1,21] func195 fun W=> ?_;refine sd (ld .aa (lW _ _) ?_);apply UV 12<;>intro h1
 refine sd (ld .aa (la _ _) ?_);apply (cd)<;>intro h2
 ·refine XO.v (V.build (vs:= #[]) rfl (v:=.agg (Av 0 0 0 0)) fun _=>kq) rfl (gO ?_);refine sd (gu .aa (Mz s n 0 0 0 0) rfl ⟨rfl,rfl⟩ (XR.mono (fun _ bR=>Re (s:=s) (s.yU n 0 0 0 0) og rfl rfl rfl (pk [1]) bR) (XR.mono (fun _ bR=>Rg (s:=s) (s.yU n 0 0 0 0) og rfl rfl rfl (pk [2]) bR) (dy rfl (ai (pk [2,1,0]) rfl ?_)))));exact⟨rfl,s.yU n 0 0 0 0,by unfold FF.sD;rw[if_pos ⟨aq,aq⟩];rfl,rfl,rfl,rfl⟩
 rotate_left;rotate_left;all_goals refine dy rfl (ai (pz 3) rfl ?_);exact⟨rfl,s,by unfold FF.sD;rw[if_neg og],rfl,rfl,rfl⟩
def agx(b o:Nat)(s:FC)(n:Int):Fn 239 [ay b o 0,iI n] [bi b o s] (ap (.tuple #[iI (if s.cQ n 0=0 then s.ed n else 0),ax 102 (s.cQ n 0)]) [bi b o s]):=by
 refine Spec.g 20 [0,1,4,5,6,11] func239 fun W=> ?_;refine cq (Ck _ _ _ _) .h1 ?_;apply (cd)<;>intro h1
 ·have i0:s.cQ n 0≠0:=aq;refine fg .h1 ?_;grind [aR,aQ,bQ]
 ·obtain⟨i1,i2,i3,i4⟩:=FF.jZ (show s.cQ n 0=0 by simpa using h1);have i0:s.cQ n 0=0:=by simpa using h1
  refine sd (ld .aa (il _ _) (bC rfl rfl rfl (ai .h1 rfl ?_)));grind [aR,aQ,bQ,ax]
def acq(b o:Nat)(s:FC)(d:Int->Nat)(n k:Int)(hn:0<=n/\n<40/\s.aI n=2)(hc:s.toFF.Ch d k):Fn 238 [ay b o 0,iI n,iI k] [bi b o s] (ap (.bool (FF.Mu d s.toFF n k)) [bi b o s]):=by
 refine Spec.g 26 [0,1,2,6,9,18] func238 fun W=> ?_;refine wl (σ:=Int) (fun i=>d i) (fun i=>(0<=i/\i<40/\s.aI i=2)/\FF.Mu d s.toFF n k=FF.Mu d s.toFF i k) (fun i=>[(1,iI i),(0,ay b o 0),(2,iI k)]) (fun i=>[bi b o s]) (n) ?_ .h1 ?_
 ·simp_all
 intro i hi;obtain⟨hi,he⟩:=hi;apply gC;apply (cd)<;>intro h1
 ·refine sd (ld .aa (An _ _) ?_);apply (cd)<;>intro h2
  ·refine bL .h1 ?_;try dsimp only[aR,aQ,bH,bQ]
   have e:=FF.Ap hc og og hi.2.2 (show i≠k by assumption);simp_all
  ·refine sd (ld .aa (An _ _) (wn (s.up i) ?_ ?_ .h1))
   ·rcases hc i og og hi.2.2 aq with g | ⟨g1,g2,g3,g4⟩;all_goals omega
   ·have e:=FF.Ap hc og og hi.2.2 (show i≠k by assumption);rw[if_neg aq]at e;rcases hc i og og hi.2.2 aq with g | ⟨g1,g2,g3,g4⟩;all_goals simp_all
 ·refine bL .h1 ?_;try dsimp only[aR,aQ,bH,bQ]
  have e:i=k:=og;exact⟨by rw[he,e,FF.Mx],rfl⟩
def acr(b o:Nat)(s:FC):Fn 108 [ay b o 0] [bi b o s] (ap (iI s.aiF) [bi b o s]):=by
 refine Spec.g 20 [0,2,3,4,5,6,15] func108 fun W=> ?_;refine wl (σ:=Int) (fun i=>(40-i).toNat) (fun i=>(0<=i/\i<=40)/\0<=s.fh i.toNat/\s.fh i.toNat<=i) (fun i=>[(5,iI i),(3,iI (s.fh i.toNat)),(0,ay b o 0)]) (fun i=>[bi b o s]) (0) ?_ .h1 ?_
 ·exact⟨og,by show(0:Int)<=0;omega,by show(0:Int)<=0;omega⟩
 intro i hi;obtain⟨hi,ho⟩:=hi;have pf:=FF.TY s.toFF hi.1;apply gC;apply (cd)<;>intro h1
 ·refine sd (ld .aa (fK _ _) ?_);apply (cd)<;>intro h2
  ·refine sd (sd (ag (i+1) ?_ ?_ (S3 rfl (Gn (by rw[pf,if_pos aq])) rfl) (xq .h1)));all_goals omega
  ·refine sd (ag (i+1) ?_ ?_ (S3 rfl (Gn (by rw[pf,if_neg og];omega)) rfl) (xq .h1));all_goals omega
 ·refine bL .h1 ?_;have e:i=40:=og;subst e;exact⟨rfl,rfl⟩
def Y4(b o:Nat)(s:FC)(hI:s.toFF.Sh)(t:Int):Fn 176 [ay b o 0,iI t] [bi b o s,dH s.rP s.rC 3 s.roots] (ap (.tuple #[iI (s.gm t),ax 102 (s.nD t)]) [bi b o s,dH s.rP s.rC 3 s.roots]):=by
 have hr4:=hI.roots.1;refine Spec.g 28 [0,1,4,5,11,19] func176 fun W=> ?_;apply UV 8<;>intro h1;rotate_left
 apply (cd)<;>intro h2;rotate_left
 ·apply ld .aa (nR _);apply (cd)<;>intro h3
  ·refine fg (pz 2) ?_;have e:s.nD t=2:=by unfold FF.nD;rw[if_neg og,if_pos og]
   exact⟨by rw[show s.gm t=0 from by unfold FF.gm;rw[if_neg og],e];rfl,rfl⟩
  ·refine ld .aa (nR _) (bV (.ao .aa) og ?_);intro g hg;rw[hg];refine sd (Cx (.ao .aa) (ints_at) (bC rfl rfl rfl (ai (pz 2) rfl ?_)));have e:s.nD t=0:=by unfold FF.nD;rw[if_neg og,if_neg og]
   exact⟨by rw[show s.gm t=jK s.roots t from by unfold FF.gm;rw[if_pos e],e];rfl,rfl⟩
 all_goals
  refine fg (pz 2) ?_;have e:s.nD t=1:=by unfold FF.nD;rw[if_pos og]
  exact⟨by rw[show s.gm t=0 from by unfold FF.gm;rw[if_neg og],e];rfl,rfl⟩
def wm(z:Int):∀ w,(Instr.buildSlice 55 1 #[(0,iI z)]).run Tryz.prog w= .ok (.slice (some ⟨w.heap.size,0,none⟩) 1 1) (w.alloc (.cells #[iI z] 3)):=fun w=>kq
def oI:fE Tryz.prog 211=some 4:=kq
def YE:Fn 99 [] [] (fun v H1=>∃ b,v=ay b 0 0/\H1=[bi b 0 FC.dR,g6 FC.dR,g7 FC.dR,dH (FC.rP FC.dR) (FC.rC FC.dR) 3 (FC.toFF FC.dR).roots]):=by
 refine Spec.g 3 [0] func99 fun W=> ?_;refine XO.v (V.build (vs:= #[]) rfl (v:=.agg MB) fun _=>kq) rfl (gO ?_);refine XO.box (m:=321) (C:=aC FC.dR) rfl OW TX rfl ?_;intro p;apply XO.mono fun _ bR=>JQ bR;apply gO;refine bL (pk [3,0,0,0]) ?_;exact⟨_,rfl,rfl⟩
def R2(b o:Nat)(s:FC)(hI:s.toFF.Sh):Fn 101 [ay b o 0] [bi b o s,.aV au (s.bA 9),.aV au (s.bB 3),dH s.rP s.rC 3 s.roots] (fun v H1=>∃ t:FC,v= .tuple #[iI s.yQ,ax 102 s.rA]/\t.toFF=s.Al/\H1=[bi b o t,g6 t,g7 t,dH (FC.rP t) (FC.rC t) 3 (FC.toFF t).roots]):=by
 have hr4:=hI.roots.1;refine Spec.g 50 [0,2,3,4,5,11,25] func101 fun W=> ?_;apply ld .aa (nR _);apply (cd)<;>intro h1
 ·refine fg (pz 4) ?_;have e:s.rA=4:=by unfold FF.rA;rw[if_pos og]
  exact⟨s,by rw[show s.yQ=0 from by unfold FF.yQ;rw[if_neg og],e];rfl,by unfold FF.Al;rw[if_neg og],rfl⟩
 ·apply ld .aa (nR _);refine XO.v (V.build (vs:= #[(0,iI 2),(1,iI (s.roots.length)),(2,iI 1)]) rfl (v:=.agg (Av 2 s.roots.length 1 0)) fun _=>kq) rfl (gO ?_);refine ca (xB _ _ _ _ _ _ _) (pz 3) ?_;rintro _ _ (⟨h2,rfl,rfl⟩ | ⟨h2,rfl,rfl⟩)
  ·try dsimp only[mm,Ca,Cb,Cc,Cd,Ce,Cf,Cg,Ci,Cj,xx,xy,xz,xA]
   apply gO;refine fg (pz 4) ?_;have e:s.rA=4:=by unfold FF.rA;rw[if_neg og,if_pos aq]
   exact⟨s,by rw[show s.yQ=0 from by unfold FF.yQ;rw[if_neg og],e]<;>rfl,by unfold FF.Al;rw[if_neg og],rfl⟩
  ·try dsimp only[mm,Ca,Cb,Cc,Cd,Ce,Cf,Cg,Ci,Cj,xx,xy,xz,xA]
   have f:=FF.Aq (show ¬s.free<0 by assumption);apply gO;apply (sd);apply st .aa (ua _ _ og _) rfl;apply ld .aa (nR _);apply XO.buildSlice (A:= #[iI _]) (vs:= #[(0,iI _)]) rfl (wm _) rfl rfl;intro h3;apply gO;apply lY (e:=3) rfl rfl underlying55 kq (.t4 .aa) .aa (by show s.roots.length+1<=_;omega) rfl;intro p1 c1;apply gO;apply st (.t2 .aa) (GW _ (s.roots++[s.free]) _ _ _ rfl) rfl;apply ld (.t2 .aa) (nR _);refine sd ?_ (by simp only[List.length_append,List.length_singleton];omega);refine bC rfl rfl rfl (ai (pk [2,2,2,0]) rfl ?_);try dsimp only[aR,aQ,bH,bQ]
   have e:s.rA=0:=by unfold FF.rA;rw[if_neg og,if_neg aq]
   refine⟨_,?_,?_,rfl⟩
   ·rw[show s.yQ=s.roots.length from by unfold FF.yQ;rw[if_pos e],e];grind [ax]
   ·unfold FF.Al;rw[if_pos e,<-FF.abE s.toFF s.free 2 _ 1 0 s.free];rfl
def PH(b o:Nat)(s:FC)(hI:s.toFF.Sh)(n:Int):Fn 217 [ay b o 0,iI n] [bi b o s] (ap (.tuple #[.agg (s.Z3 n).c9,ax 102 (s.cQ n 0)]) [bi b o s]):=by
 refine Spec.g 35 [0,1,4,5,6,7,12] func217 fun W=> ?_;apply XO.bP (z:=.agg NV.zero.c9) (m:=4) (C:=o8 NV.zero) (pO _);intro bg;apply gO;refine cq (Ck _ _ _ _) (pk [1]) ?_;apply (cd)<;>intro h1
 ·have i0:s.cQ n 0≠0:=aq;refine XO.v (V.build (vs:= #[]) rfl (v:=.agg NV.zero.c9) fun _=>kq) rfl (gO ?_);apply gu (.ao .aa) (nh _ _) rfl ⟨rfl,rfl⟩;refine dU rfl (.agg rfl (.ao .aa) (sE _) kq oI) (.tmp rfl) (ai .h1 rfl ?_);grind [aR,aQ,FF.Z3]
 ·obtain⟨i1,i2,i3⟩:=FF.Am (show s.cQ n 0=0 by simpa using h1);have i0:s.cQ n 0=0:=by simpa using h1
  apply (sd);apply mP .aa (TZ _ _ og);apply XO.bP (z:=.agg (Av 0 0 0 0)) (m:=8) (C:=aC.cell (H4 0 0 0 0)) (MA 0 0 0 0);intro bx;apply gO;apply gu .aa (Xz _ _) rfl ⟨rfl,rfl⟩;apply ld .aa (abG _);apply ld .aa (abH _);apply ld .aa (abI _);apply ld .aa (abJ _);apply ld .aa (abK _);refine XO.v (V.build (vs:= #[(0,iI (s.aI n)),(1,iI (s.bO n)),(2,iI (s.bu n)),(3,iI (max ((s.data n).size:Int) ((s.kids n).length:Int)))]) rfl (v:=.agg (NV.mk (s.aI n) (s.bO n) (s.bu n) (max ((s.data n).size:Int) ((s.kids n).length:Int))).c9) fun _=>kq) rfl (gO ?_);apply gu (.t2 .aa) (nh _ _) rfl ⟨rfl,rfl⟩;refine dU rfl (.agg rfl (.t2 .aa) (sE _) kq oI) (.tmp rfl) (ai (pk [1]) rfl ?_);grind [aR,aQ,bQ,FF.Z3,ax]
def agy(b o:Nat)(s:FC)(hI:s.toFF.Sh)(n:Int):Fn 216 [ay b o 0,iI n] [bi b o s,.aV au (s.bA 9),.aV au (s.bB 3)] (fun v H1=>(s.cQ n 2≠0/\v= .tuple #[.slice none 0 0,ax 102 (s.cQ n 2)]/\H1=[bi b o s,g6 s,g7 s])\/(s.cQ n 2=0/\∃ p c,v= .tuple #[.slice p (s.aJ n).length c,ax 102 0]/\H1=kR p c 9 (s.aJ n)::[bi b o s,g6 s,g7 s])):=by
 refine Spec.g 21 [0,1,4,5,6,11] func216 fun W=> ?_;refine cq (RY _ _ _ _) .h1 ?_;apply (cd)<;>intro h1
 ·have i0:s.cQ n 2≠0:=aq;refine fg (pz 3) ?_;grind [aR,aQ,bQ]
 ·obtain⟨i1,i2,i3,i4⟩:=FF.jZ (show s.cQ n 2=0 by simpa using h1);have i0:s.cQ n 2=0:=by simpa using h1
  obtain⟨hr,hk,h8,_⟩:=hI.jY n og og;refine sd (ld .aa (fN _ _) (XR.mono (fun _ bR=>oE (s:=s) (z:=n) og (pk [1]) bR) ?_));refine ca (acp _ _ _ og) .h1 ?_;rintro _ _ ⟨p1,c1,rfl,rfl⟩;apply gO;refine XR.mono (fun _ bR=>mE (s:=s) s (z:=n) og rfl (da _ rfl).symm (da _ rfl).symm (da _ rfl).symm (pk [1,1]) bR) (bC rfl rfl rfl (ai (pk [1,1,0,0]) rfl ?_));grind [aR,aQ,bQ,ax]
def Y5(b o:Nat)(s:FC)(hI:s.toFF.Sh)(n:Int)(x:ByteArray)(k:Int)(hx:x.size<=9223372036854775807):Fn 207 [ay b o 0,iI n,.string x,iI k] [bi b o s,.aV au (s.bA 9),.aV au (s.bB 3)] (fun v H1=>v= .tuple #[iI (s.ql n x k),ax 102 (s.nF n x k)]/\∃ t:FC,t.toFF=s.make n x k/\t.rP=s.rP/\t.rC=s.rC/\H1=[bi b o t,g6 t,g7 t]):=by
 refine Spec.g 50 [0,1,2,3,8,9,10,11,17,24,42] func207 fun W=> ?_;apply UV 14<;>intro h1
 apply (cd)<;>intro h2
 ·refine fg (pz 3) ?_;have e:s.nF n x k=1:=by unfold FF.nF;rw[if_pos og]
  exact⟨by rw[show s.ql n x k=0 from by unfold FF.ql;rw[if_neg og],e];rfl,s,by unfold FF.make;rw[if_neg og],rfl,rfl,rfl⟩
 refine cq (F2 _ _ _ hI _ _ aq) (pz 3) ?_;apply (cd)<;>intro h3
 have m0:s.fD n x≠0:=aq;refine fg (pz 3) ?_;have e:s.nF n x k=s.fD n x:=by unfold FF.nF;rw[if_neg og,if_pos og]
 rotate_left
 obtain⟨m1,m2,m3,m4⟩:=FF.xa (show s.fD n x=0 by simpa using h3);obtain⟨i1,i2,i3,i4⟩:=FF.jZ m1;have i5:=i4 og;have m0:s.fD n x=0:=by simpa using h3
 refine sd (ld .aa (il _ _) (XO.v (V.build (vs:= #[(0,iI k),(1,iI (s.ed n)),(2,iI 1),(7,iI n)]) rfl (v:=.agg (Av k (s.ed n) 1 n)) fun _=>kq) rfl (gO ?_)));refine ca (xB _ _ _ _ _ _ _) (pz 3) ?_;rintro _ _ (⟨h4,rfl,rfl⟩ | ⟨h4,rfl,rfl⟩)
 try dsimp only[mm,Ca,Cb,Cc,Cd,Ce,Cf,Cg,Ci,Cj,xx,xy,xz,xA]
 apply gO;refine fg (pz 3) ?_;have e:s.nF n x k=4:=by unfold FF.nF;rw[if_neg og,if_neg og,if_pos aq]
 rotate_left;rotate_left
 refine cq (F2 _ _ _ hI _ _ aq) (pz 3) ?_;apply (cd)<;>intro h5
 have m0:s.fD n x≠0:=aq;refine fg (pz 3) ?_;have e:s.nF n x k=s.fD n x:=by unfold FF.nF;rw[if_neg og,if_pos og]
 rotate_left
 obtain⟨m1,m2,m3,m4⟩:=FF.xa (show s.fD n x=0 by simpa using h5);obtain⟨i1,i2,i3,i4⟩:=FF.jZ m1;have i5:=i4 og;have m0:s.fD n x=0:=by simpa using h5
 refine sd (ld .aa (il _ _) (XO.v (V.build (vs:= #[(0,iI k),(1,iI (s.ed n)),(2,iI 1),(7,iI n)]) rfl (v:=.agg (Av k (s.ed n) 1 n)) fun _=>kq) rfl (gO ?_)));refine ca (xB _ _ _ _ _ _ _) (pz 3) ?_;rintro _ _ (⟨h6,rfl,rfl⟩ | ⟨h6,rfl,rfl⟩)
 try dsimp only[mm,Ca,Cb,Cc,Cd,Ce,Cf,Cg,Ci,Cj,xx,xy,xz,xA]
 apply gO;refine fg (pz 3) ?_;have e:s.nF n x k=4:=by unfold FF.nF;rw[if_neg og,if_neg og,if_pos aq]
 rotate_left;rotate_left;all_goals first
  | try dsimp only[mm,Ca,Cb,Cc,Cd,Ce,Cf,Cg,Ci,Cj,xx,xy,xz,xA]
    have f:=FF.Aq (show ¬s.free<0 by assumption);have UE:(s.yU s.free k (s.ed n) 1 n).toFF.Sh:=hI.km _ _ _ _ _ og;apply gO;refine ca (F3 _ _ _ UE _ _ _) (pz 3) ?_;rintro _ _ ⟨rfl,t,ht,hp,hc,rfl⟩;apply gO;refine fg (pz 3) ?_;have e:s.nF n x k=0:=by unfold FF.nF;rw[if_neg og,if_neg og,if_neg aq]
    exact⟨by rw[show s.ql n x k=s.free from by unfold FF.ql;rw[if_pos e],e];rfl,t,by rw[ht];unfold FF.make;rw[if_pos e];rfl,hp,hc,rfl⟩
  | exact⟨by rw[show s.ql n x k=0 from by unfold FF.ql;rw[if_neg og],e]<;>rfl,s,by unfold FF.make;rw[if_neg og],rfl,rfl,rfl⟩
def agz(b o:Nat)(s:FC)(hI:s.toFF.Sh)(k n:Int)(x:ByteArray)(hx:x.size<=9223372036854775807):Fn 212 [ay b o 0,iI k,iI n,.string x] [bi b o s,.aV au (s.bA 9),.aV au (s.bB 3)] (fun v H1=>v=ax 102 (s.vJ k n x)/\∃ t:FC,t.toFF=s.EW k n x/\t.rP=s.rP/\t.rC=s.rC/\H1=[bi b o t,g6 t,g7 t]):=by
 refine Spec.g 55 [0,1,2,3,8,9,14,20,36] func212 fun W=> ?_;refine cq (PY _ _ _ _) .h1 ?_;apply (cd)<;>intro h1
 obtain⟨j1,j2,j3,j4⟩:=FF.jZ (show s.cQ k 1=0 by assumption);have j0:s.cQ k 1=0:=aq;refine cq (F2 _ _ _ hI _ _ aq) (pz 3) ?_;apply (cd)<;>intro h2
 refine bL (pz 3) ?_;try dsimp only[aR,aQ,bH,bQ]
 have e:s.vJ k n x=s.fD n x:=by unfold FF.vJ;rw[if_neg og,if_pos og]
 rotate_left
 ·skip;refine rq [0,1,2,3,4,5,6,7,8,9,10,11,12,13,14] mixed ?_;have m0:s.fD n x=0:=og;obtain⟨m1,m2,m3,m4⟩:=FF.xa m0;obtain⟨i1,i2,i3,i4⟩:=FF.jZ m1;apply (sd);apply ld .aa (il _ _);apply (sd);apply ld .aa (il _ _);apply (cd)<;>intro h3
  ·refine bL (pz 3) ?_;have e:s.vJ k n x=11:=by unfold FF.vJ;rw[if_neg og,if_neg og,if_pos aq]
   exact⟨by rw[e]<;>rfl,s,by unfold FF.EW;rw[if_neg og],rfl,rfl,rfl⟩
  ·refine ca (F3 _ _ _ hI _ _ _) (pz 3) ?_;rintro _ _ ⟨rfl,t,ht,hp,hc,rfl⟩;apply gO;refine rq [0,1,2,3,4,5,6,7,8,9,10,11,12] mixed ?_;have hln:t.bO k=s.bO k:=congrFun (congrArg FF.bO ht) k;have hlb:=hI.num k og og;apply (sd);apply ld .aa (lW _ _);apply (sd);apply (sd);apply st .aa (oW _ _ og _) rfl;refine bL (pz 3) ?_;have e:s.vJ k n x=0:=by unfold FF.vJ;rw[if_neg og,if_neg og,if_neg og]
   exact⟨by rw[e]<;>rfl,({t with bO:=ad t.bO k (t.bO k+1)} :FC),by rw[E3 ht,hln];unfold FF.EW;rw[if_pos e];rfl,hp,hc,rfl⟩
 have j0:s.cQ k 1≠0:=aq;apply cdT rfl aq;refine bL (pz 3) ?_;try dsimp only[aR,aQ,bH,bQ]
 have e:s.vJ k n x=s.cQ k 1:=by unfold FF.vJ;rw[if_pos og]
 rotate_left;all_goals exact⟨by rw[e],s,by unfold FF.EW;rw[if_neg og],rfl,rfl,rfl⟩
end Go.X.Tr
