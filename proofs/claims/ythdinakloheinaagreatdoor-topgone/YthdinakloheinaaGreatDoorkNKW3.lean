import Derived.Test.YthdinakloheinaaGreatDoorkNW3
import Derived.Ground.NamesProg
import Derived.Shelf.Lays
set_option linter.all false
set_option maxRecDepth 20000
set_option maxHeartbeats 16000000
open Go.Proofs.Tryz
namespace Go.X.Tr
open Go Go.Proofs Go.X
def wv(b o:Nat)(s:FC)(hI:s.toFF.Sh)(n:Int):Fn 123 [ay b o 0,iI n] [bi b o s,.aV au (s.bA 9),.aV au (s.bB 3)] (fun v H1=>v=ax 102 (s.cQ n 0)/\∃ t:FC,t.toFF=s.dX n/\t.rP=s.rP/\t.rC=s.rC/\H1=[bi b o t,g6 t,g7 t]):=by
 refine Spec.g 24 [0,1,4,5,10] func123 fun W=> ?_;refine cq (Ck _ _ _ _) .h1 ?_;apply (cd)<;>intro h1
 ·obtain⟨i1,i2,i3⟩:=FF.Am (show s.cQ n 0=0 by simpa using h1);have i0:s.cQ n 0=0:=by simpa using h1
  have hnb:=hI.num n og og;refine rq [0,1,2,3,4,5,6,7,8,9,10,11,12] mixed ?_;apply (sd);apply ld .aa (la _ _);apply (sd);apply (sd);apply st .aa (vK _ _ og _) rfl;refine bL (pz 3) ?_;exact⟨rfl,({s with bu:=ad s.bu n (s.bu n+1)} :FC),by rw[abF rfl];unfold FF.dX;rw[if_pos i0],rfl,rfl,rfl⟩
 ·have i0:s.cQ n 0≠0:=aq;refine bL (pz 3) ?_;exact⟨rfl,s,by unfold FF.dX;rw[if_neg i0],rfl,rfl,rfl⟩
def IQ(b o:Nat)(s:FC)(hI:s.toFF.Sh)(n:Int):Fn 144 [ay b o 0,iI n] [bi b o s,.aV au (s.bA 9),.aV au (s.bB 3)] (fun v H1=>v=ax 102 (s.EX n)/\∃ t:FC,t.toFF=s.lI n/\t.rP=s.rP/\t.rC=s.rC/\H1=[bi b o t,g6 t,g7 t]):=by
 refine Spec.g 36 [0,1,4,5,10,19] func144 fun W=> ?_;refine cq (Ck _ _ _ _) .h1 ?_;apply (cd)<;>intro h1
 ·have i0:s.cQ n 0≠0:=aq;refine bL (pz 3) ?_;try dsimp only[aR,aQ,bH,bQ]
  have e:s.EX n=s.cQ n 0:=by unfold FF.EX;rw[if_pos og]
  exact⟨by rw[e],s,by unfold FF.lI;rw[if_neg og],rfl,rfl,rfl⟩
 ·obtain⟨i1,i2,i3⟩:=FF.Am (show s.cQ n 0=0 by simpa using h1);have i0:s.cQ n 0=0:=by simpa using h1
  have hnb:=hI.num n og og;apply (sd);apply ld .aa (la _ _);apply (cd)<;>intro h2
  ·refine bL (pz 3) ?_;have e:s.EX n=8:=by unfold FF.EX;rw[if_neg og,if_pos og]
   exact⟨by rw[e]<;>rfl,s,by unfold FF.lI;rw[if_neg og],rfl,rfl,rfl⟩
  ·refine rq [0,1,2,3,4,5,6,7,8,9,10,11,12] mixed ?_;apply (sd);apply ld .aa (la _ _);apply (sd);apply (sd);apply st .aa (vK _ _ og _) rfl;refine ca (PZ _ _ ({s with bu:=ad s.bu n (s.bu n-1)} :FC) n) (pz 3) ?_;rintro _ _ ⟨rfl,t,ht,hp,hc,rfl⟩;apply gO;refine bL (pz 3) ?_;have e:s.EX n=0:=by unfold FF.EX;rw[if_neg og,if_neg og]
   exact⟨by rw[e]<;>rfl,t,by rw[ht];unfold FF.lI;rw[if_pos e],hp,hc,rfl⟩
def Y6(b o:Nat)(s:FC)(hI:s.toFF.Sh)(n:Int)(x:ByteArray):Fn 210 [ay b o 0,iI n,.string x] [bi b o s,.aV au (s.bA 9),.aV au (s.bB 3)] (fun v H1=>v=ax 102 (s.dP n x)/\∃ t:FC,t.toFF=s.eh n x/\t.rP=s.rP/\t.rC=s.rC/\H1=[bi b o t,g6 t,g7 t]):=by
 refine Spec.g 60 [0,1,2,6,7,8,9,18,44] func210 fun W=> ?_;refine cq (zh _ _ _ hI _ _) (pz 3) ?_;apply (cd)<;>intro h1
 ·have f0:s.fX n x≠0:=aq;refine bL (pz 3) ?_;try dsimp only[aR,aQ,bH,bQ]
  have e:s.dP n x=s.fX n x:=by unfold FF.dP;rw[if_pos og]
  exact⟨by rw[e],s,by unfold FF.eh;rw[if_neg og],rfl,rfl,rfl⟩
 obtain⟨i1,i2,i3,k1,k2,hh⟩:=hI.gK (show s.fX n x=0 by simpa using h1);have f0:s.fX n x=0:=by simpa using h1
 have hnb:=hI.num (s.bS n x) og og;have hkr:=hI.jY (s.bS n x) og og;apply (sd);apply ld .aa (fK _ _);apply UV 30<;>intro h2
 apply ld .aa (ng _ _);apply UV 37<;>intro h3;rotate_left
 apply ld .aa (la _ _);apply (cd)<;>intro h4;rotate_left;rotate_left;rotate_left;all_goals first
  | refine ca (R1 _ _ _ hI _ _ og aq) (pz 3) ?_;rintro _ _ ⟨rfl,t,ht,hp,hc,rfl⟩;have hln:t.bO (s.bS n x)=s.bO (s.bS n x):=congrFun (congrArg FF.bO ht) _;apply gO;apply ld .aa (lW _ _);apply (sd);apply st .aa (oW _ _ og _) rfl;refine ca (PZ _ _ ({t with bO:=ad t.bO (s.bS n x) (t.bO (s.bS n x)-1)} :FC) (s.bS n x)) (pz 3) ?_;rintro _ _ ⟨rfl,t2,RO,NK,C7,rfl⟩;apply gO;refine bL (pz 3) ?_;have e:s.dP n x=0:=by unfold FF.dP;rw[if_neg og,if_neg (by unfold FF.OQ;omega)]
    exact⟨by rw[e]<;>rfl,t2,by rw[RO,E3 ht,hln];unfold FF.eh;rw[if_pos e];rfl,NK.trans hp,C7.trans hc,rfl⟩
  | refine bL (pz 3) ?_;have e:s.dP n x=5:=by unfold FF.dP;rw[if_neg og,if_pos (by unfold FF.OQ;exact⟨aq,og⟩)]
    exact⟨by rw[e]<;>rfl,s,by unfold FF.eh;rw[if_neg og],rfl,rfl,rfl⟩
def agA(b o:Nat)(s:FC)(hI:s.toFF.Sh)(n a m:Int):Fn 140 [ay b o 0,iI n,iI a,iI m] [bi b o s] (ap (.tuple #[.string (s.lH n a m),ax 102 (s.nf n a m)]) [bi b o s]):=by
 refine Spec.g 47 [0,1,2,3,8,9,10,11,16,23] func140 fun W=> ?_;refine cq (PY _ _ _ _) .h1 ?_;apply (cd)<;>intro h1
 have i0:s.cQ n 1≠0:=aq;refine fg .h1 ?_;have e:s.nf n a m=s.cQ n 1:=by unfold FF.nf;rw[if_pos og]
 rotate_left
 obtain⟨i1,i2,i3,i4⟩:=FF.jZ (show s.cQ n 1=0 by simpa using h1);have i0:s.cQ n 1=0:=by simpa using h1
 have hd:=hI.data n og og;apply UV 20<;>intro h2
 refine fg .h1 ?_;have e:s.nf n a m=1:=by unfold FF.nf;rw[if_neg og,if_pos og]
 rotate_left
 apply (cd)<;>intro h3
 refine fg .h1 ?_;have e:s.nf n a m=1:=by unfold FF.nf;rw[if_neg og,if_pos og]
 rotate_left
 ·apply (sd);apply ld .aa (qm _ _);apply (sd);apply (sd);apply (sd);refine fg .h1 ?_;have e:s.nf n a m=0:=by unfold FF.nf;rw[if_neg og,if_neg og]
  exact⟨by rw[show s.lH n a m=_ from by unfold FF.lH;rw[if_pos e],e];rfl,rfl⟩
 all_goals exact⟨by rw[show s.lH n a m=ByteArray.empty from by unfold FF.lH;rw[if_neg og],e];rfl,rfl⟩
def agB(b o:Nat)(s:FC)(hI:s.toFF.Sh)(d:Int->Nat)(hc:∀ k,s.toFF.Ch d k)(n:Int)(x:ByteArray)(to:Int)(y:ByteArray)(hy:y.size<=9223372036854775807):Fn 211 [ay b o 0,iI n,.string x,iI to,.string y] [bi b o s,.aV au (s.bA 9),.aV au (s.bB 3)] (fun v H1=>v=ax 102 (s.fl d n x to y)/\∃ t:FC,t.toFF=s.move d n x to y/\t.rP=s.rP/\t.rC=s.rC/\H1=[bi b o t,g6 t,g7 t]):=by
 refine Spec.g 95 [0,1,2,3,4,10,11,12,21,26,42,57,68,87] func211 fun W=> ?_;refine cq (zh _ _ _ hI _ _) (pz 3) ?_;apply (cd)<;>intro h1
 obtain⟨i1,i2,i3,k1,k2,hh⟩:=hI.gK (show s.fX n x=0 by simpa using h1);have f0:s.fX n x=0:=by simpa using h1
 refine cq (RY _ _ _ _) .h1 ?_;apply (cd)<;>intro h2
 refine bL (pz 3) ?_;try dsimp only[aR,aQ,bH,bQ]
 have e0:s.gx d n x to=s.cQ to 2:=by unfold FF.gx;rw[if_neg og,if_pos og]
 rotate_left
 obtain⟨t1,t2,_,t3⟩:=FF.jZ (show s.cQ to 2=0 by simpa using h2);have t3:=t3 og;have t0:s.cQ to 2=0:=by simpa using h2
 refine rq [0,1,2,3,4,5,6,7,8,9,10,11,12,13,14] mixed (sd (ld .aa (il _ _) (sd (ld .aa (il _ _) ?_))));apply (cd)<;>intro h3
 refine bL (pz 3) ?_;have e0:s.gx d n x to=11:=by unfold FF.gx;rw[if_neg og,if_neg og,if_pos aq]
 rotate_left
 refine sd (ld .aa (fK _ _) ?_);apply UV 52<;>intro h4
 refine cq (acq _ _ _ d _ _ ⟨og,og,t3⟩ (hc _)) .h1 ?_;apply (yx)<;>intro h5
 try simp only[sb]at h5
 have hun:FF.Mu d s.toFF to (s.bS n x)=true:=by simpa using h5
 refine bL (pz 3) ?_;have e0:s.gx d n x to=5:=by unfold FF.gx;rw[if_neg og,if_neg og,if_neg og,if_pos ⟨aq,hun⟩]
 rotate_left
 try simp only[sb]at h5
 have hun:FF.Mu d s.toFF to (s.bS n x)=false:=by simpa using h5
 refine ca (R1 _ _ _ hI _ _ og aq) (pz 3) ?_;rintro _ _ ⟨rfl,t,ht,hp,DI,rfl⟩;have UE:t.toFF.Sh:=by rw[ht];exact hI.eZ i1 i2 hh
 apply gO;refine cq (F2 _ _ _ UE _ _ aq) (pz 3) ?_;apply (cd)<;>intro h6
 have hm:(s.eZ n x).fD to y≠0:=by rw[<-ht];assumption
 refine ca (F3 _ _ _ UE _ _ _) (pz 3) ?_;rintro _ _ ⟨rfl,t2,RO,NK,C7,rfl⟩;apply gO;refine bL (pz 3) ?_;try dsimp only[aR,aQ,bH,bQ]
 have e0:s.gx d n x to=0:=by unfold FF.gx;rw[if_neg og,if_neg og,if_neg og,if_neg fun q=>absurd q.2 (by rw[hun];simp)]
 rotate_left
 ·have hm:(s.eZ n x).fD to y=0:=by rw[<-ht];simpa using h6
  refine ca (F3 _ _ _ UE _ _ _) (pz 3) ?_;rintro _ _ ⟨rfl,t2,RO,NK,C7,rfl⟩;have KN:t2.aI (s.bS n x)=s.aI (s.bS n x):=(congrFun (congrArg FF.aI RO) _).trans (congrFun (congrArg FF.aI ht) _);apply gO;refine sd (ld .aa (fK _ _) ?_);apply (cd)<;>intro h7
  ·refine sd (st .aa (ua _ _ og _) rfl (aO rfl rfl (ai (pz 3) rfl ?_)));have e0:s.gx d n x to=0:=by unfold FF.gx;rw[if_neg og,if_neg og,if_neg og,if_neg fun q=>absurd q.2 (by rw[hun];simp)]
   have e:s.fl d n x to y=(s.eZ n x).fD to y:=by unfold FF.fl;rw[if_neg og]
   exact⟨by rw[e,hm];rfl,({t2 with up:=ad t2.up (s.bS n x) to} :FC),by rw[aiL RO,ht];unfold FF.move;rw[if_neg og,if_neg og,if_pos og];rfl,NK.trans hp,C7.trans DI,rfl⟩
  ·refine bL (pz 3) ?_;omega
 refine ca (R1 _ _ _ hI _ _ og aq) (pz 3) ?_;rintro _ _ ⟨rfl,t,ht,hp,DI,rfl⟩;have UE:t.toFF.Sh:=by rw[ht];exact hI.eZ i1 i2 hh
 apply gO;refine cq (F2 _ _ _ UE _ _ aq) (pz 3) ?_;apply (cd)<;>intro h8
 have hm:(s.eZ n x).fD to y≠0:=by rw[<-ht];assumption
 refine ca (F3 _ _ _ UE _ _ _) (pz 3) ?_;rintro _ _ ⟨rfl,t2,RO,NK,C7,rfl⟩;apply gO;refine bL (pz 3) ?_;try dsimp only[aR,aQ,bH,bQ]
 have e0:s.gx d n x to=0:=by unfold FF.gx;rw[if_neg og,if_neg og,if_neg og,if_neg fun q=>absurd q.1 aq]
 rotate_left
 ·have hm:(s.eZ n x).fD to y=0:=by rw[<-ht];simpa using h8
  refine ca (F3 _ _ _ UE _ _ _) (pz 3) ?_;rintro _ _ ⟨rfl,t2,RO,NK,C7,rfl⟩;have KN:t2.aI (s.bS n x)=s.aI (s.bS n x):=(congrFun (congrArg FF.aI RO) _).trans (congrFun (congrArg FF.aI ht) _);apply gO;refine sd (ld .aa (fK _ _) ?_);apply (cd)<;>intro h9
  ·refine sd (st .aa (ua _ _ og _) rfl (aO rfl rfl (ai (pz 3) rfl ?_)));omega
  ·refine bL (pz 3) ?_;have e0:s.gx d n x to=0:=by unfold FF.gx;rw[if_neg og,if_neg og,if_neg og,if_neg fun q=>absurd q.1 aq]
   have e:s.fl d n x to y=(s.eZ n x).fD to y:=by unfold FF.fl;rw[if_neg og]
   exact⟨by rw[e,hm];rfl,t2,by rw[RO,ht];unfold FF.move;rw[if_neg og,if_neg og,if_neg og],NK.trans hp,C7.trans DI,rfl⟩
 have f0:s.fX n x≠0:=aq;refine cdT rfl aq (aO rfl rfl (ai (pz 3) rfl ?_));try dsimp only[aR,aQ,bH,bQ]
 have e0:s.gx d n x to=s.fX n x:=by unfold FF.gx;rw[if_pos og]
 rotate_left;all_goals first
  | have e:s.fl d n x to y=(s.eZ n x).fD to y:=by unfold FF.fl;rw[if_neg og]
    exact⟨by rw[e,ht],t2,by rw[RO,ht];unfold FF.move;rw[if_neg og,if_pos og],NK.trans hp,C7.trans DI,rfl⟩
  | have e:s.fl d n x to y=s.gx d n x to:=by unfold FF.fl;rw[if_pos og]
    exact⟨by rw[e,e0];rfl,s,by unfold FF.move;rw[if_pos og],rfl,rfl,rfl⟩
  | have e:s.fl d n x to y=s.gx d n x to:=by unfold FF.fl;rw[if_pos og]
    exact⟨by rw[e,e0],s,by unfold FF.move;rw[if_pos og],rfl,rfl,rfl⟩
def acs(b o:Nat)(s:FC)(hI:s.toFF.Sh)(n a:Int)(x:ByteArray)(hx:x.size<=9223372036854775807):Fn 137 [ay b o 0,iI n,iI a,.string x] [bi b o s,.aV au (s.bA 9),.aV au (s.bB 3)] (fun v H1=>v=ax 102 (s.fC n a x)/\∃ t:FC,t.toFF=s.cC n a x/\t.rP=s.rP/\t.rC=s.rC/\H1=[bi b o t,g6 t,g7 t]):=by
 refine Spec.g 68 [0,1,2,3,8,9,10,15,18,28,31] func137 fun W=> ?_;refine cq (PY _ _ _ _) .h1 ?_;apply (cd)<;>intro h1
 ·have i0:s.cQ n 1≠0:=aq;refine bL (pz 3) ?_;try dsimp only[aR,aQ,bH,bQ]
  have e:s.fC n a x=s.cQ n 1:=by unfold FF.fC;rw[if_pos og]
  exact⟨by rw[e],s,by unfold FF.cC;rw[if_neg og],rfl,rfl,rfl⟩
 obtain⟨i1,i2,i3,i4⟩:=FF.jZ (show s.cQ n 1=0 by simpa using h1);have i0:s.cQ n 1=0:=by simpa using h1
 have hd:=hI.data n og og;apply (cd)<;>intro h2
 ·refine bL (pz 3) ?_;have e:s.fC n a x=1:=by unfold FF.fC;rw[if_neg og,if_pos og]
  exact⟨by rw[e]<;>rfl,s,by unfold FF.cC;rw[if_neg og],rfl,rfl,rfl⟩
 apply UV 22<;>intro h3;rotate_left
 apply (sd);apply (cd)<;>intro h4;rotate_left
 ·apply (cd)<;>intro h5
  ·refine bL (pz 3) ?_;have e:s.fC n a x=0:=by unfold FF.fC;rw[if_neg og,if_neg og,if_neg og]
   exact⟨by rw[e]<;>rfl,s,by unfold FF.cC;rw[if_neg fun q=>q.2 aq],rfl,rfl,rfl⟩
  ·have q8:x.size≠0:=fun q=>(by assumption:¬x=⟨#[]⟩) (Ak.2 q);have YG:x≠ByteArray.empty:=aq;apply (sd);apply ld .aa (qm _ _);apply (sd);apply XO.SK rfl rfl og kq rfl;intro bb;apply gO;apply (sd);apply ld (.ao .aa) (qm _ _);apply XO.QB rfl rfl kq og og .aa rfl rfl;apply gO;refine XO.v (SL rfl rfl kq og) rfl (gO ?_);apply XO.QB rfl rfl kq og og .aa rfl rfl;apply gO;refine rq [0,1,2,3,4,5,6,7,8] mixed ?_;refine XO.l (aaF (B:=Z2 (s.data n) a.toNat x) rfl (by rw[FF.Ar];omega) (fp .aa) ⟨by rw[FF.Ar];omega,fun i h=>XA _ _ _ i h⟩ kq underlying9) rfl (gO ?_);apply (sd);apply st (.ao .aa) (EY _ _ og _) rfl;refine aO rfl rfl (ai (pk [1,1,1]) rfl ?_);have e:s.fC n a x=0:=by unfold FF.fC;rw[if_neg og,if_neg og,if_neg og]
   exact⟨by rw[e]<;>rfl,({s with data:=ad s.data n (Z2 (s.data n) a.toNat x)} :FC),by unfold FF.cC;rw[if_pos ⟨e,YG⟩],rfl,rfl,rfl⟩
 all_goals
  refine bL (pz 3) ?_;have e:s.fC n a x=4:=by unfold FF.fC;rw[if_neg og,if_neg og,if_pos og]
  exact⟨by rw[e]<;>rfl,s,by unfold FF.cC;rw[if_neg og],rfl,rfl,rfl⟩
def acu(b o:Nat)(K:Int)(hK:K<=1000000)(s:PS)(hI:s.Inv K)(n:Int):Fn 193 [ay b o 0,iI n] [el b o s] (fun v H1=>((s.is n=0/\0<=n/\n<8)/\v= .tuple #[ay b o (0+0+n.toNat*3),.nilIface]/\H1=[el b o s])\/(s.is n≠0/\v= .tuple #[.pointer none,.iface 102 (iI (s.is n))]/\H1=[el b o s])):=by
 have b0:=hI.e0 n;have b1:=hI.e1 n;have bl:=hI.len n;refine Spec.g 35 [0,1,4,5,11,28] func193 fun W=> ?_;apply UV 8<;>intro h1;rotate_left
 apply (cd)<;>intro h2;rotate_left
 refine rq [0,1,2,3,4,5,6,7,8,9,10,11,12,13,14,15] mixed ?_;apply (sd);apply ld .aa (eC _ _);apply (sd);apply ld .aa (dZ _ _);apply (sd);apply (cd)<;>intro h3;rotate_left
 apply (sd);rotate_left;all_goals refine fg .h1 ?_;grind [aR,aQ,bQ,PS.is]
def F5(b o i:Nat):Fn 196 [ay b o i,.bool true] [] (ap (ay b o (i+2)) []):=by
 refine Spec.g 12 [0,1,4,5] func196 fun W=> ?_;refine bL .nil ?_;grind [aR,aQ]
def C8(b o i:Nat):Fn 196 [ay b o i,.bool false] [] (ap (ay b o (i+1)) []):=by
 refine Spec.g 12 [0,1,4,5] func196 fun W=> ?_;refine bL .nil ?_;grind [aR,aQ]
def agC(b o:Nat)(K:Int)(hK:K<=1000000)(s:PS)(hI:s.Inv K):Fn 135 [ay b o 0] [el b o s] (ap (.tuple #[iI s.make.1,ax 102 s.make.2.1]) [el b o s.make.2.2]):=by
 refine Spec.g 33 [0,2,3,4,5,6,23] func135 fun W=> ?_;refine wl (σ:=Int) (fun k=>(8-k).toNat) (fun k=>(0<=k/\k<=8)/\∀ j:Int,0<=j->j<k->s.e j 0+s.e j 1≠0) (fun k=>[(5,iI k),(0,ay b o 0)]) (fun k=>[el b o s]) (0) ?_ .h1 ?_
 ·grind
 intro k hk;obtain⟨hk,hn⟩:=hk;have b0:=hI.e0 k;have b1:=hI.e1 k;apply gC;apply (cd)<;>intro h1
 ·refine rq [0,1,2,3,4,5,6,7,8,9,10,11,12,13,14,15] mixed ?_;apply (sd);apply ld .aa (eC _ _);apply (sd);apply ld .aa (dZ _ _);apply (sd);apply (cd)<;>intro h2
  ·refine XO.v (V.build (vs:= #[(1,iI 1),(2,iI 1)]) rfl (v:=.agg #[.string ⟨#[]⟩,iI 1,iI 1]) fun _=>kq) rfl (gO ?_);apply (sd);apply gu .aa (TQ hI og aq) rfl ⟨rfl,rfl⟩;refine fg .h1 ?_;grind [aR,aQ,bQ,PS.TP,ax]
  ·apply (sd);refine wn (k+1) ?_ ?_ .h1;all_goals grind
 ·refine fg .h1 ?_;grind [aR,aQ,bQ,JH,ax]
def Nt(b o:Nat)(K:Int)(hK:K<=1000000)(s:PS)(hI:s.Inv K)(n:Int):Fn 145 [ay b o 0,iI n,.bool true] [el b o s] (ap (ax 102 (s.l7 n true (-1)).1) [el b o (s.l7 n true (-1)).2]):=by
 have b0:=hI.e0 n;have b1:=hI.e1 n;have bl:=hI.len n;have I9:(s.e n (HW true)=0)=(s.e n 1=0):=by simp[HW]
 refine Spec.g 45 [0,1,2,6,7,8,16,23,41] func145 fun W=> ?_;refine ca (acu _ _ K hK s hI _) .h1 ?_;rintro _ _ (⟨h1,rfl,rfl⟩ | ⟨h1,rfl,rfl⟩)
 obtain⟨h1,h2,h3⟩:=h1;apply gO;refine cq (F5 _ _ _) .nil ?_;apply ld .aa (dZ _ _);apply (cd)<;>intro h4
 ·refine bL .h1 ?_;grind [aR,aQ,bQ,aL,kx]
 refine cq (F5 _ _ _) .nil ?_;apply ld .aa (dZ _ _);apply (sd);apply st .aa (mi _ _ og _) rfl;refine rq [0,1,2,3,4,5,6,7,8,9] mixed ?_;have c0:({s with e:=bW s.e n 1 (s.e n 1-1)} :PS).e n 0=s.e n 0+0:=by simp[bW]
 have c0f:bW s.e n 1 (s.e n 1-1) n 0=s.e n 0+0:=by simp[bW]
 have c1:({s with e:=bW s.e n 1 (s.e n 1-1)} :PS).e n 1=s.e n 1+ -1:=by simp[bW];omega
 have c1f:bW s.e n 1 (s.e n 1-1) n 1=s.e n 1+ -1:=by simp[bW];omega
 apply ld .aa (eC _ _);apply ld .aa (dZ _ _);apply (sd);apply (cd)<;>intro h5
 refine XO.v (V.build (vs:= #[]) rfl (v:=.agg #[.string ⟨#[]⟩,iI 0,iI 0]) fun _=>kq) rfl (gO ?_);apply gu .aa (HX _) rfl ⟨rfl,rfl⟩;rotate_left;rotate_left
 ·apply gO;refine bL .h1 ?_;grind [aR,aQ,mD,aL]
 all_goals
  refine bL .h1 ?_;first
  | (rw[mD aq];exact⟨(aL _ aq).symm,rfl⟩)
  | (rw[kx aq aq];exact⟨rfl,rfl⟩)
  | (rw[PS.DA aq aq];exact⟨rfl,rfl⟩)
  | (rw[PS.w8 aq aq];refine⟨rfl,?_⟩;exact congrArg (fun e=>[aG.cells b o 24 (bN {b:=ad s.b n ⟨#[]⟩,e:=e})]) (DB))
def Ko(b o:Nat)(K:Int)(hK:K<=1000000)(s:PS)(hI:s.Inv K)(n:Int):Fn 145 [ay b o 0,iI n,.bool false] [el b o s] (ap (ax 102 (s.l7 n false (-1)).1) [el b o (s.l7 n false (-1)).2]):=by
 have b0:=hI.e0 n;have b1:=hI.e1 n;have bl:=hI.len n;have I9:(s.e n (HW false)=0)=(s.e n 0=0):=by simp[HW]
 refine Spec.g 45 [0,1,2,6,7,8,16,23,41] func145 fun W=> ?_;refine ca (acu _ _ K hK s hI _) .h1 ?_;rintro _ _ (⟨h1,rfl,rfl⟩ | ⟨h1,rfl,rfl⟩)
 obtain⟨h1,h2,h3⟩:=h1;apply gO;refine cq (C8 _ _ _) .nil ?_;apply ld .aa (eC _ _);apply (cd)<;>intro h4
 ·refine bL .h1 ?_;grind [aR,aQ,bQ,aL,kx]
 refine cq (C8 _ _ _) .nil ?_;apply ld .aa (eC _ _);apply (sd);apply st .aa (na _ _ og _) rfl;refine rq [0,1,2,3,4,5,6,7,8,9] mixed ?_;have c0:({s with e:=bW s.e n 0 (s.e n 0-1)} :PS).e n 0=s.e n 0+ -1:=by simp[bW];omega
 have c0f:bW s.e n 0 (s.e n 0-1) n 0=s.e n 0+ -1:=by simp[bW];omega
 have c1:({s with e:=bW s.e n 0 (s.e n 0-1)} :PS).e n 1=s.e n 1+0:=by simp[bW]
 have c1f:bW s.e n 0 (s.e n 0-1) n 1=s.e n 1+0:=by simp[bW]
 apply ld .aa (eC _ _);apply ld .aa (dZ _ _);apply (sd);apply (cd)<;>intro h5
 refine XO.v (V.build (vs:= #[]) rfl (v:=.agg #[.string ⟨#[]⟩,iI 0,iI 0]) fun _=>kq) rfl (gO ?_);apply gu .aa (HX _) rfl ⟨rfl,rfl⟩;rotate_left;rotate_left
 ·apply gO;refine bL .h1 ?_;grind [aR,aQ,mD,aL]
 all_goals
  refine bL .h1 ?_;first
  | (rw[mD aq];exact⟨(aL _ aq).symm,rfl⟩)
  | (rw[kx aq aq];exact⟨rfl,rfl⟩)
  | (rw[PS.DA aq aq];exact⟨rfl,rfl⟩)
  | (rw[PS.w8 aq aq];refine⟨rfl,?_⟩;exact congrArg (fun e=>[aG.cells b o 24 (bN {b:=ad s.b n ⟨#[]⟩,e:=e})]) (DB))
def agD(b o:Nat)(K:Int)(hK:K<=1000000)(s:PS)(hI:s.Inv K)(n m:Int):Fn 139 [ay b o 0,iI n,iI m] [el b o s] (ap (.tuple #[.string (s.mh n m).1,ax 102 (s.mh n m).2.1]) [el b o (s.mh n m).2.2]):=by
 have b0:=hI.e0 n;have b1:=hI.e1 n;have bl:=hI.len n;refine Spec.g 70 [0,1,2,6,7,8,9,10,11,19,25,28,45] func139 fun W=> ?_;refine ca (acu _ _ K hK s hI _) .h1 ?_;rintro _ _ (⟨h1,rfl,rfl⟩ | ⟨h1,rfl,rfl⟩)
 obtain⟨h1,h2,h3⟩:=h1;apply gO;apply ld .aa (eC _ _);apply (cd)<;>intro h4
 ·refine fg .h1 ?_;grind [aR,aQ,bQ,aL,GR]
 apply (cd)<;>intro h5
 ·refine fg .h1 ?_;grind [aR,aQ,bQ,aL,GS]
 apply ld .aa (eo _ _);apply UV 35<;>intro h6
 apply ld .aa (dZ _ _);apply UV 42<;>intro h7
 apply (cd)<;>intro h8
 ·refine fg .h1 ?_;grind [aR,aQ,bQ,aL,GU]
 rotate_left;rotate_left;rotate_left
 ·apply gO;refine fg .h1 ?_;grind [aR,aQ,bQ,Mr,aL]
 all_goals apply ld .aa (eo _ _);apply ld .aa (eo _ _);apply (sd);apply ld .aa (eo _ _);apply (sd);apply st .aa (jj _ _ og _) rfl;refine fg .h1 ?_;grind [aR,aQ,bQ,ax,PS.JF]
def acv(b o:Nat)(K:Int)(hK:K<=1000000)(s:PS)(hI:s.Inv K)(n:Int)(t:ByteArray)(ht:t.size<=1000000):Fn 136 [ay b o 0,iI n,.string t] [el b o s] (ap (.tuple #[iI (s.cC n t).1,ax 102 (s.cC n t).2.1]) [el b o (s.cC n t).2.2]):=by
 have b0:=hI.e0 n;have b1:=hI.e1 n;have bl:=hI.len n;have he:=Sq t;refine Spec.g 59 [0,1,2,6,7,8,9,10,18,24,30,46] func136 fun W=> ?_;refine ca (acu _ _ K hK s hI _) .h1 ?_;rintro _ _ (⟨h1,rfl,rfl⟩ | ⟨h1,rfl,rfl⟩)
 obtain⟨h1,h2,h3⟩:=h1;apply gO;apply ld .aa (dZ _ _);apply (cd)<;>intro h4
 ·refine fg .h1 ?_;grind [aR,aQ,bQ,aL,ES]
 apply ld .aa (eC _ _);apply (cd)<;>intro h5
 ·refine fg .h1 ?_;grind [aR,aQ,bQ,aL,Dh]
 apply ld .aa (eo _ _);apply (sd);apply UV 43<;>intro h6
 apply (cd)<;>intro h7
 ·refine fg .h1 ?_;grind [aR,aQ,bQ,aL,ET]
 rotate_left;rotate_left
 ·apply gO;refine fg .h1 ?_;grind [aR,aQ,bQ,JG,aL]
 all_goals
  refine rq [0,1,2,3,4,5,6,7,8,9,10] mixed ?_;apply ld .aa (eo _ _);apply (sd);refine sd ?_ (by simp only[ByteArray.size_extract];omega);apply st .aa (jj _ _ og _) rfl;refine fg .h1 ?_;try dsimp only[aR,aQ,bH,bQ]
  grind [ax,PS.Ms]
def acw(b o:Nat)(K:Int)(hK:K<=1000000)(s:PS)(hI:s.Inv K):Fn 109 [ay b o 0] [el b o s] (ap (iI s.open) [el b o s]):=by
 refine Spec.g 28 [0,2,3,4,5,6,23] func109 fun W=> ?_;refine wl (σ:=Nat) (fun k=>8-k) (fun k=>k<=8) (fun k=>[(3,iI (fh (fun i=>decide (s.e i 0+s.e i 1>0)) k)),(5,iI k),(0,ay b o 0)]) (fun k=>[el b o s]) (0) ?_ .h1 ?_
 ·omega
 intro k hk;have b0:=hI.e0 k;have b1:=hI.e1 k;have bc:=Dv (fun i=>decide (s.e i 0+s.e i 1>0)) k;apply gC;apply (cd)<;>intro h1
 ·refine rq [0,1,2,3,4,5,6,7,8,9,10,11,12,13,14,15] mixed ?_;apply (sd);apply ld .aa (eC _ _);apply (sd);apply ld .aa (dZ _ _);apply (sd);apply (cd)<;>intro h2
  ·apply (sd);apply (sd);refine ag (k+1) ?_ ?_ (S3 (Gn (by simp only[fh];simp;omega)) rfl rfl) (xq .h1);all_goals omega
  ·apply (sd);refine ag (k+1) ?_ ?_ (S3 (Gn (by simp only[fh];simp;omega)) rfl rfl) (xq .h1);all_goals omega
 ·refine bL .h1 ?_;grind [aR,aQ,PS.open]
def agE(b o:Nat)(K:Int)(hK:K<=1000000)(s:PS)(hI:s.Inv K)(n:Int)(w:Bool):Fn 145 [ay b o 0,iI n,.bool w] [el b o s] (ap (ax 102 (s.l7 n w (-1)).1) [el b o (s.l7 n w (-1)).2]):=by
 cases w
 ·exact Ko b o K hK s hI n
 ·exact Nt b o K hK s hI n
def Y7(bo oo bf bp:Nat)(O:OS)(n:Int):Fn 125 [ay bo oo 0,iI n] [eQ bo oo bf bp O] (fun v H1=>((O.is n=0/\0<=n/\n<24)/\v= .tuple #[ay bo oo (0+2+n.toNat*5),.nilIface]/\H1=[eQ bo oo bf bp O])\/(O.is n≠0/\v= .tuple #[.pointer none,.iface 102 (iI (O.is n))]/\H1=[eQ bo oo bf bp O])):=by
 refine Spec.g 27 [0,1,4,5,11,20] func125 fun W=> ?_;apply UV 8<;>intro h1;rotate_left
 apply (cd)<;>intro h2;rotate_left
 refine sd (ld .aa (jJ _ _) ?_);apply (cd)<;>intro h3;rotate_left
 ·refine sd (bC rfl rfl rfl (ai .h1 rfl ?_));grind [aR,aQ,bQ,OS.kg]
 all_goals refine fg .h1 ?_;grind [aR,aQ,bQ,OS.kg]
def P0(bo oo bf bp:Nat)(O:OS)(m:Int):Fn 134 [ay bo oo 0,iI m] [eQ bo oo bf bp O] (fun v H1=>(((O.fO m 24).length:Int)<m/\v= .slice none 0 0/\H1=[eQ bo oo bf bp O])\/(¬((O.fO m 24).length:Int)<m/\∃ p c,v= .slice p (O.fO m 24).length c/\H1=[dH p c 3 (O.fO m 24),eQ bo oo bf bp O])):=by
 refine Spec.g 34 [0,1,4,5,6,7,8,23,32] func134 fun W=> ?_;apply XR.fU 3 1;refine wl (σ:=Int×Option Addr×Nat) (fun x=>(24-x.1).toNat) (fun x=>0<=x.1/\x.1<=24) (fun x=>[(5,.slice x.2.1 (O.fO m x.1.toNat).length x.2.2),(7,iI x.1),(0,ay bo oo 0),(1,iI m)]) (fun x=>[dH x.2.1 x.2.2 3 (O.fO m x.1.toNat),eQ bo oo bf bp O]) ((0,none,0)) ?_ (pz 2) ?_
 ·omega
 intro x hx;obtain⟨q8,KI⟩:=hx;have pf:=O.O2 m q8;have hln:=O.H5 m x.1.toNat;apply gC;apply (cd)<;>intro h1
 ·refine sd (ld (.ao .aa) (jJ _ _) ?_);apply UV 18<;>intro h2
  ·apply (cd)<;>intro h3
   ·have e1:O.fO m (x.1+1).toNat=O.fO m x.1.toNat++[x.1]:=by rw[pf,if_pos ⟨aq,aq⟩]
    apply XO.buildSlice (A:= #[iI _]) (vs:= #[(0,iI _)]) rfl (wm _) rfl rfl;intro h4;apply gO;apply lY (e:=3) rfl rfl underlying55 kq (.ao .aa) .aa og rfl;intro pa ca;apply gO;refine sd (ag ((x.1+1,pa,ca)) ?_ ?_ (S4 (by rw[e1];try rfl) rfl rfl rfl) fun _ hw=>by rw[e1];exact XM.pick (pk [0,1]) hw);all_goals omega
   ·have e1:O.fO m (x.1+1).toNat=O.fO m x.1.toNat:=by rw[pf,if_neg fun q=>absurd q.2 aq]
    refine sd (ag ((x.1+1,x.2.1,x.2.2)) ?_ ?_ (S4 (by rw[e1];try rfl) rfl rfl rfl) fun _ hw=>by rw[e1];exact XM.pick (pz 2) hw);all_goals omega
  ·have e1:O.fO m (x.1+1).toNat=O.fO m x.1.toNat:=by rw[pf,if_neg fun q=>absurd q.1 aq]
   refine sd (ag ((x.1+1,x.2.1,x.2.2)) ?_ ?_ (S4 (by rw[e1];try rfl) rfl rfl rfl) fun _ hw=>by rw[e1];exact XM.pick (pz 2) hw);all_goals omega
 ·have e24:x.1=24:=og;rw[e24];apply (cd)<;>intro h7
  ·refine bL (pk [1]) ?_;grind [aR,aQ,bQ]
  ·refine bL (pz 2) ?_;grind [aR,aQ]
def agF(bo oo bf bp:Nat)(O:OS)(s:FC)(hI:s.toFF.Sh)(n:Int)(w:Bool):Fn 208 [ay bo oo 0,iI n,.bool w] [eQ bo oo bf bp O,bi bf 0 s,g6 s,g7 s] (fun v H1=>v= .tuple #[iI (vN s.toFF O n),ax 102 (oX s.toFF O n)]/\∃ t:FC,t.toFF=uc s.toFF O n/\t.rP=s.rP/\t.rC=s.rC/\H1=[eQ bo oo bf bp (rB s.toFF O n w),bi bf 0 t,g6 t,g7 t]):=by
 refine Spec.g 51 [0,1,2,6,7,8,9,10,21,25,30] func208 fun W=> ?_;apply ld .aa (sV _);refine cq (PH _ _ _ hI _) (pk [1]) ?_;apply XO.bP (z:=.agg NV.zero.c9) (m:=4) (C:=o8 NV.zero) (pO _);intro bx;apply gO;apply gu .aa (nh _ _) rfl ⟨rfl,rfl⟩;apply (cd)<;>intro h1
 ·have j0:s.cQ n 0≠0:=aq;have jn:=FF.aft s.toFF n 0;have hn1:s.cQ n 1=s.cQ n 0:=(FF.Xv j0).symm;refine bC rfl rfl rfl (ai (pk [2,1,1,1]) rfl ?_);grind [aR,aQ,bQ,oX,vN,uc,rB]
 ·have j0:s.cQ n 0=0:=by simpa using h1
  obtain⟨j1,j2,j3⟩:=FF.Am j0;obtain⟨T7,_,_⟩:=FF.XD j0;apply ld .aa (yV _);apply (cd)<;>intro h2
  ·have hn1:s.cQ n 1=11:=by rw[T7]at h2;unfold FF.cQ;rw[if_neg og,if_neg og,if_pos og]
   refine bC rfl rfl rfl (ai (pk [2,1,1,1]) rfl ?_);grind [aR,aQ,bQ,oX,vN,uc,rB,ax]
  ·have hn1:s.cQ n 1=0:=by rw[T7]at h2;unfold FF.cQ;rw[if_neg og,if_neg og,if_neg og]
   refine ca (P0 _ _ _ _ _ _) (pk [2]) ?_;rintro _ _ (⟨f0,rfl,rfl⟩ | ⟨f0,p1,c1,rfl,rfl⟩)
   ·apply gO;refine XO.v (lZ rfl underlying55 rfl) rfl (gO ?_);refine cdT rfl (rfl) (bC rfl rfl rfl (ai (pk [0,1,1,1]) rfl ?_));try dsimp only[aR,aQ,bH,bQ]
    have hf:=OS.DD f0;grind [oX,vN,uc,rB,ax]
   ·obtain⟨hf1,Va⟩:=OS.XF f0;have hf3:=OS.jG hf1;rw[Va];apply gO;apply bV .aa (by show 0<1;omega);intro g hg;subst hg;refine XO.v (lZ rfl underlying55 rfl) rfl (gO ?_);refine KJ rfl sq (ld (.ao .aa) (sV _) ?_);refine ca (wv _ _ _ hI _) (pk [3,3,3]) ?_;rintro _ _ ⟨rfl,t,ht,tp,tc,rfl⟩;apply gO;refine rq [0,1,2,3,4,5,6,7,8,9,10] mixed (sd (Cx (.t3 .aa) (adO _) (XO.v (V.build (vs:= #[(0,iI 1),(1,iI n),(3,.bool w),(4,iI 1)]) rfl (v:=.agg (aZ.c9 ⟨1,n,0,w,1⟩)) fun _=>kq) rfl (gO ?_))) (by show(0:Int)<=0/\(0:Int)<1;omega));refine sd (gu (.t4 .aa) (aZ.put O O.first 1 n w 1 ⟨hf3.1,hf3.2.1⟩) rfl ⟨rfl,rfl⟩ (sd (Cx (.t3 .aa) (adO _) (bC rfl rfl rfl (ai (pk [4,0,0,0]) rfl ?_))) (by show(0:Int)<=0/\(0:Int)<1;omega))) ⟨hf3.1,hf3.2.1⟩;have e:oX s.toFF O n=0:=by unfold oX;rw[if_neg og,if_neg hf1]
    exact⟨by rw[show vN s.toFF O n=O.first from by unfold vN;rw[if_pos e],e];rfl,t,by rw[ht];unfold uc;rw[if_pos e],tp,tc,by rw[show rB s.toFF O n w=O.lay O.first 1 n w from by unfold rB;rw[if_pos e]];rfl⟩
def Kp(bo oo bf bp:Nat)(O:OS)(J:Int)(hJ:J<=1000000)(hO:O.Inv J)(n:Int):Fn 59 [ay bo oo 0,iI n] [eQ bo oo bf bp O] (ap (ax 102 (O.is n)) [eQ bo oo bf bp (mj O n)]):=by
 refine Spec.g 23 [0,1,4,5,6,14] func59 fun W=> ?_;refine ca (Y7 _ _ _ _ _ _) .h1 ?_;rintro _ _ (⟨⟨i0,i1,i2⟩,rfl,rfl⟩ | ⟨i0,rfl,rfl⟩)
 ·have hrb:=hO.aY n i1 i2;apply gO;apply ld .aa (jJ _ _);apply (sd);apply st .aa (wu _ _ og _) rfl;refine bL .h1 ?_;grind [aR,aQ,mj,ax]
 ·apply gO;refine bL .h1 ?_;grind [aR,aQ,mj,ax]
def agG(bo oo bf bp:Nat)(O:OS):Fn 110 [ay bo oo 0] [eQ bo oo bf bp O] (ap (iI O.opens) [eQ bo oo bf bp O]):=by
 refine Spec.g 20 [0,2,3,4,5,6,15] func110 fun W=> ?_;refine wl (σ:=Int) (fun i=>(24-i).toNat) (fun i=>(0<=i/\i<=24)/\0<=O.ub i.toNat/\O.ub i.toNat<=i) (fun i=>[(5,iI i),(3,iI (O.ub i.toNat)),(0,ay bo oo 0)]) (fun i=>[eQ bo oo bf bp O]) (0) ?_ .h1 ?_
 ·exact⟨og,by show(0:Int)<=0;omega,by show(0:Int)<=0;omega⟩
 intro i hi;obtain⟨hi,ho⟩:=hi;have pf:=O.T1 hi.1;apply gC;apply (cd)<;>intro h1
 ·refine sd (ld .aa (jJ _ _) ?_);apply (cd)<;>intro h2
  ·refine sd (sd (ag (i+1) ?_ ?_ (S3 rfl (Gn (by rw[pf,if_pos aq])) rfl) (xq .h1)));all_goals omega
  ·refine sd (ag (i+1) ?_ ?_ (S3 rfl (Gn (by rw[pf,if_neg og];omega)) rfl) (xq .h1));all_goals omega
 ·refine bL .h1 ?_;have e:i=24:=og;subst e;exact⟨rfl,rfl⟩
def Y8(bf bp:Nat):Array Value:=((List.range 122).map (aZ bf bp OS.dR)).toArray
def UL(bf bp:Nat):(Y8 bf bp).size=122:=by simp[Y8]
def Y9(bf bp:Nat):∀ i,i<122->cellsOf (Y8 bf bp) i=aZ bf bp OS.dR i:=fun i hi=>by simp[cellsOf,Y8,hi]
def acy(bo oo bf bp:Nat)(O:OS)(J:Int)(hJ:J<=1000000)(hO:O.Inv J)(s:FC)(hI:s.toFF.Sh)(K:Int)(hK:K<=1000000)(q:PS)(hq:q.Inv K)(n:Int)(x:ByteArray)(hx:x.size<=1000000):Fn 70 [ay bo oo 0,iI n,.string x] [eQ bo oo bf bp O,bi bf 0 s,g6 s,g7 s,el bp 0 q] (fun v H1=>v= .tuple #[iI (j8 s.toFF q O n x),ax 102 (jt s.toFF q O n x)]/\∃ t:FC,t.toFF=iV s.toFF O n x/\t.rP=s.rP/\t.rC=s.rC/\H1=[eQ bo oo bf bp (gT s.toFF O n x),bi bf 0 t,g6 t,g7 t,el bp 0 (lB q O n x)]):=by
 refine Spec.g 79 [0,1,2,6,7,8,9,17,19,37,66] func70 fun W=> ?_;refine ca (Y7 _ _ _ _ _ _) .h1 ?_;rintro _ _ (⟨⟨i0,i1,i2⟩,rfl,rfl⟩ | ⟨i0,rfl,rfl⟩)
 ·have hra:=hO.aY n i1 i2;have haa:=hO.at_ n i1 i2;have hka:=hO.aI n i1 i2 (OS.GX i0).2.2;apply gO;apply ld .aa (np _ _);apply (cd)<;>intro h1
  ·refine rq [0,1,2,3,4,5,6,7,8,9,10,11,12,13] mixed ?_;apply ld .aa (aZ.Jw _);apply ld .aa (q9 _ _);refine cq (acv _ _ K hK q hq _ _ hx) (pk [4]) ?_;refine bC rfl rfl rfl (ai (pk [1,1,1,1,0]) rfl ?_);try dsimp only[aR,aQ,bH,bQ]
   have hk:O.aI n=3:=aq;have eE:jt s.toFF q O n x=(q.cC (O.n n) x).2.1:=by unfold jt;rw[if_neg og,if_pos hk]
   have eV:j8 s.toFF q O n x=(q.cC (O.n n) x).1:=by unfold j8;rw[if_pos ⟨i0,hk⟩]
   have eF:iV s.toFF O n x=s.toFF:=by unfold iV;rw[if_neg fun h=>h.2.1 hk]
   have eO:gT s.toFF O n x=O:=by unfold gT;rw[if_neg fun h=>h.1.2.1 hk]
   grind [lB]
  ·apply ld .aa (np _ _);apply UV 43<;>intro h2
   ·refine fg (pz 5) ?_;try dsimp only[aR,aQ,bH,bQ]
    have hk:¬O.aI n=3:=aq;have h2:O.aI n=2:=aq;have eE:jt s.toFF q O n x=8:=by unfold jt;rw[if_neg og,if_neg hk,if_pos (.inl h2)]
    have eV:j8 s.toFF q O n x=0:=by unfold j8;rw[if_neg fun h=>hk h.2,if_neg fun h=>h.1.2.2 (.inl h2)]
    have eF:iV s.toFF O n x=s.toFF:=by unfold iV;rw[if_neg fun h=>h.2.2 (.inl h2)]
    have eO:gT s.toFF O n x=O:=by unfold gT;rw[if_neg fun h=>h.1.2.2 (.inl h2)]
    grind [lB,ax]
   ·skip;apply ld .aa (Dp _ _ og);apply (yx)<;>intro h3
    ·try simp only[sb]at h3
     have hwf:O.cC n=false:=by simpa using h3
     refine fg (pz 5) ?_;try dsimp only[aR,aQ,bH,bQ]
     have hk:¬O.aI n=3:=aq;have eE:jt s.toFF q O n x=8:=by unfold jt;rw[if_neg og,if_neg hk,if_pos (.inr hwf)]
     have eV:j8 s.toFF q O n x=0:=by unfold j8;rw[if_neg fun h=>hk h.2,if_neg fun h=>h.1.2.2 (.inr hwf)]
     have eF:iV s.toFF O n x=s.toFF:=by unfold iV;rw[if_neg fun h=>h.2.2 (.inr hwf)]
     have eO:gT s.toFF O n x=O:=by unfold gT;rw[if_neg fun h=>h.1.2.2 (.inr hwf)]
     grind [lB,ax]
    ·try simp only[sb]at h3
     have hwt:O.cC n=true:=by simpa using h3
     refine rq [0,1,2,3,4,5,6,7,8,9,10,11,12,13,14] mixed ?_;apply ld .aa (sV _);apply ld .aa (q9 _ _);apply ld .aa (pE _ _);refine ca (acs _ _ _ hI _ _ _ og) (pk [1,1,1]) ?_;rintro _ _ ⟨rfl,t,ht,tp,tc,rfl⟩;apply gO;apply (cd)<;>intro h4
     ·refine fg (pk [3,0,0,0,0]) ?_;try dsimp only[aR,aQ,bH,bQ]
      have hk:¬O.aI n=3:=aq;have h2:¬O.aI n=2:=aq;have hfw:E5 O n:=⟨i0,hk,fun h=>by rcases h with h | h;exact h2 h;rw[hwt]at h;cases h⟩;have hwe:s.toFF.fC (O.n n) (O.at_ n) x≠0:=aq;have eE:jt s.toFF q O n x=s.toFF.fC (O.n n) (O.at_ n) x:=by unfold jt;rw[if_neg og,if_neg hk,if_neg hfw.2.2]
      have eV:j8 s.toFF q O n x=0:=by unfold j8;rw[if_neg fun h=>hk h.2,if_neg fun h=>hwe h.2]
      have eF:iV s.toFF O n x=s.toFF.cC (O.n n) (O.at_ n) x:=by unfold iV;rw[if_pos hfw]
      grind [gT,lB]
     ·apply ld (.t3 .aa) (pE _ _);apply (sd);apply st (.t3 .aa) (aZ.Km _ _ og _) rfl;refine fg (pk [3,0,0,0,0]) ?_;have hk:¬O.aI n=3:=aq;have h2:¬O.aI n=2:=aq;have hfw:E5 O n:=⟨i0,hk,fun h=>by rcases h with h | h;exact h2 h;rw[hwt]at h;cases h⟩;have hwe:s.toFF.fC (O.n n) (O.at_ n) x=0:=Decidable.byContradiction aq;have eE:jt s.toFF q O n x=0:=by unfold jt;rw[if_neg og,if_neg hk,if_neg hfw.2.2,hwe]
      have eV:j8 s.toFF q O n x=(x.size:Int):=by unfold j8;rw[if_neg fun h=>hk h.2,if_pos ⟨hfw,hwe⟩]
      have eF:iV s.toFF O n x=s.toFF.cC (O.n n) (O.at_ n) x:=by unfold iV;rw[if_pos hfw]
      have eO:gT s.toFF O n x=O.move n (x.size):=by unfold gT;rw[if_pos ⟨hfw,hwe⟩]
      have eP:lB q O n x=q:=by unfold lB;rw[if_neg fun h=>hk h.2]
      exact⟨by rw[eE,eV];rfl,t,by rw[eF];exact ht,tp,tc,by rw[eO,eP];rfl⟩
 ·apply gO;refine fg (pz 5) ?_;try dsimp only[aR,aQ,bH,bQ]
  have eE:jt s.toFF q O n x=O.is n:=by unfold jt;rw[if_pos i0]
  have eV:j8 s.toFF q O n x=0:=by unfold j8;rw[if_neg fun h=>i0 h.1,if_neg fun h=>i0 h.1.1]
  have eF:iV s.toFF O n x=s.toFF:=by unfold iV;rw[if_neg fun h=>i0 h.1]
  have eO:gT s.toFF O n x=O:=by unfold gT;rw[if_neg fun h=>i0 h.1.1]
  grind [lB,ax]
def agI(bo oo bf bp:Nat)(O:OS)(J:Int)(hJ:J<=1000000)(hO:O.Inv J)(s:FC)(hI:s.toFF.Sh)(K:Int)(hK:K<=1000000)(q:PS)(hq:q.Inv K)(n m:Int):Fn 72 [ay bo oo 0,iI n,iI m] [eQ bo oo bf bp O,bi bf 0 s,g6 s,g7 s,el bp 0 q] (ap (.tuple #[.string (vP s.toFF q O n m),ax 102 (vO s.toFF q O n m)]) [eQ bo oo bf bp (oZ s.toFF O n m),bi bf 0 s,g6 s,g7 s,el bp 0 (oY q O n m)]):=by
 refine Spec.g 69 [0,1,2,6,7,8,9,10,18,23,24,27] func72 fun W=> ?_;refine ca (Y7 _ _ _ _ _ _) .h1 ?_;rintro _ _ (⟨⟨i0,i1,i2⟩,rfl,rfl⟩ | ⟨i0,rfl,rfl⟩)
 ·have hra:=hO.aY n i1 i2;have haa:=hO.at_ n i1 i2;have hka:=hO.aI n i1 i2 (OS.GX i0).2.2;apply gO;apply ld .aa (np _ _);apply (cd)<;>intro h1
  ·refine fg (pz 5) ?_;try dsimp only[aR,aQ,bH,bQ]
   grind [vO,vP,oZ,oY,ax]
  ·apply (cd)<;>intro h2
   ·refine rq [0,1,2,3,4,5,6,7,8,9,10,11,12,13] mixed ?_;apply ld .aa (aZ.Jw _);apply ld .aa (q9 _ _);refine cq (agD _ _ K hK q hq _ _) (pk [4]) ?_;refine bC rfl rfl rfl (ai (pk [1,1,1,1,0]) rfl ?_);try dsimp only[aR,aQ,bH,bQ]
    grind [vO,vP,oZ,oY]
   ·refine rq [0,1,2,3,4,5,6,7,8,9,10,11,12,13,14,15,16,17,18] mixed ?_;apply ld .aa (sV _);apply ld .aa (q9 _ _);apply ld .aa (pE _ _);refine ca (agA _ _ _ hI _ _ _) (pk [1]) ?_;rintro _ _ ⟨rfl,rfl⟩;have hrl:=FF.MI hI (O.n n) (O.at_ n) m;apply gO;apply ld (.ao .aa) (pE _ _);apply (sd);apply st (.ao .aa) (aZ.Km _ _ og _) rfl;refine fg (pk [1,0,0,0,0]) ?_;try dsimp only[aR,aQ,bH,bQ]
    have hk:¬O.aI n=3:=aq;have h2:¬O.aI n=2:=aq;have eE:vO s.toFF q O n m=s.toFF.nf (O.n n) (O.at_ n) m:=by unfold vO;rw[if_neg og,if_neg hk,if_neg h2]
    have eV:vP s.toFF q O n m=s.toFF.lH (O.n n) (O.at_ n) m:=by unfold vP;rw[if_neg og,if_neg hk,if_neg h2]
    have eO:oZ s.toFF O n m=O.move n ((s.toFF.lH (O.n n) (O.at_ n) m).size):=by unfold oZ;rw[if_pos ⟨i0,hk,h2⟩]
    have eP:oY q O n m=q:=by unfold oY;rw[if_neg fun h=>h2 h.2]
    exact⟨by rw[eE,eV],by rw[eO,eP];rfl⟩
 ·apply gO;refine fg (pz 5) ?_;grind [aR,aQ,bQ,vO,vP,oZ,oY,aL]
def R3(bo oo bf bp:Nat)(O:OS)(J:Int)(hJ:J<=1000000)(hO:O.Inv J)(s:FC)(hI:s.toFF.Sh)(K:Int)(hK:K<=1000000)(q:PS)(hq:q.Inv K)(n:Int):Fn 76 [ay bo oo 0,iI n] [eQ bo oo bf bp O,bi bf 0 s,g6 s,g7 s,el bp 0 q] (fun v H1=>v=ax 102 (lg s.toFF q O n)/\∃ t:FC,t.toFF=nU s.toFF O n/\t.rP=s.rP/\t.rC=s.rC/\H1=[eQ bo oo bf bp (iH O n),bi bf 0 t,g6 t,g7 t,el bp 0 (j7 q O n)]):=by
 refine Spec.g 55 [0,1,4,5,6,7,15,28,37] func76 fun W=> ?_;refine ca (Y7 _ _ _ _ _ _) .h1 ?_;rintro _ _ (⟨⟨i0,i1,i2⟩,rfl,rfl⟩ | ⟨i0,rfl,rfl⟩)
 ·have hra:=hO.aY n i1 i2;have haa:=hO.at_ n i1 i2;have hka:=hO.aI n i1 i2 (OS.GX i0).2.2;apply gO;apply ld .aa (jJ _ _);apply (sd);apply st .aa (wu _ _ og _) rfl;apply ld .aa (jJ _ _);apply (cd)<;>intro h1
  ·have e9:ad O.aY n (O.aY n-1) n=O.aY n-1:=ah _ _ _;have h9:ad O.aY n (O.aY n-1) n>0:=h1;have NM:0<O.aY n-1:=og;refine bL (pz 5) ?_;try dsimp only[aR,aQ,bH,bQ]
   have eE:lg s.toFF q O n=0:=by unfold lg;rw[if_neg og,if_pos NM]
   have eF:nU s.toFF O n=s.toFF:=by unfold nU;rw[if_neg fun h=>h.1.2 NM]
   have eP:j7 q O n=q:=by unfold j7;rw[if_neg fun h=>h.1.2 NM]
   grind [iH,MG,ax]
  ·have e9:ad O.aY n (O.aY n-1) n=O.aY n-1:=ah _ _ _;have h9:¬ad O.aY n (O.aY n-1) n>0:=h1;have NM:¬ 0<O.aY n-1:=og;apply mP .aa (aZ.N1 _ _ og);apply XO.bP (z:=.agg (aZ.c9 ⟨0,0,0,false,0⟩)) (m:=5) (C:=aZ.cell ⟨0,0,0,false,0⟩) (aZ.box _);intro bx;apply gO;apply gu .aa (Y2 _ _) rfl ⟨rfl,rfl⟩;refine XO.v (V.build (vs:= #[]) rfl (v:=.agg (aZ.c9 ⟨0,0,0,false,0⟩)) fun _=>kq) rfl (gO ?_);apply gu (.ao .aa) (aZ.put (MG O n) n 0 0 false 0 ⟨i1,i2⟩) rfl ⟨rfl,rfl⟩;apply ld .aa (Nr _);apply (cd)<;>intro h2
   ·refine rq [0,1,2,3,4,5,6,7] mixed ?_;apply ld (.ao .aa) (sV _);apply ld .aa (Ns _);refine ca (IQ _ _ _ hI _) (pk [2,2,2]) ?_;rintro _ _ ⟨rfl,t,ht,tp,tc,rfl⟩;apply gO;refine aO rfl rfl (ai (pk [4,0,0,0,1]) rfl ?_);have hk:O.aI n=1:=aq;have eE:lg s.toFF q O n=s.toFF.EX (O.n n):=by unfold lg;rw[if_neg og,if_neg NM,if_pos hk]
    have eF:nU s.toFF O n=s.toFF.lI (O.n n):=by unfold nU;rw[if_pos ⟨⟨i0,NM⟩,hk⟩]
    have eP:j7 q O n=q:=by unfold j7;rw[if_neg fun h=>h.2 hk]
    have eO:iH O n=O.yF n:=by unfold iH;rw[if_neg og,if_neg NM]
    exact⟨by rw[eE];rfl,t,by rw[eF];exact ht,tp,tc,by rw[eO,eP,<-OS.MH];rfl⟩
   ·refine rq [0,1,2,3,4,5,6,7,8,9,10] mixed ?_;apply ld (.ao .aa) (aZ.Jw _);apply ld .aa (Ns _);apply ld .aa (Nr _);refine cq (agE _ _ K hK q hq _ _) (pk [5]) ?_;refine aO rfl rfl (ai (pk [2,2,2,2,0]) rfl ?_);have hk:¬O.aI n=1:=aq;have eE:lg s.toFF q O n=(q.l7 (O.n n) (decide (O.aI n=3)) (-1)).1:=by unfold lg;rw[if_neg og,if_neg NM,if_neg hk]
    have eF:nU s.toFF O n=s.toFF:=by unfold nU;rw[if_neg fun h=>hk h.2]
    have eP:j7 q O n=(q.l7 (O.n n) (decide (O.aI n=3)) (-1)).2:=by unfold j7;rw[if_pos ⟨⟨i0,NM⟩,hk⟩]
    have eO:iH O n=O.yF n:=by unfold iH;rw[if_neg og,if_neg NM]
    exact⟨by rw[eE];rfl,s,by rw[eF],rfl,rfl,by rw[eO,eP,<-OS.MH];rfl⟩
 ·apply gO;refine bL (pz 5) ?_;try dsimp only[aR,aQ,bH,bQ]
  have eE:lg s.toFF q O n=O.is n:=by unfold lg;rw[if_pos i0]
  have eF:nU s.toFF O n=s.toFF:=by unfold nU;rw[if_neg fun h=>i0 h.1.1]
  have eP:j7 q O n=q:=by unfold j7;rw[if_neg fun h=>i0 h.1.1]
  grind [iH,ax]
def Za(bf bp:Nat):Fn 100 [ay bf 0 0,ay bp 0 0] [] (fun v H1=>∃ b,v=ay b 0 0/\H1=[eQ b 0 bf bp OS.dR]):=by
 refine Spec.g 9 [0,1,4] func100 fun W=> ?_;refine XO.v (V.build (vs:= #[(0,ay bf 0 0),(1,ay bp 0 0)]) rfl (v:=.agg (Y8 bf bp)) fun _=>kq) rfl (gO ?_);refine XO.box (m:=122) (C:=aZ bf bp OS.dR) rfl (UL bf bp) (Y9 bf bp) rfl ?_;intro b;apply gO;refine bL .h1 ?_;grind [aR,aQ]
def agJ(bo oo bf bp:Nat)(O:OS)(n a:Int):Fn 209 [ay bo oo 0,iI n,iI a] [eQ bo oo bf bp O] (ap (ax 102 (oF O n a)) [eQ bo oo bf bp (uD O n a)]):=by
 refine Spec.g 35 [0,1,2,6,7,8,16,22,29] func209 fun W=> ?_;refine ca (Y7 _ _ _ _ _ _) .h1 ?_;rintro _ _ (⟨⟨i0,i1,i2⟩,rfl,rfl⟩ | ⟨i0,rfl,rfl⟩)
 apply gO;apply ld .aa (np _ _);apply (cd)<;>intro h1;rotate_left
 apply UV 26<;>intro h2;rotate_left
 apply (cd)<;>intro h3;rotate_left
 ·refine st .aa (aZ.Km _ _ og _) rfl (aO rfl rfl (ai .h1 rfl ?_));grind [aR,aQ,bQ,oF,uD,ax]
 ·apply gO;refine bL .h1 ?_;grind [aR,aQ,oF,uD,ax]
 all_goals refine bL .h1 ?_;grind [aR,aQ,bQ,oF,uD,ax]
def agK(bo oo bf bp:Nat)(O:OS)(J:Int)(hJ:J<=1000000)(hO:O.Inv J)(m:Int):Fn 204 [ay bo oo 0,iI m] [eQ bo oo bf bp O] (ap (.bool (Rj O m)) [eQ bo oo bf bp O]):=by
 refine Spec.g 13 [0,1,4] func204 fun W=> ?_;apply UV 7<;>intro h1
 ·refine bL .h1 ?_;grind [aR,aQ,bQ,Rj]
 ·refine ca (P0 _ _ _ _ _ _) .h1 ?_;rintro _ _ (⟨f0,rfl,rfl⟩ | ⟨f0,p1,c1,rfl,rfl⟩)
  ·have hfn:=OS.BW (fun z z1 z2=>(hO.aY z z1 z2).1) m og 24 (Nat.le_refl 24);rw[show O.ub 24=O.opens from rfl]at hfn;have hol:=O.MJ;apply gO;refine XO.v (lZ rfl underlying55 rfl) rfl (gO ?_);refine bL .h1 ?_;grind [aR,aQ,Rj]
  ·have hfn:=OS.BW (fun z z1 z2=>(hO.aY z z1 z2).1) m og 24 (Nat.le_refl 24);rw[show O.ub 24=O.opens from rfl]at hfn;have hol:=O.MJ;apply gO;apply bV .aa (by show 0<(O.fO m 24).length;omega);intro g hg;subst hg;refine XO.v (lZ rfl underlying55 rfl) rfl (gO ?_);refine bL (pk [1]) ?_;grind [aR,aQ,Rj]
def agL(bo oo bf bp:Nat)(O:OS)(K:Int)(hK:K<=1000000)(q:PS)(hq:q.Inv K):Fn 68 [ay bo oo 0] [eQ bo oo bf bp O,el bp 0 q] (ap (.tuple #[iI (ml q O),iI (nV q O),ax 102 (im q O)]) [eQ bo oo bf bp (jl q O),el bp 0 (kA q O)]):=by
 refine Spec.g 48 [0,2,3,4,5,6,7,11,22] func68 fun W=> ?_;refine ca (P0 _ _ _ _ _ _) .h1 ?_;rintro _ _ (⟨f0,rfl,rfl⟩ | ⟨f0,p1,c1,rfl,rfl⟩)
 ·apply gO;refine XO.v (lZ rfl underlying55 rfl) rfl (gO ?_);refine cdT rfl (rfl) (wy rfl rfl rfl rfl (ai (pz 2) rfl ?_));try dsimp only[aR,aQ,bH,bQ]
  have hf:=OS.XG f0;grind [im,ml,nV,jl,kA,ax]
 ·obtain⟨hf1,Va,hf4⟩:=OS.T2 f0;have hf3:=OS.jG hf1;have hf5:0<=O.fc/\O.fc<24:=⟨og,(OS.jG (s:=O.lay O.first 2 0 false) Va).2.1⟩;have hf6:¬(O.first<0\/O.fc<0):=og;rw[hf4];apply gO;apply bV .aa (by show 0<2;omega);intro g hg;subst hg;refine XO.v (lZ rfl underlying55 rfl) rfl (gO ?_);refine KJ rfl sq (ld (.ao .aa) (aZ.Jw _) ?_);refine cq (agC _ _ K hK q hq) (pk [2]) ?_;apply (cd)<;>intro h1
  ·refine rt3 (pk [2,0]) ?_;grind [aR,aQ,bQ,im,ml,nV,jl,kA]
  ·refine rq [0,1,2,3,4,5,6,7,8,9] mixed (sd (Cx (.ao .aa) (XH _ _) (XO.v (V.build (vs:= #[(0,iI 2),(1,iI q.make.1),(4,iI 1)]) rfl (v:=.agg (aZ.c9 ⟨2,q.make.1,0,false,1⟩)) fun _=>kq) rfl (gO ?_))) (by show(0:Int)<=0/\(0:Int)<2;omega));refine sd (gu (.t2 .aa) (aZ.put O O.first 2 q.make.1 false 1 ⟨hf3.1,hf3.2.1⟩) rfl ⟨rfl,rfl⟩ (rq [0,1,2,3,4,5,6,7,8,9] mixed (sd (Cx (.ao .aa) (XJ _ _) (XO.v (V.build (vs:= #[(0,iI 3),(1,iI q.make.1),(4,iI 1)]) rfl (v:=.agg (aZ.c9 ⟨3,q.make.1,0,false,1⟩)) fun _=>kq) rfl (gO ?_))) (by show(0:Int)<=1/\(1:Int)<2;omega)))) ⟨hf3.1,hf3.2.1⟩;refine sd (gu (.t2 .aa) (aZ.put (O.lay O.first 2 q.make.1 false) O.fc 3 q.make.1 false 1 hf5) rfl ⟨rfl,rfl⟩ (rq [0,1,2,3,4,5,6,7,8] mixed (sd (Cx (.ao .aa) (XH _ _) (sd (Cx (.ao .aa) (XJ _ _) (wy rfl rfl rfl rfl (ai (pk [2,0]) rfl ?_))) (by show(0:Int)<=1/\(1:Int)<2;omega))) (by show(0:Int)<=0/\(0:Int)<2;omega)))) hf5;have hz:q.make.2.1=0:=Decidable.byContradiction aq;have e:im q O=0:=by unfold im;rw[if_neg hf6,hz]
   have eV:ml q O=O.first:=by unfold ml;rw[if_pos e]
   have eU:nV q O=O.fc:=by unfold nV;rw[if_pos e]
   have eO:jl q O=(O.lay O.first 2 q.make.1 false).lay O.fc 3 q.make.1 false:=by unfold jl;rw[if_pos e]
   have eP:kA q O=q.make.2.2:=by unfold kA;rw[if_neg hf6]
   exact⟨by rw[e,eV,eU];rfl,by rw[eO,eP];rfl⟩
end Go.X.Tr


namespace Go.Proofs
open Go.Shelf
def G4:Go.Shelf.Ren:=⟨fun | 146=>246 | 221=>265 | 268=>277 | 138=>278 | 143=>279 | 195=>284 | 197=>285 | 218=>286 | 219=>287 | 260=>290 | 217=>291 | 225=>292 | 224=>293 | 267=>294 | 266=>295 | 314=>296 | n=>n,fun | 9=>9 | 31=>207 | 3=>3 | 4=>4 | 0=>0 | 105=>306 | 21=>21 | 5=>5 | 46=>258 | 119=>311 | 139=>314 | 138=>313 | 146=>315 | 51=>257 | n=>n,fun | 1=>2 | 3=>3 | 4=>4 | n=>n⟩
def UM:Go.Proofs.Lays.n146 Tryz.prog G4:= {
 mixed:=by kernel_rfl
 f138:=func278.trans (congrArg some (by kernel_rfl))
 f143:=func279.trans (congrArg some (by kernel_rfl))
 f146:=func246.trans (congrArg some (by kernel_rfl))
 f195:=func284.trans (congrArg some (by kernel_rfl))
 f197:=func285.trans (congrArg some (by kernel_rfl))
 f217:=func291.trans (congrArg some (by kernel_rfl))
 f218:=func286.trans (congrArg some (by kernel_rfl))
 f219:=func287.trans (congrArg some (by kernel_rfl))
 f221:=func265.trans (congrArg some (by kernel_rfl))
 f224:=func293.trans (congrArg some (by kernel_rfl))
 f225:=func292.trans (congrArg some (by kernel_rfl))
 f260:=func290.trans (congrArg some (by kernel_rfl))
 f266:=func295.trans (congrArg some (by kernel_rfl))
 f267:=func294.trans (congrArg some (by kernel_rfl))
 f268:=func277.trans (congrArg some (by kernel_rfl))
 f314:=func296.trans (congrArg some (by kernel_rfl))
 t0:=underlying0
 a0:=Tryz.isAgg0
 z0:=Tryz.sizeOf0
 v0:=Tryz.zeroValue0
 t3:=underlying3
 a3:=Tryz.isAgg3
 z3:=Tryz.sizeOf3
 v3:=Tryz.zeroValue3
 t4:=underlying4
 a4:=Tryz.isAgg4
 z4:=Tryz.sizeOf4
 v4:=Tryz.zeroValue4
 t5:=underlying5
 a5:=Tryz.isAgg5
 z5:=Tryz.sizeOf5
 v5:=Tryz.zeroValue5
 t9:=underlying9
 a9:=Tryz.isAgg9
 z9:=Tryz.sizeOf9
 v9:=Tryz.zeroValue9
 t21:=underlying21
 a21:=Tryz.isAgg21
 z21:=Tryz.sizeOf21
 v21:=Tryz.zeroValue21
 t31:=underlying207
 a31:=Tryz.isAgg207
 z31:=Tryz.sizeOf207
 v31:=Tryz.zeroValue207
 t46:=underlying258
 a46:=Tryz.isAgg258
 z46:=Tryz.sizeOf258
 v46:=Tryz.zeroValue258
 t51:=underlying257
 a51:=Tryz.isAgg257
 z51:=Tryz.sizeOf257
 v51:=Tryz.zeroValue257
 t105:=underlying306
 a105:=Tryz.isAgg306
 z105:=Tryz.sizeOf306
 v105:=Tryz.zeroValue306
 t119:=underlying311
 a119:=Tryz.isAgg311
 z119:=Tryz.sizeOf311
 t138:=underlying313
 a138:=Tryz.isAgg313
 z138:=Tryz.sizeOf313
 v138:=Tryz.zeroValue313
 t139:=underlying314
 a139:=Tryz.isAgg314
 z139:=Tryz.sizeOf314
 v139:=Tryz.zeroValue314
 t146:=underlying315
 a146:=Tryz.isAgg315
 z146:=Tryz.sizeOf315
 v146:=Tryz.zeroValue315
 g1:=by kernel_rfl
 g3:=by kernel_rfl
 g4:=by kernel_rfl}
end Go.Proofs

namespace Go.X.Tr
open Go Go.Proofs Go.X
def dN:fE Tryz.prog 163=some 2:=kq
def acz:(Tryz.prog.underlying 163=some (.struct (Tryz.prog.fieldsOf 163))/\Tryz.prog.stoodInHeld 163=false)/\Tryz.prog.eqGuardType Tryz.prog.depth 163=false/\two Tryz.prog 163=true:=⟨⟨kq,kq⟩,kq,kq⟩
def acA(s:ByteArray)(hs:s.size<=1000000):Fn 246 [.string s,.string ⟨#[47]⟩] [] (fun v H1=>∃ b,v= .slice (some ⟨b,0,none⟩) (eM s).length (eM s).length/\H1=[kR (some ⟨b,0,none⟩) (eM s).length 9 (eM s)]):=
 Pj Go.Proofs.UM kq s hs
def Zb(bt bf:Nat)(r:WH)(l:List MT)(p:Option Addr)(cap k c:Nat)(C:Nat->Value)(hv:RV.ok ⟨p,cap,k,l.length,c,C⟩)(hC:MC C l)(P1:l.length<=6)(w:WH):Fn 248 [ay bt 0 0,.agg (WH.c9 w)] [f4 bt bf r (.slice p l.length c),aN p cap 168 4 k C] (ap (.agg (WH.c9 (nw l w))) [f4 bt bf r (.slice p l.length c),aN p cap 168 4 k C]):=by
 have jz:=pZ hv;have jz:l.length<=k:=jz;refine Spec.g 30 [0,3,4,5,7,8,9,13,14,15,16,22,27] func248 fun W=> ?_;refine XO.box (m:=2) (C:=bd (w)) rfl rfl (bd.box _) rfl ?_;intro bw;apply gO;apply XO.bP (z:=.agg (WH.c9 WH.nil)) (m:=2) (C:=bd WH.nil) (bd.box _);intro br;apply gO;refine wl (σ:=Int×WH) (fun x=>(6-x.1).toNat) (fun x=>(0<=x.1/\x.1<=6)/\ovN l (6-x.1).toNat x.2=nw l w) (fun x=>[(8,iI x.1),(0,ay bt 0 0),(3,ay bw 0 0),(4,ay br 0 0)]) (fun x=>[f8 bw x.2,f8 br WH.nil,f4 bt bf r (.slice p l.length c),aN p cap 168 4 k C]) ((0,w)) ?_ (pk [1,0,0,0]) ?_
 ·grind [nw]
 intro x hx;obtain⟨⟨q8,KI⟩,hov⟩:=hx;apply gC;apply (cd)<;>intro h1
 ·apply ld (.t2 .aa) (lO _ _);refine wl (σ:=Int) (fun i=>(l.length-i).toNat) (fun i=>(0<=i/\i<=l.length)/\∀ j:Int,0<=j->j<i->(rD l j).at_≠x.2) (fun i=>[(5,.bool false),(15,iI i),(0,ay bt 0 0),(3,ay bw 0 0),(4,ay br 0 0),(8,iI x.1),(13,.slice p l.length c),(14,iI l.length)]) (fun i=>[f8 bw x.2,f8 br WH.nil,f4 bt bf r (.slice p l.length c),aN p cap 168 4 k C]) (0) ?_ (pz 4) ?_
  ·grind
  intro i hi;obtain⟨⟨hi0,hi1⟩,rK⟩:=hi;apply gC;apply (cd)<;>intro h2
  ·apply bV (.t3 .aa) og;intro g hg;subst hg;apply (sd);apply rX (.t3 .aa) (hC.ld jz _ og);apply XO.bP (z:=.agg (MT.c9 MT.nil)) (m:=4) (C:=fT MT.nil) (fT.box _);intro bm;apply gO;apply gu .aa (fT.st _ _) rfl ⟨rfl,rfl⟩;apply mP .aa (fT.mP _);apply mP (.ao .aa) (bd.agg _);refine XO.v (Rl rfl rfl acz) rfl (gO ?_);apply (cd)<;>intro h3
   ·have hs:=XV (l:=l) ⟨og,og⟩ rK h3;apply mP .aa (T6 _);apply gu (.ao .aa) (bd.st _ _) rfl ⟨rfl,rfl⟩;apply (sd);refine wn ((x.1+1,(rD l i).to)) ?_ ?_ (pk [1,1,1,1])
    ·omega
    ·exact⟨⟨eI,eI⟩,by rw[<-hov,show(6-x.1).toNat=(6-(x.1+1)).toNat+1 from og,XX hs]⟩
   ·apply (sd);refine wn (i+1) ?_ ?_ (pk [1,1,1,1]);all_goals grind
  ·have hs:=XU (l:=l) (w:=x.2) fun j a b=>rK j a og;apply mP .aa (bd.agg _);apply gu (.ao .aa) (bd.st _ _) rfl ⟨rfl,rfl⟩;refine kf rfl (.agg rfl (.ao .aa) (bd.agg _) kq dN) (ai (pk [2,2]) rfl ?_);grind [XW]
 ·apply mP .aa (bd.agg _);apply gu (.ao .aa) (bd.st _ _) rfl ⟨rfl,rfl⟩;refine kf rfl (.agg rfl (.ao .aa) (bd.agg _) kq dN) (ai (pk [2,2]) rfl ?_);have e6:x.1=6:=og;exact⟨by rw[<-hov,e6];rfl,rfl⟩
def Kq(x:ByteArray)(hx:x.size<=1000000:=by omega):Fn 231 [.string x] [] (fun v H1=>(jH x=9/\v= .tuple #[.slice none 0 0,.iface 102 (iI 9)]/\H1=[])\/(jH x=0/\∃ q c,v= .tuple #[.slice q (cB x).length c,.nilIface]/\H1=[kR q c 9 (cB x)])):=by
 refine Spec.g 41 [0,2,3,4,6,18,21,25,26,27,28,37] func231 fun W=> ?_;apply UV 10<;>intro h1
 ·refine fg .nil ?_;grind [aR,aQ,bQ,jH]
 ·have hx6:¬ 60<x.size:=og;apply UV 14<;>intro h2
  ·refine fg .nil ?_;grind [aR,aQ,bQ,jH]
  ·have gJ:¬x=⟨#[]⟩:=aq;obtain⟨u,hu⟩:=Mt (s:=x) (j:=(0:Int).toNat) (by
     have h0:¬x.size=0:=fun q=>gJ (Ak.2 q)
     show 0<x.size;omega)
   have hg:x.get! 0=u:=Xu hu;refine XO.v (ic rfl rfl underlying9 og hu) rfl (gO ?_);apply (cd)<;>intro h3
   ·refine fg .nil ?_;try dsimp only[aR,aQ,bH,bQ]
    exact .inl ⟨MO (.inr (.inr (fun q=>(by assumption:¬((u.toNat:Nat):Int)=47) (by rw[hg]at q;rw[q];rfl)))),rfl,rfl⟩
   ·have hc:¬(60<x.size\/x=⟨#[]⟩\/x.get! 0≠47):=by
     rintro(a | a | a)
     ·omega
     ·simp_all
     ·exact a (by rw[hg];exact UInt8.toNat_inj.1 (by show u.toNat=47;omega))
    have KI:1<=x.size:=by
     grind
    apply (cd)<;>intro h4
    ·refine XR.fU 9 1 (bC rfl rfl rfl (ai .h1 rfl ?_));try dsimp only[aR,aQ,bH,bQ]
     have D9:x=iW:=aq;have e:=JU D9;exact .inr ⟨e.1,none,0,by rw[e.2];rfl,by rw[e.2];rfl⟩
    ·have D9:¬x=iW:=aq;refine sd ?_ ⟨og,og⟩;refine ca (acA _ (by rw[ByteArray.size_extract];omega)) .nil ?_;rintro _ _ ⟨b1,rfl,rfl⟩;have hps:((1:Int).toNat)=1:=rfl;apply gO;refine wl (σ:=Int) (fun i=>((eM (x.extract 1 x.size)).length-i).toNat) (fun i=>(0<=i/\i<=(eM (x.extract 1 x.size)).length)/\∀ j:Int,0<=j->j<i->yY (lr (eM (x.extract 1 x.size)) j)=true) (fun i=>[(27,iI i),(4,.slice (some ⟨b1,0,none⟩) (eM (x.extract 1 x.size)).length (eM (x.extract 1 x.size)).length),(25,.slice (some ⟨b1,0,none⟩) (eM (x.extract 1 x.size)).length (eM (x.extract 1 x.size)).length),(26,iI (eM (x.extract 1 x.size)).length)]) (fun i=>[kR (some ⟨b1,0,none⟩) (eM (x.extract 1 x.size)).length 9 (eM (x.extract 1 x.size))]) (0) ?_ .h1 ?_
     ·grind
     intro i hi;obtain⟨⟨hi0,hi1⟩,uX⟩:=hi;have hpc:=zd (x.extract 1 x.size);rw[ByteArray.size_extract]at hpc;apply gC;apply (cd)<;>intro h5
     ·refine sd (Cx .aa (te) ?_);apply UV 33<;>intro h6
      ·refine cq (Y3 _ (by have:=Il (x.extract 1 x.size) (z:=i) ⟨og,og⟩;rw[ByteArray.size_extract]at this;omega)) .nil ?_;apply (yx)<;>intro h7
       ·try simp only[sb]at h7
        refine fg .nil ?_;grind [aR,aQ,bQ,O5,yY,dd]
       ·try simp only[sb]at h7
        refine sd (wn (i+1) ?_ ?_ .h1);all_goals grind [yY]
      ·refine sd (wn (i+1) ?_ ?_ .h1);all_goals grind [yY,dd]
     ·refine fg .h1 ?_;try dsimp only[aR,aQ,bH,bQ]
      have e:=MP hc D9 fun j a b=>uX j a og;simp_all
def P2(bt bf:Nat)(r:WH)(l:List MT)(p:Option Addr)(cap k c:Nat)(C:Nat->Value)(hv:RV.ok ⟨p,cap,k,l.length,c,C⟩)(hC:MC C l)(P1:l.length<=6)(s:FC)(hI:s.toFF.Sh)(q:Option Addr)(cqz:Nat)(ns:List ByteArray)(n:Nat)(hn:n<=ns.length:=by omega)(hn6:ns.length<=1000000:=by omega):Fn 232 [ay bt 0 0,.slice q n cqz] [f4 bt bf r (.slice p l.length c),aN p cap 168 4 k C,bi bf 0 s,g6 s,g7 s,kR q cqz 9 ns] (ap (.tuple #[.agg (WH.c9 (BX s.toFF l r (ns.take n)).2),ax 102 (BX s.toFF l r (ns.take n)).1]) [f4 bt bf r (.slice p l.length c),aN p cap 168 4 k C,bi bf 0 s,g6 s,g7 s,kR q cqz 9 ns]):=by
 have jz:=pZ hv;have jz:l.length<=k:=jz;refine Spec.g 72 [0,1,4,5,6,8,9,10,11,19,20,21,22,32,35,53] func232 fun W=> ?_;refine XO.bP (z:=.agg (WH.c9 WH.nil)) (m:=2) (C:=bd WH.nil) (bd.box _) ?_;intro br;apply gO;refine mP (.ao .aa) (aM.Gg _ _) ?_;refine cq (Zb _ _ _ _ _ _ _ _ _ hv hC P1 _) (pk [1,1]) ?_;refine iL (e:=163) (vs:= #[(0,.agg (WH.c9 (nw l r)))]) (A:= #[iI (nw l r).ed,iI (nw l r).node]) (sz:=2) rfl (fun _=>kq) rfl og rfl ?_;intro bw;apply gO;refine lp (σ:=List WH×Option Addr×Nat×Int) (fun x=>(n-x.2.2.2).toNat) (fun x=>wk s.toFF l x.1 ((ns.take n).drop x.2.2.2.toNat)=BX s.toFF l r (ns.take n)/\(0<=x.2.2.2/\x.2.2.2<=n)/\1<=x.1.length/\x.1.length<=x.2.2.2+1) (fun x=>[(6,.slice x.2.1 x.1.length x.2.2.1),(21,iI x.2.2.2),(0,ay bt 0 0),(4,ay br 0 0),(19,.slice q n cqz),(20,iI n)]) (fun x=>XM W (cx [f4 bt bf r (.slice p l.length c),aN p cap 168 4 k C,bi bf 0 s,g6 s,g7 s,kR q cqz 9 ns]) [f4 bt bf r (.slice p l.length c),aN p cap 168 4 k C,bi bf 0 s,g6 s,g7 s,kR q cqz 9 ns,f8 br WH.nil,aN x.2.1 x.2.2.1 163 2 x.1.length (wC x.1)]) (([nw l r],some ⟨bw,0,none⟩,1,0)) ?_ S6 (fun _ hw=>by rw[alC]at hw;exact XM.pick (pk [1,1,2,2,2,2,1,0]) hw) ?_
 ·grind [BX]
 intro x hx;obtain⟨hwk,⟨hi0,hi1⟩,hl1,hl2⟩:=hx;have hla:∀ a:WH,(x.1++[a]).length=x.1.length+1:=fun a=>sq;apply gC;apply (cd)<;>intro h2
 ·refine bV (.t5 .aa) (by show 0<ns.length;omega) ?_;intro g hg;subst hg;refine sd (Cx (.t5 .aa) (te) (bV (.t7 .aa) og ?_));intro g2 hg2;rw[hg2];refine sd (sd (rX (.t7 .aa) (XT x.1 _ ⟨og,og⟩) (XO.bP (z:=.agg (WH.c9 WH.nil)) (m:=2) (C:=bd WH.nil) (bd.box _) ?_)));intro ba;apply gO;refine gu .aa (bd.st _ _) rfl ⟨rfl,rfl⟩ ?_;have hdr:=T8 (ns:=ns) (n:=n) hn (i:=x.2.2.2) ⟨og,og⟩;apply (cd)<;>intro h3
  ·have hdd:lr ns x.2.2.2=dd:=aq;apply (cd)<;>intro h4
   ·have sW:(x.1.take (x.1.length-1)).length=x.1.length-1:=sq;refine sd (rW (.t8 .aa) ?_);intro I5;refine XO.VH (k2:=x.1.length-1) (C':=wC (x.1.take (x.1.length-1))) rfl rfl underlying269 dN og og I5 (fun i hi=>abL x.1 _ i hi) (.t8 .aa) rfl (gO ?_);refine sd (ag ((x.1.take (x.1.length-1),some ⟨g2,0,none⟩,x.2.2.1,x.2.2.2+1)) ?_ ?_ (S6 (by show lk _ _=some (Value.slice _ (x.1.take (x.1.length-1)).length _);rw[sW];rfl) rfl rfl rfl rfl rfl) fun _ hw=>by show XM _ _ [_,_,_,_,_,_,_,aG.row (.slice _ (x.1.take (x.1.length-1)).length _) _ _ (x.1.take (x.1.length-1)).length _] _;rw[sW];exact XM.pick (pk (rr 8 1 [])) hw);all_goals grind [aiO]
   ·refine sd (wn ((x.1,some ⟨g2,0,none⟩,x.2.2.1,x.2.2.2+1)) ?_ ?_ (pk (rr 8 1 [])));all_goals grind [abN]
  ·have hdd:¬lr ns x.2.2.2=dd:=aq;refine rq [0,1,2,3,4,5,6,7,8,9,10,11,12] mixed (ld (.ao .aa) (aM.Dy _ _) (ld .aa (bd.Gg _) ?_));refine cq (zh _ _ _ hI _ _) (pk [3,3,3]) ?_;apply (cd)<;>intro h5
   ·have hfe:¬s.toFF.fX (lh x.1).node (lr ns x.2.2.2)=0:=aq;refine XO.v (V.build (vs:= #[]) rfl (v:=.agg (WH.c9 WH.nil)) fun _=>kq) rfl (gO ?_);refine gu (.t7 .aa) (bd.st _ _) rfl ⟨rfl,rfl⟩ (dU rfl (.agg rfl (.t7 .aa) (bd.agg _) kq dN) (.tmp rfl) (ai (pk [4,4,0,0,0,1]) rfl ?_));grind [aR,aQ,lh,afG]
   ·have hfe:s.toFF.fX (lh x.1).node (lr ns x.2.2.2)=0:=Decidable.byContradiction aq;refine ld (.t3 .aa) (bd.Dy _) (XO.v (V.build (vs:= #[(0,iI (lh x.1).ed),(1,iI (s.toFF.bS (lh x.1).node (lr ns x.2.2.2)))]) rfl (v:=.agg (WH.c9 ⟨(lh x.1).ed,s.toFF.bS (lh x.1).node (lr ns x.2.2.2)⟩)) fun _=>kq) rfl (gO ?_));refine cq (Zb _ _ _ _ _ _ _ _ _ hv hC P1 _) (pk [4,4]) ?_;refine XO.buildSlice (e:=163) (vs:= #[(0,.agg (WH.c9 (nw l ⟨(lh x.1).ed,s.toFF.bS (lh x.1).node (lr ns x.2.2.2)⟩)))]) (A:= #[iI (nw l ⟨(lh x.1).ed,s.toFF.bS (lh x.1).node (lr ns x.2.2.2)⟩).ed,iI (nw l ⟨(lh x.1).ed,s.toFF.bS (lh x.1).node (lr ns x.2.2.2)⟩).node]) rfl (fun _=>kq) rfl rfl ?_;intro h6;apply gO;refine yq (e:=163) (C2:=wC (x.1++[nw l ⟨(lh x.1).ed,s.toFF.bS (lh x.1).node (lr ns x.2.2.2)⟩])) rfl rfl underlying269 kq (.t9 .aa) .aa rfl rfl og og (fun i hi=>afE x.1 _ _ (bd.box _) i hi) rfl ?_;intro pw2 cw2;apply gO;refine sd (ag ((x.1++[nw l ⟨(lh x.1).ed,s.toFF.bS (lh x.1).node (lr ns x.2.2.2)⟩],pw2,cw2,x.2.2.2+1)) ?_ ?_ (S6 (by show lk _ _=some (Value.slice _ (x.1++[nw l ⟨(lh x.1).ed,s.toFF.bS (lh x.1).node (lr ns x.2.2.2)⟩]).length _);rw[hla];rfl) rfl rfl rfl rfl rfl) fun _ hw=>by show XM _ _ [_,_,_,_,_,_,_,aG.row (.slice _ (x.1++[nw l ⟨(lh x.1).ed,s.toFF.bS (lh x.1).node (lr ns x.2.2.2)⟩]).length _) _ _ (x.1++[nw l ⟨(lh x.1).ed,s.toFF.bS (lh x.1).node (lr ns x.2.2.2)⟩]).length _] _;rw[hla];exact XM.pick (pk [2,2,2,2,2,3,3,0]) hw);all_goals grind [abO]
 ·refine bV (.t7 .aa) og ?_;intro g2 hg2;rw[hg2];refine sd (sd (rX (.t7 .aa) (XT x.1 _ ⟨og,og⟩) (gu (.t6 .aa) (bd.st _ _) rfl ⟨rfl,rfl⟩ (dU rfl (.agg rfl (.t6 .aa) (bd.agg _) kq dN) (.tmp rfl) (ai (pz 6) rfl ?_)))));have ei:x.2.2.2=n:=og;have e:BX s.toFF l r (ns.take n)=(0,lh x.1):=by rw[<-hwk,ei];exact afH hn
  exact⟨by rw[e];rfl,rfl⟩
def agN:wz Tryz.prog 207=some (9,1):=kq
def Zd:fE Tryz.prog 9=some 1:=kq
def F6(bt bf:Nat)(r:WH)(l:List MT)(p:Option Addr)(cap k c:Nat)(C:Nat->Value)(hv:RV.ok ⟨p,cap,k,l.length,c,C⟩)(hC:MC C l)(P1:l.length<=6)(s:FC)(hI:s.toFF.Sh)(x:ByteArray)(hx:x.size<=100000):Fn 205 [ay bt 0 0,.string x] [f4 bt bf r (.slice p l.length c),aN p cap 168 4 k C,bi bf 0 s,g6 s,g7 s] (ap (.tuple #[.agg (WH.c9 (MM s.toFF l r x)),ax 102 (XY s.toFF l r x)]) [f4 bt bf r (.slice p l.length c),aN p cap 168 4 k C,bi bf 0 s,g6 s,g7 s]):=by
 refine Spec.g 22 [0,1,4,5,6,7,14] func205 fun W=> ?_;apply XO.bP (z:=.agg (WH.c9 WH.nil)) (m:=2) (C:=bd WH.nil) (bd.box _);intro br;apply gO;refine ca (Kq _) .nil ?_;rintro _ _ (⟨e9,rfl,rfl⟩ | ⟨e0,q,cqz,rfl,rfl⟩)
 ·apply gO;refine XO.v (V.build (vs:= #[]) rfl (v:=.agg (WH.c9 WH.nil)) fun _=>kq) rfl (gO ?_);refine gu .aa (bd.st _ _) rfl ⟨rfl,rfl⟩ (dU rfl (.agg rfl .aa (bd.agg _) kq dN) (.tmp rfl) (ai (pk [1,1,1,1,1]) rfl ?_));try dsimp only[aR,aQ,bH,bQ]
  grind [XY,MM,ax]
 ·have hsv:=ze x;apply gO;refine ca (P2 _ _ _ _ _ _ _ _ _ hv hC P1 s hI _ _ (cB x) ((cB x).length) (Nat.le_refl _)) (pk [2,2,2,2,2,0]) ?_;rintro _ _ ⟨rfl,rfl⟩;rw[List.take_length];apply gO;refine gu (.t6 .aa) (bd.st _ _) rfl ⟨rfl,rfl⟩ (dU rfl (.agg rfl (.t6 .aa) (bd.agg _) kq dN) (.tmp rfl) (ai (pz 5) rfl ?_));grind [aR,aQ,XY,MM]
def aef(bt bf:Nat)(r:WH)(l:List MT)(p:Option Addr)(cap k c:Nat)(C:Nat->Value)(hv:RV.ok ⟨p,cap,k,l.length,c,C⟩)(hC:MC C l)(P1:l.length<=6)(s:FC)(hI:s.toFF.Sh)(x:ByteArray)(hx:x.size<=100000):Fn 213 [ay bt 0 0,.string x] [f4 bt bf r (.slice p l.length c),aN p cap 168 4 k C,bi bf 0 s,g6 s,g7 s] (ap (.tuple #[.agg (WH.c9 (Di s.toFF l r x)),ax 102 (JT s.toFF l r x)]) [f4 bt bf r (.slice p l.length c),aN p cap 168 4 k C,bi bf 0 s,g6 s,g7 s]):=by
 refine Spec.g 70 [0,1,4,5,6,7,8,9,10,17,24,33,45,63] func213 fun W=> ?_;apply XO.bP (z:=.agg (WH.c9 WH.nil)) (m:=2) (C:=bd WH.nil) (bd.box _);intro br;apply gO;refine ca (Kq _) .nil ?_;rintro _ _ (⟨e9,rfl,rfl⟩ | ⟨e0,q,cqz,rfl,rfl⟩)
 apply gO;refine XO.v (V.build (vs:= #[]) rfl (v:=.agg (WH.c9 WH.nil)) fun _=>kq) rfl (gO ?_);refine gu .aa (bd.st _ _) rfl ⟨rfl,rfl⟩ (dU rfl (.agg rfl .aa (bd.agg _) kq dN) (.tmp rfl) (ai (pk [1,1,1,1,1]) rfl ?_));rotate_left
 have hsv:=ze x;apply gO;apply (sd);apply (cd)<;>intro h1
 have h0:(cB x).length=0:=og;refine mP (.t2 .aa) (aM.Gg _ _) (gu (.ao .aa) (bd.st _ _) rfl ⟨rfl,rfl⟩ (dU rfl (.agg rfl (.ao .aa) (bd.agg _) kq dN) (.tmp rfl) (ai (pk [2,2,2,2,2]) rfl ?_)));rotate_left
 have h0:¬(cB x).length=0:=og;apply bV .aa og;intro g hg;subst hg;refine sd (Cx .aa (te) ?_);apply (cd)<;>intro h2
 have hd:oG (cB x)=dd:=h2;refine XO.v (V.build (vs:= #[]) rfl (v:=.agg (WH.c9 WH.nil)) fun _=>kq) rfl (gO ?_);refine gu (.ao .aa) (bd.st _ _) rfl ⟨rfl,rfl⟩ (dU rfl (.agg rfl (.ao .aa) (bd.agg _) kq dN) (.tmp rfl) (ai (pk [2,2,2,2,2]) rfl ?_));rotate_left
 ·have hd:¬oG (cB x)=dd:=h2;apply rW .aa;intro I5;refine XO.v (Ee (m:=(cB x).length-1) rfl rfl underlying207 Zd og og) rfl (gO ?_);refine cq (P2 _ _ _ _ _ _ _ _ _ hv hC P1 s hI _ _ (cB x) ((cB x).length-1)) (pk [2,2,2,2,2,0]) ?_;apply XO.bP (z:=.agg (WH.c9 WH.nil)) (m:=2) (C:=bd WH.nil) (bd.box _);intro b9;apply gO;apply gu .aa (bd.st _ _) rfl ⟨rfl,rfl⟩;apply (cd)<;>intro h3
  ·have hl:¬(BX s.toFF l r (lj (cB x))).1=0:=h3;refine XO.v (V.build (vs:= #[]) rfl (v:=.agg (WH.c9 WH.nil)) fun _=>kq) rfl (gO ?_);refine gu (.t7 .aa) (bd.st _ _) rfl ⟨rfl,rfl⟩ (dU rfl (.agg rfl (.t7 .aa) (bd.agg _) kq dN) (.tmp rfl) (ai (pk [1,1,1,1,1]) rfl ?_));grind [aR,aQ,JT,lj,Di]
  ·have hl:(BX s.toFF l r (lj (cB x))).1=0:=Decidable.byContradiction h3;refine rq [0,1,2,3,4,5,6,7,8,9,10,11,12,13,14,15] mixed (ld (.ao .aa) (aM.Dy _ _) (ld .aa (bd.Gg _) (sd (Cx (.t6 .aa) (te) ?_))));refine cq (zh _ _ _ hI _ _) (pk [3,3,3]) ?_;apply (cd)<;>intro h4
   ·have hf:¬s.toFF.fX (BX s.toFF l r (lj (cB x))).2.node (oG (cB x))=0:=h4;refine XO.v (V.build (vs:= #[]) rfl (v:=.agg (WH.c9 WH.nil)) fun _=>kq) rfl (gO ?_);refine gu (.t7 .aa) (bd.st _ _) rfl ⟨rfl,rfl⟩ (dU rfl (.agg rfl (.t7 .aa) (bd.agg _) kq dN) (.tmp rfl) (ai (pk [4,4,0,0,0]) rfl ?_));grind [aR,aQ,JT,lj,oG,Di]
   ·have hf:s.toFF.fX (BX s.toFF l r (lj (cB x))).2.node (oG (cB x))=0:=Decidable.byContradiction h4;refine ld (.t3 .aa) (bd.Dy _) (XO.v (V.build (vs:= #[(0,iI (BX s.toFF l r (lj (cB x))).2.ed),(1,iI (s.toFF.bS (BX s.toFF l r (lj (cB x))).2.node (oG (cB x))))]) rfl (v:=.agg (WH.c9 ⟨(BX s.toFF l r (lj (cB x))).2.ed,s.toFF.bS (BX s.toFF l r (lj (cB x))).2.node (oG (cB x))⟩)) fun _=>kq) rfl (gO ?_));refine gu (.t7 .aa) (bd.st _ _) rfl ⟨rfl,rfl⟩ (dU rfl (.agg rfl (.t7 .aa) (bd.agg _) kq dN) (.tmp rfl) (ai (pk [4,4,0,0,0]) rfl ?_));try dsimp only[aR,aQ,bH,bQ]
    have e:JT s.toFF l r x=0:=by unfold JT;rw[if_neg og,if_neg h0,if_neg hd,if_neg fun q=>q hl,hf]
    have e2:Di s.toFF l r x=⟨(BX s.toFF l r (lj (cB x))).2.ed,s.toFF.bS (BX s.toFF l r (lj (cB x))).2.node (oG (cB x))⟩:=by unfold Di;rw[if_neg og,if_neg h0]
    grind [ax]
 all_goals
  try dsimp only[aR,aQ,bH,bQ]
  grind [JT,Di,ax]
def Co(bt bf:Nat)(r:WH)(l:List MT)(p:Option Addr)(cap k c:Nat)(C:Nat->Value)(hv:RV.ok ⟨p,cap,k,l.length,c,C⟩)(hC:MC C l)(P1:l.length<=6)(s:FC)(hI:s.toFF.Sh)(x:ByteArray)(hx:x.size<=100000):Fn 206 [ay bt 0 0,.string x] [f4 bt bf r (.slice p l.length c),aN p cap 168 4 k C,bi bf 0 s,g6 s,g7 s] (ap (.tuple #[.agg (WH.c9 (vQ s.toFF l r x)),.string (sF s.toFF l r x),ax 102 (Ay s.toFF l r x)]) [f4 bt bf r (.slice p l.length c),aN p cap 168 4 k C,bi bf 0 s,g6 s,g7 s]):=by
 refine Spec.g 51 [0,1,4,5,6,7,8,9,10,17,31,43] func206 fun W=> ?_;apply XO.bP (z:=.agg (WH.c9 WH.nil)) (m:=2) (C:=bd WH.nil) (bd.box _);intro br;apply gO;refine ca (Kq _) .nil ?_;rintro _ _ (⟨e9,rfl,rfl⟩ | ⟨e0,q,cqz,rfl,rfl⟩)
 ·apply gO;refine XO.v (V.build (vs:= #[]) rfl (v:=.agg (WH.c9 WH.nil)) fun _=>kq) rfl (gO ?_);apply gu .aa (bd.st _ _) rfl ⟨rfl,rfl⟩;refine vc rfl (.agg rfl .aa (bd.agg _) kq dN) (.tmp rfl) (.tmp rfl) (ai (pk [1,1,1,1,1]) rfl ?_);try dsimp only[aR,aQ,bH,bQ]
  grind [Ay,vQ,sF,ax]
 have hsv:=ze x;apply gO;apply (sd);apply UV 25<;>intro h1
 have h0:(cB x).length=0:=og;rotate_left
 have h0:¬(cB x).length=0:=og;apply bV .aa og;intro g hg;subst hg;apply (sd);apply Cx .aa (te);apply (cd)<;>intro h2
 have hd:oG (cB x)=dd:=h2;rotate_left
 ·have hd:¬oG (cB x)=dd:=h2;apply rW .aa;intro I5;refine XO.v (Ee (m:=(cB x).length-1) rfl rfl underlying207 Zd og og) rfl (gO ?_);refine cq (P2 _ _ _ _ _ _ _ _ _ hv hC P1 s hI _ _ (cB x) ((cB x).length-1)) (pk [2,2,2,2,2,0]) ?_;apply XO.bP (z:=.agg (WH.c9 WH.nil)) (m:=2) (C:=bd WH.nil) (bd.box _);intro b9;apply gO;apply gu .aa (bd.st _ _) rfl ⟨rfl,rfl⟩;apply (cd)<;>intro h3
  ·have hl:¬(BX s.toFF l r (lj (cB x))).1=0:=h3;refine XO.v (V.build (vs:= #[]) rfl (v:=.agg (WH.c9 WH.nil)) fun _=>kq) rfl (gO ?_);apply gu (.t7 .aa) (bd.st _ _) rfl ⟨rfl,rfl⟩;refine vc rfl (.agg rfl (.t7 .aa) (bd.agg _) kq dN) (.tmp rfl) (.tmp rfl) (ai (pk [1,1,1,1,1]) rfl ?_);grind [aR,aQ,bQ,Ay,lj,vQ,sF]
  ·have hl:(BX s.toFF l r (lj (cB x))).1=0:=Decidable.byContradiction h3;apply XC.ir mixed (f:=8) (l:= #[qF,qF,qF,qF,qF,qF,qF,qF]) rfl rfl XM.kQ;refine XQ.lf 0 [5] rfl rfl .aa rfl (bd.agg _) ?_;refine XQ.mv 1 rfl rfl rfl ?_;refine XQ.mv 2 rfl rfl rfl ?_;refine XQ.pw 3 rfl rfl (Ha rfl rfl agN og) ?_;apply XQ.load (i:=4) (.row _ _ _ _ _) [] rfl kq rfl (.t6 .aa) (Ba rfl eA (te) kq) rfl kq rfl;refine XQ.gz (i:=5) rfl kq rfl rfl rfl (.t7 .aa) (bd.st _ _) ⟨rfl,rfl⟩ dN ut ?_;refine XQ.pw 6 rfl rfl (V.assign rfl) ?_;refine XQ.pw 7 rfl rfl (V.assign rfl) ?_;apply XQ.done kq;apply gE;refine vc rfl (.agg rfl (.t7 .aa) (bd.agg _) kq dN) (.tmp rfl) (.tmp rfl) (ai (pk [1,1,1,1,1]) rfl ?_);have e:Ay s.toFF l r x=0:=by unfold Ay;rw[if_neg og,if_neg (by rintro(a | a);exact h0 a;exact hd a),hl]
   have e2:vQ s.toFF l r x=(BX s.toFF l r (lj (cB x))).2:=by unfold vQ;rw[if_neg og]
   have e3:sF s.toFF l r x=oG (cB x):=by unfold sF;rw[if_neg og]
   exact⟨by rw[e,e2,e3];rfl,rfl⟩
 all_goals
  refine XO.v (V.build (vs:= #[]) rfl (v:=.agg (WH.c9 WH.nil)) fun _=>kq) rfl (gO ?_);apply gu (.ao .aa) (bd.st _ _) rfl ⟨rfl,rfl⟩;refine vc rfl (.agg rfl (.ao .aa) (bd.agg _) kq dN) (.tmp rfl) (.tmp rfl) (ai (pk [2,2,2,2,2]) rfl ?_);try dsimp only[aR,aQ,bH,bQ]
  grind [Ay,vQ,sF,ax]
end Go.X.Tr
