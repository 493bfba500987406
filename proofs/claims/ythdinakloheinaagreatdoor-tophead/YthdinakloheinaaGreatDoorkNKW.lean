import Derived.Test.YthdinakloheinaaGreatDoorkNW6
import Derived.Test.YthdinakloheinaaGreatDoorkJA
import Derived.Shelf.Strings.Split
import Derived.Ground.NamesProg
import Derived.Shelf.Lays
set_option linter.all false
namespace Go.X.Tr
open Go Go.Proofs Go.X
set_option maxRecDepth 20000
set_option maxHeartbeats 4000000
def Yw(b o:Nat)(K:Int)(hK:K<=1000000)(s:PS)(hI:s.Inv K)(n:Int):Spec Tryz.prog 193 [aA b o 0,iI n] [.cells b o 24 (bO s)] (fun v H1=>((s.is n=0/\0<=n/\n<8)/\v= .tuple #[aA b o (0+0+n.toNat*3),.nilIface]/\H1=[.cells b o 24 (bO s)])\/(s.is n≠0/\v= .tuple #[.pointer none,.iface 102 (iI (s.is n))]/\H1=[.cells b o 24 (bO s)])):=by
 have b0:=hI.e0 n;have b1:=hI.e1 n;have bl:=hI.len n;refine Spec.go 35 [0,1,4,5,11,28] [] Tryz.func193 fun W=> ?_;refine sp 8 rfl ?_ ?_<;>intro h1
 ·refine eH .h1 ?_;grind [aK,aJ,aR,PS.is]
 ·refine cd rfl ?_ ?_<;>intro h2
  ·refine eH .h1 ?_;grind [aK,aJ,aR,PS.is]
  ·refine rq [0,1,2,3,4,5,6,7,8,9,10,11,12,13,14,15] mixed ?_;refine sd ?_;refine ld .aa (ey _ _) ?_;refine sd ?_;refine ld .aa (dU _ _) ?_;refine sd ?_;refine cd rfl ?_ ?_<;>intro h3
   ·refine eH .h1 ?_;grind [aK,aJ,aR,PS.is]
   ·refine sd ?_;refine eH .h1 ?_;grind [aK,aJ,aR,PS.is]
def Dx(b o i:Nat):Spec Tryz.prog 196 [aA b o i,.bool true] [] (fun v H1=>v=aA b o (i+2)/\H1=[]):=by
 refine Spec.go 12 [0,1,4,5] [] Tryz.func196 fun W=> ?_;refine bS .nil ?_;grind [aK,aJ]
def AP(b o i:Nat):Spec Tryz.prog 196 [aA b o i,.bool false] [] (fun v H1=>v=aA b o (i+1)/\H1=[]):=by
 refine Spec.go 12 [0,1,4,5] [] Tryz.func196 fun W=> ?_;refine bS .nil ?_;grind [aK,aJ]
def acs(b o:Nat)(K:Int)(hK:K<=1000000)(s:PS)(hI:s.Inv K):Spec Tryz.prog 135 [aA b o 0] [.cells b o 24 (bO s)] (fun v H1=>v= .tuple #[iI s.make.1,az 102 s.make.2.1]/\H1=[.cells b o 24 (bO s.make.2.2)]):=by
 refine Spec.go 33 [0,2,3,4,5,6,23] [] Tryz.func135 fun W=> ?_;refine lp (σ:=Int) (fun k=>(8-k).toNat) (fun k=>(0<=k/\k<=8)/\∀ j:Int,0<=j->j<k->s.e j 0+s.e j 1≠0) (fun k=>[(5,iI k),(0,aA b o 0)]) (fun k=>XM W (ck [.cells b o 24 (bO s)]) [.cells b o 24 (bO s)]) (0) ?_ S2 (xq .h1) ?_
 ·grind
 intro k hk;obtain⟨hk,hn⟩:=hk;have b0:=hI.e0 k;have b1:=hI.e1 k;refine gC ?_;refine cd rfl ?_ ?_<;>intro h1
 ·refine rq [0,1,2,3,4,5,6,7,8,9,10,11,12,13,14,15] mixed ?_;refine sd ?_;refine ld .aa (ey _ _) ?_;refine sd ?_;refine ld .aa (dU _ _) ?_;refine sd ?_;refine cd rfl ?_ ?_<;>intro h2
  ·refine XO.v (V.build (vs:= #[(1,iI 1),(2,iI 1)]) rfl (v:=.agg #[.string ⟨#[]⟩,iI 1,iI 1]) fun _=>kq) rfl (gO ?_);refine sd ?_;refine fW .aa (P2 hI og aq) rfl ⟨rfl,rfl⟩ ?_;refine eH .h1 ?_;grind [aK,aJ,aR,PS.P1,az]
  ·refine sd ?_;refine ag (k+1) ?_ ?_ S2 (xq .h1);all_goals grind
 ·refine eH .h1 ?_;grind [aK,aJ,aR,GU,az]
def Kb(b o:Nat)(K:Int)(hK:K<=1000000)(s:PS)(hI:s.Inv K)(n:Int):Spec Tryz.prog 145 [aA b o 0,iI n,.bool true] [.cells b o 24 (bO s)] (fun v H1=>v=az 102 (s.mA n true (-1)).1/\H1=[.cells b o 24 (bO (s.mA n true (-1)).2)]):=by
 have b0:=hI.e0 n;have b1:=hI.e1 n;have bl:=hI.len n;have Gn:(s.e n (HS true)=0)=(s.e n 1=0):=by simp[HS]
 refine Spec.go 45 [0,1,2,6,7,8,16,23,41] [] Tryz.func145 fun W=> ?_;refine ca (Yw _ _ K hK s hI _) .h1 ?_;rintro _ _ (⟨h1,rfl,rfl⟩ | ⟨h1,rfl,rfl⟩)
 ·obtain⟨h1,h2,h3⟩:=h1;refine gO ?_;refine cq (Dx _ _ _) .nil ?_;refine ld .aa (dU _ _) ?_;refine cd rfl ?_ ?_<;>intro h4
  ·refine bS .h1 ?_;grind [aK,aJ,aR,aV,jC]
  ·refine cq (Dx _ _ _) .nil ?_;refine ld .aa (dU _ _) ?_;refine sd ?_;refine st .aa (lj _ _ og _) rfl ?_;refine rq [0,1,2,3,4,5,6,7,8,9] mixed ?_;have c0:({s with e:=cv s.e n 1 (s.e n 1-1)} :PS).e n 0=s.e n 0+0:=by simp[cv]
   have c0f:cv s.e n 1 (s.e n 1-1) n 0=s.e n 0+0:=by simp[cv]
   have c1:({s with e:=cv s.e n 1 (s.e n 1-1)} :PS).e n 1=s.e n 1+ -1:=by simp[cv];omega
   have c1f:cv s.e n 1 (s.e n 1-1) n 1=s.e n 1+ -1:=by simp[cv];omega
   refine ld .aa (ey _ _) ?_;refine ld .aa (dU _ _) ?_;refine sd ?_;refine cd rfl ?_ ?_<;>intro h5
   ·refine XO.v (V.build (vs:= #[]) rfl (v:=.agg #[.string ⟨#[]⟩,iI 0,iI 0]) fun _=>kq) rfl (gO ?_);refine fW .aa (FE _) rfl ⟨rfl,rfl⟩ ?_;refine bS .h1 ?_;first
    | (rw[lz aq];exact⟨(aV _ aq).symm,rfl⟩)
    | (rw[jC aq aq];exact⟨rfl,rfl⟩)
    | (rw[PS.Br aq aq];exact⟨rfl,rfl⟩)
    | (rw[PS.uO aq aq];refine⟨rfl,?_⟩;exact congrArg (fun e=>[aB.cells b o 24 (bO {b:=ad s.b n ⟨#[]⟩,e:=e})]) (Bs))
   ·refine bS .h1 ?_;first
    | (rw[lz aq];exact⟨(aV _ aq).symm,rfl⟩)
    | (rw[jC aq aq];exact⟨rfl,rfl⟩)
    | (rw[PS.Br aq aq];exact⟨rfl,rfl⟩)
    | (rw[PS.uO aq aq];refine⟨rfl,?_⟩;exact congrArg (fun e=>[aB.cells b o 24 (bO {b:=ad s.b n ⟨#[]⟩,e:=e})]) (Bs))
 ·refine gO ?_;refine bS .h1 ?_;grind [aK,aJ,lz,aV]
def Hr(b o:Nat)(K:Int)(hK:K<=1000000)(s:PS)(hI:s.Inv K)(n:Int):Spec Tryz.prog 145 [aA b o 0,iI n,.bool false] [.cells b o 24 (bO s)] (fun v H1=>v=az 102 (s.mA n false (-1)).1/\H1=[.cells b o 24 (bO (s.mA n false (-1)).2)]):=by
 have b0:=hI.e0 n;have b1:=hI.e1 n;have bl:=hI.len n;have Gn:(s.e n (HS false)=0)=(s.e n 0=0):=by simp[HS]
 refine Spec.go 45 [0,1,2,6,7,8,16,23,41] [] Tryz.func145 fun W=> ?_;refine ca (Yw _ _ K hK s hI _) .h1 ?_;rintro _ _ (⟨h1,rfl,rfl⟩ | ⟨h1,rfl,rfl⟩)
 ·obtain⟨h1,h2,h3⟩:=h1;refine gO ?_;refine cq (AP _ _ _) .nil ?_;refine ld .aa (ey _ _) ?_;refine cd rfl ?_ ?_<;>intro h4
  ·refine bS .h1 ?_;grind [aK,aJ,aR,aV,jC]
  ·refine cq (AP _ _ _) .nil ?_;refine ld .aa (ey _ _) ?_;refine sd ?_;refine st .aa (lX _ _ og _) rfl ?_;refine rq [0,1,2,3,4,5,6,7,8,9] mixed ?_;have c0:({s with e:=cv s.e n 0 (s.e n 0-1)} :PS).e n 0=s.e n 0+ -1:=by simp[cv];omega
   have c0f:cv s.e n 0 (s.e n 0-1) n 0=s.e n 0+ -1:=by simp[cv];omega
   have c1:({s with e:=cv s.e n 0 (s.e n 0-1)} :PS).e n 1=s.e n 1+0:=by simp[cv]
   have c1f:cv s.e n 0 (s.e n 0-1) n 1=s.e n 1+0:=by simp[cv]
   refine ld .aa (ey _ _) ?_;refine ld .aa (dU _ _) ?_;refine sd ?_;refine cd rfl ?_ ?_<;>intro h5
   ·refine XO.v (V.build (vs:= #[]) rfl (v:=.agg #[.string ⟨#[]⟩,iI 0,iI 0]) fun _=>kq) rfl (gO ?_);refine fW .aa (FE _) rfl ⟨rfl,rfl⟩ ?_;refine bS .h1 ?_;first
    | (rw[lz aq];exact⟨(aV _ aq).symm,rfl⟩)
    | (rw[jC aq aq];exact⟨rfl,rfl⟩)
    | (rw[PS.Br aq aq];exact⟨rfl,rfl⟩)
    | (rw[PS.uO aq aq];refine⟨rfl,?_⟩;exact congrArg (fun e=>[aB.cells b o 24 (bO {b:=ad s.b n ⟨#[]⟩,e:=e})]) (Bs))
   ·refine bS .h1 ?_;first
    | (rw[lz aq];exact⟨(aV _ aq).symm,rfl⟩)
    | (rw[jC aq aq];exact⟨rfl,rfl⟩)
    | (rw[PS.Br aq aq];exact⟨rfl,rfl⟩)
    | (rw[PS.uO aq aq];refine⟨rfl,?_⟩;exact congrArg (fun e=>[aB.cells b o 24 (bO {b:=ad s.b n ⟨#[]⟩,e:=e})]) (Bs))
 ·refine gO ?_;refine bS .h1 ?_;grind [aK,aJ,lz,aV]
def acu(b o:Nat)(K:Int)(hK:K<=1000000)(s:PS)(hI:s.Inv K)(n m:Int):Spec Tryz.prog 139 [aA b o 0,iI n,iI m] [.cells b o 24 (bO s)] (fun v H1=>v= .tuple #[.string (s.mJ n m).1,az 102 (s.mJ n m).2.1]/\H1=[.cells b o 24 (bO (s.mJ n m).2.2)]):=by
 have b0:=hI.e0 n;have b1:=hI.e1 n;have bl:=hI.len n;refine Spec.go 70 [0,1,2,6,7,8,9,10,11,19,25,28,45] [] Tryz.func139 fun W=> ?_;refine ca (Yw _ _ K hK s hI _) .h1 ?_;rintro _ _ (⟨h1,rfl,rfl⟩ | ⟨h1,rfl,rfl⟩)
 ·obtain⟨h1,h2,h3⟩:=h1;refine gO ?_;refine ld .aa (ey _ _) ?_;refine cd rfl ?_ ?_<;>intro h4
  ·refine eH .h1 ?_;grind [aK,aJ,aR,aV,Ez]
  ·refine cd rfl ?_ ?_<;>intro h5
   ·refine eH .h1 ?_;grind [aK,aJ,aR,aV,EA]
   ·refine ld .aa (dB _ _) ?_;refine sp 35 rfl ?_ ?_<;>intro h6
    ·refine ld .aa (dU _ _) ?_;refine sp 42 rfl ?_ ?_<;>intro h7
     ·refine cd rfl ?_ ?_<;>intro h8
      ·refine eH .h1 ?_;grind [aK,aJ,aR,aV,EB]
      ·refine ld .aa (dB _ _) ?_;refine ld .aa (dB _ _) ?_;refine sd ?_;refine ld .aa (dB _ _) ?_;refine sd ?_;refine st .aa (iw _ _ og _) rfl ?_;refine eH .h1 ?_;grind [aK,aJ,aR,az,PS.GR]
     ·refine ld .aa (dB _ _) ?_;refine ld .aa (dB _ _) ?_;refine sd ?_;refine ld .aa (dB _ _) ?_;refine sd ?_;refine st .aa (iw _ _ og _) rfl ?_;refine eH .h1 ?_;grind [aK,aJ,aR,az,PS.GR]
    ·refine ld .aa (dB _ _) ?_;refine ld .aa (dB _ _) ?_;refine sd ?_;refine ld .aa (dB _ _) ?_;refine sd ?_;refine st .aa (iw _ _ og _) rfl ?_;refine eH .h1 ?_;grind [aK,aJ,aR,az,PS.GR]
 ·refine gO ?_;refine eH .h1 ?_;grind [aK,aJ,aR,Jy,aV]
def Yx(b o:Nat)(K:Int)(hK:K<=1000000)(s:PS)(hI:s.Inv K)(n:Int)(t:ByteArray)(ht:t.size<=1000000):Spec Tryz.prog 136 [aA b o 0,iI n,.string t] [.cells b o 24 (bO s)] (fun v H1=>v= .tuple #[iI (s.b7 n t).1,az 102 (s.b7 n t).2.1]/\H1=[.cells b o 24 (bO (s.b7 n t).2.2)]):=by
 have b0:=hI.e0 n;have b1:=hI.e1 n;have bl:=hI.len n;have he:=OL t;refine Spec.go 59 [0,1,2,6,7,8,9,10,18,24,30,46] [] Tryz.func136 fun W=> ?_;refine ca (Yw _ _ K hK s hI _) .h1 ?_;rintro _ _ (⟨h1,rfl,rfl⟩ | ⟨h1,rfl,rfl⟩)
 ·obtain⟨h1,h2,h3⟩:=h1;refine gO ?_;refine ld .aa (dU _ _) ?_;refine cd rfl ?_ ?_<;>intro h4
  ·refine eH .h1 ?_;grind [aK,aJ,aR,aV,CM]
  ·refine ld .aa (ey _ _) ?_;refine cd rfl ?_ ?_<;>intro h5
   ·refine eH .h1 ?_;grind [aK,aJ,aR,aV,A8]
   ·refine ld .aa (dB _ _) ?_;refine sd ?_;refine sp 43 rfl ?_ ?_<;>intro h6
    ·refine cd rfl ?_ ?_<;>intro h7
     ·refine eH .h1 ?_;grind [aK,aJ,aR,aV,CN]
     ·refine rq [0,1,2,3,4,5,6,7,8,9,10] mixed ?_;refine ld .aa (dB _ _) ?_;refine sd ?_;refine sd ?_ (by simp only[ByteArray.size_extract];omega);refine st .aa (iw _ _ og _) rfl ?_;refine eH .h1 ?_;try dsimp only[aK,aJ,aG,aR]
      grind [az,PS.Jz]
    ·refine rq [0,1,2,3,4,5,6,7,8,9,10] mixed ?_;refine ld .aa (dB _ _) ?_;refine sd ?_;refine sd ?_ (by simp only[ByteArray.size_extract];omega);refine st .aa (iw _ _ og _) rfl ?_;refine eH .h1 ?_;try dsimp only[aK,aJ,aG,aR]
     grind [az,PS.Jz]
 ·refine gO ?_;refine eH .h1 ?_;grind [aK,aJ,aR,GS,aV]
def acv(b o:Nat)(K:Int)(hK:K<=1000000)(s:PS)(hI:s.Inv K)(n:Int)(w:Bool):Spec Tryz.prog 145 [aA b o 0,iI n,.bool w] [.cells b o 24 (bO s)] (fun v H1=>v=az 102 (s.mA n w (-1)).1/\H1=[.cells b o 24 (bO (s.mA n w (-1)).2)]):=by
 cases w
 ·exact Hr b o K hK s hI n
 ·exact Kb b o K hK s hI n
def UT(bo oo bf bp:Nat)(O:OS)(n:Int):Spec Tryz.prog 125 [aA bo oo 0,iI n] [.cells bo oo 122 (bj bf bp O)] (fun v H1=>((O.is n=0/\0<=n/\n<24)/\v= .tuple #[aA bo oo (0+2+n.toNat*5),.nilIface]/\H1=[.cells bo oo 122 (bj bf bp O)])\/(O.is n≠0/\v= .tuple #[.pointer none,.iface 102 (iI (O.is n))]/\H1=[.cells bo oo 122 (bj bf bp O)])):=by
 refine Spec.go 27 [0,1,4,5,11,20] [] Tryz.func125 fun W=> ?_;refine sp 8 rfl ?_ ?_<;>intro h1
 ·refine eH .h1 ?_;grind [aK,aJ,aR,OS.jx]
 ·refine cd rfl ?_ ?_<;>intro h2
  ·refine eH .h1 ?_;grind [aK,aJ,aR,OS.jx]
  ·refine sd (ld .aa (ke _ _) ?_);refine cd rfl ?_ ?_<;>intro h3
   ·refine eH .h1 ?_;grind [aK,aJ,aR,OS.jx]
   ·refine sd (bC rfl rfl rfl (ai .h1 rfl ?_));grind [aK,aJ,aR,OS.jx]
def Mu(bo oo bf bp:Nat)(O:OS)(m:Int):Spec Tryz.prog 134 [aA bo oo 0,iI m] [.cells bo oo 122 (bj bf bp O)] (fun v H1=>(((O.fl m 24).length:Int)<m/\v= .slice none 0 0/\H1=[.cells bo oo 122 (bj bf bp O)])\/(¬((O.fl m 24).length:Int)<m/\∃ p c,v= .slice p (O.fl m 24).length c/\H1=[dE p c 3 (O.fl m 24),.cells bo oo 122 (bj bf bp O)])):=by
 refine Spec.go 34 [0,1,4,5,6,7,8,23,32] [] Tryz.func134 fun W=> ?_;refine XR.ft 3 1 ?_;refine lp (σ:=Int×Option Addr×Nat) (fun x=>(24-x.1).toNat) (fun x=>0<=x.1/\x.1<=24) (fun x=>[(5,.slice x.2.1 (O.fl m x.1.toNat).length x.2.2),(7,iI x.1),(0,aA bo oo 0),(1,iI m)]) (fun x=>XM W (ck [.cells bo oo 122 (bj bf bp O)]) [dE x.2.1 x.2.2 3 (O.fl m x.1.toNat),.cells bo oo 122 (bj bf bp O)]) ((0,none,0)) ?_ S4 (xq (pz 2)) ?_
 ·omega
 intro x hx;obtain⟨sP,DZ⟩:=hx;have qh:=O.L5 m sP;have ZE:=O.FK m x.1.toNat;refine gC ?_;refine cd rfl ?_ ?_<;>intro h1
 ·refine sd (ld (.ao .aa) (ke _ _) ?_);refine sp 18 rfl ?_ ?_<;>intro h2
  ·refine cd rfl ?_ ?_<;>intro h3
   ·have e1:O.fl m (x.1+1).toNat=O.fl m x.1.toNat++[x.1]:=by rw[qh,if_pos ⟨aq,aq⟩]
    refine XO.buildSlice (A:= #[iI _]) (vs:= #[(0,iI _)]) rfl (tZ _) rfl rfl ?_;intro h4;refine gO ?_;refine kW (e:=3) rfl rfl Tryz.underlying55 qe (.ao .aa) .aa og rfl ?_;intro pa ca;refine gO ?_;refine sd (ag ((x.1+1,pa,ca)) ?_ ?_ (S4 (by rw[e1];try rfl) rfl rfl rfl) fun _ hw=>by rw[e1];exact XM.pick (pk [0,1]) hw);all_goals omega
   ·have e1:O.fl m (x.1+1).toNat=O.fl m x.1.toNat:=by rw[qh,if_neg fun q=>absurd q.2 aq]
    refine sd (ag ((x.1+1,x.2.1,x.2.2)) ?_ ?_ (S4 (by rw[e1];try rfl) rfl rfl rfl) fun _ hw=>by rw[e1];exact XM.pick (pz 2) hw);all_goals omega
  ·have e1:O.fl m (x.1+1).toNat=O.fl m x.1.toNat:=by rw[qh,if_neg fun q=>absurd q.1 aq]
   refine sd (ag ((x.1+1,x.2.1,x.2.2)) ?_ ?_ (S4 (by rw[e1];try rfl) rfl rfl rfl) fun _ hw=>by rw[e1];exact XM.pick (pz 2) hw);all_goals omega
 ·have e24:x.1=24:=og;rw[e24];refine cd rfl ?_ ?_<;>intro h7
  ·refine bS (pk [1]) ?_;grind [aK,aJ,aR]
  ·refine bS (pz 2) ?_;grind [aK,aJ]
def acw(bo oo bf bp:Nat)(O:OS)(s:FC)(hI:s.toFF.Sh)(n:Int)(w:Bool):Spec Tryz.prog 208 [aA bo oo 0,iI n,.bool w] [.cells bo oo 122 (bj bf bp O),.cells bf 0 321 (aC s),.bk av (FC.bu 9 s),.bk av (FC.bA 3 s)] (fun v H1=>v= .tuple #[iI (tN s.toFF O n),az 102 (nG s.toFF O n)]/\∃ t:FC,t.toFF=mN s.toFF O n/\t.rP=s.rP/\t.rC=s.rC/\H1=[.cells bo oo 122 (bj bf bp (p7 s.toFF O n w)),.cells bf 0 321 (aC t),.bk av (FC.bu 9 t),.bk av (FC.bA 3 t)]):=by
 refine Spec.go 51 [0,1,2,6,7,8,9,10,21,25,30] [] Tryz.func208 fun W=> ?_;refine ld .aa (qZ _) ?_;refine cq (Mh _ _ _ hI _) (pk [1]) ?_;refine XO.bJ (z:=.agg NV.zero.cQ) (m:=4) (C:=nQ NV.zero) (oA _) ?_;intro bx;refine gO ?_;refine fW .aa (l6 _ _) rfl ⟨rfl,rfl⟩ ?_;refine cd rfl ?_ ?_<;>intro h1
 ·have j0:s.cI n 0≠0:=aq;have jn:=FF.Ta s.toFF n 0;have hn1:s.cI n 1=s.cI n 0:=(FF.TQ j0).symm;refine bC rfl rfl rfl (ai (pk [2,1,1,1]) rfl ?_);grind [aK,aJ,aR,nG,tN,mN,p7]
 ·have j0:s.cI n 0=0:=by simpa using h1
  obtain⟨j1,j2,j3⟩:=FF.vw j0;obtain⟨Qg,_,_⟩:=FF.TX j0;refine ld .aa (wq _) ?_;refine cd rfl ?_ ?_<;>intro h2
  ·have hn1:s.cI n 1=11:=by rw[Qg]at h2;unfold FF.cI;rw[if_neg og,if_neg og,if_pos og]
   refine bC rfl rfl rfl (ai (pk [2,1,1,1]) rfl ?_);grind [aK,aJ,aR,nG,tN,mN,p7,az]
  ·have hn1:s.cI n 1=0:=by rw[Qg]at h2;unfold FF.cI;rw[if_neg og,if_neg og,if_neg og]
   refine ca (Mu _ _ _ _ _ _) (pk [2]) ?_;rintro _ _ (⟨f0,rfl,rfl⟩ | ⟨f0,p1,c1,rfl,rfl⟩)
   ·refine gO ?_;refine XO.v (kX rfl Tryz.underlying55 rfl) rfl (gO ?_);refine V0 rfl (rfl) (bC rfl rfl rfl (ai (pk [0,1,1,1]) rfl ?_));try dsimp only[aK,aJ,aG,aR]
    have hf:=OS.Bu f0;grind [nG,tN,mN,p7,az]
   ·obtain⟨Wb,Rb⟩:=OS.TY f0;have Yy:=OS.nk Wb;rw[Rb];refine gO ?_;refine bL .aa (by show 0<1;omega) ?_;intro g hg;subst hg;refine XO.v (kX rfl Tryz.underlying55 rfl) rfl (gO ?_);refine AZ rfl sq (ld (.ao .aa) (qZ _) ?_);refine ca (wE _ _ _ hI _) (pk [3,3,3]) ?_;rintro _ _ ⟨rfl,t,ht,tp,tc,rfl⟩;refine gO ?_;refine rq [0,1,2,3,4,5,6,7,8,9,10] mixed (sd (Ak (.t3 .aa) (ZL _) (XO.v (V.build (vs:= #[(0,iI 1),(1,iI n),(3,.bool w),(4,iI 1)]) rfl (v:=.agg (bj.cQ ⟨1,n,0,w,1⟩)) fun _=>kq) rfl (gO ?_))) (by show(0:Int)<=0/\(0:Int)<1;omega));refine sd (fW (.t4 .aa) (bj.put O O.first 1 n w 1 ⟨Yy.1,Yy.2.1⟩) rfl ⟨rfl,rfl⟩ (sd (Ak (.t3 .aa) (ZL _) (bC rfl rfl rfl (ai (pk [4,0,0,0]) rfl ?_))) (by show(0:Int)<=0/\(0:Int)<1;omega))) ⟨Yy.1,Yy.2.1⟩;try dsimp only[aK,aJ,aG,aR]
    have e:nG s.toFF O n=0:=by unfold nG;rw[if_neg og,if_neg Wb]
    exact⟨by rw[show tN s.toFF O n=O.first from by unfold tN;rw[if_pos e],e];rfl,t,by rw[ht];unfold mN;rw[if_pos e],tp,tc,by rw[show p7 s.toFF O n w=O.lay O.first 1 n w from by unfold p7;rw[if_pos e]];rfl⟩
def Hs(bo oo bf bp:Nat)(O:OS)(J:Int)(hJ:J<=1000000)(hO:O.Inv J)(n:Int):Spec Tryz.prog 59 [aA bo oo 0,iI n] [.cells bo oo 122 (bj bf bp O)] (fun v H1=>v=az 102 (O.is n)/\H1=[.cells bo oo 122 (bj bf bp (p8 O n))]):=by
 refine Spec.go 23 [0,1,4,5,6,14] [] Tryz.func59 fun W=> ?_;refine ca (UT _ _ _ _ _ _) .h1 ?_;rintro _ _ (⟨⟨i0,i1,i2⟩,rfl,rfl⟩ | ⟨i0,rfl,rfl⟩)
 ·have hrb:=hO.cG n i1 i2;refine gO ?_;refine ld .aa (ke _ _) ?_;refine sd ?_;refine st .aa (ua _ _ og _) rfl ?_;refine bS .h1 ?_;grind [aK,aJ,p8,az]
 ·refine gO ?_;refine bS .h1 ?_;grind [aK,aJ,p8,az]
def UU(bf bp:Nat):Array Value:=((List.range 122).map (bj bf bp OS.dc)).toArray
def Qy(bf bp:Nat):(UU bf bp).size=122:=by simp[UU]
def UW(bf bp:Nat):∀ i,i<122->cellsOf (UU bf bp) i=bj bf bp OS.dc i:=fun i hi=>by simp[cellsOf,UU,hi]
def Yz(bo oo bf bp:Nat)(O:OS)(J:Int)(hJ:J<=1000000)(hO:O.Inv J)(s:FC)(hI:s.toFF.Sh)(K:Int)(hK:K<=1000000)(q:PS)(hq:q.Inv K)(n:Int)(x:ByteArray)(hx:x.size<=1000000):Spec Tryz.prog 70 [aA bo oo 0,iI n,.string x] [.cells bo oo 122 (bj bf bp O),.cells bf 0 321 (aC s),.bk av (FC.bu 9 s),.bk av (FC.bA 3 s),.cells bp 0 24 (bO q)] (fun v H1=>v= .tuple #[iI (jj s.toFF q O n x),az 102 (iE s.toFF q O n x)]/\∃ t:FC,t.toFF=fQ s.toFF O n x/\t.rP=s.rP/\t.rC=s.rC/\H1=[.cells bo oo 122 (bj bf bp (jl s.toFF O n x)),.cells bf 0 321 (aC t),.bk av (FC.bu 9 t),.bk av (FC.bA 3 t),.cells bp 0 24 (bO (l7 q O n x))]):=by
 refine Spec.go 79 [0,1,2,6,7,8,9,17,19,37,66] [] Tryz.func70 fun W=> ?_;refine ca (UT _ _ _ _ _ _) .h1 ?_;rintro _ _ (⟨⟨i0,i1,i2⟩,rfl,rfl⟩ | ⟨i0,rfl,rfl⟩)
 ·have hra:=hO.cG n i1 i2;have haa:=hO.at_ n i1 i2;have hka:=hO.aN n i1 i2 (OS.L4 i0).2.2;refine gO ?_;refine ld .aa (ma _ _) ?_;refine cd rfl ?_ ?_<;>intro h1
  ·refine rq [0,1,2,3,4,5,6,7,8,9,10,11,12,13] mixed ?_;refine ld .aa (bj.Jg _) ?_;refine ld .aa (pO _ _) ?_;refine cq (Yx _ _ K hK q hq _ _ hx) (pk [4]) ?_;refine bC rfl rfl rfl (ai (pk [1,1,1,1,0]) rfl ?_);try dsimp only[aK,aJ,aG,aR]
   have hk:O.aN n=3:=aq;have eE:iE s.toFF q O n x=(q.b7 (O.n n) x).2.1:=by unfold iE;rw[if_neg og,if_pos hk]
   have eV:jj s.toFF q O n x=(q.b7 (O.n n) x).1:=by unfold jj;rw[if_pos ⟨i0,hk⟩]
   have eF:fQ s.toFF O n x=s.toFF:=by unfold fQ;rw[if_neg fun h=>h.2.1 hk]
   have eO:jl s.toFF O n x=O:=by unfold jl;rw[if_neg fun h=>h.1.2.1 hk]
   grind [l7]
  ·refine ld .aa (ma _ _) ?_;refine sp 43 rfl ?_ ?_<;>intro h2
   ·refine eH (pz 5) ?_;try dsimp only[aK,aJ,aG,aR]
    have hk:¬O.aN n=3:=aq;have h2:O.aN n=2:=aq;have eE:iE s.toFF q O n x=8:=by unfold iE;rw[if_neg og,if_neg hk,if_pos (.inl h2)]
    have eV:jj s.toFF q O n x=0:=by unfold jj;rw[if_neg fun h=>hk h.2,if_neg fun h=>h.1.2.2 (.inl h2)]
    have eF:fQ s.toFF O n x=s.toFF:=by unfold fQ;rw[if_neg fun h=>h.2.2 (.inl h2)]
    have eO:jl s.toFF O n x=O:=by unfold jl;rw[if_neg fun h=>h.1.2.2 (.inl h2)]
    grind [l7,az]
   ·skip;refine ld .aa (Bb _ _ og) ?_;refine yW ?_ ?_<;>intro h3
    ·try simp only[sb]at h3
     have hwf:O.b7 n=false:=by simpa using h3
     refine eH (pz 5) ?_;try dsimp only[aK,aJ,aG,aR]
     have hk:¬O.aN n=3:=aq;have eE:iE s.toFF q O n x=8:=by unfold iE;rw[if_neg og,if_neg hk,if_pos (.inr hwf)]
     have eV:jj s.toFF q O n x=0:=by unfold jj;rw[if_neg fun h=>hk h.2,if_neg fun h=>h.1.2.2 (.inr hwf)]
     have eF:fQ s.toFF O n x=s.toFF:=by unfold fQ;rw[if_neg fun h=>h.2.2 (.inr hwf)]
     have eO:jl s.toFF O n x=O:=by unfold jl;rw[if_neg fun h=>h.1.2.2 (.inr hwf)]
     grind [l7,az]
    ·try simp only[sb]at h3
     have hwt:O.b7 n=true:=by simpa using h3
     refine rq [0,1,2,3,4,5,6,7,8,9,10,11,12,13,14] mixed ?_;refine ld .aa (qZ _) ?_;refine ld .aa (pO _ _) ?_;refine ld .aa (nZ _ _) ?_;refine ca (Yv _ _ _ hI _ _ _ og) (pk [1,1,1]) ?_;rintro _ _ ⟨rfl,t,ht,tp,tc,rfl⟩;refine gO ?_;refine cd rfl ?_ ?_<;>intro h4
     ·refine eH (pk [3,0,0,0,0]) ?_;try dsimp only[aK,aJ,aG,aR]
      have hk:¬O.aN n=3:=aq;have h2:¬O.aN n=2:=aq;have hfw:C6 O n:=⟨i0,hk,fun h=>by rcases h with h | h;exact h2 h;rw[hwt]at h;cases h⟩;have hwe:s.toFF.eT (O.n n) (O.at_ n) x≠0:=aq;have eE:iE s.toFF q O n x=s.toFF.eT (O.n n) (O.at_ n) x:=by unfold iE;rw[if_neg og,if_neg hk,if_neg hfw.2.2]
      have eV:jj s.toFF q O n x=0:=by unfold jj;rw[if_neg fun h=>hk h.2,if_neg fun h=>hwe h.2]
      have eF:fQ s.toFF O n x=s.toFF.b7 (O.n n) (O.at_ n) x:=by unfold fQ;rw[if_pos hfw]
      grind [jl,l7]
     ·refine ld (.t3 .aa) (nZ _ _) ?_;refine sd ?_;refine st (.t3 .aa) (bj.Hq _ _ og _) rfl ?_;refine eH (pk [3,0,0,0,0]) ?_;try dsimp only[aK,aJ,aG,aR]
      have hk:¬O.aN n=3:=aq;have h2:¬O.aN n=2:=aq;have hfw:C6 O n:=⟨i0,hk,fun h=>by rcases h with h | h;exact h2 h;rw[hwt]at h;cases h⟩;have hwe:s.toFF.eT (O.n n) (O.at_ n) x=0:=Decidable.byContradiction aq;have eE:iE s.toFF q O n x=0:=by unfold iE;rw[if_neg og,if_neg hk,if_neg hfw.2.2,hwe]
      have eV:jj s.toFF q O n x=(x.size:Int):=by unfold jj;rw[if_neg fun h=>hk h.2,if_pos ⟨hfw,hwe⟩]
      have eF:fQ s.toFF O n x=s.toFF.b7 (O.n n) (O.at_ n) x:=by unfold fQ;rw[if_pos hfw]
      have eO:jl s.toFF O n x=O.move n (x.size):=by unfold jl;rw[if_pos ⟨hfw,hwe⟩]
      have eP:l7 q O n x=q:=by unfold l7;rw[if_neg fun h=>hk h.2]
      exact⟨by rw[eE,eV];rfl,t,by rw[eF];exact ht,tp,tc,by rw[eO,eP];rfl⟩
 ·refine gO ?_;refine eH (pz 5) ?_;try dsimp only[aK,aJ,aG,aR]
  have eE:iE s.toFF q O n x=O.is n:=by unfold iE;rw[if_pos i0]
  have eV:jj s.toFF q O n x=0:=by unfold jj;rw[if_neg fun h=>i0 h.1,if_neg fun h=>i0 h.1.1]
  have eF:fQ s.toFF O n x=s.toFF:=by unfold fQ;rw[if_neg fun h=>i0 h.1]
  have eO:jl s.toFF O n x=O:=by unfold jl;rw[if_neg fun h=>i0 h.1.1]
  grind [l7,az]
def acy(bo oo bf bp:Nat)(O:OS)(J:Int)(hJ:J<=1000000)(hO:O.Inv J)(s:FC)(hI:s.toFF.Sh)(K:Int)(hK:K<=1000000)(q:PS)(hq:q.Inv K)(n m:Int):Spec Tryz.prog 72 [aA bo oo 0,iI n,iI m] [.cells bo oo 122 (bj bf bp O),.cells bf 0 321 (aC s),.bk av (FC.bu 9 s),.bk av (FC.bA 3 s),.cells bp 0 24 (bO q)] (fun v H1=>v= .tuple #[.string (tP s.toFF q O n m),az 102 (tO s.toFF q O n m)]/\H1=[.cells bo oo 122 (bj bf bp (qa s.toFF O n m)),.cells bf 0 321 (aC s),.bk av (FC.bu 9 s),.bk av (FC.bA 3 s),.cells bp 0 24 (bO (p9 q O n m))]):=by
 refine Spec.go 69 [0,1,2,6,7,8,9,10,18,23,24,27] [] Tryz.func72 fun W=> ?_;refine ca (UT _ _ _ _ _ _) .h1 ?_;rintro _ _ (⟨⟨i0,i1,i2⟩,rfl,rfl⟩ | ⟨i0,rfl,rfl⟩)
 ·have hra:=hO.cG n i1 i2;have haa:=hO.at_ n i1 i2;have hka:=hO.aN n i1 i2 (OS.L4 i0).2.2;refine gO ?_;refine ld .aa (ma _ _) ?_;refine cd rfl ?_ ?_<;>intro h1
  ·refine eH (pz 5) ?_;try dsimp only[aK,aJ,aG,aR]
   grind [tO,tP,qa,p9,az]
  ·refine cd rfl ?_ ?_<;>intro h2
   ·refine rq [0,1,2,3,4,5,6,7,8,9,10,11,12,13] mixed ?_;refine ld .aa (bj.Jg _) ?_;refine ld .aa (pO _ _) ?_;refine cq (acu _ _ K hK q hq _ _) (pk [4]) ?_;refine bC rfl rfl rfl (ai (pk [1,1,1,1,0]) rfl ?_);try dsimp only[aK,aJ,aG,aR]
    grind [tO,tP,qa,p9]
   ·refine rq [0,1,2,3,4,5,6,7,8,9,10,11,12,13,14,15,16,17,18] mixed ?_;refine ld .aa (qZ _) ?_;refine ld .aa (pO _ _) ?_;refine ld .aa (nZ _ _) ?_;refine ca (acq _ _ _ hI _ _ _) (pk [1]) ?_;rintro _ _ ⟨rfl,rfl⟩;have hrl:=FF.JP hI (O.n n) (O.at_ n) m;refine gO ?_;refine ld (.ao .aa) (nZ _ _) ?_;refine sd ?_;refine st (.ao .aa) (bj.Hq _ _ og _) rfl ?_;refine eH (pk [1,0,0,0,0]) ?_;try dsimp only[aK,aJ,aG,aR]
    have hk:¬O.aN n=3:=aq;have h2:¬O.aN n=2:=aq;have eE:tO s.toFF q O n m=s.toFF.lZ (O.n n) (O.at_ n) m:=by unfold tO;rw[if_neg og,if_neg hk,if_neg h2]
    have eV:tP s.toFF q O n m=s.toFF.kA (O.n n) (O.at_ n) m:=by unfold tP;rw[if_neg og,if_neg hk,if_neg h2]
    have eO:qa s.toFF O n m=O.move n ((s.toFF.kA (O.n n) (O.at_ n) m).size):=by unfold qa;rw[if_pos ⟨i0,hk,h2⟩]
    have eP:p9 q O n m=q:=by unfold p9;rw[if_neg fun h=>h2 h.2]
    exact⟨by rw[eE,eV],by rw[eO,eP];rfl⟩
 ·refine gO ?_;refine eH (pz 5) ?_;grind [aK,aJ,aR,tO,tP,qa,p9,aV]
def Oe(bo oo bf bp:Nat)(O:OS)(J:Int)(hJ:J<=1000000)(hO:O.Inv J)(s:FC)(hI:s.toFF.Sh)(K:Int)(hK:K<=1000000)(q:PS)(hq:q.Inv K)(n:Int):Spec Tryz.prog 76 [aA bo oo 0,iI n] [.cells bo oo 122 (bj bf bp O),.cells bf 0 321 (aC s),.bk av (FC.bu 9 s),.bk av (FC.bA 3 s),.cells bp 0 24 (bO q)] (fun v H1=>v=az 102 (j7 s.toFF q O n)/\∃ t:FC,t.toFF=mO s.toFF O n/\t.rP=s.rP/\t.rC=s.rC/\H1=[.cells bo oo 122 (bj bf bp (kG O n)),.cells bf 0 321 (aC t),.bk av (FC.bu 9 t),.bk av (FC.bA 3 t),.cells bp 0 24 (bO (kF q O n))]):=by
 refine Spec.go 55 [0,1,4,5,6,7,15,28,37] [] Tryz.func76 fun W=> ?_;refine ca (UT _ _ _ _ _ _) .h1 ?_;rintro _ _ (⟨⟨i0,i1,i2⟩,rfl,rfl⟩ | ⟨i0,rfl,rfl⟩)
 ·have hra:=hO.cG n i1 i2;have haa:=hO.at_ n i1 i2;have hka:=hO.aN n i1 i2 (OS.L4 i0).2.2;refine gO ?_;refine ld .aa (ke _ _) ?_;refine sd ?_;refine st .aa (ua _ _ og _) rfl ?_;refine ld .aa (ke _ _) ?_;refine cd rfl ?_ ?_<;>intro h1
  ·have e9:ad O.cG n (O.cG n-1) n=O.cG n-1:=aj _ _ _;have h9:ad O.cG n (O.cG n-1) n>0:=h1;have KN:0<O.cG n-1:=og;refine bS (pz 5) ?_;try dsimp only[aK,aJ,aG,aR]
   have eE:j7 s.toFF q O n=0:=by unfold j7;rw[if_neg og,if_pos KN]
   have eF:mO s.toFF O n=s.toFF:=by unfold mO;rw[if_neg fun h=>h.1.2 KN]
   have eP:kF q O n=q:=by unfold kF;rw[if_neg fun h=>h.1.2 KN]
   grind [kG,JN,az]
  ·have e9:ad O.cG n (O.cG n-1) n=O.cG n-1:=aj _ _ _;have h9:¬ad O.cG n (O.cG n-1) n>0:=h1;have KN:¬ 0<O.cG n-1:=og;refine lM .aa (bj.K8 _ _ og) ?_;refine XO.bJ (z:=.agg (bj.cQ ⟨0,0,0,false,0⟩)) (m:=5) (C:=bj.cell ⟨0,0,0,false,0⟩) (bj.box _) ?_;intro bx;refine gO ?_;refine fW .aa (UO _ _) rfl ⟨rfl,rfl⟩ ?_;refine XO.v (V.build (vs:= #[]) rfl (v:=.agg (bj.cQ ⟨0,0,0,false,0⟩)) fun _=>kq) rfl (gO ?_);refine fW (.ao .aa) (bj.put (JN O n) n 0 0 false 0 ⟨i1,i2⟩) rfl ⟨rfl,rfl⟩ ?_;refine ld .aa (J9 _) ?_;refine cd rfl ?_ ?_<;>intro h2
   ·refine rq [0,1,2,3,4,5,6,7] mixed ?_;refine ld (.ao .aa) (qZ _) ?_;refine ld .aa (Ka _) ?_;refine ca (FV _ _ _ hI _) (pk [2,2,2]) ?_;rintro _ _ ⟨rfl,t,ht,tp,tc,rfl⟩;refine gO ?_;refine bh rfl rfl (ai (pk [4,0,0,0,1]) rfl ?_);try dsimp only[aK,aJ,aG,aR]
    have hk:O.aN n=1:=aq;have eE:j7 s.toFF q O n=s.toFF.CQ (O.n n):=by unfold j7;rw[if_neg og,if_neg KN,if_pos hk]
    have eF:mO s.toFF O n=s.toFF.kE (O.n n):=by unfold mO;rw[if_pos ⟨⟨i0,KN⟩,hk⟩]
    have eP:kF q O n=q:=by unfold kF;rw[if_neg fun h=>h.2 hk]
    have eO:kG O n=O.Gz n:=by unfold kG;rw[if_neg og,if_neg KN]
    exact⟨by rw[eE];rfl,t,by rw[eF];exact ht,tp,tc,by rw[eO,eP,<-OS.JO];rfl⟩
   ·refine rq [0,1,2,3,4,5,6,7,8,9,10] mixed ?_;refine ld (.ao .aa) (bj.Jg _) ?_;refine ld .aa (Ka _) ?_;refine ld .aa (J9 _) ?_;refine cq (acv _ _ K hK q hq _ _) (pk [5]) ?_;refine bh rfl rfl (ai (pk [2,2,2,2,0]) rfl ?_);try dsimp only[aK,aJ,aG,aR]
    have hk:¬O.aN n=1:=aq;have eE:j7 s.toFF q O n=(q.mA (O.n n) (decide (O.aN n=3)) (-1)).1:=by unfold j7;rw[if_neg og,if_neg KN,if_neg hk]
    have eF:mO s.toFF O n=s.toFF:=by unfold mO;rw[if_neg fun h=>hk h.2]
    have eP:kF q O n=(q.mA (O.n n) (decide (O.aN n=3)) (-1)).2:=by unfold kF;rw[if_pos ⟨⟨i0,KN⟩,hk⟩]
    have eO:kG O n=O.Gz n:=by unfold kG;rw[if_neg og,if_neg KN]
    exact⟨by rw[eE];rfl,s,by rw[eF],rfl,rfl,by rw[eO,eP,<-OS.JO];rfl⟩
 ·refine gO ?_;refine bS (pz 5) ?_;try dsimp only[aK,aJ,aG,aR]
  have eE:j7 s.toFF q O n=O.is n:=by unfold j7;rw[if_pos i0]
  have eF:mO s.toFF O n=s.toFF:=by unfold mO;rw[if_neg fun h=>i0 h.1.1]
  have eP:kF q O n=q:=by unfold kF;rw[if_neg fun h=>i0 h.1.1]
  grind [kG,az]
def UX(bf bp:Nat):Spec Tryz.prog 100 [aA bf 0 0,aA bp 0 0] [] (fun v H1=>∃ b,v=aA b 0 0/\H1=[.cells b 0 122 (bj bf bp OS.dc)]):=by
 refine Spec.go 9 [0,1,4] [] Tryz.func100 fun W=> ?_;refine XO.v (V.build (vs:= #[(0,aA bf 0 0),(1,aA bp 0 0)]) rfl (v:=.agg (UU bf bp)) fun _=>kq) rfl (gO ?_);refine XO.box (m:=122) (C:=bj bf bp OS.dc) rfl (Qy bf bp) (UW bf bp) rfl ?_;intro b;refine gO ?_;refine bS .h1 ?_;grind [aK,aJ]
def acz(bo oo bf bp:Nat)(O:OS)(n a:Int):Spec Tryz.prog 209 [aA bo oo 0,iI n,iI a] [.cells bo oo 122 (bj bf bp O)] (fun v H1=>v=az 102 (nl O n a)/\H1=[.cells bo oo 122 (bj bf bp (vC O n a))]):=by
 refine Spec.go 35 [0,1,2,6,7,8,16,22,29] [] Tryz.func209 fun W=> ?_;refine ca (UT _ _ _ _ _ _) .h1 ?_;rintro _ _ (⟨⟨i0,i1,i2⟩,rfl,rfl⟩ | ⟨i0,rfl,rfl⟩)
 ·refine gO ?_;refine ld .aa (ma _ _) ?_;refine cd rfl ?_ ?_<;>intro h1
  ·refine bS .h1 ?_;grind [aK,aJ,aR,nl,vC,az]
  ·refine sp 26 rfl ?_ ?_<;>intro h2
   ·refine bS .h1 ?_;grind [aK,aJ,aR,nl,vC,az]
   ·refine cd rfl ?_ ?_<;>intro h3
    ·refine bS .h1 ?_;grind [aK,aJ,aR,nl,vC,az]
    ·refine st .aa (bj.Hq _ _ og _) rfl (bh rfl rfl (ai .h1 rfl ?_));grind [aK,aJ,aR,nl,vC,az]
 ·refine gO ?_;refine bS .h1 ?_;grind [aK,aJ,nl,vC,az]
def acA(bo oo bf bp:Nat)(O:OS)(J:Int)(hJ:J<=1000000)(hO:O.Inv J)(m:Int):Spec Tryz.prog 204 [aA bo oo 0,iI m] [.cells bo oo 122 (bj bf bp O)] (fun v H1=>v= .bool (NQ O m)/\H1=[.cells bo oo 122 (bj bf bp O)]):=by
 refine Spec.go 13 [0,1,4] [] Tryz.func204 fun W=> ?_;refine sp 7 rfl ?_ ?_<;>intro h1
 ·refine bS .h1 ?_;grind [aK,aJ,aR,NQ]
 ·refine ca (Mu _ _ _ _ _ _) .h1 ?_;rintro _ _ (⟨f0,rfl,rfl⟩ | ⟨f0,p1,c1,rfl,rfl⟩)
  ·have hfn:=OS.zH (fun z z1 z2=>(hO.cG z z1 z2).1) m og 24 (Nat.le_refl 24);rw[show O.C4 24=O.opens from rfl]at hfn;have hol:=O.JQ;refine gO ?_;refine XO.v (kX rfl Tryz.underlying55 rfl) rfl (gO ?_);refine bS .h1 ?_;grind [aK,aJ,NQ]
  ·have hfn:=OS.zH (fun z z1 z2=>(hO.cG z z1 z2).1) m og 24 (Nat.le_refl 24);rw[show O.C4 24=O.opens from rfl]at hfn;have hol:=O.JQ;refine gO ?_;refine bL .aa (by show 0<(O.fl m 24).length;omega) ?_;intro g hg;subst hg;refine XO.v (kX rfl Tryz.underlying55 rfl) rfl (gO ?_);refine bS (pk [1]) ?_;grind [aK,aJ,NQ]
def acB(bo oo bf bp:Nat)(O:OS)(K:Int)(hK:K<=1000000)(q:PS)(hq:q.Inv K):Spec Tryz.prog 68 [aA bo oo 0] [.cells bo oo 122 (bj bf bp O),.cells bp 0 24 (bO q)] (fun v H1=>v= .tuple #[iI (nJ q O),iI (oY q O),az 102 (kH q O)]/\H1=[.cells bo oo 122 (bj bf bp (nI q O)),.cells bp 0 24 (bO (nH q O))]):=by
 refine Spec.go 48 [0,2,3,4,5,6,7,11,22] [] Tryz.func68 fun W=> ?_;refine ca (Mu _ _ _ _ _ _) .h1 ?_;rintro _ _ (⟨f0,rfl,rfl⟩ | ⟨f0,p1,c1,rfl,rfl⟩)
 ·refine gO ?_;refine XO.v (kX rfl Tryz.underlying55 rfl) rfl (gO ?_);refine V0 rfl (rfl) (wJ rfl rfl rfl rfl (ai (pz 2) rfl ?_));try dsimp only[aK,aJ,aG,aR]
  have hf:=OS.TZ f0;grind [kH,nJ,oY,nI,nH,az]
 ·obtain⟨Wb,Rb,hf4⟩:=OS.Qb f0;have Yy:=OS.nk Wb;have hf5:0<=O.jE/\O.jE<24:=⟨og,(OS.nk (s:=O.lay O.first 2 0 false) Rb).2.1⟩;have hf6:¬(O.first<0\/O.jE<0):=og;rw[hf4];refine gO ?_;refine bL .aa (by show 0<2;omega) ?_;intro g hg;subst hg;refine XO.v (kX rfl Tryz.underlying55 rfl) rfl (gO ?_);refine AZ rfl sq (ld (.ao .aa) (bj.Jg _) ?_);refine cq (acs _ _ K hK q hq) (pk [2]) ?_;refine cd rfl ?_ ?_<;>intro h1
  ·refine rt3 (pk [2,0]) ?_;grind [aK,aJ,aR,kH,nJ,oY,nI,nH]
  ·refine rq [0,1,2,3,4,5,6,7,8,9] mixed (sd (Ak (.ao .aa) (T1 _ _) (XO.v (V.build (vs:= #[(0,iI 2),(1,iI q.make.1),(4,iI 1)]) rfl (v:=.agg (bj.cQ ⟨2,q.make.1,0,false,1⟩)) fun _=>kq) rfl (gO ?_))) (by show(0:Int)<=0/\(0:Int)<2;omega));refine sd (fW (.t2 .aa) (bj.put O O.first 2 q.make.1 false 1 ⟨Yy.1,Yy.2.1⟩) rfl ⟨rfl,rfl⟩ (rq [0,1,2,3,4,5,6,7,8,9] mixed (sd (Ak (.ao .aa) (T2 _ _) (XO.v (V.build (vs:= #[(0,iI 3),(1,iI q.make.1),(4,iI 1)]) rfl (v:=.agg (bj.cQ ⟨3,q.make.1,0,false,1⟩)) fun _=>kq) rfl (gO ?_))) (by show(0:Int)<=1/\(1:Int)<2;omega)))) ⟨Yy.1,Yy.2.1⟩;refine sd (fW (.t2 .aa) (bj.put (O.lay O.first 2 q.make.1 false) O.jE 3 q.make.1 false 1 hf5) rfl ⟨rfl,rfl⟩ (rq [0,1,2,3,4,5,6,7,8] mixed (sd (Ak (.ao .aa) (T1 _ _) (sd (Ak (.ao .aa) (T2 _ _) (wJ rfl rfl rfl rfl (ai (pk [2,0]) rfl ?_))) (by show(0:Int)<=1/\(1:Int)<2;omega))) (by show(0:Int)<=0/\(0:Int)<2;omega)))) hf5;try dsimp only[aK,aJ,aG,aR]
   have hz:q.make.2.1=0:=Decidable.byContradiction aq;have e:kH q O=0:=by unfold kH;rw[if_neg hf6,hz]
   have eV:nJ q O=O.first:=by unfold nJ;rw[if_pos e]
   have eU:oY q O=O.jE:=by unfold oY;rw[if_pos e]
   have eO:nI q O=(O.lay O.first 2 q.make.1 false).lay O.jE 3 q.make.1 false:=by unfold nI;rw[if_pos e]
   have eP:nH q O=q.make.2.2:=by unfold nH;rw[if_neg hf6]
   exact⟨by rw[e,eV,eU];rfl,by rw[eO,eP];rfl⟩
open Go.Lib Go.RowKit Go.Shelf
section
variable {P:Program} {ρ:Ren}
set_option maxHeartbeats 1000000 in def Qz(L:Lays.n146 P ρ)(hi9:(P.info? (ρ.t 9)).map (fun i=>(i.zero,i.size,i.bytes))=some (some (.string ByteArray.empty),1,16))(s:ByteArray)(w:World)(hs:s.size<4294967281):Calls P (ρ.f 146) #[.string s,.string ⟨#[47]⟩] w fun e w'=>e= .returned (.slice (some ⟨w.heap.size,0,none⟩) (countB s hQ+1) (countB s hQ+1))/\w'=w.alloc (.cells ((splitB hQ 0 (countB s hQ) s).map Value.string).toArray (ρ.t 9)):=by
 have h1:1<=hQ.size:=dq;have hle:=Lib.countB_le hQ h1 s.size s (Nat.le_refl _);have hlen:=Lib.splitB_all hQ h1 0 _ s rfl;have c:=Any.strings_genSplit_core {L with} hi9 s hQ 0 (-1) (countB s hQ+1) w hs h1 (Nat.zero_le _)
  (fun x c _=>(Any.strings_Index_one {L with} x 47 _).mono fun e w' ⟨he,hw⟩=>⟨by rw[he];show _=Ending.returned (Value.int .i64 (Lib.index x.data.toList [47]));rw[Lib.index_one],hw⟩)
  ((Any.strings_Count_one {L with} s 47 w).mono fun e w' ⟨he,hw⟩=>⟨by
   rw[he]
   show _=Ending.returned (Value.int .i64 ((Lib.count s.data.toList [47]:Nat):Int))
   rw[Lib.count_one]
   rfl,hw⟩)
  dq dq (by rw[if_pos dq];omega)
 rw[Nat.add_sub_cancel,hlen]at c;have e2:Lib.cellsOf (Lib.splitB hQ 0 (Lib.countB s hQ) s) (Lib.countB s hQ+1)=((Lib.splitB hQ 0 (Lib.countB s hQ) s).map Value.string).toArray:=by rw[<-hlen];exact Lib.cellsOf_full _
 rw[e2]at c;have t3:=L.t3;have t9:=L.t9;have t31:=L.t31;have a3:=L.a3;have a9:=L.a9;have a31:=L.a31;have z3:=L.z3;have v3:=L.v3;have z9:=L.z9;have v9:=L.v9;have z31:=L.z31;have v31:=L.v31;have ak7:∀ args w,(callFunc (ρ.f 221) args).run P w= .ok (.enter (ρ.f 221) args) w:=enters_of L.f221 kq rfl;go_enter L.f146,Body.n146_ntmps ρ;go_wp2_with (go_at_fn (ρ.f 221);refine c.mono ?_;rintro e w' ⟨rfl,hw⟩;rw[hw]);go_ret;simp_all
theorem Dy(s:ByteArray):(dV s).length=countB s hQ+1:=Lib.splitB_all hQ dq 0 _ s rfl
theorem wF(s:ByteArray):(dV s).length<=s.size+1:=by
 have:=Lib.countB_le hQ dq s.size s (Nat.le_refl _);grind [Dy]
def Mv(L:Lays.n146 P ρ)(hi9:(P.info? (ρ.t 9)).map (fun i=>(i.zero,i.size,i.bytes))=some (some (.string ByteArray.empty),1,16))(s:ByteArray)(hs:s.size<=1000000):Spec P (ρ.f 146) [.string s,.string ⟨#[47]⟩] [] (fun v H1=>∃ b,v= .slice (some ⟨b,0,none⟩) (dV s).length (dV s).length/\H1=[jR (some ⟨b,0,none⟩) (dV s).length (ρ.t 9) (dV s)]):=by
 intro w hw;refine(Qz L hi9 s w og).mono fun ee w' ⟨he,dP⟩=>⟨_,_,he,⟨w.heap.size,by rw[Dy],rfl⟩,rfl,?_⟩;subst dP;have hc:=wF s;refine(kJ hw).fresh (fun b o vN=>by simp only[aB.fO,Value.ownBlock,Option.some.injEq]at vN;omega) (jQ w _ _) (⟨by simp[strs],.inr ⟨w.heap.size,_,_,rfl,Nat.zero_le _,heap_alloc_new w _,Nat.le_refl _,by simp only[maxLen];omega,?_,?_⟩⟩);all_goals grind [dV,strs,List.take_of_length_le]
end
def FW:∀ (k:Nat) (s:ByteArray),∀ x∈splitB hQ 0 k s,x.size<=s.size
 | 0,s,x,h=>by simp[splitB]at h;rw[h];exact Nat.le_refl _
 | k+1,s,x,h=>by
  unfold splitB at h;split at h
  ·simp at h;rw[h];exact Nat.le_refl _
  ·rcases List.mem_cons.1 h with h | h
   ·rw[h,ByteArray.size_extract];omega
   ·have:=FW k _ x h;rw[ByteArray.size_extract]at this;omega
def FX(s:ByteArray){z:Int}(h:0<=z/\z<(dV s).length):(ki (dV s) z).size<=s.size:=by
 refine FW (countB s hQ) s _ ?_;grind [ki,dV]
def wG(x:ByteArray):(bW x).length<=x.size+1:=by
 grind [bW,wF,ByteArray.size_extract]
end Go.X.Tr


namespace Go.Proofs
open Go.Shelf
def EH:Go.Shelf.Ren:=⟨fun | 146=>246 | 221=>265 | 268=>277 | 138=>278 | 143=>279 | 195=>284 | 197=>285 | 218=>286 | 219=>287 | 260=>290 | 217=>291 | 225=>292 | 224=>293 | 267=>294 | 266=>295 | 314=>296 | n=>n,fun | 9=>9 | 31=>207 | 3=>3 | 4=>4 | 0=>0 | 105=>306 | 21=>21 | 5=>5 | 46=>258 | 119=>311 | 139=>314 | 138=>313 | 146=>315 | 51=>257 | n=>n,fun | 1=>2 | 3=>3 | 4=>4 | n=>n⟩
def QA:Go.Proofs.Lays.n146 Tryz.prog EH:= {
 mixed:=by kernel_rfl
 f138:=Tryz.func278.trans (congrArg some (by kernel_rfl))
 f143:=Tryz.func279.trans (congrArg some (by kernel_rfl))
 f146:=Tryz.func246.trans (congrArg some (by kernel_rfl))
 f195:=Tryz.func284.trans (congrArg some (by kernel_rfl))
 f197:=Tryz.func285.trans (congrArg some (by kernel_rfl))
 f217:=Tryz.func291.trans (congrArg some (by kernel_rfl))
 f218:=Tryz.func286.trans (congrArg some (by kernel_rfl))
 f219:=Tryz.func287.trans (congrArg some (by kernel_rfl))
 f221:=Tryz.func265.trans (congrArg some (by kernel_rfl))
 f224:=Tryz.func293.trans (congrArg some (by kernel_rfl))
 f225:=Tryz.func292.trans (congrArg some (by kernel_rfl))
 f260:=Tryz.func290.trans (congrArg some (by kernel_rfl))
 f266:=Tryz.func295.trans (congrArg some (by kernel_rfl))
 f267:=Tryz.func294.trans (congrArg some (by kernel_rfl))
 f268:=Tryz.func277.trans (congrArg some (by kernel_rfl))
 f314:=Tryz.func296.trans (congrArg some (by kernel_rfl))
 t0:=Tryz.underlying0
 a0:=Tryz.isAgg0
 z0:=Tryz.sizeOf0
 v0:=Tryz.zeroValue0
 t3:=Tryz.underlying3
 a3:=Tryz.isAgg3
 z3:=Tryz.sizeOf3
 v3:=Tryz.zeroValue3
 t4:=Tryz.underlying4
 a4:=Tryz.isAgg4
 z4:=Tryz.sizeOf4
 v4:=Tryz.zeroValue4
 t5:=Tryz.underlying5
 a5:=Tryz.isAgg5
 z5:=Tryz.sizeOf5
 v5:=Tryz.zeroValue5
 t9:=Tryz.underlying9
 a9:=Tryz.isAgg9
 z9:=Tryz.sizeOf9
 v9:=Tryz.zeroValue9
 t21:=Tryz.underlying21
 a21:=Tryz.isAgg21
 z21:=Tryz.sizeOf21
 v21:=Tryz.zeroValue21
 t31:=Tryz.underlying207
 a31:=Tryz.isAgg207
 z31:=Tryz.sizeOf207
 v31:=Tryz.zeroValue207
 t46:=Tryz.underlying258
 a46:=Tryz.isAgg258
 z46:=Tryz.sizeOf258
 v46:=Tryz.zeroValue258
 t51:=Tryz.underlying257
 a51:=Tryz.isAgg257
 z51:=Tryz.sizeOf257
 v51:=Tryz.zeroValue257
 t105:=Tryz.underlying306
 a105:=Tryz.isAgg306
 z105:=Tryz.sizeOf306
 v105:=Tryz.zeroValue306
 t119:=Tryz.underlying311
 a119:=Tryz.isAgg311
 z119:=Tryz.sizeOf311
 t138:=Tryz.underlying313
 a138:=Tryz.isAgg313
 z138:=Tryz.sizeOf313
 v138:=Tryz.zeroValue313
 t139:=Tryz.underlying314
 a139:=Tryz.isAgg314
 z139:=Tryz.sizeOf314
 v139:=Tryz.zeroValue314
 t146:=Tryz.underlying315
 a146:=Tryz.isAgg315
 z146:=Tryz.sizeOf315
 v146:=Tryz.zeroValue315
 g1:=by kernel_rfl
 g3:=by kernel_rfl
 g4:=by kernel_rfl}
end Go.Proofs

namespace Go.X.Tr
open Go Go.Proofs Go.X
set_option maxRecDepth 20000
set_option maxHeartbeats 4000000
def fL:ny Tryz.prog 163=true:=kq
def da:fb Tryz.prog 163=some 2:=kq
def YA:(Tryz.prog.underlying 163=some (.struct (Tryz.prog.fieldsOf 163))/\Tryz.prog.stoodInHeld 163=false)/\Tryz.prog.eqGuardType Tryz.prog.depth 163=false/\two Tryz.prog 163=true:=⟨⟨kq,kq⟩,kq,kq⟩
def YB(s:ByteArray)(hs:s.size<=1000000):Spec Tryz.prog 246 [.string s,.string ⟨#[47]⟩] [] (fun v H1=>∃ b,v= .slice (some ⟨b,0,none⟩) (dV s).length (dV s).length/\H1=[jR (some ⟨b,0,none⟩) (dV s).length 9 (dV s)]):=
 Mv Go.Proofs.QA kq s hs
def UY(bt bf:Nat)(r:WH)(l:List MT)(p:Option Addr)(cap k c:Nat)(C:Nat->Value)(hv:RV.ok ⟨p,cap,k,l.length,c,C⟩)(hC:MC C l)(QB:l.length<=6)(w:WH):Spec Tryz.prog 248 [aA bt 0 0,.agg (WH.cQ w)] [.cells bt 0 4 (aO bf r (.slice p l.length c)),aM p cap 168 4 k C] (fun v H1=>v= .agg (WH.cQ (sO l w))/\H1=[.cells bt 0 4 (aO bf r (.slice p l.length c)),aM p cap 168 4 k C]):=by
 have jv:=oK hv;have jv:l.length<=k:=jv;refine Spec.go 30 [0,3,4,5,7,8,9,13,14,15,16,22,27] [] Tryz.func248 fun W=> ?_;refine XO.box (m:=2) (C:=aY (w)) rfl rfl (aY.box _) rfl ?_;intro bw;refine gO ?_;refine XO.bJ (z:=.agg (WH.cQ WH.nil)) (m:=2) (C:=aY WH.nil) (aY.box _) ?_;intro br;refine gO ?_;refine lp (σ:=Int×WH) (fun x=>(6-x.1).toNat) (fun x=>(0<=x.1/\x.1<=6)/\ZO l (6-x.1).toNat x.2=sO l w) (fun x=>[(8,iI x.1),(0,aA bt 0 0),(3,aA bw 0 0),(4,aA br 0 0)]) (fun x=>XM W (ck [.cells bt 0 4 (aO bf r (.slice p l.length c)),aM p cap 168 4 k C]) [.cells bw 0 2 (aY x.2),.cells br 0 2 (aY WH.nil),.cells bt 0 4 (aO bf r (.slice p l.length c)),aM p cap 168 4 k C]) ((0,w)) ?_ S4 (xq (pk [1,0,0,0])) ?_
 ·grind [sO]
 intro x hx;obtain⟨⟨sP,DZ⟩,hov⟩:=hx;refine gC ?_;refine cd rfl ?_ ?_<;>intro h1
 ·refine ld (.t2 .aa) (kO _ _) ?_;refine lp (σ:=Int) (fun i=>(l.length-i).toNat) (fun i=>(0<=i/\i<=l.length)/\∀ j:Int,0<=j->j<i->(qc l j).at_≠x.2) (fun i=>[(5,.bool false),(15,iI i),(0,aA bt 0 0),(3,aA bw 0 0),(4,aA br 0 0),(8,iI x.1),(13,.slice p l.length c),(14,iI l.length)]) (fun i=>XM W (ck [.cells bt 0 4 (aO bf r (.slice p l.length c)),aM p cap 168 4 k C]) [.cells bw 0 2 (aY x.2),.cells br 0 2 (aY WH.nil),.cells bt 0 4 (aO bf r (.slice p l.length c)),aM p cap 168 4 k C]) (0) ?_ (.cons rfl (.cons rfl S6)) (xq (pz 4)) ?_
  ·grind
  intro i hi;obtain⟨⟨hi0,hi1⟩,wK⟩:=hi;refine gC ?_;refine cd rfl ?_ ?_<;>intro h2
  ·refine bL (.t3 .aa) og ?_;intro g hg;subst hg;refine sd ?_;refine qs (.t3 .aa) (hC.ld jv _ og) ?_;refine XO.bJ (z:=.agg (MT.cQ MT.nil)) (m:=4) (C:=fq MT.nil) (fq.box _) ?_;intro bm;refine gO ?_;refine fW .aa (fq.st _ _) rfl ⟨rfl,rfl⟩ ?_;refine lM .aa (fq.lM _) ?_;refine lM (.ao .aa) (aY.agg _) ?_;refine XO.v (NS rfl rfl YA) rfl (gO ?_);refine cd rfl ?_ ?_<;>intro h3
   ·have hs:=T8 (l:=l) ⟨og,og⟩ wK h3;refine lM .aa (Qf _) ?_;refine fW (.ao .aa) (aY.st _ _) rfl ⟨rfl,rfl⟩ ?_;refine sd ?_;refine ag ((x.1+1,(qc l i).to)) ?_ ?_ S4 (xq (pk [1,1,1,1]))
    ·omega
    ·exact⟨⟨by simp;omega,by simp;omega⟩,by rw[<-hov,show(6-x.1).toNat=(6-(x.1+1)).toNat+1 from og,Ua hs]⟩
   ·refine sd ?_;refine ag (i+1) ?_ ?_ (.cons rfl (.cons rfl S6)) (xq (pk [1,1,1,1]));all_goals grind
  ·have hs:=T7 (l:=l) (w:=x.2) fun j a b=>wK j a og;refine lM .aa (aY.agg _) ?_;refine fW (.ao .aa) (aY.st _ _) rfl ⟨rfl,rfl⟩ ?_;refine jt rfl (.agg rfl (.ao .aa) (aY.agg _) fL da) (ai (pk [2,2]) rfl ?_);grind [T9]
 ·refine lM .aa (aY.agg _) ?_;refine fW (.ao .aa) (aY.st _ _) rfl ⟨rfl,rfl⟩ ?_;refine jt rfl (.agg rfl (.ao .aa) (aY.agg _) fL da) (ai (pk [2,2]) rfl ?_);have e6:x.1=6:=og;exact⟨by rw[<-hov,e6];rfl,rfl⟩
def Ht(x:ByteArray)(hx:x.size<=1000000:=by omega):Spec Tryz.prog 231 [.string x] [] (fun v H1=>(iR x=9/\v= .tuple #[.slice none 0 0,.iface 102 (iI 9)]/\H1=[])\/(iR x=0/\∃ q c,v= .tuple #[.slice q (bW x).length c,.nilIface]/\H1=[jR q c 9 (bW x)])):=by
 refine Spec.go 41 [0,2,3,4,6,18,21,25,26,27,28,37] [] Tryz.func231 fun W=> ?_;refine sp 10 rfl ?_ ?_<;>intro h1
 ·refine eH .nil ?_;grind [aK,aJ,aR,iR]
 ·have hx6:¬ 60<x.size:=og;refine sp 14 rfl ?_ ?_<;>intro h2
  ·refine eH .nil ?_;grind [aK,aJ,aR,iR]
  ·have fM:¬x=⟨#[]⟩:=aq;obtain⟨u,hu⟩:=JA (s:=x) (j:=(0:Int).toNat) (by
     have h0:¬x.size=0:=fun q=>fM (xJ.2 q)
     show 0<x.size;omega)
   have hg:x.get! 0=u:=TP hu;refine XO.v (fX rfl rfl Tryz.underlying9 og hu) rfl (gO ?_);refine cd rfl ?_ ?_<;>intro h3
   ·refine eH .nil ?_;try dsimp only[aK,aJ,aG,aR]
    exact .inl ⟨JW (.inr (.inr (fun q=>(by assumption:¬((u.toNat:Nat):Int)=47) (by rw[hg]at q;rw[q];rfl)))),rfl,rfl⟩
   ·have hc:¬(60<x.size\/x=⟨#[]⟩\/x.get! 0≠47):=by
     rintro(a | a | a)
     ·omega
     ·simp_all
     ·exact a (by rw[hg];exact UInt8.toNat_inj.1 (by show u.toNat=47;omega))
    have DZ:1<=x.size:=by
     grind
    refine cd rfl ?_ ?_<;>intro h4
    ·refine XR.ft 9 1 (bC rfl rfl rfl (ai .h1 rfl ?_));try dsimp only[aK,aJ,aG,aR]
     have B0:x=hQ:=aq;have e:=Ha B0;exact .inr ⟨e.1,none,0,by rw[e.2];rfl,by rw[e.2];rfl⟩
    ·have B0:¬x=hQ:=aq;refine sd ?_ ⟨og,og⟩;refine ca (YB _ (by rw[ByteArray.size_extract];omega)) .nil ?_;rintro _ _ ⟨b1,rfl,rfl⟩;have hps:((1:Int).toNat)=1:=rfl;refine gO ?_;refine lp (σ:=Int) (fun i=>((dV (x.extract 1 x.size)).length-i).toNat) (fun i=>(0<=i/\i<=(dV (x.extract 1 x.size)).length)/\∀ j:Int,0<=j->j<i->wy (ki (dV (x.extract 1 x.size)) j)=true) (fun i=>[(27,iI i),(4,.slice (some ⟨b1,0,none⟩) (dV (x.extract 1 x.size)).length (dV (x.extract 1 x.size)).length),(25,.slice (some ⟨b1,0,none⟩) (dV (x.extract 1 x.size)).length (dV (x.extract 1 x.size)).length),(26,iI (dV (x.extract 1 x.size)).length)]) (fun i=>XM W (ck []) [jR (some ⟨b1,0,none⟩) (dV (x.extract 1 x.size)).length 9 (dV (x.extract 1 x.size))]) (0) ?_ S4 (xq .h1) ?_
     ·grind
     intro i hi;obtain⟨⟨hi0,hi1⟩,Ee⟩:=hi;have hpc:=wF (x.extract 1 x.size);rw[ByteArray.size_extract]at hpc;refine gC ?_;refine cd rfl ?_ ?_<;>intro h5
     ·refine sd (Ak .aa (rk) ?_);refine sp 33 rfl ?_ ?_<;>intro h6
      ·refine cq (UP _ (by have:=FX (x.extract 1 x.size) (z:=i) ⟨og,og⟩;rw[ByteArray.size_extract]at this;omega)) .nil ?_;refine yW ?_ ?_<;>intro h7
       ·try simp only[sb]at h7
        refine eH .nil ?_;grind [aK,aJ,aR,L8,wy,dd]
       ·try simp only[sb]at h7
        refine sd (ag (i+1) ?_ ?_ S4 (xq .h1));all_goals grind [wy]
      ·refine sd (ag (i+1) ?_ ?_ S4 (xq .h1));all_goals grind [wy,dd]
     ·refine eH .h1 ?_;try dsimp only[aK,aJ,aG,aR]
      have e:=JX hc B0 fun j a b=>Ee j a og;simp_all
end Go.X.Tr
