import Derived.Test.YthdinakloheinaaGreatDoorkNW6
import Derived.Test.YthdinakloheinaaGreatDoorkJA
import Derived.Shelf.Strings.Split
import Derived.Ground.NamesProg
import Derived.Shelf.Lays
set_option linter.all false
namespace Go.X.Tr
open Go Go.Proofs Go.X
set_option maxRecDepth 20000
set_option maxHeartbeats 4000000
def YP(b o:Nat)(K:Int)(hK:K<=1000000)(s:PS)(hI:s.Inv K)(n:Int):Spec Tryz.prog 193 [aC b o 0,iI n] [.cells b o 24 (bL s)] (fun v H1=>((s.is n=0/\0<=n/\n<8)/\v= .tuple #[aC b o (0+0+n.toNat*3),.nilIface]/\H1=[.cells b o 24 (bL s)])\/(s.is n≠0/\v= .tuple #[.pointer none,.iface 102 (iI (s.is n))]/\H1=[.cells b o 24 (bL s)])):=by
 have b0:=hI.e0 n;have b1:=hI.e1 n;have bl:=hI.len n;apply Spec.go 35 [0,1,4,5,11,28] [] Tryz.func193 rfl rfl rfl;intro W;refine sp 8 rfl ?_ ?_<;>intro h1
 ·refine ao rfl rfl rfl (ad .h1 rfl ?_);grind [aL,aJ,aR,PS.is]
 ·refine cd rfl ?_ ?_<;>intro h2
  ·refine ao rfl rfl rfl (ad .h1 rfl ?_);grind [aL,aJ,aR,PS.is]
  ·refine rq [0,1,2,3,4,5,6,7,8,9,10,11,12,13,14,15] mixed ?_;refine sd ?_;apply ld .aa (er _ _);refine sd ?_;apply ld .aa (dZ _ _);refine sd ?_;refine cd rfl ?_ ?_<;>intro h3
   ·refine ao rfl rfl rfl (ad .h1 rfl ?_);grind [aL,aJ,aR,PS.is]
   ·refine sd ?_;refine ao rfl rfl rfl (ad .h1 rfl ?_);grind [aL,aJ,aR,PS.is]
def DR(b o i:Nat):Spec Tryz.prog 196 [aC b o i,.bool true] [] (fun v H1=>v=aC b o (i+2)/\H1=[]):=by
 apply Spec.go 12 [0,1,4,5] [] Tryz.func196 rfl rfl rfl;intro W;refine ah rfl rfl (ad .nil rfl ?_);grind [aL,aJ]
def A7(b o i:Nat):Spec Tryz.prog 196 [aC b o i,.bool false] [] (fun v H1=>v=aC b o (i+1)/\H1=[]):=by
 apply Spec.go 12 [0,1,4,5] [] Tryz.func196 rfl rfl rfl;intro W;refine ah rfl rfl (ad .nil rfl ?_);grind [aL,aJ]
def acO(b o:Nat)(K:Int)(hK:K<=1000000)(s:PS)(hI:s.Inv K):Spec Tryz.prog 135 [aC b o 0] [.cells b o 24 (bL s)] (fun v H1=>v= .tuple #[iI s.make.1,az 102 s.make.2.1]/\H1=[.cells b o 24 (bL s.make.2.2)]):=by
 apply Spec.go 33 [0,2,3,4,5,6,23] [] Tryz.func135 rfl rfl rfl;intro W;refine lp (σ:=Int) (fun k=>(8-k).toNat) (fun k=>(0<=k/\k<=8)/\∀ j:Int,0<=j->j<k->s.e j 0+s.e j 1≠0) (fun k=>[(5,iI k),(0,aC b o 0)]) (fun k=>XM W (bZ [.cells b o 24 (bL s)]) [.cells b o 24 (bL s)]) (0) ?_ (S2 rfl rfl) (fun _ hw=>XM.pick .h1 hw) ?_
 ·grind
 intro k hk;obtain⟨hk,hn⟩:=hk;have b0:=hI.e0 k;have b1:=hI.e1 k;apply gC;refine cd rfl ?_ ?_<;>intro h1
 ·refine rq [0,1,2,3,4,5,6,7,8,9,10,11,12,13,14,15] mixed ?_;refine sd ?_;apply ld .aa (er _ _);refine sd ?_;apply ld .aa (dZ _ _);refine sd ?_;refine cd rfl ?_ ?_<;>intro h2
  ·refine XO.v (V.build (vs:= #[(1,iI 1),(2,iI 1)]) rfl (v:=.agg #[.string ⟨#[]⟩,iI 1,iI 1]) fun _=>kq) rfl (gO ?_);refine sd ?_;apply gD .aa (Qu hI og aq) rfl ⟨rfl,rfl⟩;refine ao rfl rfl rfl (ad .h1 rfl ?_);grind [aL,aJ,aR,PS.Qt,az]
  ·refine sd ?_;refine ag (k+1) ?_ ?_ (S2 rfl rfl) fun _ hw=>XM.pick .h1 hw;all_goals grind
 ·refine ao rfl rfl rfl (ad .h1 rfl ?_);grind [aL,aJ,aR,Hv,az]
def KF(b o:Nat)(K:Int)(hK:K<=1000000)(s:PS)(hI:s.Inv K)(n:Int):Spec Tryz.prog 145 [aC b o 0,iI n,.bool true] [.cells b o 24 (bL s)] (fun v H1=>v=az 102 (s.mm n true (-1)).1/\H1=[.cells b o 24 (bL (s.mm n true (-1)).2)]):=by
 have b0:=hI.e0 n;have b1:=hI.e1 n;have bl:=hI.len n;have G2:(s.e n (Ip true)=0)=(s.e n 1=0):=by simp[Ip]
 apply Spec.go 45 [0,1,2,6,7,8,16,23,41] [] Tryz.func145 rfl rfl rfl;intro W;refine ca (YP _ _ K hK s hI _) .h1 ?_;rintro _ _ (⟨h1,rfl,rfl⟩ | ⟨h1,rfl,rfl⟩)
 ·obtain⟨h1,h2,h3⟩:=h1;apply gO;refine cq (DR _ _ _) .nil ?_;apply ld .aa (dZ _ _);refine cd rfl ?_ ?_<;>intro h4
  ·refine ah rfl rfl (ad .h1 rfl ?_);grind [aL,aJ,aR,aQ,jv]
  ·refine cq (DR _ _ _) .nil ?_;apply ld .aa (dZ _ _);refine sd ?_;apply st .aa (lh _ _ og _) rfl;refine rq [0,1,2,3,4,5,6,7,8,9] mixed ?_;have c0:({s with e:=cr s.e n 1 (s.e n 1-1)} :PS).e n 0=s.e n 0+0:=by simp[cr]
   have c0f:cr s.e n 1 (s.e n 1-1) n 0=s.e n 0+0:=by simp[cr]
   have c1:({s with e:=cr s.e n 1 (s.e n 1-1)} :PS).e n 1=s.e n 1+ -1:=by simp[cr];omega
   have c1f:cr s.e n 1 (s.e n 1-1) n 1=s.e n 1+ -1:=by simp[cr];omega
   apply ld .aa (er _ _);apply ld .aa (dZ _ _);refine sd ?_;refine cd rfl ?_ ?_<;>intro h5
   ·refine XO.v (V.build (vs:= #[]) rfl (v:=.agg #[.string ⟨#[]⟩,iI 0,iI 0]) fun _=>kq) rfl (gO ?_);apply gD .aa (F0 _) rfl ⟨rfl,rfl⟩;refine ah rfl rfl (ad .h1 rfl ?_);first
    | (rw[lx aq];exact⟨(aQ _ aq).symm,rfl⟩)
    | (rw[jv aq aq];exact⟨rfl,rfl⟩)
    | (rw[PS.BI aq aq];exact⟨rfl,rfl⟩)
    | (rw[PS.uY aq aq];refine⟨rfl,?_⟩;exact congrArg (fun e=>[aK.cells b o 24 (bL {b:=ae s.b n ⟨#[]⟩,e:=e})]) (BJ))
   ·refine ah rfl rfl (ad .h1 rfl ?_);first
    | (rw[lx aq];exact⟨(aQ _ aq).symm,rfl⟩)
    | (rw[jv aq aq];exact⟨rfl,rfl⟩)
    | (rw[PS.BI aq aq];exact⟨rfl,rfl⟩)
    | (rw[PS.uY aq aq];refine⟨rfl,?_⟩;exact congrArg (fun e=>[aK.cells b o 24 (bL {b:=ae s.b n ⟨#[]⟩,e:=e})]) (BJ))
 ·apply gO;refine ah rfl rfl (ad .h1 rfl ?_);grind [aL,aJ,lx,aQ]
def HZ(b o:Nat)(K:Int)(hK:K<=1000000)(s:PS)(hI:s.Inv K)(n:Int):Spec Tryz.prog 145 [aC b o 0,iI n,.bool false] [.cells b o 24 (bL s)] (fun v H1=>v=az 102 (s.mm n false (-1)).1/\H1=[.cells b o 24 (bL (s.mm n false (-1)).2)]):=by
 have b0:=hI.e0 n;have b1:=hI.e1 n;have bl:=hI.len n;have G2:(s.e n (Ip false)=0)=(s.e n 0=0):=by simp[Ip]
 apply Spec.go 45 [0,1,2,6,7,8,16,23,41] [] Tryz.func145 rfl rfl rfl;intro W;refine ca (YP _ _ K hK s hI _) .h1 ?_;rintro _ _ (⟨h1,rfl,rfl⟩ | ⟨h1,rfl,rfl⟩)
 ·obtain⟨h1,h2,h3⟩:=h1;apply gO;refine cq (A7 _ _ _) .nil ?_;apply ld .aa (er _ _);refine cd rfl ?_ ?_<;>intro h4
  ·refine ah rfl rfl (ad .h1 rfl ?_);grind [aL,aJ,aR,aQ,jv]
  ·refine cq (A7 _ _ _) .nil ?_;apply ld .aa (er _ _);refine sd ?_;apply st .aa (lO _ _ og _) rfl;refine rq [0,1,2,3,4,5,6,7,8,9] mixed ?_;have c0:({s with e:=cr s.e n 0 (s.e n 0-1)} :PS).e n 0=s.e n 0+ -1:=by simp[cr];omega
   have c0f:cr s.e n 0 (s.e n 0-1) n 0=s.e n 0+ -1:=by simp[cr];omega
   have c1:({s with e:=cr s.e n 0 (s.e n 0-1)} :PS).e n 1=s.e n 1+0:=by simp[cr]
   have c1f:cr s.e n 0 (s.e n 0-1) n 1=s.e n 1+0:=by simp[cr]
   apply ld .aa (er _ _);apply ld .aa (dZ _ _);refine sd ?_;refine cd rfl ?_ ?_<;>intro h5
   ·refine XO.v (V.build (vs:= #[]) rfl (v:=.agg #[.string ⟨#[]⟩,iI 0,iI 0]) fun _=>kq) rfl (gO ?_);apply gD .aa (F0 _) rfl ⟨rfl,rfl⟩;refine ah rfl rfl (ad .h1 rfl ?_);first
    | (rw[lx aq];exact⟨(aQ _ aq).symm,rfl⟩)
    | (rw[jv aq aq];exact⟨rfl,rfl⟩)
    | (rw[PS.BI aq aq];exact⟨rfl,rfl⟩)
    | (rw[PS.uY aq aq];refine⟨rfl,?_⟩;exact congrArg (fun e=>[aK.cells b o 24 (bL {b:=ae s.b n ⟨#[]⟩,e:=e})]) (BJ))
   ·refine ah rfl rfl (ad .h1 rfl ?_);first
    | (rw[lx aq];exact⟨(aQ _ aq).symm,rfl⟩)
    | (rw[jv aq aq];exact⟨rfl,rfl⟩)
    | (rw[PS.BI aq aq];exact⟨rfl,rfl⟩)
    | (rw[PS.uY aq aq];refine⟨rfl,?_⟩;exact congrArg (fun e=>[aK.cells b o 24 (bL {b:=ae s.b n ⟨#[]⟩,e:=e})]) (BJ))
 ·apply gO;refine ah rfl rfl (ad .h1 rfl ?_);grind [aL,aJ,lx,aQ]
def acP(b o:Nat)(K:Int)(hK:K<=1000000)(s:PS)(hI:s.Inv K)(n m:Int):Spec Tryz.prog 139 [aC b o 0,iI n,iI m] [.cells b o 24 (bL s)] (fun v H1=>v= .tuple #[.string (s.mZ n m).1,az 102 (s.mZ n m).2.1]/\H1=[.cells b o 24 (bL (s.mZ n m).2.2)]):=by
 have b0:=hI.e0 n;have b1:=hI.e1 n;have bl:=hI.len n;apply Spec.go 70 [0,1,2,6,7,8,9,10,11,19,25,28,45] [] Tryz.func139 rfl rfl rfl;intro W;refine ca (YP _ _ K hK s hI _) .h1 ?_;rintro _ _ (⟨h1,rfl,rfl⟩ | ⟨h1,rfl,rfl⟩)
 ·obtain⟨h1,h2,h3⟩:=h1;apply gO;apply ld .aa (er _ _);refine cd rfl ?_ ?_<;>intro h4
  ·refine ao rfl rfl rfl (ad .h1 rfl ?_);grind [aL,aJ,aR,aQ,EP]
  ·refine cd rfl ?_ ?_<;>intro h5
   ·refine ao rfl rfl rfl (ad .h1 rfl ?_);grind [aL,aJ,aR,aQ,ER]
   ·apply ld .aa (dI _ _);refine sp 35 rfl ?_ ?_<;>intro h6
    ·apply ld .aa (dZ _ _);refine sp 42 rfl ?_ ?_<;>intro h7
     ·refine cd rfl ?_ ?_<;>intro h8
      ·refine ao rfl rfl rfl (ad .h1 rfl ?_);grind [aL,aJ,aR,aQ,ES]
      ·apply ld .aa (dI _ _);apply ld .aa (dI _ _);refine sd ?_;apply ld .aa (dI _ _);refine sd ?_;apply st .aa (iy _ _ og _) rfl;refine ao rfl rfl rfl (ad .h1 rfl ?_);grind [aL,aJ,aR,az,PS.Ht]
     ·apply ld .aa (dI _ _);apply ld .aa (dI _ _);refine sd ?_;apply ld .aa (dI _ _);refine sd ?_;apply st .aa (iy _ _ og _) rfl;refine ao rfl rfl rfl (ad .h1 rfl ?_);grind [aL,aJ,aR,az,PS.Ht]
    ·apply ld .aa (dI _ _);apply ld .aa (dI _ _);refine sd ?_;apply ld .aa (dI _ _);refine sd ?_;apply st .aa (iy _ _ og _) rfl;refine ao rfl rfl rfl (ad .h1 rfl ?_);grind [aL,aJ,aR,az,PS.Ht]
 ·apply gO;refine ao rfl rfl rfl (ad .h1 rfl ?_);grind [aL,aJ,aR,JZ,aQ]
def YQ(b o:Nat)(K:Int)(hK:K<=1000000)(s:PS)(hI:s.Inv K)(n:Int)(t:ByteArray)(ht:t.size<=1000000):Spec Tryz.prog 136 [aC b o 0,iI n,.string t] [.cells b o 24 (bL s)] (fun v H1=>v= .tuple #[iI (s.cg n t).1,az 102 (s.cg n t).2.1]/\H1=[.cells b o 24 (bL (s.cg n t).2.2)]):=by
 have b0:=hI.e0 n;have b1:=hI.e1 n;have bl:=hI.len n;have he:=Pe t;apply Spec.go 59 [0,1,2,6,7,8,9,10,18,24,30,46] [] Tryz.func136 rfl rfl rfl;intro W;refine ca (YP _ _ K hK s hI _) .h1 ?_;rintro _ _ (⟨h1,rfl,rfl⟩ | ⟨h1,rfl,rfl⟩)
 ·obtain⟨h1,h2,h3⟩:=h1;apply gO;apply ld .aa (dZ _ _);refine cd rfl ?_ ?_<;>intro h4
  ·refine ao rfl rfl rfl (ad .h1 rfl ?_);grind [aL,aJ,aR,aQ,C9]
  ·apply ld .aa (er _ _);refine cd rfl ?_ ?_<;>intro h5
   ·refine ao rfl rfl rfl (ad .h1 rfl ?_);grind [aL,aJ,aR,aQ,Bo]
   ·apply ld .aa (dI _ _);refine sd ?_;refine sp 43 rfl ?_ ?_<;>intro h6
    ·refine cd rfl ?_ ?_<;>intro h7
     ·refine ao rfl rfl rfl (ad .h1 rfl ?_);grind [aL,aJ,aR,aQ,Da]
     ·refine rq [0,1,2,3,4,5,6,7,8,9,10] mixed ?_;apply ld .aa (dI _ _);refine sd ?_;refine sd ?_ (by simp only[ByteArray.size_extract];omega);apply st .aa (iy _ _ og _) rfl;refine ao rfl rfl rfl (ad .h1 rfl ?_);try dsimp only[aL,aJ,aD,aR]
      grind [az,PS.J0]
    ·refine rq [0,1,2,3,4,5,6,7,8,9,10] mixed ?_;apply ld .aa (dI _ _);refine sd ?_;refine sd ?_ (by simp only[ByteArray.size_extract];omega);apply st .aa (iy _ _ og _) rfl;refine ao rfl rfl rfl (ad .h1 rfl ?_);try dsimp only[aL,aJ,aD,aR]
     grind [az,PS.J0]
 ·apply gO;refine ao rfl rfl rfl (ad .h1 rfl ?_);grind [aL,aJ,aR,Hu,aQ]
def acQ(b o:Nat)(K:Int)(hK:K<=1000000)(s:PS)(hI:s.Inv K)(n:Int)(w:Bool):Spec Tryz.prog 145 [aC b o 0,iI n,.bool w] [.cells b o 24 (bL s)] (fun v H1=>v=az 102 (s.mm n w (-1)).1/\H1=[.cells b o 24 (bL (s.mm n w (-1)).2)]):=by
 cases w
 ·exact HZ b o K hK s hI n
 ·exact KF b o K hK s hI n
def Vi(bo oo bf bp:Nat)(O:OS)(n:Int):Spec Tryz.prog 125 [aC bo oo 0,iI n] [.cells bo oo 122 (bh bf bp O)] (fun v H1=>((O.is n=0/\0<=n/\n<24)/\v= .tuple #[aC bo oo (0+2+n.toNat*5),.nilIface]/\H1=[.cells bo oo 122 (bh bf bp O)])\/(O.is n≠0/\v= .tuple #[.pointer none,.iface 102 (iI (O.is n))]/\H1=[.cells bo oo 122 (bh bf bp O)])):=by
 apply Spec.go 27 [0,1,4,5,11,20] [] Tryz.func125 rfl rfl rfl;intro W;refine sp 8 rfl ?_ ?_<;>intro h1
 ·refine ao rfl rfl rfl (ad .h1 rfl ?_);grind [aL,aJ,aR,OS.jo]
 ·refine cd rfl ?_ ?_<;>intro h2
  ·refine ao rfl rfl rfl (ad .h1 rfl ?_);grind [aL,aJ,aR,OS.jo]
  ·refine sd (ld .aa (j8 _ _) ?_);refine cd rfl ?_ ?_<;>intro h3
   ·refine ao rfl rfl rfl (ad .h1 rfl ?_);grind [aL,aJ,aR,OS.jo]
   ·refine sd (ao rfl rfl rfl (ad .h1 rfl ?_));grind [aL,aJ,aR,OS.jo]
def MY(bo oo bf bp:Nat)(O:OS)(m:Int):Spec Tryz.prog 134 [aC bo oo 0,iI m] [.cells bo oo 122 (bh bf bp O)] (fun v H1=>(((O.fq m 24).length:Int)<m/\v= .slice none 0 0/\H1=[.cells bo oo 122 (bh bf bp O)])\/(¬((O.fq m 24).length:Int)<m/\∃ p c,v= .slice p (O.fq m 24).length c/\H1=[db p c 3 (O.fq m 24),.cells bo oo 122 (bh bf bp O)])):=by
 apply Spec.go 34 [0,1,4,5,6,7,8,23,32] [] Tryz.func134 rfl rfl rfl;intro W;apply XR.fc 3 1;refine lp (σ:=Int×Option Addr×Nat) (fun x=>(24-x.1).toNat) (fun x=>0<=x.1/\x.1<=24) (fun x=>[(5,.slice x.2.1 (O.fq m x.1.toNat).length x.2.2),(7,iI x.1),(0,aC bo oo 0),(1,iI m)]) (fun x=>XM W (bZ [.cells bo oo 122 (bh bf bp O)]) [db x.2.1 x.2.2 3 (O.fq m x.1.toNat),.cells bo oo 122 (bh bf bp O)]) ((0,none,0)) ?_ (S4 rfl rfl rfl rfl) (fun _ hw=>XM.pick (pz 2) hw) ?_
 ·omega
 intro x hx;obtain⟨sN,Il⟩:=hx;have sW:=O.Mt m sN;have Z9:=O.F6 m x.1.toNat;apply gC;refine cd rfl ?_ ?_<;>intro h1
 ·refine sd (ld (.av .aa) (j8 _ _) ?_);refine sp 18 rfl ?_ ?_<;>intro h2
  ·refine cd rfl ?_ ?_<;>intro h3
   ·have e1:O.fq m (x.1+1).toNat=O.fq m x.1.toNat++[x.1]:=by rw[sW,if_pos ⟨aq,aq⟩]
    apply XO.buildSlice (A:= #[iI _]) (vs:= #[(0,iI _)]) rfl (r7 _) rfl rfl;intro h4;apply gO;apply jM (e:=3) rfl rfl Tryz.underlying55 o8 (.av .aa) .aa og rfl;intro pa ca;apply gO;refine sd (ag ((x.1+1,pa,ca)) ?_ ?_ (S4 (by rw[e1];try rfl) rfl rfl rfl) fun _ hw=>by rw[e1];exact XM.pick (pk [0,1]) hw);all_goals omega
   ·have e1:O.fq m (x.1+1).toNat=O.fq m x.1.toNat:=by rw[sW,if_neg fun q=>absurd q.2 aq]
    refine sd (ag ((x.1+1,x.2.1,x.2.2)) ?_ ?_ (S4 (by rw[e1];try rfl) rfl rfl rfl) fun _ hw=>by rw[e1];exact XM.pick (pz 2) hw);all_goals omega
  ·have e1:O.fq m (x.1+1).toNat=O.fq m x.1.toNat:=by rw[sW,if_neg fun q=>absurd q.1 aq]
   refine sd (ag ((x.1+1,x.2.1,x.2.2)) ?_ ?_ (S4 (by rw[e1];try rfl) rfl rfl rfl) fun _ hw=>by rw[e1];exact XM.pick (pz 2) hw);all_goals omega
 ·have e24:x.1=24:=og;rw[e24];refine cd rfl ?_ ?_<;>intro h7
  ·refine ah rfl rfl (ad (pk [1]) rfl ?_);grind [aL,aJ,aR]
  ·refine ah rfl rfl (ad (pz 2) rfl ?_);grind [aL,aJ]
def acR(bo oo bf bp:Nat)(O:OS)(s:FC)(hI:s.toFF.Sh)(n:Int)(w:Bool):Spec Tryz.prog 208 [aC bo oo 0,iI n,.bool w] [.cells bo oo 122 (bh bf bp O),.cells bf 0 321 (aH s),.aV ax (FC.aX 9 s),.aV ax (FC.aY 3 s)] (fun v H1=>v= .tuple #[iI (tS s.toFF O n),az 102 (nD s.toFF O n)]/\∃ t:FC,t.toFF=mH s.toFF O n/\t.rP=s.rP/\t.rC=s.rC/\H1=[.cells bo oo 122 (bh bf bp (p7 s.toFF O n w)),.cells bf 0 321 (aH t),.aV ax (FC.aX 9 t),.aV ax (FC.aY 3 t)]):=by
 apply Spec.go 51 [0,1,2,6,7,8,9,10,21,25,30] [] Tryz.func208 rfl rfl rfl;intro W;apply ld .aa (qW _);refine cq (MH _ _ _ hI _) (pk [1]) ?_;apply XO.bN (z:=.agg NV.zero.cO) (m:=4) (C:=nQ NV.zero) kq rfl (oz _) rfl;intro bx;apply gO;apply gD .aa (lS _ _) rfl ⟨rfl,rfl⟩;refine cd rfl ?_ ?_<;>intro h1
 ·have j0:s.cx n 0≠0:=aq;have jn:=FF.Tu s.toFF n 0;have hn1:s.cx n 1=s.cx n 0:=(FF.Uc j0).symm;refine ao rfl rfl rfl (ad (pk [2,1,1,1]) rfl ?_);grind [aL,aJ,aR,nD,tS,mH,p7]
 ·have j0:s.cx n 0=0:=by simpa using h1
  obtain⟨j1,j2,j3⟩:=FF.vG j0;obtain⟨QI,_,_⟩:=FF.Ui j0;apply ld .aa (wL _);refine cd rfl ?_ ?_<;>intro h2
  ·have hn1:s.cx n 1=11:=by rw[QI]at h2;unfold FF.cx;rw[if_neg og,if_neg og,if_pos og]
   refine ao rfl rfl rfl (ad (pk [2,1,1,1]) rfl ?_);grind [aL,aJ,aR,nD,tS,mH,p7,az]
  ·have hn1:s.cx n 1=0:=by rw[QI]at h2;unfold FF.cx;rw[if_neg og,if_neg og,if_neg og]
   refine ca (MY _ _ _ _ _ _) (pk [2]) ?_;rintro _ _ (⟨f0,rfl,rfl⟩ | ⟨f0,p1,c1,rfl,rfl⟩)
   ·apply gO;refine XO.v (kW rfl Tryz.underlying55 rfl) rfl (gO ?_);refine W1 rfl (rfl) (ao rfl rfl rfl (ad (pk [0,1,1,1]) rfl ?_));try dsimp only[aL,aJ,aD,aR]
    have hf:=OS.BL f0;grind [nD,tS,mH,p7,az]
   ·obtain⟨hf1,RF⟩:=OS.Uj f0;have YR:=OS.nc hf1;rw[RF];apply gO;apply bH .aa (by show 0<1;omega);intro g hg;subst hg;refine XO.v (kW rfl Tryz.underlying55 rfl) rfl (gO ?_);refine Im rfl sq (ld (.av .aa) (qW _) ?_);refine ca (uk _ _ _ hI _) (pk [3,3,3]) ?_;rintro _ _ ⟨rfl,t,ht,tp,tc,rfl⟩;apply gO;refine rq [0,1,2,3,4,5,6,7,8,9,10] mixed (sd (q9 (.t3 .aa) (aag _) (XO.v (V.build (vs:= #[(0,iI 1),(1,iI n),(3,.bool w),(4,iI 1)]) rfl (v:=.agg (bh.cO ⟨1,n,0,w,1⟩)) fun _=>kq) rfl (gO ?_))) (by show(0:Int)<=0/\(0:Int)<1;omega));refine sd (gD (.t4 .aa) (bh.put O O.first 1 n w 1 ⟨YR.1,YR.2.1⟩) rfl ⟨rfl,rfl⟩ (sd (q9 (.t3 .aa) (aag _) (ao rfl rfl rfl (ad (pk [4,0,0,0]) rfl ?_))) (by show(0:Int)<=0/\(0:Int)<1;omega))) ⟨YR.1,YR.2.1⟩;try dsimp only[aL,aJ,aD,aR]
    have e:nD s.toFF O n=0:=by unfold nD;rw[if_neg og,if_neg hf1]
    exact⟨by rw[show tS s.toFF O n=O.first from by unfold tS;rw[if_pos e],e];rfl,t,by rw[ht];unfold mH;rw[if_pos e],tp,tc,by rw[show p7 s.toFF O n w=O.lay O.first 1 n w from by unfold p7;rw[if_pos e]];rfl⟩
def H3(bo oo bf bp:Nat)(O:OS)(J:Int)(hJ:J<=1000000)(hO:O.Inv J)(n:Int):Spec Tryz.prog 59 [aC bo oo 0,iI n] [.cells bo oo 122 (bh bf bp O)] (fun v H1=>v=az 102 (O.is n)/\H1=[.cells bo oo 122 (bh bf bp (p8 O n))]):=by
 apply Spec.go 23 [0,1,4,5,6,14] [] Tryz.func59 rfl rfl rfl;intro W;refine ca (Vi _ _ _ _ _ _) .h1 ?_;rintro _ _ (⟨⟨i0,i1,i2⟩,rfl,rfl⟩ | ⟨i0,rfl,rfl⟩)
 ·have hrb:=hO.cG n i1 i2;apply gO;apply ld .aa (j8 _ _);refine sd ?_;apply st .aa (uj _ _ og _) rfl;refine ah rfl rfl (ad .h1 rfl ?_);grind [aL,aJ,p8,az]
 ·apply gO;refine ah rfl rfl (ad .h1 rfl ?_);grind [aL,aJ,p8,az]
def Vj(bf bp:Nat):Array Value:=((List.range 122).map (bh bf bp OS.dm)).toArray
def Q5(bf bp:Nat):(Vj bf bp).size=122:=by simp[Vj]
def Vk(bf bp:Nat):∀ i,i<122->cellsOf (Vj bf bp) i=bh bf bp OS.dm i:=fun i hi=>by simp[cellsOf,Vj,hi]
def YS(bo oo bf bp:Nat)(O:OS)(J:Int)(hJ:J<=1000000)(hO:O.Inv J)(s:FC)(hI:s.toFF.Sh)(K:Int)(hK:K<=1000000)(q:PS)(hq:q.Inv K)(n:Int)(x:ByteArray)(hx:x.size<=1000000):Spec Tryz.prog 70 [aC bo oo 0,iI n,.string x] [.cells bo oo 122 (bh bf bp O),.cells bf 0 321 (aH s),.aV ax (FC.aX 9 s),.aV ax (FC.aY 3 s),.cells bp 0 24 (bL q)] (fun v H1=>v= .tuple #[iI (jf s.toFF q O n x),az 102 (iG s.toFF q O n x)]/\∃ t:FC,t.toFF=fW s.toFF O n x/\t.rP=s.rP/\t.rC=s.rC/\H1=[.cells bo oo 122 (bh bf bp (jg s.toFF O n x)),.cells bf 0 321 (aH t),.aV ax (FC.aX 9 t),.aV ax (FC.aY 3 t),.cells bp 0 24 (bL (lT q O n x))]):=by
 apply Spec.go 79 [0,1,2,6,7,8,9,17,19,37,66] [] Tryz.func70 rfl rfl rfl;intro W;refine ca (Vi _ _ _ _ _ _) .h1 ?_;rintro _ _ (⟨⟨i0,i1,i2⟩,rfl,rfl⟩ | ⟨i0,rfl,rfl⟩)
 ·have hra:=hO.cG n i1 i2;have haa:=hO.at_ n i1 i2;have hka:=hO.aU n i1 i2 (OS.Ms i0).2.2;apply gO;apply ld .aa (lV _ _);refine cd rfl ?_ ?_<;>intro h1
  ·refine rq [0,1,2,3,4,5,6,7,8,9,10,11,12,13] mixed ?_;apply ld .aa (bh.JH _);apply ld .aa (pO _ _);refine cq (YQ _ _ K hK q hq _ _ hx) (pk [4]) ?_;refine ao rfl rfl rfl (ad (pk [1,1,1,1,0]) rfl ?_);try dsimp only[aL,aJ,aD,aR]
   have hk:O.aU n=3:=aq;have eE:iG s.toFF q O n x=(q.cg (O.n n) x).2.1:=by unfold iG;rw[if_neg og,if_pos hk]
   have eV:jf s.toFF q O n x=(q.cg (O.n n) x).1:=by unfold jf;rw[if_pos ⟨i0,hk⟩]
   have eF:fW s.toFF O n x=s.toFF:=by unfold fW;rw[if_neg fun h=>h.2.1 hk]
   have eO:jg s.toFF O n x=O:=by unfold jg;rw[if_neg fun h=>h.1.2.1 hk]
   grind [lT]
  ·apply ld .aa (lV _ _);refine sp 43 rfl ?_ ?_<;>intro h2
   ·refine ao rfl rfl rfl (ad (pz 5) rfl ?_);try dsimp only[aL,aJ,aD,aR]
    have hk:¬O.aU n=3:=aq;have h2:O.aU n=2:=aq;have eE:iG s.toFF q O n x=8:=by unfold iG;rw[if_neg og,if_neg hk,if_pos (.inl h2)]
    have eV:jf s.toFF q O n x=0:=by unfold jf;rw[if_neg fun h=>hk h.2,if_neg fun h=>h.1.2.2 (.inl h2)]
    have eF:fW s.toFF O n x=s.toFF:=by unfold fW;rw[if_neg fun h=>h.2.2 (.inl h2)]
    have eO:jg s.toFF O n x=O:=by unfold jg;rw[if_neg fun h=>h.1.2.2 (.inl h2)]
    grind [lT,az]
   ·skip;apply ld .aa (Bq _ _ og);refine we rfl ?_ ?_<;>intro h3
    ·try simp only[sb]at h3
     have hwf:O.cg n=false:=by simpa using h3
     refine ao rfl rfl rfl (ad (pz 5) rfl ?_);try dsimp only[aL,aJ,aD,aR]
     have hk:¬O.aU n=3:=aq;have eE:iG s.toFF q O n x=8:=by unfold iG;rw[if_neg og,if_neg hk,if_pos (.inr hwf)]
     have eV:jf s.toFF q O n x=0:=by unfold jf;rw[if_neg fun h=>hk h.2,if_neg fun h=>h.1.2.2 (.inr hwf)]
     have eF:fW s.toFF O n x=s.toFF:=by unfold fW;rw[if_neg fun h=>h.2.2 (.inr hwf)]
     have eO:jg s.toFF O n x=O:=by unfold jg;rw[if_neg fun h=>h.1.2.2 (.inr hwf)]
     grind [lT,az]
    ·try simp only[sb]at h3
     have hwt:O.cg n=true:=by simpa using h3
     refine rq [0,1,2,3,4,5,6,7,8,9,10,11,12,13,14] mixed ?_;apply ld .aa (qW _);apply ld .aa (pO _ _);apply ld .aa (nZ _ _);refine ca (YO _ _ _ hI _ _ _ og) (pk [1,1,1]) ?_;rintro _ _ ⟨rfl,t,ht,tp,tc,rfl⟩;apply gO;refine cd rfl ?_ ?_<;>intro h4
     ·refine ao rfl rfl rfl (ad (pk [3,0,0,0,0]) rfl ?_);try dsimp only[aL,aJ,aD,aR]
      have hk:¬O.aU n=3:=aq;have h2:¬O.aU n=2:=aq;have hfw:Dr O n:=⟨i0,hk,fun h=>by rcases h with h | h;exact h2 h;rw[hwt]at h;cases h⟩;have hwe:s.toFF.eW (O.n n) (O.at_ n) x≠0:=aq;have eE:iG s.toFF q O n x=s.toFF.eW (O.n n) (O.at_ n) x:=by unfold iG;rw[if_neg og,if_neg hk,if_neg hfw.2.2]
      have eV:jf s.toFF q O n x=0:=by unfold jf;rw[if_neg fun h=>hk h.2,if_neg fun h=>hwe h.2]
      have eF:fW s.toFF O n x=s.toFF.cg (O.n n) (O.at_ n) x:=by unfold fW;rw[if_pos hfw]
      grind [jg,lT]
     ·apply ld (.t3 .aa) (nZ _ _);refine sd ?_;apply st (.t3 .aa) (bh.HY _ _ og _) rfl;refine ao rfl rfl rfl (ad (pk [3,0,0,0,0]) rfl ?_);try dsimp only[aL,aJ,aD,aR]
      have hk:¬O.aU n=3:=aq;have h2:¬O.aU n=2:=aq;have hfw:Dr O n:=⟨i0,hk,fun h=>by rcases h with h | h;exact h2 h;rw[hwt]at h;cases h⟩;have hwe:s.toFF.eW (O.n n) (O.at_ n) x=0:=Decidable.byContradiction aq;have eE:iG s.toFF q O n x=0:=by unfold iG;rw[if_neg og,if_neg hk,if_neg hfw.2.2,hwe]
      have eV:jf s.toFF q O n x=(x.size:Int):=by unfold jf;rw[if_neg fun h=>hk h.2,if_pos ⟨hfw,hwe⟩]
      have eF:fW s.toFF O n x=s.toFF.cg (O.n n) (O.at_ n) x:=by unfold fW;rw[if_pos hfw]
      have eO:jg s.toFF O n x=O.move n (x.size):=by unfold jg;rw[if_pos ⟨hfw,hwe⟩]
      have eP:lT q O n x=q:=by unfold lT;rw[if_neg fun h=>hk h.2]
      exact⟨by rw[eE,eV];rfl,t,by rw[eF];exact ht,tp,tc,by rw[eO,eP];rfl⟩
 ·apply gO;refine ao rfl rfl rfl (ad (pz 5) rfl ?_);try dsimp only[aL,aJ,aD,aR]
  have eE:iG s.toFF q O n x=O.is n:=by unfold iG;rw[if_pos i0]
  have eV:jf s.toFF q O n x=0:=by unfold jf;rw[if_neg fun h=>i0 h.1,if_neg fun h=>i0 h.1.1]
  have eF:fW s.toFF O n x=s.toFF:=by unfold fW;rw[if_neg fun h=>i0 h.1]
  have eO:jg s.toFF O n x=O:=by unfold jg;rw[if_neg fun h=>i0 h.1.1]
  grind [lT,az]
def acT(bo oo bf bp:Nat)(O:OS)(J:Int)(hJ:J<=1000000)(hO:O.Inv J)(s:FC)(hI:s.toFF.Sh)(K:Int)(hK:K<=1000000)(q:PS)(hq:q.Inv K)(n m:Int):Spec Tryz.prog 72 [aC bo oo 0,iI n,iI m] [.cells bo oo 122 (bh bf bp O),.cells bf 0 321 (aH s),.aV ax (FC.aX 9 s),.aV ax (FC.aY 3 s),.cells bp 0 24 (bL q)] (fun v H1=>v= .tuple #[.string (tU s.toFF q O n m),az 102 (tT s.toFF q O n m)]/\H1=[.cells bo oo 122 (bh bf bp (qa s.toFF O n m)),.cells bf 0 321 (aH s),.aV ax (FC.aX 9 s),.aV ax (FC.aY 3 s),.cells bp 0 24 (bL (p9 q O n m))]):=by
 apply Spec.go 69 [0,1,2,6,7,8,9,10,18,23,24,27] [] Tryz.func72 rfl rfl rfl;intro W;refine ca (Vi _ _ _ _ _ _) .h1 ?_;rintro _ _ (⟨⟨i0,i1,i2⟩,rfl,rfl⟩ | ⟨i0,rfl,rfl⟩)
 ·have hra:=hO.cG n i1 i2;have haa:=hO.at_ n i1 i2;have hka:=hO.aU n i1 i2 (OS.Ms i0).2.2;apply gO;apply ld .aa (lV _ _);refine cd rfl ?_ ?_<;>intro h1
  ·refine ao rfl rfl rfl (ad (pz 5) rfl ?_);try dsimp only[aL,aJ,aD,aR]
   grind [tT,tU,qa,p9,az]
  ·refine cd rfl ?_ ?_<;>intro h2
   ·refine rq [0,1,2,3,4,5,6,7,8,9,10,11,12,13] mixed ?_;apply ld .aa (bh.JH _);apply ld .aa (pO _ _);refine cq (acP _ _ K hK q hq _ _) (pk [4]) ?_;refine ao rfl rfl rfl (ad (pk [1,1,1,1,0]) rfl ?_);try dsimp only[aL,aJ,aD,aR]
    grind [tT,tU,qa,p9]
   ·refine rq [0,1,2,3,4,5,6,7,8,9,10,11,12,13,14,15,16,17,18] mixed ?_;apply ld .aa (qW _);apply ld .aa (pO _ _);apply ld .aa (nZ _ _);refine ca (acM _ _ _ hI _ _ _) (pk [1]) ?_;rintro _ _ ⟨rfl,rfl⟩;have hrl:=FF.Kf hI (O.n n) (O.at_ n) m;apply gO;apply ld (.av .aa) (nZ _ _);refine sd ?_;apply st (.av .aa) (bh.HY _ _ og _) rfl;refine ao rfl rfl rfl (ad (pk [1,0,0,0,0]) rfl ?_);try dsimp only[aL,aJ,aD,aR]
    have hk:¬O.aU n=3:=aq;have h2:¬O.aU n=2:=aq;have eE:tT s.toFF q O n m=s.toFF.lQ (O.n n) (O.at_ n) m:=by unfold tT;rw[if_neg og,if_neg hk,if_neg h2]
    have eV:tU s.toFF q O n m=s.toFF.ky (O.n n) (O.at_ n) m:=by unfold tU;rw[if_neg og,if_neg hk,if_neg h2]
    have eO:qa s.toFF O n m=O.move n ((s.toFF.ky (O.n n) (O.at_ n) m).size):=by unfold qa;rw[if_pos ⟨i0,hk,h2⟩]
    have eP:p9 q O n m=q:=by unfold p9;rw[if_neg fun h=>h2 h.2]
    exact⟨by rw[eE,eV],by rw[eO,eP];rfl⟩
 ·apply gO;refine ao rfl rfl rfl (ad (pz 5) rfl ?_);grind [aL,aJ,aR,tT,tU,qa,p9,aQ]
def ON(bo oo bf bp:Nat)(O:OS)(J:Int)(hJ:J<=1000000)(hO:O.Inv J)(s:FC)(hI:s.toFF.Sh)(K:Int)(hK:K<=1000000)(q:PS)(hq:q.Inv K)(n:Int):Spec Tryz.prog 76 [aC bo oo 0,iI n] [.cells bo oo 122 (bh bf bp O),.cells bf 0 321 (aH s),.aV ax (FC.aX 9 s),.aV ax (FC.aY 3 s),.cells bp 0 24 (bL q)] (fun v H1=>v=az 102 (jY s.toFF q O n)/\∃ t:FC,t.toFF=mI s.toFF O n/\t.rP=s.rP/\t.rC=s.rC/\H1=[.cells bo oo 122 (bh bf bp (kB O n)),.cells bf 0 321 (aH t),.aV ax (FC.aX 9 t),.aV ax (FC.aY 3 t),.cells bp 0 24 (bL (kA q O n))]):=by
 apply Spec.go 55 [0,1,4,5,6,7,15,28,37] [] Tryz.func76 rfl rfl rfl;intro W;refine ca (Vi _ _ _ _ _ _) .h1 ?_;rintro _ _ (⟨⟨i0,i1,i2⟩,rfl,rfl⟩ | ⟨i0,rfl,rfl⟩)
 ·have hra:=hO.cG n i1 i2;have haa:=hO.at_ n i1 i2;have hka:=hO.aU n i1 i2 (OS.Ms i0).2.2;apply gO;apply ld .aa (j8 _ _);refine sd ?_;apply st .aa (uj _ _ og _) rfl;apply ld .aa (j8 _ _);refine cd rfl ?_ ?_<;>intro h1
  ·have e9:ae O.cG n (O.cG n-1) n=O.cG n-1:=au _ _ _;have h9:ae O.cG n (O.cG n-1) n>0:=h1;have Li:0<O.cG n-1:=og;refine ah rfl rfl (ad (pz 5) rfl ?_);try dsimp only[aL,aJ,aD,aR]
   have eE:jY s.toFF q O n=0:=by unfold jY;rw[if_neg og,if_pos Li]
   have eF:mI s.toFF O n=s.toFF:=by unfold mI;rw[if_neg fun h=>h.1.2 Li]
   have eP:kA q O n=q:=by unfold kA;rw[if_neg fun h=>h.1.2 Li]
   grind [kB,Kd,az]
  ·have e9:ae O.cG n (O.cG n-1) n=O.cG n-1:=au _ _ _;have h9:¬ae O.cG n (O.cG n-1) n>0:=h1;have Li:¬ 0<O.cG n-1:=og;apply lZ .aa (bh.Ly _ _ og);apply XO.bN (z:=.agg (bh.cO ⟨0,0,0,false,0⟩)) (m:=5) (C:=bh.cell ⟨0,0,0,false,0⟩) kq rfl (bh.box _) rfl;intro bx;apply gO;apply gD .aa (Vd _ _) rfl ⟨rfl,rfl⟩;refine XO.v (V.build (vs:= #[]) rfl (v:=.agg (bh.cO ⟨0,0,0,false,0⟩)) fun _=>kq) rfl (gO ?_);apply gD (.av .aa) (bh.put (Kd O n) n 0 0 false 0 ⟨i1,i2⟩) rfl ⟨rfl,rfl⟩;apply ld .aa (KD _);refine cd rfl ?_ ?_<;>intro h2
   ·refine rq [0,1,2,3,4,5,6,7] mixed ?_;apply ld (.av .aa) (qW _);apply ld .aa (KE _);refine ca (Gh _ _ _ hI _) (pk [2,2,2]) ?_;rintro _ _ ⟨rfl,t,ht,tp,tc,rfl⟩;apply gO;refine ah rfl rfl (ad (pk [4,0,0,0,1]) rfl ?_);try dsimp only[aL,aJ,aD,aR]
    have hk:O.aU n=1:=aq;have eE:jY s.toFF q O n=s.toFF.Dd (O.n n):=by unfold jY;rw[if_neg og,if_neg Li,if_pos hk]
    have eF:mI s.toFF O n=s.toFF.kz (O.n n):=by unfold mI;rw[if_pos ⟨⟨i0,Li⟩,hk⟩]
    have eP:kA q O n=q:=by unfold kA;rw[if_neg fun h=>h.2 hk]
    have eO:kB O n=O.Hd n:=by unfold kB;rw[if_neg og,if_neg Li]
    exact⟨by rw[eE];rfl,t,by rw[eF];exact ht,tp,tc,by rw[eO,eP,<-OS.Ke];rfl⟩
   ·refine rq [0,1,2,3,4,5,6,7,8,9,10] mixed ?_;apply ld (.av .aa) (bh.JH _);apply ld .aa (KE _);apply ld .aa (KD _);refine cq (acQ _ _ K hK q hq _ _) (pk [5]) ?_;refine ah rfl rfl (ad (pk [2,2,2,2,0]) rfl ?_);try dsimp only[aL,aJ,aD,aR]
    have hk:¬O.aU n=1:=aq;have eE:jY s.toFF q O n=(q.mm (O.n n) (decide (O.aU n=3)) (-1)).1:=by unfold jY;rw[if_neg og,if_neg Li,if_neg hk]
    have eF:mI s.toFF O n=s.toFF:=by unfold mI;rw[if_neg fun h=>hk h.2]
    have eP:kA q O n=(q.mm (O.n n) (decide (O.aU n=3)) (-1)).2:=by unfold kA;rw[if_pos ⟨⟨i0,Li⟩,hk⟩]
    have eO:kB O n=O.Hd n:=by unfold kB;rw[if_neg og,if_neg Li]
    exact⟨by rw[eE];rfl,s,by rw[eF],rfl,rfl,by rw[eO,eP,<-OS.Ke];rfl⟩
 ·apply gO;refine ah rfl rfl (ad (pz 5) rfl ?_);try dsimp only[aL,aJ,aD,aR]
  have eE:jY s.toFF q O n=O.is n:=by unfold jY;rw[if_pos i0]
  have eF:mI s.toFF O n=s.toFF:=by unfold mI;rw[if_neg fun h=>i0 h.1.1]
  have eP:kA q O n=q:=by unfold kA;rw[if_neg fun h=>i0 h.1.1]
  grind [kB,az]
def Vl(bf bp:Nat):Spec Tryz.prog 100 [aC bf 0 0,aC bp 0 0] [] (fun v H1=>∃ b,v=aC b 0 0/\H1=[.cells b 0 122 (bh bf bp OS.dm)]):=by
 apply Spec.go 9 [0,1,4] [] Tryz.func100 rfl rfl rfl;intro W;refine XO.v (V.build (vs:= #[(0,aC bf 0 0),(1,aC bp 0 0)]) rfl (v:=.agg (Vj bf bp)) fun _=>kq) rfl (gO ?_);refine XO.box (m:=122) (C:=bh bf bp OS.dm) rfl (Q5 bf bp) (Vk bf bp) rfl ?_;intro b;apply gO;refine ah rfl rfl (ad .h1 rfl ?_);grind [aL,aJ]
def acU(bo oo bf bp:Nat)(O:OS)(n a:Int):Spec Tryz.prog 209 [aC bo oo 0,iI n,iI a] [.cells bo oo 122 (bh bf bp O)] (fun v H1=>v=az 102 (nf O n a)/\H1=[.cells bo oo 122 (bh bf bp (vM O n a))]):=by
 apply Spec.go 35 [0,1,2,6,7,8,16,22,29] [] Tryz.func209 rfl rfl rfl;intro W;refine ca (Vi _ _ _ _ _ _) .h1 ?_;rintro _ _ (⟨⟨i0,i1,i2⟩,rfl,rfl⟩ | ⟨i0,rfl,rfl⟩)
 ·apply gO;apply ld .aa (lV _ _);refine cd rfl ?_ ?_<;>intro h1
  ·refine ah rfl rfl (ad .h1 rfl ?_);grind [aL,aJ,aR,nf,vM,az]
  ·refine sp 26 rfl ?_ ?_<;>intro h2
   ·refine ah rfl rfl (ad .h1 rfl ?_);grind [aL,aJ,aR,nf,vM,az]
   ·refine cd rfl ?_ ?_<;>intro h3
    ·refine ah rfl rfl (ad .h1 rfl ?_);grind [aL,aJ,aR,nf,vM,az]
    ·refine st .aa (bh.HY _ _ og _) rfl (ah rfl rfl (ad .h1 rfl ?_));grind [aL,aJ,aR,nf,vM,az]
 ·apply gO;refine ah rfl rfl (ad .h1 rfl ?_);grind [aL,aJ,nf,vM,az]
def acV(bo oo bf bp:Nat)(O:OS)(J:Int)(hJ:J<=1000000)(hO:O.Inv J)(m:Int):Spec Tryz.prog 204 [aC bo oo 0,iI m] [.cells bo oo 122 (bh bf bp O)] (fun v H1=>v= .bool (Om O m)/\H1=[.cells bo oo 122 (bh bf bp O)]):=by
 apply Spec.go 13 [0,1,4] [] Tryz.func204 rfl rfl rfl;intro W;refine sp 7 rfl ?_ ?_<;>intro h1
 ·refine ah rfl rfl (ad .h1 rfl ?_);grind [aL,aJ,aR,Om]
 ·refine ca (MY _ _ _ _ _ _) .h1 ?_;rintro _ _ (⟨f0,rfl,rfl⟩ | ⟨f0,p1,c1,rfl,rfl⟩)
  ·have hfn:=OS.zY (fun z z1 z2=>(hO.cG z z1 z2).1) m og 24 (Nat.le_refl 24);rw[show O.Dp 24=O.opens from rfl]at hfn;have hol:=O.Kg;apply gO;refine XO.v (kW rfl Tryz.underlying55 rfl) rfl (gO ?_);refine ah rfl rfl (ad .h1 rfl ?_);grind [aL,aJ,Om]
  ·have hfn:=OS.zY (fun z z1 z2=>(hO.cG z z1 z2).1) m og 24 (Nat.le_refl 24);rw[show O.Dp 24=O.opens from rfl]at hfn;have hol:=O.Kg;apply gO;apply bH .aa (by show 0<(O.fq m 24).length;omega);intro g hg;subst hg;refine XO.v (kW rfl Tryz.underlying55 rfl) rfl (gO ?_);refine ah rfl rfl (ad (pk [1]) rfl ?_);grind [aL,aJ,Om]
def acW(bo oo bf bp:Nat)(O:OS)(K:Int)(hK:K<=1000000)(q:PS)(hq:q.Inv K):Spec Tryz.prog 68 [aC bo oo 0] [.cells bo oo 122 (bh bf bp O),.cells bp 0 24 (bL q)] (fun v H1=>v= .tuple #[iI (nH q O),iI (o3 q O),az 102 (kD q O)]/\H1=[.cells bo oo 122 (bh bf bp (nG q O)),.cells bp 0 24 (bL (nF q O))]):=by
 apply Spec.go 48 [0,2,3,4,5,6,7,11,22] [] Tryz.func68 rfl rfl rfl;intro W;refine ca (MY _ _ _ _ _ _) .h1 ?_;rintro _ _ (⟨f0,rfl,rfl⟩ | ⟨f0,p1,c1,rfl,rfl⟩)
 ·apply gO;refine XO.v (kW rfl Tryz.underlying55 rfl) rfl (gO ?_);refine W1 rfl (rfl) (mL rfl rfl rfl rfl (ad (pz 2) rfl ?_));try dsimp only[aL,aJ,aD,aR]
  have hf:=OS.Uk f0;grind [kD,nH,o3,nG,nF,az]
 ·obtain⟨hf1,RF,hf4⟩:=OS.QD f0;have YR:=OS.nc hf1;have hf5:0<=O.jx/\O.jx<24:=⟨og,(OS.nc (s:=O.lay O.first 2 0 false) RF).2.1⟩;have hf6:¬(O.first<0\/O.jx<0):=og;rw[hf4];apply gO;apply bH .aa (by show 0<2;omega);intro g hg;subst hg;refine XO.v (kW rfl Tryz.underlying55 rfl) rfl (gO ?_);refine Im rfl sq (ld (.av .aa) (bh.JH _) ?_);refine cq (acO _ _ K hK q hq) (pk [2]) ?_;refine cd rfl ?_ ?_<;>intro h1
  ·refine mL rfl rfl rfl rfl (ad (pk [2,0]) rfl ?_);grind [aL,aJ,aR,kD,nH,o3,nG,nF]
  ·refine rq [0,1,2,3,4,5,6,7,8,9] mixed (sd (q9 (.av .aa) (Ul _ _) (XO.v (V.build (vs:= #[(0,iI 2),(1,iI q.make.1),(4,iI 1)]) rfl (v:=.agg (bh.cO ⟨2,q.make.1,0,false,1⟩)) fun _=>kq) rfl (gO ?_))) (by show(0:Int)<=0/\(0:Int)<2;omega));refine sd (gD (.t2 .aa) (bh.put O O.first 2 q.make.1 false 1 ⟨YR.1,YR.2.1⟩) rfl ⟨rfl,rfl⟩ (rq [0,1,2,3,4,5,6,7,8,9] mixed (sd (q9 (.av .aa) (Um _ _) (XO.v (V.build (vs:= #[(0,iI 3),(1,iI q.make.1),(4,iI 1)]) rfl (v:=.agg (bh.cO ⟨3,q.make.1,0,false,1⟩)) fun _=>kq) rfl (gO ?_))) (by show(0:Int)<=1/\(1:Int)<2;omega)))) ⟨YR.1,YR.2.1⟩;refine sd (gD (.t2 .aa) (bh.put (O.lay O.first 2 q.make.1 false) O.jx 3 q.make.1 false 1 hf5) rfl ⟨rfl,rfl⟩ (rq [0,1,2,3,4,5,6,7,8] mixed (sd (q9 (.av .aa) (Ul _ _) (sd (q9 (.av .aa) (Um _ _) (mL rfl rfl rfl rfl (ad (pk [2,0]) rfl ?_))) (by show(0:Int)<=1/\(1:Int)<2;omega))) (by show(0:Int)<=0/\(0:Int)<2;omega)))) hf5;try dsimp only[aL,aJ,aD,aR]
   have hz:q.make.2.1=0:=Decidable.byContradiction aq;have e:kD q O=0:=by unfold kD;rw[if_neg hf6,hz]
   have eV:nH q O=O.first:=by unfold nH;rw[if_pos e]
   have eU:o3 q O=O.jx:=by unfold o3;rw[if_pos e]
   have eO:nG q O=(O.lay O.first 2 q.make.1 false).lay O.jx 3 q.make.1 false:=by unfold nG;rw[if_pos e]
   have eP:nF q O=q.make.2.2:=by unfold nF;rw[if_neg hf6]
   exact⟨by rw[e,eV,eU];rfl,by rw[eO,eP];rfl⟩
open Go.Lib Go.RowKit Go.Shelf
section
variable {P:Program} {ρ:Ren}
set_option maxHeartbeats 1000000 in def Q6(L:Lays.n146 P ρ)(hi9:(P.info? (ρ.t 9)).map (fun i=>(i.zero,i.size,i.bytes))=some (some (.string ByteArray.empty),1,16))(s:ByteArray)(w:World)(hs:s.size<4294967281):Calls P (ρ.f 146) #[.string s,.string ⟨#[47]⟩] w fun e w'=>e= .returned (.slice (some ⟨w.heap.size,0,none⟩) (countB s ig+1) (countB s ig+1))/\w'=w.alloc (.cells ((splitB ig 0 (countB s ig) s).map Value.string).toArray (ρ.t 9)):=by
 have h1:1<=ig.size:=dq;have hle:=Lib.countB_le ig h1 s.size s (Nat.le_refl _);have hlen:=Lib.splitB_all ig h1 0 _ s rfl;have c:=Any.strings_genSplit_core {L with} hi9 s ig 0 (-1) (countB s ig+1) w hs h1 (Nat.zero_le _)
  (fun x c _=>(Any.strings_Index_one {L with} x 47 _).mono fun e w' ⟨he,hw⟩=>⟨by rw[he];show _=Ending.returned (Value.int .i64 (Lib.index x.data.toList [47]));rw[Lib.index_one],hw⟩)
  ((Any.strings_Count_one {L with} s 47 w).mono fun e w' ⟨he,hw⟩=>⟨by
   rw[he]
   show _=Ending.returned (Value.int .i64 ((Lib.count s.data.toList [47]:Nat):Int))
   rw[Lib.count_one]
   rfl,hw⟩)
  dq dq (by rw[if_pos dq];omega)
 rw[Nat.add_sub_cancel,hlen]at c;have e2:Lib.cellsOf (Lib.splitB ig 0 (Lib.countB s ig) s) (Lib.countB s ig+1)=((Lib.splitB ig 0 (Lib.countB s ig) s).map Value.string).toArray:=by rw[<-hlen];exact Lib.cellsOf_full _
 rw[e2]at c;have t3:=L.t3;have t9:=L.t9;have t31:=L.t31;have a3:=L.a3;have a9:=L.a9;have a31:=L.a31;have z3:=L.z3;have v3:=L.v3;have z9:=L.z9;have v9:=L.v9;have z31:=L.z31;have v31:=L.v31;have alm:∀ args w,(callFunc (ρ.f 221) args).run P w= .ok (.enter (ρ.f 221) args) w:=enters_of L.f221 kq rfl;go_enter L.f146,Body.n146_ntmps ρ;go_wp2_with (go_at_fn (ρ.f 221);refine c.mono ?_;rintro e w' ⟨rfl,hw⟩;rw[hw]);go_ret;simp_all
theorem DS(s:ByteArray):(ea s).length=countB s ig+1:=Lib.splitB_all ig dq 0 _ s rfl
theorem wS(s:ByteArray):(ea s).length<=s.size+1:=by
 have:=Lib.countB_le ig dq s.size s (Nat.le_refl _);grind [DS]
def MZ(L:Lays.n146 P ρ)(hi9:(P.info? (ρ.t 9)).map (fun i=>(i.zero,i.size,i.bytes))=some (some (.string ByteArray.empty),1,16))(s:ByteArray)(hs:s.size<=1000000):Spec P (ρ.f 146) [.string s,.string ⟨#[47]⟩] [] (fun v H1=>∃ b,v= .slice (some ⟨b,0,none⟩) (ea s).length (ea s).length/\H1=[jN (some ⟨b,0,none⟩) (ea s).length (ρ.t 9) (ea s)]):=by
 intro w hw;refine(Q6 L hi9 s w og).mono fun ee w' ⟨he,dG⟩=>⟨_,_,he,⟨w.heap.size,by rw[DS],rfl⟩,rfl,?_⟩;subst dG;have hc:=wS s;refine(kH hw).fresh (fun b o Cc=>by simp only[aK.fT,Value.ownBlock,Option.some.injEq]at Cc;omega) (jL w _ _) (⟨by simp[strs],.inr ⟨w.heap.size,_,_,rfl,Nat.zero_le _,heap_alloc_new w _,Nat.le_refl _,by simp only[maxLen];omega,?_,?_⟩⟩);all_goals grind [ea,strs,List.take_of_length_le]
end
def Gi:∀ (k:Nat) (s:ByteArray),∀ x∈splitB ig 0 k s,x.size<=s.size
 | 0,s,x,h=>by simp[splitB]at h;rw[h];exact Nat.le_refl _
 | k+1,s,x,h=>by
  unfold splitB at h;split at h
  ·simp at h;rw[h];exact Nat.le_refl _
  ·rcases List.mem_cons.1 h with h | h
   ·rw[h,ByteArray.size_extract];omega
   ·have:=Gi k _ x h;rw[ByteArray.size_extract]at this;omega
def Gj(s:ByteArray){z:Int}(h:0<=z/\z<(ea s).length):(ke (ea s) z).size<=s.size:=by
 apply Gi (countB s ig) s _;grind [ke,ea]
def wT(x:ByteArray):(bW x).length<=x.size+1:=by
 grind [bW,wS,ByteArray.size_extract]
end Go.X.Tr


namespace Go.Proofs
open Go.Shelf
def EY:Go.Shelf.Ren:=⟨fun | 146=>246 | 221=>265 | 268=>277 | 138=>278 | 143=>279 | 195=>284 | 197=>285 | 218=>286 | 219=>287 | 260=>290 | 217=>291 | 225=>292 | 224=>293 | 267=>294 | 266=>295 | 314=>296 | n=>n,fun | 9=>9 | 31=>207 | 3=>3 | 4=>4 | 0=>0 | 105=>306 | 21=>21 | 5=>5 | 46=>258 | 119=>311 | 139=>314 | 138=>313 | 146=>315 | 51=>257 | n=>n,fun | 1=>2 | 3=>3 | 4=>4 | n=>n⟩
def Q7:Go.Proofs.Lays.n146 Tryz.prog EY:= {
 mixed:=by kernel_rfl
 f138:=Tryz.func278.trans (congrArg some (by kernel_rfl))
 f143:=Tryz.func279.trans (congrArg some (by kernel_rfl))
 f146:=Tryz.func246.trans (congrArg some (by kernel_rfl))
 f195:=Tryz.func284.trans (congrArg some (by kernel_rfl))
 f197:=Tryz.func285.trans (congrArg some (by kernel_rfl))
 f217:=Tryz.func291.trans (congrArg some (by kernel_rfl))
 f218:=Tryz.func286.trans (congrArg some (by kernel_rfl))
 f219:=Tryz.func287.trans (congrArg some (by kernel_rfl))
 f221:=Tryz.func265.trans (congrArg some (by kernel_rfl))
 f224:=Tryz.func293.trans (congrArg some (by kernel_rfl))
 f225:=Tryz.func292.trans (congrArg some (by kernel_rfl))
 f260:=Tryz.func290.trans (congrArg some (by kernel_rfl))
 f266:=Tryz.func295.trans (congrArg some (by kernel_rfl))
 f267:=Tryz.func294.trans (congrArg some (by kernel_rfl))
 f268:=Tryz.func277.trans (congrArg some (by kernel_rfl))
 f314:=Tryz.func296.trans (congrArg some (by kernel_rfl))
 t0:=Tryz.underlying0
 a0:=Tryz.isAgg0
 z0:=Tryz.sizeOf0
 v0:=Tryz.zeroValue0
 t3:=Tryz.underlying3
 a3:=Tryz.isAgg3
 z3:=Tryz.sizeOf3
 v3:=Tryz.zeroValue3
 t4:=Tryz.underlying4
 a4:=Tryz.isAgg4
 z4:=Tryz.sizeOf4
 v4:=Tryz.zeroValue4
 t5:=Tryz.underlying5
 a5:=Tryz.isAgg5
 z5:=Tryz.sizeOf5
 v5:=Tryz.zeroValue5
 t9:=Tryz.underlying9
 a9:=Tryz.isAgg9
 z9:=Tryz.sizeOf9
 v9:=Tryz.zeroValue9
 t21:=Tryz.underlying21
 a21:=Tryz.isAgg21
 z21:=Tryz.sizeOf21
 v21:=Tryz.zeroValue21
 t31:=Tryz.underlying207
 a31:=Tryz.isAgg207
 z31:=Tryz.sizeOf207
 v31:=Tryz.zeroValue207
 t46:=Tryz.underlying258
 a46:=Tryz.isAgg258
 z46:=Tryz.sizeOf258
 v46:=Tryz.zeroValue258
 t51:=Tryz.underlying257
 a51:=Tryz.isAgg257
 z51:=Tryz.sizeOf257
 v51:=Tryz.zeroValue257
 t105:=Tryz.underlying306
 a105:=Tryz.isAgg306
 z105:=Tryz.sizeOf306
 v105:=Tryz.zeroValue306
 t119:=Tryz.underlying311
 a119:=Tryz.isAgg311
 z119:=Tryz.sizeOf311
 t138:=Tryz.underlying313
 a138:=Tryz.isAgg313
 z138:=Tryz.sizeOf313
 v138:=Tryz.zeroValue313
 t139:=Tryz.underlying314
 a139:=Tryz.isAgg314
 z139:=Tryz.sizeOf314
 v139:=Tryz.zeroValue314
 t146:=Tryz.underlying315
 a146:=Tryz.isAgg315
 z146:=Tryz.sizeOf315
 v146:=Tryz.zeroValue315
 g1:=by kernel_rfl
 g3:=by kernel_rfl
 g4:=by kernel_rfl}
end Go.Proofs

namespace Go.X.Tr
open Go Go.Proofs Go.X
set_option maxRecDepth 20000
set_option maxHeartbeats 4000000
def fO:nq Tryz.prog 163=true:=kq
def de:fk Tryz.prog 163=some 2:=kq
def YT:(Tryz.prog.underlying 163=some (.struct (Tryz.prog.fieldsOf 163))/\Tryz.prog.stoodInHeld 163=false)/\Tryz.prog.eqGuardType Tryz.prog.depth 163=false/\two Tryz.prog 163=true:=⟨⟨kq,kq⟩,kq,kq⟩
def YU(s:ByteArray)(hs:s.size<=1000000):Spec Tryz.prog 246 [.string s,.string ⟨#[47]⟩] [] (fun v H1=>∃ b,v= .slice (some ⟨b,0,none⟩) (ea s).length (ea s).length/\H1=[jN (some ⟨b,0,none⟩) (ea s).length 9 (ea s)]):=
 MZ Go.Proofs.Q7 kq s hs
def Vn(bt bf:Nat)(r:WH)(l:List MT)(p:Option Addr)(cap k c:Nat)(C:Nat->Value)(hv:RV.ok ⟨p,cap,k,l.length,c,C⟩)(hC:MC C l)(M0:l.length<=6)(w:WH):Spec Tryz.prog 248 [aC bt 0 0,.agg (WH.cO w)] [.cells bt 0 4 (aP bf r (.slice p l.length c)),aS p cap 168 4 k C] (fun v H1=>v= .agg (WH.cO (sM l w))/\H1=[.cells bt 0 4 (aP bf r (.slice p l.length c)),aS p cap 168 4 k C]):=by
 have iD:=oJ hv;have iD:l.length<=k:=iD;apply Spec.go 30 [0,3,4,5,7,8,9,13,14,15,16,22,27] [] Tryz.func248 rfl rfl rfl;intro W;refine XO.box (m:=2) (C:=aZ (w)) rfl rfl (aZ.box _) rfl ?_;intro bw;apply gO;apply XO.bN (z:=.agg (WH.cO WH.nil)) (m:=2) (C:=aZ WH.nil) kq rfl (aZ.box _) rfl;intro br;apply gO;refine lp (σ:=Int×WH) (fun x=>(6-x.1).toNat) (fun x=>(0<=x.1/\x.1<=6)/\ovN l (6-x.1).toNat x.2=sM l w) (fun x=>[(8,iI x.1),(0,aC bt 0 0),(3,aC bw 0 0),(4,aC br 0 0)]) (fun x=>XM W (bZ [.cells bt 0 4 (aP bf r (.slice p l.length c)),aS p cap 168 4 k C]) [.cells bw 0 2 (aZ x.2),.cells br 0 2 (aZ WH.nil),.cells bt 0 4 (aP bf r (.slice p l.length c)),aS p cap 168 4 k C]) ((0,w)) ?_ (S4 rfl rfl rfl rfl) (fun _ hw=>XM.pick (pk [1,0,0,0]) hw) ?_
 ·grind [sM]
 intro x hx;obtain⟨⟨sN,Il⟩,hov⟩:=hx;apply gC;refine cd rfl ?_ ?_<;>intro h1
 ·apply ld (.t2 .aa) (kN _ _);refine lp (σ:=Int) (fun i=>(l.length-i).toNat) (fun i=>(0<=i/\i<=l.length)/\∀ j:Int,0<=j->j<i->(qc l j).at_≠x.2) (fun i=>[(5,.bool false),(15,iI i),(0,aC bt 0 0),(3,aC bw 0 0),(4,aC br 0 0),(8,iI x.1),(13,.slice p l.length c),(14,iI l.length)]) (fun i=>XM W (bZ [.cells bt 0 4 (aP bf r (.slice p l.length c)),aS p cap 168 4 k C]) [.cells bw 0 2 (aZ x.2),.cells br 0 2 (aZ WH.nil),.cells bt 0 4 (aP bf r (.slice p l.length c)),aS p cap 168 4 k C]) (0) ?_ (.cons rfl (.cons rfl (S6 rfl rfl rfl rfl rfl rfl))) (fun _ hw=>XM.pick (pz 4) hw) ?_
  ·grind
  intro i hi;obtain⟨⟨hi0,hi1⟩,vt⟩:=hi;apply gC;refine cd rfl ?_ ?_<;>intro h2
  ·apply bH (.t3 .aa) og;intro g hg;subst hg;refine sd ?_;apply qn (.t3 .aa) (hC.ld iD _ og);apply XO.bN (z:=.agg (MT.cO MT.nil)) (m:=4) (C:=fx MT.nil) kq rfl (fx.box _) rfl;intro bm;apply gO;apply gD .aa (fx.st _ _) rfl ⟨rfl,rfl⟩;apply lZ .aa (fx.lZ _);apply lZ (.av .aa) (aZ.agg _);refine XO.v (Oo rfl rfl YT) rfl (gO ?_);refine cd rfl ?_ ?_<;>intro h3
   ·have hs:=Ut (l:=l) ⟨og,og⟩ vt h3;apply lZ .aa (QH _);apply gD (.av .aa) (aZ.st _ _) rfl ⟨rfl,rfl⟩;refine sd ?_;refine ag ((x.1+1,(qc l i).to)) ?_ ?_ (S4 rfl rfl rfl rfl) fun _ hw=>XM.pick (pk [1,1,1,1]) hw
    ·omega
    ·exact⟨⟨by simp;omega,by simp;omega⟩,by rw[<-hov,show(6-x.1).toNat=(6-(x.1+1)).toNat+1 from og,Uv hs]⟩
   ·refine sd ?_;refine ag (i+1) ?_ ?_ (.cons rfl (.cons rfl (S6 rfl rfl rfl rfl rfl rfl))) fun _ hw=>XM.pick (pk [1,1,1,1]) hw;all_goals grind
  ·have hs:=Us (l:=l) (w:=x.2) fun j a b=>vt j a og;apply lZ .aa (aZ.agg _);apply gD (.av .aa) (aZ.st _ _) rfl ⟨rfl,rfl⟩;refine jj rfl (.agg rfl (.av .aa) (aZ.agg _) fO de) (ad (pk [2,2]) rfl ?_);grind [Uu]
 ·apply lZ .aa (aZ.agg _);apply gD (.av .aa) (aZ.st _ _) rfl ⟨rfl,rfl⟩;refine jj rfl (.agg rfl (.av .aa) (aZ.agg _) fO de) (ad (pk [2,2]) rfl ?_);have e6:x.1=6:=og;exact⟨by rw[<-hov,e6];rfl,rfl⟩
def H4(x:ByteArray)(hx:x.size<=1000000:=by omega):Spec Tryz.prog 231 [.string x] [] (fun v H1=>(iQ x=9/\v= .tuple #[.slice none 0 0,.iface 102 (iI 9)]/\H1=[])\/(iQ x=0/\∃ q c,v= .tuple #[.slice q (bW x).length c,.nilIface]/\H1=[jN q c 9 (bW x)])):=by
 apply Spec.go 41 [0,2,3,4,6,18,21,25,26,27,28,37] [] Tryz.func231 rfl rfl rfl;intro W;refine sp 10 rfl ?_ ?_<;>intro h1
 ·refine ao rfl rfl rfl (ad .nil rfl ?_);grind [aL,aJ,aR,iQ]
 ·have hx6:¬ 60<x.size:=og;refine sp 14 rfl ?_ ?_<;>intro h2
  ·refine ao rfl rfl rfl (ad .nil rfl ?_);grind [aL,aJ,aR,iQ]
  ·have gK:¬x=⟨#[]⟩:=aq;obtain⟨u,hu⟩:=J1 (s:=x) (j:=(0:Int).toNat) (by
     have h0:¬x.size=0:=fun q=>gK (yf.2 q)
     show 0<x.size;omega)
   have hg:x.get! 0=u:=Ub hu;refine XO.v (gp rfl rfl Tryz.underlying9 og hu) rfl (gO ?_);refine cd rfl ?_ ?_<;>intro h3
   ·refine ao rfl rfl rfl (ad .nil rfl ?_);try dsimp only[aL,aJ,aD,aR]
    exact .inl ⟨Kk (.inr (.inr (fun q=>(by assumption:¬((u.toNat:Nat):Int)=47) (by rw[hg]at q;rw[q];rfl)))),rfl,rfl⟩
   ·have hc:¬(60<x.size\/x=⟨#[]⟩\/x.get! 0≠47):=by
     rintro(a | a | a)
     ·omega
     ·simp_all
     ·exact a (by rw[hg];exact UInt8.toNat_inj.1 (by show u.toNat=47;omega))
    have Il:1<=x.size:=by
     grind
    refine cd rfl ?_ ?_<;>intro h4
    ·refine XR.fc 9 1 (ao rfl rfl rfl (ad .h1 rfl ?_));try dsimp only[aL,aJ,aD,aR]
     have It:x=ig:=aq;have e:=HJ It;exact .inr ⟨e.1,none,0,by rw[e.2];rfl,by rw[e.2];rfl⟩
    ·have It:¬x=ig:=aq;refine sd ?_ ⟨og,og⟩;refine ca (YU _ (by rw[ByteArray.size_extract];omega)) .nil ?_;rintro _ _ ⟨b1,rfl,rfl⟩;have hps:((1:Int).toNat)=1:=rfl;apply gO;refine lp (σ:=Int) (fun i=>((ea (x.extract 1 x.size)).length-i).toNat) (fun i=>(0<=i/\i<=(ea (x.extract 1 x.size)).length)/\∀ j:Int,0<=j->j<i->wP (ke (ea (x.extract 1 x.size)) j)=true) (fun i=>[(27,iI i),(4,.slice (some ⟨b1,0,none⟩) (ea (x.extract 1 x.size)).length (ea (x.extract 1 x.size)).length),(25,.slice (some ⟨b1,0,none⟩) (ea (x.extract 1 x.size)).length (ea (x.extract 1 x.size)).length),(26,iI (ea (x.extract 1 x.size)).length)]) (fun i=>XM W (bZ []) [jN (some ⟨b1,0,none⟩) (ea (x.extract 1 x.size)).length 9 (ea (x.extract 1 x.size))]) (0) ?_ (S4 rfl rfl rfl rfl) (fun _ hw=>XM.pick .h1 hw) ?_
     ·grind
     intro i hi;obtain⟨⟨hi0,hi1⟩,xt⟩:=hi;have hpc:=wS (x.extract 1 x.size);rw[ByteArray.size_extract]at hpc;apply gC;refine cd rfl ?_ ?_<;>intro h5
     ·refine sd (q9 .aa (rk) ?_);refine sp 33 rfl ?_ ?_<;>intro h6
      ·refine cq (Ve _ (by have:=Gj (x.extract 1 x.size) (z:=i) ⟨og,og⟩;rw[ByteArray.size_extract]at this;omega)) .nil ?_;refine we rfl ?_ ?_<;>intro h7
       ·try simp only[sb]at h7
        refine ao rfl rfl rfl (ad .nil rfl ?_);grind [aL,aJ,aR,My,wP,dd]
       ·try simp only[sb]at h7
        refine sd (ag (i+1) ?_ ?_ (S4 rfl rfl rfl rfl) fun _ hw=>XM.pick .h1 hw);all_goals grind [wP]
      ·refine sd (ag (i+1) ?_ ?_ (S4 rfl rfl rfl rfl) fun _ hw=>XM.pick .h1 hw);all_goals grind [wP,dd]
     ·refine ao rfl rfl rfl (ad .h1 rfl ?_);try dsimp only[aL,aJ,aD,aR]
      have e:=Kl hc It fun j a b=>xt j a og;simp_all
end Go.X.Tr
