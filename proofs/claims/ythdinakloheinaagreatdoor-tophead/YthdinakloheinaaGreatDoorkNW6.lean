import Derived.Test.YthdinakloheinaaGreatDoorkShtree
set_option linter.all false
namespace Go.X.Tr
open Go Go.Proofs Go.X
set_option maxRecDepth 20000
set_option maxHeartbeats 4000000
def yh(p:Option Addr)(cap:Nat)(l:List ByteArray)(x:ByteArray)(hl:l.length<=1000000:=by omega):Spec Tryz.prog 249 [.slice p l.length cap,.string x] [jR p cap 9 l] (fun v H1=>v= .tuple #[iI (bsS l x),.bool (It l x)]/\H1=[jR p cap 9 l]):=La Go.Proofs.Mn p cap 9 l x hl
def acg(p:Option Addr)(cap:Nat)(l:List ByteArray)(i:Nat)(hi:i<=l.length)(x:ByteArray)(vb:Nat)(hl:l.length<=1000000):Spec Tryz.prog 250 [.slice p l.length cap,iI i,.slice (some ⟨vb,0,none⟩) 1 1] [jR p cap 9 l,.row (.slice (some ⟨vb,0,none⟩) 1 1) 9 1 1 [.string x]]
   (fun v H1=>∃ p' cJ,v= .slice p' (l.length+1) cJ/\H1=[.row (.slice p' (l.length+1) cJ) 9 1 (l.length+1) (strs (l.insertIdx i x)),.row (.slice (some ⟨vb,0,none⟩) 1 1) 9 1 1 [.string x]]):=Eb Go.Proofs.Mo p cap l i hi x vb 9 hl
def ach(p:Option Addr)(cap:Nat)(l:List Int)(i:Nat)(hi:i<=l.length)(x:Int)(vb:Nat)(hl:l.length<=1000000):Spec Tryz.prog 251 [.slice p l.length cap,iI i,.slice (some ⟨vb,0,none⟩) 1 1] [dE p cap 3 l,.row (.slice (some ⟨vb,0,none⟩) 1 1) 3 1 1 [iI x]]
   (fun v H1=>∃ p' cJ,v= .slice p' (l.length+1) cJ/\H1=[.row (.slice p' (l.length+1) cJ) 3 1 (l.length+1) (fI (l.insertIdx i x)),.row (.slice (some ⟨vb,0,none⟩) 1 1) 3 1 1 [iI x]]):=K9 Go.Proofs.Mp p cap l i hi x vb 3 hl
def aci(p:Option Addr)(cap:Nat)(l:List ByteArray)(i:Nat)(hi:i<l.length)(hl:l.length<=1000000):Spec Tryz.prog 252 [.slice p l.length cap,iI i,iI (i+1)] [jR p cap 9 l] (fun v H1=>v= .slice p (l.length-1) cap/\H1=[.row (.slice p (l.length-1) cap) 9 1 (l.length-1) (strs (l.eraseIdx i))]):=Ec Go.Proofs.Mq p cap l i hi 9 hl
def acj(p:Option Addr)(cap:Nat)(l:List Int)(i:Nat)(hi:i<l.length)(hl:l.length<=1000000):Spec Tryz.prog 253 [.slice p l.length cap,iI i,iI (i+1)] [dE p cap 3 l] (fun v H1=>v= .slice p (l.length-1) cap/\H1=[.row (.slice p (l.length-1) cap) 3 1 (l.length-1) (fI (l.eraseIdx i))]):=Lb Go.Proofs.Mr p cap l i hi 3 hl
def Ys(p:Option Addr)(cap:Nat)(l:List ByteArray)(hl:l.length<=1000000):Spec Tryz.prog 240 [.slice p l.length cap] [jR p cap 9 l] (fun v H1=>∃ p' cJ,v= .slice p' l.length cJ/\H1=[jR p' cJ 9 l,jR p cap 9 l]):=Gl Go.Proofs.Qx p cap 9 l hl
def UP(x:ByteArray)(hx:x.size<=9223372036854775807):Spec Tryz.prog 247 [.string x] [] (fun v H1=>v= .bool (jY x)/\H1=[]):=by
 refine Spec.go 53 [0,2,3,5,6,7,36] [] Tryz.func247 fun W=> ?_;refine lp (σ:=Int) (fun i=>(x.size-i).toNat) (fun i=>(0<=i/\i<=x.size)/\∀ j,j<i.toNat->XN (x.get! j)=true) (fun i=>[(6,iI i),(0,.string x),(5,iI x.size)]) (fun i=>XM W (ck []) []) (0) ?_ S3 (xq .nil) ?_
 ·simp_all
 intro i hi;obtain⟨hi,ho⟩:=hi;refine gC ?_;refine cd rfl ?_ ?_<;>intro h1
 ·obtain⟨u,hu⟩:=JA (s:=x) (j:=i.toNat) og;have hg:=TP hu;refine XO.v (fX rfl rfl Tryz.underlying9 og hu) rfl (gO ?_);refine sp 13 rfl ?_ ?_<;>intro h2
  ·refine XO.v (fX rfl rfl Tryz.underlying9 og hu) rfl (gO ?_);refine sp 24 rfl ?_ ?_<;>intro h3
   ·refine XO.v (fX rfl rfl Tryz.underlying9 og hu) rfl (gO ?_);refine cd rfl ?_ ?_<;>intro h4
    ·refine bS .nil ?_;grind [aK,aJ,aR,XN,jY]
    ·refine sd (ag (i+1) ?_ ?_ S3 (xq .nil));all_goals grind [XN]
   ·refine XO.v (fX rfl rfl Tryz.underlying9 og hu) rfl (gO ?_);refine sp 31 rfl ?_ ?_<;>intro h5
    ·refine XO.v (fX rfl rfl Tryz.underlying9 og hu) rfl (gO ?_);refine cd rfl ?_ ?_<;>intro h6
     ·refine bS .nil ?_;grind [aK,aJ,aR,XN,jY]
     ·refine sd (ag (i+1) ?_ ?_ S3 (xq .nil));all_goals omega
    ·refine sd (ag (i+1) ?_ ?_ S3 (xq .nil));all_goals grind [XN]
  ·refine XO.v (fX rfl rfl Tryz.underlying9 og hu) rfl (gO ?_);refine sp 19 rfl ?_ ?_<;>intro h7
   ·refine XO.v (fX rfl rfl Tryz.underlying9 og hu) rfl (gO ?_);refine sp 24 rfl ?_ ?_<;>intro h8
    ·refine XO.v (fX rfl rfl Tryz.underlying9 og hu) rfl (gO ?_);refine cd rfl ?_ ?_<;>intro h9
     ·refine bS .nil ?_;omega
     ·refine sd (ag (i+1) ?_ ?_ S3 (xq .nil));all_goals omega
    ·refine XO.v (fX rfl rfl Tryz.underlying9 og hu) rfl (gO ?_);refine sp 31 rfl ?_ ?_<;>intro V1
     ·refine XO.v (fX rfl rfl Tryz.underlying9 og hu) rfl (gO ?_);refine cd rfl ?_ ?_<;>intro h11
      ·refine bS .nil ?_;grind [aK,aJ,aR,XN,jY]
      ·refine sd (ag (i+1) ?_ ?_ S3 (xq .nil));all_goals omega
     ·refine sd (ag (i+1) ?_ ?_ S3 (xq .nil));all_goals omega
   ·refine sd (ag (i+1) ?_ ?_ S3 (xq .nil));all_goals grind [XN]
 ·have KW:∀ j,j<x.size->XN (x.get! j)=true:=fun j hj=>ho j og;refine sp 40 rfl ?_ ?_<;>intro h12
  ·refine sp 44 rfl ?_ ?_<;>intro h13
   ·refine sp 48 rfl ?_ ?_<;>intro h14
    ·refine bS .nil ?_;grind [aK,aJ,xJ,jY]
    ·refine bS .nil ?_;grind [aK,aJ,aR,jY]
   ·refine bS .nil ?_;grind [aK,aJ,aR,jY]
  ·refine bS .nil ?_;grind [aK,aJ,aR,xJ,jY]
def zV(b o:Nat)(s:FC)(n:Int):Spec Tryz.prog 185 [aA b o 0,iI n] [.cells b o 321 (aC s)] (fun v H1=>v=az 102 (s.cI n 0)/\H1=[.cells b o 321 (aC s)]):=by
 refine Spec.go 21 [0,1,4,10,19] [] Tryz.func185 fun W=> ?_;refine sp 7 rfl ?_ ?_<;>intro h1
 ·refine bS .h1 ?_;try dsimp only[aK,aJ,aG,aR]
  have e:s.cI n 0=1:=by unfold FF.cI;rw[if_pos og]
  grind [az]
 ·refine cd rfl ?_ ?_<;>intro h2
  ·refine bS .h1 ?_;try dsimp only[aK,aJ,aG,aR]
   have e:s.cI n 0=1:=by unfold FF.cI;rw[if_pos og]
   grind [az]
  ·refine sd (ld .aa (fF _ _) ?_);refine cd rfl ?_ ?_<;>intro h3
   ·refine bS .h1 ?_;try dsimp only[aK,aJ,aG,aR]
    have e:s.cI n 0=2:=by unfold FF.cI;rw[if_neg og,if_pos og]
    grind [az]
   ·refine bS .h1 ?_;try dsimp only[aK,aJ,aG,aR]
    have e:s.cI n 0=0:=by unfold FF.cI;rw[if_neg og,if_neg og,if_neg og]
    grind [az]
def Oc(b o:Nat)(s:FC)(n:Int):Spec Tryz.prog 237 [aA b o 0,iI n] [.cells b o 321 (aC s)] (fun v H1=>v=az 102 (s.cI n 2)/\H1=[.cells b o 321 (aC s)]):=by
 refine Spec.go 23 [0,1,4,5,20] [] Tryz.func237 fun W=> ?_;refine cq (zV _ _ _ _) .h1 ?_;refine sp 11 rfl ?_ ?_<;>intro h1
 ·obtain⟨i1,i2,i3⟩:=FF.vw (show s.cI n 0=0 by assumption);refine sd (ld .aa (fF _ _) ?_);refine cd rfl ?_ ?_<;>intro h2
  ·refine bS .h1 ?_;try dsimp only[aK,aJ,aG,aR]
   have e:s.cI n 2=11:=by unfold FF.cI;rw[if_neg og,if_neg og,if_pos og]
   grind [az]
  ·refine bS .h1 ?_;try dsimp only[aK,aJ,aG,aR]
   have e:s.cI n 2=0:=by unfold FF.cI;rw[if_neg og,if_neg og,if_neg og]
   simp_all
 ·have i0:s.cI n 0≠0:=aq;refine bS .h1 ?_;try dsimp only[aK,aJ,aG,aR]
  exact⟨by rw[FF.TQ i0],rfl⟩
def Ms(b o:Nat)(s:FC)(n:Int):Spec Tryz.prog 194 [aA b o 0,iI n] [.cells b o 321 (aC s)] (fun v H1=>v=az 102 (s.cI n 1)/\H1=[.cells b o 321 (aC s)]):=by
 refine Spec.go 23 [0,1,4,5,20] [] Tryz.func194 fun W=> ?_;refine cq (zV _ _ _ _) .h1 ?_;refine sp 11 rfl ?_ ?_<;>intro h1
 ·obtain⟨i1,i2,i3⟩:=FF.vw (show s.cI n 0=0 by assumption);refine sd (ld .aa (fF _ _) ?_);refine cd rfl ?_ ?_<;>intro h2
  ·refine bS .h1 ?_;try dsimp only[aK,aJ,aG,aR]
   have e:s.cI n 1=11:=by unfold FF.cI;rw[if_neg og,if_neg og,if_pos og]
   grind [az]
  ·refine bS .h1 ?_;try dsimp only[aK,aJ,aG,aR]
   have e:s.cI n 1=0:=by unfold FF.cI;rw[if_neg og,if_neg og,if_neg og]
   simp_all
 ·have i0:s.cI n 0≠0:=aq;refine bS .h1 ?_;try dsimp only[aK,aJ,aG,aR]
  exact⟨by rw[FF.TQ i0],rfl⟩
def wB(b o:Nat)(s:FC)(hI:s.toFF.Sh)(n:Int)(x:ByteArray):Spec Tryz.prog 235 [aA b o 0,iI n,.string x] [.cells b o 321 (aC s),.bk av (s.bu 9),.bk av (s.bA 3)] (fun v H1=>v= .tuple #[iI (s.bH n x),az 102 (s.fx n x)]/\H1=[.cells b o 321 (aC s),.bk av (FC.bu 9 s),.bk av (FC.bA 3 s)]):=by
 refine Spec.go 42 [0,1,2,6,7,8,9,10,15,30] [] Tryz.func235 fun W=> ?_;refine cq (Oc _ _ _ _) .h1 ?_;refine cd rfl ?_ ?_<;>intro h1
 ·have i0:s.cI n 2≠0:=aq;refine eH (pz 3) ?_;have e:s.fx n x=s.cI n 2:=by unfold FF.fx;rw[if_pos i0]
  exact⟨by rw[show s.bH n x=0 from by unfold FF.bH;rw[if_neg og],e]<;>rfl,rfl⟩
 ·obtain⟨i1,i2,i3,i4⟩:=FF.ji (show s.cI n 2=0 by simpa using h1);have i0:s.cI n 2=0:=by simpa using h1
  obtain⟨hr,hk,h8,_⟩:=hI.jh n i1 i2;have Wc:=CO hr x;have hbh:=xH hr x;have hpl:=nX (s.aI n) x;refine sd (ld .aa (fk _ _) (XR.mono (fun _ bK=>nj (s:=s) (z:=n) og (pk [1]) bK) ?_));refine cq (yh _ _ _ _) .h1 ?_;refine XR.mono (fun _ bK=>lA (s:=s) s (z:=n) og rfl (cB _ rfl).symm (cB _ rfl).symm (cB _ rfl).symm (pz 2) bK) ?_;refine yW ?_ ?_<;>intro h2
  ·try simp only[sb]at h2
   have hh:oT (s.aI n) x=false:=by rw[<-hbh];simpa using h2
   refine eH (pk [1,0,0]) ?_;have e:s.fx n x=2:=by unfold FF.fx;rw[if_neg og,if_neg (by rw[hh];simp)]
   exact⟨by rw[show s.bH n x=0 from by unfold FF.bH;rw[if_neg og],e];rfl,rfl⟩
  ·try simp only[sb]at h2
   have hh:oT (s.aI n) x=true:=by rw[<-hbh];simpa using h2
   obtain⟨KT,E4⟩:=lY.1 hh;refine sd (XR.mono (fun _ bK=>xP (s:=s) (z:=n) og (pk [2]) bK) (ld (.t3 .aa) (l5 _ _) (bL .aa og ?_)));intro g hg;rw[hg];refine sd (Ak .aa (ints_at) (XR.mono (fun _ bK=>uQ (s:=s) s (z:=n) og rfl (cB _ rfl).symm (cB _ hg).symm (cB _ rfl).symm (pz 2) bK) (bC rfl rfl rfl (ai (pk [2,1,0]) rfl ?_))));have e:s.fx n x=0:=by unfold FF.fx;rw[if_neg og,if_pos hh]
   exact⟨by rw[show s.bH n x=il (s.kids n) (eh (s.aI n) x)from by unfold FF.bH;rw[if_pos e],e,Wc];rfl,rfl⟩
def Du(b o:Nat)(s:FC)(hI:s.toFF.Sh)(n:Int)(x:ByteArray)(hx:x.size<=9223372036854775807):Spec Tryz.prog 233 [aA b o 0,iI n,.string x] [.cells b o 321 (aC s),.bk av (s.bu 9),.bk av (s.bA 3)] (fun v H1=>v=az 102 (s.eX n x)/\H1=[.cells b o 321 (aC s),.bk av (FC.bu 9 s),.bk av (FC.bA 3 s)]):=by
 refine Spec.go 44 [0,1,2,6,7,9,14,18,32,42] [] Tryz.func233 fun W=> ?_;refine cq (Oc _ _ _ _) .h1 ?_;refine cd rfl ?_ ?_<;>intro h1
 ·have i0:s.cI n 2≠0:=aq;refine bS (pz 3) ?_;try dsimp only[aK,aJ,aG,aR]
  have e:s.eX n x=s.cI n 2:=by unfold FF.eX;rw[if_pos i0]
  simp_all
 ·obtain⟨i1,i2,i3,i4⟩:=FF.ji (show s.cI n 2=0 by simpa using h1);have i0:s.cI n 2=0:=by simpa using h1
  obtain⟨hr,hk,h8,_⟩:=hI.jh n og og;have Wc:=CO hr x;have hbh:=xH hr x;have hpl:=nX (s.aI n) x;refine cq (UP _ og) .nil ?_;refine yW ?_ ?_<;>intro h2
  ·try simp only[sb]at h2
   have hn:jY x=false:=by simpa using h2
   refine bS (pz 3) ?_;try dsimp only[aK,aJ,aG,aR]
   have e:s.eX n x=9:=by unfold FF.eX;rw[if_neg og,if_pos hn]
   grind [az]
  ·try simp only[sb]at h2
   have hn:jY x=true:=by simpa using h2
   refine sd (ld .aa (fk _ _) (XR.mono (fun _ bK=>nj (s:=s) (z:=n) og (pk [1]) bK) ?_));refine cq (yh _ _ _ _) .h1 ?_;refine XR.mono (fun _ bK=>lA (s:=s) s (z:=n) og rfl (cB _ rfl).symm (cB _ rfl).symm (cB _ rfl).symm (pz 2) bK) ?_;refine yW ?_ ?_<;>intro h3
   ·try simp only[sb]at h3
    have hh:oT (s.aI n) x=true:=by rw[<-hbh];simpa using h3
    refine bS (pk [1,0,0]) ?_;try dsimp only[aK,aJ,aG,aR]
    have e:s.eX n x=3:=by unfold FF.eX;rw[if_neg og,if_neg (by rw[hn];simp),if_pos hh]
    grind [az]
   ·try simp only[sb]at h3
    have hh:oT (s.aI n) x=false:=by rw[<-hbh];simpa using h3
    refine sd (ld (.ao .aa) (fk _ _) ?_);refine cd rfl ?_ ?_<;>intro h4
    ·refine bS (pk [1,0,0]) ?_;try dsimp only[aK,aJ,aG,aR]
     have e:s.eX n x=4:=by unfold FF.eX;rw[if_neg og,if_neg (by rw[hn];simp),if_neg (by rw[hh];simp),if_pos og]
     grind [az]
    ·refine bS (pk [1,0,0]) ?_;try dsimp only[aK,aJ,aG,aR]
     have e:s.eX n x=0:=by unfold FF.eX;rw[if_neg og,if_neg (by rw[hn];simp),if_neg (by rw[hh];simp),if_neg og]
     grind [az]
def Dv(b o:Nat)(s:FC)(hI:s.toFF.Sh)(n:Int)(x:ByteArray)(k:Int)(hn:0<=n/\n<40:=by omega):Spec Tryz.prog 234 [aA b o 0,iI n,.string x,iI k] [.cells b o 321 (aC s),.bk av (s.bu 9),.bk av (s.bA 3)] (fun v H1=>v= .tuple #[]/\∃ t:FC,t.toFF=s.sN n x k/\t.rP=s.rP/\t.rC=s.rC/\H1=[.cells b o 321 (aC t),.bk av (FC.bu 9 t),.bk av (FC.bA 3 t)]):=by
 obtain⟨hr,hk,h8,_⟩:=hI.jh n og og;have Wc:=CO hr x;have hbh:=xH hr x;have hpl:=nX (s.aI n) x;refine Spec.go 47 [2,3,8,9] [] Tryz.func234 fun W=> ?_;refine sd (ld .aa (fk _ _) (XR.mono (fun _ bK=>nj (s:=s) (z:=n) og (pk [1]) bK) ?_));refine ca (yh _ _ _ _) .h1 ?_;rintro _ _ ⟨rfl,rfl⟩;rw[Wc];refine gO ?_;refine XR.mono (fun _ bK=>lA (s:=s) s (z:=n) og rfl (cB _ rfl).symm (cB _ rfl).symm (cB _ rfl).symm (pz 2) bK) (ld (.ao .aa) (fk _ _) (XR.mono (fun _ bK=>nj (s:=s) (z:=n) og .h1 bK) (gQ (e:=9) (vs:= #[(0,.string x)]) (A:= #[.string x]) (sz:=1) rfl (fun _=>kq) rfl og rfl ?_)));intro b1;refine gO ?_;refine ca (acg _ _ _ _ hpl _ _ og) (pk [1,0]) ?_;rintro _ _ ⟨p1,c1,rfl,rfl⟩;refine gO ?_;refine XR.mono (fun _ bK=>lA (s:=s) ({s with aI:=ad s.aI n ((s.aI n).insertIdx (eh (s.aI n) x) x),nP:=ad s.nP n p1,nC:=ad s.nC n c1} :FC) (z:=n) (l:=((s.aI n).insertIdx (eh (s.aI n) x) x)) og (by rw[List.length_insertIdx,if_pos hpl]) rfl rfl rfl (pk [0,1]) bK) (st (.t2 .aa) (sF _ _ og ((s.aI n).insertIdx (eh (s.aI n) x) x) _ _ _ (by rw[List.length_insertIdx,if_pos hpl])) rfl (ld (.t2 .aa) (l5 _ _) (XR.mono (fun _ bK=>xP (s:=s) (z:=n) og (pk [3]) bK) (gQ (e:=3) (vs:= #[(0,iI k)]) (A:= #[iI k]) (sz:=1) rfl (fun _=>kq) rfl og rfl ?_))));intro b2;refine gO ?_;refine ca (ach (s.kP n) (s.kC n) (s.kids n) (eh (s.aI n) x) og k _ og) (pk [1,0]) ?_;rintro _ _ ⟨p2,c2,rfl,rfl⟩;refine gO ?_;refine XR.mono (fun _ bK=>uQ (s:=s) (s.aeL n x k p1 c1 p2 c2) (z:=n) (l:=((s.kids n).insertIdx (eh (s.aI n) x) k)) og (by rw[List.length_insertIdx,if_pos og]) rfl rfl rfl (pk [0,1]) bK) (st (.t4 .aa) (tL _ _ og ((s.kids n).insertIdx (eh (s.aI n) x) k) _ _ _ (by rw[List.length_insertIdx,if_pos og])) rfl (cS rfl (ai (pk [4,2,0]) rfl ?_)));exact⟨rfl,s.aeL n x k p1 c1 p2 c2,rfl,rfl,rfl,rfl⟩
def Od(b o:Nat)(s:FC)(hI:s.toFF.Sh)(n:Int)(x:ByteArray)(hn:0<=n/\n<40)(hh:oT (s.aI n) x=true):Spec Tryz.prog 236 [aA b o 0,iI n,.string x] [.cells b o 321 (aC s),.bk av (s.bu 9),.bk av (s.bA 3)] (fun v H1=>v= .tuple #[]/\∃ t:FC,t.toFF=s.ef n x/\t.rP=s.rP/\t.rC=s.rC/\H1=[.cells b o 321 (aC t),.bk av (FC.bu 9 t),.bk av (FC.bA 3 t)]):=by
 obtain⟨hr,hk,h8,_⟩:=hI.jh n og og;have Wc:=CO hr x;have hbh:=xH hr x;have hpl:=nX (s.aI n) x;have qi:=(lY.1 hh).1;refine Spec.go 45 [2,6,7] [] Tryz.func236 fun W=> ?_;refine sd (ld .aa (fk _ _) (XR.mono (fun _ bK=>nj (s:=s) (z:=n) og (pk [1]) bK) ?_));refine ca (yh _ _ _ _) .h1 ?_;rintro _ _ ⟨rfl,rfl⟩;rw[Wc];refine gO ?_;refine XR.mono (fun _ bK=>lA (s:=s) s (z:=n) og rfl (cB _ rfl).symm (cB _ rfl).symm (cB _ rfl).symm (pz 2) bK) (ld (.ao .aa) (fk _ _) (XR.mono (fun _ bK=>nj (s:=s) (z:=n) og .h1 bK) (sd ?_)));refine cq (aci _ _ _ _ qi og) .h1 ?_;refine XR.mono (fun _ bK=>lA (s:=s) ({s with aI:=ad s.aI n ((s.aI n).eraseIdx (eh (s.aI n) x)),nP:=ad s.nP n (s.nP n),nC:=ad s.nC n (s.nC n)} :FC) (z:=n) (l:=((s.aI n).eraseIdx (eh (s.aI n) x))) og (by rw[List.length_eraseIdx,if_pos qi]) rfl rfl rfl (pz 2) bK) (st (.ao .aa) (sF _ _ og ((s.aI n).eraseIdx (eh (s.aI n) x)) _ _ _ (by rw[List.length_eraseIdx,if_pos qi])) rfl (ld (.ao .aa) (l5 _ _) (XR.mono (fun _ bK=>xP (s:=s) (z:=n) og (pk [2]) bK) (sd ?_))));refine cq (acj (s.kP n) (s.kC n) (s.kids n) (eh (s.aI n) x) og og) .h1 ?_;refine XR.mono (fun _ bK=>uQ (s:=s) (s.aeM n x) (z:=n) (l:=((s.kids n).eraseIdx (eh (s.aI n) x))) og (by rw[List.length_eraseIdx,if_pos og]) rfl rfl rfl (pz 2) bK) (st (.t2 .aa) (tL _ _ og ((s.kids n).eraseIdx (eh (s.aI n) x)) _ _ _ (by rw[List.length_eraseIdx,if_pos og])) rfl (cS rfl (ai (pk [2,1,0]) rfl ?_)));exact⟨rfl,s.aeM n x,rfl,rfl,rfl,rfl⟩
def uY(b o:Nat)(s:FC)(k t l u:Int):Spec Tryz.prog 175 [aA b o 0,.agg (xQ k t l u)] [.cells b o 321 (aC s),.bk av (s.bu 9),.bk av (s.bA 3)] (fun v H1=>(s.free<0/\v= .tuple #[iI 0,az 102 4]/\H1=[.cells b o 321 (aC s),.bk av (FC.bu 9 s),.bk av (FC.bA 3 s)])\/(¬s.free<0/\v= .tuple #[iI s.free,az 102 0]/\H1=[.cells b o 321 (aC (s.wo s.free k t l u)),.bk av (FC.bu 9 (s.wo s.free k t l u)),.bk av (FC.bA 3 (s.wo s.free k t l u))])):=by
 refine Spec.go 27 [0,3,4,5,6,7,8,17] [] Tryz.func175 fun W=> ?_;refine XO.box (m:=8) (C:=aC.cell (FJ k t l u)) rfl rfl (JH k t l u) rfl ?_;intro bx;refine gO ?_;refine lp (σ:=Int) (fun i=>(40-i).toNat) (fun i=>(0<=i/\i<=40)/\∀ j,0<=j->j<i->s.aN j≠0) (fun i=>[(7,iI i),(0,aA b o 0),(3,aA bx 0 0)]) (fun i=>XM W (ck [.cells b o 321 (aC s),.bk av (s.bu 9),.bk av (s.bA 3)]) [.cells b o 321 (aC s),.bk av (s.bu 9),.bk av (s.bA 3),.cells bx 0 8 (aC.cell (FJ k t l u))]) (0) ?_ S3 (xq (pk [1,1,1,0])) ?_
 ·grind
 intro i hi;obtain⟨hi,ho⟩:=hi;refine gC ?_;refine cd rfl ?_ ?_<;>intro h1
 ·refine sd (ld .aa (fF _ _) ?_);refine cd rfl ?_ ?_<;>intro h2
  ·refine rq [0,1,2,3,4,5,6] mixed (lM (.t3 .aa) (TU k t l u) (sd (fW .aa (JG s i k t l u) rfl ⟨rfl,rfl⟩ (XR.mono (fun _ bK=>NL (s:=s) (s.wo i k t l u) og rfl rfl rfl (pk [1]) bK) (XR.mono (fun _ bK=>NM (s:=s) (s.wo i k t l u) og rfl rfl rfl (pk [2]) bK) (bC rfl rfl rfl (ai (pk [2,1,0]) rfl ?_)))))));try dsimp only[aK,aJ,aG,aR]
   have e:=FF.pL hi.1 og ho aq;grind [az]
  ·refine sd (ag (i+1) ?_ ?_ S3 (xq (pz 4)));all_goals grind
 ·refine eH (pz 3) ?_;try dsimp only[aK,aJ,aG,aR]
  have e:=FF.Fg (s:=s.toFF) fun j a b=>ho j a og;grind [az]
def Mt(b o:Nat)(s:FC)(n:Int)(hn:0<=n/\n<40:=by omega):Spec Tryz.prog 195 [aA b o 0,iI n] [.cells b o 321 (aC s),.bk av (s.bu 9),.bk av (s.bA 3)] (fun v H1=>v= .tuple #[]/\∃ t:FC,t.toFF=s.qP n/\t.rP=s.rP/\t.rC=s.rC/\H1=[.cells b o 321 (aC t),.bk av (FC.bu 9 t),.bk av (FC.bA 3 t)]):=by
 refine Spec.go 28 [0,1,21] [] Tryz.func195 fun W=> ?_;refine sd (ld .aa (kV _ _) ?_);refine sp 12 rfl ?_ ?_<;>intro h1
 ·refine sd (ld .aa (jZ _ _) ?_);refine cd rfl ?_ ?_<;>intro h2
  ·refine XO.v (V.build (vs:= #[]) rfl (v:=.agg (xQ 0 0 0 0)) fun _=>kq) rfl (gO ?_);refine sd (fW .aa (JG s n 0 0 0 0) rfl ⟨rfl,rfl⟩ (XR.mono (fun _ bK=>NL (s:=s) (s.wo n 0 0 0 0) og rfl rfl rfl (pk [1]) bK) (XR.mono (fun _ bK=>NM (s:=s) (s.wo n 0 0 0 0) og rfl rfl rfl (pk [2]) bK) (cS rfl (ai (pk [2,1,0]) rfl ?_)))));exact⟨rfl,s.wo n 0 0 0 0,by unfold FF.qP;rw[if_pos ⟨aq,aq⟩];rfl,rfl,rfl,rfl⟩
  ·refine cS rfl (ai (pz 3) rfl ?_);exact⟨rfl,s,by unfold FF.qP;rw[if_neg og],rfl,rfl,rfl⟩
 ·refine cS rfl (ai (pz 3) rfl ?_);exact⟨rfl,s,by unfold FF.qP;rw[if_neg og],rfl,rfl,rfl⟩
def acm(b o:Nat)(s:FC)(n:Int):Spec Tryz.prog 239 [aA b o 0,iI n] [.cells b o 321 (aC s)] (fun v H1=>v= .tuple #[iI (if s.cI n 0=0 then s.du n else 0),az 102 (s.cI n 0)]/\H1=[.cells b o 321 (aC s)]):=by
 refine Spec.go 20 [0,1,4,5,6,11] [] Tryz.func239 fun W=> ?_;refine cq (zV _ _ _ _) .h1 ?_;refine cd rfl ?_ ?_<;>intro h1
 ·have i0:s.cI n 0≠0:=aq;refine eH .h1 ?_;grind [aK,aJ,aR]
 ·obtain⟨i1,i2,i3,i4⟩:=FF.ji (show s.cI n 0=0 by simpa using h1);have i0:s.cI n 0=0:=by simpa using h1
  refine sd (ld .aa (gr _ _) (bC rfl rfl rfl (ai .h1 rfl ?_)));grind [aK,aJ,aR,az]
def Yt(b o:Nat)(s:FC)(d:Int->Nat)(n k:Int)(hn:0<=n/\n<40/\s.aN n=2)(hc:s.toFF.Ch d k):Spec Tryz.prog 238 [aA b o 0,iI n,iI k] [.cells b o 321 (aC s)] (fun v H1=>v= .bool (FF.JB d s.toFF n k)/\H1=[.cells b o 321 (aC s)]):=by
 refine Spec.go 26 [0,1,2,6,9,18] [] Tryz.func238 fun W=> ?_;refine lp (σ:=Int) (fun i=>d i) (fun i=>(0<=i/\i<40/\s.aN i=2)/\FF.JB d s.toFF n k=FF.JB d s.toFF i k) (fun i=>[(1,iI i),(0,aA b o 0),(2,iI k)]) (fun i=>XM W (ck [.cells b o 321 (aC s)]) [.cells b o 321 (aC s)]) (n) ?_ S3 (xq .h1) ?_
 ·simp_all
 intro i hi;obtain⟨hi,he⟩:=hi;refine gC ?_;refine cd rfl ?_ ?_<;>intro h1
 ·refine sd (ld .aa (xK _ _) ?_);refine cd rfl ?_ ?_<;>intro h2
  ·refine bS .h1 ?_;try dsimp only[aK,aJ,aG,aR]
   have e:=FF.xL hc og og hi.2.2 (show i≠k by assumption);simp_all
  ·refine sd (ld .aa (xK _ _) (ag (s.up i) ?_ ?_ S3 (xq .h1)))
   ·rcases hc i og og hi.2.2 aq with g | ⟨g1,g2,g3,g4⟩;all_goals omega
   ·have e:=FF.xL hc og og hi.2.2 (show i≠k by assumption);rw[if_neg aq]at e;rcases hc i og og hi.2.2 aq with g | ⟨g1,g2,g3,g4⟩;all_goals simp_all
 ·refine bS .h1 ?_;try dsimp only[aK,aJ,aG,aR]
  have e:i=k:=og;exact⟨by rw[he,e,FF.JE],rfl⟩
def acn(b o:Nat)(s:FC)(hI:s.toFF.Sh)(t:Int):Spec Tryz.prog 176 [aA b o 0,iI t] [.cells b o 321 (aC s),dE s.rP s.rC 3 s.roots] (fun v H1=>v= .tuple #[iI (s.iQ t),az 102 (s.oU t)]/\H1=[.cells b o 321 (aC s),dE s.rP s.rC 3 s.roots]):=by
 have hr4:=hI.roots.1;refine Spec.go 28 [0,1,4,5,11,19] [] Tryz.func176 fun W=> ?_;refine sp 8 rfl ?_ ?_<;>intro h1
 ·refine eH (pz 2) ?_;have e:s.oU t=1:=by unfold FF.oU;rw[if_pos og]
  exact⟨by rw[show s.iQ t=0 from by unfold FF.iQ;rw[if_neg og],e];rfl,rfl⟩
 ·refine cd rfl ?_ ?_<;>intro h2
  ·refine eH (pz 2) ?_;have e:s.oU t=1:=by unfold FF.oU;rw[if_pos og]
   exact⟨by rw[show s.iQ t=0 from by unfold FF.iQ;rw[if_neg og],e];rfl,rfl⟩
  ·refine ld .aa (mK _) ?_;refine cd rfl ?_ ?_<;>intro h3
   ·refine eH (pz 2) ?_;have e:s.oU t=2:=by unfold FF.oU;rw[if_neg og,if_pos og]
    exact⟨by rw[show s.iQ t=0 from by unfold FF.iQ;rw[if_neg og],e];rfl,rfl⟩
   ·refine ld .aa (mK _) (bL (.ao .aa) og ?_);intro g hg;rw[hg];refine sd (Ak (.ao .aa) (ints_at) (bC rfl rfl rfl (ai (pz 2) rfl ?_)));have e:s.oU t=0:=by unfold FF.oU;rw[if_neg og,if_neg og]
    exact⟨by rw[show s.iQ t=il s.roots t from by unfold FF.iQ;rw[if_pos e],e];rfl,rfl⟩
def zY:ny Tryz.prog 211=true:=kq
def tZ(z:Int):∀ w,(Instr.buildSlice 55 1 #[(0,iI z)]).run Tryz.prog w= .ok (.slice (some ⟨w.heap.size,0,none⟩) 1 1) (w.alloc (.cells #[iI z] 3)):=fun w=>kq
def qe:rh Tryz.prog 3 1=true:=kq
def nr:fb Tryz.prog 211=some 4:=kq
def Uq:Spec Tryz.prog 99 [] [] (fun v H1=>∃ b,v=aA b 0 0/\H1=[.cells b 0 321 (aC FC.dc),.bk av (FC.bu 9 FC.dc),.bk av (FC.bA 3 FC.dc),dE (FC.rP FC.dc) (FC.rC FC.dc) 3 (FC.toFF FC.dc).roots]):=by
 refine Spec.go 3 [0] [] Tryz.func99 fun W=> ?_;refine XO.v (V.build (vs:= #[]) rfl (v:=.agg JI) fun _=>kq) rfl (gO ?_);refine XO.box (m:=321) (C:=aC FC.dc) rfl LW P9 rfl ?_;intro p;refine XO.mono (fun _ bK=>G3 bK) ?_;refine gO ?_;refine bS (pk [3,0,0,0]) ?_;exact⟨_,rfl,rfl⟩
def Yu(b o:Nat)(s:FC)(hI:s.toFF.Sh):Spec Tryz.prog 101 [aA b o 0] [.cells b o 321 (aC s),.bk av (s.bu 9),.bk av (s.bA 3),dE s.rP s.rC 3 s.roots] (fun v H1=>∃ t:FC,v= .tuple #[iI s.wj,az 102 s.p6]/\t.toFF=s.AK/\H1=[.cells b o 321 (aC t),.bk av (FC.bu 9 t),.bk av (FC.bA 3 t),dE (FC.rP t) (FC.rC t) 3 (FC.toFF t).roots]):=by
 have hr4:=hI.roots.1;refine Spec.go 50 [0,2,3,4,5,11,25] [] Tryz.func101 fun W=> ?_;refine ld .aa (mK _) ?_;refine cd rfl ?_ ?_<;>intro h1
 ·refine eH (pz 4) ?_;try dsimp only[aK,aJ,aG,aR]
  have e:s.p6=4:=by unfold FF.p6;rw[if_pos og]
  exact⟨s,by rw[show s.wj=0 from by unfold FF.wj;rw[if_neg og],e];rfl,by unfold FF.AK;rw[if_neg og],rfl⟩
 ·refine ld .aa (mK _) ?_;refine XO.v (V.build (vs:= #[(0,iI 2),(1,iI (s.roots.length)),(2,iI 1)]) rfl (v:=.agg (xQ 2 s.roots.length 1 0)) fun _=>kq) rfl (gO ?_);refine ca (uY _ _ _ _ _ _ _) (pz 3) ?_;rintro _ _ (⟨h2,rfl,rfl⟩ | ⟨h2,rfl,rfl⟩)
  ·try dsimp only[jm,zM,zN,zO,zP,zQ,zR,zS,zT,zU,uU,uV,uW,uX]
   refine gO ?_;refine eH (pz 4) ?_;try dsimp only[aK,aJ,aG,aR]
   have e:s.p6=4:=by unfold FF.p6;rw[if_neg og,if_pos aq]
   exact⟨s,by rw[show s.wj=0 from by unfold FF.wj;rw[if_neg og],e]<;>rfl,by unfold FF.AK;rw[if_neg og],rfl⟩
  ·try dsimp only[jm,zM,zN,zO,zP,zQ,zR,zS,zT,zU,uU,uV,uW,uX]
   have f:=FF.xM (show ¬s.free<0 by assumption);refine gO ?_;refine sd ?_;refine st .aa (rX _ _ og _) rfl ?_;refine ld .aa (mK _) ?_;refine XO.buildSlice (A:= #[iI _]) (vs:= #[(0,iI _)]) rfl (tZ _) rfl rfl ?_;intro h3;refine gO ?_;refine kW (e:=3) rfl rfl Tryz.underlying55 qe (.t4 .aa) .aa (by show s.roots.length+1<=_;omega) rfl ?_;intro p1 c1;refine gO ?_;refine st (.t2 .aa) (EC _ (s.roots++[s.free]) _ _ _ rfl) rfl ?_;refine ld (.t2 .aa) (mK _) ?_;refine sd ?_ (by simp only[List.length_append,List.length_singleton];omega);refine bC rfl rfl rfl (ai (pk [2,2,2,0]) rfl ?_);try dsimp only[aK,aJ,aG,aR]
   have e:s.p6=0:=by unfold FF.p6;rw[if_neg og,if_neg aq]
   refine⟨_,?_,?_,rfl⟩
   ·rw[show s.wj=s.roots.length from by unfold FF.wj;rw[if_pos e],e];grind [az]
   ·unfold FF.AK;rw[if_pos e,<-FF.XU s.toFF s.free 2 _ 1 0 s.free];rfl
def Mh(b o:Nat)(s:FC)(hI:s.toFF.Sh)(n:Int):Spec Tryz.prog 217 [aA b o 0,iI n] [.cells b o 321 (aC s)] (fun v H1=>v= .tuple #[.agg (s.V9 n).cQ,az 102 (s.cI n 0)]/\H1=[.cells b o 321 (aC s)]):=by
 refine Spec.go 35 [0,1,4,5,6,7,12] [] Tryz.func217 fun W=> ?_;refine XO.bJ (z:=.agg NV.zero.cQ) (m:=4) (C:=nQ NV.zero) (oA _) ?_;intro bg;refine gO ?_;refine cq (zV _ _ _ _) (pk [1]) ?_;refine cd rfl ?_ ?_<;>intro h1
 ·have i0:s.cI n 0≠0:=aq;refine XO.v (V.build (vs:= #[]) rfl (v:=.agg NV.zero.cQ) fun _=>kq) rfl (gO ?_);refine fW (.ao .aa) (l6 _ _) rfl ⟨rfl,rfl⟩ ?_;refine dQ rfl (.agg rfl (.ao .aa) (qQ _) zY nr) (.tmp rfl) (ai .h1 rfl ?_);grind [aK,aJ,FF.V9]
 ·obtain⟨i1,i2,i3⟩:=FF.vw (show s.cI n 0=0 by simpa using h1);have i0:s.cI n 0=0:=by simpa using h1
  refine sd ?_;refine lM .aa (Qa _ _ og) ?_;refine XO.bJ (z:=.agg (xQ 0 0 0 0)) (m:=8) (C:=aC.cell (FJ 0 0 0 0)) (JH 0 0 0 0) ?_;intro bx;refine gO ?_;refine fW .aa (TV _ _) rfl ⟨rfl,rfl⟩ ?_;refine ld .aa (XW _) ?_;refine ld .aa (XX _) ?_;refine ld .aa (XY _) ?_;refine ld .aa (XZ _) ?_;refine ld .aa (X0 _) ?_;refine XO.v (V.build (vs:= #[(0,iI (s.aN n)),(1,iI (s.bF n)),(2,iI (s.aX n)),(3,iI (max ((s.data n).size:Int) ((s.kids n).length:Int)))]) rfl (v:=.agg (NV.mk (s.aN n) (s.bF n) (s.aX n) (max ((s.data n).size:Int) ((s.kids n).length:Int))).cQ) fun _=>kq) rfl (gO ?_);refine fW (.t2 .aa) (l6 _ _) rfl ⟨rfl,rfl⟩ ?_;refine dQ rfl (.agg rfl (.t2 .aa) (qQ _) zY nr) (.tmp rfl) (ai (pk [1]) rfl ?_);grind [aK,aJ,aR,FF.V9,az]
def aco(b o:Nat)(s:FC)(hI:s.toFF.Sh)(n:Int):Spec Tryz.prog 216 [aA b o 0,iI n] [.cells b o 321 (aC s),.bk av (s.bu 9),.bk av (s.bA 3)] (fun v H1=>(s.cI n 2≠0/\v= .tuple #[.slice none 0 0,az 102 (s.cI n 2)]/\H1=[.cells b o 321 (aC s),.bk av (FC.bu 9 s),.bk av (FC.bA 3 s)])\/(s.cI n 2=0/\∃ p c,v= .tuple #[.slice p (s.aI n).length c,az 102 0]/\H1=jR p c 9 (s.aI n)::[.cells b o 321 (aC s),.bk av (FC.bu 9 s),.bk av (FC.bA 3 s)])):=by
 refine Spec.go 21 [0,1,4,5,6,11] [] Tryz.func216 fun W=> ?_;refine cq (Oc _ _ _ _) .h1 ?_;refine cd rfl ?_ ?_<;>intro h1
 ·have i0:s.cI n 2≠0:=aq;refine eH (pz 3) ?_;grind [aK,aJ,aR]
 ·obtain⟨i1,i2,i3,i4⟩:=FF.ji (show s.cI n 2=0 by simpa using h1);have i0:s.cI n 2=0:=by simpa using h1
  obtain⟨hr,hk,h8,_⟩:=hI.jh n og og;refine sd (ld .aa (fk _ _) (XR.mono (fun _ bK=>nj (s:=s) (z:=n) og (pk [1]) bK) ?_));refine ca (Ys _ _ _ og) .h1 ?_;rintro _ _ ⟨p1,c1,rfl,rfl⟩;refine gO ?_;refine XR.mono (fun _ bK=>lA (s:=s) s (z:=n) og rfl (cB _ rfl).symm (cB _ rfl).symm (cB _ rfl).symm (pk [1,1]) bK) (bC rfl rfl rfl (ai (pk [1,1,0,0]) rfl ?_));grind [aK,aJ,aR,az]
def UQ(b o:Nat)(s:FC)(hI:s.toFF.Sh)(n:Int)(x:ByteArray)(k:Int)(hx:x.size<=9223372036854775807):Spec Tryz.prog 207 [aA b o 0,iI n,.string x,iI k] [.cells b o 321 (aC s),.bk av (s.bu 9),.bk av (s.bA 3)] (fun v H1=>v= .tuple #[iI (s.oW n x k),az 102 (s.mw n x k)]/\∃ t:FC,t.toFF=s.make n x k/\t.rP=s.rP/\t.rC=s.rC/\H1=[.cells b o 321 (aC t),.bk av (FC.bu 9 t),.bk av (FC.bA 3 t)]):=by
 refine Spec.go 50 [0,1,2,3,8,9,10,11,17,24,42] [] Tryz.func207 fun W=> ?_;refine sp 14 rfl ?_ ?_<;>intro h1
 ·refine cd rfl ?_ ?_<;>intro h2
  ·refine eH (pz 3) ?_;have e:s.mw n x k=1:=by unfold FF.mw;rw[if_pos og]
   exact⟨by rw[show s.oW n x k=0 from by unfold FF.oW;rw[if_neg og],e];rfl,s,by unfold FF.make;rw[if_neg og],rfl,rfl,rfl⟩
  ·refine cq (Du _ _ _ hI _ _ aq) (pz 3) ?_;refine cd rfl ?_ ?_<;>intro h3
   ·have m0:s.eX n x≠0:=aq;refine eH (pz 3) ?_;have e:s.mw n x k=s.eX n x:=by unfold FF.mw;rw[if_neg og,if_pos og]
    exact⟨by rw[show s.oW n x k=0 from by unfold FF.oW;rw[if_neg og],e]<;>rfl,s,by unfold FF.make;rw[if_neg og],rfl,rfl,rfl⟩
   ·obtain⟨m1,m2,m3,m4⟩:=FF.uP (show s.eX n x=0 by simpa using h3);obtain⟨i1,i2,i3,i4⟩:=FF.ji m1;have i5:=i4 og;have m0:s.eX n x=0:=by simpa using h3
    refine sd (ld .aa (gr _ _) (XO.v (V.build (vs:= #[(0,iI k),(1,iI (s.du n)),(2,iI 1),(7,iI n)]) rfl (v:=.agg (xQ k (s.du n) 1 n)) fun _=>kq) rfl (gO ?_)));refine ca (uY _ _ _ _ _ _ _) (pz 3) ?_;rintro _ _ (⟨h4,rfl,rfl⟩ | ⟨h4,rfl,rfl⟩)
    ·try dsimp only[jm,zM,zN,zO,zP,zQ,zR,zS,zT,zU,uU,uV,uW,uX]
     refine gO ?_;refine eH (pz 3) ?_;have e:s.mw n x k=4:=by unfold FF.mw;rw[if_neg og,if_neg og,if_pos aq]
     exact⟨by rw[show s.oW n x k=0 from by unfold FF.oW;rw[if_neg og],e]<;>rfl,s,by unfold FF.make;rw[if_neg og],rfl,rfl,rfl⟩
    ·try dsimp only[jm,zM,zN,zO,zP,zQ,zR,zS,zT,zU,uU,uV,uW,uX]
     have f:=FF.xM (show ¬s.free<0 by assumption);have UR:(s.wo s.free k (s.du n) 1 n).toFF.Sh:=hI.jz _ _ _ _ _ og;refine gO ?_;refine ca (Dv _ _ _ UR _ _ _) (pz 3) ?_;rintro _ _ ⟨rfl,t,ht,hp,hc,rfl⟩;refine gO ?_;refine eH (pz 3) ?_;have e:s.mw n x k=0:=by unfold FF.mw;rw[if_neg og,if_neg og,if_neg aq]
     exact⟨by rw[show s.oW n x k=s.free from by unfold FF.oW;rw[if_pos e],e];rfl,t,by rw[ht];unfold FF.make;rw[if_pos e];rfl,hp,hc,rfl⟩
 ·refine cq (Du _ _ _ hI _ _ aq) (pz 3) ?_;refine cd rfl ?_ ?_<;>intro h5
  ·have m0:s.eX n x≠0:=aq;refine eH (pz 3) ?_;have e:s.mw n x k=s.eX n x:=by unfold FF.mw;rw[if_neg og,if_pos og]
   exact⟨by rw[show s.oW n x k=0 from by unfold FF.oW;rw[if_neg og],e]<;>rfl,s,by unfold FF.make;rw[if_neg og],rfl,rfl,rfl⟩
  ·obtain⟨m1,m2,m3,m4⟩:=FF.uP (show s.eX n x=0 by simpa using h5);obtain⟨i1,i2,i3,i4⟩:=FF.ji m1;have i5:=i4 og;have m0:s.eX n x=0:=by simpa using h5
   refine sd (ld .aa (gr _ _) (XO.v (V.build (vs:= #[(0,iI k),(1,iI (s.du n)),(2,iI 1),(7,iI n)]) rfl (v:=.agg (xQ k (s.du n) 1 n)) fun _=>kq) rfl (gO ?_)));refine ca (uY _ _ _ _ _ _ _) (pz 3) ?_;rintro _ _ (⟨h6,rfl,rfl⟩ | ⟨h6,rfl,rfl⟩)
   ·try dsimp only[jm,zM,zN,zO,zP,zQ,zR,zS,zT,zU,uU,uV,uW,uX]
    refine gO ?_;refine eH (pz 3) ?_;have e:s.mw n x k=4:=by unfold FF.mw;rw[if_neg og,if_neg og,if_pos aq]
    exact⟨by rw[show s.oW n x k=0 from by unfold FF.oW;rw[if_neg og],e]<;>rfl,s,by unfold FF.make;rw[if_neg og],rfl,rfl,rfl⟩
   ·try dsimp only[jm,zM,zN,zO,zP,zQ,zR,zS,zT,zU,uU,uV,uW,uX]
    have f:=FF.xM (show ¬s.free<0 by assumption);have UR:(s.wo s.free k (s.du n) 1 n).toFF.Sh:=hI.jz _ _ _ _ _ og;refine gO ?_;refine ca (Dv _ _ _ UR _ _ _) (pz 3) ?_;rintro _ _ ⟨rfl,t,ht,hp,hc,rfl⟩;refine gO ?_;refine eH (pz 3) ?_;have e:s.mw n x k=0:=by unfold FF.mw;rw[if_neg og,if_neg og,if_neg aq]
    exact⟨by rw[show s.oW n x k=s.free from by unfold FF.oW;rw[if_pos e],e];rfl,t,by rw[ht];unfold FF.make;rw[if_pos e];rfl,hp,hc,rfl⟩
def acp(b o:Nat)(s:FC)(hI:s.toFF.Sh)(k n:Int)(x:ByteArray)(hx:x.size<=9223372036854775807):Spec Tryz.prog 212 [aA b o 0,iI k,iI n,.string x] [.cells b o 321 (aC s),.bk av (s.bu 9),.bk av (s.bA 3)] (fun v H1=>v=az 102 (s.tH k n x)/\∃ t:FC,t.toFF=s.zC k n x/\t.rP=s.rP/\t.rC=s.rC/\H1=[.cells b o 321 (aC t),.bk av (FC.bu 9 t),.bk av (FC.bA 3 t)]):=by
 refine Spec.go 55 [0,1,2,3,8,9,14,20,36] [] Tryz.func212 fun W=> ?_;refine cq (Ms _ _ _ _) .h1 ?_;refine cd rfl ?_ ?_<;>intro h1
 ·obtain⟨j1,j2,j3,j4⟩:=FF.ji (show s.cI k 1=0 by assumption);have j0:s.cI k 1=0:=aq;refine cq (Du _ _ _ hI _ _ aq) (pz 3) ?_;refine cd rfl ?_ ?_<;>intro h2
  ·refine bS (pz 3) ?_;try dsimp only[aK,aJ,aG,aR]
   have e:s.tH k n x=s.eX n x:=by unfold FF.tH;rw[if_neg og,if_pos og]
   exact⟨by rw[e],s,by unfold FF.zC;rw[if_neg og],rfl,rfl,rfl⟩
  ·skip;refine rq [0,1,2,3,4,5,6,7,8,9,10,11,12,13,14] mixed ?_;have m0:s.eX n x=0:=og;obtain⟨m1,m2,m3,m4⟩:=FF.uP m0;obtain⟨i1,i2,i3,i4⟩:=FF.ji m1;refine sd ?_;refine ld .aa (gr _ _) ?_;refine sd ?_;refine ld .aa (gr _ _) ?_;refine cd rfl ?_ ?_<;>intro h3
   ·refine bS (pz 3) ?_;try dsimp only[aK,aJ,aG,aR]
    have e:s.tH k n x=11:=by unfold FF.tH;rw[if_neg og,if_neg og,if_pos aq]
    exact⟨by rw[e]<;>rfl,s,by unfold FF.zC;rw[if_neg og],rfl,rfl,rfl⟩
   ·refine ca (Dv _ _ _ hI _ _ _) (pz 3) ?_;rintro _ _ ⟨rfl,t,ht,hp,hc,rfl⟩;refine gO ?_;refine rq [0,1,2,3,4,5,6,7,8,9,10,11,12] mixed ?_;have ZE:t.bF k=s.bF k:=congrFun (congrArg FF.bF ht) k;have hlb:=hI.num k og og;refine sd ?_;refine ld .aa (kV _ _) ?_;refine sd ?_;refine sd ?_;refine st .aa (nF _ _ og _) rfl ?_;refine bS (pz 3) ?_;try dsimp only[aK,aJ,aG,aR]
    have e:s.tH k n x=0:=by unfold FF.tH;rw[if_neg og,if_neg og,if_neg og]
    exact⟨by rw[e]<;>rfl,({t with bF:=ad t.bF k (t.bF k+1)} :FC),by rw[CW ht,ZE];unfold FF.zC;rw[if_pos e];rfl,hp,hc,rfl⟩
 ·have j0:s.cI k 1≠0:=aq;refine V0 rfl aq ?_;refine bS (pz 3) ?_;try dsimp only[aK,aJ,aG,aR]
  have e:s.tH k n x=s.cI k 1:=by unfold FF.tH;rw[if_pos og]
  exact⟨by rw[e],s,by unfold FF.zC;rw[if_neg og],rfl,rfl,rfl⟩
def wE(b o:Nat)(s:FC)(hI:s.toFF.Sh)(n:Int):Spec Tryz.prog 123 [aA b o 0,iI n] [.cells b o 321 (aC s),.bk av (s.bu 9),.bk av (s.bA 3)] (fun v H1=>v=az 102 (s.cI n 0)/\∃ t:FC,t.toFF=s.dy n/\t.rP=s.rP/\t.rC=s.rC/\H1=[.cells b o 321 (aC t),.bk av (FC.bu 9 t),.bk av (FC.bA 3 t)]):=by
 refine Spec.go 24 [0,1,4,5,10] [] Tryz.func123 fun W=> ?_;refine cq (zV _ _ _ _) .h1 ?_;refine cd rfl ?_ ?_<;>intro h1
 ·obtain⟨i1,i2,i3⟩:=FF.vw (show s.cI n 0=0 by simpa using h1);have i0:s.cI n 0=0:=by simpa using h1
  have hnb:=hI.num n og og;refine rq [0,1,2,3,4,5,6,7,8,9,10,11,12] mixed ?_;refine sd ?_;refine ld .aa (jZ _ _) ?_;refine sd ?_;refine sd ?_;refine st .aa (tJ _ _ og _) rfl ?_;refine bS (pz 3) ?_;try dsimp only[aK,aJ,aG,aR]
  exact⟨rfl,({s with aX:=ad s.aX n (s.aX n+1)} :FC),by rw[XV rfl];unfold FF.dy;rw[if_pos i0],rfl,rfl,rfl⟩
 ·have i0:s.cI n 0≠0:=aq;refine bS (pz 3) ?_;try dsimp only[aK,aJ,aG,aR]
  exact⟨rfl,s,by unfold FF.dy;rw[if_neg i0],rfl,rfl,rfl⟩
def FV(b o:Nat)(s:FC)(hI:s.toFF.Sh)(n:Int):Spec Tryz.prog 144 [aA b o 0,iI n] [.cells b o 321 (aC s),.bk av (s.bu 9),.bk av (s.bA 3)] (fun v H1=>v=az 102 (s.CQ n)/\∃ t:FC,t.toFF=s.kE n/\t.rP=s.rP/\t.rC=s.rC/\H1=[.cells b o 321 (aC t),.bk av (FC.bu 9 t),.bk av (FC.bA 3 t)]):=by
 refine Spec.go 36 [0,1,4,5,10,19] [] Tryz.func144 fun W=> ?_;refine cq (zV _ _ _ _) .h1 ?_;refine cd rfl ?_ ?_<;>intro h1
 ·have i0:s.cI n 0≠0:=aq;refine bS (pz 3) ?_;try dsimp only[aK,aJ,aG,aR]
  have e:s.CQ n=s.cI n 0:=by unfold FF.CQ;rw[if_pos og]
  exact⟨by rw[e],s,by unfold FF.kE;rw[if_neg og],rfl,rfl,rfl⟩
 ·obtain⟨i1,i2,i3⟩:=FF.vw (show s.cI n 0=0 by simpa using h1);have i0:s.cI n 0=0:=by simpa using h1
  have hnb:=hI.num n og og;refine sd ?_;refine ld .aa (jZ _ _) ?_;refine cd rfl ?_ ?_<;>intro h2
  ·refine bS (pz 3) ?_;try dsimp only[aK,aJ,aG,aR]
   have e:s.CQ n=8:=by unfold FF.CQ;rw[if_neg og,if_pos og]
   exact⟨by rw[e]<;>rfl,s,by unfold FF.kE;rw[if_neg og],rfl,rfl,rfl⟩
  ·refine rq [0,1,2,3,4,5,6,7,8,9,10,11,12] mixed ?_;refine sd ?_;refine ld .aa (jZ _ _) ?_;refine sd ?_;refine sd ?_;refine st .aa (tJ _ _ og _) rfl ?_;refine ca (Mt _ _ ({s with aX:=ad s.aX n (s.aX n-1)} :FC) n) (pz 3) ?_;rintro _ _ ⟨rfl,t,ht,hp,hc,rfl⟩;refine gO ?_;refine bS (pz 3) ?_;try dsimp only[aK,aJ,aG,aR]
   have e:s.CQ n=0:=by unfold FF.CQ;rw[if_neg og,if_neg og]
   exact⟨by rw[e]<;>rfl,t,by rw[ht];unfold FF.kE;rw[if_pos e],hp,hc,rfl⟩
def US(b o:Nat)(s:FC)(hI:s.toFF.Sh)(n:Int)(x:ByteArray):Spec Tryz.prog 210 [aA b o 0,iI n,.string x] [.cells b o 321 (aC s),.bk av (s.bu 9),.bk av (s.bA 3)] (fun v H1=>v=az 102 (s.fA n x)/\∃ t:FC,t.toFF=s.eS n x/\t.rP=s.rP/\t.rC=s.rC/\H1=[.cells b o 321 (aC t),.bk av (FC.bu 9 t),.bk av (FC.bA 3 t)]):=by
 refine Spec.go 60 [0,1,2,6,7,8,9,18,44] [] Tryz.func210 fun W=> ?_;refine cq (wB _ _ _ hI _ _) (pz 3) ?_;refine cd rfl ?_ ?_<;>intro h1
 ·have f0:s.fx n x≠0:=aq;refine bS (pz 3) ?_;try dsimp only[aK,aJ,aG,aR]
  have e:s.fA n x=s.fx n x:=by unfold FF.fA;rw[if_pos og]
  exact⟨by rw[e],s,by unfold FF.eS;rw[if_neg og],rfl,rfl,rfl⟩
 ·obtain⟨i1,i2,i3,k1,k2,hh⟩:=hI.gx (show s.fx n x=0 by simpa using h1);have f0:s.fx n x=0:=by simpa using h1
  have hnb:=hI.num (s.bH n x) og og;have hkr:=hI.jh (s.bH n x) og og;refine sd ?_;refine ld .aa (fF _ _) ?_;refine sp 30 rfl ?_ ?_<;>intro h2
  ·refine ld .aa (l5 _ _) ?_;refine sp 37 rfl ?_ ?_<;>intro h3
   ·refine bS (pz 3) ?_;try dsimp only[aK,aJ,aG,aR]
    have e:s.fA n x=5:=by unfold FF.fA;rw[if_neg og,if_pos (by unfold FF.LR;exact⟨aq,og⟩)]
    exact⟨by rw[e]<;>rfl,s,by unfold FF.eS;rw[if_neg og],rfl,rfl,rfl⟩
   ·refine ld .aa (jZ _ _) ?_;refine cd rfl ?_ ?_<;>intro h4
    ·refine bS (pz 3) ?_;try dsimp only[aK,aJ,aG,aR]
     have e:s.fA n x=5:=by unfold FF.fA;rw[if_neg og,if_pos (by unfold FF.LR;exact⟨aq,og⟩)]
     exact⟨by rw[e]<;>rfl,s,by unfold FF.eS;rw[if_neg og],rfl,rfl,rfl⟩
    ·refine ca (Od _ _ _ hI _ _ og aq) (pz 3) ?_;rintro _ _ ⟨rfl,t,ht,hp,hc,rfl⟩;have ZE:t.bF (s.bH n x)=s.bF (s.bH n x):=congrFun (congrArg FF.bF ht) _;refine gO ?_;refine ld .aa (kV _ _) ?_;refine sd ?_;refine st .aa (nF _ _ og _) rfl ?_;refine ca (Mt _ _ ({t with bF:=ad t.bF (s.bH n x) (t.bF (s.bH n x)-1)} :FC) (s.bH n x)) (pz 3) ?_;rintro _ _ ⟨rfl,t2,N2,E4,uZ,rfl⟩;refine gO ?_;refine bS (pz 3) ?_;try dsimp only[aK,aJ,aG,aR]
     have e:s.fA n x=0:=by unfold FF.fA;rw[if_neg og,if_neg (by unfold FF.LR;omega)]
     exact⟨by rw[e]<;>rfl,t2,by rw[N2,CW ht,ZE];unfold FF.eS;rw[if_pos e];rfl,E4.trans hp,uZ.trans hc,rfl⟩
  ·refine ca (Od _ _ _ hI _ _ og aq) (pz 3) ?_;rintro _ _ ⟨rfl,t,ht,hp,hc,rfl⟩;have ZE:t.bF (s.bH n x)=s.bF (s.bH n x):=congrFun (congrArg FF.bF ht) _;refine gO ?_;refine ld .aa (kV _ _) ?_;refine sd ?_;refine st .aa (nF _ _ og _) rfl ?_;refine ca (Mt _ _ ({t with bF:=ad t.bF (s.bH n x) (t.bF (s.bH n x)-1)} :FC) (s.bH n x)) (pz 3) ?_;rintro _ _ ⟨rfl,t2,N2,E4,uZ,rfl⟩;refine gO ?_;refine bS (pz 3) ?_;try dsimp only[aK,aJ,aG,aR]
   have e:s.fA n x=0:=by unfold FF.fA;rw[if_neg og,if_neg (by unfold FF.LR;omega)]
   exact⟨by rw[e]<;>rfl,t2,by rw[N2,CW ht,ZE];unfold FF.eS;rw[if_pos e];rfl,E4.trans hp,uZ.trans hc,rfl⟩
def acq(b o:Nat)(s:FC)(hI:s.toFF.Sh)(n a m:Int):Spec Tryz.prog 140 [aA b o 0,iI n,iI a,iI m] [.cells b o 321 (aC s)] (fun v H1=>v= .tuple #[.string (s.kA n a m),az 102 (s.lZ n a m)]/\H1=[.cells b o 321 (aC s)]):=by
 refine Spec.go 47 [0,1,2,3,8,9,10,11,16,23] [] Tryz.func140 fun W=> ?_;refine cq (Ms _ _ _ _) .h1 ?_;refine cd rfl ?_ ?_<;>intro h1
 ·have i0:s.cI n 1≠0:=aq;refine eH .h1 ?_;try dsimp only[aK,aJ,aG,aR]
  have e:s.lZ n a m=s.cI n 1:=by unfold FF.lZ;rw[if_pos og]
  exact⟨by rw[show s.kA n a m=ByteArray.empty from by unfold FF.kA;rw[if_neg og],e];rfl,rfl⟩
 ·obtain⟨i1,i2,i3,i4⟩:=FF.ji (show s.cI n 1=0 by simpa using h1);have i0:s.cI n 1=0:=by simpa using h1
  have hd:=hI.data n og og;refine sp 20 rfl ?_ ?_<;>intro h2
  ·refine eH .h1 ?_;try dsimp only[aK,aJ,aG,aR]
   have e:s.lZ n a m=1:=by unfold FF.lZ;rw[if_neg og,if_pos og]
   exact⟨by rw[show s.kA n a m=ByteArray.empty from by unfold FF.kA;rw[if_neg og],e];rfl,rfl⟩
  ·refine cd rfl ?_ ?_<;>intro h3
   ·refine eH .h1 ?_;try dsimp only[aK,aJ,aG,aR]
    have e:s.lZ n a m=1:=by unfold FF.lZ;rw[if_neg og,if_pos og]
    exact⟨by rw[show s.kA n a m=ByteArray.empty from by unfold FF.kA;rw[if_neg og],e];rfl,rfl⟩
   ·refine sd ?_;refine ld .aa (oX _ _) ?_;refine sd ?_;refine sd ?_;refine sd ?_;refine eH .h1 ?_;try dsimp only[aK,aJ,aG,aR]
    have e:s.lZ n a m=0:=by unfold FF.lZ;rw[if_neg og,if_neg og]
    exact⟨by rw[show s.kA n a m=_ from by unfold FF.kA;rw[if_pos e],e];rfl,rfl⟩
def acr(b o:Nat)(s:FC)(hI:s.toFF.Sh)(d:Int->Nat)(hc:∀ k,s.toFF.Ch d k)(n:Int)(x:ByteArray)(to:Int)(y:ByteArray)(hy:y.size<=9223372036854775807):Spec Tryz.prog 211 [aA b o 0,iI n,.string x,iI to,.string y] [.cells b o 321 (aC s),.bk av (s.bu 9),.bk av (s.bA 3)] (fun v H1=>v=az 102 (s.iM d n x to y)/\∃ t:FC,t.toFF=s.move d n x to y/\t.rP=s.rP/\t.rC=s.rC/\H1=[.cells b o 321 (aC t),.bk av (FC.bu 9 t),.bk av (FC.bA 3 t)]):=by
 refine Spec.go 95 [0,1,2,3,4,10,11,12,21,26,42,57,68,87] [] Tryz.func211 fun W=> ?_;refine cq (wB _ _ _ hI _ _) (pz 3) ?_;refine cd rfl ?_ ?_<;>intro h1
 ·obtain⟨i1,i2,i3,k1,k2,hh⟩:=hI.gx (show s.fx n x=0 by simpa using h1);have f0:s.fx n x=0:=by simpa using h1
  refine cq (Oc _ _ _ _) .h1 ?_;refine cd rfl ?_ ?_<;>intro h2
  ·refine bS (pz 3) ?_;try dsimp only[aK,aJ,aG,aR]
   have e0:s.fK d n x to=s.cI to 2:=by unfold FF.fK;rw[if_neg og,if_pos og]
   have e:s.iM d n x to y=s.fK d n x to:=by unfold FF.iM;rw[if_pos og]
   exact⟨by rw[e,e0],s,by unfold FF.move;rw[if_pos og],rfl,rfl,rfl⟩
  ·obtain⟨t1,t2,_,t3⟩:=FF.ji (show s.cI to 2=0 by simpa using h2);have t3:=t3 og;have t0:s.cI to 2=0:=by simpa using h2
   refine rq [0,1,2,3,4,5,6,7,8,9,10,11,12,13,14] mixed (sd (ld .aa (gr _ _) (sd (ld .aa (gr _ _) ?_))));refine cd rfl ?_ ?_<;>intro h3
   ·refine bS (pz 3) ?_;try dsimp only[aK,aJ,aG,aR]
    have e0:s.fK d n x to=11:=by unfold FF.fK;rw[if_neg og,if_neg og,if_pos aq]
    have e:s.iM d n x to y=s.fK d n x to:=by unfold FF.iM;rw[if_pos og]
    exact⟨by rw[e,e0];rfl,s,by unfold FF.move;rw[if_pos og],rfl,rfl,rfl⟩
   ·refine sd (ld .aa (fF _ _) ?_);refine sp 52 rfl ?_ ?_<;>intro h4
    ·refine cq (Yt _ _ _ d _ _ ⟨og,og,t3⟩ (hc _)) .h1 ?_;refine yW ?_ ?_<;>intro h5
     ·try simp only[sb]at h5
      have Wh:FF.JB d s.toFF to (s.bH n x)=true:=by simpa using h5
      refine bS (pz 3) ?_;try dsimp only[aK,aJ,aG,aR]
      have e0:s.fK d n x to=5:=by unfold FF.fK;rw[if_neg og,if_neg og,if_neg og,if_pos ⟨aq,Wh⟩]
      have e:s.iM d n x to y=s.fK d n x to:=by unfold FF.iM;rw[if_pos og]
      exact⟨by rw[e,e0];rfl,s,by unfold FF.move;rw[if_pos og],rfl,rfl,rfl⟩
     ·try simp only[sb]at h5
      have Wh:FF.JB d s.toFF to (s.bH n x)=false:=by simpa using h5
      refine ca (Od _ _ _ hI _ _ og aq) (pz 3) ?_;rintro _ _ ⟨rfl,t,ht,hp,BA,rfl⟩;have UR:t.toFF.Sh:=by rw[ht];exact hI.ef i1 i2 hh
      refine gO ?_;refine cq (Du _ _ _ UR _ _ aq) (pz 3) ?_;refine cd rfl ?_ ?_<;>intro h6
      ·have hm:(s.ef n x).eX to y≠0:=by rw[<-ht];assumption
       refine ca (Dv _ _ _ UR _ _ _) (pz 3) ?_;rintro _ _ ⟨rfl,t2,N2,E4,uZ,rfl⟩;refine gO ?_;refine bS (pz 3) ?_;try dsimp only[aK,aJ,aG,aR]
       have e0:s.fK d n x to=0:=by unfold FF.fK;rw[if_neg og,if_neg og,if_neg og,if_neg fun q=>absurd q.2 (by rw[Wh];simp)]
       have e:s.iM d n x to y=(s.ef n x).eX to y:=by unfold FF.iM;rw[if_neg og]
       exact⟨by rw[e,ht],t2,by rw[N2,ht];unfold FF.move;rw[if_neg og,if_pos og],E4.trans hp,uZ.trans BA,rfl⟩
      ·have hm:(s.ef n x).eX to y=0:=by rw[<-ht];simpa using h6
       refine ca (Dv _ _ _ UR _ _ _) (pz 3) ?_;rintro _ _ ⟨rfl,t2,N2,E4,uZ,rfl⟩;have HU:t2.aN (s.bH n x)=s.aN (s.bH n x):=(congrFun (congrArg FF.aN N2) _).trans (congrFun (congrArg FF.aN ht) _);refine gO ?_;refine sd (ld .aa (fF _ _) ?_);refine cd rfl ?_ ?_<;>intro h7
       ·refine sd (st .aa (rX _ _ og _) rfl (bh rfl rfl (ai (pz 3) rfl ?_)));try dsimp only[aK,aJ,aG,aR]
        have e0:s.fK d n x to=0:=by unfold FF.fK;rw[if_neg og,if_neg og,if_neg og,if_neg fun q=>absurd q.2 (by rw[Wh];simp)]
        have e:s.iM d n x to y=(s.ef n x).eX to y:=by unfold FF.iM;rw[if_neg og]
        exact⟨by rw[e,hm];rfl,({t2 with up:=ad t2.up (s.bH n x) to} :FC),by rw[aeN N2,ht];unfold FF.move;rw[if_neg og,if_neg og,if_pos og];rfl,E4.trans hp,uZ.trans BA,rfl⟩
       ·refine bS (pz 3) ?_;omega
    ·refine ca (Od _ _ _ hI _ _ og aq) (pz 3) ?_;rintro _ _ ⟨rfl,t,ht,hp,BA,rfl⟩;have UR:t.toFF.Sh:=by rw[ht];exact hI.ef i1 i2 hh
     refine gO ?_;refine cq (Du _ _ _ UR _ _ aq) (pz 3) ?_;refine cd rfl ?_ ?_<;>intro h8
     ·have hm:(s.ef n x).eX to y≠0:=by rw[<-ht];assumption
      refine ca (Dv _ _ _ UR _ _ _) (pz 3) ?_;rintro _ _ ⟨rfl,t2,N2,E4,uZ,rfl⟩;refine gO ?_;refine bS (pz 3) ?_;try dsimp only[aK,aJ,aG,aR]
      have e0:s.fK d n x to=0:=by unfold FF.fK;rw[if_neg og,if_neg og,if_neg og,if_neg fun q=>absurd q.1 aq]
      have e:s.iM d n x to y=(s.ef n x).eX to y:=by unfold FF.iM;rw[if_neg og]
      exact⟨by rw[e,ht],t2,by rw[N2,ht];unfold FF.move;rw[if_neg og,if_pos og],E4.trans hp,uZ.trans BA,rfl⟩
     ·have hm:(s.ef n x).eX to y=0:=by rw[<-ht];simpa using h8
      refine ca (Dv _ _ _ UR _ _ _) (pz 3) ?_;rintro _ _ ⟨rfl,t2,N2,E4,uZ,rfl⟩;have HU:t2.aN (s.bH n x)=s.aN (s.bH n x):=(congrFun (congrArg FF.aN N2) _).trans (congrFun (congrArg FF.aN ht) _);refine gO ?_;refine sd (ld .aa (fF _ _) ?_);refine cd rfl ?_ ?_<;>intro h9
      ·refine sd (st .aa (rX _ _ og _) rfl (bh rfl rfl (ai (pz 3) rfl ?_)));omega
      ·refine bS (pz 3) ?_;try dsimp only[aK,aJ,aG,aR]
       have e0:s.fK d n x to=0:=by unfold FF.fK;rw[if_neg og,if_neg og,if_neg og,if_neg fun q=>absurd q.1 aq]
       have e:s.iM d n x to y=(s.ef n x).eX to y:=by unfold FF.iM;rw[if_neg og]
       exact⟨by rw[e,hm];rfl,t2,by rw[N2,ht];unfold FF.move;rw[if_neg og,if_neg og,if_neg og],E4.trans hp,uZ.trans BA,rfl⟩
 ·have f0:s.fx n x≠0:=aq;refine V0 rfl aq (bh rfl rfl (ai (pz 3) rfl ?_));try dsimp only[aK,aJ,aG,aR]
  have e0:s.fK d n x to=s.fx n x:=by unfold FF.fK;rw[if_pos og]
  have e:s.iM d n x to y=s.fK d n x to:=by unfold FF.iM;rw[if_pos og]
  exact⟨by rw[e,e0],s,by unfold FF.move;rw[if_pos og],rfl,rfl,rfl⟩
def Dw:B1 Tryz.prog 231=true:=kq
def Yv(b o:Nat)(s:FC)(hI:s.toFF.Sh)(n a:Int)(x:ByteArray)(hx:x.size<=9223372036854775807):Spec Tryz.prog 137 [aA b o 0,iI n,iI a,.string x] [.cells b o 321 (aC s),.bk av (s.bu 9),.bk av (s.bA 3)] (fun v H1=>v=az 102 (s.eT n a x)/\∃ t:FC,t.toFF=s.b7 n a x/\t.rP=s.rP/\t.rC=s.rC/\H1=[.cells b o 321 (aC t),.bk av (FC.bu 9 t),.bk av (FC.bA 3 t)]):=by
 refine Spec.go 68 [0,1,2,3,8,9,10,15,18,28,31] [] Tryz.func137 fun W=> ?_;refine cq (Ms _ _ _ _) .h1 ?_;refine cd rfl ?_ ?_<;>intro h1
 ·have i0:s.cI n 1≠0:=aq;refine bS (pz 3) ?_;try dsimp only[aK,aJ,aG,aR]
  have e:s.eT n a x=s.cI n 1:=by unfold FF.eT;rw[if_pos og]
  exact⟨by rw[e],s,by unfold FF.b7;rw[if_neg og],rfl,rfl,rfl⟩
 ·obtain⟨i1,i2,i3,i4⟩:=FF.ji (show s.cI n 1=0 by simpa using h1);have i0:s.cI n 1=0:=by simpa using h1
  have hd:=hI.data n og og;refine cd rfl ?_ ?_<;>intro h2
  ·refine bS (pz 3) ?_;try dsimp only[aK,aJ,aG,aR]
   have e:s.eT n a x=1:=by unfold FF.eT;rw[if_neg og,if_pos og]
   exact⟨by rw[e]<;>rfl,s,by unfold FF.b7;rw[if_neg og],rfl,rfl,rfl⟩
  ·refine sp 22 rfl ?_ ?_<;>intro h3
   ·refine bS (pz 3) ?_;try dsimp only[aK,aJ,aG,aR]
    have e:s.eT n a x=4:=by unfold FF.eT;rw[if_neg og,if_neg og,if_pos og]
    exact⟨by rw[e]<;>rfl,s,by unfold FF.b7;rw[if_neg og],rfl,rfl,rfl⟩
   ·refine sd ?_;refine cd rfl ?_ ?_<;>intro h4
    ·refine bS (pz 3) ?_;try dsimp only[aK,aJ,aG,aR]
     have e:s.eT n a x=4:=by unfold FF.eT;rw[if_neg og,if_neg og,if_pos og]
     exact⟨by rw[e]<;>rfl,s,by unfold FF.b7;rw[if_neg og],rfl,rfl,rfl⟩
    ·refine cd rfl ?_ ?_<;>intro h5
     ·refine bS (pz 3) ?_;try dsimp only[aK,aJ,aG,aR]
      have e:s.eT n a x=0:=by unfold FF.eT;rw[if_neg og,if_neg og,if_neg og]
      exact⟨by rw[e]<;>rfl,s,by unfold FF.b7;rw[if_neg fun q=>q.2 aq],rfl,rfl,rfl⟩
     ·have sP:x.size≠0:=fun q=>(by assumption:¬x=⟨#[]⟩) (xJ.2 q);have Ur:x≠ByteArray.empty:=aq;refine sd ?_;refine ld .aa (oX _ _) ?_;refine sd ?_;refine XO.O1 rfl rfl og Dw rfl ?_;intro bb;refine gO ?_;refine sd ?_;refine ld (.ao .aa) (oX _ _) ?_;refine XO.Na rfl rfl Dw og og .aa rfl rfl ?_;refine gO ?_;refine XO.v (O2 rfl rfl Dw og) rfl (gO ?_);refine XO.Na rfl rfl Dw og og .aa rfl rfl ?_;refine gO ?_;refine rq [0,1,2,3,4,5,6,7,8] mixed ?_;refine XO.l (WT (B:=V8 (s.data n) a.toNat x) rfl (by rw[FF.xN];omega) (fc .aa) ⟨by rw[FF.xN];omega,fun i h=>TW _ _ _ i h⟩ Dw Tryz.underlying9) rfl (gO ?_);refine sd ?_;refine st (.ao .aa) (CR _ _ og _) rfl ?_;refine bh rfl rfl (ai (pk [1,1,1]) rfl ?_);try dsimp only[aK,aJ,aG,aR]
      have e:s.eT n a x=0:=by unfold FF.eT;rw[if_neg og,if_neg og,if_neg og]
      exact⟨by rw[e]<;>rfl,({s with data:=ad s.data n (V8 (s.data n) a.toNat x)} :FC),by unfold FF.b7;rw[if_pos ⟨e,Ur⟩],rfl,rfl,rfl⟩
end Go.X.Tr
