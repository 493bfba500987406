import Derived.Test.YthdinakloheinaaGreatDoorkShtree
set_option linter.all false
namespace Go.X.Tr
open Go Go.Proofs Go.X
set_option maxRecDepth 20000
set_option maxHeartbeats 4000000
def yG(p:Option Addr)(cap:Nat)(l:List ByteArray)(x:ByteArray)(hl:l.length<=1000000:=by omega):Spec Tryz.prog 249 [.slice p l.length cap,.string x] [jN p cap 9 l] (fun v H1=>v= .tuple #[iI (bsS l x),.bool (IY l x)]/\H1=[jN p cap 9 l]):=LB Go.Proofs.MP p cap 9 l x hl
def acE(p:Option Addr)(cap:Nat)(l:List ByteArray)(i:Nat)(hi:i<=l.length)(x:ByteArray)(vb:Nat)(hl:l.length<=1000000):Spec Tryz.prog 250 [.slice p l.length cap,iI i,.slice (some ⟨vb,0,none⟩) 1 1] [jN p cap 9 l,.row (.slice (some ⟨vb,0,none⟩) 1 1) 9 1 1 [.string x]]
   (fun v H1=>∃ p' cL,v= .slice p' (l.length+1) cL/\H1=[.row (.slice p' (l.length+1) cL) 9 1 (l.length+1) (strs (l.insertIdx i x)),.row (.slice (some ⟨vb,0,none⟩) 1 1) 9 1 1 [.string x]]):=Es Go.Proofs.MQ p cap l i hi x vb 9 hl
def acF(p:Option Addr)(cap:Nat)(l:List Int)(i:Nat)(hi:i<=l.length)(x:Int)(vb:Nat)(hl:l.length<=1000000):Spec Tryz.prog 251 [.slice p l.length cap,iI i,.slice (some ⟨vb,0,none⟩) 1 1] [db p cap 3 l,.row (.slice (some ⟨vb,0,none⟩) 1 1) 3 1 1 [iI x]]
   (fun v H1=>∃ p' cL,v= .slice p' (l.length+1) cL/\H1=[.row (.slice p' (l.length+1) cL) 3 1 (l.length+1) (fL (l.insertIdx i x)),.row (.slice (some ⟨vb,0,none⟩) 1 1) 3 1 1 [iI x]]):=LA Go.Proofs.MR p cap l i hi x vb 3 hl
def acG(p:Option Addr)(cap:Nat)(l:List ByteArray)(i:Nat)(hi:i<l.length)(hl:l.length<=1000000):Spec Tryz.prog 252 [.slice p l.length cap,iI i,iI (i+1)] [jN p cap 9 l] (fun v H1=>v= .slice p (l.length-1) cap/\H1=[.row (.slice p (l.length-1) cap) 9 1 (l.length-1) (strs (l.eraseIdx i))]):=Et Go.Proofs.MU p cap l i hi 9 hl
def acH(p:Option Addr)(cap:Nat)(l:List Int)(i:Nat)(hi:i<l.length)(hl:l.length<=1000000):Spec Tryz.prog 253 [.slice p l.length cap,iI i,iI (i+1)] [db p cap 3 l] (fun v H1=>v= .slice p (l.length-1) cap/\H1=[.row (.slice p (l.length-1) cap) 3 1 (l.length-1) (fL (l.eraseIdx i))]):=LC Go.Proofs.MV p cap l i hi 3 hl
def YM(p:Option Addr)(cap:Nat)(l:List ByteArray)(hl:l.length<=1000000):Spec Tryz.prog 240 [.slice p l.length cap] [jN p cap 9 l] (fun v H1=>∃ p' cL,v= .slice p' l.length cL/\H1=[jN p' cL 9 l,jN p cap 9 l]):=GZ Go.Proofs.Q4 p cap 9 l hl
def Ve(x:ByteArray)(hx:x.size<=9223372036854775807):Spec Tryz.prog 247 [.string x] [] (fun v H1=>v= .bool (jW x)/\H1=[]):=by
 apply Spec.go 53 [0,2,3,5,6,7,36] [] Tryz.func247 rfl rfl rfl;intro W;refine lp (σ:=Int) (fun i=>(x.size-i).toNat) (fun i=>(0<=i/\i<=x.size)/\∀ j,j<i.toNat->X7 (x.get! j)=true) (fun i=>[(6,iI i),(0,.string x),(5,iI x.size)]) (fun i=>XM W (bZ []) []) (0) ?_ (S3 rfl rfl rfl) (fun _ hw=>XM.pick .nil hw) ?_
 ·simp_all
 intro i hi;obtain⟨hi,ho⟩:=hi;apply gC;refine cd rfl ?_ ?_<;>intro h1
 ·obtain⟨u,hu⟩:=J1 (s:=x) (j:=i.toNat) og;have hg:=Ub hu;refine XO.v (gp rfl rfl Tryz.underlying9 og hu) rfl (gO ?_);refine sp 13 rfl ?_ ?_<;>intro h2
  ·refine XO.v (gp rfl rfl Tryz.underlying9 og hu) rfl (gO ?_);refine sp 24 rfl ?_ ?_<;>intro h3
   ·refine XO.v (gp rfl rfl Tryz.underlying9 og hu) rfl (gO ?_);refine cd rfl ?_ ?_<;>intro h4
    ·refine ah rfl rfl (ad .nil rfl ?_);grind [aL,aJ,aR,X7,jW]
    ·refine sd (ag (i+1) ?_ ?_ (S3 rfl rfl rfl) fun _ hw=>XM.pick .nil hw);all_goals grind [X7]
   ·refine XO.v (gp rfl rfl Tryz.underlying9 og hu) rfl (gO ?_);refine sp 31 rfl ?_ ?_<;>intro h5
    ·refine XO.v (gp rfl rfl Tryz.underlying9 og hu) rfl (gO ?_);refine cd rfl ?_ ?_<;>intro h6
     ·refine ah rfl rfl (ad .nil rfl ?_);grind [aL,aJ,aR,X7,jW]
     ·refine sd (ag (i+1) ?_ ?_ (S3 rfl rfl rfl) fun _ hw=>XM.pick .nil hw);all_goals omega
    ·refine sd (ag (i+1) ?_ ?_ (S3 rfl rfl rfl) fun _ hw=>XM.pick .nil hw);all_goals grind [X7]
  ·refine XO.v (gp rfl rfl Tryz.underlying9 og hu) rfl (gO ?_);refine sp 19 rfl ?_ ?_<;>intro h7
   ·refine XO.v (gp rfl rfl Tryz.underlying9 og hu) rfl (gO ?_);refine sp 24 rfl ?_ ?_<;>intro h8
    ·refine XO.v (gp rfl rfl Tryz.underlying9 og hu) rfl (gO ?_);refine cd rfl ?_ ?_<;>intro h9
     ·refine ah rfl rfl (ad .nil rfl ?_);omega
     ·refine sd (ag (i+1) ?_ ?_ (S3 rfl rfl rfl) fun _ hw=>XM.pick .nil hw);all_goals omega
    ·refine XO.v (gp rfl rfl Tryz.underlying9 og hu) rfl (gO ?_);refine sp 31 rfl ?_ ?_<;>intro RH
     ·refine XO.v (gp rfl rfl Tryz.underlying9 og hu) rfl (gO ?_);refine cd rfl ?_ ?_<;>intro ZX
      ·refine ah rfl rfl (ad .nil rfl ?_);grind [aL,aJ,aR,X7,jW]
      ·refine sd (ag (i+1) ?_ ?_ (S3 rfl rfl rfl) fun _ hw=>XM.pick .nil hw);all_goals omega
     ·refine sd (ag (i+1) ?_ ?_ (S3 rfl rfl rfl) fun _ hw=>XM.pick .nil hw);all_goals omega
   ·refine sd (ag (i+1) ?_ ?_ (S3 rfl rfl rfl) fun _ hw=>XM.pick .nil hw);all_goals grind [X7]
 ·have Ln:∀ j,j<x.size->X7 (x.get! j)=true:=fun j hj=>ho j og;refine sp 40 rfl ?_ ?_<;>intro h12
  ·refine sp 44 rfl ?_ ?_<;>intro h13
   ·refine sp 48 rfl ?_ ?_<;>intro h14
    ·refine ah rfl rfl (ad .nil rfl ?_);grind [aL,aJ,yf,jW]
    ·refine ah rfl rfl (ad .nil rfl ?_);grind [aL,aJ,aR,jW]
   ·refine ah rfl rfl (ad .nil rfl ?_);grind [aL,aJ,aR,jW]
  ·refine ah rfl rfl (ad .nil rfl ?_);grind [aL,aJ,aR,yf,jW]
def Al(b o:Nat)(s:FC)(n:Int):Spec Tryz.prog 185 [aC b o 0,iI n] [.cells b o 321 (aH s)] (fun v H1=>v=az 102 (s.cx n 0)/\H1=[.cells b o 321 (aH s)]):=by
 apply Spec.go 21 [0,1,4,10,19] [] Tryz.func185 rfl rfl rfl;intro W;refine sp 7 rfl ?_ ?_<;>intro h1
 ·refine ah rfl rfl (ad .h1 rfl ?_);try dsimp only[aL,aJ,aD,aR]
  have e:s.cx n 0=1:=by unfold FF.cx;rw[if_pos og]
  grind [az]
 ·refine cd rfl ?_ ?_<;>intro h2
  ·refine ah rfl rfl (ad .h1 rfl ?_);try dsimp only[aL,aJ,aD,aR]
   have e:s.cx n 0=1:=by unfold FF.cx;rw[if_pos og]
   grind [az]
  ·refine sd (ld .aa (fG _ _) ?_);refine cd rfl ?_ ?_<;>intro h3
   ·refine ah rfl rfl (ad .h1 rfl ?_);try dsimp only[aL,aJ,aD,aR]
    have e:s.cx n 0=2:=by unfold FF.cx;rw[if_neg og,if_pos og]
    grind [az]
   ·refine ah rfl rfl (ad .h1 rfl ?_);try dsimp only[aL,aJ,aD,aR]
    have e:s.cx n 0=0:=by unfold FF.cx;rw[if_neg og,if_neg og,if_neg og]
    grind [az]
def OK(b o:Nat)(s:FC)(n:Int):Spec Tryz.prog 237 [aC b o 0,iI n] [.cells b o 321 (aH s)] (fun v H1=>v=az 102 (s.cx n 2)/\H1=[.cells b o 321 (aH s)]):=by
 apply Spec.go 23 [0,1,4,5,20] [] Tryz.func237 rfl rfl rfl;intro W;refine cq (Al _ _ _ _) .h1 ?_;refine sp 11 rfl ?_ ?_<;>intro h1
 ·obtain⟨i1,i2,i3⟩:=FF.vG (show s.cx n 0=0 by assumption);refine sd (ld .aa (fG _ _) ?_);refine cd rfl ?_ ?_<;>intro h2
  ·refine ah rfl rfl (ad .h1 rfl ?_);try dsimp only[aL,aJ,aD,aR]
   have e:s.cx n 2=11:=by unfold FF.cx;rw[if_neg og,if_neg og,if_pos og]
   grind [az]
  ·refine ah rfl rfl (ad .h1 rfl ?_);try dsimp only[aL,aJ,aD,aR]
   have e:s.cx n 2=0:=by unfold FF.cx;rw[if_neg og,if_neg og,if_neg og]
   simp_all
 ·have i0:s.cx n 0≠0:=aq;refine ah rfl rfl (ad .h1 rfl ?_);try dsimp only[aL,aJ,aD,aR]
  exact⟨by rw[FF.Uc i0],rfl⟩
def MW(b o:Nat)(s:FC)(n:Int):Spec Tryz.prog 194 [aC b o 0,iI n] [.cells b o 321 (aH s)] (fun v H1=>v=az 102 (s.cx n 1)/\H1=[.cells b o 321 (aH s)]):=by
 apply Spec.go 23 [0,1,4,5,20] [] Tryz.func194 rfl rfl rfl;intro W;refine cq (Al _ _ _ _) .h1 ?_;refine sp 11 rfl ?_ ?_<;>intro h1
 ·obtain⟨i1,i2,i3⟩:=FF.vG (show s.cx n 0=0 by assumption);refine sd (ld .aa (fG _ _) ?_);refine cd rfl ?_ ?_<;>intro h2
  ·refine ah rfl rfl (ad .h1 rfl ?_);try dsimp only[aL,aJ,aD,aR]
   have e:s.cx n 1=11:=by unfold FF.cx;rw[if_neg og,if_neg og,if_pos og]
   grind [az]
  ·refine ah rfl rfl (ad .h1 rfl ?_);try dsimp only[aL,aJ,aD,aR]
   have e:s.cx n 1=0:=by unfold FF.cx;rw[if_neg og,if_neg og,if_neg og]
   simp_all
 ·have i0:s.cx n 0≠0:=aq;refine ah rfl rfl (ad .h1 rfl ?_);try dsimp only[aL,aJ,aD,aR]
  exact⟨by rw[FF.Uc i0],rfl⟩
def uf(b o:Nat)(s:FC)(hI:s.toFF.Sh)(n:Int)(x:ByteArray):Spec Tryz.prog 235 [aC b o 0,iI n,.string x] [.cells b o 321 (aH s),.aV ax (s.aX 9),.aV ax (s.aY 3)] (fun v H1=>v= .tuple #[iI (s.bK n x),az 102 (s.fC n x)]/\H1=[.cells b o 321 (aH s),.aV ax (FC.aX 9 s),.aV ax (FC.aY 3 s)]):=by
 apply Spec.go 42 [0,1,2,6,7,8,9,10,15,30] [] Tryz.func235 rfl rfl rfl;intro W;refine cq (OK _ _ _ _) .h1 ?_;refine cd rfl ?_ ?_<;>intro h1
 ·have i0:s.cx n 2≠0:=aq;refine ao rfl rfl rfl (ad (pz 3) rfl ?_);have e:s.fC n x=s.cx n 2:=by unfold FF.fC;rw[if_pos i0]
  exact⟨by rw[show s.bK n x=0 from by unfold FF.bK;rw[if_neg og],e]<;>rfl,rfl⟩
 ·obtain⟨i1,i2,i3,i4⟩:=FF.je (show s.cx n 2=0 by simpa using h1);have i0:s.cx n 2=0:=by simpa using h1
  obtain⟨hr,hk,h8,_⟩:=hI.jd n i1 i2;have Wy:=Db hr x;have hbh:=ye hr x;have X9:=nY (s.aN n) x;refine sd (ld .aa (fp _ _) (XR.mono (fun _ bJ=>na (s:=s) (z:=n) og (pk [1]) bJ) ?_));refine cq (yG _ _ _ _) .h1 ?_;apply XR.mono fun _ bJ=>ly (s:=s) s (z:=n) og rfl (cy _ rfl).symm (cy _ rfl).symm (cy _ rfl).symm (pz 2) bJ;refine we rfl ?_ ?_<;>intro h2
  ·try simp only[sb]at h2
   have hh:oX (s.aN n) x=false:=by rw[<-hbh];simpa using h2
   refine ao rfl rfl rfl (ad (pk [1,0,0]) rfl ?_);have e:s.fC n x=2:=by unfold FF.fC;rw[if_neg og,if_neg (by rw[hh];simp)]
   exact⟨by rw[show s.bK n x=0 from by unfold FF.bK;rw[if_neg og],e];rfl,rfl⟩
  ·try simp only[sb]at h2
   have hh:oX (s.aN n) x=true:=by rw[<-hbh];simpa using h2
   obtain⟨Is,Fp⟩:=lP.1 hh;refine sd (XR.mono (fun _ bJ=>yq (s:=s) (z:=n) og (pk [2]) bJ) (ld (.t3 .aa) (lR _ _) (bH .aa og ?_)));intro g hg;rw[hg];refine sd (q9 .aa (ints_at) (XR.mono (fun _ bJ=>u5 (s:=s) s (z:=n) og rfl (cy _ rfl).symm (cy _ hg).symm (cy _ rfl).symm (pz 2) bJ) (ao rfl rfl rfl (ad (pk [2,1,0]) rfl ?_))));have e:s.fC n x=0:=by unfold FF.fC;rw[if_neg og,if_pos hh]
   exact⟨by rw[show s.bK n x=dg (s.kids n) (eo (s.aN n) x)from by unfold FF.bK;rw[if_pos e],e,Wy];rfl,rfl⟩
def DN(b o:Nat)(s:FC)(hI:s.toFF.Sh)(n:Int)(x:ByteArray)(hx:x.size<=9223372036854775807):Spec Tryz.prog 233 [aC b o 0,iI n,.string x] [.cells b o 321 (aH s),.aV ax (s.aX 9),.aV ax (s.aY 3)] (fun v H1=>v=az 102 (s.eX n x)/\H1=[.cells b o 321 (aH s),.aV ax (FC.aX 9 s),.aV ax (FC.aY 3 s)]):=by
 apply Spec.go 44 [0,1,2,6,7,9,14,18,32,42] [] Tryz.func233 rfl rfl rfl;intro W;refine cq (OK _ _ _ _) .h1 ?_;refine cd rfl ?_ ?_<;>intro h1
 ·have i0:s.cx n 2≠0:=aq;refine ah rfl rfl (ad (pz 3) rfl ?_);try dsimp only[aL,aJ,aD,aR]
  have e:s.eX n x=s.cx n 2:=by unfold FF.eX;rw[if_pos i0]
  simp_all
 ·obtain⟨i1,i2,i3,i4⟩:=FF.je (show s.cx n 2=0 by simpa using h1);have i0:s.cx n 2=0:=by simpa using h1
  obtain⟨hr,hk,h8,_⟩:=hI.jd n og og;have Wy:=Db hr x;have hbh:=ye hr x;have X9:=nY (s.aN n) x;refine cq (Ve _ og) .nil ?_;refine we rfl ?_ ?_<;>intro h2
  ·try simp only[sb]at h2
   have hn:jW x=false:=by simpa using h2
   refine ah rfl rfl (ad (pz 3) rfl ?_);try dsimp only[aL,aJ,aD,aR]
   have e:s.eX n x=9:=by unfold FF.eX;rw[if_neg og,if_pos hn]
   grind [az]
  ·try simp only[sb]at h2
   have hn:jW x=true:=by simpa using h2
   refine sd (ld .aa (fp _ _) (XR.mono (fun _ bJ=>na (s:=s) (z:=n) og (pk [1]) bJ) ?_));refine cq (yG _ _ _ _) .h1 ?_;apply XR.mono fun _ bJ=>ly (s:=s) s (z:=n) og rfl (cy _ rfl).symm (cy _ rfl).symm (cy _ rfl).symm (pz 2) bJ;refine we rfl ?_ ?_<;>intro h3
   ·try simp only[sb]at h3
    have hh:oX (s.aN n) x=true:=by rw[<-hbh];simpa using h3
    refine ah rfl rfl (ad (pk [1,0,0]) rfl ?_);try dsimp only[aL,aJ,aD,aR]
    have e:s.eX n x=3:=by unfold FF.eX;rw[if_neg og,if_neg (by rw[hn];simp),if_pos hh]
    grind [az]
   ·try simp only[sb]at h3
    have hh:oX (s.aN n) x=false:=by rw[<-hbh];simpa using h3
    refine sd (ld (.av .aa) (fp _ _) ?_);refine cd rfl ?_ ?_<;>intro h4
    ·refine ah rfl rfl (ad (pk [1,0,0]) rfl ?_);try dsimp only[aL,aJ,aD,aR]
     have e:s.eX n x=4:=by unfold FF.eX;rw[if_neg og,if_neg (by rw[hn];simp),if_neg (by rw[hh];simp),if_pos og]
     grind [az]
    ·refine ah rfl rfl (ad (pk [1,0,0]) rfl ?_);try dsimp only[aL,aJ,aD,aR]
     have e:s.eX n x=0:=by unfold FF.eX;rw[if_neg og,if_neg (by rw[hn];simp),if_neg (by rw[hh];simp),if_neg og]
     grind [az]
def DP(b o:Nat)(s:FC)(hI:s.toFF.Sh)(n:Int)(x:ByteArray)(k:Int)(hn:0<=n/\n<40:=by omega):Spec Tryz.prog 234 [aC b o 0,iI n,.string x,iI k] [.cells b o 321 (aH s),.aV ax (s.aX 9),.aV ax (s.aY 3)] (fun v H1=>v= .tuple #[]/\∃ t:FC,t.toFF=s.sL n x k/\t.rP=s.rP/\t.rC=s.rC/\H1=[.cells b o 321 (aH t),.aV ax (FC.aX 9 t),.aV ax (FC.aY 3 t)]):=by
 obtain⟨hr,hk,h8,_⟩:=hI.jd n og og;have Wy:=Db hr x;have hbh:=ye hr x;have X9:=nY (s.aN n) x;apply Spec.go 47 [2,3,8,9] [] Tryz.func234 rfl rfl rfl;intro W;refine sd (ld .aa (fp _ _) (XR.mono (fun _ bJ=>na (s:=s) (z:=n) og (pk [1]) bJ) ?_));refine ca (yG _ _ _ _) .h1 ?_;rintro _ _ ⟨rfl,rfl⟩;rw[Wy];apply gO;refine XR.mono (fun _ bJ=>ly (s:=s) s (z:=n) og rfl (cy _ rfl).symm (cy _ rfl).symm (cy _ rfl).symm (pz 2) bJ) (ld (.av .aa) (fp _ _) (XR.mono (fun _ bJ=>na (s:=s) (z:=n) og .h1 bJ) (mU (e:=9) (vs:= #[(0,.string x)]) (A:= #[.string x]) (sz:=1) rfl (fun _=>kq) rfl og rfl ?_)));intro b1;apply gO;refine ca (acE _ _ _ _ X9 _ _ og) (pk [1,0]) ?_;rintro _ _ ⟨p1,c1,rfl,rfl⟩;apply gO;refine XR.mono (fun _ bJ=>ly (s:=s) ({s with aN:=ae s.aN n ((s.aN n).insertIdx (eo (s.aN n) x) x),nP:=ae s.nP n p1,nC:=ae s.nC n c1} :FC) (z:=n) (l:=((s.aN n).insertIdx (eo (s.aN n) x) x)) og (by rw[List.length_insertIdx,if_pos X9]) rfl rfl rfl (pk [0,1]) bJ) (st (.t2 .aa) (sy _ _ og ((s.aN n).insertIdx (eo (s.aN n) x) x) _ _ _ (by rw[List.length_insertIdx,if_pos X9])) rfl (ld (.t2 .aa) (lR _ _) (XR.mono (fun _ bJ=>yq (s:=s) (z:=n) og (pk [3]) bJ) (mU (e:=3) (vs:= #[(0,iI k)]) (A:= #[iI k]) (sz:=1) rfl (fun _=>kq) rfl og rfl ?_))));intro b2;apply gO;refine ca (acF (s.kP n) (s.kC n) (s.kids n) (eo (s.aN n) x) og k _ og) (pk [1,0]) ?_;rintro _ _ ⟨p2,c2,rfl,rfl⟩;apply gO;refine XR.mono (fun _ bJ=>u5 (s:=s) (s.aeZ n x k p1 c1 p2 c2) (z:=n) (l:=((s.kids n).insertIdx (eo (s.aN n) x) k)) og (by rw[List.length_insertIdx,if_pos og]) rfl rfl rfl (pk [0,1]) bJ) (st (.t4 .aa) (tP _ _ og ((s.kids n).insertIdx (eo (s.aN n) x) k) _ _ _ (by rw[List.length_insertIdx,if_pos og])) rfl (cS rfl (ad (pk [4,2,0]) rfl ?_)));exact⟨rfl,s.aeZ n x k p1 c1 p2 c2,rfl,rfl,rfl,rfl⟩
def OL(b o:Nat)(s:FC)(hI:s.toFF.Sh)(n:Int)(x:ByteArray)(hn:0<=n/\n<40)(hh:oX (s.aN n) x=true):Spec Tryz.prog 236 [aC b o 0,iI n,.string x] [.cells b o 321 (aH s),.aV ax (s.aX 9),.aV ax (s.aY 3)] (fun v H1=>v= .tuple #[]/\∃ t:FC,t.toFF=s.ek n x/\t.rP=s.rP/\t.rC=s.rC/\H1=[.cells b o 321 (aH t),.aV ax (FC.aX 9 t),.aV ax (FC.aY 3 t)]):=by
 obtain⟨hr,hk,h8,_⟩:=hI.jd n og og;have Wy:=Db hr x;have hbh:=ye hr x;have X9:=nY (s.aN n) x;have sO:=(lP.1 hh).1;apply Spec.go 45 [2,6,7] [] Tryz.func236 rfl rfl rfl;intro W;refine sd (ld .aa (fp _ _) (XR.mono (fun _ bJ=>na (s:=s) (z:=n) og (pk [1]) bJ) ?_));refine ca (yG _ _ _ _) .h1 ?_;rintro _ _ ⟨rfl,rfl⟩;rw[Wy];apply gO;refine XR.mono (fun _ bJ=>ly (s:=s) s (z:=n) og rfl (cy _ rfl).symm (cy _ rfl).symm (cy _ rfl).symm (pz 2) bJ) (ld (.av .aa) (fp _ _) (XR.mono (fun _ bJ=>na (s:=s) (z:=n) og .h1 bJ) (sd ?_)));refine cq (acG _ _ _ _ sO og) .h1 ?_;refine XR.mono (fun _ bJ=>ly (s:=s) ({s with aN:=ae s.aN n ((s.aN n).eraseIdx (eo (s.aN n) x)),nP:=ae s.nP n (s.nP n),nC:=ae s.nC n (s.nC n)} :FC) (z:=n) (l:=((s.aN n).eraseIdx (eo (s.aN n) x))) og (by rw[List.length_eraseIdx,if_pos sO]) rfl rfl rfl (pz 2) bJ) (st (.av .aa) (sy _ _ og ((s.aN n).eraseIdx (eo (s.aN n) x)) _ _ _ (by rw[List.length_eraseIdx,if_pos sO])) rfl (ld (.av .aa) (lR _ _) (XR.mono (fun _ bJ=>yq (s:=s) (z:=n) og (pk [2]) bJ) (sd ?_))));refine cq (acH (s.kP n) (s.kC n) (s.kids n) (eo (s.aN n) x) og og) .h1 ?_;refine XR.mono (fun _ bJ=>u5 (s:=s) (s.ae0 n x) (z:=n) (l:=((s.kids n).eraseIdx (eo (s.aN n) x))) og (by rw[List.length_eraseIdx,if_pos og]) rfl rfl rfl (pz 2) bJ) (st (.t2 .aa) (tP _ _ og ((s.kids n).eraseIdx (eo (s.aN n) x)) _ _ _ (by rw[List.length_eraseIdx,if_pos og])) rfl (cS rfl (ad (pk [2,1,0]) rfl ?_)));exact⟨rfl,s.ae0 n x,rfl,rfl,rfl,rfl⟩
def vg(b o:Nat)(s:FC)(k t l u:Int):Spec Tryz.prog 175 [aC b o 0,.agg (yr k t l u)] [.cells b o 321 (aH s),.aV ax (s.aX 9),.aV ax (s.aY 3)] (fun v H1=>(s.free<0/\v= .tuple #[iI 0,az 102 4]/\H1=[.cells b o 321 (aH s),.aV ax (FC.aX 9 s),.aV ax (FC.aY 3 s)])\/(¬s.free<0/\v= .tuple #[iI s.free,az 102 0]/\H1=[.cells b o 321 (aH (s.wK s.free k t l u)),.aV ax (FC.aX 9 (s.wK s.free k t l u)),.aV ax (FC.aY 3 (s.wK s.free k t l u))])):=by
 apply Spec.go 27 [0,3,4,5,6,7,8,17] [] Tryz.func175 rfl rfl rfl;intro W;refine XO.box (m:=8) (C:=aH.cell (F5 k t l u)) rfl rfl (J8 k t l u) rfl ?_;intro bx;apply gO;refine lp (σ:=Int) (fun i=>(40-i).toNat) (fun i=>(0<=i/\i<=40)/\∀ j,0<=j->j<i->s.aU j≠0) (fun i=>[(7,iI i),(0,aC b o 0),(3,aC bx 0 0)]) (fun i=>XM W (bZ [.cells b o 321 (aH s),.aV ax (s.aX 9),.aV ax (s.aY 3)]) [.cells b o 321 (aH s),.aV ax (s.aX 9),.aV ax (s.aY 3),.cells bx 0 8 (aH.cell (F5 k t l u))]) (0) ?_ (S3 rfl rfl rfl) (fun _ hw=>XM.pick (pk [1,1,1,0]) hw) ?_
 ·grind
 intro i hi;obtain⟨hi,ho⟩:=hi;apply gC;refine cd rfl ?_ ?_<;>intro h1
 ·refine sd (ld .aa (fG _ _) ?_);refine cd rfl ?_ ?_<;>intro h2
  ·refine rq [0,1,2,3,4,5,6] mixed (lZ (.t3 .aa) (Uf k t l u) (sd (gD .aa (J7 s i k t l u) rfl ⟨rfl,rfl⟩ (XR.mono (fun _ bJ=>Og (s:=s) (s.wK i k t l u) og rfl rfl rfl (pk [1]) bJ) (XR.mono (fun _ bJ=>Oh (s:=s) (s.wK i k t l u) og rfl rfl rfl (pk [2]) bJ) (ao rfl rfl rfl (ad (pk [2,1,0]) rfl ?_)))))));try dsimp only[aL,aJ,aD,aR]
   have e:=FF.pJ hi.1 og ho aq;grind [az]
  ·refine sd (ag (i+1) ?_ ?_ (S3 rfl rfl rfl) fun _ hw=>XM.pick (pz 4) hw);all_goals grind
 ·refine ao rfl rfl rfl (ad (pz 3) rfl ?_);try dsimp only[aL,aJ,aD,aR]
  have e:=FF.zD (s:=s.toFF) fun j a b=>ho j a og;grind [az]
def MX(b o:Nat)(s:FC)(n:Int)(hn:0<=n/\n<40:=by omega):Spec Tryz.prog 195 [aC b o 0,iI n] [.cells b o 321 (aH s),.aV ax (s.aX 9),.aV ax (s.aY 3)] (fun v H1=>v= .tuple #[]/\∃ t:FC,t.toFF=s.qL n/\t.rP=s.rP/\t.rC=s.rC/\H1=[.cells b o 321 (aH t),.aV ax (FC.aX 9 t),.aV ax (FC.aY 3 t)]):=by
 apply Spec.go 28 [0,1,21] [] Tryz.func195 rfl rfl rfl;intro W;refine sd (ld .aa (kV _ _) ?_);refine sp 12 rfl ?_ ?_<;>intro h1
 ·refine sd (ld .aa (jX _ _) ?_);refine cd rfl ?_ ?_<;>intro h2
  ·refine XO.v (V.build (vs:= #[]) rfl (v:=.agg (yr 0 0 0 0)) fun _=>kq) rfl (gO ?_);refine sd (gD .aa (J7 s n 0 0 0 0) rfl ⟨rfl,rfl⟩ (XR.mono (fun _ bJ=>Og (s:=s) (s.wK n 0 0 0 0) og rfl rfl rfl (pk [1]) bJ) (XR.mono (fun _ bJ=>Oh (s:=s) (s.wK n 0 0 0 0) og rfl rfl rfl (pk [2]) bJ) (cS rfl (ad (pk [2,1,0]) rfl ?_)))));exact⟨rfl,s.wK n 0 0 0 0,by unfold FF.qL;rw[if_pos ⟨aq,aq⟩];rfl,rfl,rfl,rfl⟩
  ·refine cS rfl (ad (pz 3) rfl ?_);exact⟨rfl,s,by unfold FF.qL;rw[if_neg og],rfl,rfl,rfl⟩
 ·refine cS rfl (ad (pz 3) rfl ?_);exact⟨rfl,s,by unfold FF.qL;rw[if_neg og],rfl,rfl,rfl⟩
def acJ(b o:Nat)(s:FC)(n:Int):Spec Tryz.prog 239 [aC b o 0,iI n] [.cells b o 321 (aH s)] (fun v H1=>v= .tuple #[iI (if s.cx n 0=0 then s.dy n else 0),az 102 (s.cx n 0)]/\H1=[.cells b o 321 (aH s)]):=by
 apply Spec.go 20 [0,1,4,5,6,11] [] Tryz.func239 rfl rfl rfl;intro W;refine cq (Al _ _ _ _) .h1 ?_;refine cd rfl ?_ ?_<;>intro h1
 ·have i0:s.cx n 0≠0:=aq;refine ao rfl rfl rfl (ad .h1 rfl ?_);grind [aL,aJ,aR]
 ·obtain⟨i1,i2,i3,i4⟩:=FF.je (show s.cx n 0=0 by simpa using h1);have i0:s.cx n 0=0:=by simpa using h1
  refine sd (ld .aa (gy _ _) (ao rfl rfl rfl (ad .h1 rfl ?_)));grind [aL,aJ,aR,az]
def YN(b o:Nat)(s:FC)(d:Int->Nat)(n k:Int)(hn:0<=n/\n<40/\s.aU n=2)(hc:s.toFF.Ch d k):Spec Tryz.prog 238 [aC b o 0,iI n,iI k] [.cells b o 321 (aH s)] (fun v H1=>v= .bool (FF.J2 d s.toFF n k)/\H1=[.cells b o 321 (aH s)]):=by
 apply Spec.go 26 [0,1,2,6,9,18] [] Tryz.func238 rfl rfl rfl;intro W;refine lp (σ:=Int) (fun i=>d i) (fun i=>(0<=i/\i<40/\s.aU i=2)/\FF.J2 d s.toFF n k=FF.J2 d s.toFF i k) (fun i=>[(1,iI i),(0,aC b o 0),(2,iI k)]) (fun i=>XM W (bZ [.cells b o 321 (aH s)]) [.cells b o 321 (aH s)]) (n) ?_ (S3 rfl rfl rfl) (fun _ hw=>XM.pick .h1 hw) ?_
 ·simp_all
 intro i hi;obtain⟨hi,he⟩:=hi;apply gC;refine cd rfl ?_ ?_<;>intro h1
 ·refine sd (ld .aa (yh _ _) ?_);refine cd rfl ?_ ?_<;>intro h2
  ·refine ah rfl rfl (ad .h1 rfl ?_);try dsimp only[aL,aJ,aD,aR]
   have e:=FF.yi hc og og hi.2.2 (show i≠k by assumption);simp_all
  ·refine sd (ld .aa (yh _ _) (ag (s.up i) ?_ ?_ (S3 rfl rfl rfl) fun _ hw=>XM.pick .h1 hw))
   ·rcases hc i og og hi.2.2 aq with g | ⟨g1,g2,g3,g4⟩;all_goals omega
   ·have e:=FF.yi hc og og hi.2.2 (show i≠k by assumption);rw[if_neg aq]at e;rcases hc i og og hi.2.2 aq with g | ⟨g1,g2,g3,g4⟩;all_goals simp_all
 ·refine ah rfl rfl (ad .h1 rfl ?_);try dsimp only[aL,aJ,aD,aR]
  have e:i=k:=og;exact⟨by rw[he,e,FF.J5],rfl⟩
def Vf(b o:Nat)(s:FC)(hI:s.toFF.Sh)(t:Int):Spec Tryz.prog 176 [aC b o 0,iI t] [.cells b o 321 (aH s),db s.rP s.rC 3 s.roots] (fun v H1=>v= .tuple #[iI (s.fK t),az 102 (s.mi t)]/\H1=[.cells b o 321 (aH s),db s.rP s.rC 3 s.roots]):=by
 have hr4:=hI.roots.1;apply Spec.go 28 [0,1,4,5,11,19] [] Tryz.func176 rfl rfl rfl;intro W;refine sp 8 rfl ?_ ?_<;>intro h1
 ·refine ao rfl rfl rfl (ad (pz 2) rfl ?_);have e:s.mi t=1:=by unfold FF.mi;rw[if_pos og]
  exact⟨by rw[show s.fK t=0 from by unfold FF.fK;rw[if_neg og],e];rfl,rfl⟩
 ·refine cd rfl ?_ ?_<;>intro h2
  ·refine ao rfl rfl rfl (ad (pz 2) rfl ?_);have e:s.mi t=1:=by unfold FF.mi;rw[if_pos og]
   exact⟨by rw[show s.fK t=0 from by unfold FF.fK;rw[if_neg og],e];rfl,rfl⟩
  ·apply ld .aa (mE _);refine cd rfl ?_ ?_<;>intro h3
   ·refine ao rfl rfl rfl (ad (pz 2) rfl ?_);have e:s.mi t=2:=by unfold FF.mi;rw[if_neg og,if_pos og]
    exact⟨by rw[show s.fK t=0 from by unfold FF.fK;rw[if_neg og],e];rfl,rfl⟩
   ·refine ld .aa (mE _) (bH (.av .aa) og ?_);intro g hg;rw[hg];refine sd (q9 (.av .aa) (ints_at) (ao rfl rfl rfl (ad (pz 2) rfl ?_)));have e:s.mi t=0:=by unfold FF.mi;rw[if_neg og,if_neg og]
    exact⟨by rw[show s.fK t=dg s.roots t from by unfold FF.fK;rw[if_pos e],e];rfl,rfl⟩
def Ao:nq Tryz.prog 211=true:=kq
def r7(z:Int):∀ w,(Instr.buildSlice 55 1 #[(0,iI z)]).run Tryz.prog w= .ok (.slice (some ⟨w.heap.size,0,none⟩) 1 1) (w.alloc (.cells #[iI z] 3)):=fun w=>kq
def o8:rh Tryz.prog 3 1=true:=kq
def nh:fk Tryz.prog 211=some 4:=kq
def UM:Spec Tryz.prog 99 [] [] (fun v H1=>∃ b,v=aC b 0 0/\H1=[.cells b 0 321 (aH FC.dm),.aV ax (FC.aX 9 FC.dm),.aV ax (FC.aY 3 FC.dm),db (FC.rP FC.dm) (FC.rC FC.dm) 3 (FC.toFF FC.dm).roots]):=by
 apply Spec.go 3 [0] [] Tryz.func99 rfl rfl rfl;intro W;refine XO.v (V.build (vs:= #[]) rfl (v:=.agg J9) fun _=>kq) rfl (gO ?_);refine XO.box (m:=321) (C:=aH FC.dm) rfl Mm QB rfl ?_;intro p;apply XO.mono fun _ bJ=>HD bJ;apply gO;refine ah rfl rfl (ad (pk [3,0,0,0]) rfl ?_);exact⟨_,rfl,rfl⟩
def OM(b o:Nat)(s:FC)(hI:s.toFF.Sh):Spec Tryz.prog 101 [aC b o 0] [.cells b o 321 (aH s),.aV ax (s.aX 9),.aV ax (s.aY 3),db s.rP s.rC 3 s.roots] (fun v H1=>∃ t:FC,v= .tuple #[iI s.wI,az 102 s.p6]/\t.toFF=s.yg/\H1=[.cells b o 321 (aH t),.aV ax (FC.aX 9 t),.aV ax (FC.aY 3 t),db (FC.rP t) (FC.rC t) 3 (FC.toFF t).roots]):=by
 have hr4:=hI.roots.1;apply Spec.go 50 [0,2,3,4,5,11,25] [] Tryz.func101 rfl rfl rfl;intro W;apply ld .aa (mE _);refine cd rfl ?_ ?_<;>intro h1
 ·refine ao rfl rfl rfl (ad (pz 4) rfl ?_);try dsimp only[aL,aJ,aD,aR]
  have e:s.p6=4:=by unfold FF.p6;rw[if_pos og]
  exact⟨s,by rw[show s.wI=0 from by unfold FF.wI;rw[if_neg og],e];rfl,by unfold FF.yg;rw[if_neg og],rfl⟩
 ·apply ld .aa (mE _);refine XO.v (V.build (vs:= #[(0,iI 2),(1,iI (s.roots.length)),(2,iI 1)]) rfl (v:=.agg (yr 2 s.roots.length 1 0)) fun _=>kq) rfl (gO ?_);refine ca (vg _ _ _ _ _ _ _) (pz 3) ?_;rintro _ _ (⟨h2,rfl,rfl⟩ | ⟨h2,rfl,rfl⟩)
  ·try dsimp only[iz,Ac,Ad,Ae,Af,Ag,Ah,Ai,Aj,Ak,vc,vd,ve,vf]
   apply gO;refine ao rfl rfl rfl (ad (pz 4) rfl ?_);try dsimp only[aL,aJ,aD,aR]
   have e:s.p6=4:=by unfold FF.p6;rw[if_neg og,if_pos aq]
   exact⟨s,by rw[show s.wI=0 from by unfold FF.wI;rw[if_neg og],e]<;>rfl,by unfold FF.yg;rw[if_neg og],rfl⟩
  ·try dsimp only[iz,Ac,Ad,Ae,Af,Ag,Ah,Ai,Aj,Ak,vc,vd,ve,vf]
   have f:=FF.yj (show ¬s.free<0 by assumption);apply gO;refine sd ?_;apply st .aa (rW _ _ og _) rfl;apply ld .aa (mE _);apply XO.buildSlice (A:= #[iI _]) (vs:= #[(0,iI _)]) rfl (r7 _) rfl rfl;intro h3;apply gO;apply jM (e:=3) rfl rfl Tryz.underlying55 o8 (.t4 .aa) .aa (by show s.roots.length+1<=_;omega) rfl;intro p1 c1;apply gO;apply st (.t2 .aa) (ET _ (s.roots++[s.free]) _ _ _ rfl) rfl;apply ld (.t2 .aa) (mE _);refine sd ?_ (by simp only[List.length_append,List.length_singleton];omega);refine ao rfl rfl rfl (ad (pk [2,2,2,0]) rfl ?_);try dsimp only[aL,aJ,aD,aR]
   have e:s.p6=0:=by unfold FF.p6;rw[if_neg og,if_neg aq]
   refine⟨_,?_,?_,rfl⟩
   ·rw[show s.wI=s.roots.length from by unfold FF.wI;rw[if_pos e],e];grind [az]
   ·unfold FF.yg;rw[if_pos e,<-FF.Yb s.toFF s.free 2 _ 1 0 s.free];rfl
def MH(b o:Nat)(s:FC)(hI:s.toFF.Sh)(n:Int):Spec Tryz.prog 217 [aC b o 0,iI n] [.cells b o 321 (aH s)] (fun v H1=>v= .tuple #[.agg (s.Ww n).cO,az 102 (s.cx n 0)]/\H1=[.cells b o 321 (aH s)]):=by
 apply Spec.go 35 [0,1,4,5,6,7,12] [] Tryz.func217 rfl rfl rfl;intro W;apply XO.bN (z:=.agg NV.zero.cO) (m:=4) (C:=nQ NV.zero) kq rfl (oz _) rfl;intro bg;apply gO;refine cq (Al _ _ _ _) (pk [1]) ?_;refine cd rfl ?_ ?_<;>intro h1
 ·have i0:s.cx n 0≠0:=aq;refine XO.v (V.build (vs:= #[]) rfl (v:=.agg NV.zero.cO) fun _=>kq) rfl (gO ?_);apply gD (.av .aa) (lS _ _) rfl ⟨rfl,rfl⟩;refine dX rfl (.agg rfl (.av .aa) (qM _) Ao nh) (.tmp rfl) (ad .h1 rfl ?_);grind [aL,aJ,FF.Ww]
 ·obtain⟨i1,i2,i3⟩:=FF.vG (show s.cx n 0=0 by simpa using h1);have i0:s.cx n 0=0:=by simpa using h1
  refine sd ?_;apply lZ .aa (QC _ _ og);apply XO.bN (z:=.agg (yr 0 0 0 0)) (m:=8) (C:=aH.cell (F5 0 0 0 0)) kq rfl (J8 0 0 0 0) rfl;intro bx;apply gO;apply gD .aa (Ug _ _) rfl ⟨rfl,rfl⟩;apply ld .aa (Yd _);apply ld .aa (Ye _);apply ld .aa (Yf _);apply ld .aa (Yg _);apply ld .aa (Yh _);refine XO.v (V.build (vs:= #[(0,iI (s.aU n)),(1,iI (s.bG n)),(2,iI (s.bj n)),(3,iI (max ((s.data n).size:Int) ((s.kids n).length:Int)))]) rfl (v:=.agg (NV.mk (s.aU n) (s.bG n) (s.bj n) (max ((s.data n).size:Int) ((s.kids n).length:Int))).cO) fun _=>kq) rfl (gO ?_);apply gD (.t2 .aa) (lS _ _) rfl ⟨rfl,rfl⟩;refine dX rfl (.agg rfl (.t2 .aa) (qM _) Ao nh) (.tmp rfl) (ad (pk [1]) rfl ?_);grind [aL,aJ,aR,FF.Ww,az]
def acK(b o:Nat)(s:FC)(hI:s.toFF.Sh)(n:Int):Spec Tryz.prog 216 [aC b o 0,iI n] [.cells b o 321 (aH s),.aV ax (s.aX 9),.aV ax (s.aY 3)] (fun v H1=>(s.cx n 2≠0/\v= .tuple #[.slice none 0 0,az 102 (s.cx n 2)]/\H1=[.cells b o 321 (aH s),.aV ax (FC.aX 9 s),.aV ax (FC.aY 3 s)])\/(s.cx n 2=0/\∃ p c,v= .tuple #[.slice p (s.aN n).length c,az 102 0]/\H1=jN p c 9 (s.aN n)::[.cells b o 321 (aH s),.aV ax (FC.aX 9 s),.aV ax (FC.aY 3 s)])):=by
 apply Spec.go 21 [0,1,4,5,6,11] [] Tryz.func216 rfl rfl rfl;intro W;refine cq (OK _ _ _ _) .h1 ?_;refine cd rfl ?_ ?_<;>intro h1
 ·have i0:s.cx n 2≠0:=aq;refine ao rfl rfl rfl (ad (pz 3) rfl ?_);grind [aL,aJ,aR]
 ·obtain⟨i1,i2,i3,i4⟩:=FF.je (show s.cx n 2=0 by simpa using h1);have i0:s.cx n 2=0:=by simpa using h1
  obtain⟨hr,hk,h8,_⟩:=hI.jd n og og;refine sd (ld .aa (fp _ _) (XR.mono (fun _ bJ=>na (s:=s) (z:=n) og (pk [1]) bJ) ?_));refine ca (YM _ _ _ og) .h1 ?_;rintro _ _ ⟨p1,c1,rfl,rfl⟩;apply gO;refine XR.mono (fun _ bJ=>ly (s:=s) s (z:=n) og rfl (cy _ rfl).symm (cy _ rfl).symm (cy _ rfl).symm (pk [1,1]) bJ) (ao rfl rfl rfl (ad (pk [1,1,0,0]) rfl ?_));grind [aL,aJ,aR,az]
def Vg(b o:Nat)(s:FC)(hI:s.toFF.Sh)(n:Int)(x:ByteArray)(k:Int)(hx:x.size<=9223372036854775807):Spec Tryz.prog 207 [aC b o 0,iI n,.string x,iI k] [.cells b o 321 (aH s),.aV ax (s.aX 9),.aV ax (s.aY 3)] (fun v H1=>v= .tuple #[iI (s.oY n x k),az 102 (s.mj n x k)]/\∃ t:FC,t.toFF=s.make n x k/\t.rP=s.rP/\t.rC=s.rC/\H1=[.cells b o 321 (aH t),.aV ax (FC.aX 9 t),.aV ax (FC.aY 3 t)]):=by
 apply Spec.go 50 [0,1,2,3,8,9,10,11,17,24,42] [] Tryz.func207 rfl rfl rfl;intro W;refine sp 14 rfl ?_ ?_<;>intro h1
 ·refine cd rfl ?_ ?_<;>intro h2
  ·refine ao rfl rfl rfl (ad (pz 3) rfl ?_);have e:s.mj n x k=1:=by unfold FF.mj;rw[if_pos og]
   exact⟨by rw[show s.oY n x k=0 from by unfold FF.oY;rw[if_neg og],e];rfl,s,by unfold FF.make;rw[if_neg og],rfl,rfl,rfl⟩
  ·refine cq (DN _ _ _ hI _ _ aq) (pz 3) ?_;refine cd rfl ?_ ?_<;>intro h3
   ·have m0:s.eX n x≠0:=aq;refine ao rfl rfl rfl (ad (pz 3) rfl ?_);have e:s.mj n x k=s.eX n x:=by unfold FF.mj;rw[if_neg og,if_pos og]
    exact⟨by rw[show s.oY n x k=0 from by unfold FF.oY;rw[if_neg og],e]<;>rfl,s,by unfold FF.make;rw[if_neg og],rfl,rfl,rfl⟩
   ·obtain⟨m1,m2,m3,m4⟩:=FF.uZ (show s.eX n x=0 by simpa using h3);obtain⟨i1,i2,i3,i4⟩:=FF.je m1;have i5:=i4 og;have m0:s.eX n x=0:=by simpa using h3
    refine sd (ld .aa (gy _ _) (XO.v (V.build (vs:= #[(0,iI k),(1,iI (s.dy n)),(2,iI 1),(7,iI n)]) rfl (v:=.agg (yr k (s.dy n) 1 n)) fun _=>kq) rfl (gO ?_)));refine ca (vg _ _ _ _ _ _ _) (pz 3) ?_;rintro _ _ (⟨h4,rfl,rfl⟩ | ⟨h4,rfl,rfl⟩)
    ·try dsimp only[iz,Ac,Ad,Ae,Af,Ag,Ah,Ai,Aj,Ak,vc,vd,ve,vf]
     apply gO;refine ao rfl rfl rfl (ad (pz 3) rfl ?_);have e:s.mj n x k=4:=by unfold FF.mj;rw[if_neg og,if_neg og,if_pos aq]
     exact⟨by rw[show s.oY n x k=0 from by unfold FF.oY;rw[if_neg og],e]<;>rfl,s,by unfold FF.make;rw[if_neg og],rfl,rfl,rfl⟩
    ·try dsimp only[iz,Ac,Ad,Ae,Af,Ag,Ah,Ai,Aj,Ak,vc,vd,ve,vf]
     have f:=FF.yj (show ¬s.free<0 by assumption);have QV:(s.wK s.free k (s.dy n) 1 n).toFF.Sh:=hI.js _ _ _ _ _ og;apply gO;refine ca (DP _ _ _ QV _ _ _) (pz 3) ?_;rintro _ _ ⟨rfl,t,ht,hp,hc,rfl⟩;apply gO;refine ao rfl rfl rfl (ad (pz 3) rfl ?_);have e:s.mj n x k=0:=by unfold FF.mj;rw[if_neg og,if_neg og,if_neg aq]
     exact⟨by rw[show s.oY n x k=s.free from by unfold FF.oY;rw[if_pos e],e];rfl,t,by rw[ht];unfold FF.make;rw[if_pos e];rfl,hp,hc,rfl⟩
 ·refine cq (DN _ _ _ hI _ _ aq) (pz 3) ?_;refine cd rfl ?_ ?_<;>intro h5
  ·have m0:s.eX n x≠0:=aq;refine ao rfl rfl rfl (ad (pz 3) rfl ?_);have e:s.mj n x k=s.eX n x:=by unfold FF.mj;rw[if_neg og,if_pos og]
   exact⟨by rw[show s.oY n x k=0 from by unfold FF.oY;rw[if_neg og],e]<;>rfl,s,by unfold FF.make;rw[if_neg og],rfl,rfl,rfl⟩
  ·obtain⟨m1,m2,m3,m4⟩:=FF.uZ (show s.eX n x=0 by simpa using h5);obtain⟨i1,i2,i3,i4⟩:=FF.je m1;have i5:=i4 og;have m0:s.eX n x=0:=by simpa using h5
   refine sd (ld .aa (gy _ _) (XO.v (V.build (vs:= #[(0,iI k),(1,iI (s.dy n)),(2,iI 1),(7,iI n)]) rfl (v:=.agg (yr k (s.dy n) 1 n)) fun _=>kq) rfl (gO ?_)));refine ca (vg _ _ _ _ _ _ _) (pz 3) ?_;rintro _ _ (⟨h6,rfl,rfl⟩ | ⟨h6,rfl,rfl⟩)
   ·try dsimp only[iz,Ac,Ad,Ae,Af,Ag,Ah,Ai,Aj,Ak,vc,vd,ve,vf]
    apply gO;refine ao rfl rfl rfl (ad (pz 3) rfl ?_);have e:s.mj n x k=4:=by unfold FF.mj;rw[if_neg og,if_neg og,if_pos aq]
    exact⟨by rw[show s.oY n x k=0 from by unfold FF.oY;rw[if_neg og],e]<;>rfl,s,by unfold FF.make;rw[if_neg og],rfl,rfl,rfl⟩
   ·try dsimp only[iz,Ac,Ad,Ae,Af,Ag,Ah,Ai,Aj,Ak,vc,vd,ve,vf]
    have f:=FF.yj (show ¬s.free<0 by assumption);have QV:(s.wK s.free k (s.dy n) 1 n).toFF.Sh:=hI.js _ _ _ _ _ og;apply gO;refine ca (DP _ _ _ QV _ _ _) (pz 3) ?_;rintro _ _ ⟨rfl,t,ht,hp,hc,rfl⟩;apply gO;refine ao rfl rfl rfl (ad (pz 3) rfl ?_);have e:s.mj n x k=0:=by unfold FF.mj;rw[if_neg og,if_neg og,if_neg aq]
    exact⟨by rw[show s.oY n x k=s.free from by unfold FF.oY;rw[if_pos e],e];rfl,t,by rw[ht];unfold FF.make;rw[if_pos e];rfl,hp,hc,rfl⟩
def acL(b o:Nat)(s:FC)(hI:s.toFF.Sh)(k n:Int)(x:ByteArray)(hx:x.size<=9223372036854775807):Spec Tryz.prog 212 [aC b o 0,iI k,iI n,.string x] [.cells b o 321 (aH s),.aV ax (s.aX 9),.aV ax (s.aY 3)] (fun v H1=>v=az 102 (s.tN k n x)/\∃ t:FC,t.toFF=s.zU k n x/\t.rP=s.rP/\t.rC=s.rC/\H1=[.cells b o 321 (aH t),.aV ax (FC.aX 9 t),.aV ax (FC.aY 3 t)]):=by
 apply Spec.go 55 [0,1,2,3,8,9,14,20,36] [] Tryz.func212 rfl rfl rfl;intro W;refine cq (MW _ _ _ _) .h1 ?_;refine cd rfl ?_ ?_<;>intro h1
 ·obtain⟨j1,j2,j3,j4⟩:=FF.je (show s.cx k 1=0 by assumption);have j0:s.cx k 1=0:=aq;refine cq (DN _ _ _ hI _ _ aq) (pz 3) ?_;refine cd rfl ?_ ?_<;>intro h2
  ·refine ah rfl rfl (ad (pz 3) rfl ?_);try dsimp only[aL,aJ,aD,aR]
   have e:s.tN k n x=s.eX n x:=by unfold FF.tN;rw[if_neg og,if_pos og]
   exact⟨by rw[e],s,by unfold FF.zU;rw[if_neg og],rfl,rfl,rfl⟩
  ·skip;refine rq [0,1,2,3,4,5,6,7,8,9,10,11,12,13,14] mixed ?_;have m0:s.eX n x=0:=og;obtain⟨m1,m2,m3,m4⟩:=FF.uZ m0;obtain⟨i1,i2,i3,i4⟩:=FF.je m1;refine sd ?_;apply ld .aa (gy _ _);refine sd ?_;apply ld .aa (gy _ _);refine cd rfl ?_ ?_<;>intro h3
   ·refine ah rfl rfl (ad (pz 3) rfl ?_);try dsimp only[aL,aJ,aD,aR]
    have e:s.tN k n x=11:=by unfold FF.tN;rw[if_neg og,if_neg og,if_pos aq]
    exact⟨by rw[e]<;>rfl,s,by unfold FF.zU;rw[if_neg og],rfl,rfl,rfl⟩
   ·refine ca (DP _ _ _ hI _ _ _) (pz 3) ?_;rintro _ _ ⟨rfl,t,ht,hp,hc,rfl⟩;apply gO;refine rq [0,1,2,3,4,5,6,7,8,9,10,11,12] mixed ?_;have Z9:t.bG k=s.bG k:=congrFun (congrArg FF.bG ht) k;have hlb:=hI.num k og og;refine sd ?_;apply ld .aa (kV _ _);refine sd ?_;refine sd ?_;apply st .aa (nB _ _ og _) rfl;refine ah rfl rfl (ad (pz 3) rfl ?_);try dsimp only[aL,aJ,aD,aR]
    have e:s.tN k n x=0:=by unfold FF.tN;rw[if_neg og,if_neg og,if_neg og]
    exact⟨by rw[e]<;>rfl,({t with bG:=ae t.bG k (t.bG k+1)} :FC),by rw[Dj ht,Z9];unfold FF.zU;rw[if_pos e];rfl,hp,hc,rfl⟩
 ·have j0:s.cx k 1≠0:=aq;apply W1 rfl aq;refine ah rfl rfl (ad (pz 3) rfl ?_);try dsimp only[aL,aJ,aD,aR]
  have e:s.tN k n x=s.cx k 1:=by unfold FF.tN;rw[if_pos og]
  exact⟨by rw[e],s,by unfold FF.zU;rw[if_neg og],rfl,rfl,rfl⟩
def uk(b o:Nat)(s:FC)(hI:s.toFF.Sh)(n:Int):Spec Tryz.prog 123 [aC b o 0,iI n] [.cells b o 321 (aH s),.aV ax (s.aX 9),.aV ax (s.aY 3)] (fun v H1=>v=az 102 (s.cx n 0)/\∃ t:FC,t.toFF=s.dP n/\t.rP=s.rP/\t.rC=s.rC/\H1=[.cells b o 321 (aH t),.aV ax (FC.aX 9 t),.aV ax (FC.aY 3 t)]):=by
 apply Spec.go 24 [0,1,4,5,10] [] Tryz.func123 rfl rfl rfl;intro W;refine cq (Al _ _ _ _) .h1 ?_;refine cd rfl ?_ ?_<;>intro h1
 ·obtain⟨i1,i2,i3⟩:=FF.vG (show s.cx n 0=0 by simpa using h1);have i0:s.cx n 0=0:=by simpa using h1
  have hnb:=hI.num n og og;refine rq [0,1,2,3,4,5,6,7,8,9,10,11,12] mixed ?_;refine sd ?_;apply ld .aa (jX _ _);refine sd ?_;refine sd ?_;apply st .aa (tO _ _ og _) rfl;refine ah rfl rfl (ad (pz 3) rfl ?_);try dsimp only[aL,aJ,aD,aR]
  exact⟨rfl,({s with bj:=ae s.bj n (s.bj n+1)} :FC),by rw[Yc rfl];unfold FF.dP;rw[if_pos i0],rfl,rfl,rfl⟩
 ·have i0:s.cx n 0≠0:=aq;refine ah rfl rfl (ad (pz 3) rfl ?_);try dsimp only[aL,aJ,aD,aR]
  exact⟨rfl,s,by unfold FF.dP;rw[if_neg i0],rfl,rfl,rfl⟩
def Gh(b o:Nat)(s:FC)(hI:s.toFF.Sh)(n:Int):Spec Tryz.prog 144 [aC b o 0,iI n] [.cells b o 321 (aH s),.aV ax (s.aX 9),.aV ax (s.aY 3)] (fun v H1=>v=az 102 (s.Dd n)/\∃ t:FC,t.toFF=s.kz n/\t.rP=s.rP/\t.rC=s.rC/\H1=[.cells b o 321 (aH t),.aV ax (FC.aX 9 t),.aV ax (FC.aY 3 t)]):=by
 apply Spec.go 36 [0,1,4,5,10,19] [] Tryz.func144 rfl rfl rfl;intro W;refine cq (Al _ _ _ _) .h1 ?_;refine cd rfl ?_ ?_<;>intro h1
 ·have i0:s.cx n 0≠0:=aq;refine ah rfl rfl (ad (pz 3) rfl ?_);try dsimp only[aL,aJ,aD,aR]
  have e:s.Dd n=s.cx n 0:=by unfold FF.Dd;rw[if_pos og]
  exact⟨by rw[e],s,by unfold FF.kz;rw[if_neg og],rfl,rfl,rfl⟩
 ·obtain⟨i1,i2,i3⟩:=FF.vG (show s.cx n 0=0 by simpa using h1);have i0:s.cx n 0=0:=by simpa using h1
  have hnb:=hI.num n og og;refine sd ?_;apply ld .aa (jX _ _);refine cd rfl ?_ ?_<;>intro h2
  ·refine ah rfl rfl (ad (pz 3) rfl ?_);try dsimp only[aL,aJ,aD,aR]
   have e:s.Dd n=8:=by unfold FF.Dd;rw[if_neg og,if_pos og]
   exact⟨by rw[e]<;>rfl,s,by unfold FF.kz;rw[if_neg og],rfl,rfl,rfl⟩
  ·refine rq [0,1,2,3,4,5,6,7,8,9,10,11,12] mixed ?_;refine sd ?_;apply ld .aa (jX _ _);refine sd ?_;refine sd ?_;apply st .aa (tO _ _ og _) rfl;refine ca (MX _ _ ({s with bj:=ae s.bj n (s.bj n-1)} :FC) n) (pz 3) ?_;rintro _ _ ⟨rfl,t,ht,hp,hc,rfl⟩;apply gO;refine ah rfl rfl (ad (pz 3) rfl ?_);try dsimp only[aL,aJ,aD,aR]
   have e:s.Dd n=0:=by unfold FF.Dd;rw[if_neg og,if_neg og]
   exact⟨by rw[e]<;>rfl,t,by rw[ht];unfold FF.kz;rw[if_pos e],hp,hc,rfl⟩
def Vh(b o:Nat)(s:FC)(hI:s.toFF.Sh)(n:Int)(x:ByteArray):Spec Tryz.prog 210 [aC b o 0,iI n,.string x] [.cells b o 321 (aH s),.aV ax (s.aX 9),.aV ax (s.aY 3)] (fun v H1=>v=az 102 (s.cY n x)/\∃ t:FC,t.toFF=s.ed n x/\t.rP=s.rP/\t.rC=s.rC/\H1=[.cells b o 321 (aH t),.aV ax (FC.aX 9 t),.aV ax (FC.aY 3 t)]):=by
 apply Spec.go 60 [0,1,2,6,7,8,9,18,44] [] Tryz.func210 rfl rfl rfl;intro W;refine cq (uf _ _ _ hI _ _) (pz 3) ?_;refine cd rfl ?_ ?_<;>intro h1
 ·have f0:s.fC n x≠0:=aq;refine ah rfl rfl (ad (pz 3) rfl ?_);try dsimp only[aL,aJ,aD,aR]
  have e:s.cY n x=s.fC n x:=by unfold FF.cY;rw[if_pos og]
  exact⟨by rw[e],s,by unfold FF.ed;rw[if_neg og],rfl,rfl,rfl⟩
 ·obtain⟨i1,i2,i3,k1,k2,hh⟩:=hI.gF (show s.fC n x=0 by simpa using h1);have f0:s.fC n x=0:=by simpa using h1
  have hnb:=hI.num (s.bK n x) og og;have hkr:=hI.jd (s.bK n x) og og;refine sd ?_;apply ld .aa (fG _ _);refine sp 30 rfl ?_ ?_<;>intro h2
  ·apply ld .aa (lR _ _);refine sp 37 rfl ?_ ?_<;>intro h3
   ·refine ah rfl rfl (ad (pz 3) rfl ?_);try dsimp only[aL,aJ,aD,aR]
    have e:s.cY n x=5:=by unfold FF.cY;rw[if_neg og,if_pos (by unfold FF.Mi;exact⟨aq,og⟩)]
    exact⟨by rw[e]<;>rfl,s,by unfold FF.ed;rw[if_neg og],rfl,rfl,rfl⟩
   ·apply ld .aa (jX _ _);refine cd rfl ?_ ?_<;>intro h4
    ·refine ah rfl rfl (ad (pz 3) rfl ?_);try dsimp only[aL,aJ,aD,aR]
     have e:s.cY n x=5:=by unfold FF.cY;rw[if_neg og,if_pos (by unfold FF.Mi;exact⟨aq,og⟩)]
     exact⟨by rw[e]<;>rfl,s,by unfold FF.ed;rw[if_neg og],rfl,rfl,rfl⟩
    ·refine ca (OL _ _ _ hI _ _ og aq) (pz 3) ?_;rintro _ _ ⟨rfl,t,ht,hp,hc,rfl⟩;have Z9:t.bG (s.bK n x)=s.bG (s.bK n x):=congrFun (congrArg FF.bG ht) _;apply gO;apply ld .aa (kV _ _);refine sd ?_;apply st .aa (nB _ _ og _) rfl;refine ca (MX _ _ ({t with bG:=ae t.bG (s.bK n x) (t.bG (s.bK n x)-1)} :FC) (s.bK n x)) (pz 3) ?_;rintro _ _ ⟨rfl,t2,OB,Fp,A6,rfl⟩;apply gO;refine ah rfl rfl (ad (pz 3) rfl ?_);try dsimp only[aL,aJ,aD,aR]
     have e:s.cY n x=0:=by unfold FF.cY;rw[if_neg og,if_neg (by unfold FF.Mi;omega)]
     exact⟨by rw[e]<;>rfl,t2,by rw[OB,Dj ht,Z9];unfold FF.ed;rw[if_pos e];rfl,Fp.trans hp,A6.trans hc,rfl⟩
  ·refine ca (OL _ _ _ hI _ _ og aq) (pz 3) ?_;rintro _ _ ⟨rfl,t,ht,hp,hc,rfl⟩;have Z9:t.bG (s.bK n x)=s.bG (s.bK n x):=congrFun (congrArg FF.bG ht) _;apply gO;apply ld .aa (kV _ _);refine sd ?_;apply st .aa (nB _ _ og _) rfl;refine ca (MX _ _ ({t with bG:=ae t.bG (s.bK n x) (t.bG (s.bK n x)-1)} :FC) (s.bK n x)) (pz 3) ?_;rintro _ _ ⟨rfl,t2,OB,Fp,A6,rfl⟩;apply gO;refine ah rfl rfl (ad (pz 3) rfl ?_);try dsimp only[aL,aJ,aD,aR]
   have e:s.cY n x=0:=by unfold FF.cY;rw[if_neg og,if_neg (by unfold FF.Mi;omega)]
   exact⟨by rw[e]<;>rfl,t2,by rw[OB,Dj ht,Z9];unfold FF.ed;rw[if_pos e];rfl,Fp.trans hp,A6.trans hc,rfl⟩
def acM(b o:Nat)(s:FC)(hI:s.toFF.Sh)(n a m:Int):Spec Tryz.prog 140 [aC b o 0,iI n,iI a,iI m] [.cells b o 321 (aH s)] (fun v H1=>v= .tuple #[.string (s.ky n a m),az 102 (s.lQ n a m)]/\H1=[.cells b o 321 (aH s)]):=by
 apply Spec.go 47 [0,1,2,3,8,9,10,11,16,23] [] Tryz.func140 rfl rfl rfl;intro W;refine cq (MW _ _ _ _) .h1 ?_;refine cd rfl ?_ ?_<;>intro h1
 ·have i0:s.cx n 1≠0:=aq;refine ao rfl rfl rfl (ad .h1 rfl ?_);try dsimp only[aL,aJ,aD,aR]
  have e:s.lQ n a m=s.cx n 1:=by unfold FF.lQ;rw[if_pos og]
  exact⟨by rw[show s.ky n a m=ByteArray.empty from by unfold FF.ky;rw[if_neg og],e];rfl,rfl⟩
 ·obtain⟨i1,i2,i3,i4⟩:=FF.je (show s.cx n 1=0 by simpa using h1);have i0:s.cx n 1=0:=by simpa using h1
  have hd:=hI.data n og og;refine sp 20 rfl ?_ ?_<;>intro h2
  ·refine ao rfl rfl rfl (ad .h1 rfl ?_);try dsimp only[aL,aJ,aD,aR]
   have e:s.lQ n a m=1:=by unfold FF.lQ;rw[if_neg og,if_pos og]
   exact⟨by rw[show s.ky n a m=ByteArray.empty from by unfold FF.ky;rw[if_neg og],e];rfl,rfl⟩
  ·refine cd rfl ?_ ?_<;>intro h3
   ·refine ao rfl rfl rfl (ad .h1 rfl ?_);try dsimp only[aL,aJ,aD,aR]
    have e:s.lQ n a m=1:=by unfold FF.lQ;rw[if_neg og,if_pos og]
    exact⟨by rw[show s.ky n a m=ByteArray.empty from by unfold FF.ky;rw[if_neg og],e];rfl,rfl⟩
   ·refine sd ?_;apply ld .aa (oZ _ _);refine sd ?_;refine sd ?_;refine sd ?_;refine ao rfl rfl rfl (ad .h1 rfl ?_);try dsimp only[aL,aJ,aD,aR]
    have e:s.lQ n a m=0:=by unfold FF.lQ;rw[if_neg og,if_neg og]
    exact⟨by rw[show s.ky n a m=_ from by unfold FF.ky;rw[if_pos e],e];rfl,rfl⟩
def acN(b o:Nat)(s:FC)(hI:s.toFF.Sh)(d:Int->Nat)(hc:∀ k,s.toFF.Ch d k)(n:Int)(x:ByteArray)(to:Int)(y:ByteArray)(hy:y.size<=9223372036854775807):Spec Tryz.prog 211 [aC b o 0,iI n,.string x,iI to,.string y] [.cells b o 321 (aH s),.aV ax (s.aX 9),.aV ax (s.aY 3)] (fun v H1=>v=az 102 (s.fg d n x to y)/\∃ t:FC,t.toFF=s.move d n x to y/\t.rP=s.rP/\t.rC=s.rC/\H1=[.cells b o 321 (aH t),.aV ax (FC.aX 9 t),.aV ax (FC.aY 3 t)]):=by
 apply Spec.go 95 [0,1,2,3,4,10,11,12,21,26,42,57,68,87] [] Tryz.func211 rfl rfl rfl;intro W;refine cq (uf _ _ _ hI _ _) (pz 3) ?_;refine cd rfl ?_ ?_<;>intro h1
 ·obtain⟨i1,i2,i3,k1,k2,hh⟩:=hI.gF (show s.fC n x=0 by simpa using h1);have f0:s.fC n x=0:=by simpa using h1
  refine cq (OK _ _ _ _) .h1 ?_;refine cd rfl ?_ ?_<;>intro h2
  ·refine ah rfl rfl (ad (pz 3) rfl ?_);try dsimp only[aL,aJ,aD,aR]
   have e0:s.fN d n x to=s.cx to 2:=by unfold FF.fN;rw[if_neg og,if_pos og]
   have e:s.fg d n x to y=s.fN d n x to:=by unfold FF.fg;rw[if_pos og]
   exact⟨by rw[e,e0],s,by unfold FF.move;rw[if_pos og],rfl,rfl,rfl⟩
  ·obtain⟨t1,t2,_,t3⟩:=FF.je (show s.cx to 2=0 by simpa using h2);have t3:=t3 og;have t0:s.cx to 2=0:=by simpa using h2
   refine rq [0,1,2,3,4,5,6,7,8,9,10,11,12,13,14] mixed (sd (ld .aa (gy _ _) (sd (ld .aa (gy _ _) ?_))));refine cd rfl ?_ ?_<;>intro h3
   ·refine ah rfl rfl (ad (pz 3) rfl ?_);try dsimp only[aL,aJ,aD,aR]
    have e0:s.fN d n x to=11:=by unfold FF.fN;rw[if_neg og,if_neg og,if_pos aq]
    have e:s.fg d n x to y=s.fN d n x to:=by unfold FF.fg;rw[if_pos og]
    exact⟨by rw[e,e0];rfl,s,by unfold FF.move;rw[if_pos og],rfl,rfl,rfl⟩
   ·refine sd (ld .aa (fG _ _) ?_);refine sp 52 rfl ?_ ?_<;>intro h4
    ·refine cq (YN _ _ _ d _ _ ⟨og,og,t3⟩ (hc _)) .h1 ?_;refine we rfl ?_ ?_<;>intro h5
     ·try simp only[sb]at h5
      have hun:FF.J2 d s.toFF to (s.bK n x)=true:=by simpa using h5
      refine ah rfl rfl (ad (pz 3) rfl ?_);try dsimp only[aL,aJ,aD,aR]
      have e0:s.fN d n x to=5:=by unfold FF.fN;rw[if_neg og,if_neg og,if_neg og,if_pos ⟨aq,hun⟩]
      have e:s.fg d n x to y=s.fN d n x to:=by unfold FF.fg;rw[if_pos og]
      exact⟨by rw[e,e0];rfl,s,by unfold FF.move;rw[if_pos og],rfl,rfl,rfl⟩
     ·try simp only[sb]at h5
      have hun:FF.J2 d s.toFF to (s.bK n x)=false:=by simpa using h5
      refine ca (OL _ _ _ hI _ _ og aq) (pz 3) ?_;rintro _ _ ⟨rfl,t,ht,hp,BU,rfl⟩;have QV:t.toFF.Sh:=by rw[ht];exact hI.ek i1 i2 hh
      apply gO;refine cq (DN _ _ _ QV _ _ aq) (pz 3) ?_;refine cd rfl ?_ ?_<;>intro h6
      ·have hm:(s.ek n x).eX to y≠0:=by rw[<-ht];assumption
       refine ca (DP _ _ _ QV _ _ _) (pz 3) ?_;rintro _ _ ⟨rfl,t2,OB,Fp,A6,rfl⟩;apply gO;refine ah rfl rfl (ad (pz 3) rfl ?_);try dsimp only[aL,aJ,aD,aR]
       have e0:s.fN d n x to=0:=by unfold FF.fN;rw[if_neg og,if_neg og,if_neg og,if_neg fun q=>absurd q.2 (by rw[hun];simp)]
       have e:s.fg d n x to y=(s.ek n x).eX to y:=by unfold FF.fg;rw[if_neg og]
       exact⟨by rw[e,ht],t2,by rw[OB,ht];unfold FF.move;rw[if_neg og,if_pos og],Fp.trans hp,A6.trans BU,rfl⟩
      ·have hm:(s.ek n x).eX to y=0:=by rw[<-ht];simpa using h6
       refine ca (DP _ _ _ QV _ _ _) (pz 3) ?_;rintro _ _ ⟨rfl,t2,OB,Fp,A6,rfl⟩;have Ir:t2.aU (s.bK n x)=s.aU (s.bK n x):=(congrFun (congrArg FF.aU OB) _).trans (congrFun (congrArg FF.aU ht) _);apply gO;refine sd (ld .aa (fG _ _) ?_);refine cd rfl ?_ ?_<;>intro h7
       ·refine sd (st .aa (rW _ _ og _) rfl (ah rfl rfl (ad (pz 3) rfl ?_)));try dsimp only[aL,aJ,aD,aR]
        have e0:s.fN d n x to=0:=by unfold FF.fN;rw[if_neg og,if_neg og,if_neg og,if_neg fun q=>absurd q.2 (by rw[hun];simp)]
        have e:s.fg d n x to y=(s.ek n x).eX to y:=by unfold FF.fg;rw[if_neg og]
        exact⟨by rw[e,hm];rfl,({t2 with up:=ae t2.up (s.bK n x) to} :FC),by rw[ae1 OB,ht];unfold FF.move;rw[if_neg og,if_neg og,if_pos og];rfl,Fp.trans hp,A6.trans BU,rfl⟩
       ·refine ah rfl rfl (ad (pz 3) rfl ?_);omega
    ·refine ca (OL _ _ _ hI _ _ og aq) (pz 3) ?_;rintro _ _ ⟨rfl,t,ht,hp,BU,rfl⟩;have QV:t.toFF.Sh:=by rw[ht];exact hI.ek i1 i2 hh
     apply gO;refine cq (DN _ _ _ QV _ _ aq) (pz 3) ?_;refine cd rfl ?_ ?_<;>intro h8
     ·have hm:(s.ek n x).eX to y≠0:=by rw[<-ht];assumption
      refine ca (DP _ _ _ QV _ _ _) (pz 3) ?_;rintro _ _ ⟨rfl,t2,OB,Fp,A6,rfl⟩;apply gO;refine ah rfl rfl (ad (pz 3) rfl ?_);try dsimp only[aL,aJ,aD,aR]
      have e0:s.fN d n x to=0:=by unfold FF.fN;rw[if_neg og,if_neg og,if_neg og,if_neg fun q=>absurd q.1 aq]
      have e:s.fg d n x to y=(s.ek n x).eX to y:=by unfold FF.fg;rw[if_neg og]
      exact⟨by rw[e,ht],t2,by rw[OB,ht];unfold FF.move;rw[if_neg og,if_pos og],Fp.trans hp,A6.trans BU,rfl⟩
     ·have hm:(s.ek n x).eX to y=0:=by rw[<-ht];simpa using h8
      refine ca (DP _ _ _ QV _ _ _) (pz 3) ?_;rintro _ _ ⟨rfl,t2,OB,Fp,A6,rfl⟩;have Ir:t2.aU (s.bK n x)=s.aU (s.bK n x):=(congrFun (congrArg FF.aU OB) _).trans (congrFun (congrArg FF.aU ht) _);apply gO;refine sd (ld .aa (fG _ _) ?_);refine cd rfl ?_ ?_<;>intro h9
      ·refine sd (st .aa (rW _ _ og _) rfl (ah rfl rfl (ad (pz 3) rfl ?_)));omega
      ·refine ah rfl rfl (ad (pz 3) rfl ?_);try dsimp only[aL,aJ,aD,aR]
       have e0:s.fN d n x to=0:=by unfold FF.fN;rw[if_neg og,if_neg og,if_neg og,if_neg fun q=>absurd q.1 aq]
       have e:s.fg d n x to y=(s.ek n x).eX to y:=by unfold FF.fg;rw[if_neg og]
       exact⟨by rw[e,hm];rfl,t2,by rw[OB,ht];unfold FF.move;rw[if_neg og,if_neg og,if_neg og],Fp.trans hp,A6.trans BU,rfl⟩
 ·have f0:s.fC n x≠0:=aq;refine W1 rfl aq (ah rfl rfl (ad (pz 3) rfl ?_));try dsimp only[aL,aJ,aD,aR]
  have e0:s.fN d n x to=s.fC n x:=by unfold FF.fN;rw[if_pos og]
  have e:s.fg d n x to y=s.fN d n x to:=by unfold FF.fg;rw[if_pos og]
  exact⟨by rw[e,e0],s,by unfold FF.move;rw[if_pos og],rfl,rfl,rfl⟩
def DQ:Cl Tryz.prog 231=true:=kq
def YO(b o:Nat)(s:FC)(hI:s.toFF.Sh)(n a:Int)(x:ByteArray)(hx:x.size<=9223372036854775807):Spec Tryz.prog 137 [aC b o 0,iI n,iI a,.string x] [.cells b o 321 (aH s),.aV ax (s.aX 9),.aV ax (s.aY 3)] (fun v H1=>v=az 102 (s.eW n a x)/\∃ t:FC,t.toFF=s.cg n a x/\t.rP=s.rP/\t.rC=s.rC/\H1=[.cells b o 321 (aH t),.aV ax (FC.aX 9 t),.aV ax (FC.aY 3 t)]):=by
 apply Spec.go 68 [0,1,2,3,8,9,10,15,18,28,31] [] Tryz.func137 rfl rfl rfl;intro W;refine cq (MW _ _ _ _) .h1 ?_;refine cd rfl ?_ ?_<;>intro h1
 ·have i0:s.cx n 1≠0:=aq;refine ah rfl rfl (ad (pz 3) rfl ?_);try dsimp only[aL,aJ,aD,aR]
  have e:s.eW n a x=s.cx n 1:=by unfold FF.eW;rw[if_pos og]
  exact⟨by rw[e],s,by unfold FF.cg;rw[if_neg og],rfl,rfl,rfl⟩
 ·obtain⟨i1,i2,i3,i4⟩:=FF.je (show s.cx n 1=0 by simpa using h1);have i0:s.cx n 1=0:=by simpa using h1
  have hd:=hI.data n og og;refine cd rfl ?_ ?_<;>intro h2
  ·refine ah rfl rfl (ad (pz 3) rfl ?_);try dsimp only[aL,aJ,aD,aR]
   have e:s.eW n a x=1:=by unfold FF.eW;rw[if_neg og,if_pos og]
   exact⟨by rw[e]<;>rfl,s,by unfold FF.cg;rw[if_neg og],rfl,rfl,rfl⟩
  ·refine sp 22 rfl ?_ ?_<;>intro h3
   ·refine ah rfl rfl (ad (pz 3) rfl ?_);try dsimp only[aL,aJ,aD,aR]
    have e:s.eW n a x=4:=by unfold FF.eW;rw[if_neg og,if_neg og,if_pos og]
    exact⟨by rw[e]<;>rfl,s,by unfold FF.cg;rw[if_neg og],rfl,rfl,rfl⟩
   ·refine sd ?_;refine cd rfl ?_ ?_<;>intro h4
    ·refine ah rfl rfl (ad (pz 3) rfl ?_);try dsimp only[aL,aJ,aD,aR]
     have e:s.eW n a x=4:=by unfold FF.eW;rw[if_neg og,if_neg og,if_pos og]
     exact⟨by rw[e]<;>rfl,s,by unfold FF.cg;rw[if_neg og],rfl,rfl,rfl⟩
    ·refine cd rfl ?_ ?_<;>intro h5
     ·refine ah rfl rfl (ad (pz 3) rfl ?_);try dsimp only[aL,aJ,aD,aR]
      have e:s.eW n a x=0:=by unfold FF.eW;rw[if_neg og,if_neg og,if_neg og]
      exact⟨by rw[e]<;>rfl,s,by unfold FF.cg;rw[if_neg fun q=>q.2 aq],rfl,rfl,rfl⟩
     ·have sN:x.size≠0:=fun q=>(by assumption:¬x=⟨#[]⟩) (yf.2 q);have UN:x≠ByteArray.empty:=aq;refine sd ?_;apply ld .aa (oZ _ _);refine sd ?_;apply XO.Px rfl rfl og DQ rfl;intro bb;apply gO;refine sd ?_;apply ld (.av .aa) (oZ _ _);apply XO.NF rfl rfl DQ og og .aa rfl rfl;apply gO;refine XO.v (Py rfl rfl DQ og) rfl (gO ?_);apply XO.NF rfl rfl DQ og og .aa rfl rfl;apply gO;refine rq [0,1,2,3,4,5,6,7,8] mixed ?_;refine XO.l (Xc (B:=Wv (s.data n) a.toNat x) rfl (by rw[FF.ym];omega) (eD .aa) ⟨by rw[FF.ym];omega,fun i h=>Uh _ _ _ i h⟩ DQ Tryz.underlying9) rfl (gO ?_);refine sd ?_;apply st (.av .aa) (De _ _ og _) rfl;refine ah rfl rfl (ad (pk [1,1,1]) rfl ?_);try dsimp only[aL,aJ,aD,aR]
      have e:s.eW n a x=0:=by unfold FF.eW;rw[if_neg og,if_neg og,if_neg og]
      exact⟨by rw[e]<;>rfl,({s with data:=ae s.data n (Wv (s.data n) a.toNat x)} :FC),by unfold FF.cg;rw[if_pos ⟨e,UN⟩],rfl,rfl,rfl⟩
end Go.X.Tr
