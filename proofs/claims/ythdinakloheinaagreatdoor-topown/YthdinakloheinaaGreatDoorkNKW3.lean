import Derived.Test.YthdinakloheinaaGreatDoorkNW3
import Derived.Ground.NamesProg
import Derived.Shelf.Lays
set_option linter.all false
namespace Go.X.Tr
open Go Go.Proofs Go.X
set_option maxRecDepth 20000
set_option maxHeartbeats 4000000
def uT(b o:Nat)(s:FC)(hI:s.toFF.Sh)(n:Int):Spec Tryz.prog 123 [az b o 0,iI n] [.cells b o 321 (aC s),.aW au (s.bd 9),.aW au (s.bh 3)] (fun v H1=>v=ay 102 (s.cF n 0)/\∃ t:FC,t.toFF=s.dZ n/\t.rP=s.rP/\t.rC=s.rC/\H1=[.cells b o 321 (aC t),.aW au (FC.bd 9 t),.aW au (FC.bh 3 t)]):=by
 refine Spec.go 24 [0,1,4,5,10] [] Tryz.func123 fun W=> ?_;refine cq (AH _ _ _ _) .h1 ?_;refine cd ?_ ?_<;>intro h1
 ·obtain⟨i1,i2,i3⟩:=FF.yG (show s.cF n 0=0 by simpa using h1);have i0:s.cF n 0=0:=by simpa using h1
  have hnb:=hI.num n og og;refine rq [0,1,2,3,4,5,6,7,8,9,10,11,12] mixed ?_;refine sd ?_;apply ld .aa (kj _ _);refine sd ?_;refine sd ?_;apply st .aa (uq _ _ og _) rfl;refine bI (pz 3) ?_;exact⟨rfl,({s with bj:=ad s.bj n (s.bj n+1)} :FC),by rw[YR rfl];unfold FF.dZ;rw[if_pos i0],rfl,rfl,rfl⟩
 ·have i0:s.cF n 0≠0:=aq;refine bI (pz 3) ?_;exact⟨rfl,s,by unfold FF.dZ;rw[if_neg i0],rfl,rfl,rfl⟩
def GJ(b o:Nat)(s:FC)(hI:s.toFF.Sh)(n:Int):Spec Tryz.prog 144 [az b o 0,iI n] [.cells b o 321 (aC s),.aW au (s.bd 9),.aW au (s.bh 3)] (fun v H1=>v=ay 102 (s.Ds n)/\∃ t:FC,t.toFF=s.kO n/\t.rP=s.rP/\t.rC=s.rC/\H1=[.cells b o 321 (aC t),.aW au (FC.bd 9 t),.aW au (FC.bh 3 t)]):=by
 refine Spec.go 36 [0,1,4,5,10,19] [] Tryz.func144 fun W=> ?_;refine cq (AH _ _ _ _) .h1 ?_;refine cd ?_ ?_<;>intro h1
 ·have i0:s.cF n 0≠0:=aq;refine bI (pz 3) ?_;try dsimp only[aU,aS,bG,bN]
  have e:s.Ds n=s.cF n 0:=by unfold FF.Ds;rw[if_pos og]
  exact⟨by rw[e],s,by unfold FF.kO;rw[if_neg og],rfl,rfl,rfl⟩
 ·obtain⟨i1,i2,i3⟩:=FF.yG (show s.cF n 0=0 by simpa using h1);have i0:s.cF n 0=0:=by simpa using h1
  have hnb:=hI.num n og og;refine sd ?_;apply ld .aa (kj _ _);refine cd ?_ ?_<;>intro h2
  ·refine bI (pz 3) ?_;have e:s.Ds n=8:=by unfold FF.Ds;rw[if_neg og,if_pos og]
   exact⟨by rw[e]<;>rfl,s,by unfold FF.kO;rw[if_neg og],rfl,rfl,rfl⟩
  ·refine rq [0,1,2,3,4,5,6,7,8,9,10,11,12] mixed ?_;refine sd ?_;apply ld .aa (kj _ _);refine sd ?_;refine sd ?_;apply st .aa (uq _ _ og _) rfl;refine ca (NC _ _ ({s with bj:=ad s.bj n (s.bj n-1)} :FC) n) (pz 3) ?_;rintro _ _ ⟨rfl,t,ht,hp,hc,rfl⟩;apply gO;refine bI (pz 3) ?_;have e:s.Ds n=0:=by unfold FF.Ds;rw[if_neg og,if_neg og]
   exact⟨by rw[e]<;>rfl,t,by rw[ht];unfold FF.kO;rw[if_pos e],hp,hc,rfl⟩
def Wq(b o:Nat)(s:FC)(hI:s.toFF.Sh)(n:Int)(x:ByteArray):Spec Tryz.prog 210 [az b o 0,iI n,.string x] [.cells b o 321 (aC s),.aW au (s.bd 9),.aW au (s.bh 3)] (fun v H1=>v=ay 102 (s.dp n x)/\∃ t:FC,t.toFF=s.dG n x/\t.rP=s.rP/\t.rC=s.rC/\H1=[.cells b o 321 (aC t),.aW au (FC.bd 9 t),.aW au (FC.bh 3 t)]):=by
 refine Spec.go 60 [0,1,2,6,7,8,9,18,44] [] Tryz.func210 fun W=> ?_;refine cq (xw _ _ _ hI _ _) (pz 3) ?_;refine cd ?_ ?_<;>intro h1
 ·have f0:s.fK n x≠0:=aq;refine bI (pz 3) ?_;try dsimp only[aU,aS,bG,bN]
  have e:s.dp n x=s.fK n x:=by unfold FF.dp;rw[if_pos og]
  exact⟨by rw[e],s,by unfold FF.dG;rw[if_neg og],rfl,rfl,rfl⟩
 ·obtain⟨i1,i2,i3,k1,k2,hh⟩:=hI.ie (show s.fK n x=0 by simpa using h1);have f0:s.fK n x=0:=by simpa using h1
  have hnb:=hI.num (s.bM n x) og og;have hkr:=hI.js (s.bM n x) og og;refine sd ?_;apply ld .aa (fQ _ _);refine sp 30 rfl ?_ ?_<;>intro h2
  ·apply ld .aa (mf _ _);refine sp 37 rfl ?_ ?_<;>intro h3
   ·refine bI (pz 3) ?_;have e:s.dp n x=5:=by unfold FF.dp;rw[if_neg og,if_pos (by unfold FF.MH;exact⟨aq,og⟩)]
    exact⟨by rw[e]<;>rfl,s,by unfold FF.dG;rw[if_neg og],rfl,rfl,rfl⟩
   ·apply ld .aa (kj _ _);refine cd ?_ ?_<;>intro h4
    ·refine bI (pz 3) ?_;have e:s.dp n x=5:=by unfold FF.dp;rw[if_neg og,if_pos (by unfold FF.MH;exact⟨aq,og⟩)]
     exact⟨by rw[e]<;>rfl,s,by unfold FF.dG;rw[if_neg og],rfl,rfl,rfl⟩
    ·refine ca (Pw _ _ _ hI _ _ og aq) (pz 3) ?_;rintro _ _ ⟨rfl,t,ht,hp,hc,rfl⟩;have hln:t.bK (s.bM n x)=s.bK (s.bM n x):=congrFun (congrArg FF.bK ht) _;apply gO;apply ld .aa (lr _ _);refine sd ?_;apply st .aa (nR _ _ og _) rfl;refine ca (NC _ _ ({t with bK:=ad t.bK (s.bM n x) (t.bK (s.bM n x)-1)} :FC) (s.bM n x)) (pz 3) ?_;rintro _ _ ⟨rfl,t2,Pn,Lw,Bv,rfl⟩;apply gO;refine bI (pz 3) ?_;have e:s.dp n x=0:=by unfold FF.dp;rw[if_neg og,if_neg (by unfold FF.MH;omega)]
     exact⟨by rw[e]<;>rfl,t2,by rw[Pn,Dy ht,hln];unfold FF.dG;rw[if_pos e];rfl,Lw.trans hp,Bv.trans hc,rfl⟩
  ·refine ca (Pw _ _ _ hI _ _ og aq) (pz 3) ?_;rintro _ _ ⟨rfl,t,ht,hp,hc,rfl⟩;have hln:t.bK (s.bM n x)=s.bK (s.bM n x):=congrFun (congrArg FF.bK ht) _;apply gO;apply ld .aa (lr _ _);refine sd ?_;apply st .aa (nR _ _ og _) rfl;refine ca (NC _ _ ({t with bK:=ad t.bK (s.bM n x) (t.bK (s.bM n x)-1)} :FC) (s.bM n x)) (pz 3) ?_;rintro _ _ ⟨rfl,t2,Pn,Lw,Bv,rfl⟩;apply gO;refine bI (pz 3) ?_;have e:s.dp n x=0:=by unfold FF.dp;rw[if_neg og,if_neg (by unfold FF.MH;omega)]
   exact⟨by rw[e]<;>rfl,t2,by rw[Pn,Dy ht,hln];unfold FF.dG;rw[if_pos e];rfl,Lw.trans hp,Bv.trans hc,rfl⟩
def adA(b o:Nat)(s:FC)(hI:s.toFF.Sh)(n a m:Int):Spec Tryz.prog 140 [az b o 0,iI n,iI a,iI m] [.cells b o 321 (aC s)] (fun v H1=>v= .tuple #[.string (s.kJ n a m),ay 102 (s.me n a m)]/\H1=[.cells b o 321 (aC s)]):=by
 refine Spec.go 47 [0,1,2,3,8,9,10,11,16,23] [] Tryz.func140 fun W=> ?_;refine cq (NB _ _ _ _) .h1 ?_;refine cd ?_ ?_<;>intro h1
 ·have i0:s.cF n 1≠0:=aq;refine eH .h1 ?_;have e:s.me n a m=s.cF n 1:=by unfold FF.me;rw[if_pos og]
  exact⟨by rw[show s.kJ n a m=ByteArray.empty from by unfold FF.kJ;rw[if_neg og],e];rfl,rfl⟩
 ·obtain⟨i1,i2,i3,i4⟩:=FF.jt (show s.cF n 1=0 by simpa using h1);have i0:s.cF n 1=0:=by simpa using h1
  have hd:=hI.data n og og;refine sp 20 rfl ?_ ?_<;>intro h2
  ·refine eH .h1 ?_;have e:s.me n a m=1:=by unfold FF.me;rw[if_neg og,if_pos og]
   exact⟨by rw[show s.kJ n a m=ByteArray.empty from by unfold FF.kJ;rw[if_neg og],e];rfl,rfl⟩
  ·refine cd ?_ ?_<;>intro h3
   ·refine eH .h1 ?_;have e:s.me n a m=1:=by unfold FF.me;rw[if_neg og,if_pos og]
    exact⟨by rw[show s.kJ n a m=ByteArray.empty from by unfold FF.kJ;rw[if_neg og],e];rfl,rfl⟩
   ·refine sd ?_;apply ld .aa (po _ _);refine sd ?_;refine sd ?_;refine sd ?_;refine eH .h1 ?_;have e:s.me n a m=0:=by unfold FF.me;rw[if_neg og,if_neg og]
    exact⟨by rw[show s.kJ n a m=_ from by unfold FF.kJ;rw[if_pos e],e];rfl,rfl⟩
def adB(b o:Nat)(s:FC)(hI:s.toFF.Sh)(d:Int->Nat)(hc:∀ k,s.toFF.Ch d k)(n:Int)(x:ByteArray)(to:Int)(y:ByteArray)(hy:y.size<=9223372036854775807):Spec Tryz.prog 211 [az b o 0,iI n,.string x,iI to,.string y] [.cells b o 321 (aC s),.aW au (s.bd 9),.aW au (s.bh 3)] (fun v H1=>v=ay 102 (s.eK d n x to y)/\∃ t:FC,t.toFF=s.move d n x to y/\t.rP=s.rP/\t.rC=s.rC/\H1=[.cells b o 321 (aC t),.aW au (FC.bd 9 t),.aW au (FC.bh 3 t)]):=by
 refine Spec.go 95 [0,1,2,3,4,10,11,12,21,26,42,57,68,87] [] Tryz.func211 fun W=> ?_;refine cq (xw _ _ _ hI _ _) (pz 3) ?_;refine cd ?_ ?_<;>intro h1
 ·obtain⟨i1,i2,i3,k1,k2,hh⟩:=hI.ie (show s.fK n x=0 by simpa using h1);have f0:s.fK n x=0:=by simpa using h1
  refine cq (Pv _ _ _ _) .h1 ?_;refine cd ?_ ?_<;>intro h2
  ·refine bI (pz 3) ?_;try dsimp only[aU,aS,bG,bN]
   have e0:s.fX d n x to=s.cF to 2:=by unfold FF.fX;rw[if_neg og,if_pos og]
   have e:s.eK d n x to y=s.fX d n x to:=by unfold FF.eK;rw[if_pos og]
   exact⟨by rw[e,e0],s,by unfold FF.move;rw[if_pos og],rfl,rfl,rfl⟩
  ·obtain⟨t1,t2,_,t3⟩:=FF.jt (show s.cF to 2=0 by simpa using h2);have t3:=t3 og;have t0:s.cF to 2=0:=by simpa using h2
   refine rq [0,1,2,3,4,5,6,7,8,9,10,11,12,13,14] mixed (sd (ld .aa (gN _ _) (sd (ld .aa (gN _ _) ?_))));refine cd ?_ ?_<;>intro h3
   ·refine bI (pz 3) ?_;have e0:s.fX d n x to=11:=by unfold FF.fX;rw[if_neg og,if_neg og,if_pos aq]
    have e:s.eK d n x to y=s.fX d n x to:=by unfold FF.eK;rw[if_pos og]
    exact⟨by rw[e,e0];rfl,s,by unfold FF.move;rw[if_pos og],rfl,rfl,rfl⟩
   ·refine sd (ld .aa (fQ _ _) ?_);refine sp 52 rfl ?_ ?_<;>intro h4
    ·refine cq (Zy _ _ _ d _ _ ⟨og,og,t3⟩ (hc _)) .h1 ?_;refine wM ?_ ?_<;>intro h5
     ·try simp only[sb]at h5
      have Xp:FF.J9 d s.toFF to (s.bM n x)=true:=by simpa using h5
      refine bI (pz 3) ?_;have e0:s.fX d n x to=5:=by unfold FF.fX;rw[if_neg og,if_neg og,if_neg og,if_pos ⟨aq,Xp⟩]
      have e:s.eK d n x to y=s.fX d n x to:=by unfold FF.eK;rw[if_pos og]
      exact⟨by rw[e,e0];rfl,s,by unfold FF.move;rw[if_pos og],rfl,rfl,rfl⟩
     ·try simp only[sb]at h5
      have Xp:FF.J9 d s.toFF to (s.bM n x)=false:=by simpa using h5
      refine ca (Pw _ _ _ hI _ _ og aq) (pz 3) ?_;rintro _ _ ⟨rfl,t,ht,hp,E8,rfl⟩;have RN:t.toFF.Sh:=by rw[ht];exact hI.ew i1 i2 hh
      apply gO;refine cq (Ek _ _ _ RN _ _ aq) (pz 3) ?_;refine cd ?_ ?_<;>intro h6
      ·have hm:(s.ew n x).fe to y≠0:=by rw[<-ht];assumption
       refine ca (El _ _ _ RN _ _ _) (pz 3) ?_;rintro _ _ ⟨rfl,t2,Pn,Lw,Bv,rfl⟩;apply gO;refine bI (pz 3) ?_;try dsimp only[aU,aS,bG,bN]
       have e0:s.fX d n x to=0:=by unfold FF.fX;rw[if_neg og,if_neg og,if_neg og,if_neg fun q=>absurd q.2 (by rw[Xp];simp)]
       have e:s.eK d n x to y=(s.ew n x).fe to y:=by unfold FF.eK;rw[if_neg og]
       exact⟨by rw[e,ht],t2,by rw[Pn,ht];unfold FF.move;rw[if_neg og,if_pos og],Lw.trans hp,Bv.trans E8,rfl⟩
      ·have hm:(s.ew n x).fe to y=0:=by rw[<-ht];simpa using h6
       refine ca (El _ _ _ RN _ _ _) (pz 3) ?_;rintro _ _ ⟨rfl,t2,Pn,Lw,Bv,rfl⟩;have IA:t2.aN (s.bM n x)=s.aN (s.bM n x):=(congrFun (congrArg FF.aN Pn) _).trans (congrFun (congrArg FF.aN ht) _);apply gO;refine sd (ld .aa (fQ _ _) ?_);refine cd ?_ ?_<;>intro h7
       ·refine sd (st .aa (ss _ _ og _) rfl (aO rfl rfl (ah (pz 3) rfl ?_)));have e0:s.fX d n x to=0:=by unfold FF.fX;rw[if_neg og,if_neg og,if_neg og,if_neg fun q=>absurd q.2 (by rw[Xp];simp)]
        have e:s.eK d n x to y=(s.ew n x).fe to y:=by unfold FF.eK;rw[if_neg og]
        exact⟨by rw[e,hm];rfl,({t2 with up:=ad t2.up (s.bM n x) to} :FC),by rw[afM Pn,ht];unfold FF.move;rw[if_neg og,if_neg og,if_pos og];rfl,Lw.trans hp,Bv.trans E8,rfl⟩
       ·refine bI (pz 3) ?_;omega
    ·refine ca (Pw _ _ _ hI _ _ og aq) (pz 3) ?_;rintro _ _ ⟨rfl,t,ht,hp,E8,rfl⟩;have RN:t.toFF.Sh:=by rw[ht];exact hI.ew i1 i2 hh
     apply gO;refine cq (Ek _ _ _ RN _ _ aq) (pz 3) ?_;refine cd ?_ ?_<;>intro h8
     ·have hm:(s.ew n x).fe to y≠0:=by rw[<-ht];assumption
      refine ca (El _ _ _ RN _ _ _) (pz 3) ?_;rintro _ _ ⟨rfl,t2,Pn,Lw,Bv,rfl⟩;apply gO;refine bI (pz 3) ?_;try dsimp only[aU,aS,bG,bN]
      have e0:s.fX d n x to=0:=by unfold FF.fX;rw[if_neg og,if_neg og,if_neg og,if_neg fun q=>absurd q.1 aq]
      have e:s.eK d n x to y=(s.ew n x).fe to y:=by unfold FF.eK;rw[if_neg og]
      exact⟨by rw[e,ht],t2,by rw[Pn,ht];unfold FF.move;rw[if_neg og,if_pos og],Lw.trans hp,Bv.trans E8,rfl⟩
     ·have hm:(s.ew n x).fe to y=0:=by rw[<-ht];simpa using h8
      refine ca (El _ _ _ RN _ _ _) (pz 3) ?_;rintro _ _ ⟨rfl,t2,Pn,Lw,Bv,rfl⟩;have IA:t2.aN (s.bM n x)=s.aN (s.bM n x):=(congrFun (congrArg FF.aN Pn) _).trans (congrFun (congrArg FF.aN ht) _);apply gO;refine sd (ld .aa (fQ _ _) ?_);refine cd ?_ ?_<;>intro h9
      ·refine sd (st .aa (ss _ _ og _) rfl (aO rfl rfl (ah (pz 3) rfl ?_)));omega
      ·refine bI (pz 3) ?_;have e0:s.fX d n x to=0:=by unfold FF.fX;rw[if_neg og,if_neg og,if_neg og,if_neg fun q=>absurd q.1 aq]
       have e:s.eK d n x to y=(s.ew n x).fe to y:=by unfold FF.eK;rw[if_neg og]
       exact⟨by rw[e,hm];rfl,t2,by rw[Pn,ht];unfold FF.move;rw[if_neg og,if_neg og,if_neg og],Lw.trans hp,Bv.trans E8,rfl⟩
 ·have f0:s.fK n x≠0:=aq;refine XT rfl aq (aO rfl rfl (ah (pz 3) rfl ?_));try dsimp only[aU,aS,bG,bN]
  have e0:s.fX d n x to=s.fK n x:=by unfold FF.fX;rw[if_pos og]
  have e:s.eK d n x to y=s.fX d n x to:=by unfold FF.eK;rw[if_pos og]
  exact⟨by rw[e,e0],s,by unfold FF.move;rw[if_pos og],rfl,rfl,rfl⟩
def Em:CE Tryz.prog 231=true:=kq
def Zz(b o:Nat)(s:FC)(hI:s.toFF.Sh)(n a:Int)(x:ByteArray)(hx:x.size<=9223372036854775807):Spec Tryz.prog 137 [az b o 0,iI n,iI a,.string x] [.cells b o 321 (aC s),.aW au (s.bd 9),.aW au (s.bh 3)] (fun v H1=>v=ay 102 (s.fc n a x)/\∃ t:FC,t.toFF=s.cb n a x/\t.rP=s.rP/\t.rC=s.rC/\H1=[.cells b o 321 (aC t),.aW au (FC.bd 9 t),.aW au (FC.bh 3 t)]):=by
 refine Spec.go 68 [0,1,2,3,8,9,10,15,18,28,31] [] Tryz.func137 fun W=> ?_;refine cq (NB _ _ _ _) .h1 ?_;refine cd ?_ ?_<;>intro h1
 ·have i0:s.cF n 1≠0:=aq;refine bI (pz 3) ?_;try dsimp only[aU,aS,bG,bN]
  have e:s.fc n a x=s.cF n 1:=by unfold FF.fc;rw[if_pos og]
  exact⟨by rw[e],s,by unfold FF.cb;rw[if_neg og],rfl,rfl,rfl⟩
 ·obtain⟨i1,i2,i3,i4⟩:=FF.jt (show s.cF n 1=0 by simpa using h1);have i0:s.cF n 1=0:=by simpa using h1
  have hd:=hI.data n og og;refine cd ?_ ?_<;>intro h2
  ·refine bI (pz 3) ?_;have e:s.fc n a x=1:=by unfold FF.fc;rw[if_neg og,if_pos og]
   exact⟨by rw[e]<;>rfl,s,by unfold FF.cb;rw[if_neg og],rfl,rfl,rfl⟩
  ·refine sp 22 rfl ?_ ?_<;>intro h3
   ·refine bI (pz 3) ?_;have e:s.fc n a x=4:=by unfold FF.fc;rw[if_neg og,if_neg og,if_pos og]
    exact⟨by rw[e]<;>rfl,s,by unfold FF.cb;rw[if_neg og],rfl,rfl,rfl⟩
   ·refine sd ?_;refine cd ?_ ?_<;>intro h4
    ·refine bI (pz 3) ?_;have e:s.fc n a x=4:=by unfold FF.fc;rw[if_neg og,if_neg og,if_pos og]
     exact⟨by rw[e]<;>rfl,s,by unfold FF.cb;rw[if_neg og],rfl,rfl,rfl⟩
    ·refine cd ?_ ?_<;>intro h5
     ·refine bI (pz 3) ?_;have e:s.fc n a x=0:=by unfold FF.fc;rw[if_neg og,if_neg og,if_neg og]
      exact⟨by rw[e]<;>rfl,s,by unfold FF.cb;rw[if_neg fun q=>q.2 aq],rfl,rfl,rfl⟩
     ·have rB:x.size≠0:=fun q=>(by assumption:¬x=⟨#[]⟩) (yE.2 q);have VY:x≠ByteArray.empty:=aq;refine sd ?_;apply ld .aa (po _ _);refine sd ?_;apply XO.Qd rfl rfl og Em rfl;intro bb;apply gO;refine sd ?_;apply ld (.ao .aa) (po _ _);apply XO.N9 rfl rfl Em og og .aa rfl rfl;apply gO;refine XO.v (Qe rfl rfl Em og) rfl (gO ?_);apply XO.N9 rfl rfl Em og og .aa rfl rfl;apply gO;refine rq [0,1,2,3,4,5,6,7,8] mixed ?_;refine XO.l (XZ (B:=Xh (s.data n) a.toNat x) rfl (by rw[FF.yL];omega) (fb .aa) ⟨by rw[FF.yL];omega,fun i h=>U7 _ _ _ i h⟩ Em Tryz.underlying9) rfl (gO ?_);refine sd ?_;apply st (.ao .aa) (Dt _ _ og _) rfl;refine aO rfl rfl (ah (pk [1,1,1]) rfl ?_);have e:s.fc n a x=0:=by unfold FF.fc;rw[if_neg og,if_neg og,if_neg og]
      exact⟨by rw[e]<;>rfl,({s with data:=ad s.data n (Xh (s.data n) a.toNat x)} :FC),by unfold FF.cb;rw[if_pos ⟨e,VY⟩],rfl,rfl,rfl⟩
def ZA(b o:Nat)(K:Int)(hK:K<=1000000)(s:PS)(hI:s.Inv K)(n:Int):Spec Tryz.prog 193 [az b o 0,iI n] [.cells b o 24 (bO s)] (fun v H1=>((s.is n=0/\0<=n/\n<8)/\v= .tuple #[az b o (0+0+n.toNat*3),.nilIface]/\H1=[.cells b o 24 (bO s)])\/(s.is n≠0/\v= .tuple #[.pointer none,.iface 102 (iI (s.is n))]/\H1=[.cells b o 24 (bO s)])):=by
 have b0:=hI.e0 n;have b1:=hI.e1 n;have bl:=hI.len n;refine Spec.go 35 [0,1,4,5,11,28] [] Tryz.func193 fun W=> ?_;refine sp 8 rfl ?_ ?_<;>intro h1
 ·refine eH .h1 ?_;grind [aU,aS,bN,PS.is]
 ·refine cd ?_ ?_<;>intro h2
  ·refine eH .h1 ?_;grind [aU,aS,bN,PS.is]
  ·refine rq [0,1,2,3,4,5,6,7,8,9,10,11,12,13,14,15] mixed ?_;refine sd ?_;apply ld .aa (eB _ _);refine sd ?_;apply ld .aa (ea _ _);refine sd ?_;refine cd ?_ ?_<;>intro h3
   ·refine eH .h1 ?_;grind [aU,aS,bN,PS.is]
   ·refine sd ?_;refine eH .h1 ?_;grind [aU,aS,bN,PS.is]
def En(b o i:Nat):Spec Tryz.prog 196 [az b o i,.bool true] [] (fun v H1=>v=az b o (i+2)/\H1=[]):=by
 refine Spec.go 12 [0,1,4,5] [] Tryz.func196 fun W=> ?_;refine bI .nil ?_;grind [aU,aS]
def Bw(b o i:Nat):Spec Tryz.prog 196 [az b o i,.bool false] [] (fun v H1=>v=az b o (i+1)/\H1=[]):=by
 refine Spec.go 12 [0,1,4,5] [] Tryz.func196 fun W=> ?_;refine bI .nil ?_;grind [aU,aS]
def adC(b o:Nat)(K:Int)(hK:K<=1000000)(s:PS)(hI:s.Inv K):Spec Tryz.prog 135 [az b o 0] [.cells b o 24 (bO s)] (fun v H1=>v= .tuple #[iI s.make.1,ay 102 s.make.2.1]/\H1=[.cells b o 24 (bO s.make.2.2)]):=by
 refine Spec.go 33 [0,2,3,4,5,6,23] [] Tryz.func135 fun W=> ?_;refine lp (σ:=Int) (fun k=>(8-k).toNat) (fun k=>(0<=k/\k<=8)/\∀ j:Int,0<=j->j<k->s.e j 0+s.e j 1≠0) (fun k=>[(5,iI k),(0,az b o 0)]) (fun k=>XM W (cm [.cells b o 24 (bO s)]) [.cells b o 24 (bO s)]) (0) ?_ S2 (xq .h1) ?_
 ·grind
 intro k hk;obtain⟨hk,hn⟩:=hk;have b0:=hI.e0 k;have b1:=hI.e1 k;apply gC;refine cd ?_ ?_<;>intro h1
 ·refine rq [0,1,2,3,4,5,6,7,8,9,10,11,12,13,14,15] mixed ?_;refine sd ?_;apply ld .aa (eB _ _);refine sd ?_;apply ld .aa (ea _ _);refine sd ?_;refine cd ?_ ?_<;>intro h2
  ·refine XO.v (V.build (vs:= #[(1,iI 1),(2,iI 1)]) rfl (v:=.agg #[.string ⟨#[]⟩,iI 1,iI 1]) fun _=>kq) rfl (gO ?_);refine sd ?_;apply gn .aa (QY hI og aq) rfl ⟨rfl,rfl⟩;refine eH .h1 ?_;grind [aU,aS,bN,PS.QX,ay]
  ·refine sd ?_;refine ag (k+1) ?_ ?_ S2 (xq .h1);all_goals grind
 ·refine eH .h1 ?_;grind [aU,aS,bN,Hz,ay]
def K9(b o:Nat)(K:Int)(hK:K<=1000000)(s:PS)(hI:s.Inv K)(n:Int):Spec Tryz.prog 145 [az b o 0,iI n,.bool true] [.cells b o 24 (bO s)] (fun v H1=>v=ay 102 (s.mL n true (-1)).1/\H1=[.cells b o 24 (bO (s.mL n true (-1)).2)]):=by
 have b0:=hI.e0 n;have b1:=hI.e1 n;have bl:=hI.len n;have Qf:(s.e n (Iz true)=0)=(s.e n 1=0):=by simp[Iz]
 refine Spec.go 45 [0,1,2,6,7,8,16,23,41] [] Tryz.func145 fun W=> ?_;refine ca (ZA _ _ K hK s hI _) .h1 ?_;rintro _ _ (⟨h1,rfl,rfl⟩ | ⟨h1,rfl,rfl⟩)
 ·obtain⟨h1,h2,h3⟩:=h1;apply gO;refine cq (En _ _ _) .nil ?_;apply ld .aa (ea _ _);refine cd ?_ ?_<;>intro h4
  ·refine bI .h1 ?_;grind [aU,aS,bN,aK,jH]
  ·refine cq (En _ _ _) .nil ?_;apply ld .aa (ea _ _);refine sd ?_;apply st .aa (lC _ _ og _) rfl;refine rq [0,1,2,3,4,5,6,7,8,9] mixed ?_;have c0:({s with e:=cI s.e n 1 (s.e n 1-1)} :PS).e n 0=s.e n 0+0:=by simp[cI]
   have c0f:cI s.e n 1 (s.e n 1-1) n 0=s.e n 0+0:=by simp[cI]
   have c1:({s with e:=cI s.e n 1 (s.e n 1-1)} :PS).e n 1=s.e n 1+ -1:=by simp[cI];omega
   have c1f:cI s.e n 1 (s.e n 1-1) n 1=s.e n 1+ -1:=by simp[cI];omega
   apply ld .aa (eB _ _);apply ld .aa (ea _ _);refine sd ?_;refine cd ?_ ?_<;>intro h5
   ·refine XO.v (V.build (vs:= #[]) rfl (v:=.agg #[.string ⟨#[]⟩,iI 0,iI 0]) fun _=>kq) rfl (gO ?_);apply gn .aa (F8 _) rfl ⟨rfl,rfl⟩;refine bI .h1 ?_;first
    | (rw[lL aq];exact⟨(aK _ aq).symm,rfl⟩)
    | (rw[jH aq aq];exact⟨rfl,rfl⟩)
    | (rw[PS.B5 aq aq];exact⟨rfl,rfl⟩)
    | (rw[PS.vv aq aq];refine⟨rfl,?_⟩;exact congrArg (fun e=>[aF.cells b o 24 (bO {b:=ad s.b n ⟨#[]⟩,e:=e})]) (B6))
   ·refine bI .h1 ?_;first
    | (rw[lL aq];exact⟨(aK _ aq).symm,rfl⟩)
    | (rw[jH aq aq];exact⟨rfl,rfl⟩)
    | (rw[PS.B5 aq aq];exact⟨rfl,rfl⟩)
    | (rw[PS.vv aq aq];refine⟨rfl,?_⟩;exact congrArg (fun e=>[aF.cells b o 24 (bO {b:=ad s.b n ⟨#[]⟩,e:=e})]) (B6))
 ·apply gO;refine bI .h1 ?_;grind [aU,aS,lL,aK]
def Ib(b o:Nat)(K:Int)(hK:K<=1000000)(s:PS)(hI:s.Inv K)(n:Int):Spec Tryz.prog 145 [az b o 0,iI n,.bool false] [.cells b o 24 (bO s)] (fun v H1=>v=ay 102 (s.mL n false (-1)).1/\H1=[.cells b o 24 (bO (s.mL n false (-1)).2)]):=by
 have b0:=hI.e0 n;have b1:=hI.e1 n;have bl:=hI.len n;have Qf:(s.e n (Iz false)=0)=(s.e n 0=0):=by simp[Iz]
 refine Spec.go 45 [0,1,2,6,7,8,16,23,41] [] Tryz.func145 fun W=> ?_;refine ca (ZA _ _ K hK s hI _) .h1 ?_;rintro _ _ (⟨h1,rfl,rfl⟩ | ⟨h1,rfl,rfl⟩)
 ·obtain⟨h1,h2,h3⟩:=h1;apply gO;refine cq (Bw _ _ _) .nil ?_;apply ld .aa (eB _ _);refine cd ?_ ?_<;>intro h4
  ·refine bI .h1 ?_;grind [aU,aS,bN,aK,jH]
  ·refine cq (Bw _ _ _) .nil ?_;apply ld .aa (eB _ _);refine sd ?_;apply st .aa (l9 _ _ og _) rfl;refine rq [0,1,2,3,4,5,6,7,8,9] mixed ?_;have c0:({s with e:=cI s.e n 0 (s.e n 0-1)} :PS).e n 0=s.e n 0+ -1:=by simp[cI];omega
   have c0f:cI s.e n 0 (s.e n 0-1) n 0=s.e n 0+ -1:=by simp[cI];omega
   have c1:({s with e:=cI s.e n 0 (s.e n 0-1)} :PS).e n 1=s.e n 1+0:=by simp[cI]
   have c1f:cI s.e n 0 (s.e n 0-1) n 1=s.e n 1+0:=by simp[cI]
   apply ld .aa (eB _ _);apply ld .aa (ea _ _);refine sd ?_;refine cd ?_ ?_<;>intro h5
   ·refine XO.v (V.build (vs:= #[]) rfl (v:=.agg #[.string ⟨#[]⟩,iI 0,iI 0]) fun _=>kq) rfl (gO ?_);apply gn .aa (F8 _) rfl ⟨rfl,rfl⟩;refine bI .h1 ?_;first
    | (rw[lL aq];exact⟨(aK _ aq).symm,rfl⟩)
    | (rw[jH aq aq];exact⟨rfl,rfl⟩)
    | (rw[PS.B5 aq aq];exact⟨rfl,rfl⟩)
    | (rw[PS.vv aq aq];refine⟨rfl,?_⟩;exact congrArg (fun e=>[aF.cells b o 24 (bO {b:=ad s.b n ⟨#[]⟩,e:=e})]) (B6))
   ·refine bI .h1 ?_;first
    | (rw[lL aq];exact⟨(aK _ aq).symm,rfl⟩)
    | (rw[jH aq aq];exact⟨rfl,rfl⟩)
    | (rw[PS.B5 aq aq];exact⟨rfl,rfl⟩)
    | (rw[PS.vv aq aq];refine⟨rfl,?_⟩;exact congrArg (fun e=>[aF.cells b o 24 (bO {b:=ad s.b n ⟨#[]⟩,e:=e})]) (B6))
 ·apply gO;refine bI .h1 ?_;grind [aU,aS,lL,aK]
def adD(b o:Nat)(K:Int)(hK:K<=1000000)(s:PS)(hI:s.Inv K)(n m:Int):Spec Tryz.prog 139 [az b o 0,iI n,iI m] [.cells b o 24 (bO s)] (fun v H1=>v= .tuple #[.string (s.mU n m).1,ay 102 (s.mU n m).2.1]/\H1=[.cells b o 24 (bO (s.mU n m).2.2)]):=by
 have b0:=hI.e0 n;have b1:=hI.e1 n;have bl:=hI.len n;refine Spec.go 70 [0,1,2,6,7,8,9,10,11,19,25,28,45] [] Tryz.func139 fun W=> ?_;refine ca (ZA _ _ K hK s hI _) .h1 ?_;rintro _ _ (⟨h1,rfl,rfl⟩ | ⟨h1,rfl,rfl⟩)
 ·obtain⟨h1,h2,h3⟩:=h1;apply gO;apply ld .aa (eB _ _);refine cd ?_ ?_<;>intro h4
  ·refine eH .h1 ?_;grind [aU,aS,bN,aK,EY]
  ·refine cd ?_ ?_<;>intro h5
   ·refine eH .h1 ?_;grind [aU,aS,bN,aK,EZ]
   ·apply ld .aa (dN _ _);refine sp 35 rfl ?_ ?_<;>intro h6
    ·apply ld .aa (ea _ _);refine sp 42 rfl ?_ ?_<;>intro h7
     ·refine cd ?_ ?_<;>intro h8
      ·refine eH .h1 ?_;grind [aU,aS,bN,aK,E0]
      ·apply ld .aa (dN _ _);apply ld .aa (dN _ _);refine sd ?_;apply ld .aa (dN _ _);refine sd ?_;apply st .aa (iJ _ _ og _) rfl;refine eH .h1 ?_;grind [aU,aS,bN,ay,PS.Hw]
     ·apply ld .aa (dN _ _);apply ld .aa (dN _ _);refine sd ?_;apply ld .aa (dN _ _);refine sd ?_;apply st .aa (iJ _ _ og _) rfl;refine eH .h1 ?_;grind [aU,aS,bN,ay,PS.Hw]
    ·apply ld .aa (dN _ _);apply ld .aa (dN _ _);refine sd ?_;apply ld .aa (dN _ _);refine sd ?_;apply st .aa (iJ _ _ og _) rfl;refine eH .h1 ?_;grind [aU,aS,bN,ay,PS.Hw]
 ·apply gO;refine eH .h1 ?_;grind [aU,aS,bN,J6,aK]
def ZB(b o:Nat)(K:Int)(hK:K<=1000000)(s:PS)(hI:s.Inv K)(n:Int)(t:ByteArray)(ht:t.size<=1000000):Spec Tryz.prog 136 [az b o 0,iI n,.string t] [.cells b o 24 (bO s)] (fun v H1=>v= .tuple #[iI (s.cb n t).1,ay 102 (s.cb n t).2.1]/\H1=[.cells b o 24 (bO (s.cb n t).2.2)]):=by
 have b0:=hI.e0 n;have b1:=hI.e1 n;have bl:=hI.len n;have he:=PW t;refine Spec.go 59 [0,1,2,6,7,8,9,10,18,24,30,46] [] Tryz.func136 fun W=> ?_;refine ca (ZA _ _ K hK s hI _) .h1 ?_;rintro _ _ (⟨h1,rfl,rfl⟩ | ⟨h1,rfl,rfl⟩)
 ·obtain⟨h1,h2,h3⟩:=h1;apply gO;apply ld .aa (ea _ _);refine cd ?_ ?_<;>intro h4
  ·refine eH .h1 ?_;grind [aU,aS,bN,aK,Dm]
  ·apply ld .aa (eB _ _);refine cd ?_ ?_<;>intro h5
   ·refine eH .h1 ?_;grind [aU,aS,bN,aK,BK]
   ·apply ld .aa (dN _ _);refine sd ?_;refine sp 43 rfl ?_ ?_<;>intro h6
    ·refine cd ?_ ?_<;>intro h7
     ·refine eH .h1 ?_;grind [aU,aS,bN,aK,Dn]
     ·refine rq [0,1,2,3,4,5,6,7,8,9,10] mixed ?_;apply ld .aa (dN _ _);refine sd ?_;refine sd ?_ (by simp only[ByteArray.size_extract];omega);apply st .aa (iJ _ _ og _) rfl;refine eH .h1 ?_;try dsimp only[aU,aS,bG,bN]
      grind [ay,PS.J7]
    ·refine rq [0,1,2,3,4,5,6,7,8,9,10] mixed ?_;apply ld .aa (dN _ _);refine sd ?_;refine sd ?_ (by simp only[ByteArray.size_extract];omega);apply st .aa (iJ _ _ og _) rfl;refine eH .h1 ?_;try dsimp only[aU,aS,bG,bN]
     grind [ay,PS.J7]
 ·apply gO;refine eH .h1 ?_;grind [aU,aS,bN,Hy,aK]
def adE(b o:Nat)(K:Int)(hK:K<=1000000)(s:PS)(hI:s.Inv K)(n:Int)(w:Bool):Spec Tryz.prog 145 [az b o 0,iI n,.bool w] [.cells b o 24 (bO s)] (fun v H1=>v=ay 102 (s.mL n w (-1)).1/\H1=[.cells b o 24 (bO (s.mL n w (-1)).2)]):=by
 cases w
 ·exact Ib b o K hK s hI n
 ·exact K9 b o K hK s hI n
def Wr(bo oo bf bp:Nat)(O:OS)(n:Int):Spec Tryz.prog 125 [az bo oo 0,iI n] [.cells bo oo 122 (bu bf bp O)] (fun v H1=>((O.is n=0/\0<=n/\n<24)/\v= .tuple #[az bo oo (0+2+n.toNat*5),.nilIface]/\H1=[.cells bo oo 122 (bu bf bp O)])\/(O.is n≠0/\v= .tuple #[.pointer none,.iface 102 (iI (O.is n))]/\H1=[.cells bo oo 122 (bu bf bp O)])):=by
 refine Spec.go 27 [0,1,4,5,11,20] [] Tryz.func125 fun W=> ?_;refine sp 8 rfl ?_ ?_<;>intro h1
 ·refine eH .h1 ?_;grind [aU,aS,bN,OS.jB]
 ·refine cd ?_ ?_<;>intro h2
  ·refine eH .h1 ?_;grind [aU,aS,bN,OS.jB]
  ·refine sd (ld .aa (ku _ _) ?_);refine cd ?_ ?_<;>intro h3
   ·refine eH .h1 ?_;grind [aU,aS,bN,OS.jB]
   ·refine sd (bA rfl rfl rfl (ah .h1 rfl ?_));grind [aU,aS,bN,OS.jB]
def ND(bo oo bf bp:Nat)(O:OS)(m:Int):Spec Tryz.prog 134 [az bo oo 0,iI m] [.cells bo oo 122 (bu bf bp O)] (fun v H1=>(((O.fx m 24).length:Int)<m/\v= .slice none 0 0/\H1=[.cells bo oo 122 (bu bf bp O)])\/(¬((O.fx m 24).length:Int)<m/\∃ p c,v= .slice p (O.fx m 24).length c/\H1=[dh p c 3 (O.fx m 24),.cells bo oo 122 (bu bf bp O)])):=by
 refine Spec.go 34 [0,1,4,5,6,7,8,23,32] [] Tryz.func134 fun W=> ?_;apply XR.fF 3 1;refine lp (σ:=Int×Option Addr×Nat) (fun x=>(24-x.1).toNat) (fun x=>0<=x.1/\x.1<=24) (fun x=>[(5,.slice x.2.1 (O.fx m x.1.toNat).length x.2.2),(7,iI x.1),(0,az bo oo 0),(1,iI m)]) (fun x=>XM W (cm [.cells bo oo 122 (bu bf bp O)]) [dh x.2.1 x.2.2 3 (O.fx m x.1.toNat),.cells bo oo 122 (bu bf bp O)]) ((0,none,0)) ?_ S4 (xq (pz 2)) ?_
 ·omega
 intro x hx;obtain⟨rB,Iu⟩:=hx;have qw:=O.MU m rB;have hln:=O.Ge m x.1.toNat;apply gC;refine cd ?_ ?_<;>intro h1
 ·refine sd (ld (.ao .aa) (ku _ _) ?_);refine sp 18 rfl ?_ ?_<;>intro h2
  ·refine cd ?_ ?_<;>intro h3
   ·have e1:O.fx m (x.1+1).toNat=O.fx m x.1.toNat++[x.1]:=by rw[qw,if_pos ⟨aq,aq⟩]
    apply XO.buildSlice (A:= #[iI _]) (vs:= #[(0,iI _)]) rfl (uP _) rfl rfl;intro h4;apply gO;apply lv (e:=3) rfl rfl Tryz.underlying55 qp (.ao .aa) .aa og rfl;intro pa ca;apply gO;refine sd (ag ((x.1+1,pa,ca)) ?_ ?_ (S4 (by rw[e1];try rfl) rfl rfl rfl) fun _ hw=>by rw[e1];exact XM.pick (pk [0,1]) hw);all_goals omega
   ·have e1:O.fx m (x.1+1).toNat=O.fx m x.1.toNat:=by rw[qw,if_neg fun q=>absurd q.2 aq]
    refine sd (ag ((x.1+1,x.2.1,x.2.2)) ?_ ?_ (S4 (by rw[e1];try rfl) rfl rfl rfl) fun _ hw=>by rw[e1];exact XM.pick (pz 2) hw);all_goals omega
  ·have e1:O.fx m (x.1+1).toNat=O.fx m x.1.toNat:=by rw[qw,if_neg fun q=>absurd q.1 aq]
   refine sd (ag ((x.1+1,x.2.1,x.2.2)) ?_ ?_ (S4 (by rw[e1];try rfl) rfl rfl rfl) fun _ hw=>by rw[e1];exact XM.pick (pz 2) hw);all_goals omega
 ·have e24:x.1=24:=og;rw[e24];refine cd ?_ ?_<;>intro h7
  ·refine bI (pk [1]) ?_;grind [aU,aS,bN]
  ·refine bI (pz 2) ?_;grind [aU,aS]
def adF(bo oo bf bp:Nat)(O:OS)(s:FC)(hI:s.toFF.Sh)(n:Int)(w:Bool):Spec Tryz.prog 208 [az bo oo 0,iI n,.bool w] [.cells bo oo 122 (bu bf bp O),.cells bf 0 321 (aC s),.aW au (FC.bd 9 s),.aW au (FC.bh 3 s)] (fun v H1=>v= .tuple #[iI (uw s.toFF O n),ay 102 (nS s.toFF O n)]/\∃ t:FC,t.toFF=su s.toFF O n/\t.rP=s.rP/\t.rC=s.rC/\H1=[.cells bo oo 122 (bu bf bp (qg s.toFF O n w)),.cells bf 0 321 (aC t),.aW au (FC.bd 9 t),.aW au (FC.bh 3 t)]):=by
 refine Spec.go 51 [0,1,2,6,7,8,9,10,21,25,30] [] Tryz.func208 fun W=> ?_;apply ld .aa (ry _);refine cq (No _ _ _ hI _) (pk [1]) ?_;apply XO.bQ (z:=.agg NV.zero.cR) (m:=4) (C:=nZ NV.zero) (oH _);intro bx;apply gO;apply gn .aa (mh _ _) rfl ⟨rfl,rfl⟩;refine cd ?_ ?_<;>intro h1
 ·have j0:s.cF n 0≠0:=aq;have jn:=FF.Mn s.toFF n 0;have hn1:s.cF n 1=s.cF n 0:=(FF.U2 j0).symm;refine bA rfl rfl rfl (ah (pk [2,1,1,1]) rfl ?_);grind [aU,aS,bN,nS,uw,su,qg]
 ·have j0:s.cF n 0=0:=by simpa using h1
  obtain⟨j1,j2,j3⟩:=FF.yG j0;obtain⟨Rh,_,_⟩:=FF.U8 j0;apply ld .aa (xd _);refine cd ?_ ?_<;>intro h2
  ·have hn1:s.cF n 1=11:=by rw[Rh]at h2;unfold FF.cF;rw[if_neg og,if_neg og,if_pos og]
   refine bA rfl rfl rfl (ah (pk [2,1,1,1]) rfl ?_);grind [aU,aS,bN,nS,uw,su,qg,ay]
  ·have hn1:s.cF n 1=0:=by rw[Rh]at h2;unfold FF.cF;rw[if_neg og,if_neg og,if_neg og]
   refine ca (ND _ _ _ _ _ _) (pk [2]) ?_;rintro _ _ (⟨f0,rfl,rfl⟩ | ⟨f0,p1,c1,rfl,rfl⟩)
   ·apply gO;refine XO.v (lx rfl Tryz.underlying55 rfl) rfl (gO ?_);refine XT rfl (rfl) (bA rfl rfl rfl (ah (pk [0,1,1,1]) rfl ?_));try dsimp only[aU,aS,bG,bN]
    have hf:=OS.B8 f0;grind [nS,uw,su,qg,ay]
   ·obtain⟨hf1,Sq⟩:=OS.U9 f0;have ZC:=OS.nD hf1;rw[Sq];apply gO;apply bR .aa (by show 0<1;omega);intro g hg;subst hg;refine XO.v (lx rfl Tryz.underlying55 rfl) rfl (gO ?_);refine LU rfl sq (ld (.ao .aa) (ry _) ?_);refine ca (uT _ _ _ hI _) (pk [3,3,3]) ?_;rintro _ _ ⟨rfl,t,ht,tp,tc,rfl⟩;apply gO;refine rq [0,1,2,3,4,5,6,7,8,9,10] mixed (sd (zp (.t3 .aa) (aaQ _) (XO.v (V.build (vs:= #[(0,iI 1),(1,iI n),(3,.bool w),(4,iI 1)]) rfl (v:=.agg (bu.cR ⟨1,n,0,w,1⟩)) fun _=>kq) rfl (gO ?_))) (by show(0:Int)<=0/\(0:Int)<1;omega));refine sd (gn (.t4 .aa) (bu.put O O.first 1 n w 1 ⟨ZC.1,ZC.2.1⟩) rfl ⟨rfl,rfl⟩ (sd (zp (.t3 .aa) (aaQ _) (bA rfl rfl rfl (ah (pk [4,0,0,0]) rfl ?_))) (by show(0:Int)<=0/\(0:Int)<1;omega))) ⟨ZC.1,ZC.2.1⟩;have e:nS s.toFF O n=0:=by unfold nS;rw[if_neg og,if_neg hf1]
    exact⟨by rw[show uw s.toFF O n=O.first from by unfold uw;rw[if_pos e],e];rfl,t,by rw[ht];unfold su;rw[if_pos e],tp,tc,by rw[show qg s.toFF O n w=O.lay O.first 1 n w from by unfold qg;rw[if_pos e]];rfl⟩
def Ic(bo oo bf bp:Nat)(O:OS)(J:Int)(hJ:J<=1000000)(hO:O.Inv J)(n:Int):Spec Tryz.prog 59 [az bo oo 0,iI n] [.cells bo oo 122 (bu bf bp O)] (fun v H1=>v=ay 102 (O.is n)/\H1=[.cells bo oo 122 (bu bf bp (qh O n))]):=by
 refine Spec.go 23 [0,1,4,5,6,14] [] Tryz.func59 fun W=> ?_;refine ca (Wr _ _ _ _ _ _) .h1 ?_;rintro _ _ (⟨⟨i0,i1,i2⟩,rfl,rfl⟩ | ⟨i0,rfl,rfl⟩)
 ·have hrb:=hO.cP n i1 i2;apply gO;apply ld .aa (ku _ _);refine sd ?_;apply st .aa (uS _ _ og _) rfl;refine bI .h1 ?_;grind [aU,aS,qh,ay]
 ·apply gO;refine bI .h1 ?_;grind [aU,aS,qh,ay]
def Ws(bf bp:Nat):Array Value:=((List.range 122).map (bu bf bp OS.du)).toArray
def RW(bf bp:Nat):(Ws bf bp).size=122:=by simp[Ws]
def Wt(bf bp:Nat):∀ i,i<122->cellsOf (Ws bf bp) i=bu bf bp OS.du i:=fun i hi=>by simp[cellsOf,Ws,hi]
def ZD(bo oo bf bp:Nat)(O:OS)(J:Int)(hJ:J<=1000000)(hO:O.Inv J)(s:FC)(hI:s.toFF.Sh)(K:Int)(hK:K<=1000000)(q:PS)(hq:q.Inv K)(n:Int)(x:ByteArray)(hx:x.size<=1000000):Spec Tryz.prog 70 [az bo oo 0,iI n,.string x] [.cells bo oo 122 (bu bf bp O),.cells bf 0 321 (aC s),.aW au (FC.bd 9 s),.aW au (FC.bh 3 s),.cells bp 0 24 (bO q)] (fun v H1=>v= .tuple #[iI (jv s.toFF q O n x),ay 102 (iQ s.toFF q O n x)]/\∃ t:FC,t.toFF=iA s.toFF O n x/\t.rP=s.rP/\t.rC=s.rC/\H1=[.cells bo oo 122 (bu bf bp (jw s.toFF O n x)),.cells bf 0 321 (aC t),.aW au (FC.bd 9 t),.aW au (FC.bh 3 t),.cells bp 0 24 (bO (mi q O n x))]):=by
 refine Spec.go 79 [0,1,2,6,7,8,9,17,19,37,66] [] Tryz.func70 fun W=> ?_;refine ca (Wr _ _ _ _ _ _) .h1 ?_;rintro _ _ (⟨⟨i0,i1,i2⟩,rfl,rfl⟩ | ⟨i0,rfl,rfl⟩)
 ·have hra:=hO.cP n i1 i2;have haa:=hO.at_ n i1 i2;have hka:=hO.aN n i1 i2 (OS.MR i0).2.2;apply gO;apply ld .aa (mn _ _);refine cd ?_ ?_<;>intro h1
  ·refine rq [0,1,2,3,4,5,6,7,8,9,10,11,12,13] mixed ?_;apply ld .aa (bu.JQ _);apply ld .aa (pX _ _);refine cq (ZB _ _ K hK q hq _ _ hx) (pk [4]) ?_;refine bA rfl rfl rfl (ah (pk [1,1,1,1,0]) rfl ?_);try dsimp only[aU,aS,bG,bN]
   have hk:O.aN n=3:=aq;have eE:iQ s.toFF q O n x=(q.cb (O.n n) x).2.1:=by unfold iQ;rw[if_neg og,if_pos hk]
   have eV:jv s.toFF q O n x=(q.cb (O.n n) x).1:=by unfold jv;rw[if_pos ⟨i0,hk⟩]
   have eF:iA s.toFF O n x=s.toFF:=by unfold iA;rw[if_neg fun h=>h.2.1 hk]
   have eO:jw s.toFF O n x=O:=by unfold jw;rw[if_neg fun h=>h.1.2.1 hk]
   grind [mi]
  ·apply ld .aa (mn _ _);refine sp 43 rfl ?_ ?_<;>intro h2
   ·refine eH (pz 5) ?_;try dsimp only[aU,aS,bG,bN]
    have hk:¬O.aN n=3:=aq;have h2:O.aN n=2:=aq;have eE:iQ s.toFF q O n x=8:=by unfold iQ;rw[if_neg og,if_neg hk,if_pos (.inl h2)]
    have eV:jv s.toFF q O n x=0:=by unfold jv;rw[if_neg fun h=>hk h.2,if_neg fun h=>h.1.2.2 (.inl h2)]
    have eF:iA s.toFF O n x=s.toFF:=by unfold iA;rw[if_neg fun h=>h.2.2 (.inl h2)]
    have eO:jw s.toFF O n x=O:=by unfold jw;rw[if_neg fun h=>h.1.2.2 (.inl h2)]
    grind [mi,ay]
   ·skip;apply ld .aa (BO _ _ og);refine wM ?_ ?_<;>intro h3
    ·try simp only[sb]at h3
     have hwf:O.cb n=false:=by simpa using h3
     refine eH (pz 5) ?_;try dsimp only[aU,aS,bG,bN]
     have hk:¬O.aN n=3:=aq;have eE:iQ s.toFF q O n x=8:=by unfold iQ;rw[if_neg og,if_neg hk,if_pos (.inr hwf)]
     have eV:jv s.toFF q O n x=0:=by unfold jv;rw[if_neg fun h=>hk h.2,if_neg fun h=>h.1.2.2 (.inr hwf)]
     have eF:iA s.toFF O n x=s.toFF:=by unfold iA;rw[if_neg fun h=>h.2.2 (.inr hwf)]
     have eO:jw s.toFF O n x=O:=by unfold jw;rw[if_neg fun h=>h.1.2.2 (.inr hwf)]
     grind [mi,ay]
    ·try simp only[sb]at h3
     have hwt:O.cb n=true:=by simpa using h3
     refine rq [0,1,2,3,4,5,6,7,8,9,10,11,12,13,14] mixed ?_;apply ld .aa (ry _);apply ld .aa (pX _ _);apply ld .aa (oz _ _);refine ca (Zz _ _ _ hI _ _ _ og) (pk [1,1,1]) ?_;rintro _ _ ⟨rfl,t,ht,tp,tc,rfl⟩;apply gO;refine cd ?_ ?_<;>intro h4
     ·refine eH (pk [3,0,0,0,0]) ?_;try dsimp only[aU,aS,bG,bN]
      have hk:¬O.aN n=3:=aq;have h2:¬O.aN n=2:=aq;have hfw:DB O n:=⟨i0,hk,fun h=>by rcases h with h | h;exact h2 h;rw[hwt]at h;cases h⟩;have hwe:s.toFF.fc (O.n n) (O.at_ n) x≠0:=aq;have eE:iQ s.toFF q O n x=s.toFF.fc (O.n n) (O.at_ n) x:=by unfold iQ;rw[if_neg og,if_neg hk,if_neg hfw.2.2]
      have eV:jv s.toFF q O n x=0:=by unfold jv;rw[if_neg fun h=>hk h.2,if_neg fun h=>hwe h.2]
      have eF:iA s.toFF O n x=s.toFF.cb (O.n n) (O.at_ n) x:=by unfold iA;rw[if_pos hfw]
      grind [jw,mi]
     ·apply ld (.t3 .aa) (oz _ _);refine sd ?_;apply st (.t3 .aa) (bu.Ia _ _ og _) rfl;refine eH (pk [3,0,0,0,0]) ?_;have hk:¬O.aN n=3:=aq;have h2:¬O.aN n=2:=aq;have hfw:DB O n:=⟨i0,hk,fun h=>by rcases h with h | h;exact h2 h;rw[hwt]at h;cases h⟩;have hwe:s.toFF.fc (O.n n) (O.at_ n) x=0:=Decidable.byContradiction aq;have eE:iQ s.toFF q O n x=0:=by unfold iQ;rw[if_neg og,if_neg hk,if_neg hfw.2.2,hwe]
      have eV:jv s.toFF q O n x=(x.size:Int):=by unfold jv;rw[if_neg fun h=>hk h.2,if_pos ⟨hfw,hwe⟩]
      have eF:iA s.toFF O n x=s.toFF.cb (O.n n) (O.at_ n) x:=by unfold iA;rw[if_pos hfw]
      have eO:jw s.toFF O n x=O.move n (x.size):=by unfold jw;rw[if_pos ⟨hfw,hwe⟩]
      have eP:mi q O n x=q:=by unfold mi;rw[if_neg fun h=>hk h.2]
      exact⟨by rw[eE,eV];rfl,t,by rw[eF];exact ht,tp,tc,by rw[eO,eP];rfl⟩
 ·apply gO;refine eH (pz 5) ?_;try dsimp only[aU,aS,bG,bN]
  have eE:iQ s.toFF q O n x=O.is n:=by unfold iQ;rw[if_pos i0]
  have eV:jv s.toFF q O n x=0:=by unfold jv;rw[if_neg fun h=>i0 h.1,if_neg fun h=>i0 h.1.1]
  have eF:iA s.toFF O n x=s.toFF:=by unfold iA;rw[if_neg fun h=>i0 h.1]
  have eO:jw s.toFF O n x=O:=by unfold jw;rw[if_neg fun h=>i0 h.1.1]
  grind [mi,ay]
def adH(bo oo bf bp:Nat)(O:OS)(J:Int)(hJ:J<=1000000)(hO:O.Inv J)(s:FC)(hI:s.toFF.Sh)(K:Int)(hK:K<=1000000)(q:PS)(hq:q.Inv K)(n m:Int):Spec Tryz.prog 72 [az bo oo 0,iI n,iI m] [.cells bo oo 122 (bu bf bp O),.cells bf 0 321 (aC s),.aW au (FC.bd 9 s),.aW au (FC.bh 3 s),.cells bp 0 24 (bO q)] (fun v H1=>v= .tuple #[.string (uy s.toFF q O n m),ay 102 (ux s.toFF q O n m)]/\H1=[.cells bo oo 122 (bu bf bp (qj s.toFF O n m)),.cells bf 0 321 (aC s),.aW au (FC.bd 9 s),.aW au (FC.bh 3 s),.cells bp 0 24 (bO (qi q O n m))]):=by
 refine Spec.go 69 [0,1,2,6,7,8,9,10,18,23,24,27] [] Tryz.func72 fun W=> ?_;refine ca (Wr _ _ _ _ _ _) .h1 ?_;rintro _ _ (⟨⟨i0,i1,i2⟩,rfl,rfl⟩ | ⟨i0,rfl,rfl⟩)
 ·have hra:=hO.cP n i1 i2;have haa:=hO.at_ n i1 i2;have hka:=hO.aN n i1 i2 (OS.MR i0).2.2;apply gO;apply ld .aa (mn _ _);refine cd ?_ ?_<;>intro h1
  ·refine eH (pz 5) ?_;try dsimp only[aU,aS,bG,bN]
   grind [ux,uy,qj,qi,ay]
  ·refine cd ?_ ?_<;>intro h2
   ·refine rq [0,1,2,3,4,5,6,7,8,9,10,11,12,13] mixed ?_;apply ld .aa (bu.JQ _);apply ld .aa (pX _ _);refine cq (adD _ _ K hK q hq _ _) (pk [4]) ?_;refine bA rfl rfl rfl (ah (pk [1,1,1,1,0]) rfl ?_);try dsimp only[aU,aS,bG,bN]
    grind [ux,uy,qj,qi]
   ·refine rq [0,1,2,3,4,5,6,7,8,9,10,11,12,13,14,15,16,17,18] mixed ?_;apply ld .aa (ry _);apply ld .aa (pX _ _);apply ld .aa (oz _ _);refine ca (adA _ _ _ hI _ _ _) (pk [1]) ?_;rintro _ _ ⟨rfl,rfl⟩;have hrl:=FF.Ko hI (O.n n) (O.at_ n) m;apply gO;apply ld (.ao .aa) (oz _ _);refine sd ?_;apply st (.ao .aa) (bu.Ia _ _ og _) rfl;refine eH (pk [1,0,0,0,0]) ?_;try dsimp only[aU,aS,bG,bN]
    have hk:¬O.aN n=3:=aq;have h2:¬O.aN n=2:=aq;have eE:ux s.toFF q O n m=s.toFF.me (O.n n) (O.at_ n) m:=by unfold ux;rw[if_neg og,if_neg hk,if_neg h2]
    have eV:uy s.toFF q O n m=s.toFF.kJ (O.n n) (O.at_ n) m:=by unfold uy;rw[if_neg og,if_neg hk,if_neg h2]
    have eO:qj s.toFF O n m=O.move n ((s.toFF.kJ (O.n n) (O.at_ n) m).size):=by unfold qj;rw[if_pos ⟨i0,hk,h2⟩]
    have eP:qi q O n m=q:=by unfold qi;rw[if_neg fun h=>h2 h.2]
    exact⟨by rw[eE,eV],by rw[eO,eP];rfl⟩
 ·apply gO;refine eH (pz 5) ?_;grind [aU,aS,bN,ux,uy,qj,qi,aK]
def Py(bo oo bf bp:Nat)(O:OS)(J:Int)(hJ:J<=1000000)(hO:O.Inv J)(s:FC)(hI:s.toFF.Sh)(K:Int)(hK:K<=1000000)(q:PS)(hq:q.Inv K)(n:Int):Spec Tryz.prog 76 [az bo oo 0,iI n] [.cells bo oo 122 (bu bf bp O),.cells bf 0 321 (aC s),.aW au (FC.bd 9 s),.aW au (FC.bh 3 s),.cells bp 0 24 (bO q)] (fun v H1=>v=ay 102 (km s.toFF q O n)/\∃ t:FC,t.toFF=mY s.toFF O n/\t.rP=s.rP/\t.rC=s.rC/\H1=[.cells bo oo 122 (bu bf bp (kR O n)),.cells bf 0 321 (aC t),.aW au (FC.bd 9 t),.aW au (FC.bh 3 t),.cells bp 0 24 (bO (kQ q O n))]):=by
 refine Spec.go 55 [0,1,4,5,6,7,15,28,37] [] Tryz.func76 fun W=> ?_;refine ca (Wr _ _ _ _ _ _) .h1 ?_;rintro _ _ (⟨⟨i0,i1,i2⟩,rfl,rfl⟩ | ⟨i0,rfl,rfl⟩)
 ·have hra:=hO.cP n i1 i2;have haa:=hO.at_ n i1 i2;have hka:=hO.aN n i1 i2 (OS.MR i0).2.2;apply gO;apply ld .aa (ku _ _);refine sd ?_;apply st .aa (uS _ _ og _) rfl;apply ld .aa (ku _ _);refine cd ?_ ?_<;>intro h1
  ·have e9:ad O.cP n (O.cP n-1) n=O.cP n-1:=aj _ _ _;have h9:ad O.cP n (O.cP n-1) n>0:=h1;have Iy:0<O.cP n-1:=og;refine bI (pz 5) ?_;try dsimp only[aU,aS,bG,bN]
   have eE:km s.toFF q O n=0:=by unfold km;rw[if_neg og,if_pos Iy]
   have eF:mY s.toFF O n=s.toFF:=by unfold mY;rw[if_neg fun h=>h.1.2 Iy]
   have eP:kQ q O n=q:=by unfold kQ;rw[if_neg fun h=>h.1.2 Iy]
   grind [kR,Kl,ay]
  ·have e9:ad O.cP n (O.cP n-1) n=O.cP n-1:=aj _ _ _;have h9:¬ad O.cP n (O.cP n-1) n>0:=h1;have Iy:¬ 0<O.cP n-1:=og;apply lP .aa (bu.LS _ _ og);apply XO.bQ (z:=.agg (bu.cR ⟨0,0,0,false,0⟩)) (m:=5) (C:=bu.cell ⟨0,0,0,false,0⟩) (bu.box _);intro bx;apply gO;apply gn .aa (Wm _ _) rfl ⟨rfl,rfl⟩;refine XO.v (V.build (vs:= #[]) rfl (v:=.agg (bu.cR ⟨0,0,0,false,0⟩)) fun _=>kq) rfl (gO ?_);apply gn (.ao .aa) (bu.put (Kl O n) n 0 0 false 0 ⟨i1,i2⟩) rfl ⟨rfl,rfl⟩;apply ld .aa (K7 _);refine cd ?_ ?_<;>intro h2
   ·refine rq [0,1,2,3,4,5,6,7] mixed ?_;apply ld (.ao .aa) (ry _);apply ld .aa (K8 _);refine ca (GJ _ _ _ hI _) (pk [2,2,2]) ?_;rintro _ _ ⟨rfl,t,ht,tp,tc,rfl⟩;apply gO;refine aO rfl rfl (ah (pk [4,0,0,0,1]) rfl ?_);have hk:O.aN n=1:=aq;have eE:km s.toFF q O n=s.toFF.Ds (O.n n):=by unfold km;rw[if_neg og,if_neg Iy,if_pos hk]
    have eF:mY s.toFF O n=s.toFF.kO (O.n n):=by unfold mY;rw[if_pos ⟨⟨i0,Iy⟩,hk⟩]
    have eP:kQ q O n=q:=by unfold kQ;rw[if_neg fun h=>h.2 hk]
    have eO:kR O n=O.Et n:=by unfold kR;rw[if_neg og,if_neg Iy]
    exact⟨by rw[eE];rfl,t,by rw[eF];exact ht,tp,tc,by rw[eO,eP,<-OS.Km];rfl⟩
   ·refine rq [0,1,2,3,4,5,6,7,8,9,10] mixed ?_;apply ld (.ao .aa) (bu.JQ _);apply ld .aa (K8 _);apply ld .aa (K7 _);refine cq (adE _ _ K hK q hq _ _) (pk [5]) ?_;refine aO rfl rfl (ah (pk [2,2,2,2,0]) rfl ?_);have hk:¬O.aN n=1:=aq;have eE:km s.toFF q O n=(q.mL (O.n n) (decide (O.aN n=3)) (-1)).1:=by unfold km;rw[if_neg og,if_neg Iy,if_neg hk]
    have eF:mY s.toFF O n=s.toFF:=by unfold mY;rw[if_neg fun h=>hk h.2]
    have eP:kQ q O n=(q.mL (O.n n) (decide (O.aN n=3)) (-1)).2:=by unfold kQ;rw[if_pos ⟨⟨i0,Iy⟩,hk⟩]
    have eO:kR O n=O.Et n:=by unfold kR;rw[if_neg og,if_neg Iy]
    exact⟨by rw[eE];rfl,s,by rw[eF],rfl,rfl,by rw[eO,eP,<-OS.Km];rfl⟩
 ·apply gO;refine bI (pz 5) ?_;try dsimp only[aU,aS,bG,bN]
  have eE:km s.toFF q O n=O.is n:=by unfold km;rw[if_pos i0]
  have eF:mY s.toFF O n=s.toFF:=by unfold mY;rw[if_neg fun h=>i0 h.1.1]
  have eP:kQ q O n=q:=by unfold kQ;rw[if_neg fun h=>i0 h.1.1]
  grind [kR,ay]
def Wu(bf bp:Nat):Spec Tryz.prog 100 [az bf 0 0,az bp 0 0] [] (fun v H1=>∃ b,v=az b 0 0/\H1=[.cells b 0 122 (bu bf bp OS.du)]):=by
 refine Spec.go 9 [0,1,4] [] Tryz.func100 fun W=> ?_;refine XO.v (V.build (vs:= #[(0,az bf 0 0),(1,az bp 0 0)]) rfl (v:=.agg (Ws bf bp)) fun _=>kq) rfl (gO ?_);refine XO.box (m:=122) (C:=bu bf bp OS.du) rfl (RW bf bp) (Wt bf bp) rfl ?_;intro b;apply gO;refine bI .h1 ?_;grind [aU,aS]
def adI(bo oo bf bp:Nat)(O:OS)(n a:Int):Spec Tryz.prog 209 [az bo oo 0,iI n,iI a] [.cells bo oo 122 (bu bf bp O)] (fun v H1=>v=ay 102 (nF O n a)/\H1=[.cells bo oo 122 (bu bf bp (wo O n a))]):=by
 refine Spec.go 35 [0,1,2,6,7,8,16,22,29] [] Tryz.func209 fun W=> ?_;refine ca (Wr _ _ _ _ _ _) .h1 ?_;rintro _ _ (⟨⟨i0,i1,i2⟩,rfl,rfl⟩ | ⟨i0,rfl,rfl⟩)
 ·apply gO;apply ld .aa (mn _ _);refine cd ?_ ?_<;>intro h1
  ·refine bI .h1 ?_;grind [aU,aS,bN,nF,wo,ay]
  ·refine sp 26 rfl ?_ ?_<;>intro h2
   ·refine bI .h1 ?_;grind [aU,aS,bN,nF,wo,ay]
   ·refine cd ?_ ?_<;>intro h3
    ·refine bI .h1 ?_;grind [aU,aS,bN,nF,wo,ay]
    ·refine st .aa (bu.Ia _ _ og _) rfl (aO rfl rfl (ah .h1 rfl ?_));grind [aU,aS,bN,nF,wo,ay]
 ·apply gO;refine bI .h1 ?_;grind [aU,aS,nF,wo,ay]
def adJ(bo oo bf bp:Nat)(O:OS)(J:Int)(hJ:J<=1000000)(hO:O.Inv J)(m:Int):Spec Tryz.prog 204 [az bo oo 0,iI m] [.cells bo oo 122 (bu bf bp O)] (fun v H1=>v= .bool (OO O m)/\H1=[.cells bo oo 122 (bu bf bp O)]):=by
 refine Spec.go 13 [0,1,4] [] Tryz.func204 fun W=> ?_;refine sp 7 rfl ?_ ?_<;>intro h1
 ·refine bI .h1 ?_;grind [aU,aS,bN,OO]
 ·refine ca (ND _ _ _ _ _ _) .h1 ?_;rintro _ _ (⟨f0,rfl,rfl⟩ | ⟨f0,p1,c1,rfl,rfl⟩)
  ·have hfn:=OS.Al (fun z z1 z2=>(hO.cP z z1 z2).1) m og 24 (Nat.le_refl 24);rw[show O.Dz 24=O.opens from rfl]at hfn;have hol:=O.Kp;apply gO;refine XO.v (lx rfl Tryz.underlying55 rfl) rfl (gO ?_);refine bI .h1 ?_;grind [aU,aS,OO]
  ·have hfn:=OS.Al (fun z z1 z2=>(hO.cP z z1 z2).1) m og 24 (Nat.le_refl 24);rw[show O.Dz 24=O.opens from rfl]at hfn;have hol:=O.Kp;apply gO;apply bR .aa (by show 0<(O.fx m 24).length;omega);intro g hg;subst hg;refine XO.v (lx rfl Tryz.underlying55 rfl) rfl (gO ?_);refine bI (pk [1]) ?_;grind [aU,aS,OO]
def adK(bo oo bf bp:Nat)(O:OS)(K:Int)(hK:K<=1000000)(q:PS)(hq:q.Inv K):Spec Tryz.prog 68 [az bo oo 0] [.cells bo oo 122 (bu bf bp O),.cells bp 0 24 (bO q)] (fun v H1=>v= .tuple #[iI (nV q O),iI (pq q O),ay 102 (kS q O)]/\H1=[.cells bo oo 122 (bu bf bp (nU q O)),.cells bp 0 24 (bO (nT q O))]):=by
 refine Spec.go 48 [0,2,3,4,5,6,7,11,22] [] Tryz.func68 fun W=> ?_;refine ca (ND _ _ _ _ _ _) .h1 ?_;rintro _ _ (⟨f0,rfl,rfl⟩ | ⟨f0,p1,c1,rfl,rfl⟩)
 ·apply gO;refine XO.v (lx rfl Tryz.underlying55 rfl) rfl (gO ?_);refine XT rfl (rfl) (xz rfl rfl rfl rfl (ah (pz 2) rfl ?_));try dsimp only[aU,aS,bG,bN]
  have hf:=OS.Va f0;grind [kS,nV,pq,nU,nT,ay]
 ·obtain⟨hf1,Sq,hf4⟩:=OS.Ra f0;have ZC:=OS.nD hf1;have hf5:0<=O.jI/\O.jI<24:=⟨og,(OS.nD (s:=O.lay O.first 2 0 false) Sq).2.1⟩;have hf6:¬(O.first<0\/O.jI<0):=og;rw[hf4];apply gO;apply bR .aa (by show 0<2;omega);intro g hg;subst hg;refine XO.v (lx rfl Tryz.underlying55 rfl) rfl (gO ?_);refine LU rfl sq (ld (.ao .aa) (bu.JQ _) ?_);refine cq (adC _ _ K hK q hq) (pk [2]) ?_;refine cd ?_ ?_<;>intro h1
  ·refine rt3 (pk [2,0]) ?_;grind [aU,aS,bN,kS,nV,pq,nU,nT]
  ·refine rq [0,1,2,3,4,5,6,7,8,9] mixed (sd (zp (.ao .aa) (Vb _ _) (XO.v (V.build (vs:= #[(0,iI 2),(1,iI q.make.1),(4,iI 1)]) rfl (v:=.agg (bu.cR ⟨2,q.make.1,0,false,1⟩)) fun _=>kq) rfl (gO ?_))) (by show(0:Int)<=0/\(0:Int)<2;omega));refine sd (gn (.t2 .aa) (bu.put O O.first 2 q.make.1 false 1 ⟨ZC.1,ZC.2.1⟩) rfl ⟨rfl,rfl⟩ (rq [0,1,2,3,4,5,6,7,8,9] mixed (sd (zp (.ao .aa) (Vc _ _) (XO.v (V.build (vs:= #[(0,iI 3),(1,iI q.make.1),(4,iI 1)]) rfl (v:=.agg (bu.cR ⟨3,q.make.1,0,false,1⟩)) fun _=>kq) rfl (gO ?_))) (by show(0:Int)<=1/\(1:Int)<2;omega)))) ⟨ZC.1,ZC.2.1⟩;refine sd (gn (.t2 .aa) (bu.put (O.lay O.first 2 q.make.1 false) O.jI 3 q.make.1 false 1 hf5) rfl ⟨rfl,rfl⟩ (rq [0,1,2,3,4,5,6,7,8] mixed (sd (zp (.ao .aa) (Vb _ _) (sd (zp (.ao .aa) (Vc _ _) (xz rfl rfl rfl rfl (ah (pk [2,0]) rfl ?_))) (by show(0:Int)<=1/\(1:Int)<2;omega))) (by show(0:Int)<=0/\(0:Int)<2;omega)))) hf5;have hz:q.make.2.1=0:=Decidable.byContradiction aq;have e:kS q O=0:=by unfold kS;rw[if_neg hf6,hz]
   have eV:nV q O=O.first:=by unfold nV;rw[if_pos e]
   have eU:pq q O=O.jI:=by unfold pq;rw[if_pos e]
   have eO:nU q O=(O.lay O.first 2 q.make.1 false).lay O.jI 3 q.make.1 false:=by unfold nU;rw[if_pos e]
   have eP:nT q O=q.make.2.2:=by unfold nT;rw[if_neg hf6]
   exact⟨by rw[e,eV,eU];rfl,by rw[eO,eP];rfl⟩
end Go.X.Tr


namespace Go.Proofs
open Go.Shelf
def E9:Go.Shelf.Ren:=⟨fun | 146=>246 | 221=>265 | 268=>277 | 138=>278 | 143=>279 | 195=>284 | 197=>285 | 218=>286 | 219=>287 | 260=>290 | 217=>291 | 225=>292 | 224=>293 | 267=>294 | 266=>295 | 314=>296 | n=>n,fun | 9=>9 | 31=>207 | 3=>3 | 4=>4 | 0=>0 | 105=>306 | 21=>21 | 5=>5 | 46=>258 | 119=>311 | 139=>314 | 138=>313 | 146=>315 | 51=>257 | n=>n,fun | 1=>2 | 3=>3 | 4=>4 | n=>n⟩
def RX:Go.Proofs.Lays.n146 Tryz.prog E9:= {
 mixed:=by kernel_rfl
 f138:=Tryz.func278.trans (congrArg some (by kernel_rfl))
 f143:=Tryz.func279.trans (congrArg some (by kernel_rfl))
 f146:=Tryz.func246.trans (congrArg some (by kernel_rfl))
 f195:=Tryz.func284.trans (congrArg some (by kernel_rfl))
 f197:=Tryz.func285.trans (congrArg some (by kernel_rfl))
 f217:=Tryz.func291.trans (congrArg some (by kernel_rfl))
 f218:=Tryz.func286.trans (congrArg some (by kernel_rfl))
 f219:=Tryz.func287.trans (congrArg some (by kernel_rfl))
 f221:=Tryz.func265.trans (congrArg some (by kernel_rfl))
 f224:=Tryz.func293.trans (congrArg some (by kernel_rfl))
 f225:=Tryz.func292.trans (congrArg some (by kernel_rfl))
 f260:=Tryz.func290.trans (congrArg some (by kernel_rfl))
 f266:=Tryz.func295.trans (congrArg some (by kernel_rfl))
 f267:=Tryz.func294.trans (congrArg some (by kernel_rfl))
 f268:=Tryz.func277.trans (congrArg some (by kernel_rfl))
 f314:=Tryz.func296.trans (congrArg some (by kernel_rfl))
 t0:=Tryz.underlying0
 a0:=Tryz.isAgg0
 z0:=Tryz.sizeOf0
 v0:=Tryz.zeroValue0
 t3:=Tryz.underlying3
 a3:=Tryz.isAgg3
 z3:=Tryz.sizeOf3
 v3:=Tryz.zeroValue3
 t4:=Tryz.underlying4
 a4:=Tryz.isAgg4
 z4:=Tryz.sizeOf4
 v4:=Tryz.zeroValue4
 t5:=Tryz.underlying5
 a5:=Tryz.isAgg5
 z5:=Tryz.sizeOf5
 v5:=Tryz.zeroValue5
 t9:=Tryz.underlying9
 a9:=Tryz.isAgg9
 z9:=Tryz.sizeOf9
 v9:=Tryz.zeroValue9
 t21:=Tryz.underlying21
 a21:=Tryz.isAgg21
 z21:=Tryz.sizeOf21
 v21:=Tryz.zeroValue21
 t31:=Tryz.underlying207
 a31:=Tryz.isAgg207
 z31:=Tryz.sizeOf207
 v31:=Tryz.zeroValue207
 t46:=Tryz.underlying258
 a46:=Tryz.isAgg258
 z46:=Tryz.sizeOf258
 v46:=Tryz.zeroValue258
 t51:=Tryz.underlying257
 a51:=Tryz.isAgg257
 z51:=Tryz.sizeOf257
 v51:=Tryz.zeroValue257
 t105:=Tryz.underlying306
 a105:=Tryz.isAgg306
 z105:=Tryz.sizeOf306
 v105:=Tryz.zeroValue306
 t119:=Tryz.underlying311
 a119:=Tryz.isAgg311
 z119:=Tryz.sizeOf311
 t138:=Tryz.underlying313
 a138:=Tryz.isAgg313
 z138:=Tryz.sizeOf313
 v138:=Tryz.zeroValue313
 t139:=Tryz.underlying314
 a139:=Tryz.isAgg314
 z139:=Tryz.sizeOf314
 v139:=Tryz.zeroValue314
 t146:=Tryz.underlying315
 a146:=Tryz.isAgg315
 z146:=Tryz.sizeOf315
 v146:=Tryz.zeroValue315
 g1:=by kernel_rfl
 g3:=by kernel_rfl
 g4:=by kernel_rfl}
end Go.Proofs

namespace Go.X.Tr
open Go Go.Proofs Go.X
set_option maxRecDepth 20000
set_option maxHeartbeats 4000000
def fZ:n5 Tryz.prog 163=true:=kq
def di:fm Tryz.prog 163=some 2:=kq
def ZE:(Tryz.prog.underlying 163=some (.struct (Tryz.prog.fieldsOf 163))/\Tryz.prog.stoodInHeld 163=false)/\Tryz.prog.eqGuardType Tryz.prog.depth 163=false/\two Tryz.prog 163=true:=⟨⟨kq,kq⟩,kq,kq⟩
def ZF(s:ByteArray)(hs:s.size<=1000000):Spec Tryz.prog 246 [.string s,.string ⟨#[47]⟩] [] (fun v H1=>∃ b,v= .slice (some ⟨b,0,none⟩) (eb s).length (eb s).length/\H1=[jZ (some ⟨b,0,none⟩) (eb s).length 9 (eb s)]):=
 M9 Go.Proofs.RX kq s hs
def Wv(bt bf:Nat)(r:WH)(l:List MT)(p:Option Addr)(cap k c:Nat)(C:Nat->Value)(hv:RV.ok ⟨p,cap,k,l.length,c,C⟩)(hC:MC C l)(NF:l.length<=6)(w:WH):Spec Tryz.prog 248 [az bt 0 0,.agg (WH.cR w)] [.cells bt 0 4 (aL bf r (.slice p l.length c)),aM p cap 168 4 k C] (fun v H1=>v= .agg (WH.cR (tj l w))/\H1=[.cells bt 0 4 (aL bf r (.slice p l.length c)),aM p cap 168 4 k C]):=by
 have jd:=oT hv;have jd:l.length<=k:=jd;refine Spec.go 30 [0,3,4,5,7,8,9,13,14,15,16,22,27] [] Tryz.func248 fun W=> ?_;refine XO.box (m:=2) (C:=aY (w)) rfl rfl (aY.box _) rfl ?_;intro bw;apply gO;apply XO.bQ (z:=.agg (WH.cR WH.nil)) (m:=2) (C:=aY WH.nil) (aY.box _);intro br;apply gO;refine lp (σ:=Int×WH) (fun x=>(6-x.1).toNat) (fun x=>(0<=x.1/\x.1<=6)/\ovN l (6-x.1).toNat x.2=tj l w) (fun x=>[(8,iI x.1),(0,az bt 0 0),(3,az bw 0 0),(4,az br 0 0)]) (fun x=>XM W (cm [.cells bt 0 4 (aL bf r (.slice p l.length c)),aM p cap 168 4 k C]) [.cells bw 0 2 (aY x.2),.cells br 0 2 (aY WH.nil),.cells bt 0 4 (aL bf r (.slice p l.length c)),aM p cap 168 4 k C]) ((0,w)) ?_ S4 (xq (pk [1,0,0,0])) ?_
 ·grind [tj]
 intro x hx;obtain⟨⟨rB,Iu⟩,hov⟩:=hx;apply gC;refine cd ?_ ?_<;>intro h1
 ·apply ld (.t2 .aa) (kY _ _);refine lp (σ:=Int) (fun i=>(l.length-i).toNat) (fun i=>(0<=i/\i<=l.length)/\∀ j:Int,0<=j->j<i->(qk l j).at_≠x.2) (fun i=>[(5,.bool false),(15,iI i),(0,az bt 0 0),(3,az bw 0 0),(4,az br 0 0),(8,iI x.1),(13,.slice p l.length c),(14,iI l.length)]) (fun i=>XM W (cm [.cells bt 0 4 (aL bf r (.slice p l.length c)),aM p cap 168 4 k C]) [.cells bw 0 2 (aY x.2),.cells br 0 2 (aY WH.nil),.cells bt 0 4 (aL bf r (.slice p l.length c)),aM p cap 168 4 k C]) (0) ?_ (.cons rfl (.cons rfl S6)) (xq (pz 4)) ?_
  ·grind
  intro i hi;obtain⟨⟨hi0,Sz⟩,sW⟩:=hi;apply gC;refine cd ?_ ?_<;>intro h2
  ·apply bR (.t3 .aa) og;intro g hg;subst hg;refine sd ?_;apply qC (.t3 .aa) (hC.ld jd _ og);apply XO.bQ (z:=.agg (MT.cR MT.nil)) (m:=4) (C:=fE MT.nil) (fE.box _);intro bm;apply gO;apply gn .aa (fE.st _ _) rfl ⟨rfl,rfl⟩;apply lP .aa (fE.lP _);apply lP (.ao .aa) (aY.agg _);refine XO.v (OQ rfl rfl ZE) rfl (gO ?_);refine cd ?_ ?_<;>intro h3
   ·have hs:=Vj (l:=l) ⟨og,og⟩ sW h3;apply lP .aa (Rg _);apply gn (.ao .aa) (aY.st _ _) rfl ⟨rfl,rfl⟩;refine sd ?_;refine ag ((x.1+1,(qk l i).to)) ?_ ?_ S4 (xq (pk [1,1,1,1]))
    ·omega
    ·exact⟨⟨by simp;omega,by simp;omega⟩,by rw[<-hov,show(6-x.1).toNat=(6-(x.1+1)).toNat+1 from og,Vl hs]⟩
   ·refine sd ?_;refine ag (i+1) ?_ ?_ (.cons rfl (.cons rfl S6)) (xq (pk [1,1,1,1]));all_goals grind
  ·have hs:=Vi (l:=l) (w:=x.2) fun j a b=>sW j a og;apply lP .aa (aY.agg _);apply gn (.ao .aa) (aY.st _ _) rfl ⟨rfl,rfl⟩;refine jz rfl (.agg rfl (.ao .aa) (aY.agg _) fZ di) (ah (pk [2,2]) rfl ?_);grind [Vk]
 ·apply lP .aa (aY.agg _);apply gn (.ao .aa) (aY.st _ _) rfl ⟨rfl,rfl⟩;refine jz rfl (.agg rfl (.ao .aa) (aY.agg _) fZ di) (ah (pk [2,2]) rfl ?_);have e6:x.1=6:=og;exact⟨by rw[<-hov,e6];rfl,rfl⟩
def Ie(x:ByteArray)(hx:x.size<=1000000:=by omega):Spec Tryz.prog 231 [.string x] [] (fun v H1=>(iZ x=9/\v= .tuple #[.slice none 0 0,.iface 102 (iI 9)]/\H1=[])\/(iZ x=0/\∃ q c,v= .tuple #[.slice q (bX x).length c,.nilIface]/\H1=[jZ q c 9 (bX x)])):=by
 refine Spec.go 41 [0,2,3,4,6,18,21,25,26,27,28,37] [] Tryz.func231 fun W=> ?_;refine sp 10 rfl ?_ ?_<;>intro h1
 ·refine eH .nil ?_;grind [aU,aS,bN,iZ]
 ·have hx6:¬ 60<x.size:=og;refine sp 14 rfl ?_ ?_<;>intro h2
  ·refine eH .nil ?_;grind [aU,aS,bN,iZ]
  ·have fN:¬x=⟨#[]⟩:=aq;obtain⟨u,hu⟩:=J8 (s:=x) (j:=(0:Int).toNat) (by
     have h0:¬x.size=0:=fun q=>fN (yE.2 q)
     show 0<x.size;omega)
   have hg:x.get! 0=u:=U1 hu;refine XO.v (gG rfl rfl Tryz.underlying9 og hu) rfl (gO ?_);refine cd ?_ ?_<;>intro h3
   ·refine eH .nil ?_;try dsimp only[aU,aS,bG,bN]
    exact .inl ⟨Kv (.inr (.inr (fun q=>(by assumption:¬((u.toNat:Nat):Int)=47) (by rw[hg]at q;rw[q];rfl)))),rfl,rfl⟩
   ·have hc:¬(60<x.size\/x=⟨#[]⟩\/x.get! 0≠47):=by
     rintro(a | a | a)
     ·omega
     ·simp_all
     ·exact a (by rw[hg];exact UInt8.toNat_inj.1 (by show u.toNat=47;omega))
    have Iu:1<=x.size:=by
     grind
    refine cd ?_ ?_<;>intro h4
    ·refine XR.fF 9 1 (bA rfl rfl rfl (ah .h1 rfl ?_));try dsimp only[aU,aS,bG,bN]
     have CD:x=iB:=aq;have e:=HK CD;exact .inr ⟨e.1,none,0,by rw[e.2];rfl,by rw[e.2];rfl⟩
    ·have CD:¬x=iB:=aq;refine sd ?_ ⟨og,og⟩;refine ca (ZF _ (by rw[ByteArray.size_extract];omega)) .nil ?_;rintro _ _ ⟨b1,rfl,rfl⟩;have hps:((1:Int).toNat)=1:=rfl;refine gO ?_;refine lp (σ:=Int) (fun i=>((eb (x.extract 1 x.size)).length-i).toNat) (fun i=>(0<=i/\i<=(eb (x.extract 1 x.size)).length)/\∀ j:Int,0<=j->j<i->xg (kx (eb (x.extract 1 x.size)) j)=true) (fun i=>[(27,iI i),(4,.slice (some ⟨b1,0,none⟩) (eb (x.extract 1 x.size)).length (eb (x.extract 1 x.size)).length),(25,.slice (some ⟨b1,0,none⟩) (eb (x.extract 1 x.size)).length (eb (x.extract 1 x.size)).length),(26,iI (eb (x.extract 1 x.size)).length)]) (fun i=>XM W (cm []) [jZ (some ⟨b1,0,none⟩) (eb (x.extract 1 x.size)).length 9 (eb (x.extract 1 x.size))]) (0) ?_ S4 (xq .h1) ?_
     ·grind
     intro i hi;obtain⟨⟨hi0,Sz⟩,tq⟩:=hi;have hpc:=xt (x.extract 1 x.size);rw[ByteArray.size_extract]at hpc;refine gC ?_;refine cd ?_ ?_<;>intro h5
     ·refine sd (zp .aa (rI) ?_);refine sp 33 rfl ?_ ?_<;>intro h6
      ·refine cq (Wn _ (by have:=Gv (x.extract 1 x.size) (z:=i) ⟨og,og⟩;rw[ByteArray.size_extract]at this;omega)) .nil ?_;refine wM ?_ ?_<;>intro h7
       ·try simp only[sb]at h7
        refine eH .nil ?_;grind [aU,aS,bN,MX,xg,dd]
       ·try simp only[sb]at h7
        refine sd (ag (i+1) ?_ ?_ S4 (xq .h1));all_goals grind [xg]
      ·refine sd (ag (i+1) ?_ ?_ S4 (xq .h1));all_goals grind [xg,dd]
     ·refine eH .h1 ?_;try dsimp only[aU,aS,bG,bN]
      have e:=Kw hc CD fun j a b=>tq j a og;simp_all
def Ww:rF Tryz.prog 163 2=true:=kq
def NG(bt bf:Nat)(r:WH)(l:List MT)(p:Option Addr)(cap k c:Nat)(C:Nat->Value)(hv:RV.ok ⟨p,cap,k,l.length,c,C⟩)(hC:MC C l)(NF:l.length<=6)(s:FC)(hI:s.toFF.Sh)(q:Option Addr)(ZG:Nat)(ns:List ByteArray)(n:Nat)(hn:n<=ns.length:=by omega)(hn6:ns.length<=1000000:=by omega):Spec Tryz.prog 232 [az bt 0 0,.slice q n ZG] [.cells bt 0 4 (aL bf r (.slice p l.length c)),aM p cap 168 4 k C,.cells bf 0 321 (aC s),.aW au (FC.bd 9 s),.aW au (FC.bh 3 s),jZ q ZG 9 ns] (fun v H1=>v= .tuple #[.agg (WH.cR (Am s.toFF l r (ns.take n)).2),ay 102 (Am s.toFF l r (ns.take n)).1]/\H1=[.cells bt 0 4 (aL bf r (.slice p l.length c)),aM p cap 168 4 k C,.cells bf 0 321 (aC s),.aW au (FC.bd 9 s),.aW au (FC.bh 3 s),jZ q ZG 9 ns]):=by
 have jd:=oT hv;have jd:l.length<=k:=jd;refine Spec.go 72 [0,1,4,5,6,8,9,10,11,19,20,21,22,32,35,53] [] Tryz.func232 fun W=> ?_;refine XO.bQ (z:=.agg (WH.cR WH.nil)) (m:=2) (C:=aY WH.nil) (aY.box _) ?_;intro br;refine gO ?_;refine lP (.ao .aa) (aL.Ev _ _) ?_;refine cq (Wv _ _ _ _ _ _ _ _ _ hv hC NF _) (pk [1,1]) ?_;refine nt (e:=163) (vs:= #[(0,.agg (WH.cR (tj l r)))]) (A:= #[iI (tj l r).dD,iI (tj l r).node]) (sz:=2) rfl (fun _=>kq) rfl og rfl ?_;intro bw;refine gO ?_;refine lp (σ:=List WH×Option Addr×Nat×Int) (fun x=>(n-x.2.2.2).toNat) (fun x=>wk s.toFF l x.1 ((ns.take n).drop x.2.2.2.toNat)=Am s.toFF l r (ns.take n)/\(0<=x.2.2.2/\x.2.2.2<=n)/\1<=x.1.length/\x.1.length<=x.2.2.2+1) (fun x=>[(6,.slice x.2.1 x.1.length x.2.2.1),(21,iI x.2.2.2),(0,az bt 0 0),(4,az br 0 0),(19,.slice q n ZG),(20,iI n)]) (fun x=>XM W (cm [.cells bt 0 4 (aL bf r (.slice p l.length c)),aM p cap 168 4 k C,.cells bf 0 321 (aC s),.aW au (FC.bd 9 s),.aW au (FC.bh 3 s),jZ q ZG 9 ns]) [.cells bt 0 4 (aL bf r (.slice p l.length c)),aM p cap 168 4 k C,.cells bf 0 321 (aC s),.aW au (FC.bd 9 s),.aW au (FC.bh 3 s),jZ q ZG 9 ns,.cells br 0 2 (aY WH.nil),aM x.2.1 x.2.2.1 163 2 x.1.length (wC x.1)]) (([tj l r],some ⟨bw,0,none⟩,1,0)) ?_ S6 (fun _ hw=>by rw[air]at hw;exact XM.pick (pk [1,1,2,2,2,2,1,0]) hw) ?_
 ·grind [Am]
 intro x hx;obtain⟨hwk,⟨hi0,Sz⟩,hl1,hl2⟩:=hx;have hla:∀ a:WH,(x.1++[a]).length=x.1.length+1:=fun a=>sq;refine gC ?_;refine cd ?_ ?_<;>intro h2
 ·refine bR (.t5 .aa) (by show 0<ns.length;omega) ?_;intro g hg;subst hg;refine sd (zp (.t5 .aa) (rI) (bR (.t7 .aa) og ?_));intro g2 hg2;rw[hg2];refine sd (sd (qC (.t7 .aa) (Vh x.1 _ ⟨og,og⟩) (XO.bQ (z:=.agg (WH.cR WH.nil)) (m:=2) (C:=aY WH.nil) (aY.box _) ?_)));intro ba;refine gO ?_;refine gn .aa (aY.st _ _) rfl ⟨rfl,rfl⟩ ?_;have hdr:=Ri (ns:=ns) (n:=n) hn (i:=x.2.2.2) ⟨og,og⟩;refine cd ?_ ?_<;>intro h3
  ·have hdd:kx ns x.2.2.2=dd:=aq;refine cd ?_ ?_<;>intro h4
   ·have rz:(x.1.take (x.1.length-1)).length=x.1.length-1:=sq;refine sd (qB (.t8 .aa) ?_);intro GZ;refine XO.Th (k2:=x.1.length-1) (C':=wC (x.1.take (x.1.length-1))) rfl rfl Tryz.underlying269 di og og GZ (fun i hi=>YX x.1 _ i hi) (.t8 .aa) rfl (gO ?_);refine sd (ag ((x.1.take (x.1.length-1),some ⟨g2,0,none⟩,x.2.2.1,x.2.2.2+1)) ?_ ?_ (S6 (by show lk _ _=some (Value.slice _ (x.1.take (x.1.length-1)).length _);rw[rz];rfl) rfl rfl rfl rfl rfl) fun _ hw=>by show XM _ _ [_,_,_,_,_,_,_,aF.row (.slice _ (x.1.take (x.1.length-1)).length _) _ _ (x.1.take (x.1.length-1)).length _] _;rw[rz];exact XM.pick (pk (rr 8 1 [])) hw);all_goals grind [afP]
   ·refine sd (ag ((x.1,some ⟨g2,0,none⟩,x.2.2.1,x.2.2.2+1)) ?_ ?_ S6 (xq (pk (rr 8 1 []))));all_goals grind [YZ]
  ·have hdd:¬kx ns x.2.2.2=dd:=aq;refine rq [0,1,2,3,4,5,6,7,8,9,10,11,12] mixed (ld (.ao .aa) (aL.B3 _ _) (ld .aa (aY.Ev _) ?_));refine cq (xw _ _ _ hI _ _) (pk [3,3,3]) ?_;refine cd ?_ ?_<;>intro h5
   ·have hfe:¬s.toFF.fK (kn x.1).node (kx ns x.2.2.2)=0:=aq;refine XO.v (V.build (vs:= #[]) rfl (v:=.agg (WH.cR WH.nil)) fun _=>kq) rfl (gO ?_);refine gn (.t7 .aa) (aY.st _ _) rfl ⟨rfl,rfl⟩ (dY rfl (.agg rfl (.t7 .aa) (aY.agg _) fZ di) (.tmp rfl) (ah (pk [4,4,0,0,0,1]) rfl ?_));grind [aU,aS,kn,acH]
   ·have hfe:s.toFF.fK (kn x.1).node (kx ns x.2.2.2)=0:=Decidable.byContradiction aq;refine ld (.t3 .aa) (aY.B3 _) (XO.v (V.build (vs:= #[(0,iI (kn x.1).dD),(1,iI (s.toFF.bM (kn x.1).node (kx ns x.2.2.2)))]) rfl (v:=.agg (WH.cR ⟨(kn x.1).dD,s.toFF.bM (kn x.1).node (kx ns x.2.2.2)⟩)) fun _=>kq) rfl (gO ?_));refine cq (Wv _ _ _ _ _ _ _ _ _ hv hC NF _) (pk [4,4]) ?_;refine XO.buildSlice (e:=163) (vs:= #[(0,.agg (WH.cR (tj l ⟨(kn x.1).dD,s.toFF.bM (kn x.1).node (kx ns x.2.2.2)⟩)))]) (A:= #[iI (tj l ⟨(kn x.1).dD,s.toFF.bM (kn x.1).node (kx ns x.2.2.2)⟩).dD,iI (tj l ⟨(kn x.1).dD,s.toFF.bM (kn x.1).node (kx ns x.2.2.2)⟩).node]) rfl (fun _=>kq) rfl rfl ?_;intro h6;refine gO ?_;refine wG (e:=163) (C2:=wC (x.1++[tj l ⟨(kn x.1).dD,s.toFF.bM (kn x.1).node (kx ns x.2.2.2)⟩])) rfl rfl Tryz.underlying269 Ww (.t9 .aa) .aa rfl rfl og og (fun i hi=>acF x.1 _ _ (aY.box _) i hi) rfl ?_;intro pw2 cw2;refine gO ?_;refine sd (ag ((x.1++[tj l ⟨(kn x.1).dD,s.toFF.bM (kn x.1).node (kx ns x.2.2.2)⟩],pw2,cw2,x.2.2.2+1)) ?_ ?_ (S6 (by show lk _ _=some (Value.slice _ (x.1++[tj l ⟨(kn x.1).dD,s.toFF.bM (kn x.1).node (kx ns x.2.2.2)⟩]).length _);rw[hla];rfl) rfl rfl rfl rfl rfl) fun _ hw=>by show XM _ _ [_,_,_,_,_,_,_,aF.row (.slice _ (x.1++[tj l ⟨(kn x.1).dD,s.toFF.bM (kn x.1).node (kx ns x.2.2.2)⟩]).length _) _ _ (x.1++[tj l ⟨(kn x.1).dD,s.toFF.bM (kn x.1).node (kx ns x.2.2.2)⟩]).length _] _;rw[hla];exact XM.pick (pk [2,2,2,2,2,3,3,0]) hw);all_goals grind [Y0]
 ·refine bR (.t7 .aa) og ?_;intro g2 hg2;rw[hg2];refine sd (sd (qC (.t7 .aa) (Vh x.1 _ ⟨og,og⟩) (gn (.t6 .aa) (aY.st _ _) rfl ⟨rfl,rfl⟩ (dY rfl (.agg rfl (.t6 .aa) (aY.agg _) fZ di) (.tmp rfl) (ah (pz 6) rfl ?_)))));have ei:x.2.2.2=n:=og;have e:Am s.toFF l r (ns.take n)=(0,kn x.1):=by rw[<-hwk,ei];exact acI hn
  exact⟨by rw[e];rfl,rfl⟩
def aiL:jR Tryz.prog 9=true:=kq
def adM:uV Tryz.prog 207=some (9,1):=kq
def Wx:fm Tryz.prog 9=some 1:=kq
def Eo(bt bf:Nat)(r:WH)(l:List MT)(p:Option Addr)(cap k c:Nat)(C:Nat->Value)(hv:RV.ok ⟨p,cap,k,l.length,c,C⟩)(hC:MC C l)(NF:l.length<=6)(s:FC)(hI:s.toFF.Sh)(x:ByteArray)(hx:x.size<=100000):Spec Tryz.prog 205 [az bt 0 0,.string x] [.cells bt 0 4 (aL bf r (.slice p l.length c)),aM p cap 168 4 k C,.cells bf 0 321 (aC s),.aW au (FC.bd 9 s),.aW au (FC.bh 3 s)] (fun v H1=>v= .tuple #[.agg (WH.cR (Kt s.toFF l r x)),ay 102 (Vn s.toFF l r x)]/\H1=[.cells bt 0 4 (aL bf r (.slice p l.length c)),aM p cap 168 4 k C,.cells bf 0 321 (aC s),.aW au (FC.bd 9 s),.aW au (FC.bh 3 s)]):=by
 refine Spec.go 22 [0,1,4,5,6,7,14] [] Tryz.func205 fun W=> ?_;apply XO.bQ (z:=.agg (WH.cR WH.nil)) (m:=2) (C:=aY WH.nil) (aY.box _);intro br;apply gO;refine ca (Ie _) .nil ?_;rintro _ _ (⟨e9,rfl,rfl⟩ | ⟨e0,q,ZG,rfl,rfl⟩)
 ·apply gO;refine XO.v (V.build (vs:= #[]) rfl (v:=.agg (WH.cR WH.nil)) fun _=>kq) rfl (gO ?_);refine gn .aa (aY.st _ _) rfl ⟨rfl,rfl⟩ (dY rfl (.agg rfl .aa (aY.agg _) fZ di) (.tmp rfl) (ah (pk [1,1,1,1,1]) rfl ?_));try dsimp only[aU,aS,bG,bN]
  grind [Vn,Kt,ay]
 ·have hsv:=xv x;apply gO;refine ca (NG _ _ _ _ _ _ _ _ _ hv hC NF s hI _ _ (bX x) ((bX x).length) (Nat.le_refl _)) (pk [2,2,2,2,2,0]) ?_;rintro _ _ ⟨rfl,rfl⟩;rw[List.take_length];apply gO;refine gn (.t6 .aa) (aY.st _ _) rfl ⟨rfl,rfl⟩ (dY rfl (.agg rfl (.t6 .aa) (aY.agg _) fZ di) (.tmp rfl) (ah (pz 5) rfl ?_));grind [aU,aS,Vn,Kt]
def aba(bt bf:Nat)(r:WH)(l:List MT)(p:Option Addr)(cap k c:Nat)(C:Nat->Value)(hv:RV.ok ⟨p,cap,k,l.length,c,C⟩)(hC:MC C l)(NF:l.length<=6)(s:FC)(hI:s.toFF.Sh)(x:ByteArray)(hx:x.size<=100000):Spec Tryz.prog 213 [az bt 0 0,.string x] [.cells bt 0 4 (aL bf r (.slice p l.length c)),aM p cap 168 4 k C,.cells bf 0 321 (aC s),.aW au (FC.bd 9 s),.aW au (FC.bh 3 s)] (fun v H1=>v= .tuple #[.agg (WH.cR (BL s.toFF l r x)),ay 102 (HJ s.toFF l r x)]/\H1=[.cells bt 0 4 (aL bf r (.slice p l.length c)),aM p cap 168 4 k C,.cells bf 0 321 (aC s),.aW au (FC.bd 9 s),.aW au (FC.bh 3 s)]):=by
 refine Spec.go 70 [0,1,4,5,6,7,8,9,10,17,24,33,45,63] [] Tryz.func213 fun W=> ?_;apply XO.bQ (z:=.agg (WH.cR WH.nil)) (m:=2) (C:=aY WH.nil) (aY.box _);intro br;apply gO;refine ca (Ie _) .nil ?_;rintro _ _ (⟨e9,rfl,rfl⟩ | ⟨e0,q,ZG,rfl,rfl⟩)
 ·apply gO;refine XO.v (V.build (vs:= #[]) rfl (v:=.agg (WH.cR WH.nil)) fun _=>kq) rfl (gO ?_);refine gn .aa (aY.st _ _) rfl ⟨rfl,rfl⟩ (dY rfl (.agg rfl .aa (aY.agg _) fZ di) (.tmp rfl) (ah (pk [1,1,1,1,1]) rfl ?_));try dsimp only[aU,aS,bG,bN]
  grind [HJ,BL,ay]
 ·have hsv:=xv x;apply gO;refine sd ?_;refine cd ?_ ?_<;>intro h1
  ·have h0:(bX x).length=0:=og;refine lP (.t2 .aa) (aL.Ev _ _) (gn (.ao .aa) (aY.st _ _) rfl ⟨rfl,rfl⟩ (dY rfl (.agg rfl (.ao .aa) (aY.agg _) fZ di) (.tmp rfl) (ah (pk [2,2,2,2,2]) rfl ?_)));try dsimp only[aU,aS,bG,bN]
   grind [HJ,BL,ay]
  ·have h0:¬(bX x).length=0:=og;apply bR .aa og;intro g hg;subst hg;refine sd (zp .aa (rI) ?_);refine cd ?_ ?_<;>intro h2
   ·have hd:nG (bX x)=dd:=h2;refine XO.v (V.build (vs:= #[]) rfl (v:=.agg (WH.cR WH.nil)) fun _=>kq) rfl (gO ?_);refine gn (.ao .aa) (aY.st _ _) rfl ⟨rfl,rfl⟩ (dY rfl (.agg rfl (.ao .aa) (aY.agg _) fZ di) (.tmp rfl) (ah (pk [2,2,2,2,2]) rfl ?_));try dsimp only[aU,aS,bG,bN]
    grind [HJ,BL,ay]
   ·have hd:¬nG (bX x)=dd:=h2;apply qB .aa;intro GZ;refine XO.v (CI (m:=(bX x).length-1) rfl rfl Tryz.underlying207 Wx og og) rfl (gO ?_);refine cq (NG _ _ _ _ _ _ _ _ _ hv hC NF s hI _ _ (bX x) ((bX x).length-1)) (pk [2,2,2,2,2,0]) ?_;apply XO.bQ (z:=.agg (WH.cR WH.nil)) (m:=2) (C:=aY WH.nil) (aY.box _);intro b9;apply gO;apply gn .aa (aY.st _ _) rfl ⟨rfl,rfl⟩;refine cd ?_ ?_<;>intro h3
    ·have hl:¬(Am s.toFF l r (ko (bX x))).1=0:=h3;refine XO.v (V.build (vs:= #[]) rfl (v:=.agg (WH.cR WH.nil)) fun _=>kq) rfl (gO ?_);refine gn (.t7 .aa) (aY.st _ _) rfl ⟨rfl,rfl⟩ (dY rfl (.agg rfl (.t7 .aa) (aY.agg _) fZ di) (.tmp rfl) (ah (pk [1,1,1,1,1]) rfl ?_));grind [aU,aS,HJ,ko,BL]
    ·have hl:(Am s.toFF l r (ko (bX x))).1=0:=Decidable.byContradiction h3;refine rq [0,1,2,3,4,5,6,7,8,9,10,11,12,13,14,15] mixed (ld (.ao .aa) (aL.B3 _ _) (ld .aa (aY.Ev _) (sd (zp (.t6 .aa) (rI) ?_))));refine cq (xw _ _ _ hI _ _) (pk [3,3,3]) ?_;refine cd ?_ ?_<;>intro h4
     ·have hf:¬s.toFF.fK (Am s.toFF l r (ko (bX x))).2.node (nG (bX x))=0:=h4;refine XO.v (V.build (vs:= #[]) rfl (v:=.agg (WH.cR WH.nil)) fun _=>kq) rfl (gO ?_);refine gn (.t7 .aa) (aY.st _ _) rfl ⟨rfl,rfl⟩ (dY rfl (.agg rfl (.t7 .aa) (aY.agg _) fZ di) (.tmp rfl) (ah (pk [4,4,0,0,0]) rfl ?_));grind [aU,aS,HJ,ko,nG,BL]
     ·have hf:s.toFF.fK (Am s.toFF l r (ko (bX x))).2.node (nG (bX x))=0:=Decidable.byContradiction h4;refine ld (.t3 .aa) (aY.B3 _) (XO.v (V.build (vs:= #[(0,iI (Am s.toFF l r (ko (bX x))).2.dD),(1,iI (s.toFF.bM (Am s.toFF l r (ko (bX x))).2.node (nG (bX x))))]) rfl (v:=.agg (WH.cR ⟨(Am s.toFF l r (ko (bX x))).2.dD,s.toFF.bM (Am s.toFF l r (ko (bX x))).2.node (nG (bX x))⟩)) fun _=>kq) rfl (gO ?_));refine gn (.t7 .aa) (aY.st _ _) rfl ⟨rfl,rfl⟩ (dY rfl (.agg rfl (.t7 .aa) (aY.agg _) fZ di) (.tmp rfl) (ah (pk [4,4,0,0,0]) rfl ?_));try dsimp only[aU,aS,bG,bN]
      have e:HJ s.toFF l r x=0:=by unfold HJ;rw[if_neg og,if_neg h0,if_neg hd,if_neg fun q=>q hl,hf]
      have e2:BL s.toFF l r x=⟨(Am s.toFF l r (ko (bX x))).2.dD,s.toFF.bM (Am s.toFF l r (ko (bX x))).2.node (nG (bX x))⟩:=by unfold BL;rw[if_neg og,if_neg h0]
      grind [ay]
def AL(bt bf:Nat)(r:WH)(l:List MT)(p:Option Addr)(cap k c:Nat)(C:Nat->Value)(hv:RV.ok ⟨p,cap,k,l.length,c,C⟩)(hC:MC C l)(NF:l.length<=6)(s:FC)(hI:s.toFF.Sh)(x:ByteArray)(hx:x.size<=100000):Spec Tryz.prog 206 [az bt 0 0,.string x] [.cells bt 0 4 (aL bf r (.slice p l.length c)),aM p cap 168 4 k C,.cells bf 0 321 (aC s),.aW au (FC.bd 9 s),.aW au (FC.bh 3 s)] (fun v H1=>v= .tuple #[.agg (WH.cR (uz s.toFF l r x)),.string (ra s.toFF l r x),ay 102 (yQ s.toFF l r x)]/\H1=[.cells bt 0 4 (aL bf r (.slice p l.length c)),aM p cap 168 4 k C,.cells bf 0 321 (aC s),.aW au (FC.bd 9 s),.aW au (FC.bh 3 s)]):=by
 refine Spec.go 51 [0,1,4,5,6,7,8,9,10,17,31,43] [] Tryz.func206 fun W=> ?_;apply XO.bQ (z:=.agg (WH.cR WH.nil)) (m:=2) (C:=aY WH.nil) (aY.box _);intro br;apply gO;refine ca (Ie _) .nil ?_;rintro _ _ (⟨e9,rfl,rfl⟩ | ⟨e0,q,ZG,rfl,rfl⟩)
 ·apply gO;refine XO.v (V.build (vs:= #[]) rfl (v:=.agg (WH.cR WH.nil)) fun _=>kq) rfl (gO ?_);apply gn .aa (aY.st _ _) rfl ⟨rfl,rfl⟩;refine tE rfl (.agg rfl .aa (aY.agg _) fZ di) (.tmp rfl) (.tmp rfl) (ah (pk [1,1,1,1,1]) rfl ?_);try dsimp only[aU,aS,bG,bN]
  grind [yQ,uz,ra,ay]
 ·have hsv:=xv x;apply gO;refine sd ?_;refine sp 25 rfl ?_ ?_<;>intro h1
  ·have h0:(bX x).length=0:=og;refine XO.v (V.build (vs:= #[]) rfl (v:=.agg (WH.cR WH.nil)) fun _=>kq) rfl (gO ?_);apply gn (.ao .aa) (aY.st _ _) rfl ⟨rfl,rfl⟩;refine tE rfl (.agg rfl (.ao .aa) (aY.agg _) fZ di) (.tmp rfl) (.tmp rfl) (ah (pk [2,2,2,2,2]) rfl ?_);try dsimp only[aU,aS,bG,bN]
   grind [yQ,uz,ra,ay]
  ·have h0:¬(bX x).length=0:=og;apply bR .aa og;intro g hg;subst hg;refine sd ?_;apply zp .aa (rI);refine cd ?_ ?_<;>intro h2
   ·have hd:nG (bX x)=dd:=h2;refine XO.v (V.build (vs:= #[]) rfl (v:=.agg (WH.cR WH.nil)) fun _=>kq) rfl (gO ?_);apply gn (.ao .aa) (aY.st _ _) rfl ⟨rfl,rfl⟩;refine tE rfl (.agg rfl (.ao .aa) (aY.agg _) fZ di) (.tmp rfl) (.tmp rfl) (ah (pk [2,2,2,2,2]) rfl ?_);try dsimp only[aU,aS,bG,bN]
    grind [yQ,uz,ra,ay]
   ·have hd:¬nG (bX x)=dd:=h2;apply qB .aa;intro GZ;refine XO.v (CI (m:=(bX x).length-1) rfl rfl Tryz.underlying207 Wx og og) rfl (gO ?_);refine cq (NG _ _ _ _ _ _ _ _ _ hv hC NF s hI _ _ (bX x) ((bX x).length-1)) (pk [2,2,2,2,2,0]) ?_;apply XO.bQ (z:=.agg (WH.cR WH.nil)) (m:=2) (C:=aY WH.nil) (aY.box _);intro b9;apply gO;apply gn .aa (aY.st _ _) rfl ⟨rfl,rfl⟩;refine cd ?_ ?_<;>intro h3
    ·have hl:¬(Am s.toFF l r (ko (bX x))).1=0:=h3;refine XO.v (V.build (vs:= #[]) rfl (v:=.agg (WH.cR WH.nil)) fun _=>kq) rfl (gO ?_);apply gn (.t7 .aa) (aY.st _ _) rfl ⟨rfl,rfl⟩;refine tE rfl (.agg rfl (.t7 .aa) (aY.agg _) fZ di) (.tmp rfl) (.tmp rfl) (ah (pk [1,1,1,1,1]) rfl ?_);grind [aU,aS,bN,yQ,ko,uz,ra]
    ·have hl:(Am s.toFF l r (ko (bX x))).1=0:=Decidable.byContradiction h3;apply XC.il mixed (f:=8) (l:= #[qF,qF,qF,qF,qF,qF,qF,qF]) rfl rfl XM.kL;apply XQ.load (i:=0) (.cells _ _ _ _) [5] rfl kq rfl .aa (eG rfl eh (aY.agg _) fZ di) rfl kq rfl;apply XQ.pv (i:=1) rfl kq rfl (V.move rfl) rfl rfl;apply XQ.pv (i:=2) rfl kq rfl (V.move rfl) rfl rfl;apply XQ.pv (i:=3) rfl kq rfl (Fh rfl rfl adM og) rfl rfl;apply XQ.load (i:=4) (.row _ _ _ _ _) [] rfl kq rfl (.t6 .aa) (zy rfl eh (rI) aiL) rfl kq rfl;refine XQ.gg (i:=5) rfl kq rfl rfl rfl (.t7 .aa) (aY.st _ _) ⟨rfl,rfl⟩ di (fun _ dX=>⟨fun _=>fb (.t6 .aa) _ dX,fun hs=>(hs 5 (by first | (simp;done) | (simp;rfl)) rfl).elim,trivial⟩) ?_;apply XQ.pv (i:=6) rfl kq rfl (V.assign rfl) rfl rfl;apply XQ.pv (i:=7) rfl kq rfl (V.assign rfl) rfl rfl;apply XQ.done kq;apply gE;refine tE rfl (.agg rfl (.t7 .aa) (aY.agg _) fZ di) (.tmp rfl) (.tmp rfl) (ah (pk [1,1,1,1,1]) rfl ?_);have e:yQ s.toFF l r x=0:=by unfold yQ;rw[if_neg og,if_neg (by rintro(a | a);exact h0 a;exact hd a),hl]
     have e2:uz s.toFF l r x=(Am s.toFF l r (ko (bX x))).2:=by unfold uz;rw[if_neg og]
     have e3:ra s.toFF l r x=nG (bX x):=by unfold ra;rw[if_neg og]
     exact⟨by rw[e,e2,e3];rfl,rfl⟩
end Go.X.Tr
