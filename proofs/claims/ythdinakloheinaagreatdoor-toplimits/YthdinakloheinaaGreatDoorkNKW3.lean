import Derived.Test.YthdinakloheinaaGreatDoorkNW3
import Derived.Ground.NamesProg
import Derived.Shelf.Lays
set_option linter.all false
namespace Go.X.Tr
open Go Go.Proofs Go.X
set_option maxRecDepth 20000
set_option maxHeartbeats 4000000
def uU(b o:Nat)(s:FC)(hI:s.toFF.Sh)(n:Int):Spec Tryz.prog 123 [ay b o 0,iI n] [.cells b o 321 (aC s),.aQ au (s.aX 9),.aQ au (s.aY 3)] (fun v H1=>v=ax 102 (s.cC n 0)/\∃ t:FC,t.toFF=s.ea n/\t.rP=s.rP/\t.rC=s.rC/\H1=[.cells b o 321 (aC t),.aQ au (FC.aX 9 t),.aQ au (FC.aY 3 t)]):=by
 refine Spec.go 24 [0,1,4,5,10] [] Tryz.func123 fun W=> ?_;refine cq (AO _ _ _ _) .h1 ?_;refine cd ?_ ?_<;>intro h1
 ·obtain⟨i1,i2,i3⟩:=FF.yH (show s.cC n 0=0 by simpa using h1);have i0:s.cC n 0=0:=by simpa using h1
  have hnb:=hI.num n og og;refine rq [0,1,2,3,4,5,6,7,8,9,10,11,12] mixed ?_;refine sd ?_;apply ld .aa (kr _ _);refine sd ?_;refine sd ?_;apply st .aa (ur _ _ og _) rfl;refine bL (pz 3) ?_;exact⟨rfl,({s with bj:=ad s.bj n (s.bj n+1)} :FC),by rw[YJ rfl];unfold FF.ea;rw[if_pos i0],rfl,rfl,rfl⟩
 ·have i0:s.cC n 0≠0:=aq;refine bL (pz 3) ?_;exact⟨rfl,s,by unfold FF.ea;rw[if_neg i0],rfl,rfl,rfl⟩
def GY(b o:Nat)(s:FC)(hI:s.toFF.Sh)(n:Int):Spec Tryz.prog 144 [ay b o 0,iI n] [.cells b o 321 (aC s),.aQ au (s.aX 9),.aQ au (s.aY 3)] (fun v H1=>v=ax 102 (s.DC n)/\∃ t:FC,t.toFF=s.kQ n/\t.rP=s.rP/\t.rC=s.rC/\H1=[.cells b o 321 (aC t),.aQ au (FC.aX 9 t),.aQ au (FC.aY 3 t)]):=by
 refine Spec.go 36 [0,1,4,5,10,19] [] Tryz.func144 fun W=> ?_;refine cq (AO _ _ _ _) .h1 ?_;refine cd ?_ ?_<;>intro h1
 ·have i0:s.cC n 0≠0:=aq;refine bL (pz 3) ?_;try dsimp only[aS,aR,bI,bN]
  have e:s.DC n=s.cC n 0:=by unfold FF.DC;rw[if_pos og]
  exact⟨by rw[e],s,by unfold FF.kQ;rw[if_neg og],rfl,rfl,rfl⟩
 ·obtain⟨i1,i2,i3⟩:=FF.yH (show s.cC n 0=0 by simpa using h1);have i0:s.cC n 0=0:=by simpa using h1
  have hnb:=hI.num n og og;refine sd ?_;apply ld .aa (kr _ _);refine cd ?_ ?_<;>intro h2
  ·refine bL (pz 3) ?_;have e:s.DC n=8:=by unfold FF.DC;rw[if_neg og,if_pos og]
   exact⟨by rw[e]<;>rfl,s,by unfold FF.kQ;rw[if_neg og],rfl,rfl,rfl⟩
  ·refine rq [0,1,2,3,4,5,6,7,8,9,10,11,12] mixed ?_;refine sd ?_;apply ld .aa (kr _ _);refine sd ?_;refine sd ?_;apply st .aa (ur _ _ og _) rfl;refine ca (NB _ _ ({s with bj:=ad s.bj n (s.bj n-1)} :FC) n) (pz 3) ?_;rintro _ _ ⟨rfl,t,ht,hp,hc,rfl⟩;apply gO;refine bL (pz 3) ?_;have e:s.DC n=0:=by unfold FF.DC;rw[if_neg og,if_neg og]
   exact⟨by rw[e]<;>rfl,t,by rw[ht];unfold FF.kQ;rw[if_pos e],hp,hc,rfl⟩
def Wj(b o:Nat)(s:FC)(hI:s.toFF.Sh)(n:Int)(x:ByteArray):Spec Tryz.prog 210 [ay b o 0,iI n,.string x] [.cells b o 321 (aC s),.aQ au (s.aX 9),.aQ au (s.aY 3)] (fun v H1=>v=ax 102 (s.dz n x)/\∃ t:FC,t.toFF=s.du n x/\t.rP=s.rP/\t.rC=s.rC/\H1=[.cells b o 321 (aC t),.aQ au (FC.aX 9 t),.aQ au (FC.aY 3 t)]):=by
 refine Spec.go 60 [0,1,2,6,7,8,9,18,44] [] Tryz.func210 fun W=> ?_;refine cq (xy _ _ _ hI _ _) (pz 3) ?_;refine cd ?_ ?_<;>intro h1
 ·have f0:s.fK n x≠0:=aq;refine bL (pz 3) ?_;try dsimp only[aS,aR,bI,bN]
  have e:s.dz n x=s.fK n x:=by unfold FF.dz;rw[if_pos og]
  exact⟨by rw[e],s,by unfold FF.du;rw[if_neg og],rfl,rfl,rfl⟩
 ·obtain⟨i1,i2,i3,k1,k2,hh⟩:=hI.gF (show s.fK n x=0 by simpa using h1);have f0:s.fK n x=0:=by simpa using h1
  have hnb:=hI.num (s.bO n x) og og;have hkr:=hI.js (s.bO n x) og og;refine sd ?_;apply ld .aa (fR _ _);refine sp 30 rfl ?_ ?_<;>intro h2
  ·apply ld .aa (ml _ _);refine sp 37 rfl ?_ ?_<;>intro h3
   ·refine bL (pz 3) ?_;have e:s.dz n x=5:=by unfold FF.dz;rw[if_neg og,if_pos (by unfold FF.MH;exact⟨aq,og⟩)]
    exact⟨by rw[e]<;>rfl,s,by unfold FF.du;rw[if_neg og],rfl,rfl,rfl⟩
   ·apply ld .aa (kr _ _);refine cd ?_ ?_<;>intro h4
    ·refine bL (pz 3) ?_;have e:s.dz n x=5:=by unfold FF.dz;rw[if_neg og,if_pos (by unfold FF.MH;exact⟨aq,og⟩)]
     exact⟨by rw[e]<;>rfl,s,by unfold FF.du;rw[if_neg og],rfl,rfl,rfl⟩
    ·refine ca (Ps _ _ _ hI _ _ og aq) (pz 3) ?_;rintro _ _ ⟨rfl,t,ht,hp,hc,rfl⟩;have hln:t.bM (s.bO n x)=s.bM (s.bO n x):=congrFun (congrArg FF.bM ht) _;apply gO;apply ld .aa (lA _ _);refine sd ?_;apply st .aa (n5 _ _ og _) rfl;refine ca (NB _ _ ({t with bM:=ad t.bM (s.bO n x) (t.bM (s.bO n x)-1)} :FC) (s.bO n x)) (pz 3) ?_;rintro _ _ ⟨rfl,t2,Lc,Ly,BA,rfl⟩;apply gO;refine bL (pz 3) ?_;have e:s.dz n x=0:=by unfold FF.dz;rw[if_neg og,if_neg (by unfold FF.MH;omega)]
     exact⟨by rw[e]<;>rfl,t2,by rw[Lc,DI ht,hln];unfold FF.du;rw[if_pos e];rfl,Ly.trans hp,BA.trans hc,rfl⟩
  ·refine ca (Ps _ _ _ hI _ _ og aq) (pz 3) ?_;rintro _ _ ⟨rfl,t,ht,hp,hc,rfl⟩;have hln:t.bM (s.bO n x)=s.bM (s.bO n x):=congrFun (congrArg FF.bM ht) _;apply gO;apply ld .aa (lA _ _);refine sd ?_;apply st .aa (n5 _ _ og _) rfl;refine ca (NB _ _ ({t with bM:=ad t.bM (s.bO n x) (t.bM (s.bO n x)-1)} :FC) (s.bO n x)) (pz 3) ?_;rintro _ _ ⟨rfl,t2,Lc,Ly,BA,rfl⟩;apply gO;refine bL (pz 3) ?_;have e:s.dz n x=0:=by unfold FF.dz;rw[if_neg og,if_neg (by unfold FF.MH;omega)]
   exact⟨by rw[e]<;>rfl,t2,by rw[Lc,DI ht,hln];unfold FF.du;rw[if_pos e];rfl,Ly.trans hp,BA.trans hc,rfl⟩
def adn(b o:Nat)(s:FC)(hI:s.toFF.Sh)(n a m:Int):Spec Tryz.prog 140 [ay b o 0,iI n,iI a,iI m] [.cells b o 321 (aC s)] (fun v H1=>v= .tuple #[.string (s.kM n a m),ax 102 (s.mj n a m)]/\H1=[.cells b o 321 (aC s)]):=by
 refine Spec.go 47 [0,1,2,3,8,9,10,11,16,23] [] Tryz.func140 fun W=> ?_;refine cq (NA _ _ _ _) .h1 ?_;refine cd ?_ ?_<;>intro h1
 ·have i0:s.cC n 1≠0:=aq;refine er .h1 ?_;have e:s.mj n a m=s.cC n 1:=by unfold FF.mj;rw[if_pos og]
  exact⟨by rw[show s.kM n a m=ByteArray.empty from by unfold FF.kM;rw[if_neg og],e];rfl,rfl⟩
 ·obtain⟨i1,i2,i3,i4⟩:=FF.jt (show s.cC n 1=0 by simpa using h1);have i0:s.cC n 1=0:=by simpa using h1
  have hd:=hI.data n og og;refine sp 20 rfl ?_ ?_<;>intro h2
  ·refine er .h1 ?_;have e:s.mj n a m=1:=by unfold FF.mj;rw[if_neg og,if_pos og]
   exact⟨by rw[show s.kM n a m=ByteArray.empty from by unfold FF.kM;rw[if_neg og],e];rfl,rfl⟩
  ·refine cd ?_ ?_<;>intro h3
   ·refine er .h1 ?_;have e:s.mj n a m=1:=by unfold FF.mj;rw[if_neg og,if_pos og]
    exact⟨by rw[show s.kM n a m=ByteArray.empty from by unfold FF.kM;rw[if_neg og],e];rfl,rfl⟩
   ·refine sd ?_;apply ld .aa (px _ _);refine sd ?_;refine sd ?_;refine sd ?_;refine er .h1 ?_;have e:s.mj n a m=0:=by unfold FF.mj;rw[if_neg og,if_neg og]
    exact⟨by rw[show s.kM n a m=_ from by unfold FF.kM;rw[if_pos e],e];rfl,rfl⟩
def ado(b o:Nat)(s:FC)(hI:s.toFF.Sh)(d:Int->Nat)(hc:∀ k,s.toFF.Ch d k)(n:Int)(x:ByteArray)(to:Int)(y:ByteArray)(hy:y.size<=9223372036854775807):Spec Tryz.prog 211 [ay b o 0,iI n,.string x,iI to,.string y] [.cells b o 321 (aC s),.aQ au (s.aX 9),.aQ au (s.aY 3)] (fun v H1=>v=ax 102 (s.eN d n x to y)/\∃ t:FC,t.toFF=s.move d n x to y/\t.rP=s.rP/\t.rC=s.rC/\H1=[.cells b o 321 (aC t),.aQ au (FC.aX 9 t),.aQ au (FC.aY 3 t)]):=by
 refine Spec.go 95 [0,1,2,3,4,10,11,12,21,26,42,57,68,87] [] Tryz.func211 fun W=> ?_;refine cq (xy _ _ _ hI _ _) (pz 3) ?_;refine cd ?_ ?_<;>intro h1
 ·obtain⟨i1,i2,i3,k1,k2,hh⟩:=hI.gF (show s.fK n x=0 by simpa using h1);have f0:s.fK n x=0:=by simpa using h1
  refine cq (Pr _ _ _ _) .h1 ?_;refine cd ?_ ?_<;>intro h2
  ·refine bL (pz 3) ?_;try dsimp only[aS,aR,bI,bN]
   have e0:s.fX d n x to=s.cC to 2:=by unfold FF.fX;rw[if_neg og,if_pos og]
   have e:s.eN d n x to y=s.fX d n x to:=by unfold FF.eN;rw[if_pos og]
   exact⟨by rw[e,e0],s,by unfold FF.move;rw[if_pos og],rfl,rfl,rfl⟩
  ·obtain⟨t1,t2,_,t3⟩:=FF.jt (show s.cC to 2=0 by simpa using h2);have t3:=t3 og;have t0:s.cC to 2=0:=by simpa using h2
   refine rq [0,1,2,3,4,5,6,7,8,9,10,11,12,13,14] mixed (sd (ld .aa (gP _ _) (sd (ld .aa (gP _ _) ?_))));refine cd ?_ ?_<;>intro h3
   ·refine bL (pz 3) ?_;have e0:s.fX d n x to=11:=by unfold FF.fX;rw[if_neg og,if_neg og,if_pos aq]
    have e:s.eN d n x to y=s.fX d n x to:=by unfold FF.eN;rw[if_pos og]
    exact⟨by rw[e,e0];rfl,s,by unfold FF.move;rw[if_pos og],rfl,rfl,rfl⟩
   ·refine sd (ld .aa (fR _ _) ?_);refine sp 52 rfl ?_ ?_<;>intro h4
    ·refine cq (Zo _ _ _ d _ _ ⟨og,og,t3⟩ (hc _)) .h1 ?_;refine wM ?_ ?_<;>intro h5
     ·try simp only[sb]at h5
      have Xi:FF.Kg d s.toFF to (s.bO n x)=true:=by simpa using h5
      refine bL (pz 3) ?_;have e0:s.fX d n x to=5:=by unfold FF.fX;rw[if_neg og,if_neg og,if_neg og,if_pos ⟨aq,Xi⟩]
      have e:s.eN d n x to y=s.fX d n x to:=by unfold FF.eN;rw[if_pos og]
      exact⟨by rw[e,e0];rfl,s,by unfold FF.move;rw[if_pos og],rfl,rfl,rfl⟩
     ·try simp only[sb]at h5
      have Xi:FF.Kg d s.toFF to (s.bO n x)=false:=by simpa using h5
      refine ca (Ps _ _ _ hI _ _ og aq) (pz 3) ?_;rintro _ _ ⟨rfl,t,ht,hp,Eh,rfl⟩;have RN:t.toFF.Sh:=by rw[ht];exact hI.ey i1 i2 hh
      apply gO;refine cq (EB _ _ _ RN _ _ aq) (pz 3) ?_;refine cd ?_ ?_<;>intro h6
      ·have hm:(s.ey n x).fi to y≠0:=by rw[<-ht];assumption
       refine ca (EC _ _ _ RN _ _ _) (pz 3) ?_;rintro _ _ ⟨rfl,t2,Lc,Ly,BA,rfl⟩;apply gO;refine bL (pz 3) ?_;try dsimp only[aS,aR,bI,bN]
       have e0:s.fX d n x to=0:=by unfold FF.fX;rw[if_neg og,if_neg og,if_neg og,if_neg fun q=>absurd q.2 (by rw[Xi];simp)]
       have e:s.eN d n x to y=(s.ey n x).fi to y:=by unfold FF.eN;rw[if_neg og]
       exact⟨by rw[e,ht],t2,by rw[Lc,ht];unfold FF.move;rw[if_neg og,if_pos og],Ly.trans hp,BA.trans Eh,rfl⟩
      ·have hm:(s.ey n x).fi to y=0:=by rw[<-ht];simpa using h6
       refine ca (EC _ _ _ RN _ _ _) (pz 3) ?_;rintro _ _ ⟨rfl,t2,Lc,Ly,BA,rfl⟩;have II:t2.aO (s.bO n x)=s.aO (s.bO n x):=(congrFun (congrArg FF.aO Lc) _).trans (congrFun (congrArg FF.aO ht) _);apply gO;refine sd (ld .aa (fR _ _) ?_);refine cd ?_ ?_<;>intro h7
       ·refine sd (st .aa (sC _ _ og _) rfl (aM rfl rfl (ah (pz 3) rfl ?_)));have e0:s.fX d n x to=0:=by unfold FF.fX;rw[if_neg og,if_neg og,if_neg og,if_neg fun q=>absurd q.2 (by rw[Xi];simp)]
        have e:s.eN d n x to y=(s.ey n x).fi to y:=by unfold FF.eN;rw[if_neg og]
        exact⟨by rw[e,hm];rfl,({t2 with up:=ad t2.up (s.bO n x) to} :FC),by rw[aft Lc,ht];unfold FF.move;rw[if_neg og,if_neg og,if_pos og];rfl,Ly.trans hp,BA.trans Eh,rfl⟩
       ·refine bL (pz 3) ?_;omega
    ·refine ca (Ps _ _ _ hI _ _ og aq) (pz 3) ?_;rintro _ _ ⟨rfl,t,ht,hp,Eh,rfl⟩;have RN:t.toFF.Sh:=by rw[ht];exact hI.ey i1 i2 hh
     apply gO;refine cq (EB _ _ _ RN _ _ aq) (pz 3) ?_;refine cd ?_ ?_<;>intro h8
     ·have hm:(s.ey n x).fi to y≠0:=by rw[<-ht];assumption
      refine ca (EC _ _ _ RN _ _ _) (pz 3) ?_;rintro _ _ ⟨rfl,t2,Lc,Ly,BA,rfl⟩;apply gO;refine bL (pz 3) ?_;try dsimp only[aS,aR,bI,bN]
      have e0:s.fX d n x to=0:=by unfold FF.fX;rw[if_neg og,if_neg og,if_neg og,if_neg fun q=>absurd q.1 aq]
      have e:s.eN d n x to y=(s.ey n x).fi to y:=by unfold FF.eN;rw[if_neg og]
      exact⟨by rw[e,ht],t2,by rw[Lc,ht];unfold FF.move;rw[if_neg og,if_pos og],Ly.trans hp,BA.trans Eh,rfl⟩
     ·have hm:(s.ey n x).fi to y=0:=by rw[<-ht];simpa using h8
      refine ca (EC _ _ _ RN _ _ _) (pz 3) ?_;rintro _ _ ⟨rfl,t2,Lc,Ly,BA,rfl⟩;have II:t2.aO (s.bO n x)=s.aO (s.bO n x):=(congrFun (congrArg FF.aO Lc) _).trans (congrFun (congrArg FF.aO ht) _);apply gO;refine sd (ld .aa (fR _ _) ?_);refine cd ?_ ?_<;>intro h9
      ·refine sd (st .aa (sC _ _ og _) rfl (aM rfl rfl (ah (pz 3) rfl ?_)));omega
      ·refine bL (pz 3) ?_;have e0:s.fX d n x to=0:=by unfold FF.fX;rw[if_neg og,if_neg og,if_neg og,if_neg fun q=>absurd q.1 aq]
       have e:s.eN d n x to y=(s.ey n x).fi to y:=by unfold FF.eN;rw[if_neg og]
       exact⟨by rw[e,hm];rfl,t2,by rw[Lc,ht];unfold FF.move;rw[if_neg og,if_neg og,if_neg og],Ly.trans hp,BA.trans Eh,rfl⟩
 ·have f0:s.fK n x≠0:=aq;refine XF rfl aq (aM rfl rfl (ah (pz 3) rfl ?_));try dsimp only[aS,aR,bI,bN]
  have e0:s.fX d n x to=s.fK n x:=by unfold FF.fX;rw[if_pos og]
  have e:s.eN d n x to y=s.fX d n x to:=by unfold FF.eN;rw[if_pos og]
  exact⟨by rw[e,e0],s,by unfold FF.move;rw[if_pos og],rfl,rfl,rfl⟩
def ED:CH Tryz.prog 231=true:=kq
def Zp(b o:Nat)(s:FC)(hI:s.toFF.Sh)(n a:Int)(x:ByteArray)(hx:x.size<=9223372036854775807):Spec Tryz.prog 137 [ay b o 0,iI n,iI a,.string x] [.cells b o 321 (aC s),.aQ au (s.aX 9),.aQ au (s.aY 3)] (fun v H1=>v=ax 102 (s.fg n a x)/\∃ t:FC,t.toFF=s.cm n a x/\t.rP=s.rP/\t.rC=s.rC/\H1=[.cells b o 321 (aC t),.aQ au (FC.aX 9 t),.aQ au (FC.aY 3 t)]):=by
 refine Spec.go 68 [0,1,2,3,8,9,10,15,18,28,31] [] Tryz.func137 fun W=> ?_;refine cq (NA _ _ _ _) .h1 ?_;refine cd ?_ ?_<;>intro h1
 ·have i0:s.cC n 1≠0:=aq;refine bL (pz 3) ?_;try dsimp only[aS,aR,bI,bN]
  have e:s.fg n a x=s.cC n 1:=by unfold FF.fg;rw[if_pos og]
  exact⟨by rw[e],s,by unfold FF.cm;rw[if_neg og],rfl,rfl,rfl⟩
 ·obtain⟨i1,i2,i3,i4⟩:=FF.jt (show s.cC n 1=0 by simpa using h1);have i0:s.cC n 1=0:=by simpa using h1
  have hd:=hI.data n og og;refine cd ?_ ?_<;>intro h2
  ·refine bL (pz 3) ?_;have e:s.fg n a x=1:=by unfold FF.fg;rw[if_neg og,if_pos og]
   exact⟨by rw[e]<;>rfl,s,by unfold FF.cm;rw[if_neg og],rfl,rfl,rfl⟩
  ·refine sp 22 rfl ?_ ?_<;>intro h3
   ·refine bL (pz 3) ?_;have e:s.fg n a x=4:=by unfold FF.fg;rw[if_neg og,if_neg og,if_pos og]
    exact⟨by rw[e]<;>rfl,s,by unfold FF.cm;rw[if_neg og],rfl,rfl,rfl⟩
   ·refine sd ?_;refine cd ?_ ?_<;>intro h4
    ·refine bL (pz 3) ?_;have e:s.fg n a x=4:=by unfold FF.fg;rw[if_neg og,if_neg og,if_pos og]
     exact⟨by rw[e]<;>rfl,s,by unfold FF.cm;rw[if_neg og],rfl,rfl,rfl⟩
    ·refine cd ?_ ?_<;>intro h5
     ·refine bL (pz 3) ?_;have e:s.fg n a x=0:=by unfold FF.fg;rw[if_neg og,if_neg og,if_neg og]
      exact⟨by rw[e]<;>rfl,s,by unfold FF.cm;rw[if_neg fun q=>q.2 aq],rfl,rfl,rfl⟩
     ·have rI:x.size≠0:=fun q=>(by assumption:¬x=⟨#[]⟩) (yF.2 q);have VS:x≠ByteArray.empty:=aq;refine sd ?_;apply ld .aa (px _ _);refine sd ?_;apply XO.P8 rfl rfl og ED rfl;intro bb;apply gO;refine sd ?_;apply ld (.ao .aa) (px _ _);apply XO.N5 rfl rfl ED og og .aa rfl rfl;apply gO;refine XO.v (P9 rfl rfl ED og) rfl (gO ?_);apply XO.N5 rfl rfl ED og og .aa rfl rfl;apply gO;refine rq [0,1,2,3,4,5,6,7,8] mixed ?_;refine XO.l (XU (B:=W9 (s.data n) a.toNat x) rfl (by rw[FF.yM];omega) (fb .aa) ⟨by rw[FF.yM];omega,fun i h=>UX _ _ _ i h⟩ ED Tryz.underlying9) rfl (gO ?_);refine sd ?_;apply st (.ao .aa) (DD _ _ og _) rfl;refine aM rfl rfl (ah (pk [1,1,1]) rfl ?_);have e:s.fg n a x=0:=by unfold FF.fg;rw[if_neg og,if_neg og,if_neg og]
      exact⟨by rw[e]<;>rfl,({s with data:=ad s.data n (W9 (s.data n) a.toNat x)} :FC),by unfold FF.cm;rw[if_pos ⟨e,VS⟩],rfl,rfl,rfl⟩
def Zq(b o:Nat)(K:Int)(hK:K<=1000000)(s:PS)(hI:s.Inv K)(n:Int):Spec Tryz.prog 193 [ay b o 0,iI n] [.cells b o 24 (bK s)] (fun v H1=>((s.is n=0/\0<=n/\n<8)/\v= .tuple #[ay b o (0+0+n.toNat*3),.nilIface]/\H1=[.cells b o 24 (bK s)])\/(s.is n≠0/\v= .tuple #[.pointer none,.iface 102 (iI (s.is n))]/\H1=[.cells b o 24 (bK s)])):=by
 have b0:=hI.e0 n;have b1:=hI.e1 n;have bl:=hI.len n;refine Spec.go 35 [0,1,4,5,11,28] [] Tryz.func193 fun W=> ?_;refine sp 8 rfl ?_ ?_<;>intro h1
 ·refine er .h1 ?_;grind [aS,aR,bN,PS.is]
 ·refine cd ?_ ?_<;>intro h2
  ·refine er .h1 ?_;grind [aS,aR,bN,PS.is]
  ·refine rq [0,1,2,3,4,5,6,7,8,9,10,11,12,13,14,15] mixed ?_;refine sd ?_;apply ld .aa (eH _ _);refine sd ?_;apply ld .aa (eb _ _);refine sd ?_;refine cd ?_ ?_<;>intro h3
   ·refine er .h1 ?_;grind [aS,aR,bN,PS.is]
   ·refine sd ?_;refine er .h1 ?_;grind [aS,aR,bN,PS.is]
def EE(b o i:Nat):Spec Tryz.prog 196 [ay b o i,.bool true] [] (fun v H1=>v=ay b o (i+2)/\H1=[]):=by
 refine Spec.go 12 [0,1,4,5] [] Tryz.func196 fun W=> ?_;refine bL .nil ?_;grind [aS,aR]
def BC(b o i:Nat):Spec Tryz.prog 196 [ay b o i,.bool false] [] (fun v H1=>v=ay b o (i+1)/\H1=[]):=by
 refine Spec.go 12 [0,1,4,5] [] Tryz.func196 fun W=> ?_;refine bL .nil ?_;grind [aS,aR]
def adp(b o:Nat)(K:Int)(hK:K<=1000000)(s:PS)(hI:s.Inv K):Spec Tryz.prog 135 [ay b o 0] [.cells b o 24 (bK s)] (fun v H1=>v= .tuple #[iI s.make.1,ax 102 s.make.2.1]/\H1=[.cells b o 24 (bK s.make.2.2)]):=by
 refine Spec.go 33 [0,2,3,4,5,6,23] [] Tryz.func135 fun W=> ?_;refine lp (σ:=Int) (fun k=>(8-k).toNat) (fun k=>(0<=k/\k<=8)/\∀ j:Int,0<=j->j<k->s.e j 0+s.e j 1≠0) (fun k=>[(5,iI k),(0,ay b o 0)]) (fun k=>XM W (bX [.cells b o 24 (bK s)]) [.cells b o 24 (bK s)]) (0) ?_ S2 (xq .h1) ?_
 ·grind
 intro k hk;obtain⟨hk,hn⟩:=hk;have b0:=hI.e0 k;have b1:=hI.e1 k;apply gC;refine cd ?_ ?_<;>intro h1
 ·refine rq [0,1,2,3,4,5,6,7,8,9,10,11,12,13,14,15] mixed ?_;refine sd ?_;apply ld .aa (eH _ _);refine sd ?_;apply ld .aa (eb _ _);refine sd ?_;refine cd ?_ ?_<;>intro h2
  ·refine XO.v (V.build (vs:= #[(1,iI 1),(2,iI 1)]) rfl (v:=.agg #[.string ⟨#[]⟩,iI 1,iI 1]) fun _=>kq) rfl (gO ?_);refine sd ?_;apply fW .aa (QW hI og aq) rfl ⟨rfl,rfl⟩;refine er .h1 ?_;grind [aS,aR,bN,PS.QV,ax]
  ·refine sd ?_;refine ag (k+1) ?_ ?_ S2 (xq .h1);all_goals grind
 ·refine er .h1 ?_;grind [aS,aR,bN,HK,ax]
def Lh(b o:Nat)(K:Int)(hK:K<=1000000)(s:PS)(hI:s.Inv K)(n:Int):Spec Tryz.prog 145 [ay b o 0,iI n,.bool true] [.cells b o 24 (bK s)] (fun v H1=>v=ax 102 (s.mL n true (-1)).1/\H1=[.cells b o 24 (bK (s.mL n true (-1)).2)]):=by
 have b0:=hI.e0 n;have b1:=hI.e1 n;have bl:=hI.len n;have Qa:(s.e n (IH true)=0)=(s.e n 1=0):=by simp[IH]
 refine Spec.go 45 [0,1,2,6,7,8,16,23,41] [] Tryz.func145 fun W=> ?_;refine ca (Zq _ _ K hK s hI _) .h1 ?_;rintro _ _ (⟨h1,rfl,rfl⟩ | ⟨h1,rfl,rfl⟩)
 ·obtain⟨h1,h2,h3⟩:=h1;apply gO;refine cq (EE _ _ _) .nil ?_;apply ld .aa (eb _ _);refine cd ?_ ?_<;>intro h4
  ·refine bL .h1 ?_;grind [aS,aR,bN,aJ,jI]
  ·refine cq (EE _ _ _) .nil ?_;apply ld .aa (eb _ _);refine sd ?_;apply st .aa (lG _ _ og _) rfl;refine rq [0,1,2,3,4,5,6,7,8,9] mixed ?_;have c0:({s with e:=cL s.e n 1 (s.e n 1-1)} :PS).e n 0=s.e n 0+0:=by simp[cL]
   have c0f:cL s.e n 1 (s.e n 1-1) n 0=s.e n 0+0:=by simp[cL]
   have c1:({s with e:=cL s.e n 1 (s.e n 1-1)} :PS).e n 1=s.e n 1+ -1:=by simp[cL];omega
   have c1f:cL s.e n 1 (s.e n 1-1) n 1=s.e n 1+ -1:=by simp[cL];omega
   apply ld .aa (eH _ _);apply ld .aa (eb _ _);refine sd ?_;refine cd ?_ ?_<;>intro h5
   ·refine XO.v (V.build (vs:= #[]) rfl (v:=.agg #[.string ⟨#[]⟩,iI 0,iI 0]) fun _=>kq) rfl (gO ?_);apply fW .aa (Gi _) rfl ⟨rfl,rfl⟩;refine bL .h1 ?_;first
    | (rw[lN aq];exact⟨(aJ _ aq).symm,rfl⟩)
    | (rw[jI aq aq];exact⟨rfl,rfl⟩)
    | (rw[PS.B8 aq aq];exact⟨rfl,rfl⟩)
    | (rw[PS.vr aq aq];refine⟨rfl,?_⟩;exact congrArg (fun e=>[aG.cells b o 24 (bK {b:=ad s.b n ⟨#[]⟩,e:=e})]) (B9))
   ·refine bL .h1 ?_;first
    | (rw[lN aq];exact⟨(aJ _ aq).symm,rfl⟩)
    | (rw[jI aq aq];exact⟨rfl,rfl⟩)
    | (rw[PS.B8 aq aq];exact⟨rfl,rfl⟩)
    | (rw[PS.vr aq aq];refine⟨rfl,?_⟩;exact congrArg (fun e=>[aG.cells b o 24 (bK {b:=ad s.b n ⟨#[]⟩,e:=e})]) (B9))
 ·apply gO;refine bL .h1 ?_;grind [aS,aR,lN,aJ]
def Is(b o:Nat)(K:Int)(hK:K<=1000000)(s:PS)(hI:s.Inv K)(n:Int):Spec Tryz.prog 145 [ay b o 0,iI n,.bool false] [.cells b o 24 (bK s)] (fun v H1=>v=ax 102 (s.mL n false (-1)).1/\H1=[.cells b o 24 (bK (s.mL n false (-1)).2)]):=by
 have b0:=hI.e0 n;have b1:=hI.e1 n;have bl:=hI.len n;have Qa:(s.e n (IH false)=0)=(s.e n 0=0):=by simp[IH]
 refine Spec.go 45 [0,1,2,6,7,8,16,23,41] [] Tryz.func145 fun W=> ?_;refine ca (Zq _ _ K hK s hI _) .h1 ?_;rintro _ _ (⟨h1,rfl,rfl⟩ | ⟨h1,rfl,rfl⟩)
 ·obtain⟨h1,h2,h3⟩:=h1;apply gO;refine cq (BC _ _ _) .nil ?_;apply ld .aa (eH _ _);refine cd ?_ ?_<;>intro h4
  ·refine bL .h1 ?_;grind [aS,aR,bN,aJ,jI]
  ·refine cq (BC _ _ _) .nil ?_;apply ld .aa (eH _ _);refine sd ?_;apply st .aa (mh _ _ og _) rfl;refine rq [0,1,2,3,4,5,6,7,8,9] mixed ?_;have c0:({s with e:=cL s.e n 0 (s.e n 0-1)} :PS).e n 0=s.e n 0+ -1:=by simp[cL];omega
   have c0f:cL s.e n 0 (s.e n 0-1) n 0=s.e n 0+ -1:=by simp[cL];omega
   have c1:({s with e:=cL s.e n 0 (s.e n 0-1)} :PS).e n 1=s.e n 1+0:=by simp[cL]
   have c1f:cL s.e n 0 (s.e n 0-1) n 1=s.e n 1+0:=by simp[cL]
   apply ld .aa (eH _ _);apply ld .aa (eb _ _);refine sd ?_;refine cd ?_ ?_<;>intro h5
   ·refine XO.v (V.build (vs:= #[]) rfl (v:=.agg #[.string ⟨#[]⟩,iI 0,iI 0]) fun _=>kq) rfl (gO ?_);apply fW .aa (Gi _) rfl ⟨rfl,rfl⟩;refine bL .h1 ?_;first
    | (rw[lN aq];exact⟨(aJ _ aq).symm,rfl⟩)
    | (rw[jI aq aq];exact⟨rfl,rfl⟩)
    | (rw[PS.B8 aq aq];exact⟨rfl,rfl⟩)
    | (rw[PS.vr aq aq];refine⟨rfl,?_⟩;exact congrArg (fun e=>[aG.cells b o 24 (bK {b:=ad s.b n ⟨#[]⟩,e:=e})]) (B9))
   ·refine bL .h1 ?_;first
    | (rw[lN aq];exact⟨(aJ _ aq).symm,rfl⟩)
    | (rw[jI aq aq];exact⟨rfl,rfl⟩)
    | (rw[PS.B8 aq aq];exact⟨rfl,rfl⟩)
    | (rw[PS.vr aq aq];refine⟨rfl,?_⟩;exact congrArg (fun e=>[aG.cells b o 24 (bK {b:=ad s.b n ⟨#[]⟩,e:=e})]) (B9))
 ·apply gO;refine bL .h1 ?_;grind [aS,aR,lN,aJ]
def adq(b o:Nat)(K:Int)(hK:K<=1000000)(s:PS)(hI:s.Inv K)(n m:Int):Spec Tryz.prog 139 [ay b o 0,iI n,iI m] [.cells b o 24 (bK s)] (fun v H1=>v= .tuple #[.string (s.mV n m).1,ax 102 (s.mV n m).2.1]/\H1=[.cells b o 24 (bK (s.mV n m).2.2)]):=by
 have b0:=hI.e0 n;have b1:=hI.e1 n;have bl:=hI.len n;refine Spec.go 70 [0,1,2,6,7,8,9,10,11,19,25,28,45] [] Tryz.func139 fun W=> ?_;refine ca (Zq _ _ K hK s hI _) .h1 ?_;rintro _ _ (⟨h1,rfl,rfl⟩ | ⟨h1,rfl,rfl⟩)
 ·obtain⟨h1,h2,h3⟩:=h1;apply gO;apply ld .aa (eH _ _);refine cd ?_ ?_<;>intro h4
  ·refine er .h1 ?_;grind [aS,aR,bN,aJ,Fb]
  ·refine cd ?_ ?_<;>intro h5
   ·refine er .h1 ?_;grind [aS,aR,bN,aJ,Fc]
   ·apply ld .aa (dR _ _);refine sp 35 rfl ?_ ?_<;>intro h6
    ·apply ld .aa (eb _ _);refine sp 42 rfl ?_ ?_<;>intro h7
     ·refine cd ?_ ?_<;>intro h8
      ·refine er .h1 ?_;grind [aS,aR,bN,aJ,Fe]
      ·apply ld .aa (dR _ _);apply ld .aa (dR _ _);refine sd ?_;apply ld .aa (dR _ _);refine sd ?_;apply st .aa (iM _ _ og _) rfl;refine er .h1 ?_;grind [aS,aR,bN,ax,PS.HI]
     ·apply ld .aa (dR _ _);apply ld .aa (dR _ _);refine sd ?_;apply ld .aa (dR _ _);refine sd ?_;apply st .aa (iM _ _ og _) rfl;refine er .h1 ?_;grind [aS,aR,bN,ax,PS.HI]
    ·apply ld .aa (dR _ _);apply ld .aa (dR _ _);refine sd ?_;apply ld .aa (dR _ _);refine sd ?_;apply st .aa (iM _ _ og _) rfl;refine er .h1 ?_;grind [aS,aR,bN,ax,PS.HI]
 ·apply gO;refine er .h1 ?_;grind [aS,aR,bN,Kd,aJ]
def Zr(b o:Nat)(K:Int)(hK:K<=1000000)(s:PS)(hI:s.Inv K)(n:Int)(t:ByteArray)(ht:t.size<=1000000):Spec Tryz.prog 136 [ay b o 0,iI n,.string t] [.cells b o 24 (bK s)] (fun v H1=>v= .tuple #[iI (s.cm n t).1,ax 102 (s.cm n t).2.1]/\H1=[.cells b o 24 (bK (s.cm n t).2.2)]):=by
 have b0:=hI.e0 n;have b1:=hI.e1 n;have bl:=hI.len n;have he:=PQ t;refine Spec.go 59 [0,1,2,6,7,8,9,10,18,24,30,46] [] Tryz.func136 fun W=> ?_;refine ca (Zq _ _ K hK s hI _) .h1 ?_;rintro _ _ (⟨h1,rfl,rfl⟩ | ⟨h1,rfl,rfl⟩)
 ·obtain⟨h1,h2,h3⟩:=h1;apply gO;apply ld .aa (eb _ _);refine cd ?_ ?_<;>intro h4
  ·refine er .h1 ?_;grind [aS,aR,bN,aJ,Dx]
  ·apply ld .aa (eH _ _);refine cd ?_ ?_<;>intro h5
   ·refine er .h1 ?_;grind [aS,aR,bN,aJ,BO]
   ·apply ld .aa (dR _ _);refine sd ?_;refine sp 43 rfl ?_ ?_<;>intro h6
    ·refine cd ?_ ?_<;>intro h7
     ·refine er .h1 ?_;grind [aS,aR,bN,aJ,Dy]
     ·refine rq [0,1,2,3,4,5,6,7,8,9,10] mixed ?_;apply ld .aa (dR _ _);refine sd ?_;refine sd ?_ (by simp only[ByteArray.size_extract];omega);apply st .aa (iM _ _ og _) rfl;refine er .h1 ?_;try dsimp only[aS,aR,bI,bN]
      grind [ax,PS.Ke]
    ·refine rq [0,1,2,3,4,5,6,7,8,9,10] mixed ?_;apply ld .aa (dR _ _);refine sd ?_;refine sd ?_ (by simp only[ByteArray.size_extract];omega);apply st .aa (iM _ _ og _) rfl;refine er .h1 ?_;try dsimp only[aS,aR,bI,bN]
     grind [ax,PS.Ke]
 ·apply gO;refine er .h1 ?_;grind [aS,aR,bN,HJ,aJ]
def adr(b o:Nat)(K:Int)(hK:K<=1000000)(s:PS)(hI:s.Inv K)(n:Int)(w:Bool):Spec Tryz.prog 145 [ay b o 0,iI n,.bool w] [.cells b o 24 (bK s)] (fun v H1=>v=ax 102 (s.mL n w (-1)).1/\H1=[.cells b o 24 (bK (s.mL n w (-1)).2)]):=by
 cases w
 ·exact Is b o K hK s hI n
 ·exact Lh b o K hK s hI n
def Wl(bo oo bf bp:Nat)(O:OS)(n:Int):Spec Tryz.prog 125 [ay bo oo 0,iI n] [.cells bo oo 122 (aZ bf bp O)] (fun v H1=>((O.is n=0/\0<=n/\n<24)/\v= .tuple #[ay bo oo (0+2+n.toNat*5),.nilIface]/\H1=[.cells bo oo 122 (aZ bf bp O)])\/(O.is n≠0/\v= .tuple #[.pointer none,.iface 102 (iI (O.is n))]/\H1=[.cells bo oo 122 (aZ bf bp O)])):=by
 refine Spec.go 27 [0,1,4,5,11,20] [] Tryz.func125 fun W=> ?_;refine sp 8 rfl ?_ ?_<;>intro h1
 ·refine er .h1 ?_;grind [aS,aR,bN,OS.jC]
 ·refine cd ?_ ?_<;>intro h2
  ·refine er .h1 ?_;grind [aS,aR,bN,OS.jC]
  ·refine sd (ld .aa (ky _ _) ?_);refine cd ?_ ?_<;>intro h3
   ·refine er .h1 ?_;grind [aS,aR,bN,OS.jC]
   ·refine sd (aW rfl rfl rfl (ah .h1 rfl ?_));grind [aS,aR,bN,OS.jC]
def NC(bo oo bf bp:Nat)(O:OS)(m:Int):Spec Tryz.prog 134 [ay bo oo 0,iI m] [.cells bo oo 122 (aZ bf bp O)] (fun v H1=>(((O.fC m 24).length:Int)<m/\v= .slice none 0 0/\H1=[.cells bo oo 122 (aZ bf bp O)])\/(¬((O.fC m 24).length:Int)<m/\∃ p c,v= .slice p (O.fC m 24).length c/\H1=[dy p c 3 (O.fC m 24),.cells bo oo 122 (aZ bf bp O)])):=by
 refine Spec.go 34 [0,1,4,5,6,7,8,23,32] [] Tryz.func134 fun W=> ?_;apply XR.fH 3 1;refine lp (σ:=Int×Option Addr×Nat) (fun x=>(24-x.1).toNat) (fun x=>0<=x.1/\x.1<=24) (fun x=>[(5,.slice x.2.1 (O.fC m x.1.toNat).length x.2.2),(7,iI x.1),(0,ay bo oo 0),(1,iI m)]) (fun x=>XM W (bX [.cells bo oo 122 (aZ bf bp O)]) [dy x.2.1 x.2.2 3 (O.fC m x.1.toNat),.cells bo oo 122 (aZ bf bp O)]) ((0,none,0)) ?_ S4 (xq (pz 2)) ?_
 ·omega
 intro x hx;obtain⟨rI,ID⟩:=hx;have s8:=O.MU m rI;have hln:=O.Gn m x.1.toNat;apply gC;refine cd ?_ ?_<;>intro h1
 ·refine sd (ld (.ao .aa) (ky _ _) ?_);refine sp 18 rfl ?_ ?_<;>intro h2
  ·refine cd ?_ ?_<;>intro h3
   ·have e1:O.fC m (x.1+1).toNat=O.fC m x.1.toNat++[x.1]:=by rw[s8,if_pos ⟨aq,aq⟩]
    apply XO.buildSlice (A:= #[iI _]) (vs:= #[(0,iI _)]) rfl (uQ _) rfl rfl;intro h4;apply gO;apply lB (e:=3) rfl rfl Tryz.underlying55 qy (.ao .aa) .aa og rfl;intro pa ca;apply gO;refine sd (ag ((x.1+1,pa,ca)) ?_ ?_ (S4 (by rw[e1];try rfl) rfl rfl rfl) fun _ hw=>by rw[e1];exact XM.pick (pk [0,1]) hw);all_goals omega
   ·have e1:O.fC m (x.1+1).toNat=O.fC m x.1.toNat:=by rw[s8,if_neg fun q=>absurd q.2 aq]
    refine sd (ag ((x.1+1,x.2.1,x.2.2)) ?_ ?_ (S4 (by rw[e1];try rfl) rfl rfl rfl) fun _ hw=>by rw[e1];exact XM.pick (pz 2) hw);all_goals omega
  ·have e1:O.fC m (x.1+1).toNat=O.fC m x.1.toNat:=by rw[s8,if_neg fun q=>absurd q.1 aq]
   refine sd (ag ((x.1+1,x.2.1,x.2.2)) ?_ ?_ (S4 (by rw[e1];try rfl) rfl rfl rfl) fun _ hw=>by rw[e1];exact XM.pick (pz 2) hw);all_goals omega
 ·have e24:x.1=24:=og;rw[e24];refine cd ?_ ?_<;>intro h7
  ·refine bL (pk [1]) ?_;grind [aS,aR,bN]
  ·refine bL (pz 2) ?_;grind [aS,aR]
def ads(bo oo bf bp:Nat)(O:OS)(s:FC)(hI:s.toFF.Sh)(n:Int)(w:Bool):Spec Tryz.prog 208 [ay bo oo 0,iI n,.bool w] [.cells bo oo 122 (aZ bf bp O),.cells bf 0 321 (aC s),.aQ au (FC.aX 9 s),.aQ au (FC.aY 3 s)] (fun v H1=>v= .tuple #[iI (ux s.toFF O n),ax 102 (n9 s.toFF O n)]/\∃ t:FC,t.toFF=sD s.toFF O n/\t.rP=s.rP/\t.rC=s.rC/\H1=[.cells bo oo 122 (aZ bf bp (qs s.toFF O n w)),.cells bf 0 321 (aC t),.aQ au (FC.aX 9 t),.aQ au (FC.aY 3 t)]):=by
 refine Spec.go 51 [0,1,2,6,7,8,9,10,21,25,30] [] Tryz.func208 fun W=> ?_;apply ld .aa (rG _);refine cq (No _ _ _ hI _) (pk [1]) ?_;apply XO.bG (z:=.agg NV.zero.cF) (m:=4) (C:=oy NV.zero) (oQ _);intro bx;apply gO;apply fW .aa (mm _ _) rfl ⟨rfl,rfl⟩;refine cd ?_ ?_<;>intro h1
 ·have j0:s.cC n 0≠0:=aq;have jn:=FF.ack s.toFF n 0;have hn1:s.cC n 1=s.cC n 0:=(FF.UR j0).symm;refine aW rfl rfl rfl (ah (pk [2,1,1,1]) rfl ?_);grind [aS,aR,bN,n9,ux,sD,qs]
 ·have j0:s.cC n 0=0:=by simpa using h1
  obtain⟨j1,j2,j3⟩:=FF.yH j0;obtain⟨Rg,_,_⟩:=FF.UY j0;apply ld .aa (xe _);refine cd ?_ ?_<;>intro h2
  ·have hn1:s.cC n 1=11:=by rw[Rg]at h2;unfold FF.cC;rw[if_neg og,if_neg og,if_pos og]
   refine aW rfl rfl rfl (ah (pk [2,1,1,1]) rfl ?_);grind [aS,aR,bN,n9,ux,sD,qs,ax]
  ·have hn1:s.cC n 1=0:=by rw[Rg]at h2;unfold FF.cC;rw[if_neg og,if_neg og,if_neg og]
   refine ca (NC _ _ _ _ _ _) (pk [2]) ?_;rintro _ _ (⟨f0,rfl,rfl⟩ | ⟨f0,p1,c1,rfl,rfl⟩)
   ·apply gO;refine XO.v (lC rfl Tryz.underlying55 rfl) rfl (gO ?_);refine XF rfl (rfl) (aW rfl rfl rfl (ah (pk [0,1,1,1]) rfl ?_));try dsimp only[aS,aR,bI,bN]
    have hf:=OS.Cb f0;grind [n9,ux,sD,qs,ax]
   ·obtain⟨hf1,Sq⟩:=OS.UZ f0;have Zs:=OS.nI hf1;rw[Sq];apply gO;apply bP .aa (by show 0<1;omega);intro g hg;subst hg;refine XO.v (lC rfl Tryz.underlying55 rfl) rfl (gO ?_);refine Hb rfl sq (ld (.ao .aa) (rG _) ?_);refine ca (uU _ _ _ hI _) (pk [3,3,3]) ?_;rintro _ _ ⟨rfl,t,ht,tp,tc,rfl⟩;apply gO;refine rq [0,1,2,3,4,5,6,7,8,9,10] mixed (sd (zC (.t3 .aa) (aaK _) (XO.v (V.build (vs:= #[(0,iI 1),(1,iI n),(3,.bool w),(4,iI 1)]) rfl (v:=.agg (aZ.cF ⟨1,n,0,w,1⟩)) fun _=>kq) rfl (gO ?_))) (by show(0:Int)<=0/\(0:Int)<1;omega));refine sd (fW (.t4 .aa) (aZ.put O O.first 1 n w 1 ⟨Zs.1,Zs.2.1⟩) rfl ⟨rfl,rfl⟩ (sd (zC (.t3 .aa) (aaK _) (aW rfl rfl rfl (ah (pk [4,0,0,0]) rfl ?_))) (by show(0:Int)<=0/\(0:Int)<1;omega))) ⟨Zs.1,Zs.2.1⟩;have e:n9 s.toFF O n=0:=by unfold n9;rw[if_neg og,if_neg hf1]
    exact⟨by rw[show ux s.toFF O n=O.first from by unfold ux;rw[if_pos e],e];rfl,t,by rw[ht];unfold sD;rw[if_pos e],tp,tc,by rw[show qs s.toFF O n w=O.lay O.first 1 n w from by unfold qs;rw[if_pos e]];rfl⟩
def It(bo oo bf bp:Nat)(O:OS)(J:Int)(hJ:J<=1000000)(hO:O.Inv J)(n:Int):Spec Tryz.prog 59 [ay bo oo 0,iI n] [.cells bo oo 122 (aZ bf bp O)] (fun v H1=>v=ax 102 (O.is n)/\H1=[.cells bo oo 122 (aZ bf bp (qt O n))]):=by
 refine Spec.go 23 [0,1,4,5,6,14] [] Tryz.func59 fun W=> ?_;refine ca (Wl _ _ _ _ _ _) .h1 ?_;rintro _ _ (⟨⟨i0,i1,i2⟩,rfl,rfl⟩ | ⟨i0,rfl,rfl⟩)
 ·have hrb:=hO.cQ n i1 i2;apply gO;apply ld .aa (ky _ _);refine sd ?_;apply st .aa (uT _ _ og _) rfl;refine bL .h1 ?_;grind [aS,aR,qt,ax]
 ·apply gO;refine bL .h1 ?_;grind [aS,aR,qt,ax]
def Wm(bf bp:Nat):Array Value:=((List.range 122).map (aZ bf bp OS.dB)).toArray
def RW(bf bp:Nat):(Wm bf bp).size=122:=by simp[Wm]
def Wn(bf bp:Nat):∀ i,i<122->cellsOf (Wm bf bp) i=aZ bf bp OS.dB i:=fun i hi=>by simp[cellsOf,Wm,hi]
def Zt(bo oo bf bp:Nat)(O:OS)(J:Int)(hJ:J<=1000000)(hO:O.Inv J)(s:FC)(hI:s.toFF.Sh)(K:Int)(hK:K<=1000000)(q:PS)(hq:q.Inv K)(n:Int)(x:ByteArray)(hx:x.size<=1000000):Spec Tryz.prog 70 [ay bo oo 0,iI n,.string x] [.cells bo oo 122 (aZ bf bp O),.cells bf 0 321 (aC s),.aQ au (FC.aX 9 s),.aQ au (FC.aY 3 s),.cells bp 0 24 (bK q)] (fun v H1=>v= .tuple #[iI (jv s.toFF q O n x),ax 102 (iT s.toFF q O n x)]/\∃ t:FC,t.toFF=iD s.toFF O n x/\t.rP=s.rP/\t.rC=s.rC/\H1=[.cells bo oo 122 (aZ bf bp (jw s.toFF O n x)),.cells bf 0 321 (aC t),.aQ au (FC.aX 9 t),.aQ au (FC.aY 3 t),.cells bp 0 24 (bK (mn q O n x))]):=by
 refine Spec.go 79 [0,1,2,6,7,8,9,17,19,37,66] [] Tryz.func70 fun W=> ?_;refine ca (Wl _ _ _ _ _ _) .h1 ?_;rintro _ _ (⟨⟨i0,i1,i2⟩,rfl,rfl⟩ | ⟨i0,rfl,rfl⟩)
 ·have hra:=hO.cQ n i1 i2;have haa:=hO.at_ n i1 i2;have hka:=hO.aO n i1 i2 (OS.MR i0).2.2;apply gO;apply ld .aa (mv _ _);refine cd ?_ ?_<;>intro h1
  ·refine rq [0,1,2,3,4,5,6,7,8,9,10,11,12,13] mixed ?_;apply ld .aa (aZ.J1 _);apply ld .aa (qf _ _);refine cq (Zr _ _ K hK q hq _ _ hx) (pk [4]) ?_;refine aW rfl rfl rfl (ah (pk [1,1,1,1,0]) rfl ?_);try dsimp only[aS,aR,bI,bN]
   have hk:O.aO n=3:=aq;have eE:iT s.toFF q O n x=(q.cm (O.n n) x).2.1:=by unfold iT;rw[if_neg og,if_pos hk]
   have eV:jv s.toFF q O n x=(q.cm (O.n n) x).1:=by unfold jv;rw[if_pos ⟨i0,hk⟩]
   have eF:iD s.toFF O n x=s.toFF:=by unfold iD;rw[if_neg fun h=>h.2.1 hk]
   have eO:jw s.toFF O n x=O:=by unfold jw;rw[if_neg fun h=>h.1.2.1 hk]
   grind [mn]
  ·apply ld .aa (mv _ _);refine sp 43 rfl ?_ ?_<;>intro h2
   ·refine er (pz 5) ?_;try dsimp only[aS,aR,bI,bN]
    have hk:¬O.aO n=3:=aq;have h2:O.aO n=2:=aq;have eE:iT s.toFF q O n x=8:=by unfold iT;rw[if_neg og,if_neg hk,if_pos (.inl h2)]
    have eV:jv s.toFF q O n x=0:=by unfold jv;rw[if_neg fun h=>hk h.2,if_neg fun h=>h.1.2.2 (.inl h2)]
    have eF:iD s.toFF O n x=s.toFF:=by unfold iD;rw[if_neg fun h=>h.2.2 (.inl h2)]
    have eO:jw s.toFF O n x=O:=by unfold jw;rw[if_neg fun h=>h.1.2.2 (.inl h2)]
    grind [mn,ax]
   ·skip;apply ld .aa (BR _ _ og);refine wM ?_ ?_<;>intro h3
    ·try simp only[sb]at h3
     have hwf:O.cm n=false:=by simpa using h3
     refine er (pz 5) ?_;try dsimp only[aS,aR,bI,bN]
     have hk:¬O.aO n=3:=aq;have eE:iT s.toFF q O n x=8:=by unfold iT;rw[if_neg og,if_neg hk,if_pos (.inr hwf)]
     have eV:jv s.toFF q O n x=0:=by unfold jv;rw[if_neg fun h=>hk h.2,if_neg fun h=>h.1.2.2 (.inr hwf)]
     have eF:iD s.toFF O n x=s.toFF:=by unfold iD;rw[if_neg fun h=>h.2.2 (.inr hwf)]
     have eO:jw s.toFF O n x=O:=by unfold jw;rw[if_neg fun h=>h.1.2.2 (.inr hwf)]
     grind [mn,ax]
    ·try simp only[sb]at h3
     have hwt:O.cm n=true:=by simpa using h3
     refine rq [0,1,2,3,4,5,6,7,8,9,10,11,12,13,14] mixed ?_;apply ld .aa (rG _);apply ld .aa (qf _ _);apply ld .aa (oG _ _);refine ca (Zp _ _ _ hI _ _ _ og) (pk [1,1,1]) ?_;rintro _ _ ⟨rfl,t,ht,tp,tc,rfl⟩;apply gO;refine cd ?_ ?_<;>intro h4
     ·refine er (pk [3,0,0,0,0]) ?_;try dsimp only[aS,aR,bI,bN]
      have hk:¬O.aO n=3:=aq;have h2:¬O.aO n=2:=aq;have hfw:DL O n:=⟨i0,hk,fun h=>by rcases h with h | h;exact h2 h;rw[hwt]at h;cases h⟩;have hwe:s.toFF.fg (O.n n) (O.at_ n) x≠0:=aq;have eE:iT s.toFF q O n x=s.toFF.fg (O.n n) (O.at_ n) x:=by unfold iT;rw[if_neg og,if_neg hk,if_neg hfw.2.2]
      have eV:jv s.toFF q O n x=0:=by unfold jv;rw[if_neg fun h=>hk h.2,if_neg fun h=>hwe h.2]
      have eF:iD s.toFF O n x=s.toFF.cm (O.n n) (O.at_ n) x:=by unfold iD;rw[if_pos hfw]
      grind [jw,mn]
     ·apply ld (.t3 .aa) (oG _ _);refine sd ?_;apply st (.t3 .aa) (aZ.Ir _ _ og _) rfl;refine er (pk [3,0,0,0,0]) ?_;have hk:¬O.aO n=3:=aq;have h2:¬O.aO n=2:=aq;have hfw:DL O n:=⟨i0,hk,fun h=>by rcases h with h | h;exact h2 h;rw[hwt]at h;cases h⟩;have hwe:s.toFF.fg (O.n n) (O.at_ n) x=0:=Decidable.byContradiction aq;have eE:iT s.toFF q O n x=0:=by unfold iT;rw[if_neg og,if_neg hk,if_neg hfw.2.2,hwe]
      have eV:jv s.toFF q O n x=(x.size:Int):=by unfold jv;rw[if_neg fun h=>hk h.2,if_pos ⟨hfw,hwe⟩]
      have eF:iD s.toFF O n x=s.toFF.cm (O.n n) (O.at_ n) x:=by unfold iD;rw[if_pos hfw]
      have eO:jw s.toFF O n x=O.move n (x.size):=by unfold jw;rw[if_pos ⟨hfw,hwe⟩]
      have eP:mn q O n x=q:=by unfold mn;rw[if_neg fun h=>hk h.2]
      exact⟨by rw[eE,eV];rfl,t,by rw[eF];exact ht,tp,tc,by rw[eO,eP];rfl⟩
 ·apply gO;refine er (pz 5) ?_;try dsimp only[aS,aR,bI,bN]
  have eE:iT s.toFF q O n x=O.is n:=by unfold iT;rw[if_pos i0]
  have eV:jv s.toFF q O n x=0:=by unfold jv;rw[if_neg fun h=>i0 h.1,if_neg fun h=>i0 h.1.1]
  have eF:iD s.toFF O n x=s.toFF:=by unfold iD;rw[if_neg fun h=>i0 h.1]
  have eO:jw s.toFF O n x=O:=by unfold jw;rw[if_neg fun h=>i0 h.1.1]
  grind [mn,ax]
def adu(bo oo bf bp:Nat)(O:OS)(J:Int)(hJ:J<=1000000)(hO:O.Inv J)(s:FC)(hI:s.toFF.Sh)(K:Int)(hK:K<=1000000)(q:PS)(hq:q.Inv K)(n m:Int):Spec Tryz.prog 72 [ay bo oo 0,iI n,iI m] [.cells bo oo 122 (aZ bf bp O),.cells bf 0 321 (aC s),.aQ au (FC.aX 9 s),.aQ au (FC.aY 3 s),.cells bp 0 24 (bK q)] (fun v H1=>v= .tuple #[.string (uz s.toFF q O n m),ax 102 (uy s.toFF q O n m)]/\H1=[.cells bo oo 122 (aZ bf bp (qv s.toFF O n m)),.cells bf 0 321 (aC s),.aQ au (FC.aX 9 s),.aQ au (FC.aY 3 s),.cells bp 0 24 (bK (qu q O n m))]):=by
 refine Spec.go 69 [0,1,2,6,7,8,9,10,18,23,24,27] [] Tryz.func72 fun W=> ?_;refine ca (Wl _ _ _ _ _ _) .h1 ?_;rintro _ _ (⟨⟨i0,i1,i2⟩,rfl,rfl⟩ | ⟨i0,rfl,rfl⟩)
 ·have hra:=hO.cQ n i1 i2;have haa:=hO.at_ n i1 i2;have hka:=hO.aO n i1 i2 (OS.MR i0).2.2;apply gO;apply ld .aa (mv _ _);refine cd ?_ ?_<;>intro h1
  ·refine er (pz 5) ?_;try dsimp only[aS,aR,bI,bN]
   grind [uy,uz,qv,qu,ax]
  ·refine cd ?_ ?_<;>intro h2
   ·refine rq [0,1,2,3,4,5,6,7,8,9,10,11,12,13] mixed ?_;apply ld .aa (aZ.J1 _);apply ld .aa (qf _ _);refine cq (adq _ _ K hK q hq _ _) (pk [4]) ?_;refine aW rfl rfl rfl (ah (pk [1,1,1,1,0]) rfl ?_);try dsimp only[aS,aR,bI,bN]
    grind [uy,uz,qv,qu]
   ·refine rq [0,1,2,3,4,5,6,7,8,9,10,11,12,13,14,15,16,17,18] mixed ?_;apply ld .aa (rG _);apply ld .aa (qf _ _);apply ld .aa (oG _ _);refine ca (adn _ _ _ hI _ _ _) (pk [1]) ?_;rintro _ _ ⟨rfl,rfl⟩;have hrl:=FF.Kv hI (O.n n) (O.at_ n) m;apply gO;apply ld (.ao .aa) (oG _ _);refine sd ?_;apply st (.ao .aa) (aZ.Ir _ _ og _) rfl;refine er (pk [1,0,0,0,0]) ?_;try dsimp only[aS,aR,bI,bN]
    have hk:¬O.aO n=3:=aq;have h2:¬O.aO n=2:=aq;have eE:uy s.toFF q O n m=s.toFF.mj (O.n n) (O.at_ n) m:=by unfold uy;rw[if_neg og,if_neg hk,if_neg h2]
    have eV:uz s.toFF q O n m=s.toFF.kM (O.n n) (O.at_ n) m:=by unfold uz;rw[if_neg og,if_neg hk,if_neg h2]
    have eO:qv s.toFF O n m=O.move n ((s.toFF.kM (O.n n) (O.at_ n) m).size):=by unfold qv;rw[if_pos ⟨i0,hk,h2⟩]
    have eP:qu q O n m=q:=by unfold qu;rw[if_neg fun h=>h2 h.2]
    exact⟨by rw[eE,eV],by rw[eO,eP];rfl⟩
 ·apply gO;refine er (pz 5) ?_;grind [aS,aR,bN,uy,uz,qv,qu,aJ]
def Pu(bo oo bf bp:Nat)(O:OS)(J:Int)(hJ:J<=1000000)(hO:O.Inv J)(s:FC)(hI:s.toFF.Sh)(K:Int)(hK:K<=1000000)(q:PS)(hq:q.Inv K)(n:Int):Spec Tryz.prog 76 [ay bo oo 0,iI n] [.cells bo oo 122 (aZ bf bp O),.cells bf 0 321 (aC s),.aQ au (FC.aX 9 s),.aQ au (FC.aY 3 s),.cells bp 0 24 (bK q)] (fun v H1=>v=ax 102 (ks s.toFF q O n)/\∃ t:FC,t.toFF=mZ s.toFF O n/\t.rP=s.rP/\t.rC=s.rC/\H1=[.cells bo oo 122 (aZ bf bp (kS O n)),.cells bf 0 321 (aC t),.aQ au (FC.aX 9 t),.aQ au (FC.aY 3 t),.cells bp 0 24 (bK (kR q O n))]):=by
 refine Spec.go 55 [0,1,4,5,6,7,15,28,37] [] Tryz.func76 fun W=> ?_;refine ca (Wl _ _ _ _ _ _) .h1 ?_;rintro _ _ (⟨⟨i0,i1,i2⟩,rfl,rfl⟩ | ⟨i0,rfl,rfl⟩)
 ·have hra:=hO.cQ n i1 i2;have haa:=hO.at_ n i1 i2;have hka:=hO.aO n i1 i2 (OS.MR i0).2.2;apply gO;apply ld .aa (ky _ _);refine sd ?_;apply st .aa (uT _ _ og _) rfl;apply ld .aa (ky _ _);refine cd ?_ ?_<;>intro h1
  ·have e9:ad O.cQ n (O.cQ n-1) n=O.cQ n-1:=aj _ _ _;have h9:ad O.cQ n (O.cQ n-1) n>0:=h1;have MF:0<O.cQ n-1:=og;refine bL (pz 5) ?_;try dsimp only[aS,aR,bI,bN]
   have eE:ks s.toFF q O n=0:=by unfold ks;rw[if_neg og,if_pos MF]
   have eF:mZ s.toFF O n=s.toFF:=by unfold mZ;rw[if_neg fun h=>h.1.2 MF]
   have eP:kR q O n=q:=by unfold kR;rw[if_neg fun h=>h.1.2 MF]
   grind [kS,Kt,ax]
  ·have e9:ad O.cQ n (O.cQ n-1) n=O.cQ n-1:=aj _ _ _;have h9:¬ad O.cQ n (O.cQ n-1) n>0:=h1;have MF:¬ 0<O.cQ n-1:=og;apply lW .aa (aZ.LQ _ _ og);apply XO.bG (z:=.agg (aZ.cF ⟨0,0,0,false,0⟩)) (m:=5) (C:=aZ.cell ⟨0,0,0,false,0⟩) (aZ.box _);intro bx;apply gO;apply fW .aa (Wf _ _) rfl ⟨rfl,rfl⟩;refine XO.v (V.build (vs:= #[]) rfl (v:=.agg (aZ.cF ⟨0,0,0,false,0⟩)) fun _=>kq) rfl (gO ?_);apply fW (.ao .aa) (aZ.put (Kt O n) n 0 0 false 0 ⟨i1,i2⟩) rfl ⟨rfl,rfl⟩;apply ld .aa (Lf _);refine cd ?_ ?_<;>intro h2
   ·refine rq [0,1,2,3,4,5,6,7] mixed ?_;apply ld (.ao .aa) (rG _);apply ld .aa (Lg _);refine ca (GY _ _ _ hI _) (pk [2,2,2]) ?_;rintro _ _ ⟨rfl,t,ht,tp,tc,rfl⟩;apply gO;refine aM rfl rfl (ah (pk [4,0,0,0,1]) rfl ?_);have hk:O.aO n=1:=aq;have eE:ks s.toFF q O n=s.toFF.DC (O.n n):=by unfold ks;rw[if_neg og,if_neg MF,if_pos hk]
    have eF:mZ s.toFF O n=s.toFF.kQ (O.n n):=by unfold mZ;rw[if_pos ⟨⟨i0,MF⟩,hk⟩]
    have eP:kR q O n=q:=by unfold kR;rw[if_neg fun h=>h.2 hk]
    have eO:kS O n=O.Bb n:=by unfold kS;rw[if_neg og,if_neg MF]
    exact⟨by rw[eE];rfl,t,by rw[eF];exact ht,tp,tc,by rw[eO,eP,<-OS.Ku];rfl⟩
   ·refine rq [0,1,2,3,4,5,6,7,8,9,10] mixed ?_;apply ld (.ao .aa) (aZ.J1 _);apply ld .aa (Lg _);apply ld .aa (Lf _);refine cq (adr _ _ K hK q hq _ _) (pk [5]) ?_;refine aM rfl rfl (ah (pk [2,2,2,2,0]) rfl ?_);have hk:¬O.aO n=1:=aq;have eE:ks s.toFF q O n=(q.mL (O.n n) (decide (O.aO n=3)) (-1)).1:=by unfold ks;rw[if_neg og,if_neg MF,if_neg hk]
    have eF:mZ s.toFF O n=s.toFF:=by unfold mZ;rw[if_neg fun h=>hk h.2]
    have eP:kR q O n=(q.mL (O.n n) (decide (O.aO n=3)) (-1)).2:=by unfold kR;rw[if_pos ⟨⟨i0,MF⟩,hk⟩]
    have eO:kS O n=O.Bb n:=by unfold kS;rw[if_neg og,if_neg MF]
    exact⟨by rw[eE];rfl,s,by rw[eF],rfl,rfl,by rw[eO,eP,<-OS.Ku];rfl⟩
 ·apply gO;refine bL (pz 5) ?_;try dsimp only[aS,aR,bI,bN]
  have eE:ks s.toFF q O n=O.is n:=by unfold ks;rw[if_pos i0]
  have eF:mZ s.toFF O n=s.toFF:=by unfold mZ;rw[if_neg fun h=>i0 h.1.1]
  have eP:kR q O n=q:=by unfold kR;rw[if_neg fun h=>i0 h.1.1]
  grind [kS,ax]
def Wo(bf bp:Nat):Spec Tryz.prog 100 [ay bf 0 0,ay bp 0 0] [] (fun v H1=>∃ b,v=ay b 0 0/\H1=[.cells b 0 122 (aZ bf bp OS.dB)]):=by
 refine Spec.go 9 [0,1,4] [] Tryz.func100 fun W=> ?_;refine XO.v (V.build (vs:= #[(0,ay bf 0 0),(1,ay bp 0 0)]) rfl (v:=.agg (Wm bf bp)) fun _=>kq) rfl (gO ?_);refine XO.box (m:=122) (C:=aZ bf bp OS.dB) rfl (RW bf bp) (Wn bf bp) rfl ?_;intro b;apply gO;refine bL .h1 ?_;grind [aS,aR]
def adv(bo oo bf bp:Nat)(O:OS)(n a:Int):Spec Tryz.prog 209 [ay bo oo 0,iI n,iI a] [.cells bo oo 122 (aZ bf bp O)] (fun v H1=>v=ax 102 (nJ O n a)/\H1=[.cells bo oo 122 (aZ bf bp (wj O n a))]):=by
 refine Spec.go 35 [0,1,2,6,7,8,16,22,29] [] Tryz.func209 fun W=> ?_;refine ca (Wl _ _ _ _ _ _) .h1 ?_;rintro _ _ (⟨⟨i0,i1,i2⟩,rfl,rfl⟩ | ⟨i0,rfl,rfl⟩)
 ·apply gO;apply ld .aa (mv _ _);refine cd ?_ ?_<;>intro h1
  ·refine bL .h1 ?_;grind [aS,aR,bN,nJ,wj,ax]
  ·refine sp 26 rfl ?_ ?_<;>intro h2
   ·refine bL .h1 ?_;grind [aS,aR,bN,nJ,wj,ax]
   ·refine cd ?_ ?_<;>intro h3
    ·refine bL .h1 ?_;grind [aS,aR,bN,nJ,wj,ax]
    ·refine st .aa (aZ.Ir _ _ og _) rfl (aM rfl rfl (ah .h1 rfl ?_));grind [aS,aR,bN,nJ,wj,ax]
 ·apply gO;refine bL .h1 ?_;grind [aS,aR,nJ,wj,ax]
def adw(bo oo bf bp:Nat)(O:OS)(J:Int)(hJ:J<=1000000)(hO:O.Inv J)(m:Int):Spec Tryz.prog 204 [ay bo oo 0,iI m] [.cells bo oo 122 (aZ bf bp O)] (fun v H1=>v= .bool (OL O m)/\H1=[.cells bo oo 122 (aZ bf bp O)]):=by
 refine Spec.go 13 [0,1,4] [] Tryz.func204 fun W=> ?_;refine sp 7 rfl ?_ ?_<;>intro h1
 ·refine bL .h1 ?_;grind [aS,aR,bN,OL]
 ·refine ca (NC _ _ _ _ _ _) .h1 ?_;rintro _ _ (⟨f0,rfl,rfl⟩ | ⟨f0,p1,c1,rfl,rfl⟩)
  ·have hfn:=OS.Ap (fun z z1 z2=>(hO.cQ z z1 z2).1) m og 24 (Nat.le_refl 24);rw[show O.DJ 24=O.opens from rfl]at hfn;have hol:=O.Kw;apply gO;refine XO.v (lC rfl Tryz.underlying55 rfl) rfl (gO ?_);refine bL .h1 ?_;grind [aS,aR,OL]
  ·have hfn:=OS.Ap (fun z z1 z2=>(hO.cQ z z1 z2).1) m og 24 (Nat.le_refl 24);rw[show O.DJ 24=O.opens from rfl]at hfn;have hol:=O.Kw;apply gO;apply bP .aa (by show 0<(O.fC m 24).length;omega);intro g hg;subst hg;refine XO.v (lC rfl Tryz.underlying55 rfl) rfl (gO ?_);refine bL (pk [1]) ?_;grind [aS,aR,OL]
def adx(bo oo bf bp:Nat)(O:OS)(K:Int)(hK:K<=1000000)(q:PS)(hq:q.Inv K):Spec Tryz.prog 68 [ay bo oo 0] [.cells bo oo 122 (aZ bf bp O),.cells bp 0 24 (bK q)] (fun v H1=>v= .tuple #[iI (oe q O),iI (py q O),ax 102 (kT q O)]/\H1=[.cells bo oo 122 (aZ bf bp (od q O)),.cells bp 0 24 (bK (oc q O))]):=by
 refine Spec.go 48 [0,2,3,4,5,6,7,11,22] [] Tryz.func68 fun W=> ?_;refine ca (NC _ _ _ _ _ _) .h1 ?_;rintro _ _ (⟨f0,rfl,rfl⟩ | ⟨f0,p1,c1,rfl,rfl⟩)
 ·apply gO;refine XO.v (lC rfl Tryz.underlying55 rfl) rfl (gO ?_);refine XF rfl (rfl) (xC rfl rfl rfl rfl (ah (pz 2) rfl ?_));try dsimp only[aS,aR,bI,bN]
  have hf:=OS.U0 f0;grind [kT,oe,py,od,oc,ax]
 ·obtain⟨hf1,Sq,hf4⟩:=OS.Q9 f0;have Zs:=OS.nI hf1;have hf5:0<=O.jL/\O.jL<24:=⟨og,(OS.nI (s:=O.lay O.first 2 0 false) Sq).2.1⟩;have hf6:¬(O.first<0\/O.jL<0):=og;rw[hf4];apply gO;apply bP .aa (by show 0<2;omega);intro g hg;subst hg;refine XO.v (lC rfl Tryz.underlying55 rfl) rfl (gO ?_);refine Hb rfl sq (ld (.ao .aa) (aZ.J1 _) ?_);refine cq (adp _ _ K hK q hq) (pk [2]) ?_;refine cd ?_ ?_<;>intro h1
  ·refine rt3 (pk [2,0]) ?_;grind [aS,aR,bN,kT,oe,py,od,oc]
  ·refine rq [0,1,2,3,4,5,6,7,8,9] mixed (sd (zC (.ao .aa) (U1 _ _) (XO.v (V.build (vs:= #[(0,iI 2),(1,iI q.make.1),(4,iI 1)]) rfl (v:=.agg (aZ.cF ⟨2,q.make.1,0,false,1⟩)) fun _=>kq) rfl (gO ?_))) (by show(0:Int)<=0/\(0:Int)<2;omega));refine sd (fW (.t2 .aa) (aZ.put O O.first 2 q.make.1 false 1 ⟨Zs.1,Zs.2.1⟩) rfl ⟨rfl,rfl⟩ (rq [0,1,2,3,4,5,6,7,8,9] mixed (sd (zC (.ao .aa) (U2 _ _) (XO.v (V.build (vs:= #[(0,iI 3),(1,iI q.make.1),(4,iI 1)]) rfl (v:=.agg (aZ.cF ⟨3,q.make.1,0,false,1⟩)) fun _=>kq) rfl (gO ?_))) (by show(0:Int)<=1/\(1:Int)<2;omega)))) ⟨Zs.1,Zs.2.1⟩;refine sd (fW (.t2 .aa) (aZ.put (O.lay O.first 2 q.make.1 false) O.jL 3 q.make.1 false 1 hf5) rfl ⟨rfl,rfl⟩ (rq [0,1,2,3,4,5,6,7,8] mixed (sd (zC (.ao .aa) (U1 _ _) (sd (zC (.ao .aa) (U2 _ _) (xC rfl rfl rfl rfl (ah (pk [2,0]) rfl ?_))) (by show(0:Int)<=1/\(1:Int)<2;omega))) (by show(0:Int)<=0/\(0:Int)<2;omega)))) hf5;have hz:q.make.2.1=0:=Decidable.byContradiction aq;have e:kT q O=0:=by unfold kT;rw[if_neg hf6,hz]
   have eV:oe q O=O.first:=by unfold oe;rw[if_pos e]
   have eU:py q O=O.jL:=by unfold py;rw[if_pos e]
   have eO:od q O=(O.lay O.first 2 q.make.1 false).lay O.jL 3 q.make.1 false:=by unfold od;rw[if_pos e]
   have eP:oc q O=q.make.2.2:=by unfold oc;rw[if_neg hf6]
   exact⟨by rw[e,eV,eU];rfl,by rw[eO,eP];rfl⟩
end Go.X.Tr


namespace Go.Proofs
open Go.Shelf
def Fo:Go.Shelf.Ren:=⟨fun | 146=>246 | 221=>265 | 268=>277 | 138=>278 | 143=>279 | 195=>284 | 197=>285 | 218=>286 | 219=>287 | 260=>290 | 217=>291 | 225=>292 | 224=>293 | 267=>294 | 266=>295 | 314=>296 | n=>n,fun | 9=>9 | 31=>207 | 3=>3 | 4=>4 | 0=>0 | 105=>306 | 21=>21 | 5=>5 | 46=>258 | 119=>311 | 139=>314 | 138=>313 | 146=>315 | 51=>257 | n=>n,fun | 1=>2 | 3=>3 | 4=>4 | n=>n⟩
def RX:Go.Proofs.Lays.n146 Tryz.prog Fo:= {
 mixed:=by kernel_rfl
 f138:=Tryz.func278.trans (congrArg some (by kernel_rfl))
 f143:=Tryz.func279.trans (congrArg some (by kernel_rfl))
 f146:=Tryz.func246.trans (congrArg some (by kernel_rfl))
 f195:=Tryz.func284.trans (congrArg some (by kernel_rfl))
 f197:=Tryz.func285.trans (congrArg some (by kernel_rfl))
 f217:=Tryz.func291.trans (congrArg some (by kernel_rfl))
 f218:=Tryz.func286.trans (congrArg some (by kernel_rfl))
 f219:=Tryz.func287.trans (congrArg some (by kernel_rfl))
 f221:=Tryz.func265.trans (congrArg some (by kernel_rfl))
 f224:=Tryz.func293.trans (congrArg some (by kernel_rfl))
 f225:=Tryz.func292.trans (congrArg some (by kernel_rfl))
 f260:=Tryz.func290.trans (congrArg some (by kernel_rfl))
 f266:=Tryz.func295.trans (congrArg some (by kernel_rfl))
 f267:=Tryz.func294.trans (congrArg some (by kernel_rfl))
 f268:=Tryz.func277.trans (congrArg some (by kernel_rfl))
 f314:=Tryz.func296.trans (congrArg some (by kernel_rfl))
 t0:=Tryz.underlying0
 a0:=Tryz.isAgg0
 z0:=Tryz.sizeOf0
 v0:=Tryz.zeroValue0
 t3:=Tryz.underlying3
 a3:=Tryz.isAgg3
 z3:=Tryz.sizeOf3
 v3:=Tryz.zeroValue3
 t4:=Tryz.underlying4
 a4:=Tryz.isAgg4
 z4:=Tryz.sizeOf4
 v4:=Tryz.zeroValue4
 t5:=Tryz.underlying5
 a5:=Tryz.isAgg5
 z5:=Tryz.sizeOf5
 v5:=Tryz.zeroValue5
 t9:=Tryz.underlying9
 a9:=Tryz.isAgg9
 z9:=Tryz.sizeOf9
 v9:=Tryz.zeroValue9
 t21:=Tryz.underlying21
 a21:=Tryz.isAgg21
 z21:=Tryz.sizeOf21
 v21:=Tryz.zeroValue21
 t31:=Tryz.underlying207
 a31:=Tryz.isAgg207
 z31:=Tryz.sizeOf207
 v31:=Tryz.zeroValue207
 t46:=Tryz.underlying258
 a46:=Tryz.isAgg258
 z46:=Tryz.sizeOf258
 v46:=Tryz.zeroValue258
 t51:=Tryz.underlying257
 a51:=Tryz.isAgg257
 z51:=Tryz.sizeOf257
 v51:=Tryz.zeroValue257
 t105:=Tryz.underlying306
 a105:=Tryz.isAgg306
 z105:=Tryz.sizeOf306
 v105:=Tryz.zeroValue306
 t119:=Tryz.underlying311
 a119:=Tryz.isAgg311
 z119:=Tryz.sizeOf311
 t138:=Tryz.underlying313
 a138:=Tryz.isAgg313
 z138:=Tryz.sizeOf313
 v138:=Tryz.zeroValue313
 t139:=Tryz.underlying314
 a139:=Tryz.isAgg314
 z139:=Tryz.sizeOf314
 v139:=Tryz.zeroValue314
 t146:=Tryz.underlying315
 a146:=Tryz.isAgg315
 z146:=Tryz.sizeOf315
 v146:=Tryz.zeroValue315
 g1:=by kernel_rfl
 g3:=by kernel_rfl
 g4:=by kernel_rfl}
end Go.Proofs

namespace Go.X.Tr
open Go Go.Proofs Go.X
set_option maxRecDepth 20000
set_option maxHeartbeats 4000000
def gg:nT Tryz.prog 163=true:=kq
def dx:fp Tryz.prog 163=some 2:=kq
def Zu:(Tryz.prog.underlying 163=some (.struct (Tryz.prog.fieldsOf 163))/\Tryz.prog.stoodInHeld 163=false)/\Tryz.prog.eqGuardType Tryz.prog.depth 163=false/\two Tryz.prog 163=true:=⟨⟨kq,kq⟩,kq,kq⟩
def Zv(s:ByteArray)(hs:s.size<=1000000):Spec Tryz.prog 246 [.string s,.string ⟨#[47]⟩] [] (fun v H1=>∃ b,v= .slice (some ⟨b,0,none⟩) (ec s).length (ec s).length/\H1=[j9 (some ⟨b,0,none⟩) (ec s).length 9 (ec s)]):=
 Nb Go.Proofs.RX kq s hs
def Wp(bt bf:Nat)(r:WH)(l:List MT)(p:Option Addr)(cap k c:Nat)(C:Nat->Value)(hv:RV.ok ⟨p,cap,k,l.length,c,C⟩)(hC:MC C l)(ND:l.length<=6)(w:WH):Spec Tryz.prog 248 [ay bt 0 0,.agg (WH.cF w)] [.cells bt 0 4 (aK bf r (.slice p l.length c)),aL p cap 168 4 k C] (fun v H1=>v= .agg (WH.cF (tq l w))/\H1=[.cells bt 0 4 (aK bf r (.slice p l.length c)),aL p cap 168 4 k C]):=by
 have iJ:=o5 hv;have iJ:l.length<=k:=iJ;refine Spec.go 30 [0,3,4,5,7,8,9,13,14,15,16,22,27] [] Tryz.func248 fun W=> ?_;refine XO.box (m:=2) (C:=aN (w)) rfl rfl (aN.box _) rfl ?_;intro bw;apply gO;apply XO.bG (z:=.agg (WH.cF WH.nil)) (m:=2) (C:=aN WH.nil) (aN.box _);intro br;apply gO;refine lp (σ:=Int×WH) (fun x=>(6-x.1).toNat) (fun x=>(0<=x.1/\x.1<=6)/\ovN l (6-x.1).toNat x.2=tq l w) (fun x=>[(8,iI x.1),(0,ay bt 0 0),(3,ay bw 0 0),(4,ay br 0 0)]) (fun x=>XM W (bX [.cells bt 0 4 (aK bf r (.slice p l.length c)),aL p cap 168 4 k C]) [.cells bw 0 2 (aN x.2),.cells br 0 2 (aN WH.nil),.cells bt 0 4 (aK bf r (.slice p l.length c)),aL p cap 168 4 k C]) ((0,w)) ?_ S4 (xq (pk [1,0,0,0])) ?_
 ·grind [tq]
 intro x hx;obtain⟨⟨rI,ID⟩,hov⟩:=hx;apply gC;refine cd ?_ ?_<;>intro h1
 ·apply ld (.t2 .aa) (lj _ _);refine lp (σ:=Int) (fun i=>(l.length-i).toNat) (fun i=>(0<=i/\i<=l.length)/\∀ j:Int,0<=j->j<i->(qw l j).at_≠x.2) (fun i=>[(5,.bool false),(15,iI i),(0,ay bt 0 0),(3,ay bw 0 0),(4,ay br 0 0),(8,iI x.1),(13,.slice p l.length c),(14,iI l.length)]) (fun i=>XM W (bX [.cells bt 0 4 (aK bf r (.slice p l.length c)),aL p cap 168 4 k C]) [.cells bw 0 2 (aN x.2),.cells br 0 2 (aN WH.nil),.cells bt 0 4 (aK bf r (.slice p l.length c)),aL p cap 168 4 k C]) (0) ?_ (.cons rfl (.cons rfl S6)) (xq (pz 4)) ?_
  ·grind
  intro i hi;obtain⟨⟨hi0,hi1⟩,vH⟩:=hi;apply gC;refine cd ?_ ?_<;>intro h2
  ·apply bP (.t3 .aa) og;intro g hg;subst hg;refine sd ?_;apply qJ (.t3 .aa) (hC.ld iJ _ og);apply XO.bG (z:=.agg (MT.cF MT.nil)) (m:=4) (C:=fG MT.nil) (fG.box _);intro bm;apply gO;apply fW .aa (fG.st _ _) rfl ⟨rfl,rfl⟩;apply lW .aa (fG.lW _);apply lW (.ao .aa) (aN.agg _);refine XO.v (ON rfl rfl Zu) rfl (gO ?_);refine cd ?_ ?_<;>intro h3
   ·have hs:=U9 (l:=l) ⟨og,og⟩ vH h3;apply lW .aa (Re _);apply fW (.ao .aa) (aN.st _ _) rfl ⟨rfl,rfl⟩;refine sd ?_;refine ag ((x.1+1,(qw l i).to)) ?_ ?_ S4 (xq (pk [1,1,1,1]))
    ·omega
    ·exact⟨⟨eW,eW⟩,by rw[<-hov,show(6-x.1).toNat=(6-(x.1+1)).toNat+1 from og,Vb hs]⟩
   ·refine sd ?_;refine ag (i+1) ?_ ?_ (.cons rfl (.cons rfl S6)) (xq (pk [1,1,1,1]));all_goals grind
  ·have hs:=U8 (l:=l) (w:=x.2) fun j a b=>vH j a og;apply lW .aa (aN.agg _);apply fW (.ao .aa) (aN.st _ _) rfl ⟨rfl,rfl⟩;refine jz rfl (.agg rfl (.ao .aa) (aN.agg _) gg dx) (ah (pk [2,2]) rfl ?_);grind [Va]
 ·apply lW .aa (aN.agg _);apply fW (.ao .aa) (aN.st _ _) rfl ⟨rfl,rfl⟩;refine jz rfl (.agg rfl (.ao .aa) (aN.agg _) gg dx) (ah (pk [2,2]) rfl ?_);have e6:x.1=6:=og;exact⟨by rw[<-hov,e6];rfl,rfl⟩
def Iu(x:ByteArray)(hx:x.size<=1000000:=by omega):Spec Tryz.prog 231 [.string x] [] (fun v H1=>(jc x=9/\v= .tuple #[.slice none 0 0,.iface 102 (iI 9)]/\H1=[])\/(jc x=0/\∃ q c,v= .tuple #[.slice q (bV x).length c,.nilIface]/\H1=[j9 q c 9 (bV x)])):=by
 refine Spec.go 41 [0,2,3,4,6,18,21,25,26,27,28,37] [] Tryz.func231 fun W=> ?_;refine sp 10 rfl ?_ ?_<;>intro h1
 ·refine er .nil ?_;grind [aS,aR,bN,jc]
 ·have hx6:¬ 60<x.size:=og;refine sp 14 rfl ?_ ?_<;>intro h2
  ·refine er .nil ?_;grind [aS,aR,bN,jc]
  ·have gY:¬x=⟨#[]⟩:=aq;obtain⟨u,hu⟩:=Kf (s:=x) (j:=(0:Int).toNat) (by
     have h0:¬x.size=0:=fun q=>gY (yF.2 q)
     show 0<x.size;omega)
   have hg:x.get! 0=u:=UQ hu;refine XO.v (gH rfl rfl Tryz.underlying9 og hu) rfl (gO ?_);refine cd ?_ ?_<;>intro h3
   ·refine er .nil ?_;try dsimp only[aS,aR,bI,bN]
    exact .inl ⟨KF (.inr (.inr (fun q=>(by assumption:¬((u.toNat:Nat):Int)=47) (by rw[hg]at q;rw[q];rfl)))),rfl,rfl⟩
   ·have hc:¬(60<x.size\/x=⟨#[]⟩\/x.get! 0≠47):=by
     rintro(a | a | a)
     ·omega
     ·simp_all
     ·exact a (by rw[hg];exact UInt8.toNat_inj.1 (by show u.toNat=47;omega))
    have ID:1<=x.size:=by
     grind
    refine cd ?_ ?_<;>intro h4
    ·refine XR.fH 9 1 (aW rfl rfl rfl (ah .h1 rfl ?_));try dsimp only[aS,aR,bI,bN]
     have CG:x=iE:=aq;have e:=HW CG;exact .inr ⟨e.1,none,0,by rw[e.2];rfl,by rw[e.2];rfl⟩
    ·have CG:¬x=iE:=aq;refine sd ?_ ⟨og,og⟩;refine ca (Zv _ (by rw[ByteArray.size_extract];omega)) .nil ?_;rintro _ _ ⟨b1,rfl,rfl⟩;have hps:((1:Int).toNat)=1:=rfl;refine gO ?_;refine lp (σ:=Int) (fun i=>((ec (x.extract 1 x.size)).length-i).toNat) (fun i=>(0<=i/\i<=(ec (x.extract 1 x.size)).length)/\∀ j:Int,0<=j->j<i->xh (kB (ec (x.extract 1 x.size)) j)=true) (fun i=>[(27,iI i),(4,.slice (some ⟨b1,0,none⟩) (ec (x.extract 1 x.size)).length (ec (x.extract 1 x.size)).length),(25,.slice (some ⟨b1,0,none⟩) (ec (x.extract 1 x.size)).length (ec (x.extract 1 x.size)).length),(26,iI (ec (x.extract 1 x.size)).length)]) (fun i=>XM W (bX []) [j9 (some ⟨b1,0,none⟩) (ec (x.extract 1 x.size)).length 9 (ec (x.extract 1 x.size))]) (0) ?_ S4 (xq .h1) ?_
     ·grind
     intro i hi;obtain⟨⟨hi0,hi1⟩,tv⟩:=hi;have hpc:=xv (x.extract 1 x.size);rw[ByteArray.size_extract]at hpc;refine gC ?_;refine cd ?_ ?_<;>intro h5
     ·refine sd (zC .aa (rQ) ?_);refine sp 33 rfl ?_ ?_<;>intro h6
      ·refine cq (Wg _ (by have:=GF (x.extract 1 x.size) (z:=i) ⟨og,og⟩;rw[ByteArray.size_extract]at this;omega)) .nil ?_;refine wM ?_ ?_<;>intro h7
       ·try simp only[sb]at h7
        refine er .nil ?_;grind [aS,aR,bN,MX,xh,dd]
       ·try simp only[sb]at h7
        refine sd (ag (i+1) ?_ ?_ S4 (xq .h1));all_goals grind [xh]
      ·refine sd (ag (i+1) ?_ ?_ S4 (xq .h1));all_goals grind [xh,dd]
     ·refine er .h1 ?_;try dsimp only[aS,aR,bI,bN]
      have e:=KG hc CG fun j a b=>tv j a og;simp_all
def Wq:rL Tryz.prog 163 2=true:=kq
def NF(bt bf:Nat)(r:WH)(l:List MT)(p:Option Addr)(cap k c:Nat)(C:Nat->Value)(hv:RV.ok ⟨p,cap,k,l.length,c,C⟩)(hC:MC C l)(ND:l.length<=6)(s:FC)(hI:s.toFF.Sh)(q:Option Addr)(Zw:Nat)(ns:List ByteArray)(n:Nat)(hn:n<=ns.length:=by omega)(hn6:ns.length<=1000000:=by omega):Spec Tryz.prog 232 [ay bt 0 0,.slice q n Zw] [.cells bt 0 4 (aK bf r (.slice p l.length c)),aL p cap 168 4 k C,.cells bf 0 321 (aC s),.aQ au (FC.aX 9 s),.aQ au (FC.aY 3 s),j9 q Zw 9 ns] (fun v H1=>v= .tuple #[.agg (WH.cF (Aq s.toFF l r (ns.take n)).2),ax 102 (Aq s.toFF l r (ns.take n)).1]/\H1=[.cells bt 0 4 (aK bf r (.slice p l.length c)),aL p cap 168 4 k C,.cells bf 0 321 (aC s),.aQ au (FC.aX 9 s),.aQ au (FC.aY 3 s),j9 q Zw 9 ns]):=by
 have iJ:=o5 hv;have iJ:l.length<=k:=iJ;refine Spec.go 72 [0,1,4,5,6,8,9,10,11,19,20,21,22,32,35,53] [] Tryz.func232 fun W=> ?_;refine XO.bG (z:=.agg (WH.cF WH.nil)) (m:=2) (C:=aN WH.nil) (aN.box _) ?_;intro br;refine gO ?_;refine lW (.ao .aa) (aK.EM _ _) ?_;refine cq (Wp _ _ _ _ _ _ _ _ _ hv hC ND _) (pk [1,1]) ?_;refine nt (e:=163) (vs:= #[(0,.agg (WH.cF (tq l r)))]) (A:= #[iI (tq l r).dJ,iI (tq l r).node]) (sz:=2) rfl (fun _=>kq) rfl og rfl ?_;intro bw;refine gO ?_;refine lp (σ:=List WH×Option Addr×Nat×Int) (fun x=>(n-x.2.2.2).toNat) (fun x=>wk s.toFF l x.1 ((ns.take n).drop x.2.2.2.toNat)=Aq s.toFF l r (ns.take n)/\(0<=x.2.2.2/\x.2.2.2<=n)/\1<=x.1.length/\x.1.length<=x.2.2.2+1) (fun x=>[(6,.slice x.2.1 x.1.length x.2.2.1),(21,iI x.2.2.2),(0,ay bt 0 0),(4,ay br 0 0),(19,.slice q n Zw),(20,iI n)]) (fun x=>XM W (bX [.cells bt 0 4 (aK bf r (.slice p l.length c)),aL p cap 168 4 k C,.cells bf 0 321 (aC s),.aQ au (FC.aX 9 s),.aQ au (FC.aY 3 s),j9 q Zw 9 ns]) [.cells bt 0 4 (aK bf r (.slice p l.length c)),aL p cap 168 4 k C,.cells bf 0 321 (aC s),.aQ au (FC.aX 9 s),.aQ au (FC.aY 3 s),j9 q Zw 9 ns,.cells br 0 2 (aN WH.nil),aL x.2.1 x.2.2.1 163 2 x.1.length (wC x.1)]) (([tq l r],some ⟨bw,0,none⟩,1,0)) ?_ S6 (fun _ hw=>by rw[ah8]at hw;exact XM.pick (pk [1,1,2,2,2,2,1,0]) hw) ?_
 ·grind [Aq]
 intro x hx;obtain⟨hwk,⟨hi0,hi1⟩,hl1,W6⟩:=hx;have hla:∀ a:WH,(x.1++[a]).length=x.1.length+1:=fun a=>sq;refine gC ?_;refine cd ?_ ?_<;>intro h2
 ·refine bP (.t5 .aa) (by show 0<ns.length;omega) ?_;intro g hg;subst hg;refine sd (zC (.t5 .aa) (rQ) (bP (.t7 .aa) og ?_));intro g2 hg2;rw[hg2];refine sd (sd (qJ (.t7 .aa) (U7 x.1 _ ⟨og,og⟩) (XO.bG (z:=.agg (WH.cF WH.nil)) (m:=2) (C:=aN WH.nil) (aN.box _) ?_)));intro ba;refine gO ?_;refine fW .aa (aN.st _ _) rfl ⟨rfl,rfl⟩ ?_;have hdr:=Rh (ns:=ns) (n:=n) hn (i:=x.2.2.2) ⟨og,og⟩;refine cd ?_ ?_<;>intro h3
  ·have hdd:kB ns x.2.2.2=dd:=aq;refine cd ?_ ?_<;>intro h4
   ·have rH:(x.1.take (x.1.length-1)).length=x.1.length-1:=sq;refine sd (qI (.t8 .aa) ?_);intro Hc;refine XO.S8 (k2:=x.1.length-1) (C':=wC (x.1.take (x.1.length-1))) rfl rfl Tryz.underlying269 dx og og Hc (fun i hi=>YP x.1 _ i hi) (.t8 .aa) rfl (gO ?_);refine sd (ag ((x.1.take (x.1.length-1),some ⟨g2,0,none⟩,x.2.2.1,x.2.2.2+1)) ?_ ?_ (S6 (by show lk _ _=some (Value.slice _ (x.1.take (x.1.length-1)).length _);rw[rH];rfl) rfl rfl rfl rfl rfl) fun _ hw=>by show XM _ _ [_,_,_,_,_,_,_,aG.row (.slice _ (x.1.take (x.1.length-1)).length _) _ _ (x.1.take (x.1.length-1)).length _] _;rw[rH];exact XM.pick (pk (rr 8 1 [])) hw);all_goals grind [afw]
   ·refine sd (ag ((x.1,some ⟨g2,0,none⟩,x.2.2.1,x.2.2.2+1)) ?_ ?_ S6 (xq (pk (rr 8 1 []))));all_goals grind [YR]
  ·have hdd:¬kB ns x.2.2.2=dd:=aq;refine rq [0,1,2,3,4,5,6,7,8,9,10,11,12] mixed (ld (.ao .aa) (aK.B6 _ _) (ld .aa (aN.EM _) ?_));refine cq (xy _ _ _ hI _ _) (pk [3,3,3]) ?_;refine cd ?_ ?_<;>intro h5
   ·have hfe:¬s.toFF.fK (kt x.1).node (kB ns x.2.2.2)=0:=aq;refine XO.v (V.build (vs:= #[]) rfl (v:=.agg (WH.cF WH.nil)) fun _=>kq) rfl (gO ?_);refine fW (.t7 .aa) (aN.st _ _) rfl ⟨rfl,rfl⟩ (dC rfl (.agg rfl (.t7 .aa) (aN.agg _) gg dx) (.tmp rfl) (ah (pk [4,4,0,0,0,1]) rfl ?_));grind [aS,aR,kt,acy]
   ·have hfe:s.toFF.fK (kt x.1).node (kB ns x.2.2.2)=0:=Decidable.byContradiction aq;refine ld (.t3 .aa) (aN.B6 _) (XO.v (V.build (vs:= #[(0,iI (kt x.1).dJ),(1,iI (s.toFF.bO (kt x.1).node (kB ns x.2.2.2)))]) rfl (v:=.agg (WH.cF ⟨(kt x.1).dJ,s.toFF.bO (kt x.1).node (kB ns x.2.2.2)⟩)) fun _=>kq) rfl (gO ?_));refine cq (Wp _ _ _ _ _ _ _ _ _ hv hC ND _) (pk [4,4]) ?_;refine XO.buildSlice (e:=163) (vs:= #[(0,.agg (WH.cF (tq l ⟨(kt x.1).dJ,s.toFF.bO (kt x.1).node (kB ns x.2.2.2)⟩)))]) (A:= #[iI (tq l ⟨(kt x.1).dJ,s.toFF.bO (kt x.1).node (kB ns x.2.2.2)⟩).dJ,iI (tq l ⟨(kt x.1).dJ,s.toFF.bO (kt x.1).node (kB ns x.2.2.2)⟩).node]) rfl (fun _=>kq) rfl rfl ?_;intro h6;refine gO ?_;refine wH (e:=163) (C2:=wC (x.1++[tq l ⟨(kt x.1).dJ,s.toFF.bO (kt x.1).node (kB ns x.2.2.2)⟩])) rfl rfl Tryz.underlying269 Wq (.t9 .aa) .aa rfl rfl og og (fun i hi=>acw x.1 _ _ (aN.box _) i hi) rfl ?_;intro pw2 cw2;refine gO ?_;refine sd (ag ((x.1++[tq l ⟨(kt x.1).dJ,s.toFF.bO (kt x.1).node (kB ns x.2.2.2)⟩],pw2,cw2,x.2.2.2+1)) ?_ ?_ (S6 (by show lk _ _=some (Value.slice _ (x.1++[tq l ⟨(kt x.1).dJ,s.toFF.bO (kt x.1).node (kB ns x.2.2.2)⟩]).length _);rw[hla];rfl) rfl rfl rfl rfl rfl) fun _ hw=>by show XM _ _ [_,_,_,_,_,_,_,aG.row (.slice _ (x.1++[tq l ⟨(kt x.1).dJ,s.toFF.bO (kt x.1).node (kB ns x.2.2.2)⟩]).length _) _ _ (x.1++[tq l ⟨(kt x.1).dJ,s.toFF.bO (kt x.1).node (kB ns x.2.2.2)⟩]).length _] _;rw[hla];exact XM.pick (pk [2,2,2,2,2,3,3,0]) hw);all_goals grind [YS]
 ·refine bP (.t7 .aa) og ?_;intro g2 hg2;rw[hg2];refine sd (sd (qJ (.t7 .aa) (U7 x.1 _ ⟨og,og⟩) (fW (.t6 .aa) (aN.st _ _) rfl ⟨rfl,rfl⟩ (dC rfl (.agg rfl (.t6 .aa) (aN.agg _) gg dx) (.tmp rfl) (ah (pz 6) rfl ?_)))));have ei:x.2.2.2=n:=og;have e:Aq s.toFF l r (ns.take n)=(0,kt x.1):=by rw[<-hwk,ei];exact acz hn
  exact⟨by rw[e];rfl,rfl⟩
def aiA:jU Tryz.prog 9=true:=kq
def adz:uW Tryz.prog 207=some (9,1):=kq
def Wr:fp Tryz.prog 9=some 1:=kq
def EF(bt bf:Nat)(r:WH)(l:List MT)(p:Option Addr)(cap k c:Nat)(C:Nat->Value)(hv:RV.ok ⟨p,cap,k,l.length,c,C⟩)(hC:MC C l)(ND:l.length<=6)(s:FC)(hI:s.toFF.Sh)(x:ByteArray)(hx:x.size<=100000):Spec Tryz.prog 205 [ay bt 0 0,.string x] [.cells bt 0 4 (aK bf r (.slice p l.length c)),aL p cap 168 4 k C,.cells bf 0 321 (aC s),.aQ au (FC.aX 9 s),.aQ au (FC.aY 3 s)] (fun v H1=>v= .tuple #[.agg (WH.cF (KD s.toFF l r x)),ax 102 (Vc s.toFF l r x)]/\H1=[.cells bt 0 4 (aK bf r (.slice p l.length c)),aL p cap 168 4 k C,.cells bf 0 321 (aC s),.aQ au (FC.aX 9 s),.aQ au (FC.aY 3 s)]):=by
 refine Spec.go 22 [0,1,4,5,6,7,14] [] Tryz.func205 fun W=> ?_;apply XO.bG (z:=.agg (WH.cF WH.nil)) (m:=2) (C:=aN WH.nil) (aN.box _);intro br;apply gO;refine ca (Iu _) .nil ?_;rintro _ _ (⟨e9,rfl,rfl⟩ | ⟨e0,q,Zw,rfl,rfl⟩)
 ·apply gO;refine XO.v (V.build (vs:= #[]) rfl (v:=.agg (WH.cF WH.nil)) fun _=>kq) rfl (gO ?_);refine fW .aa (aN.st _ _) rfl ⟨rfl,rfl⟩ (dC rfl (.agg rfl .aa (aN.agg _) gg dx) (.tmp rfl) (ah (pk [1,1,1,1,1]) rfl ?_));try dsimp only[aS,aR,bI,bN]
  grind [Vc,KD,ax]
 ·have hsv:=xw x;apply gO;refine ca (NF _ _ _ _ _ _ _ _ _ hv hC ND s hI _ _ (bV x) ((bV x).length) (Nat.le_refl _)) (pk [2,2,2,2,2,0]) ?_;rintro _ _ ⟨rfl,rfl⟩;rw[List.take_length];apply gO;refine fW (.t6 .aa) (aN.st _ _) rfl ⟨rfl,rfl⟩ (dC rfl (.agg rfl (.t6 .aa) (aN.agg _) gg dx) (.tmp rfl) (ah (pz 5) rfl ?_));grind [aS,aR,Vc,KD]
def aa5(bt bf:Nat)(r:WH)(l:List MT)(p:Option Addr)(cap k c:Nat)(C:Nat->Value)(hv:RV.ok ⟨p,cap,k,l.length,c,C⟩)(hC:MC C l)(ND:l.length<=6)(s:FC)(hI:s.toFF.Sh)(x:ByteArray)(hx:x.size<=100000):Spec Tryz.prog 213 [ay bt 0 0,.string x] [.cells bt 0 4 (aK bf r (.slice p l.length c)),aL p cap 168 4 k C,.cells bf 0 321 (aC s),.aQ au (FC.aX 9 s),.aQ au (FC.aY 3 s)] (fun v H1=>v= .tuple #[.agg (WH.cF (BP s.toFF l r x)),ax 102 (HV s.toFF l r x)]/\H1=[.cells bt 0 4 (aK bf r (.slice p l.length c)),aL p cap 168 4 k C,.cells bf 0 321 (aC s),.aQ au (FC.aX 9 s),.aQ au (FC.aY 3 s)]):=by
 refine Spec.go 70 [0,1,4,5,6,7,8,9,10,17,24,33,45,63] [] Tryz.func213 fun W=> ?_;apply XO.bG (z:=.agg (WH.cF WH.nil)) (m:=2) (C:=aN WH.nil) (aN.box _);intro br;apply gO;refine ca (Iu _) .nil ?_;rintro _ _ (⟨e9,rfl,rfl⟩ | ⟨e0,q,Zw,rfl,rfl⟩)
 ·apply gO;refine XO.v (V.build (vs:= #[]) rfl (v:=.agg (WH.cF WH.nil)) fun _=>kq) rfl (gO ?_);refine fW .aa (aN.st _ _) rfl ⟨rfl,rfl⟩ (dC rfl (.agg rfl .aa (aN.agg _) gg dx) (.tmp rfl) (ah (pk [1,1,1,1,1]) rfl ?_));try dsimp only[aS,aR,bI,bN]
  grind [HV,BP,ax]
 ·have hsv:=xw x;apply gO;refine sd ?_;refine cd ?_ ?_<;>intro h1
  ·have h0:(bV x).length=0:=og;refine lW (.t2 .aa) (aK.EM _ _) (fW (.ao .aa) (aN.st _ _) rfl ⟨rfl,rfl⟩ (dC rfl (.agg rfl (.ao .aa) (aN.agg _) gg dx) (.tmp rfl) (ah (pk [2,2,2,2,2]) rfl ?_)));try dsimp only[aS,aR,bI,bN]
   grind [HV,BP,ax]
  ·have h0:¬(bV x).length=0:=og;apply bP .aa og;intro g hg;subst hg;refine sd (zC .aa (rQ) ?_);refine cd ?_ ?_<;>intro h2
   ·have hd:nK (bV x)=dd:=h2;refine XO.v (V.build (vs:= #[]) rfl (v:=.agg (WH.cF WH.nil)) fun _=>kq) rfl (gO ?_);refine fW (.ao .aa) (aN.st _ _) rfl ⟨rfl,rfl⟩ (dC rfl (.agg rfl (.ao .aa) (aN.agg _) gg dx) (.tmp rfl) (ah (pk [2,2,2,2,2]) rfl ?_));try dsimp only[aS,aR,bI,bN]
    grind [HV,BP,ax]
   ·have hd:¬nK (bV x)=dd:=h2;apply qI .aa;intro Hc;refine XO.v (CL (m:=(bV x).length-1) rfl rfl Tryz.underlying207 Wr og og) rfl (gO ?_);refine cq (NF _ _ _ _ _ _ _ _ _ hv hC ND s hI _ _ (bV x) ((bV x).length-1)) (pk [2,2,2,2,2,0]) ?_;apply XO.bG (z:=.agg (WH.cF WH.nil)) (m:=2) (C:=aN WH.nil) (aN.box _);intro b9;apply gO;apply fW .aa (aN.st _ _) rfl ⟨rfl,rfl⟩;refine cd ?_ ?_<;>intro h3
    ·have hl:¬(Aq s.toFF l r (ku (bV x))).1=0:=h3;refine XO.v (V.build (vs:= #[]) rfl (v:=.agg (WH.cF WH.nil)) fun _=>kq) rfl (gO ?_);refine fW (.t7 .aa) (aN.st _ _) rfl ⟨rfl,rfl⟩ (dC rfl (.agg rfl (.t7 .aa) (aN.agg _) gg dx) (.tmp rfl) (ah (pk [1,1,1,1,1]) rfl ?_));grind [aS,aR,HV,ku,BP]
    ·have hl:(Aq s.toFF l r (ku (bV x))).1=0:=Decidable.byContradiction h3;refine rq [0,1,2,3,4,5,6,7,8,9,10,11,12,13,14,15] mixed (ld (.ao .aa) (aK.B6 _ _) (ld .aa (aN.EM _) (sd (zC (.t6 .aa) (rQ) ?_))));refine cq (xy _ _ _ hI _ _) (pk [3,3,3]) ?_;refine cd ?_ ?_<;>intro h4
     ·have hf:¬s.toFF.fK (Aq s.toFF l r (ku (bV x))).2.node (nK (bV x))=0:=h4;refine XO.v (V.build (vs:= #[]) rfl (v:=.agg (WH.cF WH.nil)) fun _=>kq) rfl (gO ?_);refine fW (.t7 .aa) (aN.st _ _) rfl ⟨rfl,rfl⟩ (dC rfl (.agg rfl (.t7 .aa) (aN.agg _) gg dx) (.tmp rfl) (ah (pk [4,4,0,0,0]) rfl ?_));grind [aS,aR,HV,ku,nK,BP]
     ·have hf:s.toFF.fK (Aq s.toFF l r (ku (bV x))).2.node (nK (bV x))=0:=Decidable.byContradiction h4;refine ld (.t3 .aa) (aN.B6 _) (XO.v (V.build (vs:= #[(0,iI (Aq s.toFF l r (ku (bV x))).2.dJ),(1,iI (s.toFF.bO (Aq s.toFF l r (ku (bV x))).2.node (nK (bV x))))]) rfl (v:=.agg (WH.cF ⟨(Aq s.toFF l r (ku (bV x))).2.dJ,s.toFF.bO (Aq s.toFF l r (ku (bV x))).2.node (nK (bV x))⟩)) fun _=>kq) rfl (gO ?_));refine fW (.t7 .aa) (aN.st _ _) rfl ⟨rfl,rfl⟩ (dC rfl (.agg rfl (.t7 .aa) (aN.agg _) gg dx) (.tmp rfl) (ah (pk [4,4,0,0,0]) rfl ?_));try dsimp only[aS,aR,bI,bN]
      have e:HV s.toFF l r x=0:=by unfold HV;rw[if_neg og,if_neg h0,if_neg hd,if_neg fun q=>q hl,hf]
      have e2:BP s.toFF l r x=⟨(Aq s.toFF l r (ku (bV x))).2.dJ,s.toFF.bO (Aq s.toFF l r (ku (bV x))).2.node (nK (bV x))⟩:=by unfold BP;rw[if_neg og,if_neg h0]
      grind [ax]
def AS(bt bf:Nat)(r:WH)(l:List MT)(p:Option Addr)(cap k c:Nat)(C:Nat->Value)(hv:RV.ok ⟨p,cap,k,l.length,c,C⟩)(hC:MC C l)(ND:l.length<=6)(s:FC)(hI:s.toFF.Sh)(x:ByteArray)(hx:x.size<=100000):Spec Tryz.prog 206 [ay bt 0 0,.string x] [.cells bt 0 4 (aK bf r (.slice p l.length c)),aL p cap 168 4 k C,.cells bf 0 321 (aC s),.aQ au (FC.aX 9 s),.aQ au (FC.aY 3 s)] (fun v H1=>v= .tuple #[.agg (WH.cF (uA s.toFF l r x)),.string (rn s.toFF l r x),ax 102 (yT s.toFF l r x)]/\H1=[.cells bt 0 4 (aK bf r (.slice p l.length c)),aL p cap 168 4 k C,.cells bf 0 321 (aC s),.aQ au (FC.aX 9 s),.aQ au (FC.aY 3 s)]):=by
 refine Spec.go 51 [0,1,4,5,6,7,8,9,10,17,31,43] [] Tryz.func206 fun W=> ?_;apply XO.bG (z:=.agg (WH.cF WH.nil)) (m:=2) (C:=aN WH.nil) (aN.box _);intro br;apply gO;refine ca (Iu _) .nil ?_;rintro _ _ (⟨e9,rfl,rfl⟩ | ⟨e0,q,Zw,rfl,rfl⟩)
 ·apply gO;refine XO.v (V.build (vs:= #[]) rfl (v:=.agg (WH.cF WH.nil)) fun _=>kq) rfl (gO ?_);apply fW .aa (aN.st _ _) rfl ⟨rfl,rfl⟩;refine tL rfl (.agg rfl .aa (aN.agg _) gg dx) (.tmp rfl) (.tmp rfl) (ah (pk [1,1,1,1,1]) rfl ?_);try dsimp only[aS,aR,bI,bN]
  grind [yT,uA,rn,ax]
 ·have hsv:=xw x;apply gO;refine sd ?_;refine sp 25 rfl ?_ ?_<;>intro h1
  ·have h0:(bV x).length=0:=og;refine XO.v (V.build (vs:= #[]) rfl (v:=.agg (WH.cF WH.nil)) fun _=>kq) rfl (gO ?_);apply fW (.ao .aa) (aN.st _ _) rfl ⟨rfl,rfl⟩;refine tL rfl (.agg rfl (.ao .aa) (aN.agg _) gg dx) (.tmp rfl) (.tmp rfl) (ah (pk [2,2,2,2,2]) rfl ?_);try dsimp only[aS,aR,bI,bN]
   grind [yT,uA,rn,ax]
  ·have h0:¬(bV x).length=0:=og;apply bP .aa og;intro g hg;subst hg;refine sd ?_;apply zC .aa (rQ);refine cd ?_ ?_<;>intro h2
   ·have hd:nK (bV x)=dd:=h2;refine XO.v (V.build (vs:= #[]) rfl (v:=.agg (WH.cF WH.nil)) fun _=>kq) rfl (gO ?_);apply fW (.ao .aa) (aN.st _ _) rfl ⟨rfl,rfl⟩;refine tL rfl (.agg rfl (.ao .aa) (aN.agg _) gg dx) (.tmp rfl) (.tmp rfl) (ah (pk [2,2,2,2,2]) rfl ?_);try dsimp only[aS,aR,bI,bN]
    grind [yT,uA,rn,ax]
   ·have hd:¬nK (bV x)=dd:=h2;apply qI .aa;intro Hc;refine XO.v (CL (m:=(bV x).length-1) rfl rfl Tryz.underlying207 Wr og og) rfl (gO ?_);refine cq (NF _ _ _ _ _ _ _ _ _ hv hC ND s hI _ _ (bV x) ((bV x).length-1)) (pk [2,2,2,2,2,0]) ?_;apply XO.bG (z:=.agg (WH.cF WH.nil)) (m:=2) (C:=aN WH.nil) (aN.box _);intro b9;apply gO;apply fW .aa (aN.st _ _) rfl ⟨rfl,rfl⟩;refine cd ?_ ?_<;>intro h3
    ·have hl:¬(Aq s.toFF l r (ku (bV x))).1=0:=h3;refine XO.v (V.build (vs:= #[]) rfl (v:=.agg (WH.cF WH.nil)) fun _=>kq) rfl (gO ?_);apply fW (.t7 .aa) (aN.st _ _) rfl ⟨rfl,rfl⟩;refine tL rfl (.agg rfl (.t7 .aa) (aN.agg _) gg dx) (.tmp rfl) (.tmp rfl) (ah (pk [1,1,1,1,1]) rfl ?_);grind [aS,aR,bN,yT,ku,uA,rn]
    ·have hl:(Aq s.toFF l r (ku (bV x))).1=0:=Decidable.byContradiction h3;apply XC.im mixed (f:=8) (l:= #[qF,qF,qF,qF,qF,qF,qF,qF]) rfl rfl XM.kN;apply XQ.load (i:=0) (.cells _ _ _ _) [5] rfl kq rfl .aa (eJ rfl eh (aN.agg _) gg dx) rfl kq rfl;apply XQ.pv (i:=1) rfl kq rfl (V.move rfl) rfl rfl;apply XQ.pv (i:=2) rfl kq rfl (V.move rfl) rfl rfl;apply XQ.pv (i:=3) rfl kq rfl (Fu rfl rfl adz og) rfl rfl;apply XQ.load (i:=4) (.row _ _ _ _ _) [] rfl kq rfl (.t6 .aa) (zx rfl eh (rQ) aiA) rfl kq rfl;refine XQ.gi (i:=5) rfl kq rfl rfl rfl (.t7 .aa) (aN.st _ _) ⟨rfl,rfl⟩ dx (fun _ dZ=>⟨fun _=>fb (.t6 .aa) _ dZ,fun hs=>(hs 5 b8 rfl).elim,trivial⟩) ?_;apply XQ.pv (i:=6) rfl kq rfl (V.assign rfl) rfl rfl;apply XQ.pv (i:=7) rfl kq rfl (V.assign rfl) rfl rfl;apply XQ.done kq;apply gE;refine tL rfl (.agg rfl (.t7 .aa) (aN.agg _) gg dx) (.tmp rfl) (.tmp rfl) (ah (pk [1,1,1,1,1]) rfl ?_);have e:yT s.toFF l r x=0:=by unfold yT;rw[if_neg og,if_neg (by rintro(a | a);exact h0 a;exact hd a),hl]
     have e2:uA s.toFF l r x=(Aq s.toFF l r (ku (bV x))).2:=by unfold uA;rw[if_neg og]
     have e3:rn s.toFF l r x=nK (bV x):=by unfold rn;rw[if_neg og]
     exact⟨by rw[e,e2,e3];rfl,rfl⟩
end Go.X.Tr
