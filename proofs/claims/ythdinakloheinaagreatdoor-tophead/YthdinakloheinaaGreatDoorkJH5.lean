import Derived.Test.YthdinakloheinaaGreatDoorkJH3
set_option linter.all false
namespace Go.X.Kn
open Go Go.Proofs Go.X Go.X.Sg Go.X.Vm
set_option maxRecDepth 20000
set_option maxHeartbeats 4000000
attribute [local irreducible] KA.aU KA.cD
set_option maxHeartbeats 16000000 in
def ac9(bl ol len cap:Nat)(hlen:len<=cap)(A:Int->iV)(hA:∀ z:Int,0<=z->z<len->(A z).ok)(co:Int)(hco: -9223372036854775808<=co/\co<=9223372036854775807):Spec Tryz.prog 7 [.slice (some ⟨bl,ol,none⟩) len cap,iI co] [.ro 0 0 32 dD,.ro 1 0 64 ix,.ro bl ol (8*len) (gw A)] (fun v H1=>v= .bool true/\H1=[]):=by
 refine Spec.go 156 [0,1,4,5,6,7,8,9,10,11,12,13,14,15,16,17,18,19,21,27,51,62,66,98,107] [] Tryz.func7 fun W=> ?_;refine ca (KE) .nil ?_;rintro _ _ ⟨b,c0,rfl,_,_,BA,rfl⟩;refine gO ?_;refine ca (yF A0 b c0 1 2 Kv BA og 0 true) (pz 17) ?_;rintro _ _ ⟨rfl,c1,ie,rfl⟩;rw[H_E.1.1,H_E.1.2,jm,show A0.fy 0 true=H1 from rfl];have ie:cR H1 c1 2 22:=ie;refine gO ?_;refine ca (yF H1 b c1 2 22 (Oy.up og og) ie og 0 false) (pz 17) ?_;rintro _ _ ⟨rfl,c2,uZ,rfl⟩;rw[H_E.2.1,H_E.2.2,jm,show H1.fy 0 false=H2 from rfl];have uZ:cR H2 c2 3 42:=uZ;refine gO ?_;refine spF 48 rfl og ?_;refine AZ rfl og ?_;refine vl 0 (Zd _ _ len cap hlen A hA 100 og) (pk [19]) rfl ?_;rintro _ _ ⟨⟨bf,rfl,ada⟩,rfl⟩;refine gO ?_;refine M9 55 rfl ?_ ?_<;>intro h2
 ·try simp only[sb]at h2
  refine bS .nil ?_;try dsimp only[aK,aJ,aG,aR]
  exact⟨rfl,rfl⟩
 ·try simp only[sb]at h2
  have hle:(len:Int)<=100:=(ada (by simpa using h2)).1;have hTx:=(ada (by simpa using h2)).2;refine sp 59 rfl ?_ ?_<;>intro h3
  ·refine bS .nil ?_;try dsimp only[aK,aJ,aG,aR]
   exact⟨rfl,rfl⟩
  ·have aif:¬co<0:=h3;refine cd rfl ?_ ?_<;>intro h4
   ·refine bS .nil ?_;try dsimp only[aK,aJ,aG,aR]
    exact⟨rfl,rfl⟩
   ·have aih:¬co>255:=h4;refine lp (σ:=Int×KA×KC) (fun x=>(len-x.1).toNat) (fun x=>(0<=x.1/\x.1<=len)/\x.2.1.Ok (42+20*x.1)/\cR x.2.1 x.2.2 (3+x.1.toNat) (42+20*x.1)/\x.2.1.Pw/\x.2.1.Hd) (fun x=>[(11,iI x.1),(0,.slice (some ⟨bl,ol,none⟩) len cap),(1,iI co),(5,aA b.kb 0 0)]) (fun x=>XM W (ck [.ro 0 0 32 dD,.ro 1 0 64 ix,.ro bl ol (8*len) (gw A)]) (df x.2.1 b x.2.2 [.ro 0 0 32 dD,.ro 1 0 64 ix,.ro bl ol (8*len) (gw A)])) ((0,H2,c2)) ?_ S4 (xq (pk [1,1,1,1,1,1,1,1,1,1,1,1,1,1,1,1,1,1,1,0])) ?_
    ·exact⟨sq,aae.up og og,uZ.up og og,aaf,aad⟩
    intro x sP;obtain⟨hi,ho,hc,mi,VS⟩:=sP;refine gC ?_;refine cd rfl ?_ ?_<;>intro h5
    ·have htx:=hTx x.1 og og;refine sd ?_;refine aec (.oq (.t7 .aa)) (O3 A len _ og) ?_;refine XO.bJ (z:=.agg Bj) (m:=8) (C:=cellsOf Bj) (fun _ _=>rfl) ?_;intro ba;refine gO ?_;refine fW .aa (Le _) rfl ⟨rfl,rfl⟩ ?_;refine ld .aa (lN _) ?_;refine ca (VR (A x.1).aN) .nil ?_;rintro _ _ ⟨⟨bw,rfl,Kz⟩,rfl⟩;refine gO ?_;refine ld .aa (bN _) ?_;refine cq (Vk x.2.1 b x.2.2 x.2.1.aL ho.wk.sI 1 (A x.1).a) (pk [1,2]) ?_;refine M9 85 rfl ?_ ?_<;>intro h6
     ·try simp only[sb]at h6
      refine sd ?_;refine ag ((x.1+1,x.2.1,x.2.2)) ?_ ?_ S4 (xq (pk [0,2,0,1,1,1,1,1,1,1,1,1,1,1,1,1,1,1,1,1]))
      ·
       (show(_-(x.1+1)).toNat<(_-x.1).toNat;omega)
      ·exact⟨(by show 0<=x.1+1/\x.1+1<=_;omega),(by show x.2.1.Ok (42+20*(x.1+1));exact ho.up og og),(by show cR x.2.1 x.2.2 (3+(x.1+1).toNat) (42+20*(x.1+1));exact hc.up og og),mi,VS⟩
     ·try simp only[sb]at h6
      have hw:=Kz (by simpa using h6);refine sp 89 rfl ?_ ?_<;>intro h7
      ·refine sd ?_;refine ag ((x.1+1,x.2.1,x.2.2)) ?_ ?_ S4 (xq (pk [0,2,0,1,1,1,1,1,1,1,1,1,1,1,1,1,1,1,1,1]))
       ·
        (show(_-(x.1+1)).toNat<(_-x.1).toNat;omega)
       ·exact⟨(by show 0<=x.1+1/\x.1+1<=_;omega),(by show x.2.1.Ok (42+20*(x.1+1));exact ho.up og og),(by show cR x.2.1 x.2.2 (3+(x.1+1).toNat) (42+20*(x.1+1));exact hc.up og og),mi,VS⟩
      ·have he0:(x.2.1.pH 1 (A x.1).a).2=0:=by have:=h7;omega
       obtain⟨hss,hs1⟩:=VS.saw ho he0;refine ld (.t2 .aa) (bN _) ?_;refine sp 93 rfl ?_ ?_<;>intro h8
       ·have h91:(A x.1).a=1:=h8;refine ld (.t2 .aa) (lN _) ?_;refine cd rfl ?_ ?_<;>intro h9
        ·refine sd ?_;refine ag ((x.1+1,x.2.1,x.2.2)) ?_ ?_ S4 (xq (pk [0,2,0,1,1,1,1,1,1,1,1,1,1,1,1,1,1,1,1,1]))
         ·
          (show(_-(x.1+1)).toNat<(_-x.1).toNat;omega)
         ·exact⟨(by show 0<=x.1+1/\x.1+1<=_;omega),(by show x.2.1.Ok (42+20*(x.1+1));exact ho.up og og),(by show cR x.2.1 x.2.2 (3+(x.1+1).toNat) (42+20*(x.1+1));exact hc.up og og),mi,VS⟩
        ·have hkx:¬(A x.1).aN=gu:=h9;have fM:(A x.1).aN=gu->(x.2.1.pH 1 (A x.1).a).1≠1:=fun q=>absurd q hkx;refine st (.t2 .aa) (OA _ _) rfl ?_;refine lM (.t2 .aa) (HE _) ?_;refine vl 17 (VQ x.2.1 b x.2.2 (3+x.1.toNat) (42+20*x.1) ho hc og og og {A x.1 with a:=(x.2.1.pH 1 (A x.1).a).1} ⟨(show(A x.1).s.size<=1000 by omega),(show(A x.1).t.size<=1000 by omega)⟩ hw) (pk [0,2,0,1,1,1,1,1,1,1,1,1,1,1,1,1,1,1,1]) rfl ?_;rintro _ _ ⟨a1,r,c1,rfl,qh,ie,rfl⟩;refine gO ?_;refine sd ?_;refine ag ((x.1+1,a1,c1)) ?_ ?_ S4 (xq (pk [0,0,0,0,0,0,0,0,0,0,0,0,0,0,0,0,0,0,0,1]))
         ·
          (show(_-(x.1+1)).toNat<(_-x.1).toNat;omega)
         ·exact⟨(by show 0<=x.1+1/\x.1+1<=_;omega),(by have h9:=qh.ok ho og og (hc.F.sh og);rw[show 42+20*(x.1+1)=42+20*x.1+20 by omega];exact h9),(by show cR a1 c1 (3+(x.1+1).toNat) (42+20*(x.1+1));rw[show 42+20*(x.1+1)=42+20*x.1+20 by omega,show 3+(x.1+1).toNat=3+x.1.toNat+1 by omega];exact ie),mi.step ho og qh,VS.step (x:= {A x.1 with a:=(x.2.1.pH 1 (A x.1).a).1}) mi ho og hss fM hw qh⟩
       ·have h91:¬(A x.1).a=1:=h8;have fM:(A x.1).aN=gu->(x.2.1.pH 1 (A x.1).a).1≠1:=fun _ q=>h91 (hs1 q);refine st (.t2 .aa) (OA _ _) rfl ?_;refine lM (.t2 .aa) (HE _) ?_;refine vl 17 (VQ x.2.1 b x.2.2 (3+x.1.toNat) (42+20*x.1) ho hc og og og {A x.1 with a:=(x.2.1.pH 1 (A x.1).a).1} ⟨(show(A x.1).s.size<=1000 by omega),(show(A x.1).t.size<=1000 by omega)⟩ hw) (pk [0,2,0,1,1,1,1,1,1,1,1,1,1,1,1,1,1,1,1]) rfl ?_;rintro _ _ ⟨a1,r,c1,rfl,qh,ie,rfl⟩;refine gO ?_;refine sd ?_;refine ag ((x.1+1,a1,c1)) ?_ ?_ S4 (xq (pk [0,0,0,0,0,0,0,0,0,0,0,0,0,0,0,0,0,0,0,1]))
        ·
         (show(_-(x.1+1)).toNat<(_-x.1).toNat;omega)
        ·exact⟨(by show 0<=x.1+1/\x.1+1<=_;omega),(by have h9:=qh.ok ho og og (hc.F.sh og);rw[show 42+20*(x.1+1)=42+20*x.1+20 by omega];exact h9),(by show cR a1 c1 (3+(x.1+1).toNat) (42+20*(x.1+1));rw[show 42+20*(x.1+1)=42+20*x.1+20 by omega,show 3+(x.1+1).toNat=3+x.1.toNat+1 by omega];exact ie),mi.step ho og qh,VS.step (x:= {A x.1 with a:=(x.2.1.pH 1 (A x.1).a).1}) mi ho og hss fM hw qh⟩
    ·obtain⟨DZ,sK⟩:=VS.dW (co:=co) og og;have hb:=VS.Z9 mi ho.o0 co;have Q7:(x.2.1.aU 1 co).Ok 5000:=by rw[<-sK];exact(ho.iS 1 co).up og og
     have pwb:(x.2.1.aU 1 co).Pw:=by rw[<-sK];exact mi.iS ho.o0 1 co
     have vN:=hb.aab Q7.o0;have KT:((x.2.1.aU 1 co).s.gh 2 ((x.2.1.aU 1 co).s.bM 2).1).1=3:=by rw[vN.2]
     have E4:((x.2.1.aU 1 co).s.gh 2 ((x.2.1.aU 1 co).s.bM 2).1).2=0:=by rw[vN.2]
     have ht:=hb.ac3 pwb Q7.o0;have hf:=hb.left pwb Q7.o0;have Ze:=Q7.db 0;have pw2:=pwb.db Q7.o0 0;have hw8:=hf.db pw2 Ze.o0;refine vl 17 (HA x.2.1 b x.2.2 (3+x.1.toNat) (42+20*x.1) ho hc og 1 co) (pz 18) rfl ?_;rintro _ _ ⟨rfl,c3,Zf,rfl⟩;rw[DZ,jm,sK];rw[sK]at Zf;have Zf:=Zf.up (N':=200) (T':=5000) og og;refine gO ?_;refine ca (Uu b.kb (kp (x.2.1.aU 1 co) b c3) (x.2.1.aU 1 co).s 2) (pk [0,1]) ?_;rintro v12 _ ⟨VT,rfl⟩;rw[if_pos (show(kp (x.2.1.aU 1 co) b c3).aH 2=0 from vN.1),KT,E4,jm]at VT;subst VT;refine gO ?_;refine ca (yG (x.2.1.aU 1 co) b c3 200 5000 Q7 Zf og 0) (pk [0,1,0,0,0,0,0,0,0,0,0,0,0,0,0,0,0]) ?_;rintro _ _ ⟨rfl,c4,hc4,rfl⟩;rw[ht.2.1,ht.2.2.1,ht.1,jm];have hc4:=hc4.up (N':=300) (T':=6000) og og;refine gO ?_;refine XO.bJ (z:=.agg #[iI 0,iI 0]) (m:=2) (C:=nO 0 0) nO.box ?_;intro bc;refine gO ?_;refine fW .aa (nO.st _ _ _ _) rfl ⟨rfl,rfl⟩ ?_;refine ca (yG ((x.2.1.aU 1 co).fH 0) b c4 300 6000 (Ze.up og og) hc4 og 0) (pk [1,1,1,1,1,1,1,1,1,1,1,1,1,1,1,1,1]) ?_;rintro _ _ ⟨rfl,c5,hc5,rfl⟩;rw[hw8,VO hw8];refine gO ?_;refine XO.bJ (z:=.agg #[iI 0,iI 0]) (m:=2) (C:=nO 0 0) nO.box ?_;intro bd;refine gO ?_;refine fW .aa (nO.st _ _ _ _) rfl ⟨rfl,rfl⟩ ?_;refine ca (HI b.kb (kp ((x.2.1.aU 1 co).fH 0) b c5)) (pk [1]) ?_;rintro _ _ ⟨pl,cl,rfl,rfl⟩;rw[show Vm.eM (fun n=>decide (((kp ((x.2.1.aU 1 co).fH 0) b c5).u n).st=1)) 20=KA.DS ((x.2.1.aU 1 co).fH 0)from rfl,hf.DS Ze.o0];refine gO ?_;refine gQ (e:=3) (vs:= #[(0,iI 0),(1,iI 2)]) (A:= #[iI 0,iI 2]) (sz:=1) rfl (fun _=>kq) rfl og rfl ?_;intro bn1;refine gO ?_;refine ca (n9 pl _ cl 2 [0,2] [0,2] dq) (pk [1,0]) ?_;rintro v24 _ ⟨adf,rfl⟩;obtain rfl:v24= .bool true:=adf;refine gO ?_;refine WJ 135 rfl (rfl) ?_;refine lM (.oq (.t8 .aa)) (nO.agg _ _) ?_;refine XO.v (V.build (vs:= #[(0,iI 2),(1,iI co)]) rfl (v:=.agg #[iI 2,iI co]) fun _=>kq) rfl (gO ?_);refine XO.v (Si rfl rfl afC rfl) rfl (gO ?_);refine WJ 145 rfl (⟨rfl,rfl⟩) ?_;refine cq (Oz 8) .nil ?_;refine WJ 150 rfl (rfl) ?_;refine ca (F4 ((x.2.1.aU 1 co).fH 0) b c5) (pk [2,4]) ?_;rintro _ _ ⟨vp,vk,rfl,rfl⟩;rw[hf.VK pw2 Ze.o0];refine gO ?_;refine gQ (e:=3) (vs:= #[(0,iI 0)]) (A:= #[iI 0]) (sz:=1) rfl (fun _=>kq) rfl og rfl ?_;intro bn2;refine gO ?_;refine ca (n9 vp _ vk 1 [0] [0] dq) (pk [1,0]) ?_;rintro v25 _ ⟨adg,rfl⟩;obtain rfl:v25= .bool true:=adg;refine gO ?_;refine bS .nil ?_;try dsimp only[aK,aJ,aG,aR]
     exact⟨rfl,rfl⟩
set_option maxHeartbeats 16000000 in
def adh(p:Option Addr)(cap:Nat)(co:Int)(hco: -9223372036854775808<=co/\co<=9223372036854775807):Spec Tryz.prog 7 [.slice p 0 cap,iI co] [.ro 0 0 32 dD,.ro 1 0 64 ix] (fun v H1=>v= .bool true/\H1=[]):=by
 refine Spec.go 156 [0,1,4,5,6,7,8,9,10,11,16,17,18,19,21,27,51,62,66,107] [] Tryz.func7 fun W=> ?_;refine ca (KE) .nil ?_;rintro _ _ ⟨b,c0,rfl,_,_,BA,rfl⟩;refine gO ?_;refine ca (yF A0 b c0 1 2 Kv BA og 0 true) (pz 17) ?_;rintro _ _ ⟨rfl,c1,ie,rfl⟩;rw[H_E.1.1,H_E.1.2,jm,show A0.fy 0 true=H1 from rfl];have ie:cR H1 c1 2 22:=ie;refine gO ?_;refine ca (yF H1 b c1 2 22 (Oy.up og og) ie og 0 false) (pz 17) ?_;rintro _ _ ⟨rfl,c2,uZ,rfl⟩;rw[H_E.2.1,H_E.2.2,jm,show H1.fy 0 false=H2 from rfl];have uZ:cR H2 c2 3 42:=uZ;refine gO ?_;refine spF 48 rfl og ?_;refine AZ rfl og ?_;refine ca (Y6 _ _ 100) .nil ?_;rintro _ _ ⟨⟨bf,rfl,ada⟩,rfl⟩;refine gO ?_;refine M9 55 rfl ?_ ?_<;>intro h2
 ·try simp only[sb]at h2
  refine bS .nil ?_;try dsimp only[aK,aJ,aG,aR]
  exact⟨rfl,rfl⟩
 ·try simp only[sb]at h2
  refine sp 59 rfl ?_ ?_<;>intro h3
  ·refine bS .nil ?_;try dsimp only[aK,aJ,aG,aR]
   exact⟨rfl,rfl⟩
  ·have aif:¬co<0:=h3;refine cd rfl ?_ ?_<;>intro h4
   ·refine bS .nil ?_;try dsimp only[aK,aJ,aG,aR]
    exact⟨rfl,rfl⟩
   ·have aih:¬co>255:=h4;refine lp (σ:=Int×KA×KC) (fun x=>0) (fun x=>(0<=x.1/\x.1<=(0:Nat))/\x.2.1.Ok (42+20*x.1)/\cR x.2.1 x.2.2 (3+x.1.toNat) (42+20*x.1)/\x.2.1.Pw/\x.2.1.Hd) (fun x=>[(11,iI x.1),(0,.slice p 0 cap),(1,iI co),(5,aA b.kb 0 0)]) (fun x=>XM W (ck [.ro 0 0 32 dD,.ro 1 0 64 ix]) (df x.2.1 b x.2.2 [.ro 0 0 32 dD,.ro 1 0 64 ix])) ((0,H2,c2)) ?_ S4 (xq (pz 19)) ?_
    ·exact⟨sq,aae.up og og,uZ.up og og,aaf,aad⟩
    intro x sP;obtain⟨hi,ho,hc,mi,VS⟩:=sP;refine gC ?_;refine AZ rfl (by simp;omega) ?_;obtain⟨DZ,sK⟩:=VS.dW (co:=co) og og;have hb:=VS.Z9 mi ho.o0 co;have Q7:(x.2.1.aU 1 co).Ok 5000:=by rw[<-sK];exact(ho.iS 1 co).up og og
    have pwb:(x.2.1.aU 1 co).Pw:=by rw[<-sK];exact mi.iS ho.o0 1 co
    have vN:=hb.aab Q7.o0;have KT:((x.2.1.aU 1 co).s.gh 2 ((x.2.1.aU 1 co).s.bM 2).1).1=3:=by rw[vN.2]
    have E4:((x.2.1.aU 1 co).s.gh 2 ((x.2.1.aU 1 co).s.bM 2).1).2=0:=by rw[vN.2]
    have ht:=hb.ac3 pwb Q7.o0;have hf:=hb.left pwb Q7.o0;have Ze:=Q7.db 0;have pw2:=pwb.db Q7.o0 0;have hw8:=hf.db pw2 Ze.o0;refine vl 17 (HA x.2.1 b x.2.2 (3+x.1.toNat) (42+20*x.1) ho hc og 1 co) (pz 18) rfl ?_;rintro _ _ ⟨rfl,c3,Zf,rfl⟩;rw[DZ,jm,sK];rw[sK]at Zf;have Zf:=Zf.up (N':=200) (T':=5000) og og;refine gO ?_;refine ca (Uu b.kb (kp (x.2.1.aU 1 co) b c3) (x.2.1.aU 1 co).s 2) (pk [0,1]) ?_;rintro v12 _ ⟨VT,rfl⟩;rw[if_pos (show(kp (x.2.1.aU 1 co) b c3).aH 2=0 from vN.1),KT,E4,jm]at VT;subst VT;refine gO ?_;refine ca (yG (x.2.1.aU 1 co) b c3 200 5000 Q7 Zf og 0) (pk [0,1,0,0,0,0,0,0,0,0,0,0,0,0,0,0,0]) ?_;rintro _ _ ⟨rfl,c4,hc4,rfl⟩;rw[ht.2.1,ht.2.2.1,ht.1,jm];have hc4:=hc4.up (N':=300) (T':=6000) og og;refine gO ?_;refine XO.bJ (z:=.agg #[iI 0,iI 0]) (m:=2) (C:=nO 0 0) nO.box ?_;intro bc;refine gO ?_;refine fW .aa (nO.st _ _ _ _) rfl ⟨rfl,rfl⟩ ?_;refine ca (yG ((x.2.1.aU 1 co).fH 0) b c4 300 6000 (Ze.up og og) hc4 og 0) (pk [1,1,1,1,1,1,1,1,1,1,1,1,1,1,1,1,1]) ?_;rintro _ _ ⟨rfl,c5,hc5,rfl⟩;rw[hw8,VO hw8];refine gO ?_;refine XO.bJ (z:=.agg #[iI 0,iI 0]) (m:=2) (C:=nO 0 0) nO.box ?_;intro bd;refine gO ?_;refine fW .aa (nO.st _ _ _ _) rfl ⟨rfl,rfl⟩ ?_;refine ca (HI b.kb (kp ((x.2.1.aU 1 co).fH 0) b c5)) (pk [1]) ?_;rintro _ _ ⟨pl,cl,rfl,rfl⟩;rw[show Vm.eM (fun n=>decide (((kp ((x.2.1.aU 1 co).fH 0) b c5).u n).st=1)) 20=KA.DS ((x.2.1.aU 1 co).fH 0)from rfl,hf.DS Ze.o0];refine gO ?_;refine gQ (e:=3) (vs:= #[(0,iI 0),(1,iI 2)]) (A:= #[iI 0,iI 2]) (sz:=1) rfl (fun _=>kq) rfl og rfl ?_;intro bn1;refine gO ?_;refine ca (n9 pl _ cl 2 [0,2] [0,2] dq) (pk [1,0]) ?_;rintro v24 _ ⟨adf,rfl⟩;obtain rfl:v24= .bool true:=adf;refine gO ?_;refine WJ 135 rfl (rfl) ?_;refine lM (.oq (.t8 .aa)) (nO.agg _ _) ?_;refine XO.v (V.build (vs:= #[(0,iI 2),(1,iI co)]) rfl (v:=.agg #[iI 2,iI co]) fun _=>kq) rfl (gO ?_);refine XO.v (Si rfl rfl afC rfl) rfl (gO ?_);refine WJ 145 rfl (⟨rfl,rfl⟩) ?_;refine cq (Oz 8) .nil ?_;refine WJ 150 rfl (rfl) ?_;refine ca (F4 ((x.2.1.aU 1 co).fH 0) b c5) (pk [2,4]) ?_;rintro _ _ ⟨vp,vk,rfl,rfl⟩;rw[hf.VK pw2 Ze.o0];refine gO ?_;refine gQ (e:=3) (vs:= #[(0,iI 0)]) (A:= #[iI 0]) (sz:=1) rfl (fun _=>kq) rfl og rfl ?_;intro bn2;refine gO ?_;refine ca (n9 vp _ vk 1 [0] [0] dq) (pk [1,0]) ?_;rintro v25 _ ⟨adg,rfl⟩;obtain rfl:v25= .bool true:=adg;refine gO ?_;refine bS .nil ?_;try dsimp only[aK,aJ,aG,aR]
    exact⟨rfl,rfl⟩
end Go.X.Kn
