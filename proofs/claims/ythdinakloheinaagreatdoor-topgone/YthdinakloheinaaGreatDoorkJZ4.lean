import Derived.Test.YthdinakloheinaaGreatDoorkJG14
set_option linter.all false
set_option maxRecDepth 20000
set_option maxHeartbeats 16000000
namespace Go.X.Kn
open Go Go.Proofs Go.X Go.X.Sg Go.X.Vm
attribute [local irreducible] KA.db KA.cL
def ahc(a:KA)(b:KZ)(c:KC)(N:Nat)(T:Int)(ho:a.Ok T)(hc:cP a c N T)(hT:T<=800000)(Yf:1<=T)(hN:N<=800)(x:jA)(hx:x.s.size<=1000/\x.t.size<=1000):Fn 28 [ay b.kb 0 0,.agg (J5 x)] (du a b c [g8,g9]) (fun v H1=>∃ (a1:KA) (r:mJ) (c1:KC),v= .agg r.c9/\a.sH c c1 x a1 r.n r.e/\cP a1 c1 (N+1) (T+20)/\H1=(du a1 b c1 [])):=by
 refine Spec.go 223 [0,3,4,5,6,7,8,9,10,12,16,28,36,52,62,72,82,92,104,116,126,141,152,164,170,180,188,196,204,214] [(3,1)] Tryz.func28 fun W=> ?_;refine XO.box (m:=8) (C:=gM x) rfl rfl (Rs x) rfl ?_;intro ba;apply gO;apply XO.bP (z:=.agg mJ.nil.c9) (m:=4) (C:=df mJ.nil) (df.box _);intro bz;apply gO;apply XO.bP (z:=.agg mJ.nil.c9) (m:=4) (C:=df mJ.nil) (df.box _);intro br;apply gO;apply ww (σ:=KA×mJ×Int×KC) (fun y=>a.sH c y.2.2.2 x y.1 y.2.1.n y.2.2.1/\cP y.1 y.2.2.2 (N+1) (T+20)) (fun y=>[(4,ay bz 0 0),(5,ay br 0 0),(6,ax 102 y.2.2.1)]) fun y=>du y.1 b y.2.2.2 [f9 bz mJ.nil,f9 br y.2.1]
 apply ld (.t2 .aa) (ve _);apply (cd)<;>intro h1
 ·have hk:=h1;refine ld (.t2 .aa) (bF _) (ld (.t2 .aa) (jU _) ?_);refine ca (ac5 a b c N T ho hc hT x.a x.on) (pk (rr 17 3 [])) ?_;rintro _ _ ⟨rfl,c1,ia,rfl⟩;apply gO;refine st (.ph (.t5 .aa)) (fP _ _) rfl (wd ((a.gH x.a x.on,⟨a.nk x.a x.on,0,0,⟨#[]⟩⟩,a.mH x.a x.on,c1)) ?_ (pk (rr 17 0 [1,0])));exact⟨.jo hk,(ia.up og og)⟩
 have hk5:=h1;apply (cd)<;>intro h2
 ·have hk:=h2;refine ld (.t2 .aa) (bF _) (ld (.t2 .aa) (dw _) ?_);refine yy 17 (Ks a b c N T ho hc hT x.a x.b) (pk (rr 18 3 [])) rfl ?_;rintro _ _ ⟨rfl,c1,ia,rfl⟩;apply gO;refine wd ((a.fA x.a x.b,⟨0,0,0,⟨#[]⟩⟩,a.uG x.a x.b,c1)) ?_ (pk (rr 17 0 [2,1]));exact⟨.exit hk,(ia.up og og)⟩
 have hk7:=h2;apply (cd)<;>intro h3
 ·have hk:=h3;apply ld (.t2 .aa) (bF _);refine ca (Kx a b c N T ho hc hT x.a) (pk (rr 17 3 [])) ?_;rintro _ _ ⟨rfl,c1,ia,rfl⟩;apply gO;apply XO.bP (z:=.agg #[iI 0,iI 0]) (m:=2) (C:=rJ 0 0) rJ.box;intro bc;apply gO;refine gu .aa (rJ.st _ _ _ _) rfl ⟨rfl,rfl⟩ (ld .aa (rJ.Dy _ _) (st (.ph (.t6 .aa)) (fP _ _) rfl (ld .aa (rJ.Gg _ _) (st (.ph (.t6 .aa)) (CX _ _) rfl (wd ((a.eT x.a,⟨a.Fk x.a,a.Fl x.a,0,⟨#[]⟩⟩,a.nl x.a,c1)) ?_ (pk (rr 17 1 [2,1])))))));exact⟨.qE (qE hk) .dc _ _,(ia.up og og)⟩
 have hk9:=h3;apply (cd)<;>intro h4
 ·have hk:=h4;refine ld (.t2 .aa) (bF _) (ld (.t2 .aa) (dw _) (ld (.t2 .aa) (gX _) ?_));refine yy 17 (UU a b c N T ho hc hT x.a x.b x.c) (pk (rr 18 3 [])) rfl ?_;rintro _ _ ⟨rfl,c1,ia,rfl⟩;apply gO;refine wd ((a.j9 x.a x.b x.c,⟨0,0,0,⟨#[]⟩⟩,a.ot x.a x.b x.c,c1)) ?_ (pk (rr 17 0 [2,1]));exact⟨.qE (qE hk) .nj _ _,(ia.up og og)⟩
 have apQ:=h4;apply (cd)<;>intro h5
 ·have hk:=h5;refine ld (.t2 .aa) (bF _) (ld (.t2 .aa) (dw _) (ld (.t2 .aa) (jU _) ?_));refine yy 17 (acJ a b c N T ho hc hT x.a x.b x.on) (pk (rr 18 3 [])) rfl ?_;rintro _ _ ⟨rfl,c1,ia,rfl⟩;apply gO;refine wd ((a.mG x.a x.b x.on,⟨0,0,0,⟨#[]⟩⟩,a.yh x.a x.b x.on,c1)) ?_ (pk (rr 17 0 [2,1]));exact⟨.qE (qE hk) .dX _ _,(ia.up og og)⟩
 have apR:=h5;apply (cd)<;>intro h6
 ·have hk:=h6;refine ld (.t2 .aa) (bF _) (ld (.t2 .aa) (dw _) (ld (.t2 .aa) (gX _) ?_));refine yy 17 (agX a b c N T ho hc hT x.a x.b x.c) (pk (rr 18 3 [])) rfl ?_;rintro _ _ ⟨rfl,c1,ia,rfl⟩;apply gO;refine wd ((a.B2 x.a x.b x.c,⟨0,0,0,⟨#[]⟩⟩,a.Ye x.a x.b x.c,c1)) ?_ (pk (rr 17 0 [2,1]));exact⟨.qE (qE hk) .kt _ _,(ia.up og og)⟩
 have apS:=h6;apply (cd)<;>intro h7
 ·have hk:=h7;apply ld (.t2 .aa) (bF _);refine yy 17 (acK a b c N T ho hc hT x.a) (pk (rr 18 3 [])) rfl ?_;rintro _ _ ⟨rfl,c1,ia,rfl⟩;apply gO;refine st (.ph (.t6 .aa)) (fP _ _) rfl (wd ((a.qs x.a,⟨a.Fg x.a,0,0,⟨#[]⟩⟩,a.Ff x.a,c1)) ?_ (pk (rr 17 0 [2,1])));exact⟨.qE (qE hk) .take _ _,(ia.up og og)⟩
 have apT:=h7;apply (cd)<;>intro h8
 ·have hk:=h8;refine ld (.t2 .aa) (bF _) (ld (.t2 .aa) (dw _) (ld (.t2 .aa) (gX _) (ld (.t2 .aa) (jU _) ?_)));refine ca (ag0 a b c N T ho hc hT x.a x.b x.c x.on) (pk (rr 17 3 [])) ?_;rintro _ _ ⟨rfl,c1,ia,rfl⟩;apply gO;refine wd ((a.Dm x.a x.b x.c x.on,⟨0,0,0,⟨#[]⟩⟩,a.rz x.a x.b x.c,c1)) ?_ (pk (rr 17 0 [1,0]));exact⟨.qE (qE hk) .map _ _,(ia.up og og)⟩
 have apU:=h8;apply (cd)<;>intro h9
 ·have hk:=h9;refine ld (.t2 .aa) (bF _) (ld (.t2 .aa) (dw _) (ld (.t2 .aa) (gX _) (ld (.t2 .aa) (jU _) ?_)));refine ca (P6 a b c N T ho hc hT x.a x.b x.c x.on) (pk (rr 17 3 [])) ?_;rintro _ _ ⟨rfl,c1,ia,rfl⟩;apply gO;refine wd ((a.uH x.a x.b x.c x.on,⟨0,0,0,⟨#[]⟩⟩,a.lM x.a x.b x.c,c1)) ?_ (pk (rr 17 0 [1,0]));exact⟨.qE (qE hk) .mW _ _,(ia.up og og)⟩
 have apV:=h9;apply (cd)<;>intro Vb
 ·have hk:=Vb;refine ld (.t2 .aa) (bF _) (ld (.t2 .aa) (dw _) (ld (.t2 .aa) (gX _) ?_));refine ca (Ga a b c N T ho hc hT x.a x.b x.c) (pk (rr 17 3 [])) ?_;rintro _ _ ⟨rfl,c1,ia,rfl⟩;apply gO;refine wd ((a.aP x.a x.b x.c,⟨0,0,0,⟨#[]⟩⟩,a.nY x.a x.b x.c,c1)) ?_ (pk (rr 17 0 [1,0]));exact⟨.dM hk,(ia.up og og)⟩
 have amj:=Vb;apply (cd)<;>intro h11
 ·have hk:=h11;refine ld (.t2 .aa) (bF _) (ld (.t2 .aa) (dw _) ?_);refine yy 17 (acQ a b c N T ho hc hT x.a x.b) (pk (rr 19 3 [])) rfl ?_;rintro _ _ ⟨rfl,c1,ia,rfl⟩;apply gO;refine XO.v (nI rfl Tryz.underlying5 Tryz.underlying3 _ (IntWalk.i64_in _ (by have:=KA.Ok.aiV ho og x.a x.b;omega))) rfl (gO ?_);refine st (.ph (.t7 .aa)) (fP _ _) rfl (wd (((a.iy x.a x.b).2.1,⟨(a.iy x.a x.b).2.2,0,0,⟨#[]⟩⟩,(a.iy x.a x.b).1,c1)) ?_ (pk (rr 17 0 [3,2])));exact⟨.load hk,(ia.up og og)⟩
 have amk:=h11;apply (cd)<;>intro h12
 ·have hk:=h12;refine ld (.t2 .aa) (bF _) (ld (.t2 .aa) (dw _) (ld (.t2 .aa) (gX _) (XO.v (nI rfl Tryz.underlying3 Tryz.underlying5 (IntKind.u8.wrap x.c) rfl) rfl (gO ?_))));refine yy 17 (Zs a b c N T ho hc hT x.a x.b (IntKind.u8.wrap x.c) (Vm.Q8 _)) (pk (rr 19 3 [])) rfl ?_;rintro _ _ ⟨rfl,c1,ia,rfl⟩;apply gO;refine wd (((a.gV x.a x.b (IntKind.u8.wrap x.c)).2.1,⟨0,0,0,⟨#[]⟩⟩,(a.gV x.a x.b (IntKind.u8.wrap x.c)).1,c1)) ?_ (pk (rr 17 0 [3,2]));exact⟨.store hk,(ia.up og og)⟩
 have aml:=h12;apply (cd)<;>intro h13
 ·have hk:=h13;refine ld (.t2 .aa) (bF _) (ld (.t2 .aa) (dw _) ?_);refine ca (Ny a b c N T ho hc hT x.a x.b) (pk (rr 17 3 [])) ?_;rintro _ _ ⟨n0,e0,c1,rfl,ia,rfl⟩;apply gO;refine st (.ph (.t5 .aa)) (fP _ _) rfl (wd ((a.nG x.a x.b,⟨n0,0,0,⟨#[]⟩⟩,e0,c1)) ?_ (pk (rr 17 0 [1,0])));exact⟨.add hk n0 e0,(ia.up og og)⟩
 have amm:=h13;apply (cd)<;>intro h14
 ·have hk:=h14;apply ld (.t2 .aa) (bF _);refine ca (Ku a b c N T ho hc hT x.a) (pk (rr 17 3 [])) ?_;rintro _ _ ⟨e0,c1,rfl,ia,rfl⟩;apply gO;refine wd ((a.B4 x.a,⟨0,0,0,⟨#[]⟩⟩,e0,c1)) ?_ (pk (rr 17 0 [1,0]));exact⟨.qE (qE hk) .drop _ _,(ia.up og og)⟩
 have apW:=h14;apply (cd)<;>intro h15
 ·have hk:=h15;refine ld (.t2 .aa) (bF _) (ld (.t2 .aa) (dw _) (ld (.t2 .aa) (gX _) ?_));refine ca (Zt a b c N T ho hc hT x.a x.b x.c) (pk (rr 17 3 [])) ?_;rintro _ _ ⟨rfl,c1,ia,rfl⟩;apply gO;refine wd ((a.Ul x.a x.b x.c,⟨0,0,0,⟨#[]⟩⟩,a.g.kU x.a x.b x.c,c1)) ?_ (pk (rr 17 0 [1,0]));exact⟨.Z7 hk,(ia.up og og)⟩
 have amn:=h15;apply (cd)<;>intro h16
 ·have hk:=h16;refine ld (.t2 .aa) (bF _) (ld (.t2 .aa) (dw _) ?_);refine ca (acT a b c N T ho hc hT x.a x.b) (pk (rr 17 3 [])) ?_;rintro _ _ ⟨e0,c1,rfl,he0,ia,rfl⟩;apply gO;refine wd ((a.pd x.a x.b,⟨0,0,0,⟨#[]⟩⟩,e0,c1)) ?_ (pk (rr 17 0 [1,0]));exact⟨.Bf hk e0 he0,(ia.up og og)⟩
 have amo:=h16;apply (cd)<;>intro h17
 have hk:=h17;refine ld (.t2 .aa) (bF _) (ld (.t2 .aa) (jU _) ?_);refine ca (Zp a b c N T ho hc hT x.a x.on) (pk (rr 17 3 [])) ?_;rotate_left
 have apY:=h17;apply (cd)<;>intro h18
 have hk:=h18;refine ld (.t2 .aa) (bF _) (ld (.t2 .aa) (jU _) ?_);refine ca (UZ a b c N T ho hc hT x.a x.on) (pk (rr 17 3 [])) ?_;rotate_left
 have apZ:=h18;apply (cd)<;>intro h19
 have hk:=h19;refine ld (.t2 .aa) (bF _) (ld (.t2 .aa) (dw _) (ld (.t2 .aa) (gX _) ?_));refine ca (Zu a b c N T ho hc hT x.a x.b x.c) (pk (rr 17 3 [])) ?_;rotate_left
 ·have ap0:=h19;apply (cd)<;>intro h20
  ·have hk:=h20;refine ca (acR a b c N T ho hc hT hN) (pk (rr 17 3 [])) ?_;rintro _ _ ⟨n0,c1,rfl,hr0,ia,rfl⟩;apply gO;refine st (.ph (.t5 .aa)) (fP _ _) rfl (wd ((a,⟨n0,0,0,⟨#[]⟩⟩,0,c1)) ?_ (pk (rr 17 0 [1,0])));exact⟨.l8 hk n0 hr0,(ia.up og og)⟩
  ·have amp:=h20;have hdk:x.aI∉[Io,Ip,Uo,Iq,B5,Ir,Up,Is,Uq]:=Yl hk5 hk7 amj amk aml amp amn amo amm;apply mP (.t2 .aa) (ab2 _);refine yy 17 (ac7 a b c N T ho hc hT Yf x hx aq) (pk (rr 18 3 [])) rfl ?_;rintro _ _ ⟨a1,r,c1,rfl,hs1,ia,rfl⟩;apply gO;refine gu (.ph (.t7 .aa)) (df.st _ _) rfl ⟨rfl,rfl⟩ (kf rfl (.agg rfl (.ph (.t7 .aa)) (df.agg _) kq Kw) (ai (pz 17) rfl ?_));grind
 intro y hy;obtain⟨pf,hcy⟩:=hy;apply gC;refine cq (Se _) .nil ?_;refine st (.ph (.t6 .aa)) (CY _ _) rfl (mP (.ph (.t6 .aa)) (df.agg _) (gu (.ph (.t5 .aa)) (df.st _ _) rfl ⟨rfl,rfl⟩ (kf rfl (.agg rfl (.ph (.t5 .aa)) (df.agg _) kq Kw) (ai (pz 17) rfl ?_))));grind;all_goals rintro _ _ ⟨e0,c1,rfl,ia,rfl⟩;apply gO;refine wd ((a,⟨0,0,0,⟨#[]⟩⟩,e0,c1)) ?_ (pk (rr 17 0 [1,0]));exact⟨.qE (qE hk) .same _ _,(ia.up og og)⟩
open Go.X.Fa Go.X.Gr Go.X.Tr
theorem UM0(v:Value)(R:List aG)(h:(∃ (p:Option Addr) (cap:Nat),v=.slice p 0 cap/\R=[])\/∃ (bl ol len cap:Nat) (A:Int->jA),v=.slice (some ⟨bl,ol,none⟩) len cap/\R=[.ro bl ol (8*len) (fY A)]/\len<=cap/\∀ z:Int,0<=z->z<len->(A z).ok):Fn 11 [v] (g8::g9::R) (ap (.bool true) []):=by
 rcases h with⟨p,cap,rfl,rfl⟩ | ⟨bl,ol,len,cap,A,rfl,rfl,hlen,hA⟩
 refine Spec.g 162 [0,2,3,4,5,6,7,9,10,12,13,14,15,16,18,19,20,31,36,46,53,67,69,77,95,124] Tryz.func11 fun W=> ?_;refine ca (NB) .nil ?_;rintro _ _ ⟨b,c0,rfl,_,_,DI,rfl⟩;apply gO;refine ca (acZ _ _ 120) .nil ?_;rintro _ _ ⟨⟨bf,rfl,ahd⟩,rfl⟩;apply gO;apply (yx)<;>intro h1;rotate_left
 try simp only[sb]at h1
 refine wl (σ:=Int×KA×KC) (fun x=>0) (fun x=>(0<=x.1/\x.1<=(0:Nat))/\x.2.1.Ok (2+20*x.1)/\cP x.2.1 x.2.2 (1+x.1.toNat) (2+20*x.1)/\x.2.1.Pw/\x.2.1.GI/\x.2.1.FI/\Fu x.2.1) (fun x=>[(5,iI x.1),(0,.slice p 0 cap),(3,ay b.kb 0 0)]) (fun x=>du x.2.1 b x.2.2 [g8,g9]) ((0,A0,c0)) ?_ (pz 19) ?_
 ·exact⟨sq,Yq,DI,adX,ad1,ad3,ad4⟩
 intro x q8;obtain⟨hi,ho,hc,pe,hgi,hfi,hfu⟩:=q8;apply gC;refine KJ rfl eI ?_;rotate_left
 refine Spec.g 162 [0,2,3,4,5,6,7,9,10,12,13,14,15,16,18,19,20,31,36,46,53,67,69,77,95,124] Tryz.func11 fun W=> ?_;refine ca (NB) .nil ?_;rintro _ _ ⟨b,c0,rfl,_,_,DI,rfl⟩;apply gO;refine yy 0 (ac6 _ _ len cap hlen A hA 120 og) (pk [19]) rfl ?_;rintro _ _ ⟨⟨bf,rfl,ahd⟩,rfl⟩;apply gO;apply (yx)<;>intro h1;rotate_left
 try simp only[sb]at h1
 have hle:(len:Int)<=120:=(ahd (by simpa using h1)).1;have hTx:=(ahd (by simpa using h1)).2;refine wl (σ:=Int×KA×KC) (fun x=>(len-x.1).toNat) (fun x=>(0<=x.1/\x.1<=len)/\x.2.1.Ok (2+20*x.1)/\cP x.2.1 x.2.2 (1+x.1.toNat) (2+20*x.1)/\x.2.1.Pw/\x.2.1.GI/\x.2.1.FI/\Fu x.2.1) (fun x=>[(5,iI x.1),(0,.slice (some ⟨bl,ol,none⟩) len cap),(3,ay b.kb 0 0)]) (fun x=>du x.2.1 b x.2.2 [g8,g9,.ro bl ol (8*len) (fY A)]) ((0,A0,c0)) ?_ (pk (rr 19 1 [0])) ?_
 ·exact⟨sq,Yq,DI,adX,ad1,ad3,ad4⟩
 intro x q8;obtain⟨hi,ho,hc,pe,hgi,hfi,hfu⟩:=q8;apply gC;apply (cd)<;>intro h2
 ·have htx:=hTx x.1 og og;apply (sd);refine aic (.ph (.t7 .aa)) (SM A len _ og) ?_;refine yy 17 (ahc x.2.1 b x.2.2 (1+x.1.toNat) (2+20*x.1) ho hc og og og (A x.1) ⟨og,og⟩) (pz 19) rfl ?_;rintro _ _ ⟨a1,r,c1,rfl,pf,ia,rfl⟩;apply gO;apply (sd);refine wn ((x.1+1,a1,c1)) ?_ ?_ (pz 20)
  ·
   (show(_-(x.1+1)).toNat<(_-x.1).toNat;omega)
  ·exact⟨(by show 0<=x.1+1/\x.1+1<=_;omega),(by have h9:=pf.ok ho og og (hc.F.sh og);rw[show 2+20*(x.1+1)=2+20*x.1+20 by omega];exact h9),(by show cP a1 c1 (1+(x.1+1).toNat) (2+20*(x.1+1));rw[show 2+20*(x.1+1)=2+20*x.1+20 by omega,show 1+(x.1+1).toNat=1+x.1.toNat+1 by omega];exact ia),pe.step ho og pf,hgi.step ho og pf,hfi.step ho og pf,hfu.step ho og pf⟩
 rotate_left;all_goals first
  | refine wl (σ:=Int×KA×KC) (fun y=>y.1.toNat) (fun y=>(0<=y.1/\y.1<=19)/\y.2.1.Ok (5000+20*(19-y.1))/\cP y.2.1 y.2.2 (500+(19-y.1).toNat) (5000+20*(19-y.1))/\y.2.1.Pw/\y.2.1.GI/\y.2.1.FI/\Fu y.2.1/\Lv (fun p=>p<=y.1) y.2.1) (fun y=>[(6,iI y.1),(3,ay b.kb 0 0)]) (fun y=>du y.2.1 b y.2.2 [g8,g9]) ((19,x.2.1,x.2.2)) ?_ (pz 19) ?_
    ·exact⟨sq,(ho.up og og),(hc.up og og),pe,hgi,hfi,hfu,fun p q=>by
      have q:(x.2.1.u p).st=1:=q
      have:=ho.wk.jV (n:=p) og
      show p<=19
      omega⟩
    intro y hy0;obtain⟨hyi,Ky,hyc,ZG,ZH,ZI,ZJ,ZK⟩:=hy0;apply gC;apply (cd)<;>intro h3
    ·refine yy 17 (Ks y.2.1 b y.2.2 (500+(19-y.1).toNat) (5000+20*(19-y.1)) Ky hyc og y.1 3) (pz 18) rfl ?_;rintro _ _ ⟨rfl,c3,hc3,rfl⟩;apply gO;apply (sd);refine wn ((y.1-1,y.2.1.fA y.1 3,c3)) ?_ ?_ (pz 19)
     ·
      (show(y.1-1).toNat<y.1.toNat;omega)
     ·exact⟨(by show 0<=y.1-1/\y.1-1<=19;omega),(by show(y.2.1.fA y.1 3).Ok (5000+20*(19-(y.1-1)));exact(Ky.fA y.1 3).up og og),(by show cP (y.2.1.fA y.1 3) c3 (500+(19-(y.1-1)).toNat) (5000+20*(19-(y.1-1)));exact hc3.up og og),ZG.fA Ky.o0 y.1 3,gq.fA Ky.wk _ _ ZH,lE.fA Ky.wk _ _ ZI,lF.fA Ky.wk _ _ ZJ,fun p q=>by have:=ID Ky ZK (n:=y.1) og og p q;show p<=y.1-1;omega⟩
    ·have hal:Lv (fun p=>p=0) y.2.1:=fun p q=>by
      have:=ZK p q;have:=Ky.wk.jV (n:=p) og;omega
     refine wl (σ:=Int×KA×KC) (fun z=>(25-z.1).toNat) (fun z=>(0<=z.1/\z.1<=25)/\z.2.1.Ok (6000+20*z.1)/\cP z.2.1 z.2.2 (600+z.1.toNat) (6000+20*z.1)/\z.2.1.Pw/\z.2.1.GI/\z.2.1.FI/\Fu z.2.1/\Lv (fun p=>p=0) z.2.1/\(z.2.1.nn<=20-z.1\/∀ p,p≠0->(z.2.1.u p).st=0)) (fun z=>[(7,iI z.1),(3,ay b.kb 0 0)]) (fun z=>du z.2.1 b z.2.2 [g8,g9]) ((0,y.2.1,y.2.2)) ?_ (pz 19) ?_
     ·exact⟨sq,(Ky.up og og),(hyc.up og og),ZG,ZH,ZI,ZJ,hal,.inl (by have:=Yz y.2.1;show y.2.1.nn<=20-0;omega)⟩
     intro z hz0;obtain⟨hzi,uW,hzc,Cp,P9,Qa,Qb,Qc,Qd⟩:=hz0;apply gC;apply (cd)<;>intro h4
     ·refine ca (Kx z.2.1 b z.2.2 (600+z.1.toNat) (6000+20*z.1) uW hzc og 0) (pz 17) ?_;rintro _ _ ⟨rfl,c4,hc4,rfl⟩;apply gO;refine XO.bP (z:=.agg #[iI 0,iI 0]) (m:=2) (C:=rJ 0 0) rJ.box ?_;intro bc;apply gO;refine gu .aa (rJ.st _ _ _ _) rfl ⟨rfl,rfl⟩ ?_;apply UV 63<;>intro h5
      ·have mK:z.2.1.nl 0=2:=by
        rcases zg Qc Cp uW.o0 with⟨q,_⟩ | ⟨q,_⟩
        ·exact absurd q h5
        ·exact q
       refine cq (Se _) .nil ?_;refine KJ rfl og ?_;apply (sd);refine wn ((z.1+1,z.2.1.eT 0,c4)) ?_ ?_ (pk (rr 19 1 []))
       ·
        (show(25-(z.1+1)).toNat<(25-z.1).toNat;omega)
       ·have ZL:=xv Qc Cp uW.o0;exact⟨(by show 0<=z.1+1/\z.1+1<=25;omega),(by show(z.2.1.eT 0).Ok (6000+20*(z.1+1));exact(uW.dc 0).up og og),(by show cP (z.2.1.eT 0) c4 (600+(z.1+1).toNat) (6000+20*(z.1+1));exact hc4.up og og),Cp.dc uW.o0 0,gq.dc uW.wk _ P9,lE.dc uW.wk _ Qa,lF.dc uW.wk _ Qb,ZL.1,(by
         show(z.2.1.eT 0).nn<=20-(z.1+1)\/_
         rcases Qd with q | q
         ·rcases ZL.2 with r | r
          ·exact .inl og
          ·exact .inr r
         ·exact .inr (xw uW.o0 q))⟩
      ·apply (sd);refine wn ((z.1+1,z.2.1.eT 0,c4)) ?_ ?_ (pk (rr 19 1 []))
       ·
        (show(25-(z.1+1)).toNat<(25-z.1).toNat;omega)
       ·have ZL:=xv Qc Cp uW.o0;exact⟨(by show 0<=z.1+1/\z.1+1<=25;omega),(by show(z.2.1.eT 0).Ok (6000+20*(z.1+1));exact(uW.dc 0).up og og),(by show cP (z.2.1.eT 0) c4 (600+(z.1+1).toNat) (6000+20*(z.1+1));exact hc4.up og og),Cp.dc uW.o0 0,gq.dc uW.wk _ P9,lE.dc uW.wk _ Qa,lF.dc uW.wk _ Qb,ZL.1,(by
         show(z.2.1.eT 0).nn<=20-(z.1+1)\/_
         rcases Qd with q | q
         ·rcases ZL.2 with r | r
          ·exact .inl og
          ·exact .inr r
         ·exact .inr (xw uW.o0 q))⟩
     ·have rK:∀ p,p≠0->(z.2.1.u p).st=0:=Qd.resolve_left (by have:=YA uW.o0;omega);refine wl (σ:=Int×KA×KC) (fun w=>(6-w.1).toNat) (fun w=>(0<=w.1/\w.1<=6)/\w.2.1.Ok (7000+20*w.1)/\cP w.2.1 w.2.2 (700+w.1.toNat) (7000+20*w.1)/\w.2.1.Pw/\w.2.1.GI/\w.2.1.FI/\Fu w.2.1/\(∀ p,p≠0->(w.2.1.u p).st=0)/\∀ j,0<=j->j<w.1->(w.2.1.u 0).fd j=0) (fun w=>[(10,iI w.1),(3,ay b.kb 0 0)]) (fun w=>du w.2.1 b w.2.2 [g8,g9]) ((0,z.2.1,z.2.2)) ?_ (pz 19) ?_
      ·exact⟨sq,(uW.up og og),(hzc.up og og),Cp,P9,Qa,Qb,rK,fun j a b=>by have b:j<0:=b;omega⟩
      intro w hw0;obtain⟨hwi,Gb,hwc,ZM,Qe,Qf,Qg,Qh,ZN⟩:=hw0;apply gC;apply (cd)<;>intro h6
      ·refine ca (F9 w.2.1 b w.2.2 (700+w.1.toNat) (7000+20*w.1) Gb hwc og 0 w.1) (pz 17) ?_;rintro _ _ ⟨rfl,c5,hc5,rfl⟩;apply gO;apply (sd);refine wn ((w.1+1,w.2.1.gh 0 w.1,c5)) ?_ ?_ (pz 19)
       ·
        (show(6-(w.1+1)).toNat<(6-w.1).toNat;omega)
       ·have hm:w.2.1.o3 w.2.2.F.toFF (zx 0 w.1) (w.2.1.gh 0 w.1):=.close;exact⟨(by show 0<=w.1+1/\w.1+1<=6;omega),(by show(w.2.1.gh 0 w.1).Ok (7000+20*(w.1+1));exact(Gb.close 0 w.1).up og og),(by show cP (w.2.1.gh 0 w.1) c5 (700+(w.1+1).toNat) (7000+20*(w.1+1));exact hc5.up og og),ZM.B6 Gb og hm,Qe.B6 Gb og hm,Qf.close Gb.wk 0 w.1,Qg.B6 Gb og hm,fun p c=>by show((w.2.1.gh 0 w.1).u p).st=0;rw[IH];exact Qh p c,FL Gb.r0.st hwi.1 og ZN⟩
      ·obtain⟨QL,Gc⟩:=IJ Gb Qe Qh;have G6:=Gb.dM 0 0 16;have gi6:=(Qe.dM Gb.o0 0 0 16).1;have hu6:(w.2.1.aP 0 0 16).u=w.2.1.u:=by unfold KA.aP;split<;>rfl
       have fi6:(w.2.1.aP 0 0 16).FI:=Qf.same (fun p=>by rw[hu6];exact⟨rfl,rfl⟩) (by unfold KA.aP;split<;>rfl) (by unfold KA.aP;split<;>rfl);have fu6:Fu (w.2.1.aP 0 0 16):=by
        unfold KA.aP;split
        ·exact Qg
        ·exact AW Qg _ _ _
       have pw6:(w.2.1.aP 0 0 16).Pw:=ZM.same (fun p=>by rw[hu6];exact⟨rfl,rfl⟩) (by unfold KA.aP;split<;>rfl);have hio:=fi6.none fun p i i0 i1=>by
        rw[hu6];by_cases c:p=0
        ·subst c;exact ZN i i0 og
        ·exact Qf.nz p i i0 i1 (by rw[Qh p c];decide)
       have KQ:=Gc.g0 gi6 G6;have hl6:(w.2.1.aP 0 0 16).aF 0=0:=KA.tX og G6.r0.st;have ZO:=Gc.left G6 fu6;refine ca (Ga w.2.1 b w.2.2 (700+w.1.toNat) (7000+20*w.1) Gb hwc og 0 0 16) (pz 17) ?_;rintro _ _ ⟨rfl,c6,hc6,rfl⟩;rw[QL,mm];have G6:=G6.up (T':=8000) og og;have hc6:=hc6.up (N':=790) (T':=8000) og og;apply gO;refine ca (IS (w.2.1.aP 0 0 16) b c6 790 8000 G6 hc6) (pz 17) ?_;rintro _ _ ⟨⟨m0,rfl⟩,rfl⟩;rw[hio.2,hio.1];apply gO;refine ca (A2 (w.2.1.aP 0 0 16) b c6 0) (pz 2) ?_;rintro _ _ ⟨rfl,rfl⟩;rw[if_pos KQ.1,KQ.1,mm];apply gO;refine XO.bP (z:=.agg GV.zero.c9) (m:=5) (C:=oU GV.zero) (qe _) ?_;intro bg;apply gO;refine gu .aa (tG _ _) rfl ⟨rfl,rfl⟩ ?_;refine ca (aeg (w.2.1.aP 0 0 16) b c6 0) (pk [1]) ?_;rintro _ _ ⟨rfl,rfl⟩;rw[if_pos hl6,hl6,mm];apply gO;refine wl (σ:=Int) (fun n=>(10-n).toNat) (fun n=>1<=n/\n<=10) (fun n=>[(18,iI n),(3,ay b.kb 0 0),(12,iI 0),(13,iI 0),(14,ay bg 0 0),(15,.nilIface),(16,iI ((w.2.1.aP 0 0 16).u 0).cO)]) (fun n=>[.cells bg 0 5 (oU ((w.2.1.aP 0 0 16).g.gv 0)),dO b.kb (kp (w.2.1.aP 0 0 16) b c6),dl b.gb 0 (w.2.1.aP 0 0 16).g,Sp.bY b.sb 0 (w.2.1.aP 0 0 16).s,d6 b.qb 0 c6.q,.aV cI (SC.dI 254 c6.q),d9 b.bb b.vp (w.2.1.aP 0 0 16).v.ja (w.2.1.aP 0 0 16).v.rf,Vm.d8 b.vp 0 (w.2.1.aP 0 0 16).v.bb.fu,.eJ (ka (w.2.1.aP 0 0 16)) c6.mb 34 (cN b.bb (w.2.1.aP 0 0 16).f c6.pp c6.cc),.aV (ka (w.2.1.aP 0 0 16)) (rN 171 (w.2.1.aP 0 0 16).f c6.pp c6.cc),bi b.tb 0 c6.F,g6 c6.F,g7 c6.F,dH c6.rp c6.rc 3 c6.rl,Tr.el b.pi 0 (w.2.1.aP 0 0 16).P,eQ b.ob 0 b.tb b.pi (w.2.1.aP 0 0 16).O,.eJ (mF (w.2.1.aP 0 0 16)) (fun z=>(c6.t z).b) 4 (cT b.tb c6.t),.aV (mF (w.2.1.aP 0 0 16)) (rT 168 c6.t),g8,g9]) (1) ?_ (pk (1::rr 19 0 [])) ?_
       ·omega
       intro n hn;apply gC;apply (cd)<;>intro h7
       ·refine cq (A2 (w.2.1.aP 0 0 16) b c6 n) (pk [1,1]) ?_;refine XO.bP (z:=.agg GV.zero.c9) (m:=5) (C:=oU GV.zero) (qe _) ?_;intro bh;apply gO;refine gu .aa (tG _ _) rfl ⟨rfl,rfl⟩ ?_;apply UV 106<;>intro h8
        ·have UD:(w.2.1.aP 0 0 16).g.cQ n=0:=h8;obtain⟨q1,q2,q3⟩:=Gc.gn gi6 G6 (n:=n) og UD;rw[if_pos UD];refine ld .aa (ji _) ?_;refine spF 110 rfl (fun v=>v q1) ?_;refine ld .aa (jh _) ?_;refine spF 115 rfl (by show ¬(w.2.1.aP 0 0 16).g.pr n>1;omega) ?_;refine ld .aa (jh _) ?_;apply UV 119<;>intro h11
         ·have RZ:(w.2.1.aP 0 0 16).g.pr n=1:=h11;refine KJ rfl (fun v=>by have:=q3 v;omega) ?_;apply (sd);refine wn (n+1) ?_ ?_ (pk (3::rr 19 1 []))
          ·
           (first | omega | (simp;done) | (simp;omega))
          ·
           (first | omega | (simp;done) | (simp;omega))
         ·apply (sd);refine wn (n+1) ?_ ?_ (pk (3::rr 19 1 []))
          ·
           (first | omega | (simp;done) | (simp;omega))
          ·
           (first | omega | (simp;done) | (simp;omega))
        ·apply (sd);refine wn (n+1) ?_ ?_ (pk (3::rr 19 1 []))
         ·
          (first | omega | (simp;done) | (simp;omega))
         ·
          (first | omega | (simp;done) | (simp;omega))
       ·refine ld .aa (jh _) ?_;refine SH 132 rfl (KQ.2.1) ?_;refine ld .aa (ji _) ?_;refine SH 137 rfl (KQ.2.2) ?_;refine SH 141 rfl (rfl) ?_;refine SH 145 rfl (rfl) ?_;refine ca (Sc (w.2.1.aP 0 0 16) b c6 790 8000 G6 hc6) (pk (rr 17 1 [])) ?_;rintro _ _ ⟨rfl,rfl⟩;rw[ZO];apply gO;refine SH 150 rfl (rfl) ?_;refine ca (Kv b.kb (kp (w.2.1.aP 0 0 16) b c6)) .h1 ?_;rintro _ _ ⟨pl,cl,rfl,rfl⟩;rw[show Vm.fF (fun n=>decide (((kp (w.2.1.aP 0 0 16) b c6).u n).st=1)) 20=KA.Fx (w.2.1.aP 0 0 16)from rfl,Gc.Fx G6];apply gO;refine iL (e:=3) (vs:= #[(0,iI 0)]) (A:= #[iI 0]) (sz:=1) rfl (fun _=>kq) rfl og rfl ?_;intro bn1;apply gO;refine ca (pF pl _ cl 1 [0] [0] dq) (pk [1,0]) ?_;rintro v33 _ ⟨ahf,rfl⟩;obtain rfl:v33= .bool true:=ahf;apply gO;refine ca (IT (w.2.1.aP 0 0 16) b c6) (pk [2,3]) ?_;rintro _ _ ⟨vp,vk,rfl,rfl⟩;rw[Gc.YC pw6 G6];apply gO;refine iL (e:=3) (vs:= #[(0,iI 0)]) (A:= #[iI 0]) (sz:=1) rfl (fun _=>kq) rfl og rfl ?_;intro bn2;apply gO;refine ca (pF vp _ vk 1 [0] [0] dq) (pk [1,0]) ?_;rintro v34 _ ⟨ahg,rfl⟩;obtain rfl:v34= .bool true:=ahg;apply gO;refine bL .nil ?_;try dsimp only[aR,aQ,bH,bQ]
        exact⟨rfl,rfl⟩
  | try simp only[sb]at h1
    refine bL .nil ?_;try dsimp only[aR,aQ,bH,bQ]
    exact⟨rfl,rfl⟩
def U6(bl ol len cap:Nat)(hlen:len<=cap)(A:Int->jA)(hA:∀ z:Int,0<=z->z<len->(A z).ok):Fn 11 [.slice (some ⟨bl,ol,none⟩) len cap] [g8,g9,.ro bl ol (8*len) (fY A)] (ap (.bool true) []):=UM0 _ _ (.inr ⟨bl,ol,len,cap,A,rfl,rfl,hlen,hA⟩)
def IV(p:Option Addr)(cap:Nat):Fn 11 [.slice p 0 cap] [g8,g9] (ap (.bool true) []):=UM0 _ _ (.inl ⟨p,cap,rfl,rfl⟩)
def ZP:Fn 11 [.slice none 0 0] [g8,g9] (ap (.bool true) []):=IV none 0
end Go.X.Kn
