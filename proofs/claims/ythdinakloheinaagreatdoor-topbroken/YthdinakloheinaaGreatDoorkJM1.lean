import Derived.Test.YthdinakloheinaaGreatDoorkJN3
import Derived.Test.YthdinakloheinaaGreatDoorkJF2
namespace Go.X.Kn
open Go Go.Proofs Go.X
set_option maxRecDepth 20000
set_option maxHeartbeats 4000000
attribute [local irreducible] KA.bn KA.bV
set_option maxHeartbeats 16000000 in
theorem vH(bd:Int)(readers:Int):Spec Tryz.prog 5 [.int .i64 bd,.bool false,.int .i64 readers] [.ro 0 0 32 Sg.b6] (fun v H1=>v= .bool true∧H1=[]):=by
 refine Spec.go 196 [0,1,2,6,7,8,9,10,11,12,13,15,16,17,19,20,21,22,23,24,30,38,49,63,79,82,91,95,103,107,121,134,144,173,192] [(23,1)] Tryz.func5 rfl rfl rfl ?_
 intro W
 refine ca (wJ) .nil ?_
 rintro _ _ ⟨b,c0,rfl,_,_,hc0,rfl⟩
 refine gO ?_
 refine ca (Ag A0 b c0 1 2 yc hc0 (by omega) 0) .gq ?_
 rintro _ _ ⟨rfl,c1,hc1,rfl⟩
 rw[MU,M8,Nf,aC]
 refine gO ?_
 refine ca (qo A1 b c1 1 3 (yc.pipe (by omega) (by omega) 0) hc1 (by omega) 0 false) .gq ?_
 rintro _ _ ⟨rfl,c2,hc2,rfl⟩
 rw[I4.2,I4.1,aC]
 refine gO ?_
 refine uu rfl (by omega) ?_
 refine sp 52 rfl ?_ ?_<;>intro h1
 ·
  refine XE.aV rfl rfl (ab .nil rfl ?_)
  try dsimp only[SW.den,SV.den,aj,aZ]
  exact⟨rfl,rfl⟩
 ·
  refine sp 56 rfl ?_ ?_<;>intro h2
  ·
   refine XE.aV rfl rfl (ab .nil rfl ?_)
   try dsimp only[SW.den,SV.den,aj,aZ]
   exact⟨rfl,rfl⟩
  ·
   refine sp 60 rfl ?_ ?_<;>intro h3
   ·
    refine XE.aV rfl rfl (ab .nil rfl ?_)
    try dsimp only[SW.den,SV.den,aj,aZ]
    exact⟨rfl,rfl⟩
   ·
    refine cd rfl ?_ ?_<;>intro h4
    ·
     refine XE.aV rfl rfl (ab .nil rfl ?_)
     try dsimp only[SW.den,SV.den,aj,aZ]
     exact⟨rfl,rfl⟩
    ·
     refine kW 17 (EU B2 b c2 2 23 wG hc2 (by omega) 1 2 bd) .jo rfl ?_
     rintro _ _ ⟨rfl,c3,hc3,rfl⟩
     have hbk:=BK.of (h:=bd) ⟨by omega,by omega⟩ false (m:=readers.toNat) (by omega)
     have hrr:((readers.toNat:Nat):Int)=readers:=by omega
     rw[hbk.bd,aC]
     refine gO ?_
     refine kW 17 (AF (B3 bd) b c3 2 23 (wP bd false).1 hc3 (by omega) 1 2 false) .jo rfl ?_
     rintro _ _ ⟨rfl,c4,hc4,rfl⟩
     rw[hbk.hold,aC]
     refine gO ?_
     refine ca (nI (B4 bd false) b c4 2 23 (wP bd false).2.1 hc4 (by omega) 1 0) .gq ?_
     rintro _ _ ⟨rfl,c5,hc5,rfl⟩
     rw[hbk.cl1,aC]
     refine gO ?_
     refine lp (σ:=Nat×KC) (fun x=>readers.toNat-x.1) (fun x=>x.1≤readers.toNat∧dq (iW (B5 bd false) x.1) x.2 (2+x.1) (23+20*(x.1:Int))) (fun x=>[(13,.int .i64 (x.1:Int)),(0,.int .i64 bd),(1,.bool false),(2,.int .i64 readers),(7,ptr b.kb 0 0),(9,.int .i64 0),(10,.int .i64 1)]) (fun x=>XM W (bS [.ro 0 0 32 Sg.b6]) [.cells b.kb 0 453 (ah (kp (iW (B5 bd false) x.1) b x.2)),.cells b.gb 0 60 (Gr.ay (iW (B5 bd false) x.1).g),.cells b.sb 0 158 (Sp.aA (iW (B5 bd false) x.1).s),.cells b.qb 0 2281 (Fa.ao x.2.q),.fam Fa.aL (Fa.SC.rows 254 x.2.q),.cells b.bb 0 577 (Vm.bu b.vp (iW (B5 bd false) x.1).v.by_ (iW (B5 bd false) x.1).v.rf),.cells b.vp 0 71 (Vm.aq (iW (B5 bd false) x.1).v.bb.bA),.cfam (bD (iW (B5 bd false) x.1)) x.2.mb 34 (cN b.bb (iW (B5 bd false) x.1).f x.2.pp x.2.cc),.fam (bD (iW (B5 bd false) x.1)) (rN 171 (iW (B5 bd false) x.1).f x.2.pp x.2.cc),.cells b.tb 0 321 (Tr.av x.2.F),.fam Tr.ai (Tr.FC.aJ 9 x.2.F),.fam Tr.ai (Tr.FC.aK 3 x.2.F),bk x.2.rp x.2.rc 3 x.2.rl,.cells b.pi 0 24 (Tr.aq (iW (B5 bd false) x.1).P),.cells b.ob 0 122 (Tr.aD b.tb b.pi (iW (B5 bd false) x.1).O),.cfam (bI (iW (B5 bd false) x.1)) (fun z=>(x.2.t z).b) 4 (cT b.tb x.2.t),.fam (bI (iW (B5 bd false) x.1)) (rT 168 x.2.t),.ro 0 0 32 Sg.b6]) ((0,c5)) ?_ (.cons rfl (S6 rfl rfl rfl rfl rfl rfl)) (fun _ hw=>XM.pick .jo hw) ?_
     ·
      exact⟨Nat.zero_le _,hc5⟩
     intro x hx
     obtain⟨hxi,hxc⟩:=hx
     refine gC ?_
     refine cd rfl ?_ ?_<;>intro h5
     ·
      refine ca (qo (iW (B5 bd false) x.1) b x.2 (2+x.1) (23+20*(x.1:Int)) (tJ bd false x.1 (by omega)) hxc (by omega) 0 false) .gq ?_
      rintro _ _ ⟨rfl,c6,hc6,rfl⟩
      rw[hbk.fk x.1 (by omega),aC]
      refine gO ?_
      refine sd (by omega) ?_
      refine ag ((x.1+1,c6)) ?_ ?_ (.cons (sV (by omega)) (S6 rfl rfl rfl rfl rfl rfl)) (fun _ hw=>XM.pick .jo hw)
      ·
       (show readers.toNat-(x.1+1)<readers.toNat-x.1;omega)
      ·
       exact⟨(by show x.1+1≤_;omega),(by show dq (iW (B5 bd false) (x.1+1)) c6 (2+(x.1+1)) (23+20*((x.1+1:Nat):Int));exact hc6.up (by omega) (by omega))⟩
     ·
      have hxe:x.1=readers.toNat:=by omega
      rw[hxe]at hxc ⊢
      refine ca (nI (iW (B5 bd false) readers.toNat) b x.2 (2+readers.toNat) (23+20*(readers.toNat:Int)) (tJ bd false _ (by omega)) hxc (by omega) 0 0) .gq ?_
      rintro _ _ ⟨rfl,c7,hc7,rfl⟩
      rw[hbk.cl0,aC]
      refine gO ?_
      refine kW 17 (om (C1 bd false readers.toNat) b c7 (2+readers.toNat) (23+20*(readers.toNat:Int)) (FY bd false (by omega)) hc7 (by omega) 1 1 xB (by decide)) .jo rfl ?_
      rintro _ _ ⟨rfl,c8,hc8,rfl⟩
      by_cases hm0:readers.toNat=0
      ·
       try dsimp only[aC,aS,aM,aR,aN,aP,aQ,aU,aO,aT,aG,aH,aB,aF]
       obtain⟨w1,w2,w3⟩:=hbk.w0 hm0 c7.F.toFF
       rw[w3]at hc8
       rw[w1,w2,w3,aB]
       have hc9:dq (D1 bd false readers.toNat) c8 (2+readers.toNat) ((23+20*(readers.toNat:Int))+2):=hc8.up (Nat.le_refl _) (by omega)
       refine gO ?_
       refine JO (σ:=KC) (fun y=>dq (D1 bd false readers.toNat) y (2+readers.toNat) ((23+20*(readers.toNat:Int))+2)) (fun y=>[(0,.int .i64 bd),(1,.bool false),(2,.int .i64 readers),(7,ptr b.kb 0 0),(16,.int .i64 0),(11,.iface 102 (.int .i64 12))]) (fun y=>XM W (bS [.ro 0 0 32 Sg.b6]) [.cells b.kb 0 453 (ah (kp (D1 bd false readers.toNat) b y)),.cells b.gb 0 60 (Gr.ay (D1 bd false readers.toNat).g),.cells b.sb 0 158 (Sp.aA (D1 bd false readers.toNat).s),.cells b.qb 0 2281 (Fa.ao y.q),.fam Fa.aL (Fa.SC.rows 254 y.q),.cells b.bb 0 577 (Vm.bu b.vp (D1 bd false readers.toNat).v.by_ (D1 bd false readers.toNat).v.rf),.cells b.vp 0 71 (Vm.aq (D1 bd false readers.toNat).v.bb.bA),.cfam (bD (D1 bd false readers.toNat)) y.mb 34 (cN b.bb (D1 bd false readers.toNat).f y.pp y.cc),.fam (bD (D1 bd false readers.toNat)) (rN 171 (D1 bd false readers.toNat).f y.pp y.cc),.cells b.tb 0 321 (Tr.av y.F),.fam Tr.ai (Tr.FC.aJ 9 y.F),.fam Tr.ai (Tr.FC.aK 3 y.F),bk y.rp y.rc 3 y.rl,.cells b.pi 0 24 (Tr.aq (D1 bd false readers.toNat).P),.cells b.ob 0 122 (Tr.aD b.tb b.pi (D1 bd false readers.toNat).O),.cfam (bI (D1 bd false readers.toNat)) (fun z=>(y.t z).b) 4 (cT b.tb y.t),.fam (bI (D1 bd false readers.toNat)) (rT 168 y.t),.ro 0 0 32 Sg.b6]) ?_ ?_
       ·
        refine uu rfl (by omega) ?_
        refine Br (c8) ?_ (S6 rfl rfl rfl rfl rfl rfl) (fun _ hw=>XM.pick .jo hw)
        exact hc9
       intro y hyc
       refine gC ?_
       refine ca (oH 12) .nil ?_
       rintro _ _ ⟨rfl,rfl⟩
       refine gO ?_
       refine Dg 131 rfl (by omega) ?_
       refine uu rfl (by omega) ?_
       refine ca (uY b.kb (kp (D1 bd false readers.toNat) b y) (D1 bd false readers.toNat).s 1) (.cons .here (.cons (.there .here) .nil)) ?_
       rintro v32 _ ⟨hv32,rfl⟩
       by_cases hcs:bd=0∧false=false
       ·
        try dsimp only[aC,aS,aM,aR,aN,aP,aQ,aU,aO,aT,aG,aH,aB,aF]
        obtain⟨hlv,hwt⟩:=BK.ends hcs (m:=readers.toNat) (by omega)
        have hlk:(kp (D1 bd false readers.toNat) b y).live 1=2:=hlv
        rw[hlk,if_neg (by decide),aM]at hv32
        subst hv32
        refine gO ?_
        refine Dg 142 rfl (fun q=>q hcs.1) ?_
        refine lp (σ:=Nat×KC) (fun u=>readers.toNat+1-u.1) (fun u=>u.1≤readers.toNat+1∧dq (j8 (D1 bd false readers.toNat) u.1) u.2 (2+readers.toNat) ((23+20*(readers.toNat:Int))+2)) (fun u=>[(22,.int .i64 (u.1:Int)),(2,.int .i64 readers),(7,ptr b.kb 0 0),(19,.iface 102 (.int .i64 2))]) (fun u=>XM W (bS [.ro 0 0 32 Sg.b6]) [.cells b.kb 0 453 (ah (kp (j8 (D1 bd false readers.toNat) u.1) b u.2)),.cells b.gb 0 60 (Gr.ay (j8 (D1 bd false readers.toNat) u.1).g),.cells b.sb 0 158 (Sp.aA (j8 (D1 bd false readers.toNat) u.1).s),.cells b.qb 0 2281 (Fa.ao u.2.q),.fam Fa.aL (Fa.SC.rows 254 u.2.q),.cells b.bb 0 577 (Vm.bu b.vp (j8 (D1 bd false readers.toNat) u.1).v.by_ (j8 (D1 bd false readers.toNat) u.1).v.rf),.cells b.vp 0 71 (Vm.aq (j8 (D1 bd false readers.toNat) u.1).v.bb.bA),.cfam (bD (j8 (D1 bd false readers.toNat) u.1)) u.2.mb 34 (cN b.bb (j8 (D1 bd false readers.toNat) u.1).f u.2.pp u.2.cc),.fam (bD (j8 (D1 bd false readers.toNat) u.1)) (rN 171 (j8 (D1 bd false readers.toNat) u.1).f u.2.pp u.2.cc),.cells b.tb 0 321 (Tr.av u.2.F),.fam Tr.ai (Tr.FC.aJ 9 u.2.F),.fam Tr.ai (Tr.FC.aK 3 u.2.F),bk u.2.rp u.2.rc 3 u.2.rl,.cells b.pi 0 24 (Tr.aq (j8 (D1 bd false readers.toNat) u.1).P),.cells b.ob 0 122 (Tr.aD b.tb b.pi (j8 (D1 bd false readers.toNat) u.1).O),.cfam (bI (j8 (D1 bd false readers.toNat) u.1)) (fun z=>(u.2.t z).b) 4 (cT b.tb u.2.t),.fam (bI (j8 (D1 bd false readers.toNat) u.1)) (rT 168 u.2.t),.ro 0 0 32 Sg.b6]) ((0,y)) ?_ (S4 rfl rfl rfl rfl) (fun _ hw=>XM.pick (.cons .here (.cons (.there .here) .DX)) hw) ?_
        ·
         exact⟨Nat.zero_le _,hyc⟩
        intro u hu
        obtain⟨hui,huc⟩:=hu
        refine gC ?_
        refine cd rfl ?_ ?_<;>intro h8
        ·
         refine ca (Al (j8 (D1 bd false readers.toNat) u.1) b u.2 (2+readers.toNat) ((23+20*(readers.toNat:Int))+2) (Gx bd false (by omega) u.1) huc (by omega) 0) .gq ?_
         rintro _ _ ⟨rfl,c14,hc14,rfl⟩
         obtain⟨hw1,hw2⟩:=hwt u.1 (by omega)
         rw[hw1,aC]
         refine gO ?_
         refine XO.cY (z:=.agg #[.int .i64 0,.int .i64 0]) (m:=2) (C:=jQ 0 0) (by kernel_rfl) rfl jQ.box rfl ?_
         intro bw
         refine gO ?_
         refine jA .here (jQ.st _ _ _ _) rfl ⟨rfl,rfl⟩ ?_
         refine ld .here (jQ.GU _ _) ?_
         refine sp 187 rfl ?_ ?_<;>intro h9
         ·
          have hp2:=h9
          refine ld .here (jQ.ld1 _ _) ?_
          refine uu rfl (fun q=>q (hw2 hp2)) ?_
          refine sd (by omega) ?_
          refine ag ((u.1+1,c14)) ?_ ?_ (S4 (sV (by omega)) rfl rfl rfl) (fun _ hw=>XM.pick (.cons (.there .here) (.cons (.there .here) (.cons (.there .here) (.cons (.there .here) (.cons (.there .here) (.cons (.there .here) (.cons (.there .here) (.cons (.there .here) (.cons (.there .here) (.cons (.there .here) (.cons (.there .here) (.cons (.there .here) (.cons (.there .here) (.cons (.there .here) (.cons (.there .here) (.cons (.there .here) (.cons (.there .here) (.cons (.there .here) .nil)))))))))))))))))) hw)
          ·
           (show readers.toNat+1-(u.1+1)<readers.toNat+1-u.1;omega)
          ·
           exact⟨(by show u.1+1≤_;omega),hc14⟩
         ·
          refine sd (by omega) ?_
          refine ag ((u.1+1,c14)) ?_ ?_ (S4 (sV (by omega)) rfl rfl rfl) (fun _ hw=>XM.pick (.cons (.there .here) (.cons (.there .here) (.cons (.there .here) (.cons (.there .here) (.cons (.there .here) (.cons (.there .here) (.cons (.there .here) (.cons (.there .here) (.cons (.there .here) (.cons (.there .here) (.cons (.there .here) (.cons (.there .here) (.cons (.there .here) (.cons (.there .here) (.cons (.there .here) (.cons (.there .here) (.cons (.there .here) (.cons (.there .here) .nil)))))))))))))))))) hw)
          ·
           (show readers.toNat+1-(u.1+1)<readers.toNat+1-u.1;omega)
          ·
           exact⟨(by show u.1+1≤_;omega),hc14⟩
        ·
         refine ca (oH 2) .nil ?_
         rintro _ _ ⟨rfl,rfl⟩
         refine gO ?_
         refine XE.aV rfl rfl (ab .nil rfl ?_)
         try dsimp only[SW.den,SV.den,aj,aZ]
         exact⟨rfl,rfl⟩
       ·
        try dsimp only[aC,aS,aM,aR,aN,aP,aQ,aU,aO,aT,aG,aH,aB,aF]
        obtain⟨hlv,hpd,htk,htv⟩:=BK.stays ⟨by omega,by omega⟩ hcs (m:=readers.toNat) (by omega)
        have hlk:(kp (D1 bd false readers.toNat) b y).live 1=0:=hlv
        rw[hlk,if_pos rfl,hpd,aC]at hv32
        subst hv32
        refine gO ?_
        refine Lj 142 rfl (fun q=>hcs ⟨q,rfl⟩) ?_
        refine kW 17 (lE (D1 bd false readers.toNat) b y (2+readers.toNat) ((23+20*(readers.toNat:Int))+2) (sG bd false (by omega)) hyc (by omega) 1) (.cons .here (.cons (.there .here) .DX)) rfl ?_
        rintro _ _ ⟨rfl,c13,hc13,rfl⟩
        by_cases hte:(D1 bd false readers.toNat).gZ 1=0
        ·
         try dsimp only[aC,aS,aM,aR,aN,aP,aQ,aU,aO,aT,aG,aH,aB,aF]
         have htv2:=htv hte
         rw[hte,htv2,aC]
         refine gO ?_
         refine Lj 157 rfl ((htk.1 hte).1) ?_
         refine XO.v (V.gw rfl rfl Tryz.underlying4 rfl) rfl (gO ?_)
         refine uE 163 rfl ?_ ?_<;>intro H6
         ·try simp only[sb]at H6
          refine XE.aV rfl rfl (ab .nil rfl ?_)
          try dsimp only[SW.den,SV.den,aj,aZ]
          exact⟨rfl,rfl⟩
         ·try simp only[sb]at H6
          all_goals(simp at H6)
        ·
         try dsimp only[aC,aS,aM,aR,aN,aP,aQ,aU,aO,aT,aG,aH,aB,aF]
         rw[aW _ hte]
         refine gO ?_
         refine Dg 157 rfl (fun q=>hte (htk.2 ⟨q,rfl⟩)) ?_
         refine XO.v (V.gw rfl rfl Tryz.underlying4 rfl) rfl (gO ?_)
         refine uE 163 rfl ?_ ?_<;>intro L9
         ·try simp only[sb]at L9
          refine XE.aV rfl rfl (ab .nil rfl ?_)
          try dsimp only[SW.den,SV.den,aj,aZ]
          exact⟨rfl,rfl⟩
         ·try simp only[sb]at L9
          all_goals(simp at L9)
      ·
       try dsimp only[aC,aS,aM,aR,aN,aP,aQ,aU,aO,aT,aG,aH,aB,aF]
       obtain⟨w1,w2,w3⟩:=hbk.w1 hm0 c7.F.toFF
       rw[w3]at hc8
       rw[w1,w2,w3,aC]
       refine gO ?_
       refine JO (σ:=KC) (fun y=>dq (D1 bd false readers.toNat) y (2+readers.toNat) ((23+20*(readers.toNat:Int))+2)) (fun y=>[(0,.int .i64 bd),(1,.bool false),(2,.int .i64 readers),(7,ptr b.kb 0 0),(16,.int .i64 0),(11,.iface 102 (.int .i64 12))]) (fun y=>XM W (bS [.ro 0 0 32 Sg.b6]) [.cells b.kb 0 453 (ah (kp (D1 bd false readers.toNat) b y)),.cells b.gb 0 60 (Gr.ay (D1 bd false readers.toNat).g),.cells b.sb 0 158 (Sp.aA (D1 bd false readers.toNat).s),.cells b.qb 0 2281 (Fa.ao y.q),.fam Fa.aL (Fa.SC.rows 254 y.q),.cells b.bb 0 577 (Vm.bu b.vp (D1 bd false readers.toNat).v.by_ (D1 bd false readers.toNat).v.rf),.cells b.vp 0 71 (Vm.aq (D1 bd false readers.toNat).v.bb.bA),.cfam (bD (D1 bd false readers.toNat)) y.mb 34 (cN b.bb (D1 bd false readers.toNat).f y.pp y.cc),.fam (bD (D1 bd false readers.toNat)) (rN 171 (D1 bd false readers.toNat).f y.pp y.cc),.cells b.tb 0 321 (Tr.av y.F),.fam Tr.ai (Tr.FC.aJ 9 y.F),.fam Tr.ai (Tr.FC.aK 3 y.F),bk y.rp y.rc 3 y.rl,.cells b.pi 0 24 (Tr.aq (D1 bd false readers.toNat).P),.cells b.ob 0 122 (Tr.aD b.tb b.pi (D1 bd false readers.toNat).O),.cfam (bI (D1 bd false readers.toNat)) (fun z=>(y.t z).b) 4 (cT b.tb y.t),.fam (bI (D1 bd false readers.toNat)) (rT 168 y.t),.ro 0 0 32 Sg.b6]) ?_ ?_
       ·
        refine Ju rfl (by omega) ?_
        refine lp (σ:=Nat×KC) (fun zz=>readers.toNat-zz.1) (fun zz=>zz.1≤readers.toNat∧dq (kn (W1 bd false readers.toNat) zz.1) zz.2 (2+readers.toNat) ((23+20*(readers.toNat:Int))+1)) (fun zz=>[(17,.int .i64 (2+(zz.1:Int))),(0,.int .i64 bd),(1,.bool false),(2,.int .i64 readers),(7,ptr b.kb 0 0),(10,.int .i64 1),(11,.nilIface),(16,.int .i64 1)]) (fun zz=>XM W (bS [.ro 0 0 32 Sg.b6]) [.cells b.kb 0 453 (ah (kp (kn (W1 bd false readers.toNat) zz.1) b zz.2)),.cells b.gb 0 60 (Gr.ay (kn (W1 bd false readers.toNat) zz.1).g),.cells b.sb 0 158 (Sp.aA (kn (W1 bd false readers.toNat) zz.1).s),.cells b.qb 0 2281 (Fa.ao zz.2.q),.fam Fa.aL (Fa.SC.rows 254 zz.2.q),.cells b.bb 0 577 (Vm.bu b.vp (kn (W1 bd false readers.toNat) zz.1).v.by_ (kn (W1 bd false readers.toNat) zz.1).v.rf),.cells b.vp 0 71 (Vm.aq (kn (W1 bd false readers.toNat) zz.1).v.bb.bA),.cfam (bD (kn (W1 bd false readers.toNat) zz.1)) zz.2.mb 34 (cN b.bb (kn (W1 bd false readers.toNat) zz.1).f zz.2.pp zz.2.cc),.fam (bD (kn (W1 bd false readers.toNat) zz.1)) (rN 171 (kn (W1 bd false readers.toNat) zz.1).f zz.2.pp zz.2.cc),.cells b.tb 0 321 (Tr.av zz.2.F),.fam Tr.ai (Tr.FC.aJ 9 zz.2.F),.fam Tr.ai (Tr.FC.aK 3 zz.2.F),bk zz.2.rp zz.2.rc 3 zz.2.rl,.cells b.pi 0 24 (Tr.aq (kn (W1 bd false readers.toNat) zz.1).P),.cells b.ob 0 122 (Tr.aD b.tb b.pi (kn (W1 bd false readers.toNat) zz.1).O),.cfam (bI (kn (W1 bd false readers.toNat) zz.1)) (fun z=>(zz.2.t z).b) 4 (cT b.tb zz.2.t),.fam (bI (kn (W1 bd false readers.toNat) zz.1)) (rT 168 zz.2.t),.ro 0 0 32 Sg.b6]) ((0,c8)) ?_ (.cons rfl (.cons rfl (S6 rfl rfl rfl rfl rfl rfl))) (fun _ hw=>XM.pick .jo hw) ?_
        ·
         exact⟨Nat.zero_le _,hc8⟩
        intro zz hz
        obtain⟨hzi,hzc⟩:=hz
        refine gC ?_
        refine sd (by omega) ?_
        refine cd rfl ?_ ?_<;>intro Lb
        ·
         refine Dg 116 rfl (by omega) ?_
         refine kW 17 (Bv (kn (W1 bd false readers.toNat) zz.1) b zz.2 (2+readers.toNat) ((23+20*(readers.toNat:Int))+1) (uf bd false (by omega) zz.1) hzc (by omega) (2+(zz.1:Int)) 0) .jo rfl ?_
         rintro _ _ ⟨rfl,c10,hc10,rfl⟩
         rw[hbk.ex zz.1 (by omega),aC]
         refine gO ?_
         refine sd (by omega) ?_
         refine ag ((zz.1+1,c10)) ?_ ?_ (.cons (sV (by omega)) (.cons rfl (S6 rfl rfl rfl rfl rfl rfl))) (fun _ hw=>XM.pick .jo hw)
         ·
          (show readers.toNat-(zz.1+1)<readers.toNat-zz.1;omega)
         ·
          exact⟨(by show zz.1+1≤_;omega),hc10⟩
        ·
         have hze0:zz.1=readers.toNat:=by omega
         have hze:dq (E1 bd false readers.toNat) zz.2 (2+readers.toNat) ((23+20*(readers.toNat:Int))+1):=by have h9:=hzc;rw[hze0]at h9;exact h9
         rw[show(kn (W1 bd false readers.toNat) zz.1)=E1 bd false readers.toNat from by rw[hze0];rfl]
         refine kW 17 (om (E1 bd false readers.toNat) b zz.2 (2+readers.toNat) ((23+20*(readers.toNat:Int))+1) (uf bd false (by omega) readers.toNat) hze (by omega) 1 1 xB (by decide)) .jo rfl ?_
         rintro _ _ ⟨rfl,c11,hc11,rfl⟩
         obtain⟨w4,w5,w6⟩:=hbk.w2 hm0 zz.2.F.toFF
         rw[w6]at hc11
         rw[w4,w5,w6,aB]
         have hc12:dq (D1 bd false readers.toNat) c11 (2+readers.toNat) ((23+20*(readers.toNat:Int))+2):=hc11.up (Nat.le_refl _) (by omega)
         refine gO ?_
         refine Br (c11) ?_ (S6 rfl rfl rfl rfl rfl rfl) (fun _ hw=>XM.pick .jo hw)
         exact hc12
       intro y hyc
       refine gC ?_
       refine ca (oH 12) .nil ?_
       rintro _ _ ⟨rfl,rfl⟩
       refine gO ?_
       refine Dg 131 rfl (by omega) ?_
       refine uu rfl (by omega) ?_
       refine ca (uY b.kb (kp (D1 bd false readers.toNat) b y) (D1 bd false readers.toNat).s 1) (.cons .here (.cons (.there .here) .nil)) ?_
       rintro v32 _ ⟨hv32,rfl⟩
       by_cases hcs:bd=0∧false=false
       ·
        try dsimp only[aC,aS,aM,aR,aN,aP,aQ,aU,aO,aT,aG,aH,aB,aF]
        obtain⟨hlv,hwt⟩:=BK.ends hcs (m:=readers.toNat) (by omega)
        have hlk:(kp (D1 bd false readers.toNat) b y).live 1=2:=hlv
        rw[hlk,if_neg (by decide),aM]at hv32
        subst hv32
        refine gO ?_
        refine Dg 142 rfl (fun q=>q hcs.1) ?_
        refine lp (σ:=Nat×KC) (fun u=>readers.toNat+1-u.1) (fun u=>u.1≤readers.toNat+1∧dq (j8 (D1 bd false readers.toNat) u.1) u.2 (2+readers.toNat) ((23+20*(readers.toNat:Int))+2)) (fun u=>[(22,.int .i64 (u.1:Int)),(2,.int .i64 readers),(7,ptr b.kb 0 0),(19,.iface 102 (.int .i64 2))]) (fun u=>XM W (bS [.ro 0 0 32 Sg.b6]) [.cells b.kb 0 453 (ah (kp (j8 (D1 bd false readers.toNat) u.1) b u.2)),.cells b.gb 0 60 (Gr.ay (j8 (D1 bd false readers.toNat) u.1).g),.cells b.sb 0 158 (Sp.aA (j8 (D1 bd false readers.toNat) u.1).s),.cells b.qb 0 2281 (Fa.ao u.2.q),.fam Fa.aL (Fa.SC.rows 254 u.2.q),.cells b.bb 0 577 (Vm.bu b.vp (j8 (D1 bd false readers.toNat) u.1).v.by_ (j8 (D1 bd false readers.toNat) u.1).v.rf),.cells b.vp 0 71 (Vm.aq (j8 (D1 bd false readers.toNat) u.1).v.bb.bA),.cfam (bD (j8 (D1 bd false readers.toNat) u.1)) u.2.mb 34 (cN b.bb (j8 (D1 bd false readers.toNat) u.1).f u.2.pp u.2.cc),.fam (bD (j8 (D1 bd false readers.toNat) u.1)) (rN 171 (j8 (D1 bd false readers.toNat) u.1).f u.2.pp u.2.cc),.cells b.tb 0 321 (Tr.av u.2.F),.fam Tr.ai (Tr.FC.aJ 9 u.2.F),.fam Tr.ai (Tr.FC.aK 3 u.2.F),bk u.2.rp u.2.rc 3 u.2.rl,.cells b.pi 0 24 (Tr.aq (j8 (D1 bd false readers.toNat) u.1).P),.cells b.ob 0 122 (Tr.aD b.tb b.pi (j8 (D1 bd false readers.toNat) u.1).O),.cfam (bI (j8 (D1 bd false readers.toNat) u.1)) (fun z=>(u.2.t z).b) 4 (cT b.tb u.2.t),.fam (bI (j8 (D1 bd false readers.toNat) u.1)) (rT 168 u.2.t),.ro 0 0 32 Sg.b6]) ((0,y)) ?_ (S4 rfl rfl rfl rfl) (fun _ hw=>XM.pick (.cons .here (.cons (.there .here) .DX)) hw) ?_
        ·
         exact⟨Nat.zero_le _,hyc⟩
        intro u hu
        obtain⟨hui,huc⟩:=hu
        refine gC ?_
        refine cd rfl ?_ ?_<;>intro HY
        ·
         refine ca (Al (j8 (D1 bd false readers.toNat) u.1) b u.2 (2+readers.toNat) ((23+20*(readers.toNat:Int))+2) (Gx bd false (by omega) u.1) huc (by omega) 0) .gq ?_
         rintro _ _ ⟨rfl,c14,hc14,rfl⟩
         obtain⟨hw1,hw2⟩:=hwt u.1 (by omega)
         rw[hw1,aC]
         refine gO ?_
         refine XO.cY (z:=.agg #[.int .i64 0,.int .i64 0]) (m:=2) (C:=jQ 0 0) (by kernel_rfl) rfl jQ.box rfl ?_
         intro bw
         refine gO ?_
         refine jA .here (jQ.st _ _ _ _) rfl ⟨rfl,rfl⟩ ?_
         refine ld .here (jQ.GU _ _) ?_
         refine sp 187 rfl ?_ ?_<;>intro Ep
         ·
          have hp2:=Ep
          refine ld .here (jQ.ld1 _ _) ?_
          refine uu rfl (fun q=>q (hw2 hp2)) ?_
          refine sd (by omega) ?_
          refine ag ((u.1+1,c14)) ?_ ?_ (S4 (sV (by omega)) rfl rfl rfl) (fun _ hw=>XM.pick (.cons (.there .here) (.cons (.there .here) (.cons (.there .here) (.cons (.there .here) (.cons (.there .here) (.cons (.there .here) (.cons (.there .here) (.cons (.there .here) (.cons (.there .here) (.cons (.there .here) (.cons (.there .here) (.cons (.there .here) (.cons (.there .here) (.cons (.there .here) (.cons (.there .here) (.cons (.there .here) (.cons (.there .here) (.cons (.there .here) .nil)))))))))))))))))) hw)
          ·
           (show readers.toNat+1-(u.1+1)<readers.toNat+1-u.1;omega)
          ·
           exact⟨(by show u.1+1≤_;omega),hc14⟩
         ·
          refine sd (by omega) ?_
          refine ag ((u.1+1,c14)) ?_ ?_ (S4 (sV (by omega)) rfl rfl rfl) (fun _ hw=>XM.pick (.cons (.there .here) (.cons (.there .here) (.cons (.there .here) (.cons (.there .here) (.cons (.there .here) (.cons (.there .here) (.cons (.there .here) (.cons (.there .here) (.cons (.there .here) (.cons (.there .here) (.cons (.there .here) (.cons (.there .here) (.cons (.there .here) (.cons (.there .here) (.cons (.there .here) (.cons (.there .here) (.cons (.there .here) (.cons (.there .here) .nil)))))))))))))))))) hw)
          ·
           (show readers.toNat+1-(u.1+1)<readers.toNat+1-u.1;omega)
          ·
           exact⟨(by show u.1+1≤_;omega),hc14⟩
        ·
         refine ca (oH 2) .nil ?_
         rintro _ _ ⟨rfl,rfl⟩
         refine gO ?_
         refine XE.aV rfl rfl (ab .nil rfl ?_)
         try dsimp only[SW.den,SV.den,aj,aZ]
         exact⟨rfl,rfl⟩
       ·
        try dsimp only[aC,aS,aM,aR,aN,aP,aQ,aU,aO,aT,aG,aH,aB,aF]
        obtain⟨hlv,hpd,htk,htv⟩:=BK.stays ⟨by omega,by omega⟩ hcs (m:=readers.toNat) (by omega)
        have hlk:(kp (D1 bd false readers.toNat) b y).live 1=0:=hlv
        rw[hlk,if_pos rfl,hpd,aC]at hv32
        subst hv32
        refine gO ?_
        refine Lj 142 rfl (fun q=>hcs ⟨q,rfl⟩) ?_
        refine kW 17 (lE (D1 bd false readers.toNat) b y (2+readers.toNat) ((23+20*(readers.toNat:Int))+2) (sG bd false (by omega)) hyc (by omega) 1) (.cons .here (.cons (.there .here) .DX)) rfl ?_
        rintro _ _ ⟨rfl,c13,hc13,rfl⟩
        by_cases hte:(D1 bd false readers.toNat).gZ 1=0
        ·
         try dsimp only[aC,aS,aM,aR,aN,aP,aQ,aU,aO,aT,aG,aH,aB,aF]
         have htv2:=htv hte
         rw[hte,htv2,aC]
         refine gO ?_
         refine Lj 157 rfl ((htk.1 hte).1) ?_
         refine XO.v (V.gw rfl rfl Tryz.underlying4 rfl) rfl (gO ?_)
         refine uE 163 rfl ?_ ?_<;>intro h23
         ·try simp only[sb]at h23
          refine XE.aV rfl rfl (ab .nil rfl ?_)
          try dsimp only[SW.den,SV.den,aj,aZ]
          exact⟨rfl,rfl⟩
         ·try simp only[sb]at h23
          all_goals(simp at h23)
        ·
         try dsimp only[aC,aS,aM,aR,aN,aP,aQ,aU,aO,aT,aG,aH,aB,aF]
         rw[aW _ hte]
         refine gO ?_
         refine Dg 157 rfl (fun q=>hte (htk.2 ⟨q,rfl⟩)) ?_
         refine XO.v (V.gw rfl rfl Tryz.underlying4 rfl) rfl (gO ?_)
         refine uE 163 rfl ?_ ?_<;>intro h25
         ·try simp only[sb]at h25
          refine XE.aV rfl rfl (ab .nil rfl ?_)
          try dsimp only[SW.den,SV.den,aj,aZ]
          exact⟨rfl,rfl⟩
         ·try simp only[sb]at h25
          all_goals(simp at h25)
set_option maxHeartbeats 16000000 in
theorem wx(bd:Int)(readers:Int):Spec Tryz.prog 5 [.int .i64 bd,.bool true,.int .i64 readers] [.ro 0 0 32 Sg.b6] (fun v H1=>v= .bool true∧H1=[]):=by
 refine Spec.go 196 [0,1,2,6,7,8,9,10,11,12,13,15,16,17,19,20,21,30,38,49,63,79,82,91,95,103,107,121,134,144] [(23,1)] Tryz.func5 rfl rfl rfl ?_
 intro W
 refine ca (wJ) .nil ?_
 rintro _ _ ⟨b,c0,rfl,_,_,hc0,rfl⟩
 refine gO ?_
 refine ca (Ag A0 b c0 1 2 yc hc0 (by omega) 0) .gq ?_
 rintro _ _ ⟨rfl,c1,hc1,rfl⟩
 rw[MU,M8,Nf,aC]
 refine gO ?_
 refine ca (qo A1 b c1 1 3 (yc.pipe (by omega) (by omega) 0) hc1 (by omega) 0 false) .gq ?_
 rintro _ _ ⟨rfl,c2,hc2,rfl⟩
 rw[I4.2,I4.1,aC]
 refine gO ?_
 refine uu rfl (by omega) ?_
 refine sp 52 rfl ?_ ?_<;>intro h1
 ·
  refine XE.aV rfl rfl (ab .nil rfl ?_)
  try dsimp only[SW.den,SV.den,aj,aZ]
  exact⟨rfl,rfl⟩
 ·
  refine sp 56 rfl ?_ ?_<;>intro h2
  ·
   refine XE.aV rfl rfl (ab .nil rfl ?_)
   try dsimp only[SW.den,SV.den,aj,aZ]
   exact⟨rfl,rfl⟩
  ·
   refine sp 60 rfl ?_ ?_<;>intro h3
   ·
    refine XE.aV rfl rfl (ab .nil rfl ?_)
    try dsimp only[SW.den,SV.den,aj,aZ]
    exact⟨rfl,rfl⟩
   ·
    refine cd rfl ?_ ?_<;>intro h4
    ·
     refine XE.aV rfl rfl (ab .nil rfl ?_)
     try dsimp only[SW.den,SV.den,aj,aZ]
     exact⟨rfl,rfl⟩
    ·
     refine kW 17 (EU B2 b c2 2 23 wG hc2 (by omega) 1 2 bd) .jo rfl ?_
     rintro _ _ ⟨rfl,c3,hc3,rfl⟩
     have hbk:=BK.of (h:=bd) ⟨by omega,by omega⟩ true (m:=readers.toNat) (by omega)
     have hrr:((readers.toNat:Nat):Int)=readers:=by omega
     rw[hbk.bd,aC]
     refine gO ?_
     refine kW 17 (AF (B3 bd) b c3 2 23 (wP bd true).1 hc3 (by omega) 1 2 true) .jo rfl ?_
     rintro _ _ ⟨rfl,c4,hc4,rfl⟩
     rw[hbk.hold,aC]
     refine gO ?_
     refine ca (nI (B4 bd true) b c4 2 23 (wP bd true).2.1 hc4 (by omega) 1 0) .gq ?_
     rintro _ _ ⟨rfl,c5,hc5,rfl⟩
     rw[hbk.cl1,aC]
     refine gO ?_
     refine lp (σ:=Nat×KC) (fun x=>readers.toNat-x.1) (fun x=>x.1≤readers.toNat∧dq (iW (B5 bd true) x.1) x.2 (2+x.1) (23+20*(x.1:Int))) (fun x=>[(13,.int .i64 (x.1:Int)),(0,.int .i64 bd),(1,.bool true),(2,.int .i64 readers),(7,ptr b.kb 0 0),(9,.int .i64 0),(10,.int .i64 1)]) (fun x=>XM W (bS [.ro 0 0 32 Sg.b6]) [.cells b.kb 0 453 (ah (kp (iW (B5 bd true) x.1) b x.2)),.cells b.gb 0 60 (Gr.ay (iW (B5 bd true) x.1).g),.cells b.sb 0 158 (Sp.aA (iW (B5 bd true) x.1).s),.cells b.qb 0 2281 (Fa.ao x.2.q),.fam Fa.aL (Fa.SC.rows 254 x.2.q),.cells b.bb 0 577 (Vm.bu b.vp (iW (B5 bd true) x.1).v.by_ (iW (B5 bd true) x.1).v.rf),.cells b.vp 0 71 (Vm.aq (iW (B5 bd true) x.1).v.bb.bA),.cfam (bD (iW (B5 bd true) x.1)) x.2.mb 34 (cN b.bb (iW (B5 bd true) x.1).f x.2.pp x.2.cc),.fam (bD (iW (B5 bd true) x.1)) (rN 171 (iW (B5 bd true) x.1).f x.2.pp x.2.cc),.cells b.tb 0 321 (Tr.av x.2.F),.fam Tr.ai (Tr.FC.aJ 9 x.2.F),.fam Tr.ai (Tr.FC.aK 3 x.2.F),bk x.2.rp x.2.rc 3 x.2.rl,.cells b.pi 0 24 (Tr.aq (iW (B5 bd true) x.1).P),.cells b.ob 0 122 (Tr.aD b.tb b.pi (iW (B5 bd true) x.1).O),.cfam (bI (iW (B5 bd true) x.1)) (fun z=>(x.2.t z).b) 4 (cT b.tb x.2.t),.fam (bI (iW (B5 bd true) x.1)) (rT 168 x.2.t),.ro 0 0 32 Sg.b6]) ((0,c5)) ?_ (.cons rfl (S6 rfl rfl rfl rfl rfl rfl)) (fun _ hw=>XM.pick .jo hw) ?_
     ·
      exact⟨Nat.zero_le _,hc5⟩
     intro x hx
     obtain⟨hxi,hxc⟩:=hx
     refine gC ?_
     refine cd rfl ?_ ?_<;>intro h5
     ·
      refine ca (qo (iW (B5 bd true) x.1) b x.2 (2+x.1) (23+20*(x.1:Int)) (tJ bd true x.1 (by omega)) hxc (by omega) 0 false) .gq ?_
      rintro _ _ ⟨rfl,c6,hc6,rfl⟩
      rw[hbk.fk x.1 (by omega),aC]
      refine gO ?_
      refine sd (by omega) ?_
      refine ag ((x.1+1,c6)) ?_ ?_ (.cons (sV (by omega)) (S6 rfl rfl rfl rfl rfl rfl)) (fun _ hw=>XM.pick .jo hw)
      ·
       (show readers.toNat-(x.1+1)<readers.toNat-x.1;omega)
      ·
       exact⟨(by show x.1+1≤_;omega),(by show dq (iW (B5 bd true) (x.1+1)) c6 (2+(x.1+1)) (23+20*((x.1+1:Nat):Int));exact hc6.up (by omega) (by omega))⟩
     ·
      have hxe:x.1=readers.toNat:=by omega
      rw[hxe]at hxc ⊢
      refine ca (nI (iW (B5 bd true) readers.toNat) b x.2 (2+readers.toNat) (23+20*(readers.toNat:Int)) (tJ bd true _ (by omega)) hxc (by omega) 0 0) .gq ?_
      rintro _ _ ⟨rfl,c7,hc7,rfl⟩
      rw[hbk.cl0,aC]
      refine gO ?_
      refine kW 17 (om (C1 bd true readers.toNat) b c7 (2+readers.toNat) (23+20*(readers.toNat:Int)) (FY bd true (by omega)) hc7 (by omega) 1 1 xB (by decide)) .jo rfl ?_
      rintro _ _ ⟨rfl,c8,hc8,rfl⟩
      by_cases hm0:readers.toNat=0
      ·
       try dsimp only[aC,aS,aM,aR,aN,aP,aQ,aU,aO,aT,aG,aH,aB,aF]
       obtain⟨w1,w2,w3⟩:=hbk.w0 hm0 c7.F.toFF
       rw[w3]at hc8
       rw[w1,w2,w3,aB]
       have hc9:dq (D1 bd true readers.toNat) c8 (2+readers.toNat) ((23+20*(readers.toNat:Int))+2):=hc8.up (Nat.le_refl _) (by omega)
       refine gO ?_
       refine JO (σ:=KC) (fun y=>dq (D1 bd true readers.toNat) y (2+readers.toNat) ((23+20*(readers.toNat:Int))+2)) (fun y=>[(0,.int .i64 bd),(1,.bool true),(2,.int .i64 readers),(7,ptr b.kb 0 0),(16,.int .i64 0),(11,.iface 102 (.int .i64 12))]) (fun y=>XM W (bS [.ro 0 0 32 Sg.b6]) [.cells b.kb 0 453 (ah (kp (D1 bd true readers.toNat) b y)),.cells b.gb 0 60 (Gr.ay (D1 bd true readers.toNat).g),.cells b.sb 0 158 (Sp.aA (D1 bd true readers.toNat).s),.cells b.qb 0 2281 (Fa.ao y.q),.fam Fa.aL (Fa.SC.rows 254 y.q),.cells b.bb 0 577 (Vm.bu b.vp (D1 bd true readers.toNat).v.by_ (D1 bd true readers.toNat).v.rf),.cells b.vp 0 71 (Vm.aq (D1 bd true readers.toNat).v.bb.bA),.cfam (bD (D1 bd true readers.toNat)) y.mb 34 (cN b.bb (D1 bd true readers.toNat).f y.pp y.cc),.fam (bD (D1 bd true readers.toNat)) (rN 171 (D1 bd true readers.toNat).f y.pp y.cc),.cells b.tb 0 321 (Tr.av y.F),.fam Tr.ai (Tr.FC.aJ 9 y.F),.fam Tr.ai (Tr.FC.aK 3 y.F),bk y.rp y.rc 3 y.rl,.cells b.pi 0 24 (Tr.aq (D1 bd true readers.toNat).P),.cells b.ob 0 122 (Tr.aD b.tb b.pi (D1 bd true readers.toNat).O),.cfam (bI (D1 bd true readers.toNat)) (fun z=>(y.t z).b) 4 (cT b.tb y.t),.fam (bI (D1 bd true readers.toNat)) (rT 168 y.t),.ro 0 0 32 Sg.b6]) ?_ ?_
       ·
        refine uu rfl (by omega) ?_
        refine Br (c8) ?_ (S6 rfl rfl rfl rfl rfl rfl) (fun _ hw=>XM.pick .jo hw)
        exact hc9
       intro y hyc
       refine gC ?_
       refine ca (oH 12) .nil ?_
       rintro _ _ ⟨rfl,rfl⟩
       refine gO ?_
       refine Dg 131 rfl (by omega) ?_
       refine uu rfl (by omega) ?_
       refine ca (uY b.kb (kp (D1 bd true readers.toNat) b y) (D1 bd true readers.toNat).s 1) (.cons .here (.cons (.there .here) .nil)) ?_
       rintro v32 _ ⟨hv32,rfl⟩
       by_cases hcs:bd=0∧true=false
       ·
        try dsimp only[aC,aS,aM,aR,aN,aP,aQ,aU,aO,aT,aG,aH,aB,aF]
        exact absurd hcs.2 (by decide)
        skip
       ·
        try dsimp only[aC,aS,aM,aR,aN,aP,aQ,aU,aO,aT,aG,aH,aB,aF]
        obtain⟨hlv,hpd,htk,htv⟩:=BK.stays ⟨by omega,by omega⟩ hcs (m:=readers.toNat) (by omega)
        have hlk:(kp (D1 bd true readers.toNat) b y).live 1=0:=hlv
        rw[hlk,if_pos rfl,hpd,aC]at hv32
        subst hv32
        refine gO ?_
        refine sp 142 rfl ?_ ?_<;>intro h7
        ·
         refine kW 17 (lE (D1 bd true readers.toNat) b y (2+readers.toNat) ((23+20*(readers.toNat:Int))+2) (sG bd true (by omega)) hyc (by omega) 1) (.cons .here (.cons (.there .here) .DX)) rfl ?_
         rintro _ _ ⟨rfl,c13,hc13,rfl⟩
         by_cases hte:(D1 bd true readers.toNat).gZ 1=0
         ·
          try dsimp only[aC,aS,aM,aR,aN,aP,aQ,aU,aO,aT,aG,aH,aB,aF]
          exact absurd (htk.1 hte).2 (by decide)
          skip
         ·
          try dsimp only[aC,aS,aM,aR,aN,aP,aQ,aU,aO,aT,aG,aH,aB,aF]
          rw[aW _ hte]
          refine gO ?_
          refine sp 157 rfl ?_ ?_<;>intro h8
          ·
           refine XO.v (V.gw rfl rfl Tryz.underlying4 rfl) rfl (gO ?_)
           refine uE 163 rfl ?_ ?_<;>intro h9
           ·try simp only[sb]at h9
            refine XE.aV rfl rfl (ab .nil rfl ?_)
            try dsimp only[SW.den,SV.den,aj,aZ]
            exact⟨rfl,rfl⟩
           ·try simp only[sb]at h9
            all_goals(simp at h9)
          ·
           refine XO.v (V.gw rfl rfl Tryz.underlying4 rfl) rfl (gO ?_)
           refine uE 163 rfl ?_ ?_<;>intro Dw
           ·try simp only[sb]at Dw
            refine XE.aV rfl rfl (ab .nil rfl ?_)
            try dsimp only[SW.den,SV.den,aj,aZ]
            exact⟨rfl,rfl⟩
           ·try simp only[sb]at Dw
            all_goals(simp at Dw)
        ·
         refine kW 17 (lE (D1 bd true readers.toNat) b y (2+readers.toNat) ((23+20*(readers.toNat:Int))+2) (sG bd true (by omega)) hyc (by omega) 1) (.cons .here (.cons (.there .here) .DX)) rfl ?_
         rintro _ _ ⟨rfl,c13,hc13,rfl⟩
         by_cases hte:(D1 bd true readers.toNat).gZ 1=0
         ·
          try dsimp only[aC,aS,aM,aR,aN,aP,aQ,aU,aO,aT,aG,aH,aB,aF]
          exact absurd (htk.1 hte).2 (by decide)
          skip
         ·
          try dsimp only[aC,aS,aM,aR,aN,aP,aQ,aU,aO,aT,aG,aH,aB,aF]
          rw[aW _ hte]
          refine gO ?_
          refine sp 157 rfl ?_ ?_<;>intro Ob
          ·
           refine XO.v (V.gw rfl rfl Tryz.underlying4 rfl) rfl (gO ?_)
           refine uE 163 rfl ?_ ?_<;>intro H6
           ·try simp only[sb]at H6
            refine XE.aV rfl rfl (ab .nil rfl ?_)
            try dsimp only[SW.den,SV.den,aj,aZ]
            exact⟨rfl,rfl⟩
           ·try simp only[sb]at H6
            all_goals(simp at H6)
          ·
           refine XO.v (V.gw rfl rfl Tryz.underlying4 rfl) rfl (gO ?_)
           refine uE 163 rfl ?_ ?_<;>intro Np
           ·try simp only[sb]at Np
            refine XE.aV rfl rfl (ab .nil rfl ?_)
            try dsimp only[SW.den,SV.den,aj,aZ]
            exact⟨rfl,rfl⟩
           ·try simp only[sb]at Np
            all_goals(simp at Np)
      ·
       try dsimp only[aC,aS,aM,aR,aN,aP,aQ,aU,aO,aT,aG,aH,aB,aF]
       obtain⟨w1,w2,w3⟩:=hbk.w1 hm0 c7.F.toFF
       rw[w3]at hc8
       rw[w1,w2,w3,aC]
       refine gO ?_
       refine JO (σ:=KC) (fun y=>dq (D1 bd true readers.toNat) y (2+readers.toNat) ((23+20*(readers.toNat:Int))+2)) (fun y=>[(0,.int .i64 bd),(1,.bool true),(2,.int .i64 readers),(7,ptr b.kb 0 0),(16,.int .i64 0),(11,.iface 102 (.int .i64 12))]) (fun y=>XM W (bS [.ro 0 0 32 Sg.b6]) [.cells b.kb 0 453 (ah (kp (D1 bd true readers.toNat) b y)),.cells b.gb 0 60 (Gr.ay (D1 bd true readers.toNat).g),.cells b.sb 0 158 (Sp.aA (D1 bd true readers.toNat).s),.cells b.qb 0 2281 (Fa.ao y.q),.fam Fa.aL (Fa.SC.rows 254 y.q),.cells b.bb 0 577 (Vm.bu b.vp (D1 bd true readers.toNat).v.by_ (D1 bd true readers.toNat).v.rf),.cells b.vp 0 71 (Vm.aq (D1 bd true readers.toNat).v.bb.bA),.cfam (bD (D1 bd true readers.toNat)) y.mb 34 (cN b.bb (D1 bd true readers.toNat).f y.pp y.cc),.fam (bD (D1 bd true readers.toNat)) (rN 171 (D1 bd true readers.toNat).f y.pp y.cc),.cells b.tb 0 321 (Tr.av y.F),.fam Tr.ai (Tr.FC.aJ 9 y.F),.fam Tr.ai (Tr.FC.aK 3 y.F),bk y.rp y.rc 3 y.rl,.cells b.pi 0 24 (Tr.aq (D1 bd true readers.toNat).P),.cells b.ob 0 122 (Tr.aD b.tb b.pi (D1 bd true readers.toNat).O),.cfam (bI (D1 bd true readers.toNat)) (fun z=>(y.t z).b) 4 (cT b.tb y.t),.fam (bI (D1 bd true readers.toNat)) (rT 168 y.t),.ro 0 0 32 Sg.b6]) ?_ ?_
       ·
        refine Ju rfl (by omega) ?_
        refine lp (σ:=Nat×KC) (fun zz=>readers.toNat-zz.1) (fun zz=>zz.1≤readers.toNat∧dq (kn (W1 bd true readers.toNat) zz.1) zz.2 (2+readers.toNat) ((23+20*(readers.toNat:Int))+1)) (fun zz=>[(17,.int .i64 (2+(zz.1:Int))),(0,.int .i64 bd),(1,.bool true),(2,.int .i64 readers),(7,ptr b.kb 0 0),(10,.int .i64 1),(11,.nilIface),(16,.int .i64 1)]) (fun zz=>XM W (bS [.ro 0 0 32 Sg.b6]) [.cells b.kb 0 453 (ah (kp (kn (W1 bd true readers.toNat) zz.1) b zz.2)),.cells b.gb 0 60 (Gr.ay (kn (W1 bd true readers.toNat) zz.1).g),.cells b.sb 0 158 (Sp.aA (kn (W1 bd true readers.toNat) zz.1).s),.cells b.qb 0 2281 (Fa.ao zz.2.q),.fam Fa.aL (Fa.SC.rows 254 zz.2.q),.cells b.bb 0 577 (Vm.bu b.vp (kn (W1 bd true readers.toNat) zz.1).v.by_ (kn (W1 bd true readers.toNat) zz.1).v.rf),.cells b.vp 0 71 (Vm.aq (kn (W1 bd true readers.toNat) zz.1).v.bb.bA),.cfam (bD (kn (W1 bd true readers.toNat) zz.1)) zz.2.mb 34 (cN b.bb (kn (W1 bd true readers.toNat) zz.1).f zz.2.pp zz.2.cc),.fam (bD (kn (W1 bd true readers.toNat) zz.1)) (rN 171 (kn (W1 bd true readers.toNat) zz.1).f zz.2.pp zz.2.cc),.cells b.tb 0 321 (Tr.av zz.2.F),.fam Tr.ai (Tr.FC.aJ 9 zz.2.F),.fam Tr.ai (Tr.FC.aK 3 zz.2.F),bk zz.2.rp zz.2.rc 3 zz.2.rl,.cells b.pi 0 24 (Tr.aq (kn (W1 bd true readers.toNat) zz.1).P),.cells b.ob 0 122 (Tr.aD b.tb b.pi (kn (W1 bd true readers.toNat) zz.1).O),.cfam (bI (kn (W1 bd true readers.toNat) zz.1)) (fun z=>(zz.2.t z).b) 4 (cT b.tb zz.2.t),.fam (bI (kn (W1 bd true readers.toNat) zz.1)) (rT 168 zz.2.t),.ro 0 0 32 Sg.b6]) ((0,c8)) ?_ (.cons rfl (.cons rfl (S6 rfl rfl rfl rfl rfl rfl))) (fun _ hw=>XM.pick .jo hw) ?_
        ·
         exact⟨Nat.zero_le _,hc8⟩
        intro zz hz
        obtain⟨hzi,hzc⟩:=hz
        refine gC ?_
        refine sd (by omega) ?_
        refine cd rfl ?_ ?_<;>intro L9
        ·
         refine Dg 116 rfl (by omega) ?_
         refine kW 17 (Bv (kn (W1 bd true readers.toNat) zz.1) b zz.2 (2+readers.toNat) ((23+20*(readers.toNat:Int))+1) (uf bd true (by omega) zz.1) hzc (by omega) (2+(zz.1:Int)) 0) .jo rfl ?_
         rintro _ _ ⟨rfl,c10,hc10,rfl⟩
         rw[hbk.ex zz.1 (by omega),aC]
         refine gO ?_
         refine sd (by omega) ?_
         refine ag ((zz.1+1,c10)) ?_ ?_ (.cons (sV (by omega)) (.cons rfl (S6 rfl rfl rfl rfl rfl rfl))) (fun _ hw=>XM.pick .jo hw)
         ·
          (show readers.toNat-(zz.1+1)<readers.toNat-zz.1;omega)
         ·
          exact⟨(by show zz.1+1≤_;omega),hc10⟩
        ·
         have hze0:zz.1=readers.toNat:=by omega
         have hze:dq (E1 bd true readers.toNat) zz.2 (2+readers.toNat) ((23+20*(readers.toNat:Int))+1):=by have h9:=hzc;rw[hze0]at h9;exact h9
         rw[show(kn (W1 bd true readers.toNat) zz.1)=E1 bd true readers.toNat from by rw[hze0];rfl]
         refine kW 17 (om (E1 bd true readers.toNat) b zz.2 (2+readers.toNat) ((23+20*(readers.toNat:Int))+1) (uf bd true (by omega) readers.toNat) hze (by omega) 1 1 xB (by decide)) .jo rfl ?_
         rintro _ _ ⟨rfl,c11,hc11,rfl⟩
         obtain⟨w4,w5,w6⟩:=hbk.w2 hm0 zz.2.F.toFF
         rw[w6]at hc11
         rw[w4,w5,w6,aB]
         have hc12:dq (D1 bd true readers.toNat) c11 (2+readers.toNat) ((23+20*(readers.toNat:Int))+2):=hc11.up (Nat.le_refl _) (by omega)
         refine gO ?_
         refine Br (c11) ?_ (S6 rfl rfl rfl rfl rfl rfl) (fun _ hw=>XM.pick .jo hw)
         exact hc12
       intro y hyc
       refine gC ?_
       refine ca (oH 12) .nil ?_
       rintro _ _ ⟨rfl,rfl⟩
       refine gO ?_
       refine Dg 131 rfl (by omega) ?_
       refine uu rfl (by omega) ?_
       refine ca (uY b.kb (kp (D1 bd true readers.toNat) b y) (D1 bd true readers.toNat).s 1) (.cons .here (.cons (.there .here) .nil)) ?_
       rintro v32 _ ⟨hv32,rfl⟩
       by_cases hcs:bd=0∧true=false
       ·
        try dsimp only[aC,aS,aM,aR,aN,aP,aQ,aU,aO,aT,aG,aH,aB,aF]
        exact absurd hcs.2 (by decide)
        skip
       ·
        try dsimp only[aC,aS,aM,aR,aN,aP,aQ,aU,aO,aT,aG,aH,aB,aF]
        obtain⟨hlv,hpd,htk,htv⟩:=BK.stays ⟨by omega,by omega⟩ hcs (m:=readers.toNat) (by omega)
        have hlk:(kp (D1 bd true readers.toNat) b y).live 1=0:=hlv
        rw[hlk,if_pos rfl,hpd,aC]at hv32
        subst hv32
        refine gO ?_
        refine sp 142 rfl ?_ ?_<;>intro gq
        ·
         refine kW 17 (lE (D1 bd true readers.toNat) b y (2+readers.toNat) ((23+20*(readers.toNat:Int))+2) (sG bd true (by omega)) hyc (by omega) 1) (.cons .here (.cons (.there .here) .DX)) rfl ?_
         rintro _ _ ⟨rfl,c13,hc13,rfl⟩
         by_cases hte:(D1 bd true readers.toNat).gZ 1=0
         ·
          try dsimp only[aC,aS,aM,aR,aN,aP,aQ,aU,aO,aT,aG,aH,aB,aF]
          exact absurd (htk.1 hte).2 (by decide)
          skip
         ·
          try dsimp only[aC,aS,aM,aR,aN,aP,aQ,aU,aO,aT,aG,aH,aB,aF]
          rw[aW _ hte]
          refine gO ?_
          refine sp 157 rfl ?_ ?_<;>intro jo
          ·
           refine XO.v (V.gw rfl rfl Tryz.underlying4 rfl) rfl (gO ?_)
           refine uE 163 rfl ?_ ?_<;>intro HY
           ·try simp only[sb]at HY
            refine XE.aV rfl rfl (ab .nil rfl ?_)
            try dsimp only[SW.den,SV.den,aj,aZ]
            exact⟨rfl,rfl⟩
           ·try simp only[sb]at HY
            all_goals(simp at HY)
          ·
           refine XO.v (V.gw rfl rfl Tryz.underlying4 rfl) rfl (gO ?_)
           refine uE 163 rfl ?_ ?_<;>intro Ep
           ·try simp only[sb]at Ep
            refine XE.aV rfl rfl (ab .nil rfl ?_)
            try dsimp only[SW.den,SV.den,aj,aZ]
            exact⟨rfl,rfl⟩
           ·try simp only[sb]at Ep
            all_goals(simp at Ep)
        ·
         refine kW 17 (lE (D1 bd true readers.toNat) b y (2+readers.toNat) ((23+20*(readers.toNat:Int))+2) (sG bd true (by omega)) hyc (by omega) 1) (.cons .here (.cons (.there .here) .DX)) rfl ?_
         rintro _ _ ⟨rfl,c13,hc13,rfl⟩
         by_cases hte:(D1 bd true readers.toNat).gZ 1=0
         ·
          try dsimp only[aC,aS,aM,aR,aN,aP,aQ,aU,aO,aT,aG,aH,aB,aF]
          exact absurd (htk.1 hte).2 (by decide)
          skip
         ·
          try dsimp only[aC,aS,aM,aR,aN,aP,aQ,aU,aO,aT,aG,aH,aB,aF]
          rw[aW _ hte]
          refine gO ?_
          refine sp 157 rfl ?_ ?_<;>intro N9
          ·
           refine XO.v (V.gw rfl rfl Tryz.underlying4 rfl) rfl (gO ?_)
           refine uE 163 rfl ?_ ?_<;>intro JT
           ·try simp only[sb]at JT
            refine XE.aV rfl rfl (ab .nil rfl ?_)
            try dsimp only[SW.den,SV.den,aj,aZ]
            exact⟨rfl,rfl⟩
           ·try simp only[sb]at JT
            all_goals(simp at JT)
          ·
           refine XO.v (V.gw rfl rfl Tryz.underlying4 rfl) rfl (gO ?_)
           refine uE 163 rfl ?_ ?_<;>intro h23
           ·try simp only[sb]at h23
            refine XE.aV rfl rfl (ab .nil rfl ?_)
            try dsimp only[SW.den,SV.den,aj,aZ]
            exact⟨rfl,rfl⟩
           ·try simp only[sb]at h23
            all_goals(simp at h23)
theorem IK(bd:Int)(_: -9223372036854775808≤bd∧bd≤9223372036854775807)(held:Bool)(readers:Int)(_: -9223372036854775808≤readers∧readers≤9223372036854775807):Spec Tryz.prog 5 [.int .i64 bd,.bool held,.int .i64 readers] [.ro 0 0 32 Sg.b6] (fun v H1=>v= .bool true∧H1=[]):=by
 cases held
 ·exact vH bd readers
 ·exact wx bd readers
end Go.X.Kn
