import Derived.Test.YthdinakloheinaaGreatDoorkJN3
import Derived.Test.YthdinakloheinaaGreatDoorkJF2
namespace Go.X.Kn
open Go Go.Proofs Go.X
set_option maxRecDepth 20000
set_option maxHeartbeats 4000000
attribute [local irreducible] KA.aS KA.bS
set_option maxHeartbeats 16000000 in
theorem B6(bl ol len cap:Nat)(hlen:len≤cap)(A:Int→iZ)(hA:∀ z:Int,0≤z→z<len→(A z).ok):Spec Tryz.prog 4 [.slice (some ⟨bl,ol,none⟩) len cap] [.ro 0 0 32 Sg.cX,.ro bl ol (8*len) (df A)] (fun v H1=>v= .bool true∧H1=[]):=by
 refine Spec.go 148 [0,2,3,4,5,6,7,8,9,10,11,12,13,14,15,21,37,40,44,52,53,64,72,81,94,103,110,123,147] [(15,1)] Tryz.func4 rfl rfl rfl ?_
 intro W
 refine ca (wS) .nil ?_
 rintro _ _ ⟨b,c0,rfl,_,_,hc0,rfl⟩
 refine gO ?_
 refine ca (Av A0 b c0 1 2 Eb hc0 (by omega) 0) .la ?_
 rintro _ _ ⟨rfl,c1,hc1,rfl⟩
 rw[MX,MY,MQ,aT]
 refine gO ?_
 refine Jc 34 rfl (by omega) ?_
 refine xV rfl (by omega) ?_
 refine u9 0 (IG _ _ len cap hlen A hA 150 (by omega)) (.cons (.t12 (.t6 .here)) .nil) rfl ?_
 rintro _ _ ⟨⟨bf,rfl,hfew⟩,rfl⟩
 refine gO ?_
 refine AK rfl ?_ ?_<;>intro h2
 ·try simp only[sb]at h2
  refine XE.aK rfl rfl (ab .nil rfl ?_)
  try dsimp only[SW.den,SV.den,aj,aL]
  exact⟨rfl,rfl⟩
 ·try simp only[sb]at h2
  have hle:(len:Int)≤150:=(hfew (by simpa using h2)).1
  have hTx:=(hfew (by simpa using h2)).2
  refine lp (σ:=Int×TL) (fun x=>(len-x.1).toNat) (fun x=>(0≤x.1∧x.1≤len)∧x.2.Ok x.1) (fun x=>[(8,.string x.2.inn),(9,.string x.2.out),(10,.int .i64 x.1),(0,.slice (some ⟨bl,ol,none⟩) len cap),(3,ptr b.kb 0 0),(5,.int .i64 0),(6,.int .i64 1)]) (fun x=>XM W (bR [.ro 0 0 32 Sg.cX,.ro bl ol (8*len) (df A)]) [.cells b.kb 0 453 (ah (kp x.2.a b x.2.c)),.cells b.gb 0 60 (Gr.aC x.2.a.g),.cells b.sb 0 158 (Sp.aB x.2.a.s),.cells b.qb 0 2281 (Fa.aq x.2.c.q),.fam Fa.aH (Fa.SC.rows 254 x.2.c.q),.cells b.bb 0 577 (Vm.bz b.vp x.2.a.v.by_ x.2.a.v.rf),.cells b.vp 0 71 (Vm.au x.2.a.v.bb.bJ),.cfam (bN x.2.a) x.2.c.mb 34 (cN b.bb x.2.a.f x.2.c.pp x.2.c.cc),.fam (bN x.2.a) (rN 171 x.2.a.f x.2.c.pp x.2.c.cc),.cells b.tb 0 321 (Tr.ay x.2.c.F),.fam Tr.ai (Tr.FC.aD 9 x.2.c.F),.fam Tr.ai (Tr.FC.aF 3 x.2.c.F),aZ x.2.c.rp x.2.c.rc 3 x.2.c.rl,.cells b.pi 0 24 (Tr.au x.2.a.P),.cells b.ob 0 122 (Tr.az b.tb b.pi x.2.a.O),.cfam (bO x.2.a) (fun z=>(x.2.c.t z).b) 4 (cT b.tb x.2.c.t),.fam (bO x.2.a) (rT 168 x.2.c.t),.ro 0 0 32 Sg.cX,.ro bl ol (8*len) (df A)]) ((0,⟨A1,c1,⟨#[]⟩,⟨#[]⟩⟩)) ?_ (.cons rfl (S6 rfl rfl rfl rfl rfl rfl)) (fun _ hw=>XM.pick (.cons (.there .here) (.cons (.there .here) (.cons (.there .here) (.cons (.there .here) (.cons (.there .here) (.cons (.there .here) (.cons (.there .here) (.cons (.there .here) (.cons (.there .here) (.cons (.there .here) (.cons (.there .here) (.cons (.there .here) (.cons (.there .here) (.cons (.there .here) (.cons (.there .here) (.cons (.there .here) (.cons (.there .here) (.cons (.there .here) .h1)))))))))))))))))) hw) ?_
  ·
   exact⟨by simp,TL.begun hc1⟩
  intro x hx0
  obtain⟨hi,hx⟩:=hx0
  obtain⟨hf1,hf2,hf3⟩:=hx.facts
  have hsz:=hx.sz
  refine gC ?_
  refine cd rfl ?_ ?_<;>intro h3
  ·
   have htx:=hTx x.1 (by omega) (by omega)
   refine sd (by omega) ?_
   refine M9 (.t12 (.t6 .here)) (BR A len _ (by omega)) ?_
   refine XO.cY (z:=.agg nY) (m:=8) (C:=cellsOf nY) (by kernel_rfl) rfl (fun _ _=>rfl) rfl ?_
   intro ba
   refine gO ?_
   refine jV .here (xY _) rfl ⟨rfl,rfl⟩ ?_
   refine Mg (σ:=TL) (fun y=>y.Ok (x.1+1)) (fun y=>[(0,.slice (some ⟨bl,ol,none⟩) len cap),(3,ptr b.kb 0 0),(5,.int .i64 0),(6,.int .i64 1),(8,.string y.inn),(9,.string y.out),(10,.int .i64 x.1)]) (fun y=>XM W (bR [.ro 0 0 32 Sg.cX,.ro bl ol (8*len) (df A)]) [.cells b.kb 0 453 (ah (kp y.a b y.c)),.cells b.gb 0 60 (Gr.aC y.a.g),.cells b.sb 0 158 (Sp.aB y.a.s),.cells b.qb 0 2281 (Fa.aq y.c.q),.fam Fa.aH (Fa.SC.rows 254 y.c.q),.cells b.bb 0 577 (Vm.bz b.vp y.a.v.by_ y.a.v.rf),.cells b.vp 0 71 (Vm.au y.a.v.bb.bJ),.cfam (bN y.a) y.c.mb 34 (cN b.bb y.a.f y.c.pp y.c.cc),.fam (bN y.a) (rN 171 y.a.f y.c.pp y.c.cc),.cells b.tb 0 321 (Tr.ay y.c.F),.fam Tr.ai (Tr.FC.aD 9 y.c.F),.fam Tr.ai (Tr.FC.aF 3 y.c.F),aZ y.c.rp y.c.rc 3 y.c.rl,.cells b.pi 0 24 (Tr.au y.a.P),.cells b.ob 0 122 (Tr.az b.tb b.pi y.a.O),.cfam (bO y.a) (fun z=>(y.c.t z).b) 4 (cT b.tb y.c.t),.fam (bO y.a) (rT 168 y.c.t),.ro 0 0 32 Sg.cX,.ro bl ol (8*len) (df A)]) ?_ ?_
   ·
    refine ld .here (bQ.HU _) ?_
    refine cd rfl ?_ ?_<;>intro h4
    ·
     refine ld .here (bQ.EV _) ?_
     refine ld .here (bQ.L9 _) ?_
     refine ca (IV x.2.a b x.2.c (1+x.1.toNat) (10+30*x.1) hx.ok hx.con (by omega) (A x.1).a _) (.cons (.there .here) (.cons (.there .here) (.cons (.there .here) (.cons (.there .here) (.cons (.there .here) (.cons (.there .here) (.cons (.there .here) (.cons (.there .here) (.cons (.there .here) (.cons (.there .here) (.cons (.there .here) (.cons (.there .here) (.cons (.there .here) (.cons (.there .here) (.cons (.there .here) (.cons (.there .here) (.cons (.there .here) .nil))))))))))))))))) ?_
     rintro _ _ ⟨rfl,c1,hc1,rfl⟩
     obtain⟨ht2,hp2⟩:=hx.tk.fork hx.ok (A x.1).a (A x.1).on
     refine gO ?_
     refine vE (⟨x.2.a.bE (A x.1).a (A x.1).on,c1,x.2.inn,x.2.out⟩) ?_ (.cons rfl (S6 rfl rfl rfl rfl rfl rfl)) (fun _ hw=>XM.pick (.cons .here (.cons .here (.cons .here (.cons .here (.cons .here (.cons .here (.cons .here (.cons .here (.cons .here (.cons .here (.cons .here (.cons .here (.cons .here (.cons .here (.cons .here (.cons .here (.cons .here (.cons (.there .here) (.cons (.there .here) .nil))))))))))))))))))) hw)
     exact hx.step (T:=10+30*x.1+20) (by omega) ((hx.ok.fork (by omega) _ _).up (by omega) (by omega)) ht2 (by omega) hc1 (by omega) (by rw[hp2])
    ·
     refine cd rfl ?_ ?_<;>intro h5
     ·
      refine ld .here (bQ.EV _) ?_
      refine ld .here (bQ.N6 _) ?_
      refine u9 17 (HG x.2.a b x.2.c (1+x.1.toNat) (10+30*x.1) hx.ok hx.con (by omega) (A x.1).a (A x.1).b) (.cons (.there .here) (.cons (.there .here) (.cons (.there .here) (.cons (.there .here) (.cons (.there .here) (.cons (.there .here) (.cons (.there .here) (.cons (.there .here) (.cons (.there .here) (.cons (.there .here) (.cons (.there .here) (.cons (.there .here) (.cons (.there .here) (.cons (.there .here) (.cons (.there .here) (.cons (.there .here) (.cons (.there .here) (.cons (.there .here) .nil)))))))))))))))))) rfl ?_
      rintro _ _ ⟨rfl,c1,hc1,rfl⟩
      obtain⟨ht2,hp2⟩:=hx.tk.exit hx.ok (A x.1).a (A x.1).b
      refine gO ?_
      refine vE (⟨x.2.a.cm (A x.1).a (A x.1).b,c1,x.2.inn,x.2.out⟩) ?_ (.cons rfl (S6 rfl rfl rfl rfl rfl rfl)) (fun _ hw=>XM.pick (.cons .here (.cons .here (.cons .here (.cons .here (.cons .here (.cons .here (.cons .here (.cons .here (.cons .here (.cons .here (.cons .here (.cons .here (.cons .here (.cons .here (.cons .here (.cons .here (.cons .here (.cons .here (.cons (.there .here) .nil))))))))))))))))))) hw)
      exact hx.step (by omega) (hx.ok.cm _ _) ht2 (by omega) hc1 (by omega) (by rw[hp2])
     ·
      refine cd rfl ?_ ?_<;>intro h6
      ·
       refine ld .here (bQ.EV _) ?_
       refine ca (H7 x.2.a b x.2.c (1+x.1.toNat) (10+30*x.1) hx.ok hx.con (by omega) (A x.1).a) (.cons (.there .here) (.cons (.there .here) (.cons (.there .here) (.cons (.there .here) (.cons (.there .here) (.cons (.there .here) (.cons (.there .here) (.cons (.there .here) (.cons (.there .here) (.cons (.there .here) (.cons (.there .here) (.cons (.there .here) (.cons (.there .here) (.cons (.there .here) (.cons (.there .here) (.cons (.there .here) (.cons (.there .here) .nil))))))))))))))))) ?_
       rintro _ _ ⟨rfl,c1,hc1,rfl⟩
       obtain⟨ht2,hp2⟩:=hx.tk.wait (A x.1).a
       refine gO ?_
       refine vE (⟨x.2.a.dL (A x.1).a,c1,x.2.inn,x.2.out⟩) ?_ (.cons rfl (S6 rfl rfl rfl rfl rfl rfl)) (fun _ hw=>XM.pick (.cons .here (.cons .here (.cons .here (.cons .here (.cons .here (.cons .here (.cons .here (.cons .here (.cons .here (.cons .here (.cons .here (.cons .here (.cons .here (.cons .here (.cons .here (.cons .here (.cons .here (.cons (.there .here) (.cons (.there .here) .nil))))))))))))))))))) hw)
       exact hx.step (by omega) (hx.ok.wait _) ht2 (by omega) hc1 (by omega) (by rw[hp2])
      ·
       refine cd rfl ?_ ?_<;>intro h7
       ·
        refine ld .here (bQ.EV _) ?_
        refine ld .here (bQ.Ix _) ?_
        refine u9 17 (F2 x.2.a b x.2.c (1+x.1.toNat) (10+30*x.1) hx.ok hx.con (by omega) (A x.1).a 1 (A x.1).s (by omega)) (.cons (.there .here) (.cons (.there .here) (.cons (.there .here) (.cons (.there .here) (.cons (.there .here) (.cons (.there .here) (.cons (.there .here) (.cons (.there .here) (.cons (.there .here) (.cons (.there .here) (.cons (.there .here) (.cons (.there .here) (.cons (.there .here) (.cons (.there .here) (.cons (.there .here) (.cons (.there .here) (.cons (.there .here) (.cons (.there .here) .nil)))))))))))))))))) rfl ?_
        rintro _ _ ⟨rfl,c1,hc1,rfl⟩
        obtain⟨ht2,hwr⟩:=hx.tk.write (hx.ok.wk.PI.len 0) x.2.c.F.toFF (A x.1).a (A x.1).s
        refine gO ?_
        refine cd rfl ?_ ?_<;>intro h8
        ·
         have hw0:x.2.a.b7 x.2.c.F.toFF (A x.1).a 1 (A x.1).s=0:=h8
         obtain⟨_,v0,v1,v2,hb2⟩:=hwr.resolve_right (fun q=>q.1 hw0)
         have hes:((A x.1).s.extract 0 (x.2.a.fI x.2.c.F.toFF (A x.1).a 1 (A x.1).s).toNat).size≤80:=by rw[ByteArray.size_extract];omega
         refine Jc 97 rfl (by omega) ?_
         refine ld (.t12 (.t6 .here)) (bQ.Ix _) ?_
         refine xV rfl (by omega) ?_
         refine ld (.t12 (.t6 .here)) (bQ.Ix _) ?_
         refine sd (by omega) ?_
         refine sd (by omega) ?_
         refine vE (⟨x.2.a.cD x.2.c.F.toFF (A x.1).a 1 (A x.1).s,c1,x.2.inn++(A x.1).s.extract 0 (x.2.a.fI x.2.c.F.toFF (A x.1).a 1 (A x.1).s).toNat,x.2.out⟩) ?_ (.cons rfl (S6 rfl rfl rfl rfl rfl rfl)) (fun _ hw=>XM.pick (.cons .here (.cons .here (.cons .here (.cons .here (.cons .here (.cons .here (.cons .here (.cons .here (.cons .here (.cons .here (.cons .here (.cons .here (.cons .here (.cons .here (.cons .here (.cons .here (.cons .here (.cons .here (.cons (.there .here) .nil))))))))))))))))))) hw)
         exact hx.wrote (by omega) (hx.ok.write (by omega) _ _ _ _) ht2 (by omega) hc1 (by omega) ⟨v0,v1,v2⟩ hb2
        ·
         have hw0:x.2.a.b7 x.2.c.F.toFF (A x.1).a 1 (A x.1).s≠0:=h8
         have hb2:=(hwr.resolve_left (fun q=>hw0 q.1)).2
         refine vE (⟨x.2.a.cD x.2.c.F.toFF (A x.1).a 1 (A x.1).s,c1,x.2.inn,x.2.out⟩) ?_ (.cons rfl (S6 rfl rfl rfl rfl rfl rfl)) (fun _ hw=>XM.pick (.cons .here (.cons .here (.cons .here (.cons .here (.cons .here (.cons .here (.cons .here (.cons .here (.cons .here (.cons .here (.cons .here (.cons .here (.cons .here (.cons .here (.cons .here (.cons .here (.cons .here (.cons .here (.cons (.there .here) .nil))))))))))))))))))) hw)
         exact hx.step (by omega) (hx.ok.write (by omega) _ _ _ _) ht2 (by omega) hc1 (by omega) hb2
       ·
        refine cd rfl ?_ ?_<;>intro Hj
        ·
         refine ld .here (bQ.EV _) ?_
         refine ld .here (bQ.NK _) ?_
         refine ca (IT x.2.a b x.2.c (1+x.1.toNat) (10+30*x.1) hx.ok hx.con (by omega) (A x.1).a 0 (A x.1).c) (.cons (.there .here) (.cons (.there .here) (.cons (.there .here) (.cons (.there .here) (.cons (.there .here) (.cons (.there .here) (.cons (.there .here) (.cons (.there .here) (.cons (.there .here) (.cons (.there .here) (.cons (.there .here) (.cons (.there .here) (.cons (.there .here) (.cons (.there .here) (.cons (.there .here) (.cons (.there .here) (.cons (.there .here) .nil))))))))))))))))) ?_
         rintro _ _ ⟨rfl,c1,hc1,rfl⟩
         obtain⟨ht2,hrd⟩:=hx.tk.read x.2.c.F.toFF (A x.1).a (A x.1).c
         refine gO ?_
         refine cd rfl ?_ ?_<;>intro Nv
         ·
          have hr0:x.2.a.ew x.2.c.F.toFF (A x.1).a 0 (A x.1).c=0:=Nv
          have hb2:=(hrd.resolve_right (fun q=>q.1 hr0)).2
          have hv2:(x.2.a.ek x.2.c.F.toFF (A x.1).a 0 (A x.1).c).size≤12:=by
           have:=hx.ok.wk.PI.len 0
           rw[←hb2,ByteArray.size_append]at this
           omega
          refine sd (by omega) ?_
          refine vE (⟨x.2.a.dz x.2.c.F.toFF (A x.1).a 0 (A x.1).c,c1,x.2.inn,x.2.out++(x.2.a.ek x.2.c.F.toFF (A x.1).a 0 (A x.1).c)⟩) ?_ (.cons rfl (S6 rfl rfl rfl rfl rfl rfl)) (fun _ hw=>XM.pick (.cons .here (.cons .here (.cons .here (.cons .here (.cons .here (.cons .here (.cons .here (.cons .here (.cons .here (.cons .here (.cons .here (.cons .here (.cons .here (.cons .here (.cons .here (.cons .here (.cons .here (.cons (.there .here) (.cons (.there .here) .nil))))))))))))))))))) hw)
          exact hx.Ot (by omega) (hx.ok.read (by omega) (hx.con.F.sh (by omega)) _ _ _) ht2 (by omega) hc1 (by omega) hb2
         ·
          have hr0:x.2.a.ew x.2.c.F.toFF (A x.1).a 0 (A x.1).c≠0:=Nv
          have hb2:=(hrd.resolve_left (fun q=>hr0 q.1)).2
          refine vE (⟨x.2.a.dz x.2.c.F.toFF (A x.1).a 0 (A x.1).c,c1,x.2.inn,x.2.out⟩) ?_ (.cons rfl (S6 rfl rfl rfl rfl rfl rfl)) (fun _ hw=>XM.pick (.cons .here (.cons .here (.cons .here (.cons .here (.cons .here (.cons .here (.cons .here (.cons .here (.cons .here (.cons .here (.cons .here (.cons .here (.cons .here (.cons .here (.cons .here (.cons .here (.cons .here (.cons (.there .here) (.cons (.there .here) .nil))))))))))))))))))) hw)
          exact hx.step (by omega) (hx.ok.read (by omega) (hx.con.F.sh (by omega)) _ _ _) ht2 (by omega) hc1 (by omega) hb2
        ·
         refine vE (x.2) ?_ (.cons rfl (S6 rfl rfl rfl rfl rfl rfl)) (fun _ hw=>XM.pick (.cons (.there .here) (.cons (.there .here) (.cons (.there .here) (.cons (.there .here) (.cons (.there .here) (.cons (.there .here) (.cons (.there .here) (.cons (.there .here) (.cons (.there .here) (.cons (.there .here) (.cons (.there .here) (.cons (.there .here) (.cons (.there .here) (.cons (.there .here) (.cons (.there .here) (.cons (.there .here) (.cons (.there .here) (.cons (.there .here) (.cons (.there .here) .nil))))))))))))))))))) hw)
         exact hx.next (by omega)
   intro y hy
   obtain⟨gf1,gf2,gf3⟩:=hy.facts
   have gsz:=hy.sz
   refine gC ?_
   refine Jc 132 rfl (by omega) ?_
   refine sd (by omega) ?_
   refine Jc 140 rfl (by intro q;exact q gf2.symm) ?_
   refine sd (by omega) ?_
   refine xV rfl (by omega) ?_
   refine sd (by omega) ?_
   refine ag ((x.1+1,y)) ?_ ?_ (.cons rfl (S6 rfl rfl rfl rfl rfl rfl)) (fun _ hw=>XM.pick .Mt hw)
   ·
    (show(_-(x.1+1)).toNat<(_-x.1).toNat;omega)
   ·
    exact⟨(by show 0≤x.1+1∧x.1+1≤_;omega),hy⟩
  ·
   refine XE.aK rfl rfl (ab .nil rfl ?_)
   try dsimp only[SW.den,SV.den,aj,aL]
   exact⟨rfl,rfl⟩
end Go.X.Kn

namespace Go.X.Kn
open Go Go.Proofs Go.X
set_option maxRecDepth 20000
set_option maxHeartbeats 4000000
attribute [local irreducible] KA.aS KA.bS
set_option maxHeartbeats 16000000 in
theorem ua(p:Option Addr)(cap:Nat):Spec Tryz.prog 4 [.slice p 0 cap] [.ro 0 0 32 Sg.cX] (fun v H1=>v= .bool true∧H1=[]):=by
 refine Spec.go 148 [0,2,3,4,5,6,7,8,9,10,21,37,40,44] [] Tryz.func4 rfl rfl rfl ?_
 intro W
 refine ca (wS) .nil ?_
 rintro _ _ ⟨b,c0,rfl,_,_,hc0,rfl⟩
 refine gO ?_
 refine ca (Av A0 b c0 1 2 Eb hc0 (by omega) 0) .la ?_
 rintro _ _ ⟨rfl,c1,hc1,rfl⟩
 rw[MX,MY,MQ,aT]
 refine gO ?_
 refine Jc 34 rfl (by omega) ?_
 refine xV rfl (by omega) ?_
 refine ca (HT _ _ 150) .nil ?_
 rintro _ _ ⟨⟨bf,rfl,hfew⟩,rfl⟩
 refine gO ?_
 refine AK rfl ?_ ?_<;>intro h2
 ·try simp only[sb]at h2
  refine XE.aK rfl rfl (ab .nil rfl ?_)
  try dsimp only[SW.den,SV.den,aj,aL]
  exact⟨rfl,rfl⟩
 ·try simp only[sb]at h2
  refine lp (σ:=Int×TL) (fun x=>0) (fun x=>(0≤x.1∧x.1≤(0:Nat))∧x.2.Ok x.1) (fun x=>[(8,.string x.2.inn),(9,.string x.2.out),(10,.int .i64 x.1),(0,.slice p 0 cap),(3,ptr b.kb 0 0),(5,.int .i64 0),(6,.int .i64 1)]) (fun x=>XM W (bR [.ro 0 0 32 Sg.cX]) [.cells b.kb 0 453 (ah (kp x.2.a b x.2.c)),.cells b.gb 0 60 (Gr.aC x.2.a.g),.cells b.sb 0 158 (Sp.aB x.2.a.s),.cells b.qb 0 2281 (Fa.aq x.2.c.q),.fam Fa.aH (Fa.SC.rows 254 x.2.c.q),.cells b.bb 0 577 (Vm.bz b.vp x.2.a.v.by_ x.2.a.v.rf),.cells b.vp 0 71 (Vm.au x.2.a.v.bb.bJ),.cfam (bN x.2.a) x.2.c.mb 34 (cN b.bb x.2.a.f x.2.c.pp x.2.c.cc),.fam (bN x.2.a) (rN 171 x.2.a.f x.2.c.pp x.2.c.cc),.cells b.tb 0 321 (Tr.ay x.2.c.F),.fam Tr.ai (Tr.FC.aD 9 x.2.c.F),.fam Tr.ai (Tr.FC.aF 3 x.2.c.F),aZ x.2.c.rp x.2.c.rc 3 x.2.c.rl,.cells b.pi 0 24 (Tr.au x.2.a.P),.cells b.ob 0 122 (Tr.az b.tb b.pi x.2.a.O),.cfam (bO x.2.a) (fun z=>(x.2.c.t z).b) 4 (cT b.tb x.2.c.t),.fam (bO x.2.a) (rT 168 x.2.c.t),.ro 0 0 32 Sg.cX]) ((0,⟨A1,c1,⟨#[]⟩,⟨#[]⟩⟩)) ?_ (.cons rfl (S6 rfl rfl rfl rfl rfl rfl)) (fun _ hw=>XM.pick .vF hw) ?_
  ·
   exact⟨by simp,TL.begun hc1⟩
  intro x hx0
  obtain⟨hi,hx⟩:=hx0
  obtain⟨hf1,hf2,hf3⟩:=hx.facts
  have hsz:=hx.sz
  refine gC ?_
  refine xV rfl (by simp;omega) ?_
  refine XE.aK rfl rfl (ab .nil rfl ?_)
  try dsimp only[SW.den,SV.den,aj,aL]
  exact⟨rfl,rfl⟩
theorem Gt:Spec Tryz.prog 4 [.slice none 0 0] [.ro 0 0 32 Sg.cX] (fun v H1=>v= .bool true∧H1=[]):=ua none 0
end Go.X.Kn
