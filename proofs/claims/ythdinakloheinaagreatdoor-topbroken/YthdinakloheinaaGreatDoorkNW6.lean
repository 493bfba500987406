import Derived.Test.YthdinakloheinaaGreatDoorkVW5
import Derived.Test.YthdinakloheinaaGreatDoorkKW
import Derived.Test.YthdinakloheinaaGreatDoorkGW
import Derived.Test.YthdinakloheinaaGreatDoorkFQ
import Derived.Test.YthdinakloheinaaGreatDoorkVW
import Derived.Test.YthdinakloheinaaGreatDoorkGPl
import Derived.Test.YthdinakloheinaaGreatDoorkNFP
import Derived.Shelf.Lays2
import Derived.Ground.Names2Prog
import Derived.Test.YthdinakloheinaaGreatDoorProg
import Derived.Test.YthdinakloheinaaGreatDoorKB
import Derived.Test.YthdinakloheinaaGreatDoorXBytes
import Derived.Test.YthdinakloheinaaGreatDoorXClose
namespace Go.X.Vm
open Go Go.Proofs Go.X
set_option maxRecDepth 20000
set_option maxHeartbeats 4000000
theorem Hm(kb pb:Nat)(v:VB)(hv:v.Ok)(f:Int)(hf:0≤f∧f<64)(h1:1≤v.rf f):Spec Tryz.prog 179 [ptr kb 0 0,.int .i64 f] [.cells kb 0 577 (bu pb v.by_ v.rf),.cells pb 0 71 (aq v.bb.bA)] (fun x H1=>x= .tuple #[]∧H1=[.cells kb 0 577 (bu pb (v.drop f).by_ (v.drop f).rf),.cells pb 0 71 (aq (v.drop f).bb.bA)]):=by
 have hb:=hv.rf f
 refine Spec.go 27 [0,1,20] [] Tryz.func179 rfl rfl rfl ?_
 intro W
 refine rq [0,1,2,3,4,5,6,7,8,9,10] mixed (by kernel_rfl) ?_
 refine sd (by omega) ?_
 refine ld .here (bu.lP _ _ _ _ (by omega)) ?_
 refine sd (by omega) ?_
 refine sd (by omega) ?_
 refine st .here (bu.uM _ _ _ _ (by omega) _) rfl ?_
 refine sd (by omega) ?_
 refine ld .here (bu.lP _ _ _ _ (by omega)) ?_
 have e1:aa v.rf f (v.rf f-1) f=v.rf f-1:=ae _ _ _
 refine cd rfl ?_ ?_<;>intro h1
 ·
  refine ld .here (bu.Gv _ _ _) ?_
  refine ca (LO _ _ _ hv.bb _) (.cons (.there .here) .nil) ?_
  rintro _ _ ⟨rfl,rfl⟩
  refine gO ?_
  refine XE.fD rfl (ab (.cons (.there .here) .h1) rfl ?_)
  rw[VB.EV (by omega)];exact⟨rfl,rfl⟩
 ·
  refine XE.fD rfl (ab .h2 rfl ?_)
  rw[VB.F6 (by omega)];exact⟨rfl,rfl⟩
set_option maxHeartbeats 8000000 in
theorem GA(kb pb mb:Nat)(v:VB)(hv:v.Ok)(p:Option Addr)(c:Nat)(m:MS)(hm:m.Ok)(hin:m.In v)(a n:Int):Spec Tryz.prog 107 [ptr mb 0 0,.int .i64 a,.int .i64 n] [.cells kb 0 577 (bu pb v.by_ v.rf),.cells pb 0 71 (aq v.bb.bA),.cells mb 0 34 (bE kb p (runs m.aI).length c m.fr m.own),bj p c 171 3 (runs m.aI).length (dD (runs m.aI))] (fun x H1=>x= .tuple #[.int .i64 (m.ew v a n).1,bM 102 (m.ew v a n).2.1]∧∃ p2 c2,H1=[.cells kb 0 577 (bu pb (m.ew v a n).2.2.1.by_ (m.ew v a n).2.2.1.rf),.cells pb 0 71 (aq (m.ew v a n).2.2.1.bb.bA),.cells mb 0 34 (bE kb p2 (runs (m.ew v a n).2.2.2.aI).length c2 (m.ew v a n).2.2.2.fr (m.ew v a n).2.2.2.own),bj p2 c2 171 3 (runs (m.ew v a n).2.2.2.aI).length (dD (runs (m.ew v a n).2.2.2.aI))]):=by
 refine Spec.go 59 [0,1,2,6,7,8,9,11,16,21,22,23,24,34] [] Tryz.func107 rfl rfl rfl ?_
 intro W
 refine ca (Ke _ _) .nil ?_
 rintro _ _ ⟨rfl,rfl⟩
 refine gO ?_
 refine cd rfl ?_ ?_<;>intro h1
 ·
  have hb:fB a n:=by
   by_cases q:fB a n
   ·exact q
   ·exact absurd (if_neg q) h1
  refine XE.bC rfl rfl rfl (ab .h4 rfl ?_)
  exact⟨by rw[if_pos hb,MS.pj hb];rfl,p,c,by rw[MS.pj hb]⟩
 ·
  have hb:¬fB a n:=fun q=>h1 (fun q2=>by rw[if_pos q]at q2;omega)
  have hb2:=hb
  unfold fB at hb2
  have hn:0<n:=by omega
  have hL:=rh m.aI
  refine ca (Hs _ _ _ _ _ hm _ _ hb) (.cons (.t2 .here) (.cons (.t2 .here) .nil)) ?_
  rintro _ _ ⟨p4,c4,p5,c5,rfl,rfl⟩
  have hcl:=yP (runs m.aI) a n
  rw[Cm hm.f hb]
  generalize hq:fa (fun i=>m.aI i != 0) a n.toNat=l
  have hls:∀ i∈l,a≤i∧i<a+n:=fun i hi=>by rw[←hq,iE]at hi;omega
  have hst:l.Pairwise (fun x y=>x<y):=hq▸j9 _
  have hle:l.length≤16:=by rw[←hq];have:=tP (p:=fun i=>m.aI i != 0) (a:=a) n.toNat;omega
  refine gO ?_
  refine lp (σ:=Int) (fun i=>(l.length-i).toNat) (fun i=>0≤i∧i≤l.length) (fun i=>[(23,.int .i64 i),(9,.int .i64 (kY v m.fr (l.take i.toNat)).1),(0,ptr mb 0 0),(21,.slice p5 l.length c5),(22,.int .i64 l.length)]) (fun i=>XM W (bS [.cells kb 0 577 (bu pb v.by_ v.rf),.cells pb 0 71 (aq v.bb.bA),.cells mb 0 34 (bE kb p (runs m.aI).length c m.fr m.own),bj p c 171 3 (runs m.aI).length (dD (runs m.aI))]) [.cells kb 0 577 (bu pb (kY v m.fr (l.take i.toNat)).2.by_ (kY v m.fr (l.take i.toNat)).2.rf),.cells pb 0 71 (aq (kY v m.fr (l.take i.toNat)).2.bb.bA),.cells mb 0 34 (bE kb p4 ((runs m.aI).flatMap (gn a n)).length c4 (iv m.fr (l.take i.toNat)) (di m.own (l.take i.toNat))),bj p4 c4 171 3 ((runs m.aI).flatMap (gn a n)).length (dD ((runs m.aI).flatMap (gn a n))),bk p5 c5 3 l]) (0) ?_ (S5 rfl rfl rfl rfl rfl) (fun _ hw=>by show XM _ _ [_,_,.cells mb 0 34 (bE kb p4 _ c4 (iv m.fr []) (di m.own [])),_,_] _;rw[DH,Fp];exact XM.pick (.cons (.t3 .here) (.cons (.t3 .here) .h3)) hw) ?_
  ·
   omega
  intro i hi
  refine gC ?_
  refine cd rfl ?_ ?_<;>intro h2
  ·
   refine XR.db (.t4 .here) (by omega) ?_
   intro g1 h3
   subst h3
   refine sd (by omega) ?_
   refine Fq (.t4 .here) (ints_at (by omega)) ?_
   have hmm:=ja (l:=l) (i:=i) (by omega)
   have ha:=hls _ hmm
   have hnew:=Iu hst (i:=i) (by omega)
   have e0:iv m.fr (l.take i.toNat) (ep l i)=m.fr (ep l i):=by unfold iv;rw[if_neg hnew]
   have hit:=JM (l:=l) (i:=i) (by omega)
   have hu:=FB hv hm hin _ (l.take i.toNat) rfl (yJ hst _)
   have hTl:(l.take i.toNat).length≤16:=by rw[List.length_take];omega
   have hlo:=hm.lo (ep l i)
   refine sd (by omega) ?_
   refine ld (.t2 .here) (bE.fi _ _ _ _ _ _ _ (by omega)) ?_
   refine cd rfl ?_ ?_<;>intro h4
   ·
    have hpos:0<m.fr (ep l i):=by omega
    have hrf:1≤(kY v m.fr (l.take i.toNat)).2.rf (iv m.fr (l.take i.toNat) (ep l i)-1):=by
     rw[e0,hu.2.2 (m.fr (ep l i)-1) (fun j hj q=>hnew ((hm.inj _ j hpos (by omega))▸hj))];exact hin _ hpos
    refine rq [0,1,2,3,4,5,6,7,8,9,10,11] mixed (by kernel_rfl) ?_
    refine ld (.t2 .here) (bE.Gi _ _ _ _ _ _) ?_
    refine sd (by omega) ?_
    refine ld (.t2 .here) (bE.fi _ _ _ _ _ _ _ (by omega)) ?_
    refine ca (Hm _ _ _ hu.1 (iv m.fr (l.take i.toNat) (ep l i)-1) (by omega) hrf) .h2 ?_
    rintro _ _ ⟨rfl,rfl⟩
    refine gO ?_
    refine XO.v (V.build (vs:= #[(0,.int .i64 (-1))]) rfl (v:=.agg #[.int .i64 (-1),.bool false]) (fun _=>by kernel_rfl)) rfl (gO ?_)
    refine sd (by omega) ?_
    refine jA (.t2 .here) (r8 _ _ _ _ _ _ _ _ _ (by omega)) rfl ⟨rfl,rfl⟩ ?_
    refine sd (by omega) ?_
    refine sd (by omega) ?_
    have hS:(kY v m.fr (l.take (i+1).toNat))=((kY v m.fr (l.take i.toNat)).1+1,(kY v m.fr (l.take i.toNat)).2.drop (iv m.fr (l.take i.toNat) (ep l i)-1)):=by rw[hit,rY];unfold JV;rw[if_pos hpos,e0]
    have hC:iv m.fr (l.take (i+1).toNat)=aa (iv m.fr (l.take i.toNat)) (ep l i) (-1+1):=by rw[hit,CI]
    have hF:di m.own (l.take (i+1).toNat)=aa (di m.own (l.take i.toNat)) (ep l i) false:=by rw[hit,Cj]
    refine ag (i+1) ?_ ?_ (S5 rfl (by show lk _ _=some (.int .i64 (kY v m.fr (l.take (i+1).toNat)).1);rw[hS];rfl) rfl rfl rfl) (fun _ hw=>by show XM _ _ [.cells kb 0 577 (bu pb (kY v m.fr (l.take (i+1).toNat)).2.by_ (kY v m.fr (l.take (i+1).toNat)).2.rf),.cells pb 0 71 (aq (kY v m.fr (l.take (i+1).toNat)).2.bb.bA),.cells mb 0 34 (bE kb p4 ((runs m.aI).flatMap (gn a n)).length c4 (iv m.fr (l.take (i+1).toNat)) (di m.own (l.take (i+1).toNat))),bj p4 c4 171 3 ((runs m.aI).flatMap (gn a n)).length (dD ((runs m.aI).flatMap (gn a n))),_] _;rw[hS,hC,hF];exact XM.pick .h5 hw)
    ·
     (first | omega | (simp;done) | (simp;omega))
    ·
     (first | omega | (simp;done) | (simp;omega))
   ·
    refine sd (by omega) ?_
    have h0:m.fr (ep l i)=0:=by omega
    have hS:(kY v m.fr (l.take (i+1).toNat))=(kY v m.fr (l.take i.toNat)):=by rw[hit,rY];unfold JV;rw[if_neg (by omega)]
    have hC:iv m.fr (l.take (i+1).toNat)=iv m.fr (l.take i.toNat):=by rw[hit,Dc h0]
    have hF:di m.own (l.take (i+1).toNat)=di m.own (l.take i.toNat):=by rw[hit,BP (hm.ow _ h0)]
    refine ag (i+1) ?_ ?_ (S5 rfl (by show lk _ _=some (.int .i64 (kY v m.fr (l.take (i+1).toNat)).1);rw[hS];rfl) rfl rfl rfl) (fun _ hw=>by show XM _ _ [.cells kb 0 577 (bu pb (kY v m.fr (l.take (i+1).toNat)).2.by_ (kY v m.fr (l.take (i+1).toNat)).2.rf),.cells pb 0 71 (aq (kY v m.fr (l.take (i+1).toNat)).2.bb.bA),.cells mb 0 34 (bE kb p4 ((runs m.aI).flatMap (gn a n)).length c4 (iv m.fr (l.take (i+1).toNat)) (di m.own (l.take (i+1).toNat))),bj p4 c4 171 3 ((runs m.aI).flatMap (gn a n)).length (dD ((runs m.aI).flatMap (gn a n))),_] _;rw[hS,hC,hF];exact XM.pick .h5 hw)
    ·
     (first | omega | (simp;done) | (simp;omega))
    ·
     (first | omega | (simp;done) | (simp;omega))
  ·
   have e:(l.take i.toNat)=l:=List.take_of_length_le (by omega)
   rw[e]
   have eu:=MS.ET v hm hb
   rw[hq]at eu
   refine ca (Kz _ _ _ _ _ _ _ _ (hm.f.dy hb (.inl rfl)) (Cz (mi hm.f) hn) (y5 (mi hm.f) (rA hm.f) hn) (by first | omega | (simp only[List.length_append,List.length_singleton];omega))) (.cons (.t2 .here) (.cons (.t2 .here) .nil)) ?_
   rintro _ _ ⟨rfl,p2,c2,rfl⟩
   refine gO ?_
   refine XE.bC rfl rfl rfl (ab (.cons (.t2 .here) (.cons (.t2 .here) .h2)) rfl ?_)
   exact⟨by rw[eu];rfl,p2,c2,by rw[eu]⟩
end Go.X.Vm

namespace Go.X.Kn
open Go Go.Proofs Go.X
set_option maxRecDepth 20000
set_option maxHeartbeats 4000000
theorem iX:fT Tryz.prog 3=true:=by kernel_rfl
theorem js:dx Tryz.prog 3=some 1:=by kernel_rfl
theorem lU(kb:Nat)(k:KP)(n:Int)(hn:0≤n∧n<20):Spec Tryz.prog 58 [ptr kb 0 (ey n)] [.cells kb 0 453 (ah k)] (fun v H1=>∃ c,v=ptr c 0 0∧H1=[.cells c 0 11 (Sg.b7 (k.u n).bx.child),.cells kb 0 453 (ah k)]):=by
 refine Spec.go 8 [0,2,3] [] Tryz.func58 rfl rfl rfl ?_
 intro W
 refine nc .here (ah.MF _ (by omega)) ?_
 refine XO.cY (z:=.agg #[.int .u16 0,.int .u16 0,.int .i64 0,.int .i64 0,.int .i64 0,.int .i64 0,.int .i64 0,.int .i64 0,.int .i64 0,.int .i64 0,.int .i64 0]) (m:=11) (C:=Sg.b7 Sg.BS.init) (by kernel_rfl) rfl Sg.BX rfl ?_
 intro c
 refine gO ?_
 refine jA .here (Sg.EO Sg.xX _) rfl ⟨rfl,rfl⟩ ?_
 refine st .here (Sg.l9 _ (w':=fun _=>false) rfl) rfl ?_
 refine XE.aV rfl rfl (ab .h2 rfl ?_)
 try dsimp only[SW.den,SV.den,aj,aZ]
 exact⟨c,rfl,rfl⟩
end Go.X.Kn

namespace Go.X.Kn
open Go Go.Proofs Go.X
set_option maxRecDepth 20000
set_option maxHeartbeats 4000000
end Go.X.Kn

namespace Go.X.Kn
open Go Go.Proofs Go.X
set_option maxRecDepth 20000
set_option maxHeartbeats 4000000
theorem Ah:jW Tryz.prog 39=true:=by kernel_rfl
theorem p9:dx Tryz.prog 39=some 2:=by kernel_rfl
end Go.X.Kn

namespace Go.X.Kn
open Go Go.Proofs Go.X
set_option maxRecDepth 20000
set_option maxHeartbeats 4000000
theorem Js:jW Tryz.prog 83=true:=by kernel_rfl
theorem tm:jW Tryz.prog 87=true:=by kernel_rfl
theorem Am:cX Tryz.prog 57=true:=by kernel_rfl
theorem tA:cX Tryz.prog 58=true:=by kernel_rfl
theorem AN:cR Tryz.prog 89 2=some 2:=by kernel_rfl
theorem Ai:cR Tryz.prog 89 4=some 4:=by kernel_rfl
theorem AU:cR Tryz.prog 89 5=some 5:=by kernel_rfl
theorem Bx:cR Tryz.prog 89 6=some 11:=by kernel_rfl
theorem JN:fT Tryz.prog 82=true:=by kernel_rfl
theorem Ak:dx Tryz.prog 83=some 6:=by kernel_rfl
theorem jG:dx Tryz.prog 87=some 11:=by kernel_rfl
theorem jI:dx Tryz.prog 89=some 22:=by kernel_rfl
theorem iF(n g:Int)(nb:Nat)(f:Int→Int)(b:Sg.BS):∀ w,(Instr.build 89 #[(0,.int .i64 1),(1,.int .i64 n),(2,.int .i64 g),(4,ptr nb 0 0),(5,.agg (Dz f)),(6,.agg (Is b))]).run Tryz.prog w= .ok (.agg (PU.arr ⟨1,n,g,0,ptr nb 0 0,f,b⟩)) w:=fun w=>by kernel_rfl
end Go.X.Kn

namespace Go.X.Tr
open Go Go.X
structure aD.U where
 kind:Int
 n:Int
 at_:Int
 write:Bool
 refs:Int
def aD.un(s:OS)(z:Int):aD.U:=⟨s.kind z,s.n z,s.at_ z,s.write z,s.refs z⟩
def aD.cell(u:aD.U)(j:Nat):Value:=
 if j=0 then .int .i64 u.kind else
 if j=1 then .int .i64 u.n else
 if j=2 then .int .i64 u.at_ else
 if j=3 then .bool u.write else
 if j=4 then .int .i64 u.refs else
 undef
def aD(p0 p1:Nat)(s:OS)(i:Nat):Value:=
 if i=0 then ptr p0 0 0 else
 if i=1 then ptr p1 0 0 else
 if i<122 then aD.cell (aD.un s (((i-2)/5:Nat):Int)) ((i-2)%5)else
 undef
theorem aD.MA{p0 p1:Nat}(s:OS):0+0<122∧aD p0 p1 s (0+0)=ptr p0 0 0:=⟨by omega,by unfold aD;rw[if_pos (by omega)]⟩
theorem aD.Gv{p0 p1:Nat}(s:OS):0+1<122∧aD p0 p1 s (0+1)=ptr p1 0 0:=⟨by omega,by unfold aD;rw[if_neg (by omega),if_pos (by omega)]⟩
theorem aD.at_{p0 p1:Nat}(s:OS)(z:Int)(h:0≤z∧z<24)(j:Nat)(hj:j<5):aD p0 p1 s (0+2+z.toNat*5+j)=aD.cell (aD.un s z) j:=by
 unfold aD
 rw[if_neg (by omega),if_neg (by omega),if_pos (by omega),show(((0+2+z.toNat*5+j-2)/5:Nat):Int)=z from by omega,show(0+2+z.toNat*5+j-2)%5=j from by omega]
theorem aD.set{p0 p1:Nat}(s s':OS)(z:Int)(h:0≤z∧z<24)(k:Nat)(hk:k<5)(v:Value)(hv:∀ j,aD.cell (aD.un s' z) j=if j=k then v else aD.cell (aD.un s z) j)(ho:∀ y,¬y=z→aD.un s' y=aD.un s y):0+2+z.toNat*5+k<122∧cH (aD p0 p1 s) (0+2+z.toNat*5+k) v=aD p0 p1 s':=by
 refine⟨by omega,?_⟩
 funext i
 unfold cH
 by_cases hi:i=0+2+z.toNat*5+k
 ·rw[if_pos hi,hi,aD.at_ s' z h k hk,hv,if_pos rfl]
 ·rw[if_neg hi]
  unfold aD
  by_cases q0:i=0
  ·rw[if_pos q0,if_pos q0]
  rw[if_neg q0,if_neg q0]
  by_cases q1:i=1
  ·rw[if_pos q1,if_pos q1]
  rw[if_neg q1,if_neg q1]
  by_cases c1:i<122
  ·rw[if_pos c1,if_pos c1]
   by_cases cz:(((i-2)/5:Nat):Int)=z
   ·rw[cz,hv,if_neg (by omega)]
   ·rw[ho _ cz]
  ·rw[if_neg c1,if_neg c1]
theorem aD.E9{p0 p1:Nat}(s s':OS)(z:Int)(h:0≤z∧z<24)(vs:List Value)(hl:vs.length=5)(hv:∀ j,j<5→vs[j]? =some (aD.cell (aD.un s' z) j))(ho:∀ y,¬y=z→aD.un s' y=aD.un s y):0+2+z.toNat*5+5≤122∧bQ (aD p0 p1 s) (0+2+z.toNat*5) vs=aD p0 p1 s':=by
 refine⟨by omega,?_⟩
 funext i
 by_cases a1:i<0+2+z.toNat*5
 ·rw[ej _ _ _ _ a1]
  unfold aD
  by_cases q0:i=0
  ·rw[if_pos q0,if_pos q0]
  rw[if_neg q0,if_neg q0]
  by_cases q1:i=1
  ·rw[if_pos q1,if_pos q1]
  rw[if_neg q1,if_neg q1]
  rw[if_pos (by omega),if_pos (by omega),ho _ (by omega)]
 ·by_cases a2:i<0+2+z.toNat*5+5
  ·obtain⟨j,rfl⟩:∃ j,i=0+2+z.toNat*5+j:=⟨i-(0+2+z.toNat*5),by omega⟩
   rw[aD.at_ s' z h j (by omega)]
   exact dg vs _ _ _ _ (hv j (by omega))
  ·rw[eJ _ _ _ _ (by omega)]
   unfold aD
   have q0:¬i=0:=by omega
   rw[if_neg q0,if_neg q0]
   have q1:¬i=1:=by omega
   rw[if_neg q1,if_neg q1]
   by_cases c1:i<122
   ·rw[if_pos c1,if_pos c1,ho _ (by omega)]
   ·rw[if_neg c1,if_neg c1]
theorem aD.tg{p0 p1:Nat}(s:OS)(z:Int)(h:0≤z∧z<24):0+2+z.toNat*5+0<122∧aD p0 p1 s (0+2+z.toNat*5+0)= .int .i64 (s.kind z):=⟨by omega,aD.at_ s z h 0 (by omega)⟩
theorem aD.Ej{p0 p1:Nat}(s:OS)(z:Int)(h:0≤z∧z<24):0+2+z.toNat*5+1<122∧aD p0 p1 s (0+2+z.toNat*5+1)= .int .i64 (s.n z):=⟨by omega,aD.at_ s z h 1 (by omega)⟩
theorem aD.AV{p0 p1:Nat}(s:OS)(z:Int)(h:0≤z∧z<24):0+2+z.toNat*5+2<122∧aD p0 p1 s (0+2+z.toNat*5+2)= .int .i64 (s.at_ z):=⟨by omega,aD.at_ s z h 2 (by omega)⟩
theorem aD.HL{p0 p1:Nat}(s:OS)(z:Int)(h:0≤z∧z<24)(v:Int):0+2+z.toNat*5+2<122∧cH (aD p0 p1 s) (0+2+z.toNat*5+2) (.int .i64 v)=aD p0 p1 {s with at_:=aa s.at_ z v} :=aD.set s {s with at_:=aa s.at_ z v} z h 2 (by omega) _ (fun j=>by
 have e:aD.un {s with at_:=aa s.at_ z v} z= {aD.un s z with at_:=v} :=by unfold aD.un;simp only[ae]
 rw[e]
 by_cases hj:j=2
 ·subst hj;rfl
 ·unfold aD.cell;simp only[if_neg hj]) (fun y hy=>by unfold aD.un;simp only[ad _ _ hy])
theorem aD.yN{p0 p1:Nat}(s:OS)(z:Int)(h:0≤z∧z<24):0+2+z.toNat*5+3<122∧aD p0 p1 s (0+2+z.toNat*5+3)= .bool (s.write z):=⟨by omega,aD.at_ s z h 3 (by omega)⟩
theorem aD.jE{p0 p1:Nat}(s:OS)(z:Int)(h:0≤z∧z<24):0+2+z.toNat*5+4<122∧aD p0 p1 s (0+2+z.toNat*5+4)= .int .i64 (s.refs z):=⟨by omega,aD.at_ s z h 4 (by omega)⟩
theorem aD.tU{p0 p1:Nat}(s:OS)(z:Int)(h:0≤z∧z<24)(v:Int):0+2+z.toNat*5+4<122∧cH (aD p0 p1 s) (0+2+z.toNat*5+4) (.int .i64 v)=aD p0 p1 {s with refs:=aa s.refs z v} :=aD.set s {s with refs:=aa s.refs z v} z h 4 (by omega) _ (fun j=>by
 have e:aD.un {s with refs:=aa s.refs z v} z= {aD.un s z with refs:=v} :=by unfold aD.un;simp only[ae]
 rw[e]
 by_cases hj:j=4
 ·subst hj;rfl
 ·unfold aD.cell;simp only[if_neg hj]) (fun y hy=>by unfold aD.un;simp only[ad _ _ hy])
def aD.arr(u:aD.U):Array Value:= #[.int .i64 u.kind,.int .i64 u.n,.int .i64 u.at_,.bool u.write,.int .i64 u.refs]
theorem aD.yM{p0 p1:Nat}(s:OS)(z:Int)(h:0≤z∧z<24):0+2+z.toNat*5+5≤122∧cq (aD p0 p1 s) (0+2+z.toNat*5) 5= .agg (aD.arr (aD.un s z)):=by
 refine⟨by omega,?_⟩
 have q:=fun j hj=>aD.at_ (p0:=p0) (p1:=p1) s z h j hj
 simp only[cq,List.range,List.range.loop,List.map_cons,List.map_nil]
 rw[q 0 (by omega),q 1 (by omega),q 2 (by omega),q 3 (by omega),q 4 (by omega)]
 rfl
theorem aD.box(u:aD.U):∀ i,i<5→cellsOf (aD.arr u) i=aD.cell u i:=fun i h=>match i,h with
 | 0,_=>rfl
 | 1,_=>rfl
 | 2,_=>rfl
 | 3,_=>rfl
 | 4,_=>rfl
 | j+5,h=>absurd h (by omega)
theorem aD.Ox(u0 u:aD.U):0+5≤5∧bQ (aD.cell u0) 0 (aD.arr u).toList=aD.cell u:=by
 refine⟨by omega,?_⟩
 funext i
 match i with
 | 0=>rfl
 | 1=>rfl
 | 2=>rfl
 | 3=>rfl
 | 4=>rfl
 | k+5=>
  have e1:∀ u:aD.U,aD.cell u (k+5)=undef:=fun u=>by unfold aD.cell;iterate 5 rw[if_neg (by omega)]
  have e2:bQ (aD.cell u0) 0 (aD.arr u).toList (k+5)=aD.cell u0 (k+5):=by simp[bQ,cH,aD.arr]
  rw[e2,e1,e1]
theorem aD.Oa(u:aD.U):0+0<5∧aD.cell u (0+0)= .int .i64 u.kind:=⟨by omega,rfl⟩
theorem aD.Of(u:aD.U):0+1<5∧aD.cell u (0+1)= .int .i64 u.n:=⟨by omega,rfl⟩
theorem aD.put{p0 p1:Nat}(s:OS)(z k n:Int)(w:Bool)(r:Int)(h:0≤z∧z<24):0+2+z.toNat*5+5≤122∧bQ (aD p0 p1 s) (0+2+z.toNat*5) (aD.arr ⟨k,n,0,w,r⟩).toList=aD p0 p1 ⟨aa s.kind z k,aa s.n z n,aa s.at_ z 0,aa s.refs z r,aa s.write z w⟩:=
 aD.E9 s ⟨aa s.kind z k,aa s.n z n,aa s.at_ z 0,aa s.refs z r,aa s.write z w⟩ z h _ rfl (fun j hj=>by
  have e:aD.un ⟨aa s.kind z k,aa s.n z n,aa s.at_ z 0,aa s.refs z r,aa s.write z w⟩ z=⟨k,n,0,w,r⟩:=by unfold aD.un;simp only[ae]
  rw[e]
  match j,hj with
  | 0,_=>rfl
  | 1,_=>rfl
  | 2,_=>rfl
  | 3,_=>rfl
  | 4,_=>rfl
  | j+5,h=>exact absurd h (by omega)) (fun y hy=>by unfold aD.un;simp only[ad _ _ hy])
end Go.X.Tr


namespace Go.Proofs
open Go.Shelf
def sC:Go.Shelf.Ren:=⟨fun | 26=>249 | 33=>266 | 34=>267 | 38=>280 | n=>n,fun | 24=>207 | 9=>9 | 3=>3 | 4=>4 | 40=>258 | 0=>0 | n=>n,fun | n=>n⟩
theorem y9:Go.Proofs.Lays2.n26 Tryz.prog sC:= {
 mixed:=by kernel_rfl
 f26:=Tryz.func249.trans (congrArg some (by kernel_rfl))
 f33:=Tryz.func266.trans (congrArg some (by kernel_rfl))
 f34:=Tryz.func267.trans (congrArg some (by kernel_rfl))
 f38:=Tryz.func280.trans (congrArg some (by kernel_rfl))
 t0:=Tryz.underlying0
 a0:=Tryz.isAgg0
 z0:=Tryz.sizeOf0
 v0:=Tryz.zeroValue0
 t3:=Tryz.underlying3
 a3:=Tryz.isAgg3
 z3:=Tryz.sizeOf3
 v3:=Tryz.zeroValue3
 t4:=Tryz.underlying4
 a4:=Tryz.isAgg4
 z4:=Tryz.sizeOf4
 v4:=Tryz.zeroValue4
 t9:=Tryz.underlying9
 a9:=Tryz.isAgg9
 z9:=Tryz.sizeOf9
 v9:=Tryz.zeroValue9
 t24:=Tryz.underlying207
 a24:=Tryz.isAgg207
 z24:=Tryz.sizeOf207
 v24:=Tryz.zeroValue207
 t40:=Tryz.underlying258
 a40:=Tryz.isAgg258
 z40:=Tryz.sizeOf258
 v40:=Tryz.zeroValue258}
end Go.Proofs

namespace Go.X.Tr
open Go Go.Proofs Go.X
set_option maxRecDepth 20000
set_option maxHeartbeats 4000000
theorem Fs(p:Option Addr)(cap:Nat)(l:List ByteArray)(x:ByteArray)(hl:l.length≤1000000):Spec Tryz.prog 249 [.slice p l.length cap,.string x] [uO p cap 9 l] (fun v H1=>v= .tuple #[.int .i64 (Mk l x),.bool (wY l x)]∧H1=[uO p cap 9 l]):=yZ Go.Proofs.y9 p cap 9 l x hl
theorem pX(b o:Nat)(s:FC)(n:Int):Spec Tryz.prog 185 [ptr b o 0,.int .i64 n] [.cells b o 321 (av s)] (fun v H1=>v=bM 102 (s.cI n 0)∧H1=[.cells b o 321 (av s)]):=by
 refine Spec.go 21 [0,1,4,10,19] [] Tryz.func185 rfl rfl rfl ?_
 intro W
 refine sp 7 rfl ?_ ?_<;>intro h1
 ·
  refine XE.aV rfl rfl (ab .h1 rfl ?_)
  try dsimp only[SW.den,SV.den,aj,aZ]
  have e:s.cI n 0=1:=by unfold FF.cI;rw[if_pos (by omega)]
  exact⟨by rw[e]<;>rfl,rfl⟩
 ·
  refine cd rfl ?_ ?_<;>intro h2
  ·
   refine XE.aV rfl rfl (ab .h1 rfl ?_)
   try dsimp only[SW.den,SV.den,aj,aZ]
   have e:s.cI n 0=1:=by unfold FF.cI;rw[if_pos (by omega)]
   exact⟨by rw[e]<;>rfl,rfl⟩
  ·
   refine sd (by omega) ?_
   refine ld .here (av.mf _ _ (by omega)) ?_
   refine cd rfl ?_ ?_<;>intro h3
   ·
    refine XE.aV rfl rfl (ab .h1 rfl ?_)
    try dsimp only[SW.den,SV.den,aj,aZ]
    have e:s.cI n 0=2:=by unfold FF.cI;rw[if_neg (by omega),if_pos (by omega)]
    exact⟨by rw[e]<;>rfl,rfl⟩
   ·
    refine XE.aV rfl rfl (ab .h1 rfl ?_)
    try dsimp only[SW.den,SV.den,aj,aZ]
    have e:s.cI n 0=0:=by unfold FF.cI;rw[if_neg (by omega),if_neg (by omega),if_neg (by omega)]
    exact⟨by rw[e]<;>rfl,rfl⟩
theorem MB(b o:Nat)(s:FC)(n:Int):Spec Tryz.prog 237 [ptr b o 0,.int .i64 n] [.cells b o 321 (av s)] (fun v H1=>v=bM 102 (s.cI n 2)∧H1=[.cells b o 321 (av s)]):=by
 refine Spec.go 23 [0,1,4,5,20] [] Tryz.func237 rfl rfl rfl ?_
 intro W
 refine ca (pX _ _ _ _) .h1 ?_
 rintro _ _ ⟨rfl,rfl⟩
 refine gO ?_
 refine sp 11 rfl ?_ ?_<;>intro h1
 ·
  obtain⟨i1,i2,i3⟩:=FF.pN (show s.cI n 0=0 by assumption)
  refine sd (by omega) ?_
  refine ld .here (av.mf _ _ (by omega)) ?_
  refine cd rfl ?_ ?_<;>intro h2
  ·
   refine XE.aV rfl rfl (ab .h1 rfl ?_)
   try dsimp only[SW.den,SV.den,aj,aZ]
   have e:s.cI n 2=11:=by unfold FF.cI;rw[if_neg (by omega),if_neg (by omega),if_pos (by omega)]
   exact⟨by rw[e]<;>rfl,rfl⟩
  ·
   refine XE.aV rfl rfl (ab .h1 rfl ?_)
   try dsimp only[SW.den,SV.den,aj,aZ]
   have e:s.cI n 2=0:=by unfold FF.cI;rw[if_neg (by omega),if_neg (by omega),if_neg (by omega)]
   exact⟨by rw[e,show s.cI n 0=0 by assumption],rfl⟩
 ·
  have i0:s.cI n 0≠0:=by assumption
  refine XE.aV rfl rfl (ab .h1 rfl ?_)
  try dsimp only[SW.den,SV.den,aj,aZ]
  exact⟨by rw[FF.Jq i0],rfl⟩
theorem Kj(b o:Nat)(s:FC)(n:Int):Spec Tryz.prog 194 [ptr b o 0,.int .i64 n] [.cells b o 321 (av s)] (fun v H1=>v=bM 102 (s.cI n 1)∧H1=[.cells b o 321 (av s)]):=by
 refine Spec.go 23 [0,1,4,5,20] [] Tryz.func194 rfl rfl rfl ?_
 intro W
 refine ca (pX _ _ _ _) .h1 ?_
 rintro _ _ ⟨rfl,rfl⟩
 refine gO ?_
 refine sp 11 rfl ?_ ?_<;>intro h1
 ·
  obtain⟨i1,i2,i3⟩:=FF.pN (show s.cI n 0=0 by assumption)
  refine sd (by omega) ?_
  refine ld .here (av.mf _ _ (by omega)) ?_
  refine cd rfl ?_ ?_<;>intro h2
  ·
   refine XE.aV rfl rfl (ab .h1 rfl ?_)
   try dsimp only[SW.den,SV.den,aj,aZ]
   have e:s.cI n 1=11:=by unfold FF.cI;rw[if_neg (by omega),if_neg (by omega),if_pos (by omega)]
   exact⟨by rw[e]<;>rfl,rfl⟩
  ·
   refine XE.aV rfl rfl (ab .h1 rfl ?_)
   try dsimp only[SW.den,SV.den,aj,aZ]
   have e:s.cI n 1=0:=by unfold FF.cI;rw[if_neg (by omega),if_neg (by omega),if_neg (by omega)]
   exact⟨by rw[e,show s.cI n 0=0 by assumption],rfl⟩
 ·
  have i0:s.cI n 0≠0:=by assumption
  refine XE.aV rfl rfl (ab .h1 rfl ?_)
  try dsimp only[SW.den,SV.den,aj,aZ]
  exact⟨by rw[FF.Jq i0],rfl⟩
theorem Ft(b o:Nat)(s:FC)(hI:s.toFF.Sh)(n:Int)(x:ByteArray):Spec Tryz.prog 235 [ptr b o 0,.int .i64 n,.string x] [.cells b o 321 (av s),.fam ai (s.aJ 9),.fam ai (s.aK 3)] (fun v H1=>v= .tuple #[.int .i64 (s.dV n x),bM 102 (s.gY n x)]∧H1=[.cells b o 321 (av s),.fam ai (FC.aJ 9 s),.fam ai (FC.aK 3 s)]):=by
 refine Spec.go 42 [0,1,2,6,7,8,9,10,15,30] [] Tryz.func235 rfl rfl rfl ?_
 intro W
 refine ca (MB _ _ _ _) .h1 ?_
 rintro _ _ ⟨rfl,rfl⟩
 refine gO ?_
 refine cd rfl ?_ ?_<;>intro h1
 ·
  have i0:s.cI n 2≠0:=by assumption
  refine XE.bC rfl rfl rfl (ab .h3 rfl ?_)
  try dsimp only[SW.den,SV.den,aj,aZ]
  have e:s.gY n x=s.cI n 2:=by unfold FF.gY;rw[if_pos i0]
  exact⟨by rw[show s.dV n x=0 from by unfold FF.dV;rw[if_neg (by omega)],e]<;>rfl,rfl⟩
 ·
  obtain⟨i1,i2,i3,i4⟩:=FF.ou (show s.cI n 2=0 by simpa using h1)
  have i0:s.cI n 2=0:=by simpa using h1
  obtain⟨hr,hk,h8,_⟩:=hI.rise n i1 i2
  have hbs:=G5 hr x
  have hbh:=Em hr x
  have hpl:=kJ (s.names n) x
  refine sd (by omega) ?_
  refine ld .here (av.zB _ _ (by omega)) ?_
  refine XR.mono (fun _ hw3=>XM.JK (s:=s) (z:=n) (by omega) (.cons (.there .here) .nil) hw3) ?_
  refine ca (Fs _ _ _ _ (by omega)) .h1 ?_
  rintro _ _ ⟨rfl,rfl⟩
  refine gO ?_
  refine XR.mono (fun _ hw3=>XM.EY (s:=s) s (z:=n) (by omega) rfl (cn _ rfl).symm (cn _ rfl).symm (cn _ rfl).symm .h2 hw3) ?_
  refine Dy rfl ?_ ?_<;>intro h2
  ·try simp only[sb]at h2
   have hh:iJ (s.names n) x=false:=by rw[←hbh];simpa using h2
   refine XE.bC rfl rfl rfl (ab (.cons (.there .here) .h2) rfl ?_)
   try dsimp only[SW.den,SV.den,aj,aZ]
   have e:s.gY n x=2:=by unfold FF.gY;rw[if_neg (by omega),if_neg (by rw[hh];simp)]
   exact⟨by rw[show s.dV n x=0 from by unfold FF.dV;rw[if_neg (by omega)],e];rfl,rfl⟩
  ·try simp only[sb]at h2
   have hh:iJ (s.names n) x=true:=by rw[←hbh];simpa using h2
   obtain⟨hp1,hp2⟩:=gX.1 hh
   refine sd (by omega) ?_
   refine XR.mono (fun _ hw3=>XM.JA (s:=s) (z:=n) (by omega) (.cons (.t2 .here) .nil) hw3) ?_
   refine ld (.t3 .here) (av.BU _ _ (by omega)) ?_
   refine XR.db .here (by omega) ?_
   intro g hg
   rw[hg]
   refine sd (by omega) ?_
   refine Fq .here (ints_at (by omega)) ?_
   refine XR.mono (fun _ hw3=>XM.Ee (s:=s) s (z:=n) (by omega) rfl (cn _ rfl).symm (cn _ hg).symm (cn _ rfl).symm .h2 hw3) ?_
   refine XE.bC rfl rfl rfl (ab (.cons (.t2 .here) (.cons (.there .here) .h1)) rfl ?_)
   try dsimp only[SW.den,SV.den,aj,aZ]
   have e:s.gY n x=0:=by unfold FF.gY;rw[if_neg (by omega),if_pos hh]
   exact⟨by rw[show s.dV n x=ep (s.kids n) (cK (s.names n) x)from by unfold FF.dV;rw[if_pos e],e,hbs];rfl,rfl⟩
end Go.X.Tr

namespace Go.X.Tr
open Go Go.Proofs Go.X
set_option maxRecDepth 20000
set_option maxHeartbeats 4000000
theorem p8(b o:Nat)(s:FC)(k t l u:Int):Spec Tryz.prog 175 [ptr b o 0,.agg (ry k t l u)] [.cells b o 321 (av s),.fam ai (s.aJ 9),.fam ai (s.aK 3)] (fun v H1=>(s.free<0∧v= .tuple #[.int .i64 0,bM 102 4]∧H1=[.cells b o 321 (av s),.fam ai (FC.aJ 9 s),.fam ai (FC.aK 3 s)])∨(¬s.free<0∧v= .tuple #[.int .i64 s.free,bM 102 0]∧H1=[.cells b o 321 (av (s.o6 s.free k t l u)),.fam ai (FC.aJ 9 (s.o6 s.free k t l u)),.fam ai (FC.aK 3 (s.o6 s.free k t l u))])):=by
 refine Spec.go 27 [0,3,4,5,6,7,8,17] [] Tryz.func175 rfl rfl rfl ?_
 intro W
 refine XO.box (m:=8) (C:=av.cell (tx k t l u)) rfl rfl (wj k t l u) rfl ?_
 intro bx
 refine gO ?_
 refine lp (σ:=Int) (fun i=>(40-i).toNat) (fun i=>(0≤i∧i≤40)∧∀ j,0≤j→j<i→s.kind j≠0) (fun i=>[(7,.int .i64 i),(0,ptr b o 0),(3,ptr bx 0 0)]) (fun i=>XM W (bS [.cells b o 321 (av s),.fam ai (s.aJ 9),.fam ai (s.aK 3)]) [.cells b o 321 (av s),.fam ai (s.aJ 9),.fam ai (s.aK 3),.cells bx 0 8 (av.cell (tx k t l u))]) (0) ?_ (S3 rfl rfl rfl) (fun _ hw=>XM.pick (.cons (.there .here) (.cons (.there .here) (.cons (.there .here) .h1))) hw) ?_
 ·
  exact⟨by omega,fun j a b=>by omega⟩
 intro i hi
 obtain⟨hi,ho⟩:=hi
 refine gC ?_
 refine cd rfl ?_ ?_<;>intro h1
 ·
  refine sd (by omega) ?_
  refine ld .here (av.mf _ _ (by omega)) ?_
  refine cd rfl ?_ ?_<;>intro h2
  ·
   refine rq [0,1,2,3,4,5,6] mixed (by kernel_rfl) ?_
   refine nc (.t3 .here) (FQ k t l u) ?_
   refine sd (by omega) ?_
   refine jA .here (vP s i k t l u (by omega)) rfl ⟨rfl,rfl⟩ ?_
   refine XR.mono (fun _ hw3=>XM.Nk (s:=s) (s.o6 i k t l u) (by omega) rfl rfl rfl (.cons (.there .here) .nil) hw3) ?_
   refine XR.mono (fun _ hw3=>XM.MX (s:=s) (s.o6 i k t l u) (by omega) rfl rfl rfl (.cons (.t2 .here) .nil) hw3) ?_
   refine XE.bC rfl rfl rfl (ab (.cons (.t2 .here) (.cons (.there .here) .h1)) rfl ?_)
   try dsimp only[SW.den,SV.den,aj,aZ]
   have e:=FF.iZ hi.1 (by omega) ho (by assumption)
   exact .inr ⟨by omega,by rw[e]<;>rfl,by rw[e]⟩
  ·
   refine sd (by omega) ?_
   refine ag (i+1) ?_ ?_ (S3 rfl rfl rfl) (fun _ hw=>XM.pick .h4 hw)
   ·
    (first | omega | (simp;done) | (simp;omega))
   ·
    refine⟨by omega,fun j a b=> ?_⟩
    by_cases c:j=i
    ·subst c;assumption
    ·exact ho j a (by omega)
 ·
  refine XE.bC rfl rfl rfl (ab .h3 rfl ?_)
  try dsimp only[SW.den,SV.den,aj,aZ]
  have e:=FF.tQ (s:=s.toFF) (fun j a b=>ho j a (by omega))
  exact .inl ⟨by omega,rfl,rfl⟩
theorem Kc(b o:Nat)(s:FC)(n:Int)(hn:0≤n∧n<40):Spec Tryz.prog 195 [ptr b o 0,.int .i64 n] [.cells b o 321 (av s),.fam ai (s.aJ 9),.fam ai (s.aK 3)] (fun v H1=>v= .tuple #[]∧∃ t:FC,t.toFF=s.mD n∧t.rP=s.rP∧t.rC=s.rC∧H1=[.cells b o 321 (av t),.fam ai (FC.aJ 9 t),.fam ai (FC.aK 3 t)]):=by
 refine Spec.go 28 [0,1,21] [] Tryz.func195 rfl rfl rfl ?_
 intro W
 refine sd (by omega) ?_
 refine ld .here (av.zf _ _ (by omega)) ?_
 refine sp 12 rfl ?_ ?_<;>intro h1
 ·
  refine sd (by omega) ?_
  refine ld .here (av.lH _ _ (by omega)) ?_
  refine cd rfl ?_ ?_<;>intro h2
  ·
   refine XO.v (V.build (vs:= #[]) rfl (v:=.agg (ry 0 0 0 0)) (fun _=>by kernel_rfl)) rfl (gO ?_)
   refine sd (by omega) ?_
   refine jA .here (vP s n 0 0 0 0 (by omega)) rfl ⟨rfl,rfl⟩ ?_
   refine XR.mono (fun _ hw3=>XM.Nk (s:=s) (s.o6 n 0 0 0 0) (by omega) rfl rfl rfl (.cons (.there .here) .nil) hw3) ?_
   refine XR.mono (fun _ hw3=>XM.MX (s:=s) (s.o6 n 0 0 0 0) (by omega) rfl rfl rfl (.cons (.t2 .here) .nil) hw3) ?_
   refine XE.fD rfl (ab (.cons (.t2 .here) (.cons (.there .here) .h1)) rfl ?_)
   try dsimp only[SW.den,SV.den,aj,aZ]
   exact⟨rfl,s.o6 n 0 0 0 0,by unfold FF.mD;rw[if_pos ⟨by assumption,by assumption⟩];rfl,rfl,rfl,rfl⟩
  ·
   refine XE.fD rfl (ab .h3 rfl ?_)
   try dsimp only[SW.den,SV.den,aj,aZ]
   exact⟨rfl,s,by unfold FF.mD;rw[if_neg (by omega)],rfl,rfl,rfl⟩
 ·
  refine XE.fD rfl (ab .h3 rfl ?_)
  try dsimp only[SW.den,SV.den,aj,aZ]
  exact⟨rfl,s,by unfold FF.mD;rw[if_neg (by omega)],rfl,rfl,rfl⟩
theorem Lu(b o:Nat)(s:FC)(hI:s.toFF.Sh)(t:Int):Spec Tryz.prog 176 [ptr b o 0,.int .i64 t] [.cells b o 321 (av s),bk s.rP s.rC 3 s.roots] (fun v H1=>v= .tuple #[.int .i64 (s.eo t),bM 102 (s.iU t)]∧H1=[.cells b o 321 (av s),bk s.rP s.rC 3 s.roots]):=by
 have hr4:=hI.roots.1
 refine Spec.go 28 [0,1,4,5,11,19] [] Tryz.func176 rfl rfl rfl ?_
 intro W
 refine sp 8 rfl ?_ ?_<;>intro h1
 ·
  refine XE.bC rfl rfl rfl (ab .h2 rfl ?_)
  try dsimp only[SW.den,SV.den,aj,aZ]
  have e:s.iU t=1:=by unfold FF.iU;rw[if_pos (by omega)]
  exact⟨by rw[show s.eo t=0 from by unfold FF.eo;rw[if_neg (by omega)],e];rfl,rfl⟩
 ·
  refine cd rfl ?_ ?_<;>intro h2
  ·
   refine XE.bC rfl rfl rfl (ab .h2 rfl ?_)
   try dsimp only[SW.den,SV.den,aj,aZ]
   have e:s.iU t=1:=by unfold FF.iU;rw[if_pos (by omega)]
   exact⟨by rw[show s.eo t=0 from by unfold FF.eo;rw[if_neg (by omega)],e];rfl,rfl⟩
  ·
   refine ld .here (gz _) ?_
   refine cd rfl ?_ ?_<;>intro h3
   ·
    refine XE.bC rfl rfl rfl (ab .h2 rfl ?_)
    try dsimp only[SW.den,SV.den,aj,aZ]
    have e:s.iU t=2:=by unfold FF.iU;rw[if_neg (by omega),if_pos (by omega)]
    exact⟨by rw[show s.eo t=0 from by unfold FF.eo;rw[if_neg (by omega)],e];rfl,rfl⟩
   ·
    refine ld .here (gz _) ?_
    refine XR.db (.there .here) (by omega) ?_
    intro g hg
    rw[hg]
    refine sd (by omega) ?_
    refine Fq (.there .here) (ints_at (by omega)) ?_
    refine XE.bC rfl rfl rfl (ab .h2 rfl ?_)
    try dsimp only[SW.den,SV.den,aj,aZ]
    have e:s.iU t=0:=by unfold FF.iU;rw[if_neg (by omega),if_neg (by omega)]
    exact⟨by rw[show s.eo t=ep s.roots t from by unfold FF.eo;rw[if_pos e],e];rfl,rfl⟩
end Go.X.Tr

namespace Go.X.Tr
open Go Go.Proofs Go.X
set_option maxRecDepth 20000
set_option maxHeartbeats 4000000
theorem GW:jW Tryz.prog 211=true:=by kernel_rfl
theorem lq(z:Int):∀ w,(Instr.buildSlice 55 1 #[(0,.int .i64 z)]).run Tryz.prog w= .ok (.slice (some ⟨w.heap.size,0,none⟩) 1 1) (w.alloc (.cells #[.int .i64 z] 3)):=fun w=>by kernel_rfl
theorem jl:kV Tryz.prog 3 1=true:=by kernel_rfl
theorem wL:dx Tryz.prog 211=some 4:=by kernel_rfl
theorem G8:Spec Tryz.prog 99 [] [] (fun v H1=>∃ b,v=ptr b 0 0∧H1=[.cells b 0 321 (av FC.void),.fam ai (FC.aJ 9 FC.void),.fam ai (FC.aK 3 FC.void),bk (FC.rP FC.void) (FC.rC FC.void) 3 (FC.toFF FC.void).roots]):=by
 refine Spec.go 3 [0] [] Tryz.func99 rfl rfl rfl ?_
 intro W
 refine XO.v (V.build (vs:= #[]) rfl (v:=.agg wo) (fun _=>by kernel_rfl)) rfl (gO ?_)
 refine XO.box (m:=321) (C:=av FC.void) rfl zX De rfl ?_
 intro p
 refine XO.mono (fun _ hw3=>XM.Dd hw3) ?_
 refine gO ?_
 refine XE.aV rfl rfl (ab (.cons (.t3 .here) .h3) rfl ?_)
 try dsimp only[SW.den,SV.den,aj,aZ]
 exact⟨_,rfl,rfl⟩
theorem HO(b o:Nat)(s:FC)(hI:s.toFF.Sh):Spec Tryz.prog 101 [ptr b o 0] [.cells b o 321 (av s),.fam ai (s.aJ 9),.fam ai (s.aK 3),bk s.rP s.rC 3 s.roots] (fun v H1=>∃ t:FC,v= .tuple #[.int .i64 s.mR,bM 102 s.jv]∧t.toFF=s.pR∧H1=[.cells b o 321 (av t),.fam ai (FC.aJ 9 t),.fam ai (FC.aK 3 t),bk (FC.rP t) (FC.rC t) 3 (FC.toFF t).roots]):=by
 have hr4:=hI.roots.1
 refine Spec.go 50 [0,2,3,4,5,11,25] [] Tryz.func101 rfl rfl rfl ?_
 intro W
 refine ld .here (gz _) ?_
 refine cd rfl ?_ ?_<;>intro h1
 ·
  refine XE.bC rfl rfl rfl (ab .h4 rfl ?_)
  try dsimp only[SW.den,SV.den,aj,aZ]
  have e:s.jv=4:=by unfold FF.jv;rw[if_pos (by omega)]
  exact⟨s,by rw[show s.mR=0 from by unfold FF.mR;rw[if_neg (by omega)],e];rfl,by unfold FF.pR;rw[if_neg (by omega)],rfl⟩
 ·
  refine ld .here (gz _) ?_
  refine XO.v (V.build (vs:= #[(0,.int .i64 2),(1,.int .i64 (s.roots.length)),(2,.int .i64 1)]) rfl (v:=.agg (ry 2 s.roots.length 1 0)) (fun _=>by kernel_rfl)) rfl (gO ?_)
  refine ca (p8 _ _ _ _ _ _ _) .h3 ?_
  rintro _ _ (⟨h2,rfl,rfl⟩ | ⟨h2,rfl,rfl⟩)
  ·
   try dsimp only[aC,aS,aM,aR,aN,aP,aQ,aU,aO,aT,aG,aH,aB,aF]
   refine gO ?_
   refine XE.bC rfl rfl rfl (ab .h4 rfl ?_)
   try dsimp only[SW.den,SV.den,aj,aZ]
   have e:s.jv=4:=by unfold FF.jv;rw[if_neg (by omega),if_pos (by assumption)]
   exact⟨s,by rw[show s.mR=0 from by unfold FF.mR;rw[if_neg (by omega)],e]<;>rfl,by unfold FF.pR;rw[if_neg (by omega)],rfl⟩
  ·
   try dsimp only[aC,aS,aM,aR,aN,aP,aQ,aU,aO,aT,aG,aH,aB,aF]
   have f:=FF.AE (show ¬s.free<0 by assumption)
   refine gO ?_
   refine sd (by omega) ?_
   refine st .here (av.Ir _ _ (by omega) _) rfl ?_
   refine ld .here (gz _) ?_
   refine XO.buildSlice (A:= #[.int .i64 _]) (vs:= #[(0,.int .i64 _)]) rfl (lq _) rfl rfl ?_
   intro h3
   refine gO ?_
   refine XO.kr (e:=3) rfl rfl Tryz.underlying55 jl (.t4 .here) .here (by show s.roots.length+1≤_;omega) rfl ?_
   intro p1 c1
   refine gO ?_
   refine st (.t2 .here) (sU _ (s.roots++[s.free]) _ _ _ rfl) rfl ?_
   refine ld (.t2 .here) (gz _) ?_
   refine sd (by simp only[List.length_append,List.length_singleton];omega) ?_
   refine XE.bC rfl rfl rfl (ab (.cons (.t2 .here) (.cons (.t2 .here) (.cons (.t2 .here) .h1))) rfl ?_)
   try dsimp only[SW.den,SV.den,aj,aZ]
   have e:s.jv=0:=by unfold FF.jv;rw[if_neg (by omega),if_neg (by assumption)]
   refine⟨_,?_,?_,rfl⟩
   ·rw[show s.mR=s.roots.length from by unfold FF.mR;rw[if_pos e],e]
    simp only[List.length_append,List.length_singleton]
    rw[show((s.roots.length+1:Nat):Int)-1=s.roots.length by omega];rfl
   ·unfold FF.pR;rw[if_pos e,←FF.HM s.toFF s.free 2 _ 1 0 s.free];rfl
theorem LG(b o:Nat)(s:FC)(hI:s.toFF.Sh)(n:Int):Spec Tryz.prog 217 [ptr b o 0,.int .i64 n] [.cells b o 321 (av s)] (fun v H1=>v= .tuple #[.agg (s.Mq n).arr,bM 102 (s.cI n 0)]∧H1=[.cells b o 321 (av s)]):=by
 refine Spec.go 35 [0,1,4,5,6,7,12] [] Tryz.func217 rfl rfl rfl ?_
 intro W
 refine XO.cY (z:=.agg NV.zero.arr) (m:=4) (C:=ui NV.zero) (by kernel_rfl) rfl (CR _) rfl ?_
 intro bg
 refine gO ?_
 refine ca (pX _ _ _ _) (.cons (.there .here) .nil) ?_
 rintro _ _ ⟨rfl,rfl⟩
 refine gO ?_
 refine cd rfl ?_ ?_<;>intro h1
 ·
  have i0:s.cI n 0≠0:=by assumption
  refine XO.v (V.build (vs:= #[]) rfl (v:=.agg NV.zero.arr) (fun _=>by kernel_rfl)) rfl (gO ?_)
  refine jA (.there .here) (xq _ _) rfl ⟨rfl,rfl⟩ ?_
  refine XE.tq rfl (.agg rfl (.there .here) (ur _) GW wL) (.tmp rfl) (ab .h1 rfl ?_)
  try dsimp only[SW.den,SV.den,aj,aZ]
  exact⟨by rw[show s.Mq n=NV.zero from by unfold FF.Mq;rw[if_neg i0]],rfl⟩
 ·
  obtain⟨i1,i2,i3⟩:=FF.pN (show s.cI n 0=0 by simpa using h1)
  have i0:s.cI n 0=0:=by simpa using h1
  refine sd (by omega) ?_
  refine nc .here (Ce _ _ (by omega)) ?_
  refine XO.cY (z:=.agg (ry 0 0 0 0)) (m:=8) (C:=av.cell (tx 0 0 0 0)) (by kernel_rfl) rfl (wj 0 0 0 0) rfl ?_
  intro bx
  refine gO ?_
  refine jA .here (Gs _ _) rfl ⟨rfl,rfl⟩ ?_
  refine ld .here (Hj _) ?_
  refine ld .here (Hi _) ?_
  refine ld .here (Iy _) ?_
  refine ld .here (I2 _) ?_
  refine ld .here (I5 _) ?_
  refine XO.v (V.build (vs:= #[(0,.int .i64 (s.kind n)),(1,.int .i64 (s.links n)),(2,.int .i64 (s.held n)),(3,.int .i64 (max ((s.data n).size:Int) ((s.kids n).length:Int)))]) rfl (v:=.agg (NV.mk (s.kind n) (s.links n) (s.held n) (max ((s.data n).size:Int) ((s.kids n).length:Int))).arr) (fun _=>by kernel_rfl)) rfl (gO ?_)
  refine jA (.t2 .here) (xq _ _) rfl ⟨rfl,rfl⟩ ?_
  refine XE.tq rfl (.agg rfl (.t2 .here) (ur _) GW wL) (.tmp rfl) (ab (.cons (.there .here) .nil) rfl ?_)
  try dsimp only[SW.den,SV.den,aj,aZ]
  exact⟨by rw[show s.Mq n=_ from by unfold FF.Mq;rw[if_pos i0],i0];rfl,rfl⟩
end Go.X.Tr

namespace Go.X.Tr
open Go Go.Proofs Go.X
set_option maxRecDepth 20000
set_option maxHeartbeats 4000000
theorem vt(b o:Nat)(s:FC)(hI:s.toFF.Sh)(n:Int):Spec Tryz.prog 123 [ptr b o 0,.int .i64 n] [.cells b o 321 (av s),.fam ai (s.aJ 9),.fam ai (s.aK 3)] (fun v H1=>v=bM 102 (s.cI n 0)∧∃ t:FC,t.toFF=s.hold n∧t.rP=s.rP∧t.rC=s.rC∧H1=[.cells b o 321 (av t),.fam ai (FC.aJ 9 t),.fam ai (FC.aK 3 t)]):=by
 refine Spec.go 24 [0,1,4,5,10] [] Tryz.func123 rfl rfl rfl ?_
 intro W
 refine ca (pX _ _ _ _) .h1 ?_
 rintro _ _ ⟨rfl,rfl⟩
 refine gO ?_
 refine cd rfl ?_ ?_<;>intro h1
 ·
  obtain⟨i1,i2,i3⟩:=FF.pN (show s.cI n 0=0 by simpa using h1)
  have i0:s.cI n 0=0:=by simpa using h1
  have hnb:=hI.num n (by omega) (by omega)
  refine rq [0,1,2,3,4,5,6,7,8,9,10,11,12] mixed (by kernel_rfl) ?_
  refine sd (by omega) ?_
  refine ld .here (av.lH _ _ (by omega)) ?_
  refine sd (by omega) ?_
  refine sd (by omega) ?_
  refine st .here (av.tu _ _ (by omega) _) rfl ?_
  refine XE.aV rfl rfl (ab .h3 rfl ?_)
  try dsimp only[SW.den,SV.den,aj,aZ]
  exact⟨rfl,({s with held:=aa s.held n (s.held n+1)} :FC),by rw[ID rfl];unfold FF.hold;rw[if_pos i0],rfl,rfl,rfl⟩
 ·
  have i0:s.cI n 0≠0:=by assumption
  refine XE.aV rfl rfl (ab .h3 rfl ?_)
  try dsimp only[SW.den,SV.den,aj,aZ]
  exact⟨rfl,s,by unfold FF.hold;rw[if_neg i0],rfl,rfl,rfl⟩
theorem Bi(b o:Nat)(s:FC)(hI:s.toFF.Sh)(n:Int):Spec Tryz.prog 144 [ptr b o 0,.int .i64 n] [.cells b o 321 (av s),.fam ai (s.aJ 9),.fam ai (s.aK 3)] (fun v H1=>v=bM 102 (s.letE n)∧∃ t:FC,t.toFF=s.gW n∧t.rP=s.rP∧t.rC=s.rC∧H1=[.cells b o 321 (av t),.fam ai (FC.aJ 9 t),.fam ai (FC.aK 3 t)]):=by
 refine Spec.go 36 [0,1,4,5,10,19] [] Tryz.func144 rfl rfl rfl ?_
 intro W
 refine ca (pX _ _ _ _) .h1 ?_
 rintro _ _ ⟨rfl,rfl⟩
 refine gO ?_
 refine cd rfl ?_ ?_<;>intro h1
 ·
  have i0:s.cI n 0≠0:=by assumption
  refine XE.aV rfl rfl (ab .h3 rfl ?_)
  try dsimp only[SW.den,SV.den,aj,aZ]
  have e:s.letE n=s.cI n 0:=by unfold FF.letE;rw[if_pos (by omega)]
  exact⟨by rw[e],s,by unfold FF.gW;rw[if_neg (by omega)],rfl,rfl,rfl⟩
 ·
  obtain⟨i1,i2,i3⟩:=FF.pN (show s.cI n 0=0 by simpa using h1)
  have i0:s.cI n 0=0:=by simpa using h1
  have hnb:=hI.num n (by omega) (by omega)
  refine sd (by omega) ?_
  refine ld .here (av.lH _ _ (by omega)) ?_
  refine cd rfl ?_ ?_<;>intro h2
  ·
   refine XE.aV rfl rfl (ab .h3 rfl ?_)
   try dsimp only[SW.den,SV.den,aj,aZ]
   have e:s.letE n=8:=by unfold FF.letE;rw[if_neg (by omega),if_pos (by omega)]
   exact⟨by rw[e]<;>rfl,s,by unfold FF.gW;rw[if_neg (by omega)],rfl,rfl,rfl⟩
  ·
   refine rq [0,1,2,3,4,5,6,7,8,9,10,11,12] mixed (by kernel_rfl) ?_
   refine sd (by omega) ?_
   refine ld .here (av.lH _ _ (by omega)) ?_
   refine sd (by omega) ?_
   refine sd (by omega) ?_
   refine st .here (av.tu _ _ (by omega) _) rfl ?_
   refine ca (Kc _ _ ({s with held:=aa s.held n (s.held n-1)} :FC) n (by omega)) .h3 ?_
   rintro _ _ ⟨rfl,t,ht,hp,hc,rfl⟩
   refine gO ?_
   refine XE.aV rfl rfl (ab .h3 rfl ?_)
   try dsimp only[SW.den,SV.den,aj,aZ]
   have e:s.letE n=0:=by unfold FF.letE;rw[if_neg (by omega),if_neg (by omega)]
   exact⟨by rw[e]<;>rfl,t,by rw[ht];unfold FF.gW;rw[if_pos e],hp,hc,rfl⟩
end Go.X.Tr

namespace Go.X.Tr
open Go Go.Proofs Go.X
set_option maxRecDepth 20000
set_option maxHeartbeats 4000000
end Go.X.Tr

namespace Go.X.Tr
open Go Go.Proofs Go.X
set_option maxRecDepth 20000
set_option maxHeartbeats 4000000
theorem qz:sf Tryz.prog 231=true:=by kernel_rfl
theorem HE(b o:Nat)(s:FC)(hI:s.toFF.Sh)(n a:Int)(x:ByteArray)(hx:x.size≤9223372036854775807):Spec Tryz.prog 137 [ptr b o 0,.int .i64 n,.int .i64 a,.string x] [.cells b o 321 (av s),.fam ai (s.aJ 9),.fam ai (s.aK 3)] (fun v H1=>v=bM 102 (s.bR n a x)∧∃ t:FC,t.toFF=s.write n a x∧t.rP=s.rP∧t.rC=s.rC∧H1=[.cells b o 321 (av t),.fam ai (FC.aJ 9 t),.fam ai (FC.aK 3 t)]):=by
 refine Spec.go 68 [0,1,2,3,8,9,10,15,18,28,31] [] Tryz.func137 rfl rfl rfl ?_
 intro W
 refine ca (Kj _ _ _ _) .h1 ?_
 rintro _ _ ⟨rfl,rfl⟩
 refine gO ?_
 refine cd rfl ?_ ?_<;>intro h1
 ·
  have i0:s.cI n 1≠0:=by assumption
  refine XE.aV rfl rfl (ab .h3 rfl ?_)
  try dsimp only[SW.den,SV.den,aj,aZ]
  have e:s.bR n a x=s.cI n 1:=by unfold FF.bR;rw[if_pos (by omega)]
  exact⟨by rw[e],s,by unfold FF.write;rw[if_neg (by omega)],rfl,rfl,rfl⟩
 ·
  obtain⟨i1,i2,i3,i4⟩:=FF.ou (show s.cI n 1=0 by simpa using h1)
  have i0:s.cI n 1=0:=by simpa using h1
  have hd:=hI.data n (by omega) (by omega)
  refine cd rfl ?_ ?_<;>intro h2
  ·
   refine XE.aV rfl rfl (ab .h3 rfl ?_)
   try dsimp only[SW.den,SV.den,aj,aZ]
   have e:s.bR n a x=1:=by unfold FF.bR;rw[if_neg (by omega),if_pos (by omega)]
   exact⟨by rw[e]<;>rfl,s,by unfold FF.write;rw[if_neg (by omega)],rfl,rfl,rfl⟩
  ·
   refine sp 22 rfl ?_ ?_<;>intro h3
   ·
    refine XE.aV rfl rfl (ab .h3 rfl ?_)
    try dsimp only[SW.den,SV.den,aj,aZ]
    have e:s.bR n a x=4:=by unfold FF.bR;rw[if_neg (by omega),if_neg (by omega),if_pos (by omega)]
    exact⟨by rw[e]<;>rfl,s,by unfold FF.write;rw[if_neg (by omega)],rfl,rfl,rfl⟩
   ·
    refine sd (by omega) ?_
    refine cd rfl ?_ ?_<;>intro h4
    ·
     refine XE.aV rfl rfl (ab .h3 rfl ?_)
     try dsimp only[SW.den,SV.den,aj,aZ]
     have e:s.bR n a x=4:=by unfold FF.bR;rw[if_neg (by omega),if_neg (by omega),if_pos (by omega)]
     exact⟨by rw[e]<;>rfl,s,by unfold FF.write;rw[if_neg (by omega)],rfl,rfl,rfl⟩
    ·
     refine cd rfl ?_ ?_<;>intro h5
     ·
      refine XE.aV rfl rfl (ab .h3 rfl ?_)
      try dsimp only[SW.den,SV.den,aj,aZ]
      have e:s.bR n a x=0:=by unfold FF.bR;rw[if_neg (by omega),if_neg (by omega),if_neg (by omega)]
      exact⟨by rw[e]<;>rfl,s,by unfold FF.write;rw[if_neg (fun q=>q.2 (by assumption))],rfl,rfl,rfl⟩
     ·
      have hx0:x.size≠0:=fun q=>(by assumption:¬x=⟨#[]⟩) (Gj.2 q)
      have hxe:x≠ByteArray.empty:=by assumption
      refine sd (by omega) ?_
      refine ld .here (av.uy _ _ (by omega)) ?_
      refine sd (by omega) ?_
      refine XO.BG rfl rfl (by omega) qz rfl ?_
      intro bb
      refine gO ?_
      refine sd (by omega) ?_
      refine ld (.there .here) (av.uy _ _ (by omega)) ?_
      refine XO.AY rfl rfl qz (by omega) (by omega) .here rfl rfl ?_
      refine gO ?_
      refine XO.v (V.It rfl rfl qz (by omega)) rfl (gO ?_)
      refine XO.AY rfl rfl qz (by omega) (by omega) .here rfl rfl ?_
      refine gO ?_
      refine rq [0,1,2,3,4,5,6,7,8] mixed (by kernel_rfl) ?_
      refine XO.l (V.MH (B:=Iz (s.data n) a.toNat x) rfl (by rw[FF.n9];omega) (dm .here) ⟨by rw[FF.n9];omega,fun i h=>DZ _ _ _ i h⟩ qz Tryz.underlying9) rfl (gO ?_)
      refine sd (by omega) ?_
      refine st (.there .here) (av.BJ _ _ (by omega) _) rfl ?_
      refine XE.aV rfl rfl (ab (.cons (.there .here) (.cons (.there .here) (.cons (.there .here) .nil))) rfl ?_)
      try dsimp only[SW.den,SV.den,aj,aZ]
      have e:s.bR n a x=0:=by unfold FF.bR;rw[if_neg (by omega),if_neg (by omega),if_neg (by omega)]
      exact⟨by rw[e]<;>rfl,({s with data:=aa s.data n (Iz (s.data n) a.toNat x)} :FC),by unfold FF.write;rw[if_pos ⟨e,hxe⟩],rfl,rfl,rfl⟩
end Go.X.Tr
