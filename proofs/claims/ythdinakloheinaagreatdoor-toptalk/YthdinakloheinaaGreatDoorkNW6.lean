import Derived.Test.YthdinakloheinaaGreatDoorkNFP
import Derived.Shelf.Lays2
import Derived.Ground.Names2Prog
import Derived.Test.YthdinakloheinaaGreatDoorProg
import Derived.Test.YthdinakloheinaaGreatDoorKB
import Derived.Test.YthdinakloheinaaGreatDoorXBytes
import Derived.Test.YthdinakloheinaaGreatDoorLM
namespace Go.X.Tr
open Go Go.X
structure az.U where
 kind:Int
 n:Int
 at_:Int
 write:Bool
 refs:Int
def az.un(s:OS)(z:Int):az.U:=⟨s.kind z,s.n z,s.at_ z,s.write z,s.refs z⟩
def az.cell(u:az.U)(j:Nat):Value:=
 if j=0 then .int .i64 u.kind else
 if j=1 then .int .i64 u.n else
 if j=2 then .int .i64 u.at_ else
 if j=3 then .bool u.write else
 if j=4 then .int .i64 u.refs else
 undef
def az(p0 p1:Nat)(s:OS)(i:Nat):Value:=
 if i=0 then ptr p0 0 0 else
 if i=1 then ptr p1 0 0 else
 if i<122 then az.cell (az.un s (((i-2)/5:Nat):Int)) ((i-2)%5)else
 undef
theorem az.Kf{p0 p1:Nat}(s:OS):0+0<122∧az p0 p1 s (0+0)=ptr p0 0 0:=⟨by omega,by unfold az;rw[if_pos (by omega)]⟩
theorem az.CU{p0 p1:Nat}(s:OS):0+1<122∧az p0 p1 s (0+1)=ptr p1 0 0:=⟨by omega,by unfold az;rw[if_neg (by omega),if_pos (by omega)]⟩
theorem az.at_{p0 p1:Nat}(s:OS)(z:Int)(h:0≤z∧z<24)(j:Nat)(hj:j<5):az p0 p1 s (0+2+z.toNat*5+j)=az.cell (az.un s z) j:=by
 unfold az
 rw[if_neg (by omega),if_neg (by omega),if_pos (by omega),show(((0+2+z.toNat*5+j-2)/5:Nat):Int)=z from by omega,show(0+2+z.toNat*5+j-2)%5=j from by omega]
theorem az.set{p0 p1:Nat}(s s':OS)(z:Int)(h:0≤z∧z<24)(k:Nat)(hk:k<5)(v:Value)(hv:∀ j,az.cell (az.un s' z) j=if j=k then v else az.cell (az.un s z) j)(ho:∀ y,¬y=z→az.un s' y=az.un s y):0+2+z.toNat*5+k<122∧cH (az p0 p1 s) (0+2+z.toNat*5+k) v=az p0 p1 s':=by
 refine⟨by omega,?_⟩
 funext i
 unfold cH
 by_cases hi:i=0+2+z.toNat*5+k
 ·rw[if_pos hi,hi,az.at_ s' z h k hk,hv,if_pos rfl]
 ·rw[if_neg hi]
  unfold az
  by_cases q0:i=0
  ·rw[if_pos q0,if_pos q0]
  rw[if_neg q0,if_neg q0]
  by_cases q1:i=1
  ·rw[if_pos q1,if_pos q1]
  rw[if_neg q1,if_neg q1]
  by_cases c1:i<122
  ·rw[if_pos c1,if_pos c1]
   by_cases cz:(((i-2)/5:Nat):Int)=z
   ·rw[cz,hv,if_neg (by omega)]
   ·rw[ho _ cz]
  ·rw[if_neg c1,if_neg c1]
theorem az.E7{p0 p1:Nat}(s s':OS)(z:Int)(h:0≤z∧z<24)(vs:List Value)(hl:vs.length=5)(hv:∀ j,j<5→vs[j]? =some (az.cell (az.un s' z) j))(ho:∀ y,¬y=z→az.un s' y=az.un s y):0+2+z.toNat*5+5≤122∧bL (az p0 p1 s) (0+2+z.toNat*5) vs=az p0 p1 s':=by
 refine⟨by omega,?_⟩
 funext i
 by_cases a1:i<0+2+z.toNat*5
 ·rw[ef _ _ _ _ a1]
  unfold az
  by_cases q0:i=0
  ·rw[if_pos q0,if_pos q0]
  rw[if_neg q0,if_neg q0]
  by_cases q1:i=1
  ·rw[if_pos q1,if_pos q1]
  rw[if_neg q1,if_neg q1]
  rw[if_pos (by omega),if_pos (by omega),ho _ (by omega)]
 ·by_cases a2:i<0+2+z.toNat*5+5
  ·obtain⟨j,rfl⟩:∃ j,i=0+2+z.toNat*5+j:=⟨i-(0+2+z.toNat*5),by omega⟩
   rw[az.at_ s' z h j (by omega)]
   exact da vs _ _ _ _ (hv j (by omega))
  ·rw[eH _ _ _ _ (by omega)]
   unfold az
   have q0:¬i=0:=by omega
   rw[if_neg q0,if_neg q0]
   have q1:¬i=1:=by omega
   rw[if_neg q1,if_neg q1]
   by_cases c1:i<122
   ·rw[if_pos c1,if_pos c1,ho _ (by omega)]
   ·rw[if_neg c1,if_neg c1]
theorem az.oc{p0 p1:Nat}(s:OS)(z:Int)(h:0≤z∧z<24):0+2+z.toNat*5+0<122∧az p0 p1 s (0+2+z.toNat*5+0)= .int .i64 (s.kind z):=⟨by omega,az.at_ s z h 0 (by omega)⟩
theorem az.uI{p0 p1:Nat}(s:OS)(z:Int)(h:0≤z∧z<24):0+2+z.toNat*5+1<122∧az p0 p1 s (0+2+z.toNat*5+1)= .int .i64 (s.n z):=⟨by omega,az.at_ s z h 1 (by omega)⟩
theorem az.qa{p0 p1:Nat}(s:OS)(z:Int)(h:0≤z∧z<24):0+2+z.toNat*5+2<122∧az p0 p1 s (0+2+z.toNat*5+2)= .int .i64 (s.at_ z):=⟨by omega,az.at_ s z h 2 (by omega)⟩
theorem az.Bk{p0 p1:Nat}(s:OS)(z:Int)(h:0≤z∧z<24)(v:Int):0+2+z.toNat*5+2<122∧cH (az p0 p1 s) (0+2+z.toNat*5+2) (.int .i64 v)=az p0 p1 {s with at_:=aa s.at_ z v} :=az.set s {s with at_:=aa s.at_ z v} z h 2 (by omega) _ (fun j=>by
 have e:az.un {s with at_:=aa s.at_ z v} z= {az.un s z with at_:=v} :=by unfold az.un;simp only[ae]
 rw[e]
 by_cases hj:j=2
 ·subst hj;rfl
 ·unfold az.cell;simp only[if_neg hj]) (fun y hy=>by unfold az.un;simp only[ad _ _ hy])
theorem az.zf{p0 p1:Nat}(s:OS)(z:Int)(h:0≤z∧z<24):0+2+z.toNat*5+3<122∧az p0 p1 s (0+2+z.toNat*5+3)= .bool (s.write z):=⟨by omega,az.at_ s z h 3 (by omega)⟩
theorem az.jQ{p0 p1:Nat}(s:OS)(z:Int)(h:0≤z∧z<24):0+2+z.toNat*5+4<122∧az p0 p1 s (0+2+z.toNat*5+4)= .int .i64 (s.refs z):=⟨by omega,az.at_ s z h 4 (by omega)⟩
theorem az.tq{p0 p1:Nat}(s:OS)(z:Int)(h:0≤z∧z<24)(v:Int):0+2+z.toNat*5+4<122∧cH (az p0 p1 s) (0+2+z.toNat*5+4) (.int .i64 v)=az p0 p1 {s with refs:=aa s.refs z v} :=az.set s {s with refs:=aa s.refs z v} z h 4 (by omega) _ (fun j=>by
 have e:az.un {s with refs:=aa s.refs z v} z= {az.un s z with refs:=v} :=by unfold az.un;simp only[ae]
 rw[e]
 by_cases hj:j=4
 ·subst hj;rfl
 ·unfold az.cell;simp only[if_neg hj]) (fun y hy=>by unfold az.un;simp only[ad _ _ hy])
def az.arr(u:az.U):Array Value:= #[.int .i64 u.kind,.int .i64 u.n,.int .i64 u.at_,.bool u.write,.int .i64 u.refs]
theorem az.xZ{p0 p1:Nat}(s:OS)(z:Int)(h:0≤z∧z<24):0+2+z.toNat*5+5≤122∧bW (az p0 p1 s) (0+2+z.toNat*5) 5= .agg (az.arr (az.un s z)):=by
 refine⟨by omega,?_⟩
 have q:=fun j hj=>az.at_ (p0:=p0) (p1:=p1) s z h j hj
 simp only[bW,List.range,List.range.loop,List.map_cons,List.map_nil]
 rw[q 0 (by omega),q 1 (by omega),q 2 (by omega),q 3 (by omega),q 4 (by omega)]
 rfl
theorem az.box(u:az.U):∀ i,i<5→cellsOf (az.arr u) i=az.cell u i:=fun i h=>match i,h with
 | 0,_=>rfl
 | 1,_=>rfl
 | 2,_=>rfl
 | 3,_=>rfl
 | 4,_=>rfl
 | j+5,h=>absurd h (by omega)
theorem az.Oz(u0 u:az.U):0+5≤5∧bL (az.cell u0) 0 (az.arr u).toList=az.cell u:=by
 refine⟨by omega,?_⟩
 funext i
 match i with
 | 0=>rfl
 | 1=>rfl
 | 2=>rfl
 | 3=>rfl
 | 4=>rfl
 | k+5=>
  have e1:∀ u:az.U,az.cell u (k+5)=undef:=fun u=>by unfold az.cell;iterate 5 rw[if_neg (by omega)]
  have e2:bL (az.cell u0) 0 (az.arr u).toList (k+5)=az.cell u0 (k+5):=by simp[bL,cH,az.arr]
  rw[e2,e1,e1]
theorem az.Oa(u:az.U):0+0<5∧az.cell u (0+0)= .int .i64 u.kind:=⟨by omega,rfl⟩
theorem az.On(u:az.U):0+1<5∧az.cell u (0+1)= .int .i64 u.n:=⟨by omega,rfl⟩
theorem az.put{p0 p1:Nat}(s:OS)(z k n:Int)(w:Bool)(r:Int)(h:0≤z∧z<24):0+2+z.toNat*5+5≤122∧bL (az p0 p1 s) (0+2+z.toNat*5) (az.arr ⟨k,n,0,w,r⟩).toList=az p0 p1 ⟨aa s.kind z k,aa s.n z n,aa s.at_ z 0,aa s.refs z r,aa s.write z w⟩:=
 az.E7 s ⟨aa s.kind z k,aa s.n z n,aa s.at_ z 0,aa s.refs z r,aa s.write z w⟩ z h _ rfl (fun j hj=>by
  have e:az.un ⟨aa s.kind z k,aa s.n z n,aa s.at_ z 0,aa s.refs z r,aa s.write z w⟩ z=⟨k,n,0,w,r⟩:=by unfold az.un;simp only[ae]
  rw[e]
  match j,hj with
  | 0,_=>rfl
  | 1,_=>rfl
  | 2,_=>rfl
  | 3,_=>rfl
  | 4,_=>rfl
  | j+5,h=>exact absurd h (by omega)) (fun y hy=>by unfold az.un;simp only[ad _ _ hy])
end Go.X.Tr


namespace Go.Proofs
open Go.Shelf
def qy:Go.Shelf.Ren:=⟨fun | 26=>249 | 33=>266 | 34=>267 | 38=>280 | n=>n,fun | 24=>207 | 9=>9 | 3=>3 | 4=>4 | 40=>258 | 0=>0 | n=>n,fun | n=>n⟩
theorem zz:Go.Proofs.Lays2.n26 Tryz.prog qy:= {
 mixed:=by kernel_rfl
 f26:=Tryz.func249.trans (congrArg some (by kernel_rfl))
 f33:=Tryz.func266.trans (congrArg some (by kernel_rfl))
 f34:=Tryz.func267.trans (congrArg some (by kernel_rfl))
 f38:=Tryz.func280.trans (congrArg some (by kernel_rfl))
 t0:=Tryz.underlying0
 a0:=Tryz.isAgg0
 z0:=Tryz.sizeOf0
 v0:=Tryz.zeroValue0
 t3:=Tryz.underlying3
 a3:=Tryz.isAgg3
 z3:=Tryz.sizeOf3
 v3:=Tryz.zeroValue3
 t4:=Tryz.underlying4
 a4:=Tryz.isAgg4
 z4:=Tryz.sizeOf4
 v4:=Tryz.zeroValue4
 t9:=Tryz.underlying9
 a9:=Tryz.isAgg9
 z9:=Tryz.sizeOf9
 v9:=Tryz.zeroValue9
 t24:=Tryz.underlying207
 a24:=Tryz.isAgg207
 z24:=Tryz.sizeOf207
 v24:=Tryz.zeroValue207
 t40:=Tryz.underlying258
 a40:=Tryz.isAgg258
 z40:=Tryz.sizeOf258
 v40:=Tryz.zeroValue258}
end Go.Proofs

namespace Go.X.Tr
open Go Go.Proofs Go.X
set_option maxRecDepth 20000
set_option maxHeartbeats 4000000
theorem Gs(p:Option Addr)(cap:Nat)(l:List ByteArray)(x:ByteArray)(hl:l.length≤1000000):Spec Tryz.prog 249 [.slice p l.length cap,.string x] [vi p cap 9 l] (fun v H1=>v= .tuple #[.int .i64 (L2 l x),.bool (wF l x)]∧H1=[vi p cap 9 l]):=yA Go.Proofs.zz p cap 9 l x hl
theorem pK(b o:Nat)(s:FC)(n:Int):Spec Tryz.prog 185 [ptr b o 0,.int .i64 n] [.cells b o 321 (ay s)] (fun v H1=>v=bH 102 (s.cx n 0)∧H1=[.cells b o 321 (ay s)]):=by
 refine Spec.go 21 [0,1,4,10,19] [] Tryz.func185 rfl rfl rfl ?_
 intro W
 refine sp 7 rfl ?_ ?_<;>intro h1
 ·
  refine XE.aK rfl rfl (ab .h1 rfl ?_)
  try dsimp only[SW.den,SV.den,aj,aL]
  have e:s.cx n 0=1:=by unfold FF.cx;rw[if_pos (by omega)]
  exact⟨by rw[e]<;>rfl,rfl⟩
 ·
  refine cd rfl ?_ ?_<;>intro h2
  ·
   refine XE.aK rfl rfl (ab .h1 rfl ?_)
   try dsimp only[SW.den,SV.den,aj,aL]
   have e:s.cx n 0=1:=by unfold FF.cx;rw[if_pos (by omega)]
   exact⟨by rw[e]<;>rfl,rfl⟩
  ·
   refine sd (by omega) ?_
   refine ld .here (ay.l9 _ _ (by omega)) ?_
   refine cd rfl ?_ ?_<;>intro h3
   ·
    refine XE.aK rfl rfl (ab .h1 rfl ?_)
    try dsimp only[SW.den,SV.den,aj,aL]
    have e:s.cx n 0=2:=by unfold FF.cx;rw[if_neg (by omega),if_pos (by omega)]
    exact⟨by rw[e]<;>rfl,rfl⟩
   ·
    refine XE.aK rfl rfl (ab .h1 rfl ?_)
    try dsimp only[SW.den,SV.den,aj,aL]
    have e:s.cx n 0=0:=by unfold FF.cx;rw[if_neg (by omega),if_neg (by omega),if_neg (by omega)]
    exact⟨by rw[e]<;>rfl,rfl⟩
theorem MB(b o:Nat)(s:FC)(n:Int):Spec Tryz.prog 237 [ptr b o 0,.int .i64 n] [.cells b o 321 (ay s)] (fun v H1=>v=bH 102 (s.cx n 2)∧H1=[.cells b o 321 (ay s)]):=by
 refine Spec.go 23 [0,1,4,5,20] [] Tryz.func237 rfl rfl rfl ?_
 intro W
 refine ca (pK _ _ _ _) .h1 ?_
 rintro _ _ ⟨rfl,rfl⟩
 refine gO ?_
 refine sp 11 rfl ?_ ?_<;>intro h1
 ·
  obtain⟨i1,i2,i3⟩:=FF.po (show s.cx n 0=0 by assumption)
  refine sd (by omega) ?_
  refine ld .here (ay.l9 _ _ (by omega)) ?_
  refine cd rfl ?_ ?_<;>intro h2
  ·
   refine XE.aK rfl rfl (ab .h1 rfl ?_)
   try dsimp only[SW.den,SV.den,aj,aL]
   have e:s.cx n 2=11:=by unfold FF.cx;rw[if_neg (by omega),if_neg (by omega),if_pos (by omega)]
   exact⟨by rw[e]<;>rfl,rfl⟩
  ·
   refine XE.aK rfl rfl (ab .h1 rfl ?_)
   try dsimp only[SW.den,SV.den,aj,aL]
   have e:s.cx n 2=0:=by unfold FF.cx;rw[if_neg (by omega),if_neg (by omega),if_neg (by omega)]
   exact⟨by rw[e,show s.cx n 0=0 by assumption],rfl⟩
 ·
  have i0:s.cx n 0≠0:=by assumption
  refine XE.aK rfl rfl (ab .h1 rfl ?_)
  try dsimp only[SW.den,SV.den,aj,aL]
  exact⟨by rw[FF.JB i0],rfl⟩
theorem GD(b o:Nat)(s:FC)(n:Int):Spec Tryz.prog 194 [ptr b o 0,.int .i64 n] [.cells b o 321 (ay s)] (fun v H1=>v=bH 102 (s.cx n 1)∧H1=[.cells b o 321 (ay s)]):=by
 refine Spec.go 23 [0,1,4,5,20] [] Tryz.func194 rfl rfl rfl ?_
 intro W
 refine ca (pK _ _ _ _) .h1 ?_
 rintro _ _ ⟨rfl,rfl⟩
 refine gO ?_
 refine sp 11 rfl ?_ ?_<;>intro h1
 ·
  obtain⟨i1,i2,i3⟩:=FF.po (show s.cx n 0=0 by assumption)
  refine sd (by omega) ?_
  refine ld .here (ay.l9 _ _ (by omega)) ?_
  refine cd rfl ?_ ?_<;>intro h2
  ·
   refine XE.aK rfl rfl (ab .h1 rfl ?_)
   try dsimp only[SW.den,SV.den,aj,aL]
   have e:s.cx n 1=11:=by unfold FF.cx;rw[if_neg (by omega),if_neg (by omega),if_pos (by omega)]
   exact⟨by rw[e]<;>rfl,rfl⟩
  ·
   refine XE.aK rfl rfl (ab .h1 rfl ?_)
   try dsimp only[SW.den,SV.den,aj,aL]
   have e:s.cx n 1=0:=by unfold FF.cx;rw[if_neg (by omega),if_neg (by omega),if_neg (by omega)]
   exact⟨by rw[e,show s.cx n 0=0 by assumption],rfl⟩
 ·
  have i0:s.cx n 0≠0:=by assumption
  refine XE.aK rfl rfl (ab .h1 rfl ?_)
  try dsimp only[SW.den,SV.den,aj,aL]
  exact⟨by rw[FF.JB i0],rfl⟩
theorem F6(b o:Nat)(s:FC)(hI:s.toFF.Sh)(n:Int)(x:ByteArray):Spec Tryz.prog 235 [ptr b o 0,.int .i64 n,.string x] [.cells b o 321 (ay s),.fam ai (s.aD 9),.fam ai (s.aF 3)] (fun v H1=>v= .tuple #[.int .i64 (s.dM n x),bH 102 (s.gY n x)]∧H1=[.cells b o 321 (ay s),.fam ai (FC.aD 9 s),.fam ai (FC.aF 3 s)]):=by
 refine Spec.go 42 [0,1,2,6,7,8,9,10,15,30] [] Tryz.func235 rfl rfl rfl ?_
 intro W
 refine ca (MB _ _ _ _) .h1 ?_
 rintro _ _ ⟨rfl,rfl⟩
 refine gO ?_
 refine cd rfl ?_ ?_<;>intro h1
 ·
  have i0:s.cx n 2≠0:=by assumption
  refine XE.aU rfl rfl rfl (ab .h3 rfl ?_)
  try dsimp only[SW.den,SV.den,aj,aL]
  have e:s.gY n x=s.cx n 2:=by unfold FF.gY;rw[if_pos i0]
  exact⟨by rw[show s.dM n x=0 from by unfold FF.dM;rw[if_neg (by omega)],e]<;>rfl,rfl⟩
 ·
  obtain⟨i1,i2,i3,i4⟩:=FF.ly (show s.cx n 2=0 by simpa using h1)
  have i0:s.cx n 2=0:=by simpa using h1
  obtain⟨hr,hk,h8,_⟩:=hI.rise n i1 i2
  have hbs:=Fg hr x
  have hbh:=EZ hr x
  have hpl:=kh (s.names n) x
  refine sd (by omega) ?_
  refine ld .here (ay.zm _ _ (by omega)) ?_
  refine XR.mono (fun _ hw3=>XM.Jj (s:=s) (z:=n) (by omega) (.cons (.there .here) .nil) hw3) ?_
  refine ca (Gs _ _ _ _ (by omega)) .h1 ?_
  rintro _ _ ⟨rfl,rfl⟩
  refine gO ?_
  refine XR.mono (fun _ hw3=>XM.EM (s:=s) s (z:=n) (by omega) rfl (cq _ rfl).symm (cq _ rfl).symm (cq _ rfl).symm .h2 hw3) ?_
  refine AK rfl ?_ ?_<;>intro h2
  ·try simp only[sb]at h2
   have hh:iY (s.names n) x=false:=by rw[←hbh];simpa using h2
   refine XE.aU rfl rfl rfl (ab (.cons (.there .here) .h2) rfl ?_)
   try dsimp only[SW.den,SV.den,aj,aL]
   have e:s.gY n x=2:=by unfold FF.gY;rw[if_neg (by omega),if_neg (by rw[hh];simp)]
   exact⟨by rw[show s.dM n x=0 from by unfold FF.dM;rw[if_neg (by omega)],e];rfl,rfl⟩
  ·try simp only[sb]at h2
   have hh:iY (s.names n) x=true:=by rw[←hbh];simpa using h2
   obtain⟨hp1,hp2⟩:=gW.1 hh
   refine sd (by omega) ?_
   refine XR.mono (fun _ hw3=>XM.Jg (s:=s) (z:=n) (by omega) (.cons (.t2 .here) .nil) hw3) ?_
   refine ld (.t3 .here) (ay.CA _ _ (by omega)) ?_
   refine XR.cZ .here (by omega) ?_
   intro g hg
   rw[hg]
   refine sd (by omega) ?_
   refine D6 .here (ints_at (by omega)) ?_
   refine XR.mono (fun _ hw3=>XM.GP (s:=s) s (z:=n) (by omega) rfl (cq _ rfl).symm (cq _ hg).symm (cq _ rfl).symm .h2 hw3) ?_
   refine XE.aU rfl rfl rfl (ab (.cons (.t2 .here) (.cons (.there .here) .h1)) rfl ?_)
   try dsimp only[SW.den,SV.den,aj,aL]
   have e:s.gY n x=0:=by unfold FF.gY;rw[if_neg (by omega),if_pos hh]
   exact⟨by rw[show s.dM n x=ep (s.kids n) (cF (s.names n) x)from by unfold FF.dM;rw[if_pos e],e,hbs];rfl,rfl⟩
end Go.X.Tr

namespace Go.X.Tr
open Go Go.Proofs Go.X
set_option maxRecDepth 20000
set_option maxHeartbeats 4000000
theorem pP(b o:Nat)(s:FC)(k t l u:Int):Spec Tryz.prog 175 [ptr b o 0,.agg (rh k t l u)] [.cells b o 321 (ay s),.fam ai (s.aD 9),.fam ai (s.aF 3)] (fun v H1=>(s.free<0∧v= .tuple #[.int .i64 0,bH 102 4]∧H1=[.cells b o 321 (ay s),.fam ai (FC.aD 9 s),.fam ai (FC.aF 3 s)])∨(¬s.free<0∧v= .tuple #[.int .i64 s.free,bH 102 0]∧H1=[.cells b o 321 (ay (s.oq s.free k t l u)),.fam ai (FC.aD 9 (s.oq s.free k t l u)),.fam ai (FC.aF 3 (s.oq s.free k t l u))])):=by
 refine Spec.go 27 [0,3,4,5,6,7,8,17] [] Tryz.func175 rfl rfl rfl ?_
 intro W
 refine XO.box (m:=8) (C:=ay.cell (sY k t l u)) rfl rfl (wM k t l u) rfl ?_
 intro bx
 refine gO ?_
 refine lp (σ:=Int) (fun i=>(40-i).toNat) (fun i=>(0≤i∧i≤40)∧∀ j,0≤j→j<i→s.kind j≠0) (fun i=>[(7,.int .i64 i),(0,ptr b o 0),(3,ptr bx 0 0)]) (fun i=>XM W (bR [.cells b o 321 (ay s),.fam ai (s.aD 9),.fam ai (s.aF 3)]) [.cells b o 321 (ay s),.fam ai (s.aD 9),.fam ai (s.aF 3),.cells bx 0 8 (ay.cell (sY k t l u))]) (0) ?_ (S3 rfl rfl rfl) (fun _ hw=>XM.pick (.cons (.there .here) (.cons (.there .here) (.cons (.there .here) .h1))) hw) ?_
 ·
  exact⟨by omega,fun j a b=>by omega⟩
 intro i hi
 obtain⟨hi,ho⟩:=hi
 refine gC ?_
 refine cd rfl ?_ ?_<;>intro h1
 ·
  refine sd (by omega) ?_
  refine ld .here (ay.l9 _ _ (by omega)) ?_
  refine cd rfl ?_ ?_<;>intro h2
  ·
   refine rq [0,1,2,3,4,5,6] mixed (by kernel_rfl) ?_
   refine mQ (.t3 .here) (DJ k t l u) ?_
   refine sd (by omega) ?_
   refine jV .here (vM s i k t l u (by omega)) rfl ⟨rfl,rfl⟩ ?_
   refine XR.mono (fun _ hw3=>XM.Mk (s:=s) (s.oq i k t l u) (by omega) rfl rfl rfl (.cons (.there .here) .nil) hw3) ?_
   refine XR.mono (fun _ hw3=>XM.M1 (s:=s) (s.oq i k t l u) (by omega) rfl rfl rfl (.cons (.t2 .here) .nil) hw3) ?_
   refine XE.aU rfl rfl rfl (ab (.cons (.t2 .here) (.cons (.there .here) .h1)) rfl ?_)
   try dsimp only[SW.den,SV.den,aj,aL]
   have e:=FF.je hi.1 (by omega) ho (by assumption)
   exact .inr ⟨by omega,by rw[e]<;>rfl,by rw[e]⟩
  ·
   refine sd (by omega) ?_
   refine ag (i+1) ?_ ?_ (S3 rfl rfl rfl) (fun _ hw=>XM.pick .h4 hw)
   ·
    (first | omega | (simp;done) | (simp;omega))
   ·
    refine⟨by omega,fun j a b=> ?_⟩
    by_cases c:j=i
    ·subst c;assumption
    ·exact ho j a (by omega)
 ·
  refine XE.aU rfl rfl rfl (ab .h3 rfl ?_)
  try dsimp only[SW.den,SV.den,aj,aL]
  have e:=FF.s5 (s:=s.toFF) (fun j a b=>ho j a (by omega))
  exact .inl ⟨by omega,rfl,rfl⟩
theorem Lx(b o:Nat)(s:FC)(n:Int)(hn:0≤n∧n<40):Spec Tryz.prog 195 [ptr b o 0,.int .i64 n] [.cells b o 321 (ay s),.fam ai (s.aD 9),.fam ai (s.aF 3)] (fun v H1=>v= .tuple #[]∧∃ t:FC,t.toFF=s.mn n∧t.rP=s.rP∧t.rC=s.rC∧H1=[.cells b o 321 (ay t),.fam ai (FC.aD 9 t),.fam ai (FC.aF 3 t)]):=by
 refine Spec.go 28 [0,1,21] [] Tryz.func195 rfl rfl rfl ?_
 intro W
 refine sd (by omega) ?_
 refine ld .here (ay.ye _ _ (by omega)) ?_
 refine sp 12 rfl ?_ ?_<;>intro h1
 ·
  refine sd (by omega) ?_
  refine ld .here (ay.lO _ _ (by omega)) ?_
  refine cd rfl ?_ ?_<;>intro h2
  ·
   refine XO.v (V.build (vs:= #[]) rfl (v:=.agg (rh 0 0 0 0)) (fun _=>by kernel_rfl)) rfl (gO ?_)
   refine sd (by omega) ?_
   refine jV .here (vM s n 0 0 0 0 (by omega)) rfl ⟨rfl,rfl⟩ ?_
   refine XR.mono (fun _ hw3=>XM.Mk (s:=s) (s.oq n 0 0 0 0) (by omega) rfl rfl rfl (.cons (.there .here) .nil) hw3) ?_
   refine XR.mono (fun _ hw3=>XM.M1 (s:=s) (s.oq n 0 0 0 0) (by omega) rfl rfl rfl (.cons (.t2 .here) .nil) hw3) ?_
   refine XE.fC rfl (ab (.cons (.t2 .here) (.cons (.there .here) .h1)) rfl ?_)
   try dsimp only[SW.den,SV.den,aj,aL]
   exact⟨rfl,s.oq n 0 0 0 0,by unfold FF.mn;rw[if_pos ⟨by assumption,by assumption⟩];rfl,rfl,rfl,rfl⟩
  ·
   refine XE.fC rfl (ab .h3 rfl ?_)
   try dsimp only[SW.den,SV.den,aj,aL]
   exact⟨rfl,s,by unfold FF.mn;rw[if_neg (by omega)],rfl,rfl,rfl⟩
 ·
  refine XE.fC rfl (ab .h3 rfl ?_)
  try dsimp only[SW.den,SV.den,aj,aL]
  exact⟨rfl,s,by unfold FF.mn;rw[if_neg (by omega)],rfl,rfl,rfl⟩
theorem J4(b o:Nat)(s:FC)(hI:s.toFF.Sh)(t:Int):Spec Tryz.prog 176 [ptr b o 0,.int .i64 t] [.cells b o 321 (ay s),aZ s.rP s.rC 3 s.roots] (fun v H1=>v= .tuple #[.int .i64 (s.ed t),bH 102 (s.iK t)]∧H1=[.cells b o 321 (ay s),aZ s.rP s.rC 3 s.roots]):=by
 have hr4:=hI.roots.1
 refine Spec.go 28 [0,1,4,5,11,19] [] Tryz.func176 rfl rfl rfl ?_
 intro W
 refine sp 8 rfl ?_ ?_<;>intro h1
 ·
  refine XE.aU rfl rfl rfl (ab .h2 rfl ?_)
  try dsimp only[SW.den,SV.den,aj,aL]
  have e:s.iK t=1:=by unfold FF.iK;rw[if_pos (by omega)]
  exact⟨by rw[show s.ed t=0 from by unfold FF.ed;rw[if_neg (by omega)],e];rfl,rfl⟩
 ·
  refine cd rfl ?_ ?_<;>intro h2
  ·
   refine XE.aU rfl rfl rfl (ab .h2 rfl ?_)
   try dsimp only[SW.den,SV.den,aj,aL]
   have e:s.iK t=1:=by unfold FF.iK;rw[if_pos (by omega)]
   exact⟨by rw[show s.ed t=0 from by unfold FF.ed;rw[if_neg (by omega)],e];rfl,rfl⟩
  ·
   refine ld .here (gz _) ?_
   refine cd rfl ?_ ?_<;>intro h3
   ·
    refine XE.aU rfl rfl rfl (ab .h2 rfl ?_)
    try dsimp only[SW.den,SV.den,aj,aL]
    have e:s.iK t=2:=by unfold FF.iK;rw[if_neg (by omega),if_pos (by omega)]
    exact⟨by rw[show s.ed t=0 from by unfold FF.ed;rw[if_neg (by omega)],e];rfl,rfl⟩
   ·
    refine ld .here (gz _) ?_
    refine XR.cZ (.there .here) (by omega) ?_
    intro g hg
    rw[hg]
    refine sd (by omega) ?_
    refine D6 (.there .here) (ints_at (by omega)) ?_
    refine XE.aU rfl rfl rfl (ab .h2 rfl ?_)
    try dsimp only[SW.den,SV.den,aj,aL]
    have e:s.iK t=0:=by unfold FF.iK;rw[if_neg (by omega),if_neg (by omega)]
    exact⟨by rw[show s.ed t=ep s.roots t from by unfold FF.ed;rw[if_pos e],e];rfl,rfl⟩
end Go.X.Tr

namespace Go.X.Tr
open Go Go.Proofs Go.X
set_option maxRecDepth 20000
set_option maxHeartbeats 4000000
theorem Gq:jF Tryz.prog 211=true:=by kernel_rfl
theorem lr(z:Int):∀ w,(Instr.buildSlice 55 1 #[(0,.int .i64 z)]).run Tryz.prog w= .ok (.slice (some ⟨w.heap.size,0,none⟩) 1 1) (w.alloc (.cells #[.int .i64 z] 3)):=fun w=>by kernel_rfl
theorem jH:kV Tryz.prog 3 1=true:=by kernel_rfl
theorem xm:de Tryz.prog 211=some 4:=by kernel_rfl
theorem D1:Spec Tryz.prog 99 [] [] (fun v H1=>∃ b,v=ptr b 0 0∧H1=[.cells b 0 321 (ay FC.void),.fam ai (FC.aD 9 FC.void),.fam ai (FC.aF 3 FC.void),aZ (FC.rP FC.void) (FC.rC FC.void) 3 (FC.toFF FC.void).roots]):=by
 refine Spec.go 3 [0] [] Tryz.func99 rfl rfl rfl ?_
 intro W
 refine XO.v (V.build (vs:= #[]) rfl (v:=.agg wV) (fun _=>by kernel_rfl)) rfl (gO ?_)
 refine XO.box (m:=321) (C:=ay FC.void) rfl yY CL rfl ?_
 intro p
 refine XO.mono (fun _ hw3=>XM.Ci hw3) ?_
 refine gO ?_
 refine XE.aK rfl rfl (ab (.cons (.t3 .here) .h3) rfl ?_)
 try dsimp only[SW.den,SV.den,aj,aL]
 exact⟨_,rfl,rfl⟩
theorem Ja(b o:Nat)(s:FC)(hI:s.toFF.Sh):Spec Tryz.prog 101 [ptr b o 0] [.cells b o 321 (ay s),.fam ai (s.aD 9),.fam ai (s.aF 3),aZ s.rP s.rC 3 s.roots] (fun v H1=>∃ t:FC,v= .tuple #[.int .i64 s.mI,bH 102 s.jw]∧t.toFF=s.pG∧H1=[.cells b o 321 (ay t),.fam ai (FC.aD 9 t),.fam ai (FC.aF 3 t),aZ (FC.rP t) (FC.rC t) 3 (FC.toFF t).roots]):=by
 have hr4:=hI.roots.1
 refine Spec.go 50 [0,2,3,4,5,11,25] [] Tryz.func101 rfl rfl rfl ?_
 intro W
 refine ld .here (gz _) ?_
 refine cd rfl ?_ ?_<;>intro h1
 ·
  refine XE.aU rfl rfl rfl (ab .h4 rfl ?_)
  try dsimp only[SW.den,SV.den,aj,aL]
  have e:s.jw=4:=by unfold FF.jw;rw[if_pos (by omega)]
  exact⟨s,by rw[show s.mI=0 from by unfold FF.mI;rw[if_neg (by omega)],e];rfl,by unfold FF.pG;rw[if_neg (by omega)],rfl⟩
 ·
  refine ld .here (gz _) ?_
  refine XO.v (V.build (vs:= #[(0,.int .i64 2),(1,.int .i64 (s.roots.length)),(2,.int .i64 1)]) rfl (v:=.agg (rh 2 s.roots.length 1 0)) (fun _=>by kernel_rfl)) rfl (gO ?_)
  refine ca (pP _ _ _ _ _ _ _) .h3 ?_
  rintro _ _ (⟨h2,rfl,rfl⟩ | ⟨h2,rfl,rfl⟩)
  ·
   try dsimp only[aT,aV,bu,bj,bk,bd,aW,bh,aY,aX,aP,aN,aQ,aO]
   refine gO ?_
   refine XE.aU rfl rfl rfl (ab .h4 rfl ?_)
   try dsimp only[SW.den,SV.den,aj,aL]
   have e:s.jw=4:=by unfold FF.jw;rw[if_neg (by omega),if_pos (by assumption)]
   exact⟨s,by rw[show s.mI=0 from by unfold FF.mI;rw[if_neg (by omega)],e]<;>rfl,by unfold FF.pG;rw[if_neg (by omega)],rfl⟩
  ·
   try dsimp only[aT,aV,bu,bj,bk,bd,aW,bh,aY,aX,aP,aN,aQ,aO]
   have f:=FF.AL (show ¬s.free<0 by assumption)
   refine gO ?_
   refine sd (by omega) ?_
   refine st .here (ay.Iv _ _ (by omega) _) rfl ?_
   refine ld .here (gz _) ?_
   refine XO.buildSlice (A:= #[.int .i64 _]) (vs:= #[(0,.int .i64 _)]) rfl (lr _) rfl rfl ?_
   intro h3
   refine gO ?_
   refine XO.kt (e:=3) rfl rfl Tryz.underlying55 jH (.t4 .here) .here (by show s.roots.length+1≤_;omega) rfl ?_
   intro p1 c1
   refine gO ?_
   refine st (.t2 .here) (sF _ (s.roots++[s.free]) _ _ _ rfl) rfl ?_
   refine ld (.t2 .here) (gz _) ?_
   refine sd (by simp only[List.length_append,List.length_singleton];omega) ?_
   refine XE.aU rfl rfl rfl (ab (.cons (.t2 .here) (.cons (.t2 .here) (.cons (.t2 .here) .h1))) rfl ?_)
   try dsimp only[SW.den,SV.den,aj,aL]
   have e:s.jw=0:=by unfold FF.jw;rw[if_neg (by omega),if_neg (by assumption)]
   refine⟨_,?_,?_,rfl⟩
   ·rw[show s.mI=s.roots.length from by unfold FF.mI;rw[if_pos e],e]
    simp only[List.length_append,List.length_singleton]
    rw[show((s.roots.length+1:Nat):Int)-1=s.roots.length by omega];rfl
   ·unfold FF.pG;rw[if_pos e,←FF.HA s.toFF s.free 2 _ 1 0 s.free];rfl
theorem Kg(b o:Nat)(s:FC)(hI:s.toFF.Sh)(n:Int):Spec Tryz.prog 217 [ptr b o 0,.int .i64 n] [.cells b o 321 (ay s)] (fun v H1=>v= .tuple #[.agg (s.Mb n).arr,bH 102 (s.cx n 0)]∧H1=[.cells b o 321 (ay s)]):=by
 refine Spec.go 35 [0,1,4,5,6,7,12] [] Tryz.func217 rfl rfl rfl ?_
 intro W
 refine XO.cY (z:=.agg NV.zero.arr) (m:=4) (C:=ur NV.zero) (by kernel_rfl) rfl (BV _) rfl ?_
 intro bg
 refine gO ?_
 refine ca (pK _ _ _ _) (.cons (.there .here) .nil) ?_
 rintro _ _ ⟨rfl,rfl⟩
 refine gO ?_
 refine cd rfl ?_ ?_<;>intro h1
 ·
  have i0:s.cx n 0≠0:=by assumption
  refine XO.v (V.build (vs:= #[]) rfl (v:=.agg NV.zero.arr) (fun _=>by kernel_rfl)) rfl (gO ?_)
  refine jV (.there .here) (xF _ _) rfl ⟨rfl,rfl⟩ ?_
  refine XE.ux rfl (.agg rfl (.there .here) (uA _) Gq xm) (.tmp rfl) (ab .h1 rfl ?_)
  try dsimp only[SW.den,SV.den,aj,aL]
  exact⟨by rw[show s.Mb n=NV.zero from by unfold FF.Mb;rw[if_neg i0]],rfl⟩
 ·
  obtain⟨i1,i2,i3⟩:=FF.po (show s.cx n 0=0 by simpa using h1)
  have i0:s.cx n 0=0:=by simpa using h1
  refine sd (by omega) ?_
  refine mQ .here (Bl _ _ (by omega)) ?_
  refine XO.cY (z:=.agg (rh 0 0 0 0)) (m:=8) (C:=ay.cell (sY 0 0 0 0)) (by kernel_rfl) rfl (wM 0 0 0 0) rfl ?_
  intro bx
  refine gO ?_
  refine jV .here (Gb _ _) rfl ⟨rfl,rfl⟩ ?_
  refine ld .here (Ie _) ?_
  refine ld .here (I6 _) ?_
  refine ld .here (HY _) ?_
  refine ld .here (He _) ?_
  refine ld .here (IP _) ?_
  refine XO.v (V.build (vs:= #[(0,.int .i64 (s.kind n)),(1,.int .i64 (s.links n)),(2,.int .i64 (s.held n)),(3,.int .i64 (max ((s.data n).size:Int) ((s.kids n).length:Int)))]) rfl (v:=.agg (NV.mk (s.kind n) (s.links n) (s.held n) (max ((s.data n).size:Int) ((s.kids n).length:Int))).arr) (fun _=>by kernel_rfl)) rfl (gO ?_)
  refine jV (.t2 .here) (xF _ _) rfl ⟨rfl,rfl⟩ ?_
  refine XE.ux rfl (.agg rfl (.t2 .here) (uA _) Gq xm) (.tmp rfl) (ab (.cons (.there .here) .nil) rfl ?_)
  try dsimp only[SW.den,SV.den,aj,aL]
  exact⟨by rw[show s.Mb n=_ from by unfold FF.Mb;rw[if_pos i0],i0];rfl,rfl⟩
end Go.X.Tr

namespace Go.X.Tr
open Go Go.Proofs Go.X
set_option maxRecDepth 20000
set_option maxHeartbeats 4000000
theorem uS(b o:Nat)(s:FC)(hI:s.toFF.Sh)(n:Int):Spec Tryz.prog 123 [ptr b o 0,.int .i64 n] [.cells b o 321 (ay s),.fam ai (s.aD 9),.fam ai (s.aF 3)] (fun v H1=>v=bH 102 (s.cx n 0)∧∃ t:FC,t.toFF=s.hold n∧t.rP=s.rP∧t.rC=s.rC∧H1=[.cells b o 321 (ay t),.fam ai (FC.aD 9 t),.fam ai (FC.aF 3 t)]):=by
 refine Spec.go 24 [0,1,4,5,10] [] Tryz.func123 rfl rfl rfl ?_
 intro W
 refine ca (pK _ _ _ _) .h1 ?_
 rintro _ _ ⟨rfl,rfl⟩
 refine gO ?_
 refine cd rfl ?_ ?_<;>intro h1
 ·
  obtain⟨i1,i2,i3⟩:=FF.po (show s.cx n 0=0 by simpa using h1)
  have i0:s.cx n 0=0:=by simpa using h1
  have hnb:=hI.num n (by omega) (by omega)
  refine rq [0,1,2,3,4,5,6,7,8,9,10,11,12] mixed (by kernel_rfl) ?_
  refine sd (by omega) ?_
  refine ld .here (ay.lO _ _ (by omega)) ?_
  refine sd (by omega) ?_
  refine sd (by omega) ?_
  refine st .here (ay.tF _ _ (by omega) _) rfl ?_
  refine XE.aK rfl rfl (ab .h3 rfl ?_)
  try dsimp only[SW.den,SV.den,aj,aL]
  exact⟨rfl,({s with held:=aa s.held n (s.held n+1)} :FC),by rw[IU rfl];unfold FF.hold;rw[if_pos i0],rfl,rfl,rfl⟩
 ·
  have i0:s.cx n 0≠0:=by assumption
  refine XE.aK rfl rfl (ab .h3 rfl ?_)
  try dsimp only[SW.den,SV.den,aj,aL]
  exact⟨rfl,s,by unfold FF.hold;rw[if_neg i0],rfl,rfl,rfl⟩
theorem zJ(b o:Nat)(s:FC)(hI:s.toFF.Sh)(n:Int):Spec Tryz.prog 144 [ptr b o 0,.int .i64 n] [.cells b o 321 (ay s),.fam ai (s.aD 9),.fam ai (s.aF 3)] (fun v H1=>v=bH 102 (s.letE n)∧∃ t:FC,t.toFF=s.gU n∧t.rP=s.rP∧t.rC=s.rC∧H1=[.cells b o 321 (ay t),.fam ai (FC.aD 9 t),.fam ai (FC.aF 3 t)]):=by
 refine Spec.go 36 [0,1,4,5,10,19] [] Tryz.func144 rfl rfl rfl ?_
 intro W
 refine ca (pK _ _ _ _) .h1 ?_
 rintro _ _ ⟨rfl,rfl⟩
 refine gO ?_
 refine cd rfl ?_ ?_<;>intro h1
 ·
  have i0:s.cx n 0≠0:=by assumption
  refine XE.aK rfl rfl (ab .h3 rfl ?_)
  try dsimp only[SW.den,SV.den,aj,aL]
  have e:s.letE n=s.cx n 0:=by unfold FF.letE;rw[if_pos (by omega)]
  exact⟨by rw[e],s,by unfold FF.gU;rw[if_neg (by omega)],rfl,rfl,rfl⟩
 ·
  obtain⟨i1,i2,i3⟩:=FF.po (show s.cx n 0=0 by simpa using h1)
  have i0:s.cx n 0=0:=by simpa using h1
  have hnb:=hI.num n (by omega) (by omega)
  refine sd (by omega) ?_
  refine ld .here (ay.lO _ _ (by omega)) ?_
  refine cd rfl ?_ ?_<;>intro h2
  ·
   refine XE.aK rfl rfl (ab .h3 rfl ?_)
   try dsimp only[SW.den,SV.den,aj,aL]
   have e:s.letE n=8:=by unfold FF.letE;rw[if_neg (by omega),if_pos (by omega)]
   exact⟨by rw[e]<;>rfl,s,by unfold FF.gU;rw[if_neg (by omega)],rfl,rfl,rfl⟩
  ·
   refine rq [0,1,2,3,4,5,6,7,8,9,10,11,12] mixed (by kernel_rfl) ?_
   refine sd (by omega) ?_
   refine ld .here (ay.lO _ _ (by omega)) ?_
   refine sd (by omega) ?_
   refine sd (by omega) ?_
   refine st .here (ay.tF _ _ (by omega) _) rfl ?_
   refine ca (Lx _ _ ({s with held:=aa s.held n (s.held n-1)} :FC) n (by omega)) .h3 ?_
   rintro _ _ ⟨rfl,t,ht,hp,hc,rfl⟩
   refine gO ?_
   refine XE.aK rfl rfl (ab .h3 rfl ?_)
   try dsimp only[SW.den,SV.den,aj,aL]
   have e:s.letE n=0:=by unfold FF.letE;rw[if_neg (by omega),if_neg (by omega)]
   exact⟨by rw[e]<;>rfl,t,by rw[ht];unfold FF.gU;rw[if_pos e],hp,hc,rfl⟩
theorem Lc(b o:Nat)(s:FC)(hI:s.toFF.Sh)(n a m:Int):Spec Tryz.prog 140 [ptr b o 0,.int .i64 n,.int .i64 a,.int .i64 m] [.cells b o 321 (ay s)] (fun v H1=>v= .tuple #[.string (s.ek n a m),bH 102 (s.ew n a m)]∧H1=[.cells b o 321 (ay s)]):=by
 refine Spec.go 47 [0,1,2,3,8,9,10,11,16,23] [] Tryz.func140 rfl rfl rfl ?_
 intro W
 refine ca (GD _ _ _ _) .h1 ?_
 rintro _ _ ⟨rfl,rfl⟩
 refine gO ?_
 refine cd rfl ?_ ?_<;>intro h1
 ·
  have i0:s.cx n 1≠0:=by assumption
  refine XE.aU rfl rfl rfl (ab .h1 rfl ?_)
  try dsimp only[SW.den,SV.den,aj,aL]
  have e:s.ew n a m=s.cx n 1:=by unfold FF.ew;rw[if_pos (by omega)]
  exact⟨by rw[show s.ek n a m=ByteArray.empty from by unfold FF.ek;rw[if_neg (by omega)],e];rfl,rfl⟩
 ·
  obtain⟨i1,i2,i3,i4⟩:=FF.ly (show s.cx n 1=0 by simpa using h1)
  have i0:s.cx n 1=0:=by simpa using h1
  have hd:=hI.data n (by omega) (by omega)
  refine sp 20 rfl ?_ ?_<;>intro h2
  ·
   refine XE.aU rfl rfl rfl (ab .h1 rfl ?_)
   try dsimp only[SW.den,SV.den,aj,aL]
   have e:s.ew n a m=1:=by unfold FF.ew;rw[if_neg (by omega),if_pos (by omega)]
   exact⟨by rw[show s.ek n a m=ByteArray.empty from by unfold FF.ek;rw[if_neg (by omega)],e];rfl,rfl⟩
  ·
   refine cd rfl ?_ ?_<;>intro h3
   ·
    refine XE.aU rfl rfl rfl (ab .h1 rfl ?_)
    try dsimp only[SW.den,SV.den,aj,aL]
    have e:s.ew n a m=1:=by unfold FF.ew;rw[if_neg (by omega),if_pos (by omega)]
    exact⟨by rw[show s.ek n a m=ByteArray.empty from by unfold FF.ek;rw[if_neg (by omega)],e];rfl,rfl⟩
   ·
    refine sd (by omega) ?_
    refine ld .here (ay.o3 _ _ (by omega)) ?_
    refine sd (by omega) ?_
    refine sd (by omega) ?_
    refine sd (by omega) ?_
    refine XE.aU rfl rfl rfl (ab .h1 rfl ?_)
    try dsimp only[SW.den,SV.den,aj,aL]
    have e:s.ew n a m=0:=by unfold FF.ew;rw[if_neg (by omega),if_neg (by omega)]
    exact⟨by rw[show s.ek n a m=_ from by unfold FF.ek;rw[if_pos e],e];rfl,rfl⟩
end Go.X.Tr

namespace Go.X.Tr
open Go Go.Proofs Go.X
set_option maxRecDepth 20000
set_option maxHeartbeats 4000000
end Go.X.Tr

namespace Go.X.Tr
open Go Go.Proofs Go.X
set_option maxRecDepth 20000
set_option maxHeartbeats 4000000
theorem sg:ry Tryz.prog 231=true:=by kernel_rfl
theorem Hi(b o:Nat)(s:FC)(hI:s.toFF.Sh)(n a:Int)(x:ByteArray)(hx:x.size≤9223372036854775807):Spec Tryz.prog 137 [ptr b o 0,.int .i64 n,.int .i64 a,.string x] [.cells b o 321 (ay s),.fam ai (s.aD 9),.fam ai (s.aF 3)] (fun v H1=>v=bH 102 (s.b7 n a x)∧∃ t:FC,t.toFF=s.write n a x∧t.rP=s.rP∧t.rC=s.rC∧H1=[.cells b o 321 (ay t),.fam ai (FC.aD 9 t),.fam ai (FC.aF 3 t)]):=by
 refine Spec.go 68 [0,1,2,3,8,9,10,15,18,28,31] [] Tryz.func137 rfl rfl rfl ?_
 intro W
 refine ca (GD _ _ _ _) .h1 ?_
 rintro _ _ ⟨rfl,rfl⟩
 refine gO ?_
 refine cd rfl ?_ ?_<;>intro h1
 ·
  have i0:s.cx n 1≠0:=by assumption
  refine XE.aK rfl rfl (ab .h3 rfl ?_)
  try dsimp only[SW.den,SV.den,aj,aL]
  have e:s.b7 n a x=s.cx n 1:=by unfold FF.b7;rw[if_pos (by omega)]
  exact⟨by rw[e],s,by unfold FF.write;rw[if_neg (by omega)],rfl,rfl,rfl⟩
 ·
  obtain⟨i1,i2,i3,i4⟩:=FF.ly (show s.cx n 1=0 by simpa using h1)
  have i0:s.cx n 1=0:=by simpa using h1
  have hd:=hI.data n (by omega) (by omega)
  refine cd rfl ?_ ?_<;>intro h2
  ·
   refine XE.aK rfl rfl (ab .h3 rfl ?_)
   try dsimp only[SW.den,SV.den,aj,aL]
   have e:s.b7 n a x=1:=by unfold FF.b7;rw[if_neg (by omega),if_pos (by omega)]
   exact⟨by rw[e]<;>rfl,s,by unfold FF.write;rw[if_neg (by omega)],rfl,rfl,rfl⟩
  ·
   refine sp 22 rfl ?_ ?_<;>intro h3
   ·
    refine XE.aK rfl rfl (ab .h3 rfl ?_)
    try dsimp only[SW.den,SV.den,aj,aL]
    have e:s.b7 n a x=4:=by unfold FF.b7;rw[if_neg (by omega),if_neg (by omega),if_pos (by omega)]
    exact⟨by rw[e]<;>rfl,s,by unfold FF.write;rw[if_neg (by omega)],rfl,rfl,rfl⟩
   ·
    refine sd (by omega) ?_
    refine cd rfl ?_ ?_<;>intro h4
    ·
     refine XE.aK rfl rfl (ab .h3 rfl ?_)
     try dsimp only[SW.den,SV.den,aj,aL]
     have e:s.b7 n a x=4:=by unfold FF.b7;rw[if_neg (by omega),if_neg (by omega),if_pos (by omega)]
     exact⟨by rw[e]<;>rfl,s,by unfold FF.write;rw[if_neg (by omega)],rfl,rfl,rfl⟩
    ·
     refine cd rfl ?_ ?_<;>intro h5
     ·
      refine XE.aK rfl rfl (ab .h3 rfl ?_)
      try dsimp only[SW.den,SV.den,aj,aL]
      have e:s.b7 n a x=0:=by unfold FF.b7;rw[if_neg (by omega),if_neg (by omega),if_neg (by omega)]
      exact⟨by rw[e]<;>rfl,s,by unfold FF.write;rw[if_neg (fun q=>q.2 (by assumption))],rfl,rfl,rfl⟩
     ·
      have hx0:x.size≠0:=fun q=>(by assumption:¬x=⟨#[]⟩) (Gl.2 q)
      have hxe:x≠ByteArray.empty:=by assumption
      refine sd (by omega) ?_
      refine ld .here (ay.o3 _ _ (by omega)) ?_
      refine sd (by omega) ?_
      refine XO.Br rfl rfl (by omega) sg rfl ?_
      intro bb
      refine gO ?_
      refine sd (by omega) ?_
      refine ld (.there .here) (ay.o3 _ _ (by omega)) ?_
      refine XO.Ah rfl rfl sg (by omega) (by omega) .here rfl rfl ?_
      refine gO ?_
      refine XO.v (V.H5 rfl rfl sg (by omega)) rfl (gO ?_)
      refine XO.Ah rfl rfl sg (by omega) (by omega) .here rfl rfl ?_
      refine gO ?_
      refine rq [0,1,2,3,4,5,6,7,8] mixed (by kernel_rfl) ?_
      refine XO.l (V.Mj (B:=IS (s.data n) a.toNat x) rfl (by rw[FF.nB];omega) (dm .here) ⟨by rw[FF.nB];omega,fun i h=>Gh _ _ _ i h⟩ sg Tryz.underlying9) rfl (gO ?_)
      refine sd (by omega) ?_
      refine st (.there .here) (ay.C4 _ _ (by omega) _) rfl ?_
      refine XE.aK rfl rfl (ab (.cons (.there .here) (.cons (.there .here) (.cons (.there .here) .nil))) rfl ?_)
      try dsimp only[SW.den,SV.den,aj,aL]
      have e:s.b7 n a x=0:=by unfold FF.b7;rw[if_neg (by omega),if_neg (by omega),if_neg (by omega)]
      exact⟨by rw[e]<;>rfl,({s with data:=aa s.data n (IS (s.data n) a.toNat x)} :FC),by unfold FF.write;rw[if_pos ⟨e,hxe⟩],rfl,rfl,rfl⟩
end Go.X.Tr
