import Derived.Test.YthdinakloheinaaGreatDoorkVBT
import Derived.Test.YthdinakloheinaaGreatDoorXClose
import Derived.Shelf.SlSortCmp.WholeK
import Derived.Shelf.SlGeneric
import Derived.Ground.SlsfProg
import Derived.Test.YthdinakloheinaaGreatDoorProg
import Derived.Test.YthdinakloheinaaGreatDoorkVW
import Derived.Test.YthdinakloheinaaGreatDoorkNOP
namespace Go.X.Vm
open Go Go.X
set_option maxRecDepth 20000
set_option maxHeartbeats 4000000
structure RB where
 f:Fin 17
 n:Int
 w:Bool
instance:Inhabited RB:=⟨⟨0,0,false⟩⟩
def RB.rg(x:RB):RG:=⟨((x.f:Nat):Int),x.n,x.w⟩
def RG.rb(r:RG):RB:=⟨⟨r.fr.toNat%17,Nat.mod_lt _ (by omega)⟩,r.n,r.w⟩
theorem RG.Ns{r:RG}(h:0≤r.fr∧r.fr≤16):r.rb.rg=r:=by
 cases r with
 | mk f n w=>
  simp only[RG.rb,RB.rg,RG.mk.injEq,and_true]
  simp only at h
  have:f.toNat%17=f.toNat:=Nat.mod_eq_of_lt (by omega)
  simp only[this];omega
def b7(x:RB):List Value:=[.int .i64 ((x.f:Nat):Int),.int .i64 x.n,.bool x.w]
def B8(x y:RB):Int:=((x.f:Nat):Int)-((y.f:Nat):Int)
theorem qg(x y:RB):Go.Proofs.ltOf B8 x y=decide ((x.f:Nat)<(y.f:Nat)):=by
 unfold Go.Proofs.ltOf B8
 congr 1
 apply propext
 omega
theorem DP:Sort.SWO (Go.Proofs.ltOf B8) where
 irrefl x:=by rw[qg];simp
 trans x y z h1 h2:=by rw[qg]at*;simp only[decide_eq_true_eq]at*;omega
 ntrans x y z h1 h2:=by rw[qg]at*;simp only[decide_eq_false_iff_not]at*;omega
theorem EH(x:RB):(b7 x).length=3:=rfl
theorem DO(x:RB):∀ v∈b7 x,v.oneCell'=true:=fun v hv=>by
 simp[b7]at hv
 rcases hv with rfl | rfl | rfl<;>rfl
theorem AM(d:Array RB):(Sort.flatK b7 3 d).toList=bz (dD (d.toList.map RB.rg)) (d.size*3):=by
 unfold Sort.flatK bz
 rw[Array.toList_map,Array.toList_range]
 apply List.map_congr_left
 intro t ht
 have ht2:t<d.size*3:=by simpa using ht
 have e:(d.toList.map RB.rg).getD (t/3) RG.nil=(d[t/3]!).rg:=by
  have:t/3<d.size:=by omega
  simp[this]
 unfold dD
 rw[e]
 have h:t%3=0∨t%3=1∨t%3=2:=by omega
 rcases h with h | h | h<;>rw[h]<;>rfl
theorem ve{P:Program}{ρ:Shelf.Ren}(L:Go.Proofs.SlLaysF0.n6 P ρ)(aE:∀ w,(isAgg (ρ.t 24)).run P w= .ok true w)(zE:∀ w,(Go.sizeOf (ρ.t 24)).run P w= .ok 3 w)(gcl:Nat)(eg:∀ args w,(callFunc gcl args).run P w= .ok (.enter gcl args) w)(hc:Ij P gcl b7 B8)(p:Option Addr)(c:Nat)(e:TypeId)(l:List RG)(hl:∀ r∈l,0≤r.fr∧r.fr≤16)(hlt:l.length≤100000):Spec P (ρ.f 6) [.slice p l.length c,.func (.func gcl) #[] #[]] [bj p c e 3 l.length (dD l)] (fun v H1=>v= .tuple #[]∧∃ l':List RG,l.Perm l'∧l'.Pairwise (fun x y=>x.fr≤y.fr)∧H1=[bj p c e 3 l.length (dD l')]):=by
 have hmap:((l.map RG.rb).map RB.rg)=l:=by
  rw[List.map_map]
  conv=>rhs;rw[←List.map_id l]
  apply List.map_congr_left
  intro r hr
  exact RG.Ns (hl r hr)
 have h:=Ei L 3 aE zE b7 EH DO B8 DP gcl eg hc p l.length c e (l.map RG.rb).toArray (by simp) (by omega)
 rw[AM]at h
 simp only[List.toList_toArray,hmap,List.size_toArray,List.length_map]at h
 intro w hw
 refine(h w hw).mono ?_
 rintro ee w' ⟨v,H',he,⟨hv,d',hp,hs,hH⟩,h3,h4⟩
 have hsz:d'.size=l.length:=by rw[hp.1];simp
 have hpm:d'.toList.Perm (l.map RG.rb):=by
  have h2:=hp.2.2
  have e1:d'.extract 0 l.length=d':=by rw[←hsz];exact Array.extract_size
  have e2:(l.map RG.rb).toArray.extract 0 l.length=(l.map RG.rb).toArray:=by
   have:l.length=(l.map RG.rb).toArray.size:=by simp
   rw[this];exact Array.extract_size
  rw[e1,e2]at h2
  simpa using h2
 refine⟨v,H',he,⟨hv,d'.toList.map RB.rg,?_,?_,?_⟩,h3,h4⟩
 ·have:=hpm.map RB.rg
  rw[hmap]at this
  exact this.symm
 ·rw[List.pairwise_map,List.pairwise_iff_getElem]
  intro i j hi hj hij
  have hj':j<d'.size:=by simpa using hj
  have hi':i<d'.size:=by omega
  have:=hs i j (Nat.zero_le _) hij (by omega)
  rw[qg]at this
  simp only[decide_eq_false_iff_not]at this
  simp only[hi',hj',getElem!_pos]at this
  simp only[Array.getElem_toList,RB.rg]
  omega
 ·rw[hH,AM,hsz]
end Go.X.Vm


namespace Go.Proofs
open Go.Shelf
def vS:Go.Shelf.Ren:=⟨fun | 6=>219 | 15=>242 | 14=>241 | 28=>262 | 29=>263 | 20=>254 | 21=>255 | 22=>256 | 23=>257 | 24=>258 | 25=>259 | 26=>260 | 27=>261 | 46=>272 | 47=>273 | 48=>274 | 49=>275 | 50=>276 | 57=>283 | n=>n,fun | 22=>140 | 24=>171 | 25=>250 | 3=>3 | 39=>258 | 0=>0 | 53=>257 | 55=>29 | 4=>4 | 46=>283 | 45=>282 | 50=>118 | 5=>5 | 9=>9 | 66=>294 | 70=>232 | 76=>302 | 77=>303 | n=>n,fun | n=>n⟩
theorem Iv:Go.Proofs.SlLaysF0.n6 Tryz.prog vS:= {
 mixed:=by kernel_rfl
 f6:=⟨Tryz.f219.name,by decide,Tryz.func219.trans (congrArg some (by kernel_rfl))⟩
 f14:=⟨Tryz.f241.name,by decide,Tryz.func241.trans (congrArg some (by kernel_rfl))⟩
 f15:=Tryz.func242.trans (congrArg some (by kernel_rfl))
 f20:=⟨Tryz.f254.name,by decide,Tryz.func254.trans (congrArg some (by kernel_rfl))⟩
 f21:=⟨Tryz.f255.name,by decide,Tryz.func255.trans (congrArg some (by kernel_rfl))⟩
 f22:=⟨Tryz.f256.name,by decide,Tryz.func256.trans (congrArg some (by kernel_rfl))⟩
 f23:=⟨Tryz.f257.name,by decide,Tryz.func257.trans (congrArg some (by kernel_rfl))⟩
 f24:=⟨Tryz.f258.name,by decide,Tryz.func258.trans (congrArg some (by kernel_rfl))⟩
 f25:=⟨Tryz.f259.name,by decide,Tryz.func259.trans (congrArg some (by kernel_rfl))⟩
 f26:=⟨Tryz.f260.name,by decide,Tryz.func260.trans (congrArg some (by kernel_rfl))⟩
 f27:=⟨Tryz.f261.name,by decide,Tryz.func261.trans (congrArg some (by kernel_rfl))⟩
 f28:=Tryz.func262.trans (congrArg some (by kernel_rfl))
 f29:=Tryz.func263.trans (congrArg some (by kernel_rfl))
 f46:=⟨Tryz.f272.name,by decide,Tryz.func272.trans (congrArg some (by kernel_rfl))⟩
 f47:=Tryz.func273.trans (congrArg some (by kernel_rfl))
 f48:=Tryz.func274.trans (congrArg some (by kernel_rfl))
 f49:=⟨Tryz.f275.name,by decide,Tryz.func275.trans (congrArg some (by kernel_rfl))⟩
 f50:=⟨Tryz.f276.name,by decide,Tryz.func276.trans (congrArg some (by kernel_rfl))⟩
 f57:=⟨Tryz.f283.name,by decide,Tryz.func283.trans (congrArg some (by kernel_rfl))⟩
 t0:=Tryz.underlying0
 a0:=Tryz.isAgg0
 z0:=Tryz.sizeOf0
 v0:=Tryz.zeroValue0
 t3:=Tryz.underlying3
 a3:=Tryz.isAgg3
 z3:=Tryz.sizeOf3
 v3:=Tryz.zeroValue3
 t4:=Tryz.underlying4
 a4:=Tryz.isAgg4
 z4:=Tryz.sizeOf4
 v4:=Tryz.zeroValue4
 t5:=Tryz.underlying5
 a5:=Tryz.isAgg5
 z5:=Tryz.sizeOf5
 v5:=Tryz.zeroValue5
 t9:=Tryz.underlying9
 a9:=Tryz.isAgg9
 z9:=Tryz.sizeOf9
 v9:=Tryz.zeroValue9
 t22:=Tryz.underlying140
 a22:=Tryz.isAgg140
 z22:=Tryz.sizeOf140
 v22:=Tryz.zeroValue140
 t25:=Tryz.underlying250
 a25:=Tryz.isAgg250
 z25:=Tryz.sizeOf250
 v25:=Tryz.zeroValue250
 t39:=Tryz.underlying258
 a39:=Tryz.isAgg258
 z39:=Tryz.sizeOf258
 v39:=Tryz.zeroValue258
 t45:=Tryz.underlying282
 a45:=Tryz.isAgg282
 z45:=Tryz.sizeOf282
 v45:=Tryz.zeroValue282
 t46:=Tryz.underlying283
 a46:=Tryz.isAgg283
 z46:=Tryz.sizeOf283
 v46:=Tryz.zeroValue283
 t50:=Tryz.underlying118
 a50:=Tryz.isAgg118
 z50:=Tryz.sizeOf118
 v50:=Tryz.zeroValue118
 t53:=Tryz.underlying257
 a53:=Tryz.isAgg257
 z53:=Tryz.sizeOf257
 v53:=Tryz.zeroValue257
 t55:=Tryz.underlying29
 a55:=Tryz.isAgg29
 z55:=Tryz.sizeOf29
 v55:=Tryz.zeroValue29
 t66:=Tryz.underlying294
 a66:=Tryz.isAgg294
 z66:=Tryz.sizeOf294
 v66:=Tryz.zeroValue294
 t70:=Tryz.underlying232
 a70:=Tryz.isAgg232
 z70:=Tryz.sizeOf232
 v70:=Tryz.zeroValue232
 t76:=Tryz.underlying302
 a76:=Tryz.isAgg302
 z76:=Tryz.sizeOf302
 v76:=Tryz.zeroValue302
 t77:=Tryz.underlying303
 a77:=Tryz.isAgg303
 z77:=Tryz.sizeOf303
 v77:=Tryz.zeroValue303}
end Go.Proofs

namespace Go.X.Vm
open Go Go.Proofs Go.X
set_option maxRecDepth 20000
set_option maxHeartbeats 4000000
theorem Lk:jW Tryz.prog 142=true:=by kernel_rfl
theorem iK:kV Tryz.prog 171 3=true:=by kernel_rfl
theorem iX:fT Tryz.prog 3=true:=by kernel_rfl
theorem Es:dx Tryz.prog 142=some 2:=by kernel_rfl
theorem MM:Ij Tryz.prog 220 b7 B8:=fun x y w=>by
 refine enter (ps:=[2,3,4]) (cs:=[]) Tryz.func220 rfl rfl ?_ (M:=fun w'=>w'=w) rfl
 refine gC (K:=[]) (Q0:=bodyPost _ _ _) ?_
 refine XO.M4 rfl rfl ?_
 refine XO.M4 rfl rfl ?_
 refine gO ?_
 refine oL ?_
 refine XO.l (V.JZ (v:=.int .i64 ((x.f:Nat):Int)) rfl (fun w' hw=>by rw[hw];exact HW rfl) iX) rfl (gO ?_)
 refine oL ?_
 refine XO.l (V.JZ (v:=.int .i64 ((y.f:Nat):Int)) rfl (fun w' hw=>by rw[hw];exact DI rfl) iX) rfl (gO ?_)
 refine sd (by have:=x.f.isLt;have:=y.f.isLt;omega) ?_
 exact XE.aV rfl rfl (fun w' hw=>⟨rfl,_,hw.trans (DV _ _ _)⟩)
theorem J7(p:Option Addr)(c:Nat)(l:List RG)(hl:∀ r∈l,0≤r.fr∧r.fr≤16)(hlt:l.length≤100000):Spec Tryz.prog 219 [.slice p l.length c,.func (.func 220) #[] #[]] [bj p c 171 3 l.length (dD l)] (fun v H1=>v= .tuple #[]∧∃ l':List RG,l.Perm l'∧l'.Pairwise (fun x y=>x.fr≤y.fr)∧H1=[bj p c 171 3 l.length (dD l')]):=
 ve Iv Tryz.isAgg171 Tryz.sizeOf171 220 (Go.Proofs.enters_of Tryz.func220 (by kernel_rfl) rfl) MM p c 171 l hl hlt
theorem HB(p:Option Addr)(c:Nat)(l:List RG)(hn:l.length≤100):Spec Tryz.prog 124 [.slice p l.length c] [bj p c 171 3 l.length (dD l)] (fun v H1=>∃ p1 c1,v= .slice p1 l.length c1∧H1=[bj p c 171 3 l.length (dD l),bj p1 c1 171 3 l.length (dD l)]):=by
 refine Spec.go 8 [0,2,4] [] Tryz.func124 rfl rfl rfl ?_
 intro W
 refine XO.v (V.rO rfl Tryz.underlying140 rfl) rfl (gO ?_)
 refine cd rfl ?_ ?_<;>intro h1
 ·
  subst h1
  refine XR.LC .here ?_
  intro hn0
  refine XR.dH 171 3 ?_
  refine XE.aV rfl rfl (ab (.cons (.there .here) .h1) rfl ?_)
  exact⟨none,0,by rw[hn0];rfl,by rw[hn0];rfl⟩
 ·
  refine XR.rowAt .here h1 ?_
  intro g hg
  subst hg
  refine XO.Gb (e:=171) (vs:= #[]) (A:= #[]) (sz:=3) rfl (fun _=>by kernel_rfl) rfl (by omega) rfl ?_
  intro b1
  refine gO ?_
  refine XO.CB (e:=171) rfl rfl Tryz.underlying140 iK .here (.there .here) Cf (by omega) rfl ?_
  intro p1 c1
  refine gO ?_
  refine XE.aV rfl rfl (ab (.cons (.there .here) .h1) rfl ?_)
  exact⟨p1,c1,by simp only[Nat.zero_add];rfl,by simp only[Nat.zero_add,List.nil_append]⟩
theorem rH(kb mb:Nat)(p:Option Addr)(c:Nat)(m:MS)(hm:m.Ok):Spec Tryz.prog 50 [ptr mb 0 0] [.cells mb 0 34 (bE kb p (runs m.aI).length c m.fr m.own)] (fun v H1=>v= .int .i64 m.res∧H1=[.cells mb 0 34 (bE kb p (runs m.aI).length c m.fr m.own)]):=by
 refine Spec.go 20 [0,2,3,5,9,10,11,15] [] Tryz.func50 rfl rfl rfl ?_
 intro W
 refine nc .here (zo _ _ _ _ _ _) ?_
 refine lp (σ:=Int) (fun i=>(16-i).toNat) (fun i=>0≤i∧i≤16) (fun i=>[(10,.int .i64 i),(3,.int .i64 (sS m.fr i.toNat)),(9,.agg (JF m.fr m.own))]) (fun i=>XM W (bS [.cells mb 0 34 (bE kb p (runs m.aI).length c m.fr m.own)]) [.cells mb 0 34 (bE kb p (runs m.aI).length c m.fr m.own)]) (0) ?_ (S3 rfl rfl rfl) (fun _ hw=>XM.pick .h1 hw) ?_
 ·
  omega
 intro i hi
 have hlo:=hm.lo i
 have hrs:=Aw m.fr i.toNat
 refine gC ?_
 refine cd rfl ?_ ?_<;>intro h1
 ·
  refine XO.v (V.CE rfl rfl Tryz.underlying143 Es Lk (by omega) (LN (by omega))) rfl (gO ?_)
  refine XO.cY (z:=.agg #[.int .i64 0,.bool false]) (m:=2) (C:=Bk 0 false) (by kernel_rfl) rfl (Bk.box _ _) rfl ?_
  intro pb
  refine gO ?_
  refine jA .here (Bk.st _ _ _ _) rfl ⟨rfl,rfl⟩ ?_
  refine ld .here (Bk.f _ _) ?_
  refine cd rfl ?_ ?_<;>intro h2
  ·
   refine sd (by omega) ?_
   refine sd (by omega) ?_
   refine ag (i+1) ?_ ?_ (S3 rfl (sV (by rw[uD _ hi.1,if_pos (by omega)])) rfl) (fun _ hw=>XM.pick (.cons (.there .here) .nil) hw)
   ·
    (first | omega | (simp;done) | (simp;omega))
   ·
    (first | omega | (simp;done) | (simp;omega))
  ·
   refine sd (by omega) ?_
   refine ag (i+1) ?_ ?_ (S3 rfl (sV (by rw[uD _ hi.1,if_neg (by omega)];omega)) rfl) (fun _ hw=>XM.pick (.cons (.there .here) .nil) hw)
   ·
    (first | omega | (simp;done) | (simp;omega))
   ·
    (first | omega | (simp;done) | (simp;omega))
 ·
  refine XE.aV rfl rfl (ab .h1 rfl ?_)
  have e:i=16:=by omega
  subst e
  exact⟨rfl,rfl⟩
end Go.X.Vm

namespace Go.X.Vm
open Go Go.Proofs Go.X
set_option maxRecDepth 20000
set_option maxHeartbeats 4000000
theorem jl:kV Tryz.prog 3 1=true:=by kernel_rfl
theorem Kz(kb mb:Nat)(p:Option Addr)(c:Nat)(l:List RG)(fr:Int→Int)(own:Int→Bool)(f:Int→Int)(hf:Hd f)(hg:GL l)(hc:JG l f)(hl:l.length≤100):Spec Tryz.prog 180 [ptr mb 0 0] [.cells mb 0 34 (bE kb p l.length c fr own),bj p c 171 3 l.length (dD l)] (fun v H1=>v= .tuple #[]∧∃ p2 c2,H1=[.cells mb 0 34 (bE kb p2 (runs f).length c2 fr own),bj p2 c2 171 3 (runs f).length (dD (runs f))]):=by
 refine Spec.go 70 [0,2,4,5,14,15,16,17,50] [] Tryz.func180 rfl rfl rfl ?_
 intro W
 refine ld .here (bE.Io _ _ _ _ _ _) ?_
 refine ca (J7 _ _ _ (C9 hg) (by omega)) (.cons (.there .here) .nil) ?_
 rintro _ _ ⟨rfl,l2,hp,hs,rfl⟩
 have hn:l.length=l2.length:=hp.length_eq
 have hmg:=HZ (hg.perm hp) (hc.perm hp) hf hs
 refine gO ?_
 refine XR.dH 171 3 ?_
 refine ld (.t2 .here) (bE.Io _ _ _ _ _ _) ?_
 refine lp (σ:=Int×List RG×Option Addr×Nat) (fun x=>(l.length-x.1).toNat) (fun x=>(0≤x.1∧x.1≤l.length)∧x.2.1=mg (l2.take x.1.toNat)) (fun x=>[(16,.int .i64 x.1),(2,.slice x.2.2.1 x.2.1.length x.2.2.2),(0,ptr mb 0 0),(14,.slice p l.length c),(15,.int .i64 l.length)]) (fun x=>XM W (bS [.cells mb 0 34 (bE kb p l.length c fr own),bj p c 171 3 l.length (dD l)]) [.cells mb 0 34 (bE kb p l.length c fr own),bj p c 171 3 l.length (dD l2),bj x.2.2.1 x.2.2.2 171 3 x.2.1.length (dD x.2.1)]) ((0,[],none,0)) ?_ (S5 rfl rfl rfl rfl rfl) (fun _ hw=>XM.pick (.cons (.t2 .here) (.cons (.there .here) .h1)) hw) ?_
 ·
  exact⟨by simp,rfl⟩
 intro x hx
 obtain⟨hi,hac⟩:=hx
 have hal:x.2.1.length≤x.1:=by
  rw[hac];exact Int.le_trans (Int.ofNat_le.2 (DT _ _ rfl)) (by rw[List.length_take];omega)
 have hab:∀ r∈x.2.1,0≤r.fr∧0<r.n∧r.fr+r.n≤16:=by
  rw[hac];exact Mp _ _ rfl (fun r hr=>(hg.perm hp).b r (List.mem_of_mem_take hr))
 refine gC ?_
 refine cd rfl ?_ ?_<;>intro h1
 ·
  refine XR.db (.there .here) (by omega) ?_
  intro g1 h2
  subst h2
  refine sd (by omega) ?_
  refine px (.there .here) (dD.NP hn (by omega)) ?_
  refine XO.cY (z:=.agg RG.nil.arr) (m:=3) (C:=jO RG.nil) (by kernel_rfl) rfl (jO.box _) rfl ?_
  intro rb
  refine gO ?_
  refine jA .here (jO.st _ _) rfl ⟨rfl,rfl⟩ ?_
  refine sd (by omega) ?_
  refine rq [0,1,2,3,4,5,6,7,8,9,10,11,12,13,14,15,16,17,18,19,20,21,22,23,24,25,26,27] mixed (by kernel_rfl) ?_
  refine sp 25 rfl ?_ ?_<;>intro h3
  ·
   have hpos:0<x.2.1.length:=by omega
   have hlb:=hab _ (vi (z:=(x.2.1.length:Int)-1) (by omega))
   have hrb:=(hg.perm hp).b _ (vi (z:=x.1) (by omega))
   refine XR.db (.t3 .here) (by omega) ?_
   intro ga hga
   rw[hga]
   refine sd (by omega) ?_
   refine Jw (.t3 .here) (dD.f (by omega)) ?_
   refine sd (by omega) ?_
   refine Jw (.t3 .here) (dD.n (by omega)) ?_
   refine sd (by omega) ?_
   refine ld .here (jO.f _) ?_
   refine sp 41 rfl ?_ ?_<;>intro h4
   ·
    have DX:=h4
    refine sd (by omega) ?_
    refine Jw (.t3 .here) (dD.w (by omega)) ?_
    refine ld .here (jO.w _) ?_
    refine XO.v (V.gw rfl rfl Tryz.underlying4 rfl) rfl (gO ?_)
    refine Dy rfl ?_ ?_<;>intro h5
    ·try simp only[sb]at h5
     have h26:=h5
     refine rq [0,1,2,3,4,5,6,7,8,9,10] mixed (by kernel_rfl) ?_
     refine sd (by omega) ?_
     refine Jw (.t3 .here) (dD.n (by omega)) ?_
     refine ld .here (jO.n _) ?_
     refine sd (by omega) ?_
     refine sd (by omega) ?_
     refine Oy (.t3 .here) (dD.grow (by omega) _) rfl ?_
     refine sd (by omega) ?_
     refine ag ((x.1+1,sQ x.2.1 {(rat x.2.1 ((x.2.1.length:Int)-1))with n:=(rat x.2.1 ((x.2.1.length:Int)-1)).n+(rat l2 x.1).n},some ⟨ga,0,none⟩,x.2.2.2)) ?_ ?_ (S5 rfl (by show lk _ _=some (Value.slice _ (sQ _ _).length _);rw[pI hpos];rfl) rfl rfl rfl) (fun _ hw=>by show XM _ _ [_,_,bj _ _ _ _ (sQ _ _).length _] _;rw[pI hpos];exact XM.pick (.cons (.there .here) (.cons (.there .here) (.cons (.there .here) .nil))) hw)
     ·
      (simp;omega)
     ·
      refine⟨by simp;omega,?_⟩
      show sQ _ _=mg (l2.take (x.1+1).toNat)
      rw[iB (by omega),lQ,←hac,Ht hpos DX h26]
    ·try simp only[sb]at h5
     have h27:=h5
     refine nc .here (jO.agg _) ?_
     refine XO.buildSlice (e:=171) (vs:= #[(0,.agg (rat l2 x.1).arr)]) (A:=(rat l2 x.1).arr) rfl (fun _=>by kernel_rfl) rfl rfl ?_
     intro nb
     refine gO ?_
     refine XO.jZ (e:=171) (acc:=x.2.1) (r:=(rat l2 x.1)) rfl rfl Tryz.underlying140 iK (.t4 .here) .here (by omega) rfl ?_
     intro p3 c3
     refine gO ?_
     refine sd (by omega) ?_
     refine ag ((x.1+1,x.2.1++[(rat l2 x.1)],p3,c3)) ?_ ?_ (S5 rfl rfl rfl rfl rfl) (fun _ hw=>XM.pick (.cons (.t3 .here) (.cons (.t3 .here) .h1)) hw)
     ·
      (simp;omega)
     ·
      refine⟨by simp;omega,?_⟩
      show _++_=mg (l2.take (x.1+1).toNat)
      rw[iB (by omega),lQ,←hac,qY (by intro hp2 hh;first | omega | exact absurd hh.1 (by assumption) | exact absurd hh.2 (by assumption))]
   ·
    refine nc .here (jO.agg _) ?_
    refine XO.buildSlice (e:=171) (vs:= #[(0,.agg (rat l2 x.1).arr)]) (A:=(rat l2 x.1).arr) rfl (fun _=>by kernel_rfl) rfl rfl ?_
    intro nb
    refine gO ?_
    refine XO.jZ (e:=171) (acc:=x.2.1) (r:=(rat l2 x.1)) rfl rfl Tryz.underlying140 iK (.t4 .here) .here (by omega) rfl ?_
    intro p3 c3
    refine gO ?_
    refine sd (by omega) ?_
    refine ag ((x.1+1,x.2.1++[(rat l2 x.1)],p3,c3)) ?_ ?_ (S5 rfl rfl rfl rfl rfl) (fun _ hw=>XM.pick (.cons (.t3 .here) (.cons (.t3 .here) .h1)) hw)
    ·
     (simp;omega)
    ·
     refine⟨by simp;omega,?_⟩
     show _++_=mg (l2.take (x.1+1).toNat)
     rw[iB (by omega),lQ,←hac,qY (by intro hp2 hh;first | omega | exact absurd hh.1 (by assumption) | exact absurd hh.2 (by assumption))]
  ·
   refine nc .here (jO.agg _) ?_
   refine XO.buildSlice (e:=171) (vs:= #[(0,.agg (rat l2 x.1).arr)]) (A:=(rat l2 x.1).arr) rfl (fun _=>by kernel_rfl) rfl rfl ?_
   intro nb
   refine gO ?_
   refine XO.jZ (e:=171) (acc:=x.2.1) (r:=(rat l2 x.1)) rfl rfl Tryz.underlying140 iK (.t4 .here) .here (by omega) rfl ?_
   intro p3 c3
   refine gO ?_
   refine sd (by omega) ?_
   refine ag ((x.1+1,x.2.1++[(rat l2 x.1)],p3,c3)) ?_ ?_ (S5 rfl rfl rfl rfl rfl) (fun _ hw=>XM.pick (.cons (.t3 .here) (.cons (.t3 .here) .h1)) hw)
   ·
    (simp;omega)
   ·
    refine⟨by simp;omega,?_⟩
    show _++_=mg (l2.take (x.1+1).toNat)
    rw[iB (by omega),lQ,←hac,qY (by intro hp2 hh;first | omega | exact absurd hh.1 (by assumption) | exact absurd hh.2 (by assumption))]
 ·
  refine st .here (EK _ _ _ _ _ _ _ _ _) rfl ?_
  refine XE.fD rfl (ab (.cons .here (.cons (.there .here) .nil)) rfl ?_)
  have e:x.1=l.length:=by omega
  have e2:x.2.1=runs f:=by rw[hac,e,←hmg,List.take_of_length_le (by omega)]
  exact⟨rfl,x.2.2.1,x.2.2.2,by rw[←e2]⟩
set_option maxHeartbeats 8000000 in
theorem Hs(kb mb:Nat)(p:Option Addr)(c:Nat)(m:MS)(hm:m.Ok)(a n:Int)(hb:¬fB a n):Spec Tryz.prog 178 [ptr mb 0 0,.int .i64 a,.int .i64 n] [.cells mb 0 34 (bE kb p (runs m.aI).length c m.fr m.own),bj p c 171 3 (runs m.aI).length (dD (runs m.aI))] (fun v H1=>∃ p2 c2 p3 c3,v= .slice p3 ((runs m.aI).flatMap (mr a n)).length c3∧H1=[.cells mb 0 34 (bE kb p2 ((runs m.aI).flatMap (gn a n)).length c2 m.fr m.own),bj p2 c2 171 3 ((runs m.aI).flatMap (gn a n)).length (dD ((runs m.aI).flatMap (gn a n))),bk p3 c3 3 ((runs m.aI).flatMap (mr a n))]):=by
 have hLo:=mi hm.f
 have hL:=rh m.aI
 have hb2:=hb
 unfold fB at hb2
 refine Spec.go 96 [0,1,2,6,7,8,10,11,12,13,17,18,19,20,38,46,65,83] [(9,1),(11,1)] Tryz.func178 rfl rfl rfl ?_
 intro W
 refine XR.dH 171 3 ?_
 refine XR.dH 3 1 ?_
 refine ld (.t2 .here) (bE.Io _ _ _ _ _ _) ?_
 refine lp (σ:=Int×(Option Addr×Nat)×(Option Addr×Nat)) (fun x=>((runs m.aI).length-x.1).toNat) (fun x=>(0≤x.1∧x.1≤(runs m.aI).length)∧(List.flatMap (gn a n) (List.take x.1.toNat (runs m.aI))).length≤2*x.1∧(List.flatMap (mr a n) (List.take x.1.toNat (runs m.aI))).length≤16*x.1) (fun x=>[(19,.int .i64 x.1),(7,.slice x.2.1.1 (List.flatMap (gn a n) (List.take x.1.toNat (runs m.aI))).length x.2.1.2),(8,.slice x.2.2.1 (List.flatMap (mr a n) (List.take x.1.toNat (runs m.aI))).length x.2.2.2),(0,ptr mb 0 0),(1,.int .i64 a),(2,.int .i64 n),(17,.slice p (runs m.aI).length c),(18,.int .i64 (runs m.aI).length)]) (fun x=>XM W (bS [.cells mb 0 34 (bE kb p (runs m.aI).length c m.fr m.own),bj p c 171 3 (runs m.aI).length (dD (runs m.aI))]) [.cells mb 0 34 (bE kb p (runs m.aI).length c m.fr m.own),bj p c 171 3 (runs m.aI).length (dD (runs m.aI)),bj x.2.1.1 x.2.1.2 171 3 (List.flatMap (gn a n) (List.take x.1.toNat (runs m.aI))).length (dD (List.flatMap (gn a n) (List.take x.1.toNat (runs m.aI)))),bk x.2.2.1 x.2.2.2 3 (List.flatMap (mr a n) (List.take x.1.toNat (runs m.aI)))]) ((0,(none,0),(none,0))) ?_ (.cons rfl (.cons rfl (S6 rfl rfl rfl rfl rfl rfl))) (fun _ hw=>XM.pick (.cons (.t2 .here) (.cons (.t2 .here) (.cons (.there .here) .h1))) hw) ?_
 ·
  exact⟨by simp,by simp,by simp⟩
 intro x hx
 obtain⟨hi,hal,hhl⟩:=hx
 refine gC ?_
 refine cd rfl ?_ ?_<;>intro h1
 ·
  refine XR.db (.there .here) (by omega) ?_
  intro g1 h2
  subst h2
  refine sd (by omega) ?_
  refine px (.there .here) (dD.agg (by omega)) ?_
  refine XO.cY (z:=.agg RG.nil.arr) (m:=3) (C:=jO RG.nil) (by kernel_rfl) rfl (jO.box _) rfl ?_
  intro rb
  refine gO ?_
  refine jA .here (jO.st _ _) rfl ⟨rfl,rfl⟩ ?_
  refine rq [0,1,2,3,4,5,6,7,8,9,10,11,12,13,14] mixed (by kernel_rfl) ?_
  have hrb:=hLo.b _ (vi (z:=x.1) (by omega))
  refine ld .here (jO.f _) ?_
  refine ld .here (jO.f _) ?_
  refine ld .here (jO.n _) ?_
  refine sd (by omega) ?_
  refine sd (by omega) ?_
  refine cd rfl ?_ ?_<;>intro h3
  ·
   have ho:=HX (a:=a) (n:=n) (r:=(rat (runs m.aI) x.1)) (by omega)
   refine nc .here (jO.agg _) ?_
   refine XO.buildSlice (e:=171) (vs:= #[(0,.agg (rat (runs m.aI) x.1).arr)]) (A:=(rat (runs m.aI) x.1).arr) rfl (fun _=>by kernel_rfl) rfl rfl ?_
   intro nb
   refine gO ?_
   refine XO.jZ (e:=171) (acc:=(List.flatMap (gn a n) (List.take x.1.toNat (runs m.aI)))) (r:=(rat (runs m.aI) x.1)) rfl rfl Tryz.underlying140 iK (.t4 .here) .here (by omega) rfl ?_
   intro p3 c3
   refine gO ?_
   refine sd (by omega) ?_
   have hA:(List.flatMap (gn a n) (List.take (x.1+1).toNat (runs m.aI)))=(List.flatMap (gn a n) (List.take x.1.toNat (runs m.aI)))++[(rat (runs m.aI) x.1)]:=by rw[lI _ ⟨hi.1,by omega⟩,ho.1]
   have hH:(List.flatMap (mr a n) (List.take (x.1+1).toNat (runs m.aI)))=(List.flatMap (mr a n) (List.take x.1.toNat (runs m.aI))):=by rw[lI _ ⟨hi.1,by omega⟩,ho.2,List.append_nil]
   refine ag ((x.1+1,(p3,c3),x.2.2)) ?_ ?_ (.cons rfl (.cons (by show lk _ _=some (Value.slice _ (List.flatMap (gn a n) (List.take (x.1+1).toNat (runs m.aI))).length _);rw[hA];rfl) (S6 (by show lk _ _=some (Value.slice _ (List.flatMap (mr a n) (List.take (x.1+1).toNat (runs m.aI))).length _);rw[hH];rfl) rfl rfl rfl rfl rfl))) (fun _ hw=>by show XM _ _ [_,_,bj _ _ _ _ (List.flatMap (gn a n) (List.take (x.1+1).toNat (runs m.aI))).length (dD (List.flatMap (gn a n) (List.take (x.1+1).toNat (runs m.aI)))),bk _ _ _ (List.flatMap (mr a n) (List.take (x.1+1).toNat (runs m.aI)))] _;rw[hA,hH];exact XM.pick (.cons (.t3 .here) (.cons (.t3 .here) (.cons .here (.cons (.t2 .here) .nil)))) hw)
   ·
    (simp;omega)
   ·
    refine⟨by simp;omega,?_,?_⟩
    ·show((List.flatMap (gn a n) (List.take (x.1+1).toNat (runs m.aI))).length:Int)≤2*(x.1+1);rw[hA,List.length_append,List.length_singleton];omega
    ·show((List.flatMap (mr a n) (List.take (x.1+1).toNat (runs m.aI))).length:Int)≤16*(x.1+1);rw[hH];omega
  ·
   have hin:=Lf (a:=a) (n:=n) (r:=(rat (runs m.aI) x.1)) (by omega)
   refine JO (σ:=Option Addr×Nat) (fun _=>True) (fun y=>[(0,ptr mb 0 0),(1,.int .i64 a),(2,.int .i64 n),(7,.slice y.1 ((List.flatMap (gn a n) (List.take x.1.toNat (runs m.aI)))++(if(rat (runs m.aI) x.1).fr<(max (rat (runs m.aI) x.1).fr a)then [(⟨(rat (runs m.aI) x.1).fr,(max (rat (runs m.aI) x.1).fr a)-(rat (runs m.aI) x.1).fr,(rat (runs m.aI) x.1).w⟩:RG)]else [])).length y.2),(8,.slice x.2.2.1 (List.flatMap (mr a n) (List.take x.1.toNat (runs m.aI))).length x.2.2.2),(10,ptr rb 0 0),(11,.int .i64 (max (rat (runs m.aI) x.1).fr a)),(12,.int .i64 (min ((rat (runs m.aI) x.1).fr+(rat (runs m.aI) x.1).n) (a+n))),(17,.slice (some ⟨g1,0,none⟩) (runs m.aI).length c),(18,.int .i64 (runs m.aI).length),(19,.int .i64 x.1)]) (fun y=>XM W (bS [.cells mb 0 34 (bE kb (some ⟨g1,0,none⟩) (runs m.aI).length c m.fr m.own),bj (some ⟨g1,0,none⟩) c 171 3 (runs m.aI).length (dD (runs m.aI))]) [.cells rb 0 3 (jO (rat (runs m.aI) x.1)),.cells mb 0 34 (bE kb (some ⟨g1,0,none⟩) (runs m.aI).length c m.fr m.own),bj (some ⟨g1,0,none⟩) c 171 3 (runs m.aI).length (dD (runs m.aI)),bj y.1 y.2 171 3 ((List.flatMap (gn a n) (List.take x.1.toNat (runs m.aI)))++(if(rat (runs m.aI) x.1).fr<(max (rat (runs m.aI) x.1).fr a)then [(⟨(rat (runs m.aI) x.1).fr,(max (rat (runs m.aI) x.1).fr a)-(rat (runs m.aI) x.1).fr,(rat (runs m.aI) x.1).w⟩:RG)]else [])).length (dD ((List.flatMap (gn a n) (List.take x.1.toNat (runs m.aI)))++(if(rat (runs m.aI) x.1).fr<(max (rat (runs m.aI) x.1).fr a)then [(⟨(rat (runs m.aI) x.1).fr,(max (rat (runs m.aI) x.1).fr a)-(rat (runs m.aI) x.1).fr,(rat (runs m.aI) x.1).w⟩:RG)]else []))),bk x.2.2.1 x.2.2.2 3 (List.flatMap (mr a n) (List.take x.1.toNat (runs m.aI)))]) ?_ ?_
   ·
    refine ld .here (jO.f _) ?_
    refine cd rfl ?_ ?_<;>intro h4
    ·
     refine ld .here (jO.f _) ?_
     refine ld .here (jO.f _) ?_
     refine sd (by omega) ?_
     refine ld .here (jO.w _) ?_
     refine XO.v (V.build (vs:= #[(0,.int .i64 (rat (runs m.aI) x.1).fr),(1,.int .i64 ((max (rat (runs m.aI) x.1).fr a)-(rat (runs m.aI) x.1).fr)),(2,.bool (rat (runs m.aI) x.1).w)]) rfl (v:=.agg (RG.mk (rat (runs m.aI) x.1).fr ((max (rat (runs m.aI) x.1).fr a)-(rat (runs m.aI) x.1).fr) (rat (runs m.aI) x.1).w).arr) (fun _=>by kernel_rfl)) rfl (gO ?_)
     refine XO.buildSlice (e:=171) (vs:= #[(0,.agg (RG.mk (rat (runs m.aI) x.1).fr ((max (rat (runs m.aI) x.1).fr a)-(rat (runs m.aI) x.1).fr) (rat (runs m.aI) x.1).w).arr)]) (A:=(RG.mk (rat (runs m.aI) x.1).fr ((max (rat (runs m.aI) x.1).fr a)-(rat (runs m.aI) x.1).fr) (rat (runs m.aI) x.1).w).arr) rfl (fun _=>by kernel_rfl) rfl rfl ?_
     intro nb
     refine gO ?_
     refine XO.jZ (e:=171) (acc:=(List.flatMap (gn a n) (List.take x.1.toNat (runs m.aI)))) (r:=(RG.mk (rat (runs m.aI) x.1).fr ((max (rat (runs m.aI) x.1).fr a)-(rat (runs m.aI) x.1).fr) (rat (runs m.aI) x.1).w)) rfl rfl Tryz.underlying140 iK (.t4 .here) .here (by omega) rfl ?_
     intro p3 c3
     refine gO ?_
     refine Br ((p3,c3)) ?_ (.cons rfl (.cons rfl (.cons rfl (.cons (by rw[if_pos (by assumption)];rfl) (.cons rfl (S6 rfl rfl rfl rfl rfl rfl)))))) (fun _ hw=>by rw[if_pos (by assumption)];exact XM.pick (.cons (.t2 .here) (.cons (.t2 .here) (.cons (.t2 .here) (.cons .here (.cons (.there .here) .nil))))) hw)
     exact trivial
    ·
     refine Br ((x.2.1.1,x.2.1.2)) ?_ (.cons rfl (.cons rfl (.cons rfl (.cons (by rw[if_neg (by assumption),List.append_nil];rfl) (.cons rfl (S6 rfl rfl rfl rfl rfl rfl)))))) (fun _ hw=>by rw[if_neg (by assumption),List.append_nil];exact XM.pick .h5 hw)
     exact trivial
   intro y _
   refine gC ?_
   refine JO (σ:=Option Addr×Nat) (fun _=>True) (fun u=>[(0,ptr mb 0 0),(1,.int .i64 a),(2,.int .i64 n),(7,.slice u.1 ((List.flatMap (gn a n) (List.take x.1.toNat (runs m.aI)))++(if(rat (runs m.aI) x.1).fr<(max (rat (runs m.aI) x.1).fr a)then [(⟨(rat (runs m.aI) x.1).fr,(max (rat (runs m.aI) x.1).fr a)-(rat (runs m.aI) x.1).fr,(rat (runs m.aI) x.1).w⟩:RG)]else [])++(if(min ((rat (runs m.aI) x.1).fr+(rat (runs m.aI) x.1).n) (a+n))<(rat (runs m.aI) x.1).fr+(rat (runs m.aI) x.1).n then [(⟨(min ((rat (runs m.aI) x.1).fr+(rat (runs m.aI) x.1).n) (a+n)),(rat (runs m.aI) x.1).fr+(rat (runs m.aI) x.1).n-(min ((rat (runs m.aI) x.1).fr+(rat (runs m.aI) x.1).n) (a+n)),(rat (runs m.aI) x.1).w⟩:RG)]else [])).length u.2),(8,.slice x.2.2.1 (List.flatMap (mr a n) (List.take x.1.toNat (runs m.aI))).length x.2.2.2),(10,ptr rb 0 0),(11,.int .i64 (max (rat (runs m.aI) x.1).fr a)),(12,.int .i64 (min ((rat (runs m.aI) x.1).fr+(rat (runs m.aI) x.1).n) (a+n))),(17,.slice (some ⟨g1,0,none⟩) (runs m.aI).length c),(18,.int .i64 (runs m.aI).length),(19,.int .i64 x.1)]) (fun u=>XM W (bS [.cells mb 0 34 (bE kb (some ⟨g1,0,none⟩) (runs m.aI).length c m.fr m.own),bj (some ⟨g1,0,none⟩) c 171 3 (runs m.aI).length (dD (runs m.aI))]) [.cells rb 0 3 (jO (rat (runs m.aI) x.1)),.cells mb 0 34 (bE kb (some ⟨g1,0,none⟩) (runs m.aI).length c m.fr m.own),bj (some ⟨g1,0,none⟩) c 171 3 (runs m.aI).length (dD (runs m.aI)),bj u.1 u.2 171 3 ((List.flatMap (gn a n) (List.take x.1.toNat (runs m.aI)))++(if(rat (runs m.aI) x.1).fr<(max (rat (runs m.aI) x.1).fr a)then [(⟨(rat (runs m.aI) x.1).fr,(max (rat (runs m.aI) x.1).fr a)-(rat (runs m.aI) x.1).fr,(rat (runs m.aI) x.1).w⟩:RG)]else [])++(if(min ((rat (runs m.aI) x.1).fr+(rat (runs m.aI) x.1).n) (a+n))<(rat (runs m.aI) x.1).fr+(rat (runs m.aI) x.1).n then [(⟨(min ((rat (runs m.aI) x.1).fr+(rat (runs m.aI) x.1).n) (a+n)),(rat (runs m.aI) x.1).fr+(rat (runs m.aI) x.1).n-(min ((rat (runs m.aI) x.1).fr+(rat (runs m.aI) x.1).n) (a+n)),(rat (runs m.aI) x.1).w⟩:RG)]else [])).length (dD ((List.flatMap (gn a n) (List.take x.1.toNat (runs m.aI)))++(if(rat (runs m.aI) x.1).fr<(max (rat (runs m.aI) x.1).fr a)then [(⟨(rat (runs m.aI) x.1).fr,(max (rat (runs m.aI) x.1).fr a)-(rat (runs m.aI) x.1).fr,(rat (runs m.aI) x.1).w⟩:RG)]else [])++(if(min ((rat (runs m.aI) x.1).fr+(rat (runs m.aI) x.1).n) (a+n))<(rat (runs m.aI) x.1).fr+(rat (runs m.aI) x.1).n then [(⟨(min ((rat (runs m.aI) x.1).fr+(rat (runs m.aI) x.1).n) (a+n)),(rat (runs m.aI) x.1).fr+(rat (runs m.aI) x.1).n-(min ((rat (runs m.aI) x.1).fr+(rat (runs m.aI) x.1).n) (a+n)),(rat (runs m.aI) x.1).w⟩:RG)]else []))),bk x.2.2.1 x.2.2.2 3 (List.flatMap (mr a n) (List.take x.1.toNat (runs m.aI)))]) ?_ ?_
   ·
    refine ld .here (jO.f _) ?_
    refine ld .here (jO.n _) ?_
    refine sd (by omega) ?_
    refine cd rfl ?_ ?_<;>intro h5
    ·
     refine ld .here (jO.f _) ?_
     refine ld .here (jO.n _) ?_
     refine sd (by omega) ?_
     refine sd (by omega) ?_
     refine ld .here (jO.w _) ?_
     refine XO.v (V.build (vs:= #[(0,.int .i64 (min ((rat (runs m.aI) x.1).fr+(rat (runs m.aI) x.1).n) (a+n))),(1,.int .i64 ((rat (runs m.aI) x.1).fr+(rat (runs m.aI) x.1).n-(min ((rat (runs m.aI) x.1).fr+(rat (runs m.aI) x.1).n) (a+n)))),(2,.bool (rat (runs m.aI) x.1).w)]) rfl (v:=.agg (RG.mk (min ((rat (runs m.aI) x.1).fr+(rat (runs m.aI) x.1).n) (a+n)) ((rat (runs m.aI) x.1).fr+(rat (runs m.aI) x.1).n-(min ((rat (runs m.aI) x.1).fr+(rat (runs m.aI) x.1).n) (a+n))) (rat (runs m.aI) x.1).w).arr) (fun _=>by kernel_rfl)) rfl (gO ?_)
     refine XO.buildSlice (e:=171) (vs:= #[(0,.agg (RG.mk (min ((rat (runs m.aI) x.1).fr+(rat (runs m.aI) x.1).n) (a+n)) ((rat (runs m.aI) x.1).fr+(rat (runs m.aI) x.1).n-(min ((rat (runs m.aI) x.1).fr+(rat (runs m.aI) x.1).n) (a+n))) (rat (runs m.aI) x.1).w).arr)]) (A:=(RG.mk (min ((rat (runs m.aI) x.1).fr+(rat (runs m.aI) x.1).n) (a+n)) ((rat (runs m.aI) x.1).fr+(rat (runs m.aI) x.1).n-(min ((rat (runs m.aI) x.1).fr+(rat (runs m.aI) x.1).n) (a+n))) (rat (runs m.aI) x.1).w).arr) rfl (fun _=>by kernel_rfl) rfl rfl ?_
     intro nb
     refine gO ?_
     refine XO.jZ (e:=171) (acc:=((List.flatMap (gn a n) (List.take x.1.toNat (runs m.aI)))++(if(rat (runs m.aI) x.1).fr<(max (rat (runs m.aI) x.1).fr a)then [(⟨(rat (runs m.aI) x.1).fr,(max (rat (runs m.aI) x.1).fr a)-(rat (runs m.aI) x.1).fr,(rat (runs m.aI) x.1).w⟩:RG)]else []))) (r:=(RG.mk (min ((rat (runs m.aI) x.1).fr+(rat (runs m.aI) x.1).n) (a+n)) ((rat (runs m.aI) x.1).fr+(rat (runs m.aI) x.1).n-(min ((rat (runs m.aI) x.1).fr+(rat (runs m.aI) x.1).n) (a+n))) (rat (runs m.aI) x.1).w)) rfl rfl Tryz.underlying140 iK (.t4 .here) .here (by rw[List.length_append];have hx1:=LY ((rat (runs m.aI) x.1).fr<(max (rat (runs m.aI) x.1).fr a)) (⟨(rat (runs m.aI) x.1).fr,(max (rat (runs m.aI) x.1).fr a)-(rat (runs m.aI) x.1).fr,(rat (runs m.aI) x.1).w⟩:RG);omega) rfl ?_
     intro p3 c3
     refine gO ?_
     refine Br ((p3,c3)) ?_ (.cons rfl (.cons rfl (.cons rfl (.cons (by rw[if_pos (c:=(min ((rat (runs m.aI) x.1).fr+(rat (runs m.aI) x.1).n) (a+n))<_) (by assumption)];rfl) (.cons rfl (S6 rfl rfl rfl rfl rfl rfl)))))) (fun _ hw=>by rw[if_pos (c:=(min ((rat (runs m.aI) x.1).fr+(rat (runs m.aI) x.1).n) (a+n))<_) (by assumption)];exact XM.pick (.cons (.t2 .here) (.cons (.t2 .here) (.cons (.t2 .here) (.cons .here (.cons (.there .here) .nil))))) hw)
     exact trivial
    ·
     refine Br ((y.1,y.2)) ?_ (.cons rfl (.cons rfl (.cons rfl (.cons (by rw[if_neg (c:=(min ((rat (runs m.aI) x.1).fr+(rat (runs m.aI) x.1).n) (a+n))<_) (by assumption),List.append_nil];rfl) (.cons rfl (S6 rfl rfl rfl rfl rfl rfl)))))) (fun _ hw=>by rw[if_neg (c:=(min ((rat (runs m.aI) x.1).fr+(rat (runs m.aI) x.1).n) (a+n))<_) (by assumption),List.append_nil];exact XM.pick .h5 hw)
     exact trivial
   intro u _
   refine gC ?_
   refine lp (σ:=Int×Option Addr×Nat) (fun z=>((min ((rat (runs m.aI) x.1).fr+(rat (runs m.aI) x.1).n) (a+n))-z.1).toNat) (fun z=>(max (rat (runs m.aI) x.1).fr a)≤z.1∧z.1≤(min ((rat (runs m.aI) x.1).fr+(rat (runs m.aI) x.1).n) (a+n))) (fun z=>[(13,.int .i64 z.1),(8,.slice z.2.1 ((List.flatMap (mr a n) (List.take x.1.toNat (runs m.aI)))++eC (max (rat (runs m.aI) x.1).fr a) (z.1-(max (rat (runs m.aI) x.1).fr a)).toNat).length z.2.2),(0,ptr mb 0 0),(1,.int .i64 a),(2,.int .i64 n),(7,.slice u.1 ((List.flatMap (gn a n) (List.take x.1.toNat (runs m.aI)))++(if(rat (runs m.aI) x.1).fr<(max (rat (runs m.aI) x.1).fr a)then [(⟨(rat (runs m.aI) x.1).fr,(max (rat (runs m.aI) x.1).fr a)-(rat (runs m.aI) x.1).fr,(rat (runs m.aI) x.1).w⟩:RG)]else [])++(if(min ((rat (runs m.aI) x.1).fr+(rat (runs m.aI) x.1).n) (a+n))<(rat (runs m.aI) x.1).fr+(rat (runs m.aI) x.1).n then [(⟨(min ((rat (runs m.aI) x.1).fr+(rat (runs m.aI) x.1).n) (a+n)),(rat (runs m.aI) x.1).fr+(rat (runs m.aI) x.1).n-(min ((rat (runs m.aI) x.1).fr+(rat (runs m.aI) x.1).n) (a+n)),(rat (runs m.aI) x.1).w⟩:RG)]else [])).length u.2),(12,.int .i64 (min ((rat (runs m.aI) x.1).fr+(rat (runs m.aI) x.1).n) (a+n))),(17,.slice (some ⟨g1,0,none⟩) (runs m.aI).length c),(18,.int .i64 (runs m.aI).length),(19,.int .i64 x.1)]) (fun z=>XM W (bS [.cells mb 0 34 (bE kb (some ⟨g1,0,none⟩) (runs m.aI).length c m.fr m.own),bj (some ⟨g1,0,none⟩) c 171 3 (runs m.aI).length (dD (runs m.aI))]) [.cells mb 0 34 (bE kb (some ⟨g1,0,none⟩) (runs m.aI).length c m.fr m.own),bj (some ⟨g1,0,none⟩) c 171 3 (runs m.aI).length (dD (runs m.aI)),bj u.1 u.2 171 3 ((List.flatMap (gn a n) (List.take x.1.toNat (runs m.aI)))++(if(rat (runs m.aI) x.1).fr<(max (rat (runs m.aI) x.1).fr a)then [(⟨(rat (runs m.aI) x.1).fr,(max (rat (runs m.aI) x.1).fr a)-(rat (runs m.aI) x.1).fr,(rat (runs m.aI) x.1).w⟩:RG)]else [])++(if(min ((rat (runs m.aI) x.1).fr+(rat (runs m.aI) x.1).n) (a+n))<(rat (runs m.aI) x.1).fr+(rat (runs m.aI) x.1).n then [(⟨(min ((rat (runs m.aI) x.1).fr+(rat (runs m.aI) x.1).n) (a+n)),(rat (runs m.aI) x.1).fr+(rat (runs m.aI) x.1).n-(min ((rat (runs m.aI) x.1).fr+(rat (runs m.aI) x.1).n) (a+n)),(rat (runs m.aI) x.1).w⟩:RG)]else [])).length (dD ((List.flatMap (gn a n) (List.take x.1.toNat (runs m.aI)))++(if(rat (runs m.aI) x.1).fr<(max (rat (runs m.aI) x.1).fr a)then [(⟨(rat (runs m.aI) x.1).fr,(max (rat (runs m.aI) x.1).fr a)-(rat (runs m.aI) x.1).fr,(rat (runs m.aI) x.1).w⟩:RG)]else [])++(if(min ((rat (runs m.aI) x.1).fr+(rat (runs m.aI) x.1).n) (a+n))<(rat (runs m.aI) x.1).fr+(rat (runs m.aI) x.1).n then [(⟨(min ((rat (runs m.aI) x.1).fr+(rat (runs m.aI) x.1).n) (a+n)),(rat (runs m.aI) x.1).fr+(rat (runs m.aI) x.1).n-(min ((rat (runs m.aI) x.1).fr+(rat (runs m.aI) x.1).n) (a+n)),(rat (runs m.aI) x.1).w⟩:RG)]else []))),bk z.2.1 z.2.2 3 ((List.flatMap (mr a n) (List.take x.1.toNat (runs m.aI)))++eC (max (rat (runs m.aI) x.1).fr a) (z.1-(max (rat (runs m.aI) x.1).fr a)).toNat)]) (((max (rat (runs m.aI) x.1).fr a),x.2.2)) ?_ (.cons rfl (.cons (by show lk _ _=some (Value.slice _ ((List.flatMap (mr a n) (List.take x.1.toNat (runs m.aI)))++eC (max (rat (runs m.aI) x.1).fr a) ((max (rat (runs m.aI) x.1).fr a)-(max (rat (runs m.aI) x.1).fr a)).toNat).length _);rw[show((max (rat (runs m.aI) x.1).fr a)-(max (rat (runs m.aI) x.1).fr a)).toNat=0 from by omega,eC,List.append_nil];rfl) (.cons rfl (.cons rfl (S6 rfl rfl rfl rfl rfl rfl))))) (fun _ hw=>by show XM _ _ [_,_,_,bk _ _ _ ((List.flatMap (mr a n) (List.take x.1.toNat (runs m.aI)))++eC (max (rat (runs m.aI) x.1).fr a) ((max (rat (runs m.aI) x.1).fr a)-(max (rat (runs m.aI) x.1).fr a)).toNat)] _;rw[show((max (rat (runs m.aI) x.1).fr a)-(max (rat (runs m.aI) x.1).fr a)).toNat=0 from by omega,eC,List.append_nil];exact XM.pick (.cons (.there .here) (.cons (.there .here) (.cons (.there .here) (.cons (.there .here) .nil)))) hw) ?_
   ·
    exact⟨Int.le_refl _,by show(max (rat (runs m.aI) x.1).fr a)≤(min ((rat (runs m.aI) x.1).fr+(rat (runs m.aI) x.1).n) (a+n));omega⟩
   intro z hz
   have hil:=pk (max (rat (runs m.aI) x.1).fr a) (z.1-(max (rat (runs m.aI) x.1).fr a)).toNat
   have hll:((List.flatMap (mr a n) (List.take x.1.toNat (runs m.aI)))++eC (max (rat (runs m.aI) x.1).fr a) (z.1-(max (rat (runs m.aI) x.1).fr a)).toNat).length=(List.flatMap (mr a n) (List.take x.1.toNat (runs m.aI))).length+(z.1-(max (rat (runs m.aI) x.1).fr a)).toNat:=by rw[List.length_append,hil]
   refine gC ?_
   refine cd rfl ?_ ?_<;>intro h6
   ·
    refine XO.buildSlice (e:=3) (vs:= #[(0,.int .i64 z.1)]) (A:= #[.int .i64 z.1]) rfl (fun _=>by kernel_rfl) rfl rfl ?_
    intro nb
    refine gO ?_
    refine XO.kr (e:=3) (z:=z.1) (zs:=((List.flatMap (mr a n) (List.take x.1.toNat (runs m.aI)))++eC (max (rat (runs m.aI) x.1).fr a) (z.1-(max (rat (runs m.aI) x.1).fr a)).toNat)) rfl rfl Tryz.underlying55 jl (.t4 .here) .here (by omega) rfl ?_
    intro p3 c3
    refine gO ?_
    refine sd (by omega) ?_
    have hZ:(List.flatMap (mr a n) (List.take x.1.toNat (runs m.aI)))++eC (max (rat (runs m.aI) x.1).fr a) (z.1+1-(max (rat (runs m.aI) x.1).fr a)).toNat=((List.flatMap (mr a n) (List.take x.1.toNat (runs m.aI)))++eC (max (rat (runs m.aI) x.1).fr a) (z.1-(max (rat (runs m.aI) x.1).fr a)).toNat)++[z.1]:=by rw[show z.1+1-(max (rat (runs m.aI) x.1).fr a)=(z.1-(max (rat (runs m.aI) x.1).fr a))+1 from by omega,zK _ (by omega),←List.append_assoc];congr 2;omega
    refine ag ((z.1+1,p3,c3)) ?_ ?_ (.cons rfl (.cons (by show lk _ _=some (Value.slice _ ((List.flatMap (mr a n) (List.take x.1.toNat (runs m.aI)))++eC (max (rat (runs m.aI) x.1).fr a) (z.1+1-(max (rat (runs m.aI) x.1).fr a)).toNat).length _);rw[hZ];rfl) (.cons rfl (.cons rfl (S6 rfl rfl rfl rfl rfl rfl))))) (fun _ hw=>by show XM _ _ [_,_,_,bk _ _ _ ((List.flatMap (mr a n) (List.take x.1.toNat (runs m.aI)))++eC (max (rat (runs m.aI) x.1).fr a) (z.1+1-(max (rat (runs m.aI) x.1).fr a)).toNat)] _;rw[hZ];exact XM.pick (.cons (.t2 .here) (.cons (.t2 .here) (.cons (.t2 .here) .h1))) hw)
    ·
     (simp;omega)
    ·
     (show _≤z.1+1∧z.1+1≤_;omega)
   ·
    refine sd (by omega) ?_
    have hA:(List.flatMap (gn a n) (List.take (x.1+1).toNat (runs m.aI)))=(List.flatMap (gn a n) (List.take x.1.toNat (runs m.aI)))++(if(rat (runs m.aI) x.1).fr<(max (rat (runs m.aI) x.1).fr a)then [(⟨(rat (runs m.aI) x.1).fr,(max (rat (runs m.aI) x.1).fr a)-(rat (runs m.aI) x.1).fr,(rat (runs m.aI) x.1).w⟩:RG)]else [])++(if(min ((rat (runs m.aI) x.1).fr+(rat (runs m.aI) x.1).n) (a+n))<(rat (runs m.aI) x.1).fr+(rat (runs m.aI) x.1).n then [(⟨(min ((rat (runs m.aI) x.1).fr+(rat (runs m.aI) x.1).n) (a+n)),(rat (runs m.aI) x.1).fr+(rat (runs m.aI) x.1).n-(min ((rat (runs m.aI) x.1).fr+(rat (runs m.aI) x.1).n) (a+n)),(rat (runs m.aI) x.1).w⟩:RG)]else []):=by rw[lI _ ⟨hi.1,by omega⟩,hin,List.append_assoc]
    have ez:z.1=(min ((rat (runs m.aI) x.1).fr+(rat (runs m.aI) x.1).n) (a+n)):=by omega
    have hH:(List.flatMap (mr a n) (List.take (x.1+1).toNat (runs m.aI)))=(List.flatMap (mr a n) (List.take x.1.toNat (runs m.aI)))++eC (max (rat (runs m.aI) x.1).fr a) (z.1-(max (rat (runs m.aI) x.1).fr a)).toNat:=by rw[lI _ ⟨hi.1,by omega⟩,ez];rfl
    have hq1:=AS a n (rat (runs m.aI) x.1)
    rw[hin]at hq1
    simp only[List.length_append]at hq1
    refine ag ((x.1+1,u,z.2)) ?_ ?_ (.cons rfl (.cons (by show lk _ _=some (Value.slice _ (List.flatMap (gn a n) (List.take (x.1+1).toNat (runs m.aI))).length _);rw[hA];rfl) (S6 (by show lk _ _=some (Value.slice _ (List.flatMap (mr a n) (List.take (x.1+1).toNat (runs m.aI))).length _);rw[hH];rfl) rfl rfl rfl rfl rfl))) (fun _ hw=>by show XM _ _ [_,_,bj _ _ _ _ (List.flatMap (gn a n) (List.take (x.1+1).toNat (runs m.aI))).length (dD (List.flatMap (gn a n) (List.take (x.1+1).toNat (runs m.aI)))),bk _ _ _ (List.flatMap (mr a n) (List.take (x.1+1).toNat (runs m.aI)))] _;rw[hA,hH];exact XM.pick .h4 hw)
    ·
     (simp;omega)
    ·
     refine⟨by simp;omega,?_,?_⟩
     ·show((List.flatMap (gn a n) (List.take (x.1+1).toNat (runs m.aI))).length:Int)≤2*(x.1+1);rw[hA];simp only[List.length_append];omega
     ·show((List.flatMap (mr a n) (List.take (x.1+1).toNat (runs m.aI))).length:Int)≤16*(x.1+1);rw[hH,List.length_append,pk];omega
 ·
  refine st .here (EK _ _ _ _ _ _ _ _ _) rfl ?_
  refine XE.aV rfl rfl (ab (.cons .here (.cons (.there .here) (.cons (.there .here) .nil))) rfl ?_)
  have e:List.take x.1.toNat (runs m.aI)=(runs m.aI):=List.take_of_length_le (by omega)
  exact⟨x.2.1.1,x.2.1.2,x.2.2.1,x.2.2.2,by rw[e];rfl,by rw[e]⟩
end Go.X.Vm

namespace Go.X.Vm
open Go Go.Proofs Go.X
set_option maxRecDepth 20000
set_option maxHeartbeats 4000000
end Go.X.Vm

namespace Go.X.Vm
open Go Go.Proofs Go.X
set_option maxRecDepth 20000
set_option maxHeartbeats 4000000
theorem K6:cX Tryz.prog 124=true:=by kernel_rfl
theorem GX:cR Tryz.prog 145 0=some 0:=by kernel_rfl
theorem Fk:cR Tryz.prog 145 1=some 1:=by kernel_rfl
theorem Kf:fT Tryz.prog 140=true:=by kernel_rfl
theorem Mo:fT Tryz.prog 94=true:=by kernel_rfl
set_option maxHeartbeats 8000000 in
theorem vg(kb pb mb:Nat)(v:VB)(hv:v.Ok)(p:Option Addr)(c:Nat)(m:MS)(hm:m.Ok):Spec Tryz.prog 57 [ptr mb 0 0] [.cells kb 0 577 (bu pb v.by_ v.rf),.cells mb 0 34 (bE kb p (runs m.aI).length c m.fr m.own),bj p c 171 3 (runs m.aI).length (dD (runs m.aI))] (fun x H1=>∃ nb p1 c1,x=ptr nb 0 0∧H1=[.cells kb 0 577 (bu pb (v.fork m).by_ (v.fork m).rf),.cells mb 0 34 (bE kb p (runs m.aI).length c m.fr (fun _=>false)),bj p c 171 3 (runs m.aI).length (dD (runs m.aI)),.cells nb 0 34 (bE kb p1 (runs m.aI).length c1 m.fr (fun _=>false)),bj p1 c1 171 3 (runs m.aI).length (dD (runs m.aI))]):=by
 refine Spec.go 65 [0,2,3,4,16,17,43] [] Tryz.func57 rfl rfl rfl ?_
 intro W
 refine XC.gJ mixed (f:=12) (l:= #[false,false,false,false,false,false,false,false,false,false,false,false]) rfl rfl XM.ko ?_
 refine XQ.pv (i:=0) (l':= #[true,false,false,false,false,false,false,false,false,false,false,false]) rfl (by kernel_rfl) rfl (V.move rfl) rfl rfl ?_
 refine XQ.pv (i:=1) (l':= #[true,true,false,false,false,false,false,false,false,false,false,false]) rfl (by kernel_rfl) rfl (V.bL rfl) rfl rfl ?_
 refine XQ.pv (i:=2) (l':= #[true,true,true,false,false,false,false,false,false,false,false,false]) rfl (by kernel_rfl) rfl (V.fieldAddr rfl GX) rfl rfl ?_
 refine XQ.load (i:=3) (l':= #[true,true,true,true,false,false,false,false,false,false,false,false]) (.cells _ _ _ _) [10] rfl (by kernel_rfl) rfl (.there .here) (V.load rfl dJ (bE.Gi _ _ _ _ _ _) Mo) rfl (by kernel_rfl) rfl ?_
 refine XQ.pv (i:=4) (l':= #[true,true,true,true,true,false,false,false,false,false,false,false]) rfl (by kernel_rfl) rfl (V.move rfl) rfl rfl ?_
 refine XQ.pv (i:=5) (l':= #[true,true,true,true,true,true,false,false,false,false,false,false]) rfl (by kernel_rfl) rfl (V.bL rfl) rfl rfl ?_
 refine XQ.pv (i:=6) (l':= #[true,true,true,true,true,true,true,false,false,false,false,false]) rfl (by kernel_rfl) rfl (V.fieldAddr rfl Fk) rfl rfl ?_
 refine XQ.load (i:=7) (l':= #[true,true,true,true,true,true,true,true,false,false,false,false]) (.cells _ _ _ _) [8,10] rfl (by kernel_rfl) rfl (.there .here) (V.load rfl dJ (bE.Io _ _ _ _ _ _) Kf) rfl (by kernel_rfl) rfl ?_
 refine XQ.call (i:=8) (l':= #[true,true,true,true,true,true,true,true,true,false,false,false]) rfl (by kernel_rfl) rfl rfl (HB _ _ _ (by have:=rh m.aI;omega)) (.cons (.t2 .here) .nil) K6 rfl (by rintro _ _ ⟨p1,c1,rfl,rfl⟩;all_goals(intro _ hw';exact⟨fun hs=>(hs 8 (by first | (simp;done) | (simp;rfl)) rfl).elim,fun _=>dm (.t3 .here) _ hw',trivial⟩)) ?_
 rintro _ _ ⟨p1,c1,rfl,rfl⟩
 refine XQ.pv (i:=9) (l':= #[true,true,true,true,true,true,true,true,true,true,false,false]) rfl (by kernel_rfl) rfl (V.build (vs:= #[(0,ptr kb 0 0),(1,.slice p1 (runs m.aI).length c1)]) rfl (v:=.agg (NK kb p1 (runs m.aI).length c1).toArray) (fun _=>by kernel_rfl)) rfl rfl ?_
 refine XQ.box (i:=10) (l':= #[true,true,true,true,true,true,true,true,true,true,true,false]) (m:=34) (C:=bE kb p1 (runs m.aI).length c1 (fun _=>1) (fun _=>false)) rfl (by kernel_rfl) rfl rfl rfl (IE _ _ _ _) rfl (fun _ _ hw'=>⟨fun hs=>(hs 8 (by first | (simp;done) | (simp;rfl)) rfl).elim,fun hs=>(hs 10 (by first | (simp;done) | (simp;rfl)) rfl).elim,trivial⟩) ?_
 intro nb
 refine XQ.pv (i:=11) (l':= #[true,true,true,true,true,true,true,true,true,true,true,true]) rfl (by kernel_rfl) rfl (V.assign rfl) rfl rfl ?_
 refine XQ.done (by kernel_rfl) ?_
 refine gE ?_
 refine lp (σ:=Int) (fun i=>(16-i).toNat) (fun i=>0≤i∧i≤16) (fun i=>[(16,.int .i64 i),(0,ptr mb 0 0),(3,ptr nb 0 0)]) (fun i=>XM W (bS [.cells kb 0 577 (bu pb v.by_ v.rf),.cells mb 0 34 (bE kb p (runs m.aI).length c m.fr m.own),bj p c 171 3 (runs m.aI).length (dD (runs m.aI))]) [.cells kb 0 577 (bu pb v.by_ (oe v.rf m.fr i.toNat)),.cells mb 0 34 (bE kb p (runs m.aI).length c m.fr (na (fun _=>false) m.own i)),bj p c 171 3 (runs m.aI).length (dD (runs m.aI)),.cells nb 0 34 (bE kb p1 (runs m.aI).length c1 (na m.fr (fun _=>1) i) (fun _=>false)),bj p1 c1 171 3 (runs m.aI).length (dD (runs m.aI))]) (0) ?_ (S3 rfl rfl rfl) (fun _ hw=>by show XM _ _ [_,.cells mb 0 34 (bE _ _ _ _ _ (na (fun _=>false) m.own 0)),_,.cells nb 0 34 (bE _ _ _ _ (na m.fr (fun _=>1) 0) _),_] _;rw[tv,tv];exact XM.pick (.cons (.t3 .here) (.cons (.t3 .here) (.cons (.there .here) .h2))) hw) ?_
 ·
  omega
 intro i hi
 have hlo:=hm.lo i
 have hup:=DD v.rf m.fr i.toNat (m.fr i-1)
 have hrf:=hv.rf (m.fr i-1)
 refine gC ?_
 refine cd rfl ?_ ?_<;>intro h1
 ·
  refine sd (by omega) ?_
  refine st (.there .here) (bE.od _ _ _ _ _ _ _ (by omega) _) rfl ?_
  refine rq [0,1,2,3,4,5,6,7,8,9,10,11] mixed (by kernel_rfl) ?_
  refine sd (by omega) ?_
  refine nc (.there .here) (CU _ _ _ _ _ _ _ (by omega)) ?_
  refine sd (by omega) ?_
  refine jA (.t3 .here) (r8 _ _ _ _ _ _ _ _ _ (by omega)) rfl ⟨rfl,rfl⟩ ?_
  refine sd (by omega) ?_
  refine ld (.there .here) (bE.fi _ _ _ _ _ _ _ (by omega)) ?_
  refine cd rfl ?_ ?_<;>intro h2
  ·
   refine rq [0,1,2,3,4,5,6,7,8,9,10,11,12,13,14,15,16,17,18,19] mixed (by kernel_rfl) ?_
   refine ld (.there .here) (bE.Gi _ _ _ _ _ _) ?_
   refine sd (by omega) ?_
   refine ld (.there .here) (bE.fi _ _ _ _ _ _ _ (by omega)) ?_
   refine sd (by omega) ?_
   refine ld .here (bu.lP _ _ _ _ (by omega)) ?_
   refine sd (by omega) ?_
   refine sd (by omega) ?_
   refine st .here (bu.uM _ _ _ _ (by omega) _) rfl ?_
   refine sd (by omega) ?_
   have hU:oe v.rf m.fr (i+1).toNat=aa (oe v.rf m.fr i.toNat) (m.fr i-1) (oe v.rf m.fr i.toNat (m.fr i-1)+1):=by rw[wO hi.1,if_pos (by omega)]
   refine ag (i+1) ?_ ?_ (S3 rfl rfl rfl) (fun _ hw=>by rw[ae (na (fun _=>false) m.own i) i false,uo (fun _=>false) i rfl]at hw;show XM _ _ [.cells kb 0 577 (bu pb v.by_ (oe v.rf m.fr (i+1).toNat)),_,_,_,_] _;rw[hU,←ml hi.1 (f:=(fun _=>false)) (g:=m.own) (v:=false) rfl,←ml hi.1 (f:=m.fr) (g:=fun _=>1) (v:=m.fr i-1+1) (by omega)];exact XM.pick .h5 hw)
   ·
    (first | omega | (simp;done) | (simp;omega))
   ·
    (first | omega | (simp;done) | (simp;omega))
  ·
   refine sd (by omega) ?_
   have hU:oe v.rf m.fr (i+1).toNat=oe v.rf m.fr i.toNat:=by rw[wO hi.1,if_neg (by omega)]
   refine ag (i+1) ?_ ?_ (S3 rfl rfl rfl) (fun _ hw=>by rw[ae (na (fun _=>false) m.own i) i false,uo (fun _=>false) i rfl]at hw;show XM _ _ [.cells kb 0 577 (bu pb v.by_ (oe v.rf m.fr (i+1).toNat)),_,_,_,_] _;rw[hU,←ml hi.1 (f:=(fun _=>false)) (g:=m.own) (v:=false) rfl,←ml hi.1 (f:=m.fr) (g:=fun _=>1) (v:=m.fr i-1+1) (by omega)];exact XM.pick .h5 hw)
   ·
    (first | omega | (simp;done) | (simp;omega))
   ·
    (first | omega | (simp;done) | (simp;omega))
 ·
  refine XE.aV rfl rfl (ab .h5 rfl ?_)
  have e:i=16:=by omega
  subst e
  exact⟨nb,p1,c1,rfl,by rw[kj (f:=na m.fr (fun _=>1) 16) (f':=m.fr) (o:=(fun _=>false)) (o':=(fun _=>false)) (fun i h0 h1=>⟨by unfold na;rw[if_pos (by omega)],rfl⟩),kj (f:=m.fr) (f':=m.fr) (o:=na (fun _=>false) m.own 16) (o':=(fun _=>false)) (fun i h0 h1=>⟨rfl,by unfold na;rw[if_pos (by omega)]⟩)];rfl⟩
end Go.X.Vm
