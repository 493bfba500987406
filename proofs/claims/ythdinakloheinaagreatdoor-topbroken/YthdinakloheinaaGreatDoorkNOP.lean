import Derived.Test.YthdinakloheinaaGreatDoorkTM
import Derived.Test.YthdinakloheinaaGreatDoorkGM
import Derived.Test.YthdinakloheinaaGreatDoorkFO
import Derived.Test.YthdinakloheinaaGreatDoorkFRM
import Derived.Test.YthdinakloheinaaGreatDoorXFam
import Derived.Test.YthdinakloheinaaGreatDoorkGPl
import Derived.Test.YthdinakloheinaaGreatDoorXBits
namespace Go.X.Kn
open Go Go.X
structure PU where
 st:Int
 par:Int
 grp:Int
 code:Int
 mem:Value
 fd:Int→Int
 bx:Sg.BS
structure KP where
 u:Int→PU
 gb:Nat
 sb:Nat
 qb:Nat
 bb:Nat
 tb:Nat
 pi:Nat
 ob:Nat
 ms:Int→Value
def PU.nil:PU:=⟨0,0,0,0,.pointer none,fun _=>0,Sg.BS.init⟩
def PU.cell(u:PU)(j:Nat):Value:=
 if j=0 then .int .i64 u.st else if j=1 then .int .i64 u.par else if j=2 then .int .i64 u.grp else if j=3 then .int .i64 u.code else
 if j=4 then u.mem else if j<11 then .int .i64 (u.fd ((j-5:Nat):Int))else Sg.b7 u.bx (j-11)
def ah(k:KP)(i:Nat):Value:=
 if i<440 then(k.u ((i/22:Nat):Int)).cell (i%22)else
 if i=440 then ptr k.gb 0 0 else if i=441 then ptr k.sb 0 0 else if i=442 then ptr k.qb 0 0 else if i=443 then ptr k.bb 0 0 else
 if i=444 then ptr k.tb 0 0 else if i=445 then ptr k.pi 0 0 else if i=446 then ptr k.ob 0 0 else
 if i<453 then k.ms ((i-447:Nat):Int)else undef
def KP.put(k:KP)(n:Int)(u:PU):KP:= {k with u:=aa k.u n u}
theorem KP.gr(k:KP)(n:Int)(u:PU):(k.put n u).u n=u:=ae _ _ _
theorem KP.fV(k:KP){n m:Int}(u:PU)(h:¬m=n):(k.put n u).u m=k.u m:=ad _ _ h
theorem KP.vv(k:KP)(n:Int)(u v:PU):(k.put n u).put n v=k.put n v:=by
 show({k with u:=aa (aa k.u n u) n v} :KP)= {k with u:=aa k.u n v}
 have e:aa (aa k.u n u) n v=aa k.u n v:=by
  funext j
  by_cases c:j=n
  ·subst c;rw[ae,ae]
  ·rw[ad _ _ c,ad _ _ c,ad _ _ c]
 rw[e]
theorem KP.wI(k:KP)(n:Int):k.put n (k.u n)=k:=by
 unfold KP.put
 rw[cn k.u rfl]
theorem ah.at_(k:KP){n:Int}(h:0≤n∧n<20){j:Nat}(hj:j<22):ah k (0+0+n.toNat*22+j)=(k.u n).cell j:=by
 unfold ah
 rw[if_pos (by omega),show(((0+0+n.toNat*22+j)/22:Nat):Int)=n from by omega,show(0+0+n.toNat*22+j)%22=j from by omega]
theorem ah.ot(k:KP){n:Int}(h:0≤n∧n<20):0+0+n.toNat*22+0<453∧ah k (0+0+n.toNat*22+0)= .int .i64 (k.u n).st:=⟨by omega,ah.at_ k h (by omega)⟩
theorem ah.qv(k:KP){n:Int}(h:0≤n∧n<20):0+0+n.toNat*22+1<453∧ah k (0+0+n.toNat*22+1)= .int .i64 (k.u n).par:=⟨by omega,ah.at_ k h (by omega)⟩
theorem ah.kE(k:KP){n:Int}(h:0≤n∧n<20):0+0+n.toNat*22+2<453∧ah k (0+0+n.toNat*22+2)= .int .i64 (k.u n).grp:=⟨by omega,ah.at_ k h (by omega)⟩
theorem ah.Bj(k:KP){n:Int}(h:0≤n∧n<20):0+0+n.toNat*22+3<453∧ah k (0+0+n.toNat*22+3)= .int .i64 (k.u n).code:=⟨by omega,ah.at_ k h (by omega)⟩
theorem ah.oq(k:KP){n:Int}(h:0≤n∧n<20){b:Nat}(e:(k.u n).mem=ptr b 0 0):0+0+n.toNat*22+4<453∧ah k (0+0+n.toNat*22+4)=ptr b 0 0:=⟨by omega,(ah.at_ k h (by omega)).trans e⟩
theorem ah.E2(k:KP){n i:Int}(h:0≤n∧n<20)(hi:0≤i∧i<6):0+0+n.toNat*22+5+i.toNat*1<453∧ah k (0+0+n.toNat*22+5+i.toNat*1)= .int .i64 ((k.u n).fd i):=⟨by omega,by
 rw[show 0+0+n.toNat*22+5+i.toNat*1=0+0+n.toNat*22+(5+i.toNat)from by omega,ah.at_ k h (by omega)]
 unfold PU.cell
 rw[if_neg (by omega),if_neg (by omega),if_neg (by omega),if_neg (by omega),if_neg (by omega),if_pos (by omega),show((5+i.toNat-5:Nat):Int)=i from by omega]⟩
abbrev Dz(f:Int→Int):Array Value:=pf f 6
theorem ah.yQ(k:KP){n:Int}(h:0≤n∧n<20):0+0+n.toNat*22+5+6≤453∧cq (ah k) (0+0+n.toNat*22+5) 6= .agg (Dz (k.u n).fd):=by
 refine⟨by omega,?_⟩
 have e:=fun (j:Nat) (hj:j<6)=>ah.at_ k h (j:=5+j) (by omega)
 unfold cq
 simp only[List.range,List.range.loop,List.map_cons,List.map_nil,Nat.add_zero]
 rw[show 0+0+n.toNat*22+5=0+0+n.toNat*22+(5+0)from rfl,e 0 (by omega)]
 rw[show 0+0+n.toNat*22+(5+0)+1=0+0+n.toNat*22+(5+1)from rfl,e 1 (by omega)]
 rw[show 0+0+n.toNat*22+(5+0)+2=0+0+n.toNat*22+(5+2)from rfl,e 2 (by omega)]
 rw[show 0+0+n.toNat*22+(5+0)+3=0+0+n.toNat*22+(5+3)from rfl,e 3 (by omega)]
 rw[show 0+0+n.toNat*22+(5+0)+4=0+0+n.toNat*22+(5+4)from rfl,e 4 (by omega)]
 rw[show 0+0+n.toNat*22+(5+0)+5=0+0+n.toNat*22+(5+5)from rfl,e 5 (by omega)]
 rfl
theorem ah.Cb(k:KP):0+440<453∧ah k (0+440)=ptr k.gb 0 0:=⟨by omega,rfl⟩
theorem ah.mT(k:KP):0+441<453∧ah k (0+441)=ptr k.sb 0 0:=⟨by omega,rfl⟩
theorem ah.yr(k:KP):0+442<453∧ah k (0+442)=ptr k.qb 0 0:=⟨by omega,rfl⟩
theorem ah.Gi(k:KP):0+443<453∧ah k (0+443)=ptr k.bb 0 0:=⟨by omega,rfl⟩
theorem ah.HF(k:KP):0+444<453∧ah k (0+444)=ptr k.tb 0 0:=⟨by omega,rfl⟩
theorem ah.CG(k:KP):0+446<453∧ah k (0+446)=ptr k.ob 0 0:=⟨by omega,rfl⟩
theorem ah.FR(k:KP){z:Int}(h:0≤z∧z<6):0+447+z.toNat*1<453∧ah k (0+447+z.toNat*1)=k.ms z:=⟨by omega,by
 unfold ah
 rw[if_neg (by omega),if_neg (by omega),if_neg (by omega),if_neg (by omega),if_neg (by omega),if_neg (by omega),if_neg (by omega),if_neg (by omega),if_pos (by omega),show((0+447+z.toNat*1-447:Nat):Int)=z from by omega]⟩
theorem ah.oA(k:KP){n:Int}(h:0≤n∧n<20)(u:PU)(C:Nat→Value)(h1:∀ j,j<22→C (0+0+n.toNat*22+j)=u.cell j)(h2:∀ i,(i<n.toNat*22∨n.toNat*22+22≤i)→C i=ah k i):C=ah (k.put n u):=by
 funext i
 by_cases c:n.toNat*22≤i∧i<n.toNat*22+22
 ·have e1:=h1 (i-n.toNat*22) (by omega)
  have e2:=ah.at_ (k.put n u) h (j:=i-n.toNat*22) (by omega)
  rw[show 0+0+n.toNat*22+(i-n.toNat*22)=i from by omega]at e1 e2
  rw[e1,e2,KP.gr]
 ·rw[h2 i (by omega)]
  unfold ah
  split
  ·rename_i q
   rw[KP.fV _ _ (show ¬((i/22:Nat):Int)=n by omega)]
  ·rfl
theorem ah.Hy(k:KP){n:Int}(h:0≤n∧n<20){j:Nat}(hj:j<22){v:Value}(u:PU)(hv:u.cell j=v)(ho:∀ i,i<22→¬i=j→u.cell i=(k.u n).cell i):cH (ah k) (0+0+n.toNat*22+j) v=ah (k.put n u):=by
 refine ah.oA k h u _ (fun i hi=> ?_) (fun i hi=> ?_)
 ·unfold cH
  by_cases c:i=j
  ·subst c;rw[if_pos rfl,hv]
  ·rw[if_neg (by omega),ah.at_ k h hi,ho i hi c]
 ·unfold cH;rw[if_neg (by omega)]
theorem ah.Mx(k:KP){n:Int}(h:0≤n∧n<20)(v:Int):0+0+n.toNat*22+0<453∧cH (ah k) (0+0+n.toNat*22+0) (.int .i64 v)=ah (k.put n {k.u n with st:=v}):=
 ⟨by omega,ah.Hy k h (by omega) _ rfl (fun i _ c=>by unfold PU.cell;rw[if_neg c,if_neg c])⟩
theorem ah.FG(k:KP){n:Int}(h:0≤n∧n<20)(v:Int):0+0+n.toNat*22+1<453∧cH (ah k) (0+0+n.toNat*22+1) (.int .i64 v)=ah (k.put n {k.u n with par:=v}):=
 ⟨by omega,ah.Hy k h (by omega) _ rfl (fun i _ c=>by unfold PU.cell;rw[if_neg (c:=i=1) c,if_neg (c:=i=1) c])⟩
theorem ah.Hf(k:KP){n:Int}(h:0≤n∧n<20)(v:Int):0+0+n.toNat*22+3<453∧cH (ah k) (0+0+n.toNat*22+3) (.int .i64 v)=ah (k.put n {k.u n with code:=v}):=
 ⟨by omega,ah.Hy k h (by omega) _ rfl (fun i _ c=>by unfold PU.cell;rw[if_neg (c:=i=3) c,if_neg (c:=i=3) c])⟩
theorem ah.Bm(k:KP){n i:Int}(h:0≤n∧n<20)(hi:0≤i∧i<6)(v:Int):0+0+n.toNat*22+5+i.toNat*1<453∧cH (ah k) (0+0+n.toNat*22+5+i.toNat*1) (.int .i64 v)=ah (k.put n {k.u n with fd:=aa (k.u n).fd i v}):=by
 refine⟨by omega,?_⟩
 rw[show 0+0+n.toNat*22+5+i.toNat*1=0+0+n.toNat*22+(5+i.toNat)from by omega]
 refine ah.Hy k h (by omega) _ ?_ (fun j hj c=> ?_)
 ·unfold PU.cell
  rw[if_neg (by omega),if_neg (by omega),if_neg (by omega),if_neg (by omega),if_neg (by omega),if_pos (by omega),show((5+i.toNat-5:Nat):Int)=i from by omega]
  show Value.int .i64 (aa (k.u n).fd i v i)=_
  rw[ae]
 ·unfold PU.cell
  refine au (fun _=>rfl) (fun c0=>au (fun _=>rfl) (fun c1=>au (fun _=>rfl) (fun c2=>au (fun _=>rfl) (fun c3=>au (fun _=>rfl) (fun c4=>au (fun _=> ?_) (fun _=>rfl))))))
  show Value.int .i64 (aa (k.u n).fd i v ((j-5:Nat):Int))=_
  rw[ad _ _ (by omega)]
theorem qd:∀ (l:List Value) (C:Nat→Value) (i j:Nat),bQ C i l j=if i≤j∧j<i+l.length then l.getD (j-i) undef else C j
 | [],C,i,j=>by rw[bQ,if_neg (by simp only[List.length_nil];omega)]
 | v::r,C,i,j=>by
  rw[bQ,qd r]
  by_cases c:j=i
  ·subst c
   rw[if_neg (by omega),if_pos (by simp)]
   unfold cH;rw[if_pos rfl];simp
  ·by_cases d:i+1≤j∧j<i+1+r.length
   ·rw[if_pos d,if_pos (by simp;omega),show j-i=(j-(i+1))+1 from by omega];simp
   ·rw[if_neg d,if_neg (by simp;omega)]
    unfold cH;rw[if_neg c]
def PU.arr(u:PU):Array Value:=((List.range 22).map u.cell).toArray
theorem ah.rE(k:KP){n:Int}(h:0≤n∧n<20)(u:PU):0+0+n.toNat*22+22≤453∧bQ (ah k) (0+0+n.toNat*22) u.arr.toList=ah (k.put n u):=by
 refine⟨by omega,ah.oA k h u _ (fun j hj=> ?_) (fun i hi=> ?_)⟩
 ·rw[qd,if_pos (by simp[PU.arr];omega),show 0+0+n.toNat*22+j-(0+0+n.toNat*22)=j from by omega]
  unfold PU.arr
  rw[List.getD_eq_getElem?_getD,List.toList_toArray,List.getElem?_map,List.getElem?_range hj];rfl
 ·rw[qd,if_neg (by simp[PU.arr];omega)]
abbrev ey(n:Int):Nat:=0+0+n.toNat*22+11
def KP.box(k:KP)(n:Int)(b:Sg.BS):KP:=k.put n {k.u n with bx:=b}
theorem ra(k:KP){n:Int}(h:0≤n∧n<20){i:Nat}(hi:i<11):ah k (ey n+i)=Sg.b7 (k.u n).bx i:=by
 have e:=ah.at_ k h (j:=11+i) (by omega)
 rw[show ey n+i=0+0+n.toNat*22+(11+i)from by unfold ey;omega,e]
 unfold PU.cell
 rw[if_neg (by omega),if_neg (by omega),if_neg (by omega),if_neg (by omega),if_neg (by omega),if_neg (by omega),show 11+i-11=i from by omega]
theorem tO(k:KP){n:Int}(b:Sg.BS)(h:0≤n∧n<20){i:Nat}(hi:i<ey n∨ey n+11≤i):ah (k.box n b) i=ah k i:=by
 by_cases c:n.toNat*22≤i∧i<n.toNat*22+22
 ·have e1:=ah.at_ (k.box n b) h (j:=i-n.toNat*22) (by omega)
  have e2:=ah.at_ k h (j:=i-n.toNat*22) (by omega)
  rw[show 0+0+n.toNat*22+(i-n.toNat*22)=i from by omega]at e1 e2
  rw[e1,e2]
  unfold KP.box
  rw[KP.gr]
  unfold PU.cell
  have:i-n.toNat*22<11:=by unfold ey at hi;omega
  refine au (fun _=>rfl) (fun c0=>au (fun _=>rfl) (fun c1=>au (fun _=>rfl) (fun c2=>au (fun _=>rfl) (fun c3=>au (fun _=>rfl) (fun c4=> ?_)))))
  rw[if_pos this,if_pos this]
 ·unfold ah
  split
  ·unfold KP.box
   rw[KP.fV _ _ (show ¬((i/22:Nat):Int)=n by omega)]
  ·rfl
section
variable {W w:World} {S:Nat→Nat→Prop} {H F:List ax}
theorem XM.qm{b o n:Nat}{C C':Nat→Value}(hC:∀ i,i<n→C i=C' i)(h:XM W S (.cells b o n C::H) w):XM W S (.cells b o n C'::H) w:=Fa.XM.qm hC h
theorem XM.k8{b:Nat}{k:KP}{n:Int}(hn:0≤n∧n<20)(hp:bF H [.cells b 0 453 (ah k)] F)(h:XM W S H w):XM W S (.cells b (0+ey n) 11 (Sg.b7 (k.u n).bx):: .cells b 0 (ey n) (ah k):: .cells b (0+ey n+11) (453-ey n-11) (fun i=>ah k (ey n+11+i))::F) w:=by
 have hoff:ey n+11≤453:=by unfold ey;omega
 have h2:=XM.part (n:=453) (off:=ey n) (m:=11) hoff (h.perm hp.perm)
 exact XM.qm (C':=Sg.b7 (k.u n).bx) (fun i hi=>ra k hn hi) h2
theorem XM.mL{b:Nat}{k:KP}{n:Int}{x:Sg.BS}(hn:0≤n∧n<20)(hp:bF H [.cells b (0+ey n) 11 (Sg.b7 x),.cells b 0 (ey n) (ah k),.cells b (0+ey n+11) (453-ey n-11) (fun i=>ah k (ey n+11+i))] F)(h:XM W S H w):XM W S (.cells b 0 453 (ah (k.box n x))::F) w:=by
 have hoff:ey n+11≤453:=by unfold ey;omega
 refine XM.join (n:=453) (off:=ey n) (m:=11) hoff (fun i hi=> ?_) (fun i hi=> ?_) (fun i hi=> ?_) (h.perm hp.perm) (by omega)
 ·exact tO k x hn (.inl hi)
 ·have e:=ra (k.box n x) hn hi
  unfold KP.box at e
  rw[KP.gr]at e
  exact e
 ·exact tO k x hn (.inr (by omega))
theorem KP.FE(k:KP)(n:Int):k.box n (k.u n).bx=k:=KP.wI k n
end
def KP.live(k:KP)(n:Int):Int:=if n<0∨20≤n then 1 else if(k.u n).st=1 then 0 else 2
theorem KP.dN{k:KP}{n:Int}(h:k.live n=0):(0≤n∧n<20)∧(k.u n).st=1:=by
 unfold KP.live at h
 split at h
 ·omega
 ·split at h
  ·exact⟨by omega,by assumption⟩
  ·omega
theorem KP.Be{k:KP}{n:Int}(h:0≤n∧n<20)(e:(k.u n).st=1):k.live n=0:=by unfold KP.live;rw[if_neg (by omega),if_pos e]
def Is(b:Sg.BS):Array Value:= #[.int .u16 ((Sg.pack b.wait:Nat):Int),.int .u16 ((Sg.pack b.held:Nat):Int),.int .i64 (b.bd 0),.int .i64 (b.bd 1),.int .i64 (b.bd 2),.int .i64 (b.bd 3),.int .i64 (b.bd 4),.int .i64 (b.bd 5),.int .i64 (b.bd 6),.int .i64 (b.bd 7),.int .i64 (b.bd 8)]
theorem ah.MF(k:KP){n:Int}(h:0≤n∧n<20):0+0+n.toNat*22+11+11≤453∧cq (ah k) (0+0+n.toNat*22+11) 11= .agg (Is (k.u n).bx):=by
 refine⟨by omega,?_⟩
 have e:=(Sg.gx (k.u n).bx).2
 rw[show(Value.agg (Is (k.u n).bx))=cq (Sg.b7 (k.u n).bx) 0 11 from e.symm]
 unfold cq
 congr 2
 refine List.map_congr_left (fun j hj=> ?_)
 have e9:=ra k h (List.mem_range.1 hj)
 show ah k (0+0+n.toNat*22+11+j)=Sg.b7 (k.u n).bx (0+j)
 rw[show 0+j=j from Nat.zero_add j]
 exact e9
section
variable {W w:World} {S:Nat→Nat→Prop} {H F:List ax}
theorem XM.pH{b:Nat}{k:KP}{n:Int}(hn:0≤n∧n<20)(hp:bF H [.cells b (0+ey n) 11 (Sg.b7 (k.u n).bx),.cells b 0 (ey n) (ah k),.cells b (0+ey n+11) (453-ey n-11) (fun i=>ah k (ey n+11+i))] F)(h:XM W S H w):XM W S (.cells b 0 453 (ah k)::F) w:=by
 have h1:=XM.mL hn hp h
 rwa[KP.FE]at h1
end
theorem SS.I6{s:Sp.SS}{z:Int}(h:(s.drop z).1≠0):(s.drop z).2=s:=by
 unfold Sp.SS.drop at h ⊢
 split
 ·rfl
 ·rename_i c
  rw[if_neg c]at h
  split
  ·rfl
  ·rename_i d
   rw[if_neg d]at h
   split
   ·rfl
   ·rename_i e
    rw[e]at h;exact absurd rfl h
def KP.fG(k:KP)(n h i:Int):KP:= {k with u:=fun j=>if 0≤j∧j<i∧(k.u j).st≠0∧(k.u j).par=n then {k.u j with par:=h} else k.u j}
theorem KP.sE(k:KP)(n h:Int):k.fG n h 0=k:=by
 have e:(fun j=>if 0≤j∧j<0∧(k.u j).st≠0∧(k.u j).par=n then {k.u j with par:=h} else k.u j)=k.u:=by
  funext j;rw[if_neg (by omega)]
 unfold KP.fG
 rw[e]
theorem KP.fY(k:KP)(n h:Int){i j:Int}(hj:i≤j):(k.fG n h i).u j=k.u j:=by
 show(if 0≤j∧j<i∧(k.u j).st≠0∧(k.u j).par=n then {k.u j with par:=h} else k.u j)=_
 rw[if_neg (by omega)]
theorem KP.tN(k:KP)(n h:Int){i:Int}(hi:0≤i)(h1:(k.u i).st≠0)(h2:(k.u i).par=n):(k.fG n h i).put i {(k.fG n h i).u i with par:=h} =k.fG n h (i+1):=by
 show({k with u:=aa (k.fG n h i).u i {(k.fG n h i).u i with par:=h}} :KP)= {k with u:=(k.fG n h (i+1)).u}
 have e:aa (k.fG n h i).u i {(k.fG n h i).u i with par:=h} =(k.fG n h (i+1)).u:=by
  funext j
  by_cases c:j=i
  ·subst c
   rw[ae,KP.fY _ _ _ (Int.le_refl _)]
   show _=(if 0≤j∧j<j+1∧(k.u j).st≠0∧(k.u j).par=n then {k.u j with par:=h} else k.u j)
   rw[if_pos ⟨hi,by omega,h1,h2⟩]
  ·rw[ad _ _ c]
   show(if 0≤j∧j<i∧(k.u j).st≠0∧(k.u j).par=n then {k.u j with par:=h} else k.u j)=(if 0≤j∧j<i+1∧(k.u j).st≠0∧(k.u j).par=n then {k.u j with par:=h} else k.u j)
   by_cases d:0≤j∧j<i∧(k.u j).st≠0∧(k.u j).par=n
   ·rw[if_pos d,if_pos ⟨d.1,by omega,d.2.2⟩]
   ·rw[if_neg d,if_neg (fun q=>d ⟨q.1,by omega,q.2.2⟩)]
 rw[e]
theorem KP.kz(k:KP)(n h:Int){i:Int}(hc:¬((k.u i).st≠0∧(k.u i).par=n)):k.fG n h (i+1)=k.fG n h i:=by
 show({k with u:=(k.fG n h (i+1)).u} :KP)= {k with u:=(k.fG n h i).u}
 have e:(k.fG n h (i+1)).u=(k.fG n h i).u:=by
  funext j
  show(if 0≤j∧j<i+1∧(k.u j).st≠0∧(k.u j).par=n then {k.u j with par:=h} else k.u j)=(if 0≤j∧j<i∧(k.u j).st≠0∧(k.u j).par=n then {k.u j with par:=h} else k.u j)
  by_cases d:0≤j∧j<i∧(k.u j).st≠0∧(k.u j).par=n
  ·rw[if_pos d,if_pos ⟨d.1,by omega,d.2.2⟩]
  ·rw[if_neg d,if_neg (fun q=>by
    by_cases c:j=i
    ·subst c;exact hc q.2.2
    ·exact d ⟨q.1,by omega,q.2.2⟩)]
 rw[e]
structure Quiet (b:Sg.BS):Prop where
 z:b.wait 0=false
 e:b.first 0=0
 dI:(b.send 3).2=b
theorem Quiet.init:Quiet Sg.BS.init:=⟨rfl,by decide+kernel,by unfold Sg.BS.send;rw[if_pos (by decide),if_pos (by decide)]⟩
def bJ{α:Type}(f:Nat→α)(z:Nat)(m:α):Nat→α:=fun j=>if j=z then m else f j
theorem da{α:Type}(f:Nat→α)(z:Nat)(m:α):bJ f z m z=m:=if_pos rfl
theorem cV{α:Type}(f:Nat→α){z j:Nat}(m:α)(h:j≠z):bJ f z m j=f j:=if_neg h
theorem fN{α:Type}(f:Nat→α)(z:Nat):bJ f z (f z)=f:=by
 funext j;unfold bJ;split
 ·rename_i c;rw[c]
 ·rfl
theorem Cl(g:Nat→Nat)(z b:Nat):xd g z b=bJ g z b:=by
 funext j
 by_cases c:j=z
 ·subst c;rw[lN,da]
 ·rw[ks _ _ c,cV _ _ c]
abbrev cN(bb:Nat)(f:Nat→Vm.MS)(ps:Nat→Option Addr)(cs:Nat→Nat):Nat→Nat→Value:=fun j=>Vm.bE bb (ps j) (Vm.runs (f j).aI).length (cs j) (f j).fr (f j).own
abbrev rN(e:TypeId)(f:Nat→Vm.MS)(ps:Nat→Option Addr)(cs:Nat→Nat):Nat→iu:=fun j=>⟨.slice (ps j) (Vm.runs (f j).aI).length (cs j),e,3,(Vm.runs (f j).aI).length,bz (Vm.dD (Vm.runs (f j).aI)) ((Vm.runs (f j).aI).length*3)⟩
theorem L7(bb:Nat)(f:Nat→Vm.MS)(ps:Nat→Option Addr)(cs:Nat→Nat)(z:Nat)(m:Vm.MS)(p:Option Addr)(c:Nat):wB (cN bb f ps cs) z (Vm.bE bb p (Vm.runs m.aI).length c m.fr m.own)=cN bb (bJ f z m) (bJ ps z p) (bJ cs z c):=by
 funext j
 by_cases q:j=z
 ·subst q;rw[vG];unfold cN;rw[da,da,da]
 ·rw[vc _ _ q];unfold cN;rw[cV _ _ q,cV _ _ q,cV _ _ q]
theorem Kt(e:TypeId)(f:Nat→Vm.MS)(ps:Nat→Option Addr)(cs:Nat→Nat)(z:Nat)(m:Vm.MS)(p:Option Addr)(c:Nat):pV (rN e f ps cs) z ⟨.slice p (Vm.runs m.aI).length c,e,3,(Vm.runs m.aI).length,bz (Vm.dD (Vm.runs m.aI)) ((Vm.runs m.aI).length*3)⟩=rN e (bJ f z m) (bJ ps z p) (bJ cs z c):=by
 funext j
 by_cases q:j=z
 ·subst q;rw[gK];unfold rN;rw[da,da,da]
 ·rw[gg _ _ q];unfold rN;rw[cV _ _ q,cV _ _ q,cV _ _ q]
theorem wN(p:Option Addr)(c:Nat)(e:TypeId)(k:Nat)(C:Nat→Value):bj p c e 3 k C=iu.oM ⟨.slice p k c,e,3,k,bz C (k*3)⟩:=rfl
abbrev xM(P:Nat→Bool)(bb:Nat)(e:TypeId)(mb:Nat→Nat)(f:Nat→Vm.MS)(ps:Nat→Option Addr)(cs:Nat→Nat):List ax:=[.cfam P mb 34 (cN bb f ps cs),.fam P (rN e f ps cs)]
abbrev Fo(bb b:Nat)(e:TypeId)(m:Vm.MS)(p:Option Addr)(c:Nat):List ax:=[.cells b 0 34 (Vm.bE bb p (Vm.runs m.aI).length c m.fr m.own),bj p c e 3 (Vm.runs m.aI).length (Vm.dD (Vm.runs m.aI))]
section
variable {W w:World} {S:Nat→Nat→Prop} {H H0:List ax} {bb:Nat} {e:TypeId} {mb:Nat→Nat} {f:Nat→Vm.MS} {ps:Nat→Option Addr} {cs:Nat→Nat} {P:Nat→Bool}
theorem XM.Ja{z:Nat}(hz:P z=true)(hp:bF H0 (xM P bb e mb f ps cs) H)(h:XM W S H0 w):XM W S (.cells (mb z) 0 34 (Vm.bE bb (ps z) (Vm.runs (f z).aI).length (cs z) (f z).fr (f z).own)::bj (ps z) (cs z) e 3 (Vm.runs (f z).aI).length (Vm.dD (Vm.runs (f z).aI)):: .cfam (eA P z) mb 34 (cN bb f ps cs):: .fam (eA P z) (rN e f ps cs)::H) w:=by
 have h0:XM W S (.cfam P mb 34 (cN bb f ps cs):: .fam P (rN e f ps cs)::H) w:=h.perm hp.perm
 have h1:=XM.A2 z hz h0
 have h2:=h1.perm (bF.cons (.t2 .here) (bF.nil)).perm
 simp only[List.cons_append,List.nil_append]at h2
 have h3:=XM.oK z hz h2
 have h4:=h3.perm (bF.cons (.t2 .here) (.cons .here (.cons (.there .here) (.cons .here .nil)))).perm
 simp only[List.cons_append,List.nil_append]at h4
 rw[show(rN e f ps cs z).oM=bj (ps z) (cs z) e 3 (Vm.runs (f z).aI).length (Vm.dD (Vm.runs (f z).aI))from(wN _ _ _ _ _).symm]at h4
 exact h4
theorem XM.Ip{z b:Nat}(m:Vm.MS){p:Option Addr}{c:Nat}(hz:P z=false)(hp:bF H0 (Fo bb b e m p c++xM P bb e mb f ps cs) H)(h:XM W S H0 w):XM W S (xM (tH P z) bb e (bJ mb z b) (bJ f z m) (bJ ps z p) (bJ cs z c)++H) w:=by
 have h:XM W S (.cells b 0 34 (Vm.bE bb p (Vm.runs m.aI).length c m.fr m.own)::bj p c e 3 (Vm.runs m.aI).length (Vm.dD (Vm.runs m.aI)):: .cfam P mb 34 (cN bb f ps cs):: .fam P (rN e f ps cs)::H) w:=h.perm hp.perm
 have h0:=h.perm (bF.cons .here (.cons (.there .here) .nil)).perm
 simp only[List.cons_append,List.nil_append]at h0
 have h1:=XM.GG z (by omega) hz h0
 have h2:=h1.perm (bF.cons (.there .here) (.cons (.there .here) .nil)).perm
 simp only[List.cons_append,List.nil_append]at h2
 rw[wN]at h2
 have h3:=XM.uG z hz h2
 have h4:=h3.perm (bF.cons (.there .here) (.cons .here .nil)).perm
 simp only[List.cons_append,List.nil_append]at h4
 rw[L7,Kt,Cl]at h4
 exact h4
theorem XM.zZ{z:Nat}(m:Vm.MS){p:Option Addr}{c:Nat}(hz:P z=true)(hp:bF H0 (Fo bb (mb z) e m p c++xM (eA P z) bb e mb f ps cs) H)(h:XM W S H0 w):XM W S (xM P bb e mb (bJ f z m) (bJ ps z p) (bJ cs z c)++H) w:=by
 have h1:=XM.Ip m (lV _ _) hp h
 rw[uK hz,fN]at h1
 exact h1
theorem XM.Lp{b z:Nat}(m:Vm.MS){p:Option Addr}{c:Nat}(hp:bF H0 (Fo bb b e m p c) H)(h:XM W S H0 w):XM W S (xM (tH (fun _=>false) z) bb e (bJ (fun _=>0) z b) (bJ (fun _=>m) z m) (bJ (fun _=>none) z p) (bJ (fun _=>0) z c)++H) w:=by
 have h0:XM W S (Fo bb b e m p c++H) w:=h.perm hp.perm
 have h1:XM W S (.cfam (fun _=>false) (fun _=>0) 34 (cN bb (fun _=>m) (fun _=>none) (fun _=>0)):: .fam (fun _=>false) (rN e (fun _=>m) (fun _=>none) (fun _=>0)):: .cells b 0 34 (Vm.bE bb p (Vm.runs m.aI).length c m.fr m.own)::bj p c e 3 (Vm.runs m.aI).length (Vm.dD (Vm.runs m.aI))::H) w:=XM.Bw (XM.Gl h0)
 exact XM.Ip m rfl (bF.cons (.t2 .here) (.cons (.t2 .here) (.cons .here (.cons .here .nil)))) h1
end
structure Ot (k:KP) (mb:Nat→Nat):Prop where
 st:∀ n,0≤n→n<20→(k.u n).st=0∨(k.u n).st=1∨(k.u n).st=2
 mem:∀ n,0≤n→n<20→(k.u n).st≠0→(k.u n).mem=ptr (mb n.toNat) 0 0
 grp:∀ n,(k.u n).grp=0
 fd:∀ n i,(k.u n).fd i=0
 bx:∀ n,(k.u n).bx=Sg.BS.init
def jQ(a b:Int):Nat→Value:=fun i=>if i=0 then .int .i64 a else if i=1 then .int .i64 b else undef
theorem jQ.agg(a b:Int):0+2≤2∧cq (jQ a b) 0 2= .agg #[.int .i64 a,.int .i64 b]:=⟨by omega,rfl⟩
theorem jQ.st(a b c d:Int):0+2≤2∧bQ (jQ a b) 0 [.int .i64 c,.int .i64 d]=jQ c d:=⟨by omega,by
 funext i
 match i with
 | 0=>rfl
 | 1=>rfl
 | i+2=>simp[bQ,cH,jQ]⟩
theorem jQ.GU(a b:Int):0+0<2∧jQ a b (0+0)= .int .i64 a:=⟨by omega,rfl⟩
theorem jQ.box:∀ i,i<2→cellsOf #[.int .i64 0,.int .i64 0] i=jQ 0 0 i:=fun i h=>match i,h with
 | 0,_=>rfl
 | 1,_=>rfl
 | k+2,h=>absurd h (by omega)
theorem PU.fds(u:PU):0+5+6≤22∧cq u.cell (0+5) 6= .agg (Dz u.fd):=⟨by omega,rfl⟩
theorem PU.agg(u:PU):0+22≤22∧cq u.cell 0 22= .agg u.arr:=⟨by omega,by
 unfold cq PU.arr
 congr 2⟩
theorem PU.xY(u:PU){i:Nat}(h:22≤i):u.cell i=undef:=by
 unfold PU.cell
 rw[if_neg (by omega),if_neg (by omega),if_neg (by omega),if_neg (by omega),if_neg (by omega),if_neg (by omega)]
 exact Sg.xX _ (by omega)
theorem PU.Ik(u:PU):u.arr.toList.length=22:=by simp[PU.arr]
theorem PU.rE(v u:PU):0+22≤22∧bQ v.cell 0 u.arr.toList=u.cell:=⟨by omega,by
 funext i
 rw[qd,PU.Ik]
 by_cases h:i<22
 ·rw[if_pos (by omega),Nat.sub_zero]
  unfold PU.arr
  rw[List.getD_eq_getElem?_getD,List.toList_toArray,List.getElem?_map,List.getElem?_range h];rfl
 ·rw[if_neg (by omega),PU.xY v (by omega),PU.xY u (by omega)]⟩
theorem PU.box(u:PU):∀ i,i<22→cellsOf u.arr i=u.cell i:=fun i hi=>by
 unfold cellsOf PU.arr
 rw[Array.getD_eq_getD_getElem?,List.getElem?_toArray,List.getElem?_map,List.getElem?_range hi];rfl
section
variable {W w:World} {S:Nat→Nat→Prop} {H H0:List ax} {bb:Nat} {e:TypeId} {mb:Nat→Nat} {f:Nat→Vm.MS} {ps:Nat→Option Addr} {cs:Nat→Nat} {P:Nat→Bool}
theorem XM.DL{z:Nat}(hz:P z=true)(hp:bF H0 (Fo bb (mb z) e (f z) (ps z) (cs z)++xM (eA P z) bb e mb f ps cs) H)(h:XM W S H0 w):XM W S (xM P bb e mb f ps cs++H) w:=by
 have h1:=XM.zZ (f z) hz hp h
 rwa[fN,fN,fN]at h1
end
def KP.dI(k:KP)(n:Int)(nb:Nat):PU:=⟨1,n,(k.u n).grp,0,ptr nb 0 0,(k.u n).fd,(k.u n).bx.child⟩
theorem ah.DN(k:KP){z:Int}(h:0≤z∧z<6)(v:Value):0+447+z.toNat*1<453∧cH (ah k) (0+447+z.toNat*1) v=ah {k with ms:=aa k.ms z v} :=⟨by omega,by
 funext i
 unfold cH
 by_cases c:i=0+447+z.toNat*1
 ·rw[if_pos c,c]
  have:=(ah.FR {k with ms:=aa k.ms z v} h).2
  rw[this]
  exact(ae _ _ _).symm
 ·rw[if_neg c]
  unfold ah
  refine au (fun _=>rfl) (fun c0=>au (fun _=>rfl) (fun c1=>au (fun _=>rfl) (fun c2=>au (fun _=>rfl) (fun c3=>au (fun _=>rfl) (fun c4=>au (fun _=>rfl) (fun c5=>au (fun _=>rfl) (fun c6=>au (fun _=>rfl) (fun c7=>au (fun c8=> ?_) (fun _=>rfl)))))))))
  show k.ms ((i-447:Nat):Int)=aa k.ms z v ((i-447:Nat):Int)
  rw[ad _ _ (by omega)]⟩
def KP.raw(gb sb qb bb tb pi:Nat):KP:=⟨fun _=>PU.nil,gb,sb,qb,bb,tb,pi,0,fun _=>.pointer none⟩
def jL(k:KP)(i:Nat):Value:=if i=446 then .pointer none else ah k i
def tB(k:KP):Array Value:=((List.range 453).map (jL k)).toArray
theorem zS(k:KP):(tB k).size=453:=by simp[tB]
theorem Ci(k:KP):∀ i,i<453→cellsOf (tB k) i=jL k i:=fun i hi=>by simp[cellsOf,tB,hi]
theorem jL.HF(k:KP):0+444<453∧jL k (0+444)=ptr k.tb 0 0:=⟨by omega,rfl⟩
theorem jL.Nx(k:KP):0+445<453∧jL k (0+445)=ptr k.pi 0 0:=⟨by omega,rfl⟩
theorem jL.NL(k:KP)(b:Nat):0+446<453∧cH (jL k) (0+446) (ptr b 0 0)=ah {k with ob:=b} :=⟨by omega,by
 funext i
 unfold cH jL
 by_cases c:i=0+446
 ·subst c;rw[if_pos rfl];rfl
 ·rw[if_neg c,if_neg (by omega)]
  unfold ah
  refine au (fun _=>rfl) (fun c0=>au (fun _=>rfl) (fun c1=>au (fun _=>rfl) (fun c2=>au (fun _=>rfl) (fun c3=>au (fun _=>rfl) (fun c4=>au (fun _=>rfl) (fun c5=>au (fun _=>rfl) (fun c6=>au (fun d=>absurd d (by omega)) (fun _=>rfl))))))))⟩
def qE(mb:Nat):PU:=⟨1,-1,0,0,ptr mb 0 0,fun _=>0,Sg.BS.init⟩
structure Jp (k:KP) (mb:Nat):Prop where
 u:k.u=aa (fun _=>PU.nil) 0 (qE mb)
def dK:Int→Nat:=aa (fun _=>0) (10+0) (0+1)
def Q1:Fa.SF:=Fa.SF.init.mV 0 0 100
def Q2:Fa.SF:=Q1.ei dK 0 true
theorem qA:Fa.SF.init.gj 0 0 100=0:=by decide+kernel
theorem Jn:Q1.Ok dK 1 0:=by
 have e:Q1=Fa.SF.init.kG (10+0) 0 100 true:=by unfold Q1 Fa.SF.mV;rw[qA];rfl
 rw[e]
 exact Fa.SF.AT.add (by omega) ⟨by omega,by omega⟩ (by decide+kernel) ⟨by omega,by omega,by decide+kernel⟩ (by omega)
theorem r6:Q2.Ok dK 1 0:=Jn.ei 0 true
theorem Ix:(Q2.tick dK).1=0:=by decide+kernel
theorem Lr:(Q2.tick dK).2.Ok dK 1 1:=r6.tick (by omega) (by omega)
def G0:Gr.TG:=Gr.TG.init.cg 0 1 0
def S0:Sp.SS:=(Sp.SS.init.enter (fun _=>1) 0 0).2.2
end Go.X.Kn

namespace Go.X.Vm
open Go Go.X
theorem yP(l:List RG)(a n:Int):(l.flatMap (gn a n)).length≤2*l.length:=by
 induction l with
 | nil=>simp
 | cons r l ih=>rw[List.flatMap_cons,List.length_append,List.length_cons];have:=AS a n r;omega
theorem DH(f:Int→Int):iv f []=f:=by funext i;simp[iv]
theorem Fp(f:Int→Bool):di f []=f:=by funext i;simp[di]
theorem MS.pj{v:VB}{m:MS}{a n:Int}(hb:fB a n):m.ew v a n=(0,1,v,m):=by unfold MS.ew;rw[if_pos hb]
theorem MS.ET(v:VB){m:MS}(hm:m.Ok){a n:Int}(hb:¬fB a n):m.ew v a n=((kY v m.fr (fa (fun i=>m.aI i != 0) a n.toNat)).1,0,(kY v m.fr (fa (fun i=>m.aI i != 0) a n.toNat)).2,⟨dy m.aI a n 0,iv m.fr (fa (fun i=>m.aI i != 0) a n.toNat),di m.own (fa (fun i=>m.aI i != 0) a n.toNat)⟩):=by
 unfold MS.ew
 have hb2:=hb
 unfold fB at hb2
 have hz:∀ i,i∉fa (fun i=>m.aI i != 0) a n.toNat→a≤i∧i<a+n→m.aI i=0:=fun i h1 h2=>by
  rw[iE]at h1
  by_cases c:m.aI i=0
  ·exact c
  ·exact absurd ⟨⟨h2.1,by omega⟩,by simp[c]⟩ h1
 have hs:∀ i,i∈fa (fun i=>m.aI i != 0) a n.toNat→a≤i∧i<a+n:=fun i h=>by
  have:=(iE.1 h).1;omega
 have e1:dy m.fr a n 0=iv m.fr (fa (fun i=>m.aI i != 0) a n.toNat):=by
  funext i;unfold dy iv
  by_cases c:i∈fa (fun i=>m.aI i != 0) a n.toNat
  ·rw[if_pos c,if_pos (hs i c)]
  ·rw[if_neg c];split
   ·rename_i d;exact(hm.un i (hz i c d)).symm
   ·rfl
 have e2:dy m.own a n false=di m.own (fa (fun i=>m.aI i != 0) a n.toNat):=by
  funext i;unfold dy di
  by_cases c:i∈fa (fun i=>m.aI i != 0) a n.toNat
  ·rw[if_pos c,if_pos (hs i c)]
  ·rw[if_neg c];split
   ·rename_i d;exact(hm.ow i (hm.un i (hz i c d))).symm
   ·rfl
 rw[if_neg hb,xj v (p:=fun i=>m.aI i != 0) (fun i h=>hm.un i (by simpa using h)),e1,e2]
theorem DD(rf fr:Int→Int):∀ (k:Nat) (g:Int),rf g≤oe rf fr k g∧oe rf fr k g≤rf g+k
 | 0,g=>by simp[oe]
 | k+1,g=>by
  have:=DD rf fr k g
  rw[oe];split
  ·unfold aa;split
   ·rename_i c;subst c;omega
   ·omega
  ·omega
theorem wO{rf fr:Int→Int}{i:Int}(h:0≤i):oe rf fr (i+1).toNat=if 0<fr i then aa (oe rf fr i.toNat) (fr i-1) (oe rf fr i.toNat (fr i-1)+1)else oe rf fr i.toNat:=by
 rw[show(i+1).toNat=i.toNat+1 from by omega,oe,show((i.toNat:Nat):Int)=i from by omega]
def na{α:Type}(f g:Int→α)(i:Int):Int→α:=fun j=>if 0≤j∧j<i then f j else g j
theorem ml{α:Type}{f g:Int→α}{i:Int}(h:0≤i){v:α}(e:f i=v):aa (na f g i) i v=na f g (i+1):=by
 funext j
 unfold aa na
 by_cases c:j=i
 ·rw[if_pos c,if_pos (by omega),c,e]
 ·rw[if_neg c]
  by_cases d:0≤j∧j<i
  ·rw[if_pos d,if_pos (by omega)]
  ·rw[if_neg d,if_neg (by omega)]
theorem uo(f:Int→Bool)(i:Int){v:Bool}(h:f i=v):aa f i v=f:=by
 funext j;unfold aa;split
 ·rename_i c;rw[c,h]
 ·rfl
theorem tv{α:Type}(f g:Int→α):na f g 0=g:=by funext j;unfold na;rw[if_neg (by omega)]
def NK(b:Nat)(p:Option Addr)(n c:Nat):List Value:=ptr b 0 0:: .slice p n c::(List.replicate 16 [Value.int .i64 0,Value.bool false]).flatten
theorem IE(b:Nat)(p:Option Addr)(n c:Nat):∀ i,i<34→cellsOf (NK b p n c).toArray i=bE b p n c (fun _=>1) (fun _=>false) i:=fun i hi=>by
 unfold cellsOf NK
 by_cases h1:i=1
 ·subst h1;rfl
 ·have e:=FH b i hi
  unfold cellsOf ND at e
  rw[Array.getD_eq_getD_getElem?,List.getElem?_toArray]at e ⊢
  have e2:bE b none 0 0 (fun _=>1) (fun _=>false) i=bE b p n c (fun _=>1) (fun _=>false) i:=by
   unfold bE;rw[if_neg h1,if_neg h1]
  rw[←e2,←e]
  match i,h1 with
  | 0,_=>rfl
  | k+2,_=>rfl
theorem B6{α:Type}(f:Int→α)(a:Int)(v:α):dy f a (a-a) v=f:=by funext j;unfold dy;rw[if_neg (by omega)]
theorem CD{α:Type}{f:Int→α}{a i:Int}{v u:α}(h:a≤i)(e:u=v):aa (dy f a (i-a) v) i u=dy f a (i+1-a) v:=by
 subst e
 funext j
 unfold aa dy
 by_cases c:j=i
 ·rw[if_pos c,if_pos (by omega)]
 ·rw[if_neg c]
  by_cases d:a≤j∧j<a+(i-a)
  ·rw[if_pos d,if_pos (by omega)]
  ·rw[if_neg d,if_neg (by omega)]
theorem oy{α:Type}(f:Int→α)(i:Int)(u v:α):aa (aa f i u) i v=aa f i v:=by
 funext j;unfold aa;split<;>rfl
end Go.X.Vm

namespace Go.X.Vm
open Go Go.X
def cM(fr:Int→Int)(g:Int):Nat→Int
 | 0=>0
 | k+1=>cM fr g k+(if fr k=g+1 then 1 else 0)
theorem sH(fr:Int→Int)(g:Int):∀ k,0≤cM fr g k∧cM fr g k≤k
 | 0=>by simp[cM]
 | k+1=>by have:=sH fr g k;rw[cM];split<;>omega
theorem A3(fr:Int→Int){g n z:Int} :∀ {k:Nat},(k:Int)≤n→cM (aa fr n z) g k=cM fr g k
 | 0,_=>rfl
 | k+1,h=>by rw[cM,cM,A3 fr (k:=k) (by omega),ad _ _ (by omega)]
theorem Ad(fr:Int→Int){g n z:Int}(h0:0≤n):∀ {k:Nat},n<k→cM (aa fr n z) g k=cM fr g k-(if fr n=g+1 then 1 else 0)+(if z=g+1 then 1 else 0)
 | 0,h=>by simp at h;omega
 | k+1,h=>by
  rw[cM,cM]
  by_cases c:n=k
  ·subst c
   rw[A3 fr (by omega),ae];omega
  ·rw[Ad fr h0 (k:=k) (by omega),ad _ _ (by omega)];omega
theorem zG{fr:Int→Int}{g i:Int}(h0:0≤i)(e:fr i=g+1):∀ {k:Nat},i<k→1≤cM fr g k
 | 0,h=>by simp at h;omega
 | k+1,h=>by
  rw[cM]
  by_cases c:i=k
  ·rw[←c,if_pos e];have:=sH fr g k;omega
  ·have:=zG h0 e (k:=k) (by omega);split<;>omega
def cA(fr:Int→Int)(a g:Int):Nat→Int
 | 0=>0
 | k+1=>cA fr a g k+(if fr (a+k)=g+1 then 1 else 0)
theorem zM(fr:Int→Int){a g:Int}(h0:0≤a)(hg:0≤g):∀ {k:Nat},a+k≤16→cM (dy fr a k 0) g 16=cM fr g 16-cA fr a g k
 | 0,_=>by
  have e:=B6 fr a 0
  rw[show a-a=((0:Nat):Int)from by omega]at e
  rw[cA,e];omega
 | k+1,h=>by
  have e:dy fr a ((k+1:Nat):Int) 0=aa (dy fr a k 0) (a+k) 0:=by
   have:=CD (f:=fr) (a:=a) (i:=a+k) (v:=0) (u:=0) (by omega) rfl
   rw[show a+(k:Int)-a=k from by omega,show a+(k:Int)+1-a=((k+1:Nat):Int)from by omega]at this
   exact this.symm
  have e2:dy fr a k 0 (a+k)=fr (a+k):=by unfold dy;rw[if_neg (by omega)]
  rw[e,Ad _ (by omega) (by omega),zM fr h0 hg (k:=k) (by omega),e2,cA,if_neg (c:=(0:Int)=g+1) (by omega)];omega
structure Acc (v:VB) (F:Int→Int):Prop where
 ok:v.Ok
 rf:∀ g,0≤g→g<64→v.rf g=F g
 us:∀ g,0≤g→g<64→v.bb.cJ g=if F g=0 then 0 else 1
theorem Acc.congr{v:VB}{F G:Int→Int}(h:Acc v F)(e:∀ g,0≤g→g<64→F g=G g):Acc v G:=
 ⟨h.ok,fun g a b=>(h.rf g a b).trans (e g a b),fun g a b=>by rw[h.us g a b,e g a b]⟩
theorem Acc.take{v:VB}{F:Int→Int}(h:Acc v F)(e:v.take.2.1=0):(0≤v.take.1∧v.take.1<64)∧F v.take.1=0∧Acc v.take.2.2 (aa F v.take.1 1):=by
 have c:(v.bb.take 0).2.1=0:=by
  by_cases c:(v.bb.take 0).2.1=0
  ·exact c
  ·rw[VB.AD c]at e;exact e
 obtain⟨_,hr,hu,_,hn⟩:=h.ok.bb.Fz c
 have hF:F (v.bb.take 0).1=0:=by
  have:=h.us _ hr.1 hr.2
  rw[hu]at this
  by_cases q:F (v.bb.take 0).1=0
  ·exact q
  ·rw[if_neg q]at this;omega
 have ho:=h.ok.take
 rw[VB.l6 c]at ho ⊢
 refine⟨hr,hF,ho,fun g a b=> ?_,fun g a b=> ?_⟩
 ·show aa v.rf (v.bb.take 0).1 1 g=aa F (v.bb.take 0).1 1 g
  unfold aa;split
  ·rfl
  ·exact h.rf g a b
 ·show(v.bb.take 0).2.2.cJ g=_
  rw[hn]
  unfold aa;split
  ·rfl
  ·exact h.us g a b
theorem Acc.drop{v:VB}{F:Int→Int}(h:Acc v F){g:Int}(hg:0≤g∧g<64)(h1:1≤F g):Acc (v.drop g) (aa F g (F g-1)):=by
 have hr:=h.rf g hg.1 hg.2
 refine⟨h.ok.drop (by omega),fun x a b=> ?_,fun x a b=> ?_⟩
 ·rw[(VB.Au v g).1]
  unfold aa;split
  ·omega
  ·exact h.rf x a b
 ·have hu:=h.us g hg.1 hg.2
  rw[if_neg (by omega)]at hu
  by_cases c:v.rf g-1=0
  ·rw[VB.EV c]
   have ht:v.bb.tk g=true:=by
    unfold BB.cJ at hu
    cases q:v.bb.tk g with
    | true=>rfl
    | false=>rw[q]at hu;simp at hu
   have hw:=(h.ok.bb.D4 (a:=g) (by rw[BB.As,BB.rj (by omega) ht])).2.2.1
   show(v.bb.kI g).2.cJ x=_
   rw[hw]
   unfold aa;split
   ·rw[if_pos (by omega)]
   ·exact h.us x a b
  ·rw[VB.F6 c]
   show v.bb.cJ x=_
   unfold aa;split
   ·rename_i q;subst q;rw[if_neg (by omega)];exact hu
   ·exact h.us x a b
theorem Acc.Hc{v:VB}{F:Int→Int}{fr:Int→Int}{a:Int}(hl:∀ i,0≤fr i∧fr i≤64):∀ (k:Nat),Acc v F→(∀ g,0≤g→g<64→cA fr a g k≤F g)→Acc (Hc v fr a k).2 (fun g=>F g-cA fr a g k)
 | 0,h,_=>h.congr (fun g _ _=>by simp[cA])
 | k+1,h,hF=>by
  have ih:=Acc.Hc (a:=a) hl k h (fun g a1 b=>by have:=hF g a1 b;rw[cA]at this;split at this<;>omega)
  rw[Go.X.Vm.Hc]
  unfold JV
  have hk:=hl (a+k)
  split
  ·rename_i c
   have h1:=hF (fr (a+k)-1) (by omega) (by omega)
   rw[cA,if_pos (by omega)]at h1
   refine(ih.drop (g:=fr (a+k)-1) (by omega) (by show 1≤F _-cA _ _ _ _;omega)).congr (fun g x y=> ?_)
   unfold aa
   show(if g=fr (a+k)-1 then F (fr (a+k)-1)-cA fr a (fr (a+k)-1) k-1 else F g-cA fr a g k)=F g-cA fr a g (k+1)
   rw[cA]
   by_cases q:g=fr (a+k)-1
   ·subst q;rw[if_pos rfl,if_pos (by omega)];omega
   ·rw[if_neg q,if_neg (by omega)];omega
  ·refine ih.congr (fun g x y=> ?_)
   show F g-cA fr a g k=F g-cA fr a g (k+1)
   rw[cA,if_neg (by omega)];omega
theorem F5{rf fr:Int→Int}{g:Int}(hg:0≤g)(hl:∀ i,0≤fr i):∀ k,oe rf fr k g=rf g+cM fr g k
 | 0=>by simp[oe,cM]
 | k+1=>by
  have ih:=F5 (rf:=rf) hg hl k
  have:=hl k
  rw[oe,cM]
  split
  ·unfold aa;split
   ·rename_i c;subst c;rw[ih,if_pos (by omega)];omega
   ·rw[ih,if_neg (by omega)];omega
  ·rw[ih,if_neg (by omega)];omega
theorem oE{rf fr:Int→Int}(hl:∀ i,0≤fr i∧fr i≤64){g:Int}(hg:g<0∨64≤g):∀ k,oe rf fr k g=rf g
 | 0=>rfl
 | k+1=>by
  have:=hl k
  rw[oe];split
  ·rw[ad _ _ (by omega)];exact oE hl hg k
  ·exact oE hl hg k
theorem Acc.fork{v:VB}{F:Int→Int}(h:Acc v F){m:MS}(hm:m.Ok)(hF:∀ g,0≤g→g<64→cM m.fr g 16≤F g∧F g≤1000):Acc (v.fork m) (fun g=>F g+cM m.fr g 16):=by
 have e:∀ g,0≤g→g<64→(v.fork m).rf g=F g+cM m.fr g 16:=fun g a b=>by
  show oe v.rf m.fr 16 g=_
  rw[F5 a (fun i=>(hm.lo i).1),h.rf g a b]
 refine⟨⟨h.ok.bb,fun g=> ?_,h.ok.by_⟩,e,fun g a b=> ?_⟩
 ·by_cases q:0≤g∧g<64
  ·rw[e g q.1 q.2]
   have:=hF g q.1 q.2;have:=sH m.fr g 16;omega
  ·show 0≤oe v.rf m.fr 16 g∧_
   rw[show(v.fork m).rf g=oe v.rf m.fr 16 g from rfl,oE hm.lo (by omega)];exact h.ok.rf g
 ·show v.bb.cJ g=_
  rw[h.us g a b]
  have:=hF g a b;have:=sH m.fr g 16
  by_cases q:F g=0
  ·rw[if_pos q,if_pos (by omega)]
  ·rw[if_neg q,if_neg (by omega)]
def oZ(f:Nat→MS)(g:Int):Nat→Int
 | 0=>0
 | k+1=>oZ f g k+cM (f k).fr g 16
def bJ{α:Type}(f:Nat→α)(z:Nat)(m:α):Nat→α:=fun j=>if j=z then m else f j
theorem da{α:Type}(f:Nat→α)(z:Nat)(m:α):bJ f z m z=m:=if_pos rfl
theorem cV{α:Type}(f:Nat→α){z j:Nat}(m:α)(h:j≠z):bJ f z m j=f j:=if_neg h
theorem fN{α:Type}(f:Nat→α)(z:Nat):bJ f z (f z)=f:=by
 funext j;unfold bJ;split
 ·rename_i c;rw[c]
 ·rfl
theorem zF(f:Nat→MS)(g:Int):∀ k,0≤oZ f g k∧oZ f g k≤16*k
 | 0=>by simp[oZ]
 | k+1=>by have:=zF f g k;have:=sH (f k).fr g 16;rw[oZ];omega
theorem wH(f:Nat→MS)(g:Int){z:Nat}{m:MS} :∀ {k:Nat},k≤z→oZ (bJ f z m) g k=oZ f g k
 | 0,_=>rfl
 | k+1,h=>by rw[oZ,oZ,wH f g (k:=k) (by omega),cV _ _ (by omega)]
theorem nL(f:Nat→MS)(g:Int){z:Nat}{m:MS} :∀ {k:Nat},z<k→oZ (bJ f z m) g k=oZ f g k-cM (f z).fr g 16+cM m.fr g 16
 | 0,h=>by omega
 | k+1,h=>by
  rw[oZ,oZ]
  by_cases c:z=k
  ·subst c;rw[wH f g (Nat.le_refl _),da];omega
  ·rw[nL f g (k:=k) (by omega),cV _ _ (by omega)];omega
theorem rX(f:Nat→MS)(g:Int){z:Nat} :∀ {k:Nat},z<k→cM (f z).fr g 16≤oZ f g k
 | 0,h=>by omega
 | k+1,h=>by
  rw[oZ]
  have:=zF f g k;have:=sH (f k).fr g 16
  by_cases c:z=k
  ·subst c;omega
  ·have:=rX f g (z:=z) (k:=k) (by omega);omega
structure Sys (v:VB) (f:Nat→MS) (k:Nat):Prop where
 acc:Acc v (fun g=>oZ f g k)
 mo:∀ j,j<k→(f j).Ok
theorem MS.Ok.gL{m:MS}(h:m.Ok){i:Int}(hi:0<m.fr i):0≤i∧i<16:=by
 by_cases c:0≤i∧i<16
 ·exact c
 ·have:=h.un i (h.f.out i (by omega));omega
theorem Sys.In{v:VB}{f:Nat→MS}{k z:Nat}(h:Sys v f k)(hz:z<k):(f z).In v:=fun i hi=>by
 have hm:=h.mo z hz
 have hr:=hm.gL hi
 have hl:=hm.lo i
 rw[h.acc.rf _ (by omega) (by omega)]
 have h1:=zG (fr:=(f z).fr) (g:=(f z).fr i-1) hr.1 (by omega) (k:=16) (by omega)
 have h2:=rX f ((f z).fr i-1) hz
 show 1≤oZ f ((f z).fr i-1) k
 omega
theorem Sys.free{v:VB}{f:Nat→MS}{k z:Nat}(h:Sys v f k)(hz:z<k){x:Int}(h0:oZ f x k=0)(i:Int):(f z).fr i≠x+1∨x+1≤0:=by
 by_cases c:(f z).fr i=x+1∧0<x+1
 ·have hr:=(h.mo z hz).gL (i:=i) (by omega)
  have h1:=zG (fr:=(f z).fr) (g:=x) hr.1 c.1 (k:=16) (by omega)
  have h2:=rX f x hz
  omega
 ·by_cases d:(f z).fr i=x+1
  ·right;by_cases e:0<x+1
   ·exact absurd ⟨d,e⟩ c
   ·omega
  ·exact .inl d
theorem Sys.same{v:VB}{f:Nat→MS}{k z:Nat}(h:Sys v f k)(hz:z<k){m:MS}(hm:m.Ok)(e:m.fr=(f z).fr):Sys v (bJ f z m) k:=
 ⟨h.acc.congr (fun g _ _=>by rw[nL f g hz,e];omega),fun j hj=>by
  unfold bJ;split
  ·exact hm
  ·exact h.mo j hj⟩
theorem MY{fr:Int→Int}{a g:Int}(h0:0≤a)(hg:0≤g){k:Nat}(hk:a+k≤16):cA fr a g k≤cM fr g 16:=by
 have:=zM fr h0 hg hk
 have:=sH (dy fr a k 0) g 16
 omega
theorem Sys.ew{v:VB}{f:Nat→MS}{k z:Nat}(h:Sys v f k)(hz:z<k)(a n:Int):Sys ((f z).ew v a n).2.2.1 (bJ f z ((f z).ew v a n).2.2.2) k:=by
 have hm:=h.mo z hz
 by_cases hb:fB a n
 ·rw[MS.pj hb];rw[fN];exact h
 ·have ho:=hm.ew (v:=v) a n
  unfold MS.ew at ho ⊢
  rw[if_neg hb]at ho ⊢
  unfold fB at hb
  have hn:((n.toNat:Nat):Int)=n:=by omega
  refine⟨(h.acc.Hc hm.lo n.toNat (fun g a1 b=>by
   have:=MY (fr:=(f z).fr) (a:=a) (g:=g) (by omega) a1 (k:=n.toNat) (by omega)
   have:=rX f g hz
   show _≤oZ f g k
   omega)).congr (fun g a1 b=> ?_),fun j hj=> ?_⟩
  ·rw[nL f g hz]
   show oZ f g k-_=_-_+cM (dy (f z).fr a n 0) g 16
   have:=zM (f z).fr (a:=a) (g:=g) (by omega) a1 (k:=n.toNat) (by omega)
   rw[hn]at this
   rw[this];omega
  ·unfold bJ;split
   ·exact ho
   ·exact h.mo j hj
theorem Sys.init:Sys VB.init (fun _=>MS.nil) 1:=by
 have h0:∀ g:Int,0≤g→oZ (fun _=>MS.nil) g 1=0:=fun g hg=>by
  rw[oZ,oZ]
  have e:∀ k,cM MS.nil.fr g k=0:=fun k=>by
   induction k with
   | zero=>rfl
   | succ k ih=>rw[cM,ih,show MS.nil.fr k=0 from rfl,if_neg (by omega)];rfl
  rw[e];rfl
 refine⟨⟨VB.Ok.init,fun g a b=>(h0 g a).symm,fun g a b=> ?_⟩,fun _ _=>MS.Ok.nil⟩
 show BB.init.cJ g=_
 rw[if_pos (h0 g a)]
 rfl
end Go.X.Vm

namespace Go.X.Tr
open Go Go.X
structure PS where
 b:Int→ByteArray
 e:Int→Int→Int
structure PS.Inv (K:Int) (s:PS):Prop where
 e0:∀ n,0≤s.e n 0∧s.e n 0≤K
 e1:∀ n,0≤s.e n 1∧s.e n 1≤K
 cl:∀ n,s.e n 0+s.e n 1=0→s.b n=⟨#[]⟩
 len:∀ n,(s.b n).size≤12
theorem PS.Inv.mono{K K':Int}{s:PS}(h:s.Inv K)(hk:K≤K'):s.Inv K':=
 ⟨fun n=>⟨(h.e0 n).1,by have:=(h.e0 n).2;omega⟩,fun n=>⟨(h.e1 n).1,by have:=(h.e1 n).2;omega⟩,h.cl,h.len⟩
def PS.init:PS:=⟨fun _=>⟨#[]⟩,fun _ _=>0⟩
theorem PS.Inv.init:PS.init.Inv 0:=⟨fun _=>by simp[PS.init],fun _=>by simp[PS.init],fun _ _=>rfl,fun _=>by simp[PS.init,ByteArray.size]⟩
def PS.is(s:PS)(n:Int):Int:=if n<0∨8≤n then 1 else if s.e n 0+s.e n 1=0 then 2 else 0
def PS.make(s:PS):Int×Int×PS:=match ck (fun k=>s.e k 0+s.e k 1==0) 8 with
 | some k=>(k,0,{s with e:=aX (aX s.e k 0 1) k 1 1})
 | none=>(0,4,s)
def uj(w:Bool):Int:=if w then 1 else 0
def PS.gD(s:PS)(n:Int)(w:Bool)(d:Int):Int×PS:=
 if s.is n≠0 then(s.is n,s)else if s.e n (uj w)=0 then(8,s)else
  (0,{b:=if s.e n 0+s.e n 1+d=0 then aa s.b n ⟨#[]⟩else s.b,e:=aX s.e n (uj w) (s.e n (uj w)+d)})
def PS.write(s:PS)(n:Int)(t:ByteArray):Int×Int×PS:=
 if s.is n≠0 then(0,s.is n,s)else if s.e n 1=0 then(0,8,s)else if s.e n 0=0 then(0,12,s)else
 if min (t.size:Int) (12-(s.b n).size)=0∧t.size>0 then(0,13,s)else
  (min (t.size:Int) (12-(s.b n).size),0,{s with b:=aa s.b n (s.b n++t.extract 0 (min (t.size:Int) (12-(s.b n).size)).toNat)})
def kH(f:Int→Bool):Nat→Int
 | 0=>0
 | n+1=>kH f n+if f n then 1 else 0
theorem Bp(f:Int→Bool)(n:Nat):0≤kH f n∧kH f n≤n:=by
 induction n with
 | zero=>simp[kH]
 | succ n ih=>simp only[kH];split<;>omega
def aq(s:PS)(i:Nat):Value:=
 if i%3=0∧i/3<8 then .string (s.b ((i/3:Nat):Int))else
 if 1≤i∧(i-1)%3=0∧(i-1)/3<8 then .int .i64 (s.e (((i-1)/3:Nat):Int) 0)else
 if 2≤i∧(i-2)%3=0∧(i-2)/3<8 then .int .i64 (s.e (((i-2)/3:Nat):Int) 1)else
 undef
theorem aq.nJ(s:PS)(z0:Int)(q0:0≤z0∧z0<8):(((0+0)+z0.toNat*3)+0)<24∧aq s (((0+0)+z0.toNat*3)+0)= .string (s.b z0):=by
 refine⟨by omega,?_⟩
 unfold aq
 rw[if_pos (by omega)]
 rw[show(((((0+0)+z0.toNat*3)+0)/3:Nat):Int)=z0 from by omega]
theorem aq.nD(s:PS)(z0:Int)(q0:0≤z0∧z0<8)(v:ByteArray):(((0+0)+z0.toNat*3)+0)<24∧cH (aq s) (((0+0)+z0.toNat*3)+0) (.string (v))=aq ({s with b:=aa s.b z0 v}):=by
 refine⟨by omega,?_⟩
 funext j
 unfold cH
 by_cases hj:j=(((0+0)+z0.toNat*3)+0)
 ·rw[if_pos hj,hj,(aq.nJ ({s with b:=aa s.b z0 v}) z0 q0).2]
  all_goals simp[aa,aX]
 ·rw[if_neg hj]
  unfold aq
  refine au (fun c0=> ?_) (fun c0=> ?_)
  ·have hne:¬(((j/3:Nat):Int)=z0):=by omega
   simp only[aa,aX,hne,if_false,and_true,true_and]
  refine au (fun c1=> ?_) (fun c1=> ?_)
  ·first | rfl | simp[aa,aX]
  refine au (fun c2=> ?_) (fun c2=> ?_)
  ·first | rfl | simp[aa,aX]
  rfl
theorem aq.dP(s:PS)(z0:Int)(q0:0≤z0∧z0<8):(((0+0)+z0.toNat*3)+1)<24∧aq s (((0+0)+z0.toNat*3)+1)= .int .i64 (s.e z0 0):=by
 refine⟨by omega,?_⟩
 unfold aq
 rw[if_neg (by omega)]
 rw[if_pos (by omega)]
 rw[show((((((0+0)+z0.toNat*3)+1)-1)/3:Nat):Int)=z0 from by omega]
theorem aq.kg(s:PS)(z0:Int)(q0:0≤z0∧z0<8)(v:Int):(((0+0)+z0.toNat*3)+1)<24∧cH (aq s) (((0+0)+z0.toNat*3)+1) (.int .i64 (v))=aq ({s with e:=aX s.e z0 0 v}):=by
 refine⟨by omega,?_⟩
 funext j
 unfold cH
 by_cases hj:j=(((0+0)+z0.toNat*3)+1)
 ·rw[if_pos hj,hj,(aq.dP ({s with e:=aX s.e z0 0 v}) z0 q0).2]
  all_goals simp[aa,aX]
 ·rw[if_neg hj]
  unfold aq
  refine au (fun c0=> ?_) (fun c0=> ?_)
  ·first | rfl | simp[aa,aX]
  refine au (fun c1=> ?_) (fun c1=> ?_)
  ·have hne:¬((((j-1)/3:Nat):Int)=z0):=by omega
   simp only[aa,aX,hne,if_false,and_true,true_and]
  refine au (fun c2=> ?_) (fun c2=> ?_)
  ·first | rfl | simp[aa,aX]
  rfl
theorem aq.dv(s:PS)(z0:Int)(q0:0≤z0∧z0<8):(((0+0)+z0.toNat*3)+2)<24∧aq s (((0+0)+z0.toNat*3)+2)= .int .i64 (s.e z0 1):=by
 refine⟨by omega,?_⟩
 unfold aq
 rw[if_neg (by omega)]
 rw[if_neg (by omega)]
 rw[if_pos (by omega)]
 rw[show((((((0+0)+z0.toNat*3)+2)-2)/3:Nat):Int)=z0 from by omega]
theorem aq.jw(s:PS)(z0:Int)(q0:0≤z0∧z0<8)(v:Int):(((0+0)+z0.toNat*3)+2)<24∧cH (aq s) (((0+0)+z0.toNat*3)+2) (.int .i64 (v))=aq ({s with e:=aX s.e z0 1 v}):=by
 refine⟨by omega,?_⟩
 funext j
 unfold cH
 by_cases hj:j=(((0+0)+z0.toNat*3)+2)
 ·rw[if_pos hj,hj,(aq.dv ({s with e:=aX s.e z0 1 v}) z0 q0).2]
  all_goals simp[aa,aX]
 ·rw[if_neg hj]
  unfold aq
  refine au (fun c0=> ?_) (fun c0=> ?_)
  ·first | rfl | simp[aa,aX]
  refine au (fun c1=> ?_) (fun c1=> ?_)
  ·first | rfl | simp[aa,aX]
  refine au (fun c2=> ?_) (fun c2=> ?_)
  ·have hne:¬((((j-2)/3:Nat):Int)=z0):=by omega
   simp only[aa,aX,hne,if_false,and_true,true_and]
  rfl
theorem PS.gV{s:PS}{n d:Int}{w:Bool}(h:s.is n≠0):s.gD n w d=(s.is n,s):=by simp[PS.gD,h]
theorem PS.e7{s:PS}{n d:Int}{w:Bool}(h:s.is n=0)(he:s.e n (uj w)=0):s.gD n w d=(8,s):=by simp[PS.gD,h,he]
theorem PS.jh{s:PS}{n d:Int}{w:Bool}(h:s.is n=0)(he:¬s.e n (uj w)=0)(hz:¬s.e n 0+s.e n 1+d=0):s.gD n w d=(0,{s with e:=aX s.e n (uj w) (s.e n (uj w)+d)}):=by
 simp[PS.gD,h,he,hz]
theorem PS.fL{s:PS}{n d:Int}{w:Bool}(h:s.is n=0)(he:¬s.e n (uj w)=0)(hz:s.e n 0+s.e n 1+d=0):s.gD n w d=(0,{b:=aa s.b n ⟨#[]⟩,e:=aX s.e n (uj w) (s.e n (uj w)+d)}):=by
 simp[PS.gD,h,he,hz]
theorem PS.dh(s:PS)(n:Int):(s.is n=0∧0≤n∧n<8∧¬s.e n 0+s.e n 1=0)∨(s.is n=1∧(n<0∨8≤n))∨(s.is n=2∧0≤n∧n<8∧s.e n 0+s.e n 1=0):=by
 unfold PS.is;split
 ·exact .inr (.inl ⟨rfl,by assumption⟩)
 ·split
  ·exact .inr (.inr ⟨rfl,by omega,by omega,by assumption⟩)
  ·exact .inl ⟨rfl,by omega,by omega,by assumption⟩
theorem drop_eq{g:Int→Int→Int}{n:Int}(h0:g n 0=0)(h1:g n 1=0):aX (aX g n 0 0) n 1 0=g:=by
 rw[rJ g h0,rJ g h1]
theorem PS.iC{s:PS}{n:Int}{t:ByteArray}(h:s.is n≠0):s.write n t=(0,s.is n,s):=by simp[PS.write,h]
theorem PS.fK{s:PS}{n:Int}{t:ByteArray}(h:s.is n=0)(h0:s.e n 1=0):s.write n t=(0,8,s):=by simp[PS.write,h,h0]
theorem PS.fm{s:PS}{n:Int}{t:ByteArray}(h:s.is n=0)(h0:¬s.e n 1=0)(h1:s.e n 0=0):s.write n t=(0,12,s):=by simp[PS.write,h,h0,h1]
theorem PS.fM{s:PS}{n:Int}{t:ByteArray}(h:s.is n=0)(h0:¬s.e n 1=0)(h1:¬s.e n 0=0)(ha:min (t.size:Int) (12-(s.b n).size)=0∧t.size>0):s.write n t=(0,13,s):=by
 unfold PS.write;rw[if_neg (by simp[h]),if_neg h0,if_neg h1,if_pos ha]
theorem PS.jS{s:PS}{n:Int}{t:ByteArray}(h:s.is n=0)(h0:¬s.e n 1=0)(h1:¬s.e n 0=0)(ha:¬(min (t.size:Int) (12-(s.b n).size)=0∧t.size>0)):s.write n t=(min (t.size:Int) (12-(s.b n).size),0,{s with b:=aa s.b n (s.b n++t.extract 0 (min (t.size:Int) (12-(s.b n).size)).toNat)}):=by
 unfold PS.write;rw[if_neg (by simp[h]),if_neg h0,if_neg h1,if_neg ha]
theorem PS.Cc{s:PS}{k:Int}(h0:0≤k∧k<8)(hp:s.e k 0+s.e k 1=0)(hn:∀ j:Int,0≤j→j<k→s.e j 0+s.e j 1≠0):s.make=(k,0,{s with e:=aX (aX s.e k 0 1) k 1 1}):=by
 unfold PS.make
 rw[cU h0.1 h0.2 (by simpa using hp) (fun j h1 h2=>by simpa using hn j h1 h2)]
 simp only[]
 rw[show((k.toNat:Nat):Int)=k from by omega]
theorem PS.Dq{s:PS}(hn:∀ j:Int,0≤j→j<8→s.e j 0+s.e j 1≠0):s.make=(0,4,s):=by
 unfold PS.make
 rw[cF (fun j h1 h2=>by simpa using hn j h1 h2)]
theorem CZ{s:PS}{K:Int}(hI:s.Inv K){k:Int}(h0:0≤k∧k<8)(hp:s.e k 0+s.e k 1=0):0+0+k.toNat*3+3≤24∧bQ (aq s) (0+0+k.toNat*3) [.string ⟨#[]⟩,.int .i64 1,.int .i64 1]=aq {s with e:=aX (aX s.e k 0 1) k 1 1} :=by
 refine⟨by omega,?_⟩
 have e1:=(aq.nD s k h0 ⟨#[]⟩).2
 have hb:aa s.b k ⟨#[]⟩=s.b:=by
  funext j;unfold aa;split
  ·subst_vars;exact(hI.cl _ hp).symm
  ·rfl
 rw[hb]at e1
 have e2:=(aq.kg s k h0 1).2
 have e3:=(aq.jw {s with e:=aX s.e k 0 1} k h0 1).2
 simp only[bQ,Nat.add_zero]at*
 rw[e1,e2,e3]
theorem tS(s:PS){k:Int}(h0:0≤k∧k<8):0+0+k.toNat*3+3≤24∧bQ (aq s) (0+0+k.toNat*3) [.string ⟨#[]⟩,.int .i64 0,.int .i64 0]=aq {b:=aa s.b k ⟨#[]⟩,e:=aX (aX s.e k 0 0) k 1 0} :=by
 refine⟨by omega,?_⟩
 have e1:=(aq.nD s k h0 ⟨#[]⟩).2
 have e2:=(aq.kg {s with b:=aa s.b k ⟨#[]⟩} k h0 0).2
 have e3:=(aq.jw {b:=aa s.b k ⟨#[]⟩,e:=aX s.e k 0 0} k h0 0).2
 simp only[bQ,Nat.add_zero]at*
 rw[e1,e2,e3]
end Go.X.Tr
