import Derived.Test.YthdinakloheinaaGreatDoorXBits
import Derived.Laws.AppendOwn
namespace Go.X
open Go
def kV(P:Program)(e:TypeId)(sz:Nat):Bool:=match P.info? e with
 | some i=>Nat.beq i.size sz&&Nat.ble i.bytes 1000&&Nat.blt 0 sz&&(match i.zero with
  | some z=>Nat.beq z.cells.size sz
  | none=>false)
 | none=>false
theorem jD{P:Program}{e:TypeId}{sz:Nat}(h:kV P e sz=true):∃ i z,P.info? e=some i∧i.zero=some z∧i.size=sz∧i.bytes≤1000∧z.cells.size=sz∧0<sz:=by
 unfold kV at h
 cases hi:P.info? e with
 | none=>simp[hi]at h
 | some i=>
  simp only[hi]at h
  cases hz:i.zero with
  | none=>simp[hz]at h
  | some z=>
   simp only[hz,Bool.and_eq_true,Nat.beq_eq]at h
   obtain⟨⟨⟨h1,h2⟩,h3⟩,h4⟩:=h
   exact⟨i,z,rfl,hz,h1,Nat.le_of_ble_eq_true h2,h4,by simpa using h3⟩
def bz(C:Nat→Value)(m:Nat):List Value:=(List.range m).map C
theorem XM.dH{W w:World}{S:Nat→Nat→Prop}{H:List ax}(h:XM W S H w)(e:TypeId)(sz:Nat):XM W S (.row (.slice none 0 0) e sz 0 []::H) w:=
 h.fresh (fun b o hb=>by simp[ax.dG,Value.ownBlock]at hb) (fU.refl _ _) (World.ownsRow_nil w 0 e sz)
theorem mZ(w:World)(o:Obj)(S:Nat→Nat→Prop):fU w (w.alloc o) S:=
 ⟨rfl,rfl,rfl,by simp,fun b hb _=>heap_alloc_old w _ hb,fun b A' t' fz hA=>⟨A',by rw[heap_alloc_old w _ (cw hA)];exact hA,rfl,fun _ _=>rfl⟩⟩
theorem tz{w w':World}{S:Nat→Nat→Prop}(h:fU w.drew w' S):fU w w' S:=⟨h.os,h.tape,h.output,h.size,h.same,h.part⟩
theorem wu{w:World}{g:Nat}{old cs:Array Value}{t:TypeId}{fz:Nat×Nat}(hg:w.heap[g]? =some (.cells old t fz))(hs:cs.size=old.size){S:Nat→Nat→Prop}(hS:∀ o,S g o):fU w (w.setRow g cs) S:=by
 refine⟨rfl,rfl,rfl,by simp,fun k hk hn=>setRow_other w g k _ (fun e=>hn 0 (e▸hS 0)),fun k A' t' fz' hA=> ?_⟩
 by_cases hk:k=g
 ·subst hk
  rw[hg]at hA
  simp only[Option.some.injEq,Obj.cells.injEq]at hA
  obtain⟨rfl,rfl,rfl⟩:=hA
  exact⟨cs,setRow_heap w k old cs _ _ hg,hs,fun o ho=>absurd (hS o) ho⟩
 ·exact⟨A',by rw[setRow_other w g k _ hk];exact hA,rfl,fun _ _=>rfl⟩
theorem iN{P:Program}{w:World}{t ty e:TypeId}{p:Option Addr}{k cap m c sz b:Nat}{xs news:List Value}(ht:P.underlying t=some (.slice e))(hr:kV P e sz=true)(hrow:(ax.row (.slice p k cap) e sz k xs).holds w)(hm:0<m)(hl:news.length=m*sz)(hnews:∀ j u,news[j]? =some u→w.cell? ((⟨b,0,none⟩:Addr).add j)=some u)(h1:∀ u∈news,u.oneCell'=true)(hk:k+m≤100000000000):∃ p' cap' w',(Builtin.append_ #[t,t] ty #[.slice p k cap,.slice (some ⟨b,0,none⟩) m c]).run P w= .ok (.slice p' (k+m) cap') w'∧(ax.row (.slice p' (k+m) cap') e sz (k+m) (xs++news)).holds w'∧fU w w' (fun b o=>(ax.row (.slice p k cap) e sz k xs).dG b o)∧(∀ b o,(ax.row (.slice p' (k+m) cap') e sz (k+m) (xs++news)).dG b o→(ax.row (.slice p k cap) e sz k xs).dG b o∨w.heap.size≤b):=by
 obtain⟨i,z,hi,hz,hsize,hby,hzs,hsz⟩:=jD hr
 subst hsize
 have hmax:k+m≤maxLen:=by simp only[maxLen];omega
 have hlen:(xs++news).length=(k+m)*i.size:=by rw[List.length_append,hrow.1,hl,Nat.add_mul]
 have hbytes:(k+m)*i.bytes≤140737488355328:=Nat.le_trans (Nat.mul_le_mul hk hby) (by omega)
 have grown:∀ (old:Nat),
   (ax.row (.slice (some ⟨w.heap.size,0,none⟩) (k+m) (grownCap w (k+m) old e)) e i.size (k+m) (xs++news)).holds (w.drew.alloc (.cells (xs.toArray++news.toArray++Builtin.zeroCells z.cells (grownCap w (k+m) old e-(k+m))) e)):=by
  intro old
  have hge:=grownCap_ge w (k+m) old e
  have hcm:grownCap w (k+m) old e≤maxLen:=grownCap_le_maxLen w (k+m) old e hmax
  refine⟨hlen,.inr ⟨w.heap.size,_,_,rfl,Nat.zero_le _,heap_alloc_new w.drew _,hge,hcm,?_,?_⟩⟩
  ·simp only[Array.size_append,List.size_toArray,size_zeroCells,hzs,hrow.1,hl,←Nat.add_mul]
   congr 1
   omega
  ·simp only[Array.toList_append,List.append_assoc]
   rw[←List.append_assoc,←hlen]
   exact List.take_left
 have gkeep:∀ (o:Obj) S,fU w (w.drew.alloc o) S:=fun o S=>tz (mZ w.drew o S)
 have hself:=hrow
 rcases hrow.2 with⟨hv,rfl⟩ | ⟨g,cap2,cur,hv,_,hg,hnc,hcm,hcs,htake⟩
 ·simp only[Value.slice.injEq]at hv
  obtain⟨rfl,_,rfl⟩:=hv
  have hx:xs=[]:=List.eq_nil_of_length_eq_zero (by simpa using hrow.1)
  subst hx
  have hr:=run_append_nil (P:=P) w t ty e i z ht hi hz ⟨b,0,none⟩ m c news hl hnews hm (by simp only[maxLen]at hmax;omega) (by simp only[Nat.zero_add]at hbytes;omega)
  have hgr:=grown 0
  simp only[Nat.zero_add,List.nil_append,Array.empty_append]at hgr ⊢
  exact⟨_,_,_,hr,hgr,gkeep _ _,fun b' o hb=>.inr (by simp only[ax.dG,Value.ownBlock,Option.some.injEq]at hb;omega)⟩
 ·simp only[Value.slice.injEq,true_and]at hv
  obtain⟨rfl,rfl⟩:=hv
  by_cases hroom:k+m≤cap
  ·have hfit:k*i.size+news.length≤cur.size:=by rw[hl,hcs,←Nat.add_mul];exact Nat.mul_le_mul_right _ hroom
   have hr:=run_append_room (P:=P) w t ty e i ht hi g k cap cur hg ⟨b,0,none⟩ m c news hl hnews h1 hroom hfit
   have hsz2:(cur.toList.take (k*i.size)++news++cur.toList.drop (k*i.size+news.length)).toArray.size=cur.size:=by
    simp only[List.size_toArray,List.length_append,List.length_take,List.length_drop,Array.length_toList]
    omega
   refine⟨_,_,_,hr,⟨hlen,.inr ⟨g,cap,_,rfl,Nat.zero_le _,setRow_heap w g cur _ e _ hg,hroom,hcm,hsz2.trans hcs,?_⟩⟩,wu hg hsz2 (fun _=>rfl),fun b' o hb=>.inl hb⟩
   rw[htake,←hlen]
   exact List.take_left
  ·have holds:∀ j u,xs[j]? =some u→w.cell? ((⟨g,0,none⟩:Addr).add j)=some u:=World.ownsRow.cells hself (g:=g) rfl
   have hr:=run_append_grow (P:=P) w t ty e i z ht hi hz ⟨g,0,none⟩ k cap xs hself.1 holds ⟨b,0,none⟩ m c news hl hnews (by omega) (by simp only[maxLen]at hmax;omega) (growslice_fits (by omega) hbytes)
   exact⟨_,_,_,hr,grown cap,gkeep _ _,fun b' o hb=>.inr (by simp only[ax.dG,Value.ownBlock,Option.some.injEq]at hb;omega)⟩
section
variable {P:Program} {n:Fr} {Q:Exit→Act→World→Prop} {L:PF} {ops:Md} {rest:List Oper} {ty:TypeId} {pos:String} {af:Array Edge} {d:Nat}
variable {W:World} {S:Nat→Nat→Prop} {H H':List ax}
theorem kx{a:Act}(ha:Sat n L a):∀ (l:List (Nat×Operand)) (us:List (Nat×Value)),l.mapM (fun x=>(ev L x.2).map fun u=>(x.1,u))=some us→l.map (fun x=>(x.1,a.eval x.2))=us
 | [],us,h=>by simp at h;subst h;rfl
 | x::r,us,h=>by
  simp only[List.mapM_cons,Option.bind_eq_bind]at h
  cases he:ev L x.2 with
  | none=>simp[he]at h
  | some u=>
   simp only[he,Option.map_some,Option.bind_some]at h
   cases hr:r.mapM (fun x=>(ev L x.2).map fun u=>(x.1,u))with
   | none=>simp[hr]at h
   | some us'=>
    simp[hr]at h
    subst h
    simp only[List.map_cons]
    rw[kx ha r us' hr,az ha he]
theorem XO.buildSlice{t e:TypeId}{parts:Array (Nat×Operand)}{vs:Array (Nat×Value)}{k m:Nat}{A:Array Value}(hp:parts.toList.mapM (fun x=>(ev L x.2).map fun u=>(x.1,u))=some vs.toList)(hb:∀ w,(Instr.buildSlice t k vs).run P w= .ok (.slice (some ⟨w.heap.size,0,none⟩) k k) (w.alloc (.cells A e)))(hA:A.size=m)(hd:Nat.blt d n.sz=true)(h:∀ b,XO P n ops Q rest ((d,.slice (some ⟨b,0,none⟩) k k)::L) (XM W S (.cells b 0 m (cellsOf A)::H))):XO P n ops Q (⟨some d,.buildSlice t k parts,ty,pos,af,none⟩::rest) L (XM W S H):=
 XO.op rfl fun a w ha hw=>by
  have hx':=hw.alloc A e (cellsOf A) (fun i hi=>dW _ _ hi)
  rw[hA]at hx'
  unfold Oper.wp
  have hv:parts.map (fun (i,x)=>(i,a.eval x))=vs:=by
   apply Array.toList_inj.1
   rw[Array.toList_map]
   exact kx ha _ _ hp
  have:(execOp a.eval ⟨some d,.buildSlice t k parts,ty,pos,af,none⟩).run P w= .ok (.value (.slice (some ⟨w.heap.size,0,none⟩) k k)) (w.alloc (.cells A e)):=by
   simp only[execOp,hv,Sem.run_bind,hb,Result.andThen_ok,Sem.run_pure]
  rw[this]
  exact h _ _ _ (ha.put hd _) hx'
theorem XO.append{t e:TypeId}{x y:Operand}{p:Option Addr}{k cap m c sz b N:Nat}{xs:List Value}{C:Nat→Value}(hx:ev L x=some (.slice p k cap))(hy:ev L y=some (.slice (some ⟨b,0,none⟩) m c))(ht:P.underlying t=some (.slice e))(hr:kV P e sz=true)(hH:dX H (.row (.slice p k cap) e sz k xs) H')(hN:Has H (.cells b 0 N C))(hNm:N=m*sz)(h1:(bz C N).all one=true)(hm:0<m)(hk:k+m≤100000000000)(hd:Nat.blt d n.sz=true)(h:∀ p' cap',XO P n ops Q rest ((d,.slice p' (k+m) cap')::L) (XM W S (.row (.slice p' (k+m) cap') e sz (k+m) (xs++bz C N)::H'))):XO P n ops Q (⟨some d,.call ⟨.builtin .append,#[x,y],#[t,t]⟩,ty,pos,af,none⟩::rest) L (XM W S H):=
 XO.op rfl fun a w ha hw=>by
  have hc:(ax.cells b 0 N C).holds w:=hw.good.1 _ hN.mem
  have hrow:(ax.row (.slice p k cap) e sz k xs).holds w:=hw.good.1 _ (hH.perm.mem_iff.2 (by simp))
  obtain⟨p',cap',w',h3,h4,h5,h6⟩:=iN (ty:=ty) (c:=c) (b:=b) (news:=bz C N) ht hr hrow hm (by simp[bz,hNm]) (fun j u hj=>by
    simp only[bz,List.getElem?_map,Option.map_eq_some_iff]at hj
    obtain⟨j',hj1,rfl⟩:=hj
    have hj2:j<N:=by
     have:=(List.getElem?_eq_some_iff.1 hj1).1
     simpa using this
    have hj3:j'=j:=by
     have:=(List.getElem?_eq_some_iff.1 hj1).2
     simpa using this.symm
    subst hj3
    have hcc:=cB hc hj2
    have e0:(⟨b,0,none⟩:Addr).add j'=⟨b,0+j',none⟩:=by
     cases j'<;>simp[Addr.add]
    rw[e0];exact hcc) (fun u hu=>iP (List.all_eq_true.1 h1 u hu)) hk
  have hx2:=hw.write hH rfl h6 h5 h4
  unfold Oper.wp
  have:(execOp a.eval ⟨some d,.call ⟨.builtin .append,#[x,y],#[t,t]⟩,ty,pos,af,none⟩).run P w= .ok (.value (.slice p' (k+m) cap')) w':=by
   simp[execOp,resolve,invoke,builtin,az ha hx,az ha hy,h3]
  rw[this]
  exact h _ _ _ _ (ha.put hd _) hx2
theorem XO.db{p:Option Addr}{k cap sz:Nat}{e:TypeId}{xs:List Value}{rest:List Oper}(hH:Has H (.row (.slice p k cap) e sz k xs))(hk:0<k)(h:∀ g,p=some ⟨g,0,none⟩→XO P n ops Q rest L (XM W S H)):XO P n ops Q rest L (XM W S H):=by
 intro a w ha hw
 have hrow:(ax.row (.slice p k cap) e sz k xs).holds w:=hw.good.1 _ hH.mem
 rcases hrow.2 with⟨hv,rfl⟩ | ⟨g,_,_,hv,_⟩
 ·omega
 ·simp only[Value.slice.injEq]at hv
  exact h g hv.1 a w ha hw
theorem XC.db{p:Option Addr}{k cap sz:Nat}{e:TypeId}{xs:List Value}{c:Code}(hH:Has H (.row (.slice p k cap) e sz k xs))(hk:0<k)(h:∀ g,p=some ⟨g,0,none⟩→XC P n c Q L (XM W S H)):XC P n c Q L (XM W S H):=by
 intro a w ha hw
 have hrow:(ax.row (.slice p k cap) e sz k xs).holds w:=hw.good.1 _ hH.mem
 rcases hrow.2 with⟨hv,rfl⟩ | ⟨g,_,_,hv,_⟩
 ·omega
 ·simp only[Value.slice.injEq]at hv
  exact h g hv.1 a w ha hw
theorem XO.Gb{t e:TypeId}{parts:Array (Nat×Operand)}{vs:Array (Nat×Value)}{k sz:Nat}{A:Array Value}(hp:parts.toList.mapM (fun x=>(ev L x.2).map fun u=>(x.1,u))=some vs.toList)(hb:∀ w,(Instr.buildSlice t k vs).run P w= .ok (.slice (some ⟨w.heap.size,0,none⟩) k k) (w.alloc (.cells A e)))(hA:A.size=k*sz)(hk:k≤1000000)(hd:Nat.blt d n.sz=true)(h:∀ b,XO P n ops Q rest ((d,.slice (some ⟨b,0,none⟩) k k)::L) (XM W S (.row (.slice (some ⟨b,0,none⟩) k k) e sz k A.toList::H))):XO P n ops Q (⟨some d,.buildSlice t k parts,ty,pos,af,none⟩::rest) L (XM W S H):=
 XO.op rfl fun a w ha hw=>by
  have hx':XM W S (.row (.slice (some ⟨w.heap.size,0,none⟩) k k) e sz k A.toList::H) (w.alloc (.cells A e)):=by
   refine hw.fresh (fun b o hb=>by simp only[ax.dG,Value.ownBlock,Option.some.injEq]at hb;omega) (mZ w _ _) ⟨by simp[hA],.inr ⟨w.heap.size,k,A,rfl,Nat.zero_le _,heap_alloc_new w _,Nat.le_refl _,by simp only[maxLen];omega,hA,?_⟩⟩
   rw[←hA,←Array.length_toList,List.take_length]
  unfold Oper.wp
  have hv:parts.map (fun (i,x)=>(i,a.eval x))=vs:=by
   apply Array.toList_inj.1
   rw[Array.toList_map]
   exact kx ha _ _ hp
  have:(execOp a.eval ⟨some d,.buildSlice t k parts,ty,pos,af,none⟩).run P w= .ok (.value (.slice (some ⟨w.heap.size,0,none⟩) k k)) (w.alloc (.cells A e)):=by
   simp only[execOp,hv,Sem.run_bind,hb,Result.andThen_ok,Sem.run_pure]
  rw[this]
  exact h _ _ _ (ha.put hd _) hx'
theorem cell_of_row{w:World}{g k cap sz j:Nat}{e:TypeId}{xs:List Value}{v:Value}(h:(ax.row (.slice (some ⟨g,0,none⟩) k cap) e sz k xs).holds w)(hj:xs[j]? =some v):w.cell? ⟨g,0+j,none⟩=some v:=by
 have:=World.ownsRow.cells h (g:=g) rfl j v hj
 have e0:(⟨g,0,none⟩:Addr).add j=⟨g,0+j,none⟩:=by cases j<;>simp[Addr.add]
 rw[e0]at this;exact this
theorem V.Ao{t:TypeId}{x:Operand}{g i k cap sz:Nat}{e:TypeId}{xs:List Value}{v:Value}{φ:World→Prop}{gd:Option (Nat×Bool)}(hx:ev L x=some (ptr g 0 i))(hH:∀ w,φ w→(ax.row (.slice (some ⟨g,0,none⟩) k cap) e sz k xs).holds w)(hv:xs[i]? =some v)(ht:fT P t=true):bh P n L φ (⟨some d,.load t x,ty,pos,af,gd⟩) v:=fun a w ha hw=>by
 have hc:w.cell? ⟨g,i,none⟩=some v:=by
  have:=cell_of_row (hH w hw) hv
  rwa[Nat.zero_add]at this
 simp[execOp,az ha hx,Instr.loadAt,Instr.sureAddr,ptr,dw ht hc]
end
def ints(zs:List Int):List Value:=zs.map (Value.int .i64)
def ep(zs:List Int)(z:Int):Int:=zs.getD z.toNat 0
theorem ints_at{zs:List Int}{z:Int}(h:0≤z∧z<zs.length):(ints zs)[0+z.toNat*1]? =some (.int .i64 (ep zs z)):=by
 have h2:z.toNat<zs.length:=by omega
 simp[ints,ep,List.getD,h2]
abbrev bk(p:Option Addr)(cap:Nat)(e:TypeId)(zs:List Int):ax:=.row (.slice p zs.length cap) e 1 zs.length (ints zs)
theorem wC(zs:List Int)(z:Int):ints zs++[.int .i64 z]=ints (zs++[z]):=by simp[ints]
section
variable {P:Program} {n:Fr} {Q:Exit→Act→World→Prop} {L:PF} {ops:Md} {rest:List Oper} {ty:TypeId} {pos:String} {af:Array Edge} {d:Nat}
variable {W:World} {S:Nat→Nat→Prop} {H H':List ax}
theorem XO.kr{t e:TypeId}{x y:Operand}{p:Option Addr}{cap c b:Nat}{zs:List Int}{z:Int}(hx:ev L x=some (.slice p zs.length cap))(hy:ev L y=some (.slice (some ⟨b,0,none⟩) 1 c))(ht:P.underlying t=some (.slice e))(hr:kV P e 1=true)(hH:dX H (bk p cap e zs) H')(hN:Has H (.cells b 0 1 (cellsOf #[.int .i64 z])))(hk:zs.length+1≤100000000000)(hd:Nat.blt d n.sz=true)(h:∀ p' cap',XO P n ops Q rest ((d,.slice p' (zs++[z]).length cap')::L) (XM W S (bk p' cap' e (zs++[z])::H'))):XO P n ops Q (⟨some d,.call ⟨.builtin .append,#[x,y],#[t,t]⟩,ty,pos,af,none⟩::rest) L (XM W S H):=
 XO.append hx hy ht hr hH hN rfl rfl (by omega) hk hd (fun p' cap'=>by
  have e1:zs.length+1=(zs++[z]).length:=by simp
  have e2:ints zs++bz (cellsOf #[.int .i64 z]) 1=ints (zs++[z]):=wC zs z
  rw[e1,e2]
  exact h p' cap')
theorem XE.NG{k:Nat}{ps:List Nat}{cs:List (Nat×Nat)}{fn:Func}{R:Ending→World→Prop}{a b o i m sz:Nat}{t:TypeId}{C:Nat→Value}{v:Value}(hr:fn.results= #[.cell a t])(hv:lk L a=some (ptr b o i))(hH:Has H (.cells b o m C))(hC:i+sz≤m∧cq C i sz=v)(ht:jW P t=true)(hs:dx P t=some sz)(h:∀ w,XM W S H w→R (.returned v) w):XE (fr k ps cs) (bodyPost P fn R) .ret L (XM W S H):=fun x w ha hw=>
 ⟨ha.1,v,by
  have hc:(ax.cells b o m C).holds w:=hw.good.1 _ hH.mem
  have hl:=fI (P:=P) (w:=w) (b:=b) (o:=o) (i:=i) (C:=C) ht hs (fun l hl=>cB hc (by omega))
  rw[hC.2]at hl
  have he:x.tmps.getD a undef= .pointer (some ⟨b,o+i,none⟩):=ha.2.2 a _ hv
  have he2:x.tmps[a]?.getD undef= .pointer (some ⟨b,o+i,none⟩):=by simpa using he
  simp[results,hr,he2,asAddr,hl],h w hw⟩
def pf(f:Int→Int)(m:Nat):Array Value:=((List.range m).map fun (j:Nat)=>Value.int .i64 (f (j:Int))).toArray
theorem V.iG{t e:TypeId}{x y:Operand}{f:Int→Int}{m:Nat}{k:IntKind}{z:Int}{φ:World→Prop}{gd:Option (Nat×Bool)}(hx:ev L x=some (.agg (pf f m)))(hy:ev L y=some (.int k z))(ht:P.underlying t=some (.array m e))(hs:dx P e=some 1)(he:fT P e=true)(hz:0≤z∧z<m):bh P n L φ ⟨some d,.index t x y,ty,pos,af,gd⟩ (.int .i64 (f z)):=fun a w ha _=>by
 have h2:z.toNat<m:=by omega
 have h3:((z.toNat:Nat):Int)=z:=by omega
 have hp:(part e (pf f m) (z.toNat*1)).run P w= .ok (.int .i64 (f z)) w:=by
  simp[part,iS he,pf,h2,h3]
 simp only[execOp,az ha hx,az ha hy,Instr.index,asIntOf,Sem.run_bind,Sem.run_pure,Result.andThen_ok,run_underlying ht,hz,run_sizeOf hs]
 simp only[Sem.run_bind,run_sizeOf hs,Result.andThen_ok,hp,true_and,and_self,if_true]
theorem V.EZ{t e:TypeId}{x y:Operand}{A:Array Value}{m:Nat}{k:IntKind}{z:Int}{v:Value}{φ:World→Prop}{gd:Option (Nat×Bool)}(hx:ev L x=some (.agg A))(hy:ev L y=some (.int k z))(ht:P.underlying t=some (.array m e))(hs:dx P e=some 1)(he:fT P e=true)(hz:0≤z∧z<m)(hv:A[z.toNat]? =some v):bh P n L φ ⟨some d,.index t x y,ty,pos,af,gd⟩ v:=fun a w ha _=>by
 have hp:(part e A (z.toNat*1)).run P w= .ok v w:=by
  simp[part,iS he,hv]
 simp only[execOp,az ha hx,az ha hy,Instr.index,asIntOf,Sem.run_bind,Sem.run_pure,Result.andThen_ok,run_underlying ht,hz,run_sizeOf hs]
 simp only[Sem.run_bind,run_sizeOf hs,Result.andThen_ok,hp,true_and,and_self,if_true]
end
def encI(f:Int→Int)(m:Nat):Nat→Value:=fun i=>if i<m then .int .i64 (f i)else undef
def yV(f:Int→Bool)(m:Nat):Array Value:=((List.range m).map fun (j:Nat)=>Value.bool (f (j:Int))).toArray
def my(f:Int→Bool)(m:Nat):Nat→Value:=fun i=>if i<m then .bool (f i)else undef
theorem encI.ld(f:Int→Int)(m:Nat)(z:Int)(h:0≤z∧z<m):0+z.toNat*1<m∧encI f m (0+z.toNat*1)= .int .i64 (f z):=by
 have h1:0+z.toNat*1<m:=by omega
 refine⟨h1,?_⟩
 unfold encI
 rw[if_pos h1,show((0+z.toNat*1:Nat):Int)=z from by omega]
theorem my.ld(f:Int→Bool)(m:Nat)(z:Int)(h:0≤z∧z<m):0+z.toNat*1<m∧my f m (0+z.toNat*1)= .bool (f z):=by
 have h1:0+z.toNat*1<m:=by omega
 refine⟨h1,?_⟩
 unfold my
 rw[if_pos h1,show((0+z.toNat*1:Nat):Int)=z from by omega]
theorem encI.st(f:Int→Int)(m:Nat)(z v:Int)(h:0≤z∧z<m):0+z.toNat*1<m∧cH (encI f m) (0+z.toNat*1) (.int .i64 v)=encI (aa f z v) m:=by
 have h1:0+z.toNat*1<m:=by omega
 refine⟨h1,?_⟩
 funext i
 unfold cH encI aa
 by_cases h2:i=0+z.toNat*1
 ·have h3:(i:Int)=z:=by omega
  have h4:i<m:=by omega
  simp only[if_pos h2,if_pos h3,if_pos h4]
 ·have h3:i<m→¬(i:Int)=z:=by omega
  simp only[if_neg h2]
  by_cases h4:i<m
  ·simp only[if_pos h4,if_neg (h3 h4)]
  ·simp only[if_neg h4]
theorem my.st(f:Int→Bool)(m:Nat)(z:Int)(v:Bool)(h:0≤z∧z<m):0+z.toNat*1<m∧cH (my f m) (0+z.toNat*1) (.bool v)=my (aa f z v) m:=by
 have h1:0+z.toNat*1<m:=by omega
 refine⟨h1,?_⟩
 funext i
 unfold cH my aa
 by_cases h2:i=0+z.toNat*1
 ·have h3:(i:Int)=z:=by omega
  have h4:i<m:=by omega
  simp only[if_pos h2,if_pos h3,if_pos h4]
 ·have h3:i<m→¬(i:Int)=z:=by omega
  simp only[if_neg h2]
  by_cases h4:i<m
  ·simp only[if_pos h4,if_neg (h3 h4)]
  ·simp only[if_neg h4]
theorem encI.agg(f:Int→Int)(m:Nat):0+m≤m∧cq (encI f m) 0 m= .agg (pf f m):=by
 refine⟨by omega,?_⟩
 unfold cq pf
 congr 2
 apply List.map_congr_left
 intro j hj
 have hj2:j<m:=by simpa using hj
 simp[encI,hj2]
theorem encI.box(f:Int→Int)(m:Nat):∀ i,i<m→cellsOf (pf f m) i=encI f m i:=fun i hi=>by simp[cellsOf,pf,encI,hi]
theorem my.box(f:Int→Bool)(m:Nat):∀ i,i<m→cellsOf (yV f m) i=my f m i:=fun i hi=>by simp[cellsOf,yV,my,hi]
end Go.X

namespace Go.X
open Go
abbrev bj(p:Option Addr)(cap:Nat)(e:TypeId)(sz k:Nat)(C:Nat→Value):ax:=.row (.slice p k cap) e sz k (bz C (k*sz))
theorem cE{C:Nat→Value}{m i:Nat}(h:i<m):(bz C m)[i]? =some (C i):=by simp[bz,h]
theorem aY(C:Nat→Value)(m:Nat):(bz C m).length=m:=by simp[bz]
theorem zb(C:Nat→Value)(m i:Nat)(v:Value):(bz C m).set i v=bz (cH C i v) m:=by
 apply List.ext_getElem?
 intro j
 by_cases hj:j<m
 ·rw[cE hj,List.getElem?_set,aY]
  by_cases h:i=j
  ·subst h;simp[cH,hj]
  ·have h2:¬j=i:=fun e=>h e.symm
   rw[if_neg h,cE hj];simp[cH,h2]
 ·rw[List.getElem?_eq_none (by simp[aY];omega),List.getElem?_eq_none (by simp[aY];omega)]
theorem pq{w:World}{g cap sz k i:Nat}{e:TypeId}{C:Nat→Value}(h:(bj (some ⟨g,0,none⟩) cap e sz k C).holds w)(hi:i<k*sz):w.cell? ⟨g,i,none⟩=some (C i):=by
 have:=cell_of_row h (cE hi)
 rwa[Nat.zero_add]at this
theorem lT{w:World}{g cap sz k:Nat}{e:TypeId}{xs:List Value}(h:(ax.row (.slice (some ⟨g,0,none⟩) k cap) e sz k xs).holds w):∃ cur,w.heap[g]? =some (.cells cur e (0,0))∧k≤cap∧cap≤maxLen∧cur.size=cap*sz∧cur.toList.take (k*sz)=xs:=by
 rcases h.2 with⟨hv,_⟩ | ⟨g',cap',cur,hv,_,h1,h2,h3,h4,h5⟩
 ·cases hv
 ·simp only[Value.slice.injEq,Option.some.injEq,Addr.mk.injEq,and_true,true_and]at hv
  obtain⟨rfl,rfl⟩:=hv
  exact⟨cur,h1,h2,h3,h4,h5⟩
theorem XM.Bq{W w:World}{S:Nat→Nat→Prop}{H H':List ax}{g cap sz k i:Nat}{e:TypeId}{C:Nat→Value}(h:XM W S H w)(hd:dX H (bj (some ⟨g,0,none⟩) cap e sz k C) H')(hi:i<k*sz)(v:Value):XM W S (bj (some ⟨g,0,none⟩) cap e sz k (cH C i v)::H') (w.setCell ⟨g,i,none⟩ v):=by
 have hh:(bj (some ⟨g,0,none⟩) cap e sz k C).holds w:=h.good.1 _ (hd.perm.mem_iff.2 (by simp))
 obtain⟨cur,h1,h2,h3,h4,h5⟩:=lT hh
 have hS:(bj (some ⟨g,0,none⟩) cap e sz k C).dG g (0+i):=rfl
 have hk:fU w (w.setCell ⟨g,i,none⟩ v) (fun b o=>(bj (some ⟨g,0,none⟩) cap e sz k C).dG b o):=by
  have:=fU.setCell h1 v hS
  rwa[Nat.zero_add]at this
 refine h.write (e':=bj (some ⟨g,0,none⟩) cap e sz k (cH C i v)) hd rfl (fun b' o' ha=>.inl ha) hk ?_
 refine⟨by rw[aY],.inr ⟨g,cap,cur.setIfInBounds i v,rfl,Nat.zero_le _,by simp[World.setCell,Array.getElem?_modify,h1],h2,h3,by simpa using h4,?_⟩⟩
 rw[Array.toList_setIfInBounds,List.take_set,h5,zb]
section
variable {P:Program} {n:Fr} {Q:Exit→Act→World→Prop} {L:PF} {ops:Md} {rest:List Oper} {ty:TypeId} {pos:String} {af:Array Edge} {d:Nat}
variable {W:World} {S:Nat→Nat→Prop} {H H':List ax}
theorem ly{w:World}{g cap sz k i:Nat}{e:TypeId}{C:Nat→Value}(h:(bj (some ⟨g,0,none⟩) cap e sz k C).holds w)(hi:i<k*sz){v:Value}(hv:one v=true):(store ⟨g,i,none⟩ v).run P w= .ok () (w.setCell ⟨g,i,none⟩ v):=by
 rw[run_store P w _ v .plain (iP hv),pq h hi]
 obtain⟨cur,h1,h2,h3,h4,h5⟩:=lT h
 have:w.frozen? ⟨g,i,none⟩=false:=by
  simp only[World.frozen?,h1]
  simp
 simp[this]
theorem mF{g cap sz k:Nat}{e:TypeId} :∀ (vs:List Value) (i j:Nat) (C:Nat→Value) (w:World),XM W S (bj (some ⟨g,0,none⟩) cap e sz k C::H) w→i+j+vs.length≤k*sz→vs.all one=true→
  ∃ w',(storeCells ⟨g,i,none⟩ vs j).run P w= .ok () w'∧XM W S (bj (some ⟨g,0,none⟩) cap e sz k (bQ C (i+j) vs)::H) w'
 | [],i,j,C,w,h,_,_=>⟨w,by simp[storeCells],h⟩
 | v::r,i,j,C,w,h,hl,h1=>by
  simp only[List.all_cons,Bool.and_eq_true]at h1
  simp only[List.length_cons]at hl
  have h2:=h.Bq .here (i:=i+j) (by omega) v
  obtain⟨w',hr,hx⟩:=mF r i (j+1) _ _ h2 (by omega) h1.2
  refine⟨w',?_,by simpa only[bQ,Nat.add_assoc]using hx⟩
  simp only[storeCells,Sem.run_bind,iI]
  rw[show(⟨g,i,none⟩:Addr).add j=⟨g,i+j,none⟩from by
   have:=iI g 0 i j
   simpa only[Nat.zero_add]using this,ly (show(bj (some ⟨g,0,none⟩) cap e sz k C).holds w from h.good.1 _ (by simp)) (by omega) h1.1]
  exact hr
theorem qJ{t:TypeId}{x y:Operand}{g cap sz k i m:Nat}{e:TypeId}{C:Nat→Value}{cs:Array Value}{a:Act}{w:World}(ha:Sat n L a)(hx:ev L x=some (ptr g 0 i))(hy:ev L y=some (.agg cs))(hw:XM W S (bj (some ⟨g,0,none⟩) cap e sz k C::H) w)(hi:i+m≤k*sz)(hv:cs.toList.all one=true∧cs.size=m)(hs:dx P t=some m):∃ w',(execOp a.eval ⟨none,.store t x y,ty,pos,af,none⟩).run P w= .ok .skip w'∧XM W S (bj (some ⟨g,0,none⟩) cap e sz k (bQ C i cs.toList)::H) w':=by
 obtain⟨w',hr,hx'⟩:=mF (P:=P) cs.toList i 0 C w hw (by simp;omega) hv.1
 simp only[Nat.add_zero]at hx'
 exact⟨w',by simp[execOp,az ha hx,az ha hy,Instr.storeAt,Instr.sureAddr,ptr,storeVar,Value.cells,run_sizeOf hs,hv.2,hr],hx'⟩
theorem XO.Jg{t:TypeId}{x y:Operand}{g cap sz k i m:Nat}{e:TypeId}{C C':Nat→Value}{cs:Array Value}(hx:ev L x=some (ptr g 0 i))(hy:ev L y=some (.agg cs))(hH:ed H (bj (some ⟨g,0,none⟩) cap e sz k C) (bj (some ⟨g,0,none⟩) cap e sz k C') H')(hi:i+m≤k*sz∧bQ C i cs.toList=C')(hv:cs.toList.all one=true∧cs.size=m)(hs:dx P t=some m)(h:XO P n ops Q rest L (XM W S H')):XO P n ops Q (⟨none,.store t x y,ty,pos,af,none⟩::rest) L (XM W S H):=
 XO.op rfl fun a w ha hw=>by
  obtain⟨H1,hd,hp⟩:=hH.del
  obtain⟨w',hr,hx'⟩:=qJ (ty:=ty) (pos:=pos) (af:=af) ha hx hy (hw.perm hd.perm) hi.1 hv hs
  rw[hi.2]at hx'
  unfold Oper.wp
  rw[hr]
  exact h _ _ ha (hx'.perm hp)
theorem V.MW{t:TypeId}{x:Operand}{g i k cap sz:Nat}{e:TypeId}{C:Nat→Value}{v:Value}{φ:World→Prop}{gd:Option (Nat×Bool)}(hx:ev L x=some (ptr g 0 i))(hH:∀ w,φ w→(bj (some ⟨g,0,none⟩) cap e sz k C).holds w)(hv:i<k*sz∧C i=v)(ht:fT P t=true):
  bh P n L φ (⟨some d,.load t x,ty,pos,af,gd⟩) v:=V.Ao hx hH (by rw[cE hv.1,hv.2]) ht
theorem V.Kw{t:TypeId}{x:Operand}{g i k cap sz m:Nat}{e:TypeId}{C:Nat→Value}{v:Value}{φ:World→Prop}{gd:Option (Nat×Bool)}(hx:ev L x=some (ptr g 0 i))(hH:∀ w,φ w→(bj (some ⟨g,0,none⟩) cap e sz k C).holds w)(hv:i+m≤k*sz∧cq C i m=v)(ht:jW P t=true)(hs:dx P t=some m):bh P n L φ (⟨some d,.load t x,ty,pos,af,gd⟩) v:=fun a w ha hw=>by
 have hr:=fI (P:=P) (w:=w) (b:=g) (o:=0) (i:=i) (C:=C) ht hs (fun l hl=>by
  have:=pq (hH w hw) (i:=i+l) (by omega)
  rwa[Nat.zero_add])
 rw[hv.2]at hr
 simp only[Nat.zero_add]at hr
 simp[execOp,az ha hx,Instr.loadAt,Instr.sureAddr,ptr,hr]
theorem XO.Lg{t e0:TypeId}{x y:Operand}{p:Option Addr}{k k2 cap sz:Nat}{kk:IntKind}{z:Int}{e:TypeId}{C C':Nat→Value}(hx:ev L x=some (.slice p k cap))(hy:ev L y=some (.int kk z))(ht:P.underlying t=some (.slice e0))(hs:dx P e0=some sz)(hz:z=(k2:Int))(hk2:k2≤k)(hk:k≤cap)(hC:∀ i,i<k2*sz→C' i=C i)(hH:ed H (bj p cap e sz k C) (bj p cap e sz k2 C') H')(hd:Nat.blt d n.sz=true)(h:XO P n ops Q rest ((d,.slice p k2 cap)::L) (XM W S H')):XO P n ops Q (⟨some d,.slice t x none (some y) none,ty,pos,af,none⟩::rest) L (XM W S H):=
 XO.mono (M':=XM W S H') (fun w hw=>by
  obtain⟨H1,hdel,hp⟩:=hH.del
  have hrow:(bj p cap e sz k C).holds w:=hw.good.1 _ (hdel.perm.mem_iff.2 (by simp))
  have hsub:(bj p cap e sz k2 C').holds w:=by
   refine⟨by rw[aY],?_⟩
   rcases hrow.2 with⟨hv,hk0⟩ | ⟨g,cap',cur,hv,h0,h1,h2,h3,h4,h5⟩
   ·simp only[Value.slice.injEq]at hv
    obtain⟨rfl,rfl,rfl⟩:=hv
    have:k2=0:=by omega
    subst this;exact .inl ⟨rfl,rfl⟩
   ·simp only[Value.slice.injEq,true_and]at hv
    obtain⟨rfl,rfl⟩:=hv
    refine .inr ⟨g,cap,cur,rfl,h0,h1,by omega,h3,h4,?_⟩
    have hle:k2*sz≤k*sz:=Nat.mul_le_mul_right _ hk2
    have:=congrArg (List.take (k2*sz)) h5
    rw[List.take_take,Nat.min_eq_left hle]at this
    rw[this]
    apply List.ext_getElem?
    intro j
    by_cases hj:j<k2*sz
    ·rw[List.getElem?_take_of_lt hj,cE (by omega),cE hj,hC j hj]
    ·rw[List.getElem?_eq_none (by rw[List.length_take,aY];exact Nat.le_trans (Nat.min_le_left _ _) (by omega)),List.getElem?_eq_none (by rw[aY];omega)]
  have hx2:=hw.write (e':=bj p cap e sz k2 C') hdel rfl (fun b o hb=>.inl (by cases p<;>exact hb)) (fU.refl _ _) hsub
  exact hx2.perm hp) (XO.v (fun a w ha _=>by
  subst hz
  have hzc:(k2:Int)≤(cap:Int):=by omega
  have:(execOp a.eval ⟨some d,.slice t x none (some y) none,ty,pos,af,none⟩).run P w= .ok (.value (.slice p k2 cap)) w:=by
   have hp0:(if cap=0 then p else p.map (fun x=>x.add (0*sz)))=p:=by
    split
    ·rfl
    ·cases p with
     | none=>rfl
     | some a=>simp[Addr.add]
   have hk3:k2≤cap:=by omega
   simp[execOp,az ha hx,az ha hy,Instr.sliceAt,run_underlying ht,Instr.slice,Instr.sliceBounds,Instr.sliceBound,asIntOf,hk3,run_sizeOf hs]
   simpa using hp0
  exact this) (by simp[hd,cI]) h)
theorem sx{w:World}{p:Option Addr}{k cap sz:Nat}{e:TypeId}{xs:List Value}(h:(ax.row (.slice p k cap) e sz k xs).holds w):k≤cap:=by
 rcases h.2 with⟨hv,h0⟩ | ⟨g,cap',cur,hv,_,_,h2,_⟩
 ·omega
 ·simp only[Value.slice.injEq,true_and]at hv
  omega
theorem XO.AA{t e:TypeId}{x y:Operand}{p:Option Addr}{k cap m c sz b N:Nat}{C C1 C2:Nat→Value}(hx:ev L x=some (.slice p k cap))(hy:ev L y=some (.slice (some ⟨b,0,none⟩) m c))(ht:P.underlying t=some (.slice e))(hr:kV P e sz=true)(hH:dX H (bj p cap e sz k C) H')(hN:Has H (.cells b 0 N C1))(hNm:N=m*sz)(h1:(bz C1 N).all one=true)(hm:0<m)(hk:k+m≤100000000000)(hC:∀ i,i<(k+m)*sz→C2 i=if i<k*sz then C i else C1 (i-k*sz))(hd:Nat.blt d n.sz=true)(h:∀ p' cap',XO P n ops Q rest ((d,.slice p' (k+m) cap')::L) (XM W S (bj p' cap' e sz (k+m) C2::H'))):XO P n ops Q (⟨some d,.call ⟨.builtin .append,#[x,y],#[t,t]⟩,ty,pos,af,none⟩::rest) L (XM W S H):=
 XO.append hx hy ht hr hH hN hNm h1 hm hk hd (fun p' cap'=>by
  have e2:bz C (k*sz)++bz C1 N=bz C2 ((k+m)*sz):=by
   apply List.ext_getElem?
   intro j
   have hl:(k+m)*sz=k*sz+N:=by rw[hNm,Nat.add_mul]
   by_cases hj:j<k*sz
   ·rw[List.getElem?_append_left (by rw[aY];exact hj),cE hj,cE (by omega),hC j (by omega),if_pos hj]
   ·by_cases hj2:j<(k+m)*sz
    ·rw[List.getElem?_append_right (by rw[aY];omega),aY,cE (by omega),cE hj2,hC j hj2,if_neg hj]
    ·rw[List.getElem?_eq_none (by simp[aY];omega),List.getElem?_eq_none (by simp[aY];omega)]
  rw[e2]
  exact h p' cap')
end
end Go.X

namespace Go.X
open Go
section
variable {P:Program} {n:Fr} {Q:Exit→Act→World→Prop} {L:PF} {ops:Md} {rest:List Oper} {ty:TypeId} {pos:String} {af:Array Edge} {d:Nat}
variable {W:World} {S:Nat→Nat→Prop} {H H':List ax}
theorem XO.LP{t:TypeId}{x y:Operand}{g cap sz k i:Nat}{e:TypeId}{C C':Nat→Value}{v:Value}(hx:ev L x=some (ptr g 0 i))(hy:ev L y=some v)(hH:ed H (bj (some ⟨g,0,none⟩) cap e sz k C) (bj (some ⟨g,0,none⟩) cap e sz k C') H')(hi:i<k*sz∧cH C i v=C')(hv:one v=true)(hs:dx P t=some 1)(h:XO P n ops Q rest L (XM W S H')):XO P n ops Q (⟨none,.store t x y,ty,pos,af,none⟩::rest) L (XM W S H):=
 XO.op rfl fun a w ha hw=>by
  obtain⟨H1,hd,hp⟩:=hH.del
  have hw1:=hw.perm hd.perm
  have hr:=ly (P:=P) (show(bj (some ⟨g,0,none⟩) cap e sz k C).holds w from hw1.good.1 _ (by simp)) hi.1 hv
  have hx':=hw1.Bq .here hi.1 v
  rw[hi.2]at hx'
  have hst:(execOp a.eval ⟨none,.store t x y,ty,pos,af,none⟩).run P w= .ok .skip (w.setCell ⟨g,i,none⟩ v):=by
   have h0:(⟨g,i,none⟩:Addr).add 0=⟨g,i,none⟩:=rfl
   simp[execOp,az ha hx,az ha hy,Instr.storeAt,Instr.sureAddr,ptr,storeVar,o8 hv,run_sizeOf hs,storeCells,h0,hr]
  unfold Oper.wp
  rw[hst]
  exact h _ _ ha (hx'.perm hp)
theorem XO.CB{t e:TypeId}{x y:Operand}{p:Option Addr}{k cap m c sz g:Nat}{xs ys:List Value}(hx:ev L x=some (.slice p k cap))(hy:ev L y=some (.slice (some ⟨g,0,none⟩) m c))(ht:P.underlying t=some (.slice e))(hr:kV P e sz=true)(hH:dX H (.row (.slice p k cap) e sz k xs) H')(hN:Has H (.row (.slice (some ⟨g,0,none⟩) m c) e sz m ys))(h1:ys.all one=true)(hk:k+m≤100000000000)(hd:Nat.blt d n.sz=true)(h:∀ p' cap',XO P n ops Q rest ((d,.slice p' (k+m) cap')::L) (XM W S (.row (.slice p' (k+m) cap') e sz (k+m) (xs++ys)::H'))):XO P n ops Q (⟨some d,.call ⟨.builtin .append,#[x,y],#[t,t]⟩,ty,pos,af,none⟩::rest) L (XM W S H):=
 XO.op rfl fun a w ha hw=>by
  have hsrc:(ax.row (.slice (some ⟨g,0,none⟩) m c) e sz m ys).holds w:=hw.good.1 _ hN.mem
  have hrow:(ax.row (.slice p k cap) e sz k xs).holds w:=hw.good.1 _ (hH.perm.mem_iff.2 (by simp))
  by_cases hm:0<m
  ·obtain⟨p',cap',w',h3,h4,h5,h6⟩:=iN (ty:=ty) (c:=c) (b:=g) (news:=ys) ht hr hrow hm hsrc.1 (World.ownsRow.cells hsrc (g:=g) rfl) (fun u hu=>iP (List.all_eq_true.1 h1 u hu)) hk
   have hx2:=hw.write hH rfl h6 h5 h4
   unfold Oper.wp
   have:(execOp a.eval ⟨some d,.call ⟨.builtin .append,#[x,y],#[t,t]⟩,ty,pos,af,none⟩).run P w= .ok (.value (.slice p' (k+m) cap')) w':=by
    simp[execOp,resolve,invoke,builtin,az ha hx,az ha hy,h3]
   rw[this]
   exact h _ _ _ _ (ha.put hd _) hx2
  ·have hm0:m=0:=by omega
   subst hm0
   have hys:ys=[]:=List.eq_nil_of_length_eq_zero (by simpa using hsrc.1)
   subst hys
   have hkc:k≤cap:=sx hrow
   obtain⟨i,z,hi,hz,hsize,hby,hzs,hsz⟩:=jD hr
   have h3:(Builtin.append_ #[t,t] ty #[.slice p k cap,.slice (some ⟨g,0,none⟩) 0 c]).run P w= .ok (.slice p (k+0) cap) w:=by
    cases p with
    | none=>simp[Builtin.append_,run_underlying ht,Builtin.lenOf,Builtin.firstCells,loadCells,loadCellsFrom,hkc,sizeOf,run_typeInfo hi,hi]
    | some q=>simp[Builtin.append_,run_underlying ht,Builtin.lenOf,Builtin.firstCells,loadCells,loadCellsFrom,storeCells,hkc,sizeOf,run_typeInfo hi,hi]
   have hx2:XM W S (.row (.slice p (k+0) cap) e sz (k+0) (xs++[])::H') w:=by
    simpa using hw.perm hH.perm
   unfold Oper.wp
   have:(execOp a.eval ⟨some d,.call ⟨.builtin .append,#[x,y],#[t,t]⟩,ty,pos,af,none⟩).run P w= .ok (.value (.slice p (k+0) cap)) w:=by
    simp only[Nat.add_zero]at h3 ⊢
    simp[execOp,resolve,invoke,builtin,az ha hx,az ha hy,h3]
   rw[this]
   exact h _ _ _ _ (ha.put hd _) hx2
theorem mK(k:Nat){t e:TypeId}{w:World}{p:Option Addr}{l c:Nat}(ht:P.underlying t=some (.slice e)):(Op.equalIn (k+1) t (.slice p l c) (.slice none 0 0)).run P w= .ok p.isNone w:=by
 cases p<;>simp only[Op.equalIn,Sem.run_bind,run_underlying ht,Result.andThen_ok,Sem.run_pure,Option.isNone]
theorem V.rO{op:BinOp}{t t' e:TypeId}{x:Operand}{p:Option Addr}{l c:Nat}{r:Bool}{φ:World→Prop}{gd:Option (Nat×Bool)}(hx:ev L x=some (.slice p l c))(ht:P.underlying t=some (.slice e))(hr:(match op with | .eql=>some (decide (p=none)) | .neq=>some (decide (p≠none)) | _=>none)=some r):bh P n L φ ⟨some d,.binOp op t x (.const (.slice none 0 0)) t',ty,pos,af,gd⟩ (.bool r):=fun a w ha _=>by
 have he:(Op.equal t (.slice p l c) (.slice none 0 0)).run P w= .ok p.isNone w:=mK 9999 ht
 have hy:a.eval (.const (.slice none 0 0))= .slice none 0 0:=rfl
 have b1:binOp .eql t (.slice p l c) (.slice none 0 0)=(do pure (.bool (←Op.equal t (.slice p l c) (.slice none 0 0)))):=rfl
 have b2:binOp .neq t (.slice p l c) (.slice none 0 0)=(do pure (.bool (!(←Op.equal t (.slice p l c) (.slice none 0 0))))):=rfl
 have g1:eqGuard .eql t x (.const (.slice none 0 0)) (.slice p l c) (.slice none 0 0)=pure ():=rfl
 have g2:eqGuard .neq t x (.const (.slice none 0 0)) (.slice p l c) (.slice none 0 0)=pure ():=rfl
 cases op<;>simp only[Option.some.injEq]at hr<;>(try cases hr)<;>
  simp only[execOp,az ha hx,hy,b1,b2,g1,g2]<;>cases p<;>simp[he]
end
end Go.X
