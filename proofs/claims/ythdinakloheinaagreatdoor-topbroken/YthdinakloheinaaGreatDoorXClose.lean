import Derived.Test.YthdinakloheinaaGreatDoorXMore
import Derived.Test.YthdinakloheinaaGreatDoorXFam
import Derived.Laws.StructEq
import Derived.Test.YthdinakloheinaaGreatDoorXBytes
import Derived.Shelf.SlSortCmp.WholeK
import Derived.Shelf.SlSortCmp.NoneTotal
import Derived.Test.YthdinakloheinaaGreatDoorXBits
import Derived.ProofKit
import Derived.OpenShut
import Derived.Below
import Derived.ChangeSame
import Derived.Deep.Slices
import Derived.Deep.Fields
namespace Go.X
open Go
section
variable {P:Program} {n:Fr} {Q:Exit→Act→World→Prop} {L:PF} {ops:Md} {rest:List Oper} {op:Op} {ty:TypeId} {pos:String} {af:Array Edge} {d:Nat}
variable {W:World} {S:Nat→Nat→Prop} {H H':List ax} {M:World→Prop} {α:Type}
def pA(P:Program)(n:Fr)(L:PF)(M:World→Prop)(o:Oper)(G:α→Prop)(val:α→Value)(M':α→World→Prop):Prop:=
 ∀ a w,Sat n L a→M w→∃ x w',G x∧(execOp a.eval o).run P w= .ok (.value (val x)) w'∧M' x w'
theorem XO.g{G:α→Prop}{val:α→Value}{M':α→World→Prop}(hr:pA P n L M ⟨some d,op,ty,pos,af,none⟩ G val M')(hd:(Nat.blt d n.sz&&cI op)=true)(h:∀ x,G x→XO P n ops Q rest ((d,val x)::L) (M' x)):XO P n ops Q (⟨some d,op,ty,pos,af,none⟩::rest) L M:=
 XO.op (by simp only[Bool.and_eq_true]at hd;simp[hd.2]) fun a w ha hw=>by
  simp only[Bool.and_eq_true]at hd
  obtain⟨x,w',hg,h1,h2⟩:=hr a w ha hw
  unfold Oper.wp
  rw[h1]
  exact h x hg _ _ (ha.put hd.1 _) h2
theorem q9(C C1:Nat→Value)(a b:Nat):bz C a++bz C1 b=bz (fun i=>if i<a then C i else C1 (i-a)) (a+b):=by
 apply List.ext_getElem?
 intro j
 by_cases hj:j<a
 ·rw[List.getElem?_append_left (by rw[aY];exact hj),cE hj,cE (by omega),if_pos hj]
 ·by_cases hj2:j<a+b
  ·rw[List.getElem?_append_right (by rw[aY];omega),aY,cE (by omega),cE hj2,if_neg hj]
  ·rw[List.getElem?_eq_none (by simp[aY];omega),List.getElem?_eq_none (by simp[aY];omega)]
theorem sn{w:World}{b N:Nat}{C:Nat→Value}(hc:(ax.cells b 0 N C).holds w):∀ j u,(bz C N)[j]? =some u→w.cell? ((⟨b,0,none⟩:Addr).add j)=some u:=fun j u hj=>by
 have hlt:j<N:=by
  have:=(List.getElem?_eq_some_iff.1 hj).1
  rwa[aY]at this
 rw[cE hlt]at hj
 simp only[Option.some.injEq]at hj
 have hcc:=cB hc hlt
 have e0:(⟨b,0,none⟩:Addr).add j=⟨b,0+j,none⟩:=by cases j<;>simp[Addr.add]
 rw[e0,←hj];exact hcc
structure RV where
 p:Option Addr
 cap:Nat
 k:Nat
 len:Nat
 c:Nat
 C:Nat→Value
abbrev RV.oM(v:RV)(e:TypeId)(sz:Nat):ax:=bj v.p v.cap e sz v.k v.C
abbrev RV.val(v:RV):Value:=.slice v.p v.len v.c
def RV.ok(v:RV):Prop:=(v.len=v.k∧v.c=v.cap)∨(v.c=v.len∧v.len≤v.k)
theorem RV.Ha{v:RV}(h:v.ok):v.len≤v.k:=by rcases h with h | h<;>omega
theorem oN{P:Program}{w:World}{e:TypeId}{sz:Nat}{i:TypeInfo}{z:Value}{xs:List Value}{k old:Nat}(hsize:i.size=sz)(hzs:z.cells.size=sz)(hl:xs.length=k*sz)(hmax:k≤maxLen):(ax.row (.slice (some ⟨w.heap.size,0,none⟩) k (grownCap w k old e)) e sz k xs).holds (w.drew.alloc (.cells (xs.toArray++Builtin.zeroCells z.cells (grownCap w k old e-k)) e)):=by
 have hge:=grownCap_ge w k old e
 have hcm:grownCap w k old e≤maxLen:=grownCap_le_maxLen w k old e hmax
 refine⟨hl,.inr ⟨w.heap.size,_,_,rfl,Nat.zero_le _,heap_alloc_new w.drew _,hge,hcm,?_,?_⟩⟩
 ·simp only[Array.size_append,List.size_toArray,size_zeroCells,hzs,hl,←Nat.add_mul]
  congr 1
  omega
 ·simp only[Array.toList_append]
  rw[←hl]
  exact List.take_left
theorem kv{w:World}{g cap sz k m:Nat}{e:TypeId}{C:Nat→Value}(h:(bj (some ⟨g,0,none⟩) cap e sz k C).holds w)(hm:m≤k)(o:Nat)(ho:o+m*sz≤k*sz):∀ j u,(bz (fun i=>C (o+i)) (m*sz))[j]? =some u→w.cell? ((⟨g,o,none⟩:Addr).add j)=some u:=fun j u hj=>by
 have hlt:j<m*sz:=by
  have:=(List.getElem?_eq_some_iff.1 hj).1
  rwa[aY]at this
 rw[cE hlt]at hj
 simp only[Option.some.injEq]at hj
 have e0:(⟨g,o,none⟩:Addr).add j=⟨g,o+j,none⟩:=by cases j<;>simp[Addr.add]
 rw[e0,←hj]
 exact pq h (by omega)
theorem mG(w:World)(o:Obj)(S:Nat→Nat→Prop):fU w (w.drew.alloc o) S:=tz (mZ w.drew o S)
theorem RG.append{t e:TypeId}{x y:Operand}{v:RV}{m c2 b N sz:Nat}{C1:Nat→Value}(hv:v.ok)(hx:ev L x=some v.val)(hy:ev L y=some (.slice (some ⟨b,0,none⟩) m c2))(ht:P.underlying t=some (.slice e))(hr:kV P e sz=true)(hH:dX H (v.oM e sz) H')(hN:Has H (.cells b 0 N C1))(hNm:N=m*sz)(h1:(bz C1 N).all one=true)(hm:0<m)(hk:v.len+m≤100000000000):pA P n L (XM W S H) ⟨some d,.call ⟨.builtin .append,#[x,y],#[t,t]⟩,ty,pos,af,none⟩ (fun u:RV=>u.ok∧u.len=v.len+m∧(∀ i,i<v.len*sz→u.C i=v.C i)∧∀ i,i<m*sz→u.C (v.len*sz+i)=C1 i) (fun u=>u.val) (fun u=>XM W S (u.oM e sz::H')):=fun a w ha hw=>by
 have hc:(ax.cells b 0 N C1).holds w:=hw.good.1 _ hN.mem
 have hrow:(v.oM e sz).holds w:=hw.good.1 _ (hH.perm.mem_iff.2 (by simp))
 obtain⟨p,cap,k,len,c,C⟩:=v
 simp only[RV.ok,RV.val,RV.oM]at*
 have fin:∀ (p':Option Addr) (cap':Nat) (w':World),(Builtin.append_ #[t,t] ty #[.slice p len c,.slice (some ⟨b,0,none⟩) m c2]).run P w= .ok (.slice p' (len+m) cap') w'→
   XM W S (.row (.slice p' (len+m) cap') e sz (len+m) (bz C (len*sz)++bz C1 N)::H') w'→∃ (u:RV) (w':World),(u.ok∧u.len=len+m∧(∀ i,i<len*sz→u.C i=C i)∧∀ i,i<m*sz→u.C (len*sz+i)=C1 i)∧
    (execOp a.eval ⟨some d,.call ⟨.builtin .append,#[x,y],#[t,t]⟩,ty,pos,af,none⟩).run P w= .ok (.value u.val) w'∧XM W S (u.oM e sz::H') w':=fun p' cap' w' h3 h4=>by
  refine⟨⟨p',cap',len+m,len+m,cap',fun i=>if i<len*sz then C i else C1 (i-len*sz)⟩,w',⟨.inl ⟨rfl,rfl⟩,rfl,fun i hi=>if_pos hi,fun i _=> ?_⟩,?_,?_⟩
  ·show(if len*sz+i<len*sz then _ else _)=_
   rw[if_neg (by omega),Nat.add_sub_cancel_left]
  ·simp[execOp,resolve,invoke,builtin,az ha hx,az ha hy,h3]
  ·rw[q9,hNm,←Nat.add_mul]at h4
   exact h4
 have full:len=k→c=cap→∃ (u:RV) (w':World),(u.ok∧u.len=len+m∧(∀ i,i<len*sz→u.C i=C i)∧∀ i,i<m*sz→u.C (len*sz+i)=C1 i)∧
    (execOp a.eval ⟨some d,.call ⟨.builtin .append,#[x,y],#[t,t]⟩,ty,pos,af,none⟩).run P w= .ok (.value u.val) w'∧XM W S (u.oM e sz::H') w':=fun e1 e2=>by
  subst e1;subst e2
  obtain⟨p',cap',w',h3,h4,h5,h6⟩:=iN (ty:=ty) (c:=c2) (b:=b) (news:=bz C1 N) ht hr hrow hm (by rw[aY,hNm]) (sn hc) (fun u hu=>iP (List.all_eq_true.1 h1 u hu)) hk
  exact fin p' cap' w' h3 (hw.write hH rfl h6 h5 h4)
 rcases hv with⟨h1',h2'⟩ | ⟨h1',h2'⟩
 ·exact full h1' h2'
 ·rcases hrow.2 with⟨hv,h0⟩ | ⟨g,cap',cur,hv,_⟩
  ·simp only[Value.slice.injEq]at hv
   exact full (by omega) (by omega)
  ·simp only[Value.slice.injEq,true_and]at hv
   obtain⟨rfl,rfl⟩:=hv
   obtain⟨i,z,hi,hz,hsize,hby,hzs,hsz⟩:=jD hr
   have hmax:len+m≤maxLen:=by simp only[maxLen];omega
   have hbytes:(len+m)*i.bytes≤140737488355328:=Nat.le_trans (Nat.mul_le_mul hk hby) (by omega)
   have hle:len*sz≤k*sz:=Nat.mul_le_mul_right _ h2'
   have hr2:=run_append_grow (P:=P) w t ty e i z ht hi hz ⟨g,0,none⟩ len c (bz C (len*sz)) (by rw[aY,hsize]) (fun j u hj=>by
    have hlt:j<len*sz:=by
     have:=(List.getElem?_eq_some_iff.1 hj).1
     rwa[aY]at this
    exact kv hrow h2' 0 (by omega) j u (by
     rw[cE hlt]at hj ⊢
     simpa using hj)) ⟨b,0,none⟩ m c2 (bz C1 N) (by rw[aY,hNm,hsize]) (sn hc) (by omega) (by simp only[maxLen]at hmax;omega) (growslice_fits (by omega) hbytes)
   refine fin _ _ _ hr2 ?_
   have hg:=oN (P:=P) (w:=w) (e:=e) (sz:=sz) (i:=i) (z:=z) (xs:=bz C (len*sz)++bz C1 N) (k:=len+m) (old:=c) hsize hzs (by rw[List.length_append,aY,aY,hNm,Nat.add_mul]) hmax
   have e3:(bz C (len*sz)++bz C1 N).toArray=(bz C (len*sz)).toArray++(bz C1 N).toArray:=by simp
   rw[e3]at hg
   exact hw.write hH rfl (fun b' o hb=>.inr (by simp only[ax.dG,Value.ownBlock,Option.some.injEq]at hb;omega)) (mG w _ _) hg
theorem RG.clone{t e:TypeId}{y:Operand}{v:RV}{sz:Nat}(hv:v.ok)(hy:ev L y=some v.val)(ht:P.underlying t=some (.slice e))(hr:kV P e sz=true)(hH:Has H (v.oM e sz))(hk:v.len≤100000000000):pA P n L (XM W S H) ⟨some d,.call ⟨.builtin .append,#[.const (.slice none 0 0),y],#[t,t]⟩,ty,pos,af,none⟩ (fun u:RV=>u.ok∧u.len=v.len∧∀ i,i<v.len*sz→u.C i=v.C i) (fun u=>u.val) (fun u=>XM W S (u.oM e sz::H)):=fun a w ha hw=>by
 have hrow:(v.oM e sz).holds w:=hw.good.1 _ hH.mem
 obtain⟨p,cap,k,len,c,C⟩:=v
 simp only[RV.ok,RV.val,RV.oM]at*
 have hc:a.eval (.const (.slice none 0 0))= .slice none 0 0:=rfl
 obtain⟨i,z,hi,hz,hsize,hby,hzs,hsz⟩:=jD hr
 by_cases h0:len=0
 ·subst h0
  refine⟨⟨none,0,0,0,0,C⟩,w,⟨.inl ⟨rfl,rfl⟩,rfl,fun i hi=>rfl⟩,?_,?_⟩
  ·have h3:(Builtin.append_ #[t,t] ty #[.slice none 0 0,.slice p 0 c]).run P w= .ok (.slice none 0 0) w:=by
    cases p<;>simp[Builtin.append_,run_underlying ht,Builtin.lenOf,Builtin.firstCells,loadCells,loadCellsFrom,sizeOf,run_typeInfo hi,hi]
   simp[execOp,resolve,invoke,builtin,az ha hy,hc,h3]
  ·have:=hw.dH e sz
   simpa [bj,bz]using this
 ·have hlk:len≤k:=by omega
  rcases hrow.2 with⟨hv2,h0'⟩ | ⟨g,cap',cur,hv2,_⟩
  ·omega
  ·simp only[Value.slice.injEq,true_and]at hv2
   obtain⟨rfl,rfl⟩:=hv2
   have hmax:len≤maxLen:=by simp only[maxLen];omega
   have hbytes:len*i.bytes≤140737488355328:=Nat.le_trans (Nat.mul_le_mul hk hby) (by omega)
   have hle:len*sz≤k*sz:=Nat.mul_le_mul_right _ hlk
   have hr2:=run_append_nil (P:=P) w t ty e i z ht hi hz ⟨g,0,none⟩ len c (bz C (len*sz)) (by rw[aY,hsize]) (fun j u hj=>by
    have hlt:j<len*sz:=by
     have:=(List.getElem?_eq_some_iff.1 hj).1
     rwa[aY]at this
    exact kv hrow hlk 0 (by omega) j u (by
     rw[cE hlt]at hj ⊢
     simpa using hj)) (by omega) (by simp only[maxLen]at hmax;omega) (by omega)
   have hg:=oN (P:=P) (w:=w) (e:=e) (sz:=sz) (i:=i) (z:=z) (xs:=bz C (len*sz)) (k:=len) (old:=0) hsize hzs (by rw[aY]) hmax
   refine⟨⟨some ⟨w.heap.size,0,none⟩,grownCap w len 0 e,len,len,grownCap w len 0 e,C⟩,w.drew.alloc (.cells ((bz C (len*sz)).toArray++Builtin.zeroCells z.cells (grownCap w len 0 e-len)) e),⟨.inl ⟨rfl,rfl⟩,rfl,fun i hi=>rfl⟩,?_,?_⟩
   ·simp[execOp,resolve,invoke,builtin,az ha hy,hc,hr2]
   ·exact hw.fresh (fun b o hb=>by simp only[ax.dG,Value.ownBlock,Option.some.injEq]at hb;omega) (mG w _ _) hg
theorem RG.cut{t e:TypeId}{x y:Operand}{g cap k len c:Nat}{C:Nat→Value}{i q sz:Nat}(hv:RV.ok ⟨some ⟨g,0,none⟩,cap,k,len,c,C⟩)(hi:i<len)(hx:ev L x=some (.slice (some ⟨g,0,none⟩) i i))(hy:ev L y=some (.slice (some ⟨g,if c=i+1 then 0 else(i+1)*sz,none⟩) (len-(i+1)) q))(ht:P.underlying t=some (.slice e))(hr:kV P e sz=true)(hH:dX H (bj (some ⟨g,0,none⟩) cap e sz k C) H')(hk:len≤100000000000):pA P n L (XM W S H) ⟨some d,.call ⟨.builtin .append,#[x,y],#[t,t]⟩,ty,pos,af,none⟩ (fun u:RV=>u.ok∧u.len=len-1∧(∀ j,j<i*sz→u.C j=C j)∧∀ j,i*sz≤j→j<(len-1)*sz→u.C j=C (j+sz)) (fun u=>u.val) (fun u=>XM W S (u.oM e sz::H')):=fun a w ha hw=>by
 have hrow:(bj (some ⟨g,0,none⟩) cap e sz k C).holds w:=hw.good.1 _ (hH.perm.mem_iff.2 (by simp))
 have hv:(len=k∧c=cap)∨(c=len∧len≤k):=hv
 obtain⟨ii,z,hii,hz,hsize,hby,hzs,hsz⟩:=jD hr
 by_cases hl:len=i+1
 ·subst hl
  refine⟨⟨some ⟨g,0,none⟩,cap,k,i,i,C⟩,w,⟨.inr ⟨rfl,show i≤k by omega⟩,by simp,fun j _=>rfl,fun j h1 h2=>by simp at h2;omega⟩,?_,?_⟩
  ·have h3:∀ o,(Builtin.append_ #[t,t] ty #[.slice (some ⟨g,0,none⟩) i i,.slice (some ⟨g,o,none⟩) 0 q]).run P w= .ok (.slice (some ⟨g,0,none⟩) i i) w:=fun o=>by
    simp[Builtin.append_,run_underlying ht,Builtin.lenOf,Builtin.firstCells,loadCells,loadCellsFrom,storeCells,sizeOf,run_typeInfo hii,hii]
   rw[Nat.sub_self]at hy
   simp[execOp,resolve,invoke,builtin,az ha hx,az ha hy,h3]
  ·exact hw.perm hH.perm
 ·have hlk:len≤k:=by omega
  have hcl:len≤c:=by
   have:=sx hrow
   omega
  have hmax:len-1≤maxLen:=by simp only[maxLen];omega
  have hbytes:(len-1)*ii.bytes≤140737488355328:=Nat.le_trans (Nat.mul_le_mul (show len-1≤100000000000 by omega) hby) (by omega)
  have hle:len*sz≤k*sz:=Nat.mul_le_mul_right _ hlk
  have hle2:i*sz≤len*sz:=Nat.mul_le_mul_right _ (by omega)
  have e1:(len-(i+1))*sz+(i+1)*sz=len*sz:=by rw[←Nat.add_mul];congr 1;omega
  have e2:i*sz+(len-(i+1))*sz=(len-1)*sz:=by rw[←Nat.add_mul];congr 1;omega
  have e4:(i+1)*sz=i*sz+sz:=by rw[Nat.add_mul,Nat.one_mul]
  rw[if_neg (by omega)]at hy
  have hr2:=run_append_grow (P:=P) w t ty e ii z ht hii hz ⟨g,0,none⟩ i i (bz C (i*sz)) (by rw[aY,hsize]) (fun j u hj=>by
   have hlt:j<i*sz:=by
    have:=(List.getElem?_eq_some_iff.1 hj).1
    rwa[aY]at this
   exact kv hrow (show i≤k by omega) 0 (by omega) j u (by
    rw[cE hlt]at hj ⊢
    simpa using hj)) ⟨g,(i+1)*sz,none⟩ (len-(i+1)) q (bz (fun j=>C ((i+1)*sz+j)) ((len-(i+1))*sz)) (by rw[aY,hsize])
    (kv hrow (show len-(i+1)≤k by omega) ((i+1)*sz) (by omega)) (by omega) (by simp only[maxLen]at hmax;omega) (growslice_fits (by omega) (by rw[show i+(len-(i+1))=len-1 by omega];exact hbytes))
  rw[show i+(len-(i+1))=len-1 by omega]at hr2
  have hg:=oN (P:=P) (w:=w) (e:=e) (sz:=sz) (i:=ii) (z:=z) (xs:=bz C (i*sz)++bz (fun j=>C ((i+1)*sz+j)) ((len-(i+1))*sz)) (k:=len-1) (old:=i) hsize hzs (by rw[List.length_append,aY,aY,e2]) hmax
  have e3:(bz C (i*sz)++bz (fun j=>C ((i+1)*sz+j)) ((len-(i+1))*sz)).toArray=(bz C (i*sz)).toArray++(bz (fun j=>C ((i+1)*sz+j)) ((len-(i+1))*sz)).toArray:=by simp
  rw[e3]at hg
  have hx2:=hw.write hH rfl (fun b' o hb=>.inr (by simp only[ax.dG,Value.ownBlock,Option.some.injEq]at hb;omega)) (mG w _ _) hg
  rw[q9,e2]at hx2
  have fin:∀ (v9:Value) (w9:World),(Builtin.append_ #[t,t] ty #[.slice (some ⟨g,0,none⟩) i i,.slice (some ⟨g,(i+1)*sz,none⟩) (len-(i+1)) q]).run P w= .ok v9 w9→(execOp a.eval ⟨some d,.call ⟨.builtin .append,#[x,y],#[t,t]⟩,ty,pos,af,none⟩).run P w= .ok (.value v9) w9:=fun v9 w9 h9=>by
   simp[execOp,resolve,invoke,builtin,az ha hx,az ha hy,h9]
  refine⟨⟨_,_,len-1,len-1,_,fun j=>if j<i*sz then C j else C ((i+1)*sz+(j-i*sz))⟩,_,⟨.inl ⟨rfl,rfl⟩,rfl,fun j hj=>if_pos hj,fun j h1 h2=> ?_⟩,?_,hx2⟩
  ·show(if j<i*sz then _ else _)=_
   rw[if_neg (by omega)]
   congr 1
   omega
  ·exact fin _ _ hr2
theorem RG.box{t:TypeId}{x:Operand}{v:Value}{m:Nat}{C:Nat→Value}(hx:ev L x=some v)(hm:v.cells.size=m)(hC:∀ i,i<m→cellsOf v.cells i=C i):pA P n L (XM W S H) ⟨some d,.box t x,ty,pos,af,none⟩ (fun _:Nat=>True) (fun b=>ptr b 0 0) (fun b=>XM W S (.cells b 0 m C::H)):=fun a w ha hw=>by
 have hx':=hw.alloc v.cells t C (fun i hi=>by rw[dW _ _ hi,hC i (hm▸hi)])
 rw[hm]at hx'
 exact⟨_,_,trivial,by simp[execOp,az ha hx,Instr.box,newVar,newRow,newObj,Sem.run,ptr],hx'⟩
theorem RG.build{t e:TypeId}{parts:Array (Nat×Operand)}{vs:Array (Nat×Value)}{k m:Nat}{A:Array Value}(hp:parts.toList.mapM (fun x=>(ev L x.2).map fun u=>(x.1,u))=some vs.toList)(hb:∀ w,(Instr.buildSlice t k vs).run P w= .ok (.slice (some ⟨w.heap.size,0,none⟩) k k) (w.alloc (.cells A e)))(hA:A.size=m):pA P n L (XM W S H) ⟨some d,.buildSlice t k parts,ty,pos,af,none⟩ (fun _:Nat=>True) (fun b=>.slice (some ⟨b,0,none⟩) k k) (fun b=>XM W S (.cells b 0 m (cellsOf A)::H)):=fun a w ha hw=>by
 have hx':=hw.alloc A e (cellsOf A) (fun i hi=>dW _ _ hi)
 rw[hA]at hx'
 have hv:parts.map (fun (i,x)=>(i,a.eval x))=vs:=by
  apply Array.toList_inj.1
  rw[Array.toList_map]
  exact kx ha _ _ hp
 exact⟨_,_,trivial,by simp only[execOp,hv,Sem.run_bind,hb,Result.andThen_ok,Sem.run_pure],hx'⟩
end
end Go.X

namespace Go.X
open Go
section
variable {P:Program} {n:Fr} {Q:Exit→Act→World→Prop} {L:PF} {ops:Array Oper} {rest:List Oper} {op:Op} {ty:TypeId} {pos:String} {af:Array Edge} {d:Nat}
variable {W:World} {S:Nat→Nat→Prop} {H H':List ax} {M:World→Prop} {α:Type}
theorem XQ.g{G:α→Prop}{val:α→Value}{M':α→World→Prop}{B:pD}{f i:Nat}{l l':Array Bool}(ho:ops[i]? =some ⟨some d,op,ty,pos,af,none⟩)(hk:Region.ready .any ops l=[i])(hl:l.setIfInBounds i true=l')(hr:pA P n L M ⟨some d,op,ty,pos,af,none⟩ G val M')(hd:Nat.blt d n.sz=true)(hob:∀ x w,M' x w→JL B l' w)(h:∀ x,G x→XQ P n ops Q B f l' ((d,val x)::L) (M' x)):XQ P n ops Q B (f+1) l L M:=by
 subst hl
 refine XQ.step ho rfl hk fun hcl a w ha hw hJ=> ?_
 obtain⟨x,w',hg,h1,h2⟩:=hr a w ha hw
 unfold Oper.wp
 rw[h1]
 exact h x hg hcl _ _ (ha.put hd _) h2 (hob x _ h2)
theorem XQ.db{p:Option Addr}{k cap sz f:Nat}{e:TypeId}{xs:List Value}{B:pD}{l:Array Bool}(hH:Has H (.row (.slice p k cap) e sz k xs))(hk:0<k)(h:∀ g,p=some ⟨g,0,none⟩→XQ P n ops Q B f l L (XM W S H)):XQ P n ops Q B f l L (XM W S H):=by
 intro hc a w ha hw hJ
 have hrow:(ax.row (.slice p k cap) e sz k xs).holds w:=hw.good.1 _ hH.mem
 rcases hrow.2 with⟨hv,rfl⟩ | ⟨g,_,_,hv,_⟩
 ·omega
 ·simp only[Value.slice.injEq]at hv
  exact h g hv.1 hc a w ha hw hJ
end
section
variable {P:Program} {n:Fr} {L:PF} {ops:Array Oper} {Q:Exit→Act→World→Prop} {ty:TypeId} {pos:String} {af:Array Edge} {d f i:Nat} {B:pD} {l l':Array Bool}
def XS(P:Program)(n:Fr)(ops:Array Oper)(Q:Exit→Act→World→Prop)(B:pD)(f:Nat)(l:Array Bool)(i:Nat)(L:PF)(M:World→Prop):Prop:=
 i∈Region.ready .any ops l→ig ops l→∀ a w,Sat n L a→M w→JL B l w→wpOp P ops (Bo Q) i (sL P ops Q B f (l.setIfInBounds i true)) a w
theorem XQ.fork{i j:Nat}{M:World→Prop}(hk:Region.ready .any ops l=[i,j])(h1:XS P n ops Q B f l i L M)(h2:XS P n ops Q B f l j L M):XQ P n ops Q B (f+1) l L M:=by
 intro hc a w ha hw hJ
 refine⟨hJ,fun h0=>(by rw[hk]at h0;cases h0),fun x hx=> ?_⟩
 have hx':=hx
 rw[hk]at hx'
 rcases List.mem_cons.1 hx' with rfl | hx'
 ·exact h1 hx hc a w ha hw hJ
 ·obtain rfl:=List.mem_singleton.1 hx'
  exact h2 hx hc a w ha hw hJ
theorem XS.step{o:Oper}{M:World→Prop}(ho:ops[i]? =some o)(hg:o.guard=none)(h:ig ops (l.setIfInBounds i true)→∀ a w,Sat n L a→M w→JL B l w→o.wp P a w (sL P ops Q B f (l.setIfInBounds i true)) (Bo Q)):XS P n ops Q B f l i L M:=by
 intro hr hc a w ha hw hJ
 unfold wpOp
 simp only[ho]
 rw[if_pos (by simp[Region.wanted,hg])]
 exact .inl (h (e6 hc hr) a w ha hw hJ)
theorem XS.call{W:World}{S:Nat→Nat→Prop}{H:List ax}{g:FuncId}{xs:List Operand}{vs:List Value}{ji:Array TypeId}{pre F:List ax}{post:Value→List ax→Prop}(ho:ops[i]? =some ⟨some d,.call ⟨.value (.func g),xs.toArray,ji⟩,ty,pos,af,none⟩)(hl:l.setIfInBounds i true=l')(he:Dt L xs=some vs)(hs:Spec P g vs pre post)(hp:bF H pre F)(hc:cX P g=true)(hd:Nat.blt d n.sz=true)(hob:∀ v H1,post v H1→∀ w,XM W S (H1++F) w→JL B l' w)(h:∀ v H1,post v H1→XQ P n ops Q B f l' ((d,v)::L) (XM W S (H1++F))):XS P n ops Q B f l i L (XM W S H):=by
 subst hl
 refine XS.step ho rfl fun hcl a w ha hw hJ=> ?_
 unfold Oper.wp
 rw[oc hc (lD ha xs vs he)]
 show Calls P g vs.toArray w _
 refine(hs w (hw.pick hp).good).mono ?_
 rintro e w' ⟨v,H1,rfl,hpost,hwr,hx⟩
 have hx':=hw.called hp hx (fun e he=>List.all_eq_true.1 hwr e he)
 exact h v H1 hpost hcl _ _ (ha.put hd v) hx' (hob v H1 hpost _ hx')
theorem XS.cY{W:World}{S:Nat→Nat→Prop}{H:List ax}{t:TypeId}{z:Value}{m:Nat}{C:Nat→Value}(ho:ops[i]? =some ⟨some d,.alloc t,ty,pos,af,none⟩)(hl:l.setIfInBounds i true=l')(hz:zeroOf P t=some z)(hm:z.cells.size=m)(hC:∀ i,i<m→cellsOf z.cells i=C i)(hd:Nat.blt d n.sz=true)(hob:∀ b w,XM W S (.cells b 0 m C::H) w→JL B l' w)(h:∀ b,XQ P n ops Q B f l' ((d,ptr b 0 0)::L) (XM W S (.cells b 0 m C::H))):XS P n ops Q B f l i L (XM W S H):=by
 subst hl
 refine XS.step ho rfl fun hcl a w ha hw hJ=> ?_
 have hx:=hw.alloc z.cells t C (fun i hi=>by rw[dW _ _ hi,hC i (hm▸hi)])
 rw[hm]at hx
 unfold Oper.wp
 have:(execOp a.eval ⟨some d,.alloc t,ty,pos,af,none⟩).run P w= .ok (.value (ptr w.heap.size 0 0)) (w.alloc (.cells z.cells t)):=by
  simp[execOp,Instr.alloc,jq hz,newVar,newRow,newObj,Sem.run,ptr]
 rw[this]
 exact h _ hcl _ _ (ha.put hd _) hx (hob _ _ hx)
theorem XS.g{op:Op}{M:World→Prop}{α:Type}{G:α→Prop}{val:α→Value}{M':α→World→Prop}(ho:ops[i]? =some ⟨some d,op,ty,pos,af,none⟩)(hl:l.setIfInBounds i true=l')(hr:pA P n L M ⟨some d,op,ty,pos,af,none⟩ G val M')(hd:Nat.blt d n.sz=true)(hob:∀ x w,M' x w→JL B l' w)(h:∀ x,G x→XQ P n ops Q B f l' ((d,val x)::L) (M' x)):XS P n ops Q B f l i L M:=by
 subst hl
 refine XS.step ho rfl fun hcl a w ha hw hJ=> ?_
 obtain⟨x,w',hg,h1,h2⟩:=hr a w ha hw
 unfold Oper.wp
 rw[h1]
 exact h x hg hcl _ _ (ha.put hd _) h2 (hob x _ h2)
end
end Go.X

namespace Go.X
open Go
theorem Has.t13{H:List ax}{e:ax}{x0 x1 x2 x3 x4 x5 x6 x7 x8 x9 x10 x11 x12:ax}(h:Has H e):Has (x0::x1::x2::x3::x4::x5::x6::x7::x8::x9::x10::x11::x12::H) e:=.there (.t12 h)
theorem Has.t14{H:List ax}{e:ax}{x0 x1 x2 x3 x4 x5 x6 x7 x8 x9 x10 x11 x12 x13:ax}(h:Has H e):Has (x0::x1::x2::x3::x4::x5::x6::x7::x8::x9::x10::x11::x12::x13::H) e:=.there (.t13 h)
theorem Has.t15{H:List ax}{e:ax}{x0 x1 x2 x3 x4 x5 x6 x7 x8 x9 x10 x11 x12 x13 x14:ax}(h:Has H e):Has (x0::x1::x2::x3::x4::x5::x6::x7::x8::x9::x10::x11::x12::x13::x14::H) e:=.there (.t14 h)
theorem Has.t16{H:List ax}{e:ax}{x0 x1 x2 x3 x4 x5 x6 x7 x8 x9 x10 x11 x12 x13 x14 x15:ax}(h:Has H e):Has (x0::x1::x2::x3::x4::x5::x6::x7::x8::x9::x10::x11::x12::x13::x14::x15::H) e:=.there (.t15 h)
theorem Has.t17{H:List ax}{e:ax}{x0 x1 x2 x3 x4 x5 x6 x7 x8 x9 x10 x11 x12 x13 x14 x15 x16:ax}(h:Has H e):Has (x0::x1::x2::x3::x4::x5::x6::x7::x8::x9::x10::x11::x12::x13::x14::x15::x16::H) e:=.there (.t16 h)
theorem Has.t18{H:List ax}{e:ax}{x0 x1 x2 x3 x4 x5 x6 x7 x8 x9 x10 x11 x12 x13 x14 x15 x16 x17:ax}(h:Has H e):Has (x0::x1::x2::x3::x4::x5::x6::x7::x8::x9::x10::x11::x12::x13::x14::x15::x16::x17::H) e:=.there (.t17 h)
theorem Has.t19{H:List ax}{e:ax}{x0 x1 x2 x3 x4 x5 x6 x7 x8 x9 x10 x11 x12 x13 x14 x15 x16 x17 x18:ax}(h:Has H e):Has (x0::x1::x2::x3::x4::x5::x6::x7::x8::x9::x10::x11::x12::x13::x14::x15::x16::x17::x18::H) e:=.there (.t18 h)
theorem Has.t20{H:List ax}{e:ax}{x0 x1 x2 x3 x4 x5 x6 x7 x8 x9 x10 x11 x12 x13 x14 x15 x16 x17 x18 x19:ax}(h:Has H e):Has (x0::x1::x2::x3::x4::x5::x6::x7::x8::x9::x10::x11::x12::x13::x14::x15::x16::x17::x18::x19::H) e:=.there (.t19 h)
theorem Has.t21{H:List ax}{e:ax}{x0 x1 x2 x3 x4 x5 x6 x7 x8 x9 x10 x11 x12 x13 x14 x15 x16 x17 x18 x19 x20:ax}(h:Has H e):Has (x0::x1::x2::x3::x4::x5::x6::x7::x8::x9::x10::x11::x12::x13::x14::x15::x16::x17::x18::x19::x20::H) e:=.there (.t20 h)
theorem Has.t22{H:List ax}{e:ax}{x0 x1 x2 x3 x4 x5 x6 x7 x8 x9 x10 x11 x12 x13 x14 x15 x16 x17 x18 x19 x20 x21:ax}(h:Has H e):Has (x0::x1::x2::x3::x4::x5::x6::x7::x8::x9::x10::x11::x12::x13::x14::x15::x16::x17::x18::x19::x20::x21::H) e:=.there (.t21 h)
theorem Has.t23{H:List ax}{e:ax}{x0 x1 x2 x3 x4 x5 x6 x7 x8 x9 x10 x11 x12 x13 x14 x15 x16 x17 x18 x19 x20 x21 x22:ax}(h:Has H e):Has (x0::x1::x2::x3::x4::x5::x6::x7::x8::x9::x10::x11::x12::x13::x14::x15::x16::x17::x18::x19::x20::x21::x22::H) e:=.there (.t22 h)
theorem Has.t24{H:List ax}{e:ax}{x0 x1 x2 x3 x4 x5 x6 x7 x8 x9 x10 x11 x12 x13 x14 x15 x16 x17 x18 x19 x20 x21 x22 x23:ax}(h:Has H e):Has (x0::x1::x2::x3::x4::x5::x6::x7::x8::x9::x10::x11::x12::x13::x14::x15::x16::x17::x18::x19::x20::x21::x22::x23::H) e:=.there (.t23 h)
theorem dX.t13{H H2:List ax}{e:ax}{x0 x1 x2 x3 x4 x5 x6 x7 x8 x9 x10 x11 x12:ax}(h:dX H e H2):dX (x0::x1::x2::x3::x4::x5::x6::x7::x8::x9::x10::x11::x12::H) e (x0::x1::x2::x3::x4::x5::x6::x7::x8::x9::x10::x11::x12::H2):=.there (.t12 h)
theorem dX.t14{H H2:List ax}{e:ax}{x0 x1 x2 x3 x4 x5 x6 x7 x8 x9 x10 x11 x12 x13:ax}(h:dX H e H2):dX (x0::x1::x2::x3::x4::x5::x6::x7::x8::x9::x10::x11::x12::x13::H) e (x0::x1::x2::x3::x4::x5::x6::x7::x8::x9::x10::x11::x12::x13::H2):=.there (.t13 h)
theorem dX.t15{H H2:List ax}{e:ax}{x0 x1 x2 x3 x4 x5 x6 x7 x8 x9 x10 x11 x12 x13 x14:ax}(h:dX H e H2):dX (x0::x1::x2::x3::x4::x5::x6::x7::x8::x9::x10::x11::x12::x13::x14::H) e (x0::x1::x2::x3::x4::x5::x6::x7::x8::x9::x10::x11::x12::x13::x14::H2):=.there (.t14 h)
theorem dX.t16{H H2:List ax}{e:ax}{x0 x1 x2 x3 x4 x5 x6 x7 x8 x9 x10 x11 x12 x13 x14 x15:ax}(h:dX H e H2):dX (x0::x1::x2::x3::x4::x5::x6::x7::x8::x9::x10::x11::x12::x13::x14::x15::H) e (x0::x1::x2::x3::x4::x5::x6::x7::x8::x9::x10::x11::x12::x13::x14::x15::H2):=.there (.t15 h)
theorem dX.t17{H H2:List ax}{e:ax}{x0 x1 x2 x3 x4 x5 x6 x7 x8 x9 x10 x11 x12 x13 x14 x15 x16:ax}(h:dX H e H2):dX (x0::x1::x2::x3::x4::x5::x6::x7::x8::x9::x10::x11::x12::x13::x14::x15::x16::H) e (x0::x1::x2::x3::x4::x5::x6::x7::x8::x9::x10::x11::x12::x13::x14::x15::x16::H2):=.there (.t16 h)
theorem dX.t18{H H2:List ax}{e:ax}{x0 x1 x2 x3 x4 x5 x6 x7 x8 x9 x10 x11 x12 x13 x14 x15 x16 x17:ax}(h:dX H e H2):dX (x0::x1::x2::x3::x4::x5::x6::x7::x8::x9::x10::x11::x12::x13::x14::x15::x16::x17::H) e (x0::x1::x2::x3::x4::x5::x6::x7::x8::x9::x10::x11::x12::x13::x14::x15::x16::x17::H2):=.there (.t17 h)
theorem dX.t19{H H2:List ax}{e:ax}{x0 x1 x2 x3 x4 x5 x6 x7 x8 x9 x10 x11 x12 x13 x14 x15 x16 x17 x18:ax}(h:dX H e H2):dX (x0::x1::x2::x3::x4::x5::x6::x7::x8::x9::x10::x11::x12::x13::x14::x15::x16::x17::x18::H) e (x0::x1::x2::x3::x4::x5::x6::x7::x8::x9::x10::x11::x12::x13::x14::x15::x16::x17::x18::H2):=.there (.t18 h)
theorem dX.t20{H H2:List ax}{e:ax}{x0 x1 x2 x3 x4 x5 x6 x7 x8 x9 x10 x11 x12 x13 x14 x15 x16 x17 x18 x19:ax}(h:dX H e H2):dX (x0::x1::x2::x3::x4::x5::x6::x7::x8::x9::x10::x11::x12::x13::x14::x15::x16::x17::x18::x19::H) e (x0::x1::x2::x3::x4::x5::x6::x7::x8::x9::x10::x11::x12::x13::x14::x15::x16::x17::x18::x19::H2):=.there (.t19 h)
theorem dX.t21{H H2:List ax}{e:ax}{x0 x1 x2 x3 x4 x5 x6 x7 x8 x9 x10 x11 x12 x13 x14 x15 x16 x17 x18 x19 x20:ax}(h:dX H e H2):dX (x0::x1::x2::x3::x4::x5::x6::x7::x8::x9::x10::x11::x12::x13::x14::x15::x16::x17::x18::x19::x20::H) e (x0::x1::x2::x3::x4::x5::x6::x7::x8::x9::x10::x11::x12::x13::x14::x15::x16::x17::x18::x19::x20::H2):=.there (.t20 h)
theorem dX.t22{H H2:List ax}{e:ax}{x0 x1 x2 x3 x4 x5 x6 x7 x8 x9 x10 x11 x12 x13 x14 x15 x16 x17 x18 x19 x20 x21:ax}(h:dX H e H2):dX (x0::x1::x2::x3::x4::x5::x6::x7::x8::x9::x10::x11::x12::x13::x14::x15::x16::x17::x18::x19::x20::x21::H) e (x0::x1::x2::x3::x4::x5::x6::x7::x8::x9::x10::x11::x12::x13::x14::x15::x16::x17::x18::x19::x20::x21::H2):=.there (.t21 h)
theorem dX.t23{H H2:List ax}{e:ax}{x0 x1 x2 x3 x4 x5 x6 x7 x8 x9 x10 x11 x12 x13 x14 x15 x16 x17 x18 x19 x20 x21 x22:ax}(h:dX H e H2):dX (x0::x1::x2::x3::x4::x5::x6::x7::x8::x9::x10::x11::x12::x13::x14::x15::x16::x17::x18::x19::x20::x21::x22::H) e (x0::x1::x2::x3::x4::x5::x6::x7::x8::x9::x10::x11::x12::x13::x14::x15::x16::x17::x18::x19::x20::x21::x22::H2):=.there (.t22 h)
theorem dX.t24{H H2:List ax}{e:ax}{x0 x1 x2 x3 x4 x5 x6 x7 x8 x9 x10 x11 x12 x13 x14 x15 x16 x17 x18 x19 x20 x21 x22 x23:ax}(h:dX H e H2):dX (x0::x1::x2::x3::x4::x5::x6::x7::x8::x9::x10::x11::x12::x13::x14::x15::x16::x17::x18::x19::x20::x21::x22::x23::H) e (x0::x1::x2::x3::x4::x5::x6::x7::x8::x9::x10::x11::x12::x13::x14::x15::x16::x17::x18::x19::x20::x21::x22::x23::H2):=.there (.t23 h)
theorem ed.t13{H H2:List ax}{e e2:ax}{x0 x1 x2 x3 x4 x5 x6 x7 x8 x9 x10 x11 x12:ax}(h:ed H e e2 H2):ed (x0::x1::x2::x3::x4::x5::x6::x7::x8::x9::x10::x11::x12::H) e e2 (x0::x1::x2::x3::x4::x5::x6::x7::x8::x9::x10::x11::x12::H2):=.there (.t12 h)
theorem ed.t14{H H2:List ax}{e e2:ax}{x0 x1 x2 x3 x4 x5 x6 x7 x8 x9 x10 x11 x12 x13:ax}(h:ed H e e2 H2):ed (x0::x1::x2::x3::x4::x5::x6::x7::x8::x9::x10::x11::x12::x13::H) e e2 (x0::x1::x2::x3::x4::x5::x6::x7::x8::x9::x10::x11::x12::x13::H2):=.there (.t13 h)
theorem ed.t15{H H2:List ax}{e e2:ax}{x0 x1 x2 x3 x4 x5 x6 x7 x8 x9 x10 x11 x12 x13 x14:ax}(h:ed H e e2 H2):ed (x0::x1::x2::x3::x4::x5::x6::x7::x8::x9::x10::x11::x12::x13::x14::H) e e2 (x0::x1::x2::x3::x4::x5::x6::x7::x8::x9::x10::x11::x12::x13::x14::H2):=.there (.t14 h)
theorem ed.t16{H H2:List ax}{e e2:ax}{x0 x1 x2 x3 x4 x5 x6 x7 x8 x9 x10 x11 x12 x13 x14 x15:ax}(h:ed H e e2 H2):ed (x0::x1::x2::x3::x4::x5::x6::x7::x8::x9::x10::x11::x12::x13::x14::x15::H) e e2 (x0::x1::x2::x3::x4::x5::x6::x7::x8::x9::x10::x11::x12::x13::x14::x15::H2):=.there (.t15 h)
theorem ed.t17{H H2:List ax}{e e2:ax}{x0 x1 x2 x3 x4 x5 x6 x7 x8 x9 x10 x11 x12 x13 x14 x15 x16:ax}(h:ed H e e2 H2):ed (x0::x1::x2::x3::x4::x5::x6::x7::x8::x9::x10::x11::x12::x13::x14::x15::x16::H) e e2 (x0::x1::x2::x3::x4::x5::x6::x7::x8::x9::x10::x11::x12::x13::x14::x15::x16::H2):=.there (.t16 h)
theorem ed.t18{H H2:List ax}{e e2:ax}{x0 x1 x2 x3 x4 x5 x6 x7 x8 x9 x10 x11 x12 x13 x14 x15 x16 x17:ax}(h:ed H e e2 H2):ed (x0::x1::x2::x3::x4::x5::x6::x7::x8::x9::x10::x11::x12::x13::x14::x15::x16::x17::H) e e2 (x0::x1::x2::x3::x4::x5::x6::x7::x8::x9::x10::x11::x12::x13::x14::x15::x16::x17::H2):=.there (.t17 h)
theorem ed.t19{H H2:List ax}{e e2:ax}{x0 x1 x2 x3 x4 x5 x6 x7 x8 x9 x10 x11 x12 x13 x14 x15 x16 x17 x18:ax}(h:ed H e e2 H2):ed (x0::x1::x2::x3::x4::x5::x6::x7::x8::x9::x10::x11::x12::x13::x14::x15::x16::x17::x18::H) e e2 (x0::x1::x2::x3::x4::x5::x6::x7::x8::x9::x10::x11::x12::x13::x14::x15::x16::x17::x18::H2):=.there (.t18 h)
theorem ed.t20{H H2:List ax}{e e2:ax}{x0 x1 x2 x3 x4 x5 x6 x7 x8 x9 x10 x11 x12 x13 x14 x15 x16 x17 x18 x19:ax}(h:ed H e e2 H2):ed (x0::x1::x2::x3::x4::x5::x6::x7::x8::x9::x10::x11::x12::x13::x14::x15::x16::x17::x18::x19::H) e e2 (x0::x1::x2::x3::x4::x5::x6::x7::x8::x9::x10::x11::x12::x13::x14::x15::x16::x17::x18::x19::H2):=.there (.t19 h)
theorem ed.t21{H H2:List ax}{e e2:ax}{x0 x1 x2 x3 x4 x5 x6 x7 x8 x9 x10 x11 x12 x13 x14 x15 x16 x17 x18 x19 x20:ax}(h:ed H e e2 H2):ed (x0::x1::x2::x3::x4::x5::x6::x7::x8::x9::x10::x11::x12::x13::x14::x15::x16::x17::x18::x19::x20::H) e e2 (x0::x1::x2::x3::x4::x5::x6::x7::x8::x9::x10::x11::x12::x13::x14::x15::x16::x17::x18::x19::x20::H2):=.there (.t20 h)
theorem ed.t22{H H2:List ax}{e e2:ax}{x0 x1 x2 x3 x4 x5 x6 x7 x8 x9 x10 x11 x12 x13 x14 x15 x16 x17 x18 x19 x20 x21:ax}(h:ed H e e2 H2):ed (x0::x1::x2::x3::x4::x5::x6::x7::x8::x9::x10::x11::x12::x13::x14::x15::x16::x17::x18::x19::x20::x21::H) e e2 (x0::x1::x2::x3::x4::x5::x6::x7::x8::x9::x10::x11::x12::x13::x14::x15::x16::x17::x18::x19::x20::x21::H2):=.there (.t21 h)
theorem ed.t23{H H2:List ax}{e e2:ax}{x0 x1 x2 x3 x4 x5 x6 x7 x8 x9 x10 x11 x12 x13 x14 x15 x16 x17 x18 x19 x20 x21 x22:ax}(h:ed H e e2 H2):ed (x0::x1::x2::x3::x4::x5::x6::x7::x8::x9::x10::x11::x12::x13::x14::x15::x16::x17::x18::x19::x20::x21::x22::H) e e2 (x0::x1::x2::x3::x4::x5::x6::x7::x8::x9::x10::x11::x12::x13::x14::x15::x16::x17::x18::x19::x20::x21::x22::H2):=.there (.t22 h)
theorem ed.t24{H H2:List ax}{e e2:ax}{x0 x1 x2 x3 x4 x5 x6 x7 x8 x9 x10 x11 x12 x13 x14 x15 x16 x17 x18 x19 x20 x21 x22 x23:ax}(h:ed H e e2 H2):ed (x0::x1::x2::x3::x4::x5::x6::x7::x8::x9::x10::x11::x12::x13::x14::x15::x16::x17::x18::x19::x20::x21::x22::x23::H) e e2 (x0::x1::x2::x3::x4::x5::x6::x7::x8::x9::x10::x11::x12::x13::x14::x15::x16::x17::x18::x19::x20::x21::x22::x23::H2):=.there (.t23 h)
theorem bF.Lb{H:List ax}{x0 x1 x2 x3 x4 x5 x6 x7 x8 x9 x10 x11 x12 x13 x14:ax} :bF (x0::x1::x2::x3::x4::x5::x6::x7::x8::x9::x10::x11::x12::x13::x14::H) [x0,x1,x2,x3,x4,x5,x6,x7,x8,x9,x10,x11,x12,x13,x14] H:=.cons .here .L9
theorem bF.DX{H:List ax}{x0 x1 x2 x3 x4 x5 x6 x7 x8 x9 x10 x11 x12 x13 x14 x15:ax} :bF (x0::x1::x2::x3::x4::x5::x6::x7::x8::x9::x10::x11::x12::x13::x14::x15::H) [x0,x1,x2,x3,x4,x5,x6,x7,x8,x9,x10,x11,x12,x13,x14,x15] H:=.cons .here .Lb
theorem bF.gq{H:List ax}{x0 x1 x2 x3 x4 x5 x6 x7 x8 x9 x10 x11 x12 x13 x14 x15 x16:ax} :bF (x0::x1::x2::x3::x4::x5::x6::x7::x8::x9::x10::x11::x12::x13::x14::x15::x16::H) [x0,x1,x2,x3,x4,x5,x6,x7,x8,x9,x10,x11,x12,x13,x14,x15,x16] H:=.cons .here .DX
theorem bF.jo{H:List ax}{x0 x1 x2 x3 x4 x5 x6 x7 x8 x9 x10 x11 x12 x13 x14 x15 x16 x17:ax} :bF (x0::x1::x2::x3::x4::x5::x6::x7::x8::x9::x10::x11::x12::x13::x14::x15::x16::x17::H) [x0,x1,x2,x3,x4,x5,x6,x7,x8,x9,x10,x11,x12,x13,x14,x15,x16,x17] H:=.cons .here .gq
theorem bF.HY{H:List ax}{x0 x1 x2 x3 x4 x5 x6 x7 x8 x9 x10 x11 x12 x13 x14 x15 x16 x17 x18:ax} :bF (x0::x1::x2::x3::x4::x5::x6::x7::x8::x9::x10::x11::x12::x13::x14::x15::x16::x17::x18::H) [x0,x1,x2,x3,x4,x5,x6,x7,x8,x9,x10,x11,x12,x13,x14,x15,x16,x17,x18] H:=.cons .here .jo
theorem bF.Ep{H:List ax}{x0 x1 x2 x3 x4 x5 x6 x7 x8 x9 x10 x11 x12 x13 x14 x15 x16 x17 x18 x19:ax} :bF (x0::x1::x2::x3::x4::x5::x6::x7::x8::x9::x10::x11::x12::x13::x14::x15::x16::x17::x18::x19::H) [x0,x1,x2,x3,x4,x5,x6,x7,x8,x9,x10,x11,x12,x13,x14,x15,x16,x17,x18,x19] H:=.cons .here .HY
theorem bF.N9{H:List ax}{x0 x1 x2 x3 x4 x5 x6 x7 x8 x9 x10 x11 x12 x13 x14 x15 x16 x17 x18 x19 x20:ax} :bF (x0::x1::x2::x3::x4::x5::x6::x7::x8::x9::x10::x11::x12::x13::x14::x15::x16::x17::x18::x19::x20::H) [x0,x1,x2,x3,x4,x5,x6,x7,x8,x9,x10,x11,x12,x13,x14,x15,x16,x17,x18,x19,x20] H:=.cons .here .Ep
theorem bF.JT{H:List ax}{x0 x1 x2 x3 x4 x5 x6 x7 x8 x9 x10 x11 x12 x13 x14 x15 x16 x17 x18 x19 x20 x21:ax} :bF (x0::x1::x2::x3::x4::x5::x6::x7::x8::x9::x10::x11::x12::x13::x14::x15::x16::x17::x18::x19::x20::x21::H) [x0,x1,x2,x3,x4,x5,x6,x7,x8,x9,x10,x11,x12,x13,x14,x15,x16,x17,x18,x19,x20,x21] H:=.cons .here .N9
end Go.X

namespace Go.X
open Go
theorem Spec.Oj{P:Program}[Tb P]{L:SF}{c:Code}{f:FuncId}{fn:Func}{args:List Value}{pre:List ax}{post:Value→List ax→Prop}(k:Nat)(ps:List Nat)(cs:List (Nat×Nat))(hf:P.funcs[f]? =some fn)(hb:fn.body=some c)(hk:fn.ntmps=k)(hn:Nat.ble args.length fn.ntmps=true)[r:Dx (ic 0 args) L](h:∀ W,ef P (fr k ps cs) (bodyPostM Fence.wide 3 P fn fun e w'=>∃ v H',e= .returned v∧post v H'∧H'.all ax.wr=true∧XM W (bS pre) H' w') (XM W (bS pre) pre) 3000 [] (.c c) L):Spec P f args pre post:=by
 subst hk
 refine Spec.KM (kp:=ps) (cs:=cs) hf hb hn fun W=> ?_
 rw[←r.h]
 exact bG _ [] (.c _) _ (h W)
end Go.X

namespace Go.X
open Go
section
variable {P:Program} {n:Fr} {Q:Exit→Act→World→Prop} {L:PF} {M:World→Prop}
theorem XB.gJ{i:Nat}{os:List Oper}{f:Nat}{l:Array Bool}(hm:P.follows .mixedOrders=true)(hf:os.length=f)(hl:Array.replicate f false=l)(hM:∀ w k,M w→M {w with drawn:=w.drawn+k})(h:XQ P n os.toArray Q [] f l L M)(hn:pS os=true:=by rfl):XB P n (.region i os.toArray true) Q L M:=fun a w ha hw=>by
 subst hf;subst hl
 refine⟨by simpa using hn,hm,?_⟩
 have:=ka _ _ _ _ (h (lB _ _) a _ ha (hM w 1 hw) trivial)
 simpa using this
end
end Go.X

namespace Go.X
open Go
section
variable {P:Program} {n:Fr} {Q:Exit→Act→World→Prop} {L:PF} {ops:Md} {rest:List Oper} {ty:TypeId} {pos:String} {af:Array Edge} {d:Nat}
variable {W:World} {S:Nat→Nat→Prop} {H:List ax}
theorem V.CE{t e:TypeId}{x y:Operand}{A B:Array Value}{m sz:Nat}{k:IntKind}{z:Int}{φ:World→Prop}{gd:Option (Nat×Bool)}(hx:ev L x=some (.agg A))(hy:ev L y=some (.int k z))(ht:P.underlying t=some (.array m e))(hs:dx P e=some sz)(he:jW P e=true)(hz:0≤z∧z<m)(hv:A.extract (z.toNat*sz) (z.toNat*sz+sz)=B):bh P n L φ ⟨some d,.index t x y,ty,pos,af,gd⟩ (.agg B):=fun a w ha _=>by
 have hp:(part e A (z.toNat*sz)).run P w= .ok (.agg B) w:=by
  simp[part,mE he,run_sizeOf hs,hv]
 simp only[execOp,az ha hx,az ha hy,Instr.index,asIntOf,Sem.run_bind,Sem.run_pure,Result.andThen_ok,run_underlying ht,hz,run_sizeOf hs]
 simp only[Sem.run_bind,run_sizeOf hs,Result.andThen_ok,hp,true_and,and_self,if_true]
end
end Go.X

namespace Go.X
open Go Go.Proofs Go.Shelf Go.Sort
def Ij(P:Program)(gcl:Nat){α:Type}(enc:α→List Value)(cf:α→α→Int):Prop:=
 ∀ x y w,Calls P gcl #[.agg (enc x).toArray,.agg (enc y).toArray] w fun e w'=>e= .returned (.int .i64 (cf x y))∧∃ os',w'=grow w os'
theorem F2{P:Program}{gcl:Nat}{α:Type}{enc:α→List Value}{k:Nat}{cf:α→α→Int}[Inhabited α](h:Ij P gcl enc cf)(blk off size:Nat)(w:World):CmpLays P gcl #[] enc k cf blk off size w:=
 fun m os dk _ x y=>(h x y _).mono fun e w' ⟨he,os',hw⟩=>⟨he,0,os',hw⟩
section
variable {P:Program} {n:Fr} {Q:Exit→Act→World→Prop} {L:PF} {ops:Md} {rest:List Oper} {ty:TypeId} {pos:String} {af:Array Edge} {d:Nat}
theorem XO.M4{t:TypeId}{x:Operand}{v:Value}{w1:World}(hx:ev L x=some v)(hd:Nat.blt d n.sz=true)(h:XO P n ops Q rest ((d,ptr w1.heap.size 0 0)::L) (fun w=>w=w1.alloc (.cells v.cells t))):XO P n ops Q (⟨some d,.box t x,ty,pos,af,none⟩::rest) L (fun w=>w=w1):=
 XO.op rfl fun a w ha hw=>by
  subst hw
  unfold Oper.wp
  have:(execOp a.eval ⟨some d,.box t x,ty,pos,af,none⟩).run P w= .ok (.value (ptr w.heap.size 0 0)) (w.alloc (.cells v.cells t)):=by
   simp[execOp,az ha hx,Instr.box,newVar,newRow,newObj,Sem.run,ptr]
  rw[this]
  exact h _ _ (ha.put hd _) rfl
theorem HW{w:World}{A B:Array Value}{t t':TypeId}{i:Nat}{v:Value}(h:A[i]? =some v):((w.alloc (.cells A t)).alloc (.cells B t')).cell? ⟨w.heap.size,i,none⟩=some v:=by
 have e:((w.alloc (.cells A t)).alloc (.cells B t')).heap[w.heap.size]? =some (.cells A t):=by
  rw[heap_alloc_old _ _ (by simp)];exact heap_alloc_new w _
 simp[World.cell?,e,h]
theorem DI{w:World}{A B:Array Value}{t t':TypeId}{i:Nat}{v:Value}(h:B[i]? =some v):((w.alloc (.cells A t)).alloc (.cells B t')).cell? ⟨(w.alloc (.cells A t)).heap.size,i,none⟩=some v:=by
 have e:((w.alloc (.cells A t)).alloc (.cells B t')).heap[(w.alloc (.cells A t)).heap.size]? =some (.cells B t'):=heap_alloc_new _ _
 simp only[World.cell?,e,h]
 rfl
theorem V.JZ{t:TypeId}{x:Operand}{b i:Nat}{v:Value}{φ:World→Prop}(hx:ev L x=some (ptr b 0 i))(hc:∀ w,φ w→w.cell? ⟨b,i,none⟩=some v)(ht:fT P t=true):bh P n L φ (⟨some d,.load t x,ty,pos,af,none⟩) v:=fun a w ha hw=>by
 have hc':=hc w hw
 have hr:=dw ht hc'
 simp[execOp,az ha hx,Instr.loadAt,Instr.sureAddr,ptr,hr]
theorem DV(w:World)(A B:Obj):(w.alloc A).alloc B=grow w #[A,B]:=by
 simp only[World.alloc_eq,grow]
 congr 1
end
theorem uX{w:World}{g cap n k:Nat}{e:TypeId}{F:Array Value}(h:(ax.row (.slice (some ⟨g,0,none⟩) n cap) e k n F.toList).holds w):Holds id w g 0 F:=by
 intro j hj
 have hc:=cell_of_row h (j:=j) (v:=F[j]!) (by simp[hj])
 obtain⟨cur,hb,_⟩:=lT h
 refine⟨?_,?_⟩
 ·rw[Nat.zero_add]at hc ⊢;exact hc
 ·simp[World.frozen?,hb]
theorem Gk(cur F:Array Value)(h:F.size≤cur.size):(putCells id 0 F cur).toList.take F.size=F.toList:=by
 apply List.ext_getElem?
 intro j
 by_cases hj:j<F.size
 ·rw[List.getElem?_take_of_lt hj,Array.getElem?_toList,Array.getElem?_toList]
  simp[putCells,hj,show j<cur.size by omega]
 ·rw[List.getElem?_take_eq_none (by omega),List.getElem?_eq_none (by simp;omega)]
theorem yU{w:World}{g cap n k m:Nat}{e:TypeId}{F F':Array Value}{os:Array Obj}(h:(ax.row (.slice (some ⟨g,0,none⟩) n cap) e k n F.toList).holds w)(hF:F'.size=F.size):XM w (bS [.row (.slice (some ⟨g,0,none⟩) n cap) e k n F.toList]) [.row (.slice (some ⟨g,0,none⟩) n cap) e k n F'.toList] (grow (putRow id (Sort.ahead w m) g 0 F') os):=by
 obtain⟨cur,hb,h1,h2,h3,h4⟩:=lT h
 have hg:g<w.heap.size:=cw hb
 have hFs:F.size=n*k:=by simpa using h.1
 have hnk:n*k≤cur.size:=by rw[h3];exact Nat.mul_le_mul_right _ h1
 have hnew:(grow (putRow id (Sort.ahead w m) g 0 F') os).heap[g]? =some (.cells (putCells id 0 F' cur) e (0,0)):=by
  rw[heap_grow_old _ _ (by simpa using hg)]
  simp[putRow,mapBlock,Sort.ahead,Array.getElem?_modify,hb,onCells]
 have hold:∀ b,b<w.heap.size→¬b=g→(grow (putRow id (Sort.ahead w m) g 0 F') os).heap[b]? =w.heap[b]? :=fun b hb2 hne=>by
  rw[heap_grow_old _ _ (by simpa using hb2)]
  have:¬g=b:=fun q=>hne q.symm
  simp[putRow,mapBlock,Sort.ahead,Array.getElem?_modify,this]
 have hS:∀ o,bS [.row (.slice (some ⟨g,0,none⟩) n cap) e k n F.toList] g o:=fun o=>⟨_,List.mem_singleton.2 rfl,rfl,rfl⟩
 refine⟨⟨fun x hx=> ?_,by simp⟩,⟨rfl,rfl,rfl,by simp[putRow,mapBlock,Sort.ahead],fun b hb2 hn=>hold b hb2 (fun q=>hn 0 (by rw[q];exact hS 0)),fun b A t fz hA=> ?_⟩,fun x hx _ b o ha=>.inr ?_⟩
 ·simp only[List.mem_singleton]at hx
  subst hx
  refine⟨by simp[hF,hFs],.inr ⟨g,cap,_,rfl,Nat.zero_le _,hnew,h1,h2,by simp[putCells,h3],?_⟩⟩
  have:=Gk cur F' (by omega)
  rw[hF,hFs]at this
  exact this
 ·by_cases hbg:b=g
  ·subst hbg
   rw[hb]at hA
   simp only[Option.some.injEq,Obj.cells.injEq]at hA
   obtain⟨rfl,rfl,rfl⟩:=hA
   exact⟨_,hnew,by simp[putCells],fun o hn=>absurd (hS o) hn⟩
  ·exact⟨A,by rw[hold b (cw hA) hbg];exact hA,rfl,fun _ _=>rfl⟩
 ·simp only[List.mem_singleton]at hx
  subst hx
  exact⟨_,List.mem_singleton.2 rfl,rfl,ha⟩
theorem Ei{P:Program}{ρ:Ren}{α:Type}[Inhabited α](L:SlLaysF0.n6 P ρ)(k:Nat)(aE:∀ w,(isAgg (ρ.t 24)).run P w= .ok true w)(zE:∀ w,(Go.sizeOf (ρ.t 24)).run P w= .ok k w)(enc:α→List Value)(hk:∀ x,(enc x).length=k)(h1:∀ x,∀ v∈enc x,v.oneCell'=true)(cf:α→α→Int)(hO:SWO (ltOf cf))(gcl:Nat)(eg:∀ args w,(callFunc gcl args).run P w= .ok (.enter gcl args) w)(hc:Ij P gcl enc cf)(p:Option Addr)(n cap:Nat)(e:TypeId)(d:Array α)(hn:d.size=n)(hlt:n≤100000000000):Spec P (ρ.f 6) [.slice p n cap,.func (.func gcl) #[] #[]] [.row (.slice p n cap) e k n (flatK enc k d).toList] (fun v H1=>v= .tuple #[]∧∃ d',PermIn 0 n d d'∧SortedIn (ltOf cf) 0 n d'∧H1=[.row (.slice p n cap) e k n (flatK enc k d').toList]):=by
 intro w hw
 have hrow:=hw.1 _ (List.mem_singleton.2 rfl)
 rcases hrow.2 with⟨hv,hn0⟩ | ⟨g,cap',cur,hv,_,hb,_⟩
 ·simp only[Value.slice.injEq]at hv
  obtain⟨rfl,_,rfl⟩:=hv
  subst hn0
  refine(AnyF.slices_SortFunc_none L none 0 _ w).mono fun ee w' ⟨he,hw'⟩=>⟨_,_,he,⟨rfl,d,⟨rfl,fun _ _=>rfl,.refl _⟩,fun i j _ hij hj=>by omega,rfl⟩,rfl,?_⟩
  subst hw'
  exact XM.start hw
 ·simp only[Value.slice.injEq,true_and]at hv
  obtain⟨rfl,rfl⟩:=hv
  subst hn
  refine(AnyQ.slices_SortFunc L k aE zE enc hk h1 cf hO gcl #[] g 0 cap d w eg (F2 hc g 0 d.size w) (uX hrow) (cw hb) (by omega)).mono fun ee w' ⟨he,d',nn,os,hp,hs,hw'⟩=>
   ⟨_,_,he,⟨rfl,d',hp,hs,rfl⟩,rfl,?_⟩
  subst hw'
  exact yU hrow (by simp[hp.1])
end Go.X

namespace Go.X
open Go
section
variable {P:Program} {n:Fr} {L:PF} {ty:TypeId} {pos:String} {af:Array Edge} {d:Nat} {gd:Option (Nat×Bool)} {φ:World→Prop}
theorem kR(k:Nat){t T:TypeId}{w:World}{v:Value}{ms:Array (String×TypeId)}(ht:P.underlying t=some (.interface ms)):(Op.equalIn (k+1) t .nilIface (.iface T v)).run P w= .ok false w:=by
 simp only[Op.equalIn,Sem.run_bind,run_underlying ht,Result.andThen_ok,Sem.run_pure]
theorem pU(k:Nat){t T:TypeId}{w:World}{a b:Int}{ms:Array (String×TypeId)}(ht:P.underlying t=some (.interface ms)){i:TypeInfo}(hT:P.info? T=some i)(hc:i.comparable=true){ik:IntKind}(hu:P.underlying T=some (.int ik)):(Op.equalIn (k+2) t (.iface T (.int .i64 a)) (.iface T (.int .i64 b))).run P w= .ok (a==b) w:=by
 simp only[Op.equalIn,Sem.run_bind,run_underlying ht,Result.andThen_ok,Sem.run_pure]
 simp[Sem.run_bind,run_typeInfo hT,run_underlying hu,hc,Sem.run_pure]
theorem V.ML{op:BinOp}{t t' T:TypeId}{x y:Operand}{e m:Int}{ms:Array (String×TypeId)}{r:Bool}(hx:ev L x=some (bM T e))(hy:ev L y=some (.iface T (.int .i64 m)))(hm:m≠0)(ht:P.underlying t=some (.interface ms)){i:TypeInfo}(hT:P.info? T=some i)(hc:i.comparable=true){ik:IntKind}(hu:P.underlying T=some (.int ik))(hr:(match op with | .eql=>some (decide (e=m)) | .neq=>some (decide (e≠m)) | _=>none)=some r):bh P n L φ ⟨some d,.binOp op t x y t',ty,pos,af,gd⟩ (.bool r):=fun a w ha _=>by
 by_cases h:e=0
 ·subst h
  have hx:ev L x=some .nilIface:=hx
  have he:(Op.equal t .nilIface (.iface T (.int .i64 m))).run P w= .ok false w:=kR 9999 ht
  have hd:decide ((0:Int)=m)=false:=decide_eq_false (fun q=>hm q.symm)
  cases op<;>simp only[Option.some.injEq]at hr<;>(try cases hr)<;>simp[execOp,eqGuard,az ha hx,az ha hy,binOp,he]
  all_goals omega
 ·rw[aW T h]at hx
  have he:(Op.equal t (.iface T (.int .i64 e)) (.iface T (.int .i64 m))).run P w= .ok (e==m) w:=pU 9998 ht hT hc hu
  have hq:(e==m)=decide (e=m):=by rw[Bool.eq_iff_iff];simp
  cases op<;>simp only[Option.some.injEq]at hr<;>(try cases hr)<;>simp[execOp,eqGuard,az ha hx,az ha hy,binOp,he,hq]
end
end Go.X

namespace Go.X
open Go Go.X
structure M7 where
 kind:ByteArray
 a:Int
 b:Int
 c:Int
 key:Int
 on:Bool
 s:ByteArray
 t:ByteArray
structure M7.ok (x:M7):Prop where
 a: -9223372036854775808≤x.a∧x.a≤9223372036854775807
 b: -9223372036854775808≤x.b∧x.b≤9223372036854775807
 c: -9223372036854775808≤x.c∧x.c≤9223372036854775807
 key:0≤x.key∧x.key≤18446744073709551615
 s:x.s.size≤9223372036854775807
 t:x.t.size≤9223372036854775807
 kind:x.kind.size≤9223372036854775807
end Go.X

namespace Go.X
open Go Go.ChangeShapes Go.WideShapes Go.Deep Go.RowKit Go.ChangeAt
section
variable {H:Type} {enc:TypeId×Value→H} {P:Program} {w:World} {base:Nat} {spare:Nat→Bool} {held:Bool}
end
section
variable {H:Type} {enc:TypeId×Value→H} {P:Program}
theorem sR{f:Func}{s:ChangeSpec}{apart fresh handsOn again:Bool}{W W':World}{args:Array Value}{v:Value}{ds gs:List (DataW H)}{before pa pv:List MemPlace}(hW:DataW.Whole enc P f.params.toList s.vars apart W args.toList ds gs before)(hres:∀ (b:Nat) (sp:Nat→Bool) (hd:Bool),DataW.TrodAll enc P W' b sp hd f.resultTypes.toList (v.resultList f.resultTypes.size) (s.fn H (ds++gs)).results [])(hargs:∀ sp:Nat→Bool,(∀ p∈before,sp p.block=true)→DataW.TrodAll enc P W' 0 sp true f.params.toList args.toList (s.fn H (ds++gs)).args pa)(hvars:∀ sp:Nat→Bool,(∀ p∈before,sp p.block=true)→DataW.TrodVars enc P W' sp s.vars (s.fn H (ds++gs)).vars pv)(hps:before=pa++pv)(hb:Below W.heap.size W W')(hok:∀ (j:Nat) (t:TypeId) (r:Value),f.resultTypes[j]? =some t→(v.resultList f.resultTypes.size)[j]? =some r→Value.okWide P W' .any 0 t r):s.post enc P f apart fresh handsOn again W args v W':=by
 have hlt:∀ p∈before,p.block<W.heap.size:=fun p hp=>hW.lt p hp
 have hold:∀ p∈before,(fun b=>decide (b<W.heap.size)) p.block=true:=fun p hp=>by simpa using hlt p hp
 refine⟨ds,gs,before,[],pa,pv,hW,hres _ _ _,hargs _ hold,hvars _ hold,World.keptBut_mono (fun p hp=>⟨hp,?_⟩) (hb.frame (· ∈before)),fun _=> ?_⟩
 ·rw[hps,List.mem_append]at hp
  exact Or.inr hp
 ·obtain⟨_,_,_,_,_,hz,hn⟩:=hW
  refine⟨hok,_,_,([]++pa)++pv,⟨[]++pa,pv,trodAll_append (hargs _ (fun _ _=>rfl)) (hres _ _ _),hvars _ (fun _ _=>rfl),rfl,?_,?_⟩,?_⟩
  ·intro b off hp
   have hin:MemPlace.cell b off∈before:=by rw[hps];simpa using hp
   rw[hb.frozen (hlt _ hin)]
   exact hz b off hin
  ·intro ha
   have:=hn ha
   rw[hps]at this
   simpa using this
  ·intro p hp _
   rw[hps]
   simpa using hp
end
theorem s6{P:Program}{f:FuncId}{args:List Value}{pre:List ax}(hs:Spec P f args pre (fun v H1=>v= .bool true∧H1=[]))(hro:∀ e∈pre,e.wr=false){w:World}(hg:Good pre w):Calls P f args.toArray w fun e w'=>e= .returned (.bool true)∧Below w.heap.size w w':=by
 refine(hs w hg).mono ?_
 rintro e w' ⟨v,H1,rfl,⟨rfl,rfl⟩,_,hx⟩
 have hn:∀ b o,¬bS pre b o:=fun b o ⟨e,he,hew,_⟩=>by rw[hro e he]at hew;cases hew
 exact⟨rfl,hx.keep.os,hx.keep.tape,hx.keep.output,hx.keep.size,fun k hk=>hx.keep.same k hk (fun o=>hn k o)⟩
theorem wf_i64{n:Int}(h:(Lit.int .i64 n).wf=true): -9223372036854775808≤n∧n≤9223372036854775807:=by
 simpa [Lit.wf,IntKind.min,IntKind.max,IntKind.signed,IntKind.bits]using h
theorem xU{w:World}{a:Addr}{n:Nat}{C:Nat→Value}(hn:0<n)(h:∀ i,i<n→w.cell? (a.add i)=some (C i)):(ax.ro a.block a.off n C).holds w:=by
 have h0:=h 0 hn
 have h0':w.cell? a=some (C 0):=h0
 have key:∀ i,i<n→w.cell? ⟨a.block,a.off+i,none⟩=some (C i):=fun i hi=>by
  cases i with
  | zero=>
   have hs:a.spot=none:=by
    cases hsp:a.spot with
    | none=>rfl
    | some s=>
     unfold World.cell? at h0'
     cases hb:w.heap[a.block]? with
     | none=>simp[hb]at h0'
     | some o=>cases o<;>simp[hb,hsp]at h0'
   have:a=⟨a.block,a.off,none⟩:=by cases a;simp_all
   rw[this]at h0'
   simpa using h0'
  | succ i=>simpa [Addr.add]using h (i+1) hi
 have k0:=key 0 hn
 unfold World.cell? at k0
 cases hb:w.heap[a.block]? with
 | none=>simp[hb]at k0
 | some o=>
  cases o with
  | cells A t fz=>
   refine⟨A,t,fz,hb,fun i hi=> ?_⟩
   have:=key i hi
   simpa [World.cell?,hb]using this
  | _=>simp[hb]at k0
end Go.X
