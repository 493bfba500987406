import Derived.Test.YthdinakloheinaaGreatDoorXFam
import Derived.Test.YthdinakloheinaaGreatDoorXQ
import Derived.Shelf.SlSortCmp.WholeK
import Derived.Shelf.SlSortCmp.NoneTotal
import Derived.ProofKit
import Derived.OpenShut
import Derived.Below
import Derived.ChangeSame
import Derived.Deep.Slices
import Derived.Deep.Fields
set_option linter.all false
namespace Go.X
open Go
variable{z:Int}{k:IntKind}{x y:Operand}
section
variable {P:Program} {n:Fr} {Q:Exit->Act->World->Prop} {L:PF} {ops:Md} {bU:List Oper} {op:Op} {ty:TypeId} {pos:String} {af:Array Edge} {d:Nat}
variable {W:World} {S:Nat->Nat->Prop} {H H':List aK} {M:World->Prop} {α:Type}
def AG(P:Program)(n:Fr)(L:PF)(M:World->Prop)(o:Oper)(G:α->Prop)(val:α->Value)(M':α->World->Prop):Prop:=
 ∀ a w,nR n L a->M w->∃ x w',G x/\(execOp a.eval o).run P w= .ok (.value (val x)) w'/\M' x w'
theorem XO.g{G:α->Prop}{val:α->Value}{M':α->World->Prop}(hr:AG P n L M ⟨some d,op,ty,pos,af,none⟩ G val M')(hd:(Nat.blt d n.sz&&cx op)=true)(h:∀ x,G x->XO P n ops Q bU ((d,val x)::L) (M' x)):XO P n ops Q (⟨some d,op,ty,pos,af,none⟩::bU) L M:=
 XO.op (by simp only[Bool.and_eq_true]at hd;simp[hd.2]) fun a w ha hw=>by
  simp only[Bool.and_eq_true]at hd;obtain⟨x,w',hg,h1,h2⟩:=hr a w ha hw;unfold Oper.wp;rw[h1];exact h x hg _ _ (ha.put hd.1 _) h2
theorem Cm(C C1:Nat->Value)(a b:Nat):bV C a++bV C1 b=bV (fun i=>if i<a then C i else C1 (i-a)) (a+b):=by
 apply List.ext_getElem?;grind [bV]
def Cn{w:World}{b N:Nat}{C:Nat->Value}(hc:(aK.cells b 0 N C).holds w):∀ j u,(bV C N)[j]? =some u->w.cell? ((⟨b,0,none⟩:Addr).add j)=some u:=fun j u hj=>by
 have sO:j<N:=by
  grind [bV]
 rw[gj sO]at hj;simp only[Option.some.injEq]at hj;have hcc:=ec hc sO;have e0:(⟨b,0,none⟩:Addr).add j=⟨b,0+j,none⟩:=by cases j<;>simp[Addr.add]
 simp_all
structure RV where
 p:Option Addr
 cap:Nat
 k:Nat
 len:Nat
 c:Nat
 C:Nat->Value
abbrev RV.Ce(v:RV)(e:TypeId)(sz:Nat):aK:=aS v.p v.cap e sz v.k v.C
abbrev RV.val(v:RV):Value:=.slice v.p v.len v.c
def RV.ok(v:RV):Prop:=(v.len=v.k/\v.c=v.cap)\/(v.c=v.len/\v.len<=v.k)
def oJ{v:RV}(h:v.ok):v.len<=v.k:=by rcases h with h | h<;>omega
def zk{P:Program}{w:World}{e:TypeId}{sz:Nat}{i:TypeInfo}{z:Value}{xs:List Value}{k GM:Nat}(po:i.size=sz)(Wm:z.cells.size=sz)(hl:xs.length=k*sz)(vU:k<=maxLen):(aK.row (.slice (some ⟨w.heap.size,0,none⟩) k (grownCap w k GM e)) e sz k xs).holds (w.drew.alloc (.cells (xs.toArray++Builtin.zeroCells z.cells (grownCap w k GM e-k)) e)):=by
 have Ls:=grownCap_ge w k GM e;have Pj:grownCap w k GM e<=maxLen:=grownCap_le_maxLen w k GM e vU;refine⟨hl,.inr ⟨w.heap.size,_,_,rfl,Nat.zero_le _,heap_alloc_new w.drew _,Ls,Pj,?_,?_⟩⟩
 ·simp only[Array.size_append,List.size_toArray,size_zeroCells,Wm,hl,<-Nat.add_mul];simp_all
 simp_all
def rr{w:World}{g cap sz k m:Nat}{e:TypeId}{C:Nat->Value}(h:(aS (some ⟨g,0,none⟩) cap e sz k C).holds w)(hm:m<=k)(o:Nat)(ho:o+m*sz<=k*sz):∀ j u,(bV (fun i=>C (o+i)) (m*sz))[j]? =some u->w.cell? ((⟨g,o,none⟩:Addr).add j)=some u:=fun j u hj=>by
 have sO:j<m*sz:=by
  grind [bV]
 rw[gj sO]at hj;simp only[Option.some.injEq]at hj;have e0:(⟨g,o,none⟩:Addr).add j=⟨g,o+j,none⟩:=by cases j<;>simp[Addr.add]
 grind [zf]
def wg(w:World)(o:Obj)(S:Nat->Nat->Prop):gH w (w.drew.alloc o) S:=uz (jL w.drew o S)
def RG.append{t e:TypeId}{x y:Operand}{v:RV}{m c2 b N sz:Nat}{C1:Nat->Value}(hv:v.ok)(hx:ev L x=some v.val)(hy:ev L y=some (.slice (some ⟨b,0,none⟩) m c2))(ht:P.underlying t=some (.slice e))(hr:rh P e sz=true)(hH:mT H (v.Ce e sz) H')(hN:kR H (.cells b 0 N C1))(WO:N=m*sz)(h1:(bV C1 N).all one=true)(hm:0<m)(hk:v.len+m<=100000000000):AG P n L (XM W S H) ⟨some d,.call ⟨.builtin .append,#[x,y],#[t,t]⟩,ty,pos,af,none⟩ (fun u:RV=>u.ok/\u.len=v.len+m/\(∀ i,i<v.len*sz->u.C i=v.C i)/\∀ i,i<m*sz->u.C (v.len*sz+i)=C1 i) (fun u=>u.val) (fun u=>XM W S (u.Ce e sz::H')):=fun a w ha hw=>by
 have hc:(aK.cells b 0 N C1).holds w:=hw.eT.1 _ hN.mem;have gL:(v.Ce e sz).holds w:=hw.eT.1 _ (hH.b8.mem_iff.2 sq);obtain⟨p,cap,k,len,c,C⟩:=v;simp only[RV.ok,RV.val,RV.Ce]at*;have fin:∀ (p':Option Addr) (cL:Nat) (w':World),(Builtin.append_ #[t,t] ty #[.slice p len c,.slice (some ⟨b,0,none⟩) m c2]).run P w= .ok (.slice p' (len+m) cL) w'->
   XM W S (.row (.slice p' (len+m) cL) e sz (len+m) (bV C (len*sz)++bV C1 N)::H') w'->∃ (u:RV) (w':World),(u.ok/\u.len=len+m/\(∀ i,i<len*sz->u.C i=C i)/\∀ i,i<m*sz->u.C (len*sz+i)=C1 i)/\
    (execOp a.eval ⟨some d,.call ⟨.builtin .append,#[x,y],#[t,t]⟩,ty,pos,af,none⟩).run P w= .ok (.value u.val) w'/\XM W S (u.Ce e sz::H') w':=fun p' cL w' h3 h4=>by
  refine⟨⟨p',cL,len+m,len+m,cL,fun i=>if i<len*sz then C i else C1 (i-len*sz)⟩,w',⟨.inl ⟨rfl,rfl⟩,rfl,fun i hi=>if_pos hi,fun i _=> ?_⟩,?_,?_⟩
  ·show(if len*sz+i<len*sz then _ else _)=_;rw[if_neg og,Nat.add_sub_cancel_left]
  ·simp[execOp,resolve,invoke,builtin,ay ha hx,ay ha hy,h3]
  ·rw[Cm,WO,<-Nat.add_mul]at h4;exact h4
 have full:len=k->c=cap->∃ (u:RV) (w':World),(u.ok/\u.len=len+m/\(∀ i,i<len*sz->u.C i=C i)/\∀ i,i<m*sz->u.C (len*sz+i)=C1 i)/\
    (execOp a.eval ⟨some d,.call ⟨.builtin .append,#[x,y],#[t,t]⟩,ty,pos,af,none⟩).run P w= .ok (.value u.val) w'/\XM W S (u.Ce e sz::H') w':=fun e1 e2=>by
  subst e1;subst e2;obtain⟨p',cL,w',h3,h4,h5,h6⟩:=oF (ty:=ty) (c:=c2) (b:=b) (news:=bV C1 N) ht hr gL hm (by rw[bQ,WO]) (Cn hc) (fun u hu=>oE (List.all_eq_true.1 h1 u hu)) hk;exact fin p' cL w' h3 (hw.cg hH rfl h6 h5 h4)
 rcases hv with⟨h1',h2'⟩ | ⟨h1',h2'⟩
 ·exact full h1' h2'
 ·rcases gL.2 with⟨hv,h0⟩ | ⟨g,cL,cur,hv,_⟩
  ·simp only[Value.slice.injEq]at hv;exact full og og
  ·simp only[Value.slice.injEq,true_and]at hv;obtain⟨rfl,rfl⟩:=hv;obtain⟨i,z,hi,hz,po,ZO,Wm,Nq⟩:=qi hr;have vU:len+m<=maxLen:=by simp only[maxLen];omega
   have vV:(len+m)*i.bytes<=140737488355328:=Nat.le_trans (Nat.mul_le_mul hk ZO) og;have hle:len*sz<=k*sz:=Nat.mul_le_mul_right _ h2';have yZ:=run_append_grow (P:=P) w t ty e i z ht hi hz ⟨g,0,none⟩ len c (bV C (len*sz)) (by rw[bQ,po]) (fun j u hj=>by
    have sO:j<len*sz:=by
     have:=(List.getElem?_eq_some_iff.1 hj).1
     rwa[bQ]at this
    exact rr gL h2' 0 og j u (by
     rw[gj sO]at hj ⊢
     simpa using hj)) ⟨b,0,none⟩ m c2 (bV C1 N) (by rw[bQ,WO,po]) (Cn hc) og (by simp only[maxLen]at vU;omega) (growslice_fits og vV)
   refine fin _ _ _ yZ ?_;have hg:=zk (P:=P) (w:=w) (e:=e) (sz:=sz) (i:=i) (z:=z) (xs:=bV C (len*sz)++bV C1 N) (k:=len+m) (GM:=c) po Wm (by rw[List.length_append,bQ,bQ,WO,Nat.add_mul]) vU;have e3:(bV C (len*sz)++bV C1 N).toArray=(bV C (len*sz)).toArray++(bV C1 N).toArray:=sq;rw[e3]at hg;exact hw.cg hH rfl (fun b' o hb=>.inr (by simp only[aK.fT,Value.ownBlock,Option.some.injEq]at hb;omega)) (wg w _ _) hg
def RG.aep{t e:TypeId}{v:RV}{sz:Nat}(hv:v.ok)(hy:ev L y=some v.val)(ht:P.underlying t=some (.slice e))(hr:rh P e sz=true)(hH:kR H (v.Ce e sz))(hk:v.len<=100000000000):AG P n L (XM W S H) ⟨some d,.call ⟨.builtin .append,#[.const (.slice none 0 0),y],#[t,t]⟩,ty,pos,af,none⟩ (fun u:RV=>u.ok/\u.len=v.len/\∀ i,i<v.len*sz->u.C i=v.C i) (fun u=>u.val) (fun u=>XM W S (u.Ce e sz::H)):=fun a w ha hw=>by
 have gL:(v.Ce e sz).holds w:=hw.eT.1 _ hH.mem;obtain⟨p,cap,k,len,c,C⟩:=v;simp only[RV.ok,RV.val,RV.Ce]at*;have hc:a.eval (.const (.slice none 0 0))= .slice none 0 0:=rfl;obtain⟨i,z,hi,hz,po,ZO,Wm,Nq⟩:=qi hr;by_cases h0:len=0
 ·subst h0;refine⟨⟨none,0,0,0,0,C⟩,w,⟨.inl ⟨rfl,rfl⟩,rfl,fun i hi=>rfl⟩,?_,?_⟩
  ·have h3:(Builtin.append_ #[t,t] ty #[.slice none 0 0,.slice p 0 c]).run P w= .ok (.slice none 0 0) w:=by
    cases p<;>simp[Builtin.append_,run_underlying ht,Builtin.lenOf,Builtin.firstCells,loadCells,loadCellsFrom,sizeOf,run_typeInfo hi,hi]
   simp[execOp,resolve,invoke,builtin,ay ha hy,hc,h3]
  ·have:=hw.fc e sz;simpa [aS,bV]using this
 ·have iD:len<=k:=og;rcases gL.2 with⟨Wp,h0'⟩ | ⟨g,cL,cur,Wp,_⟩
  ·omega
  ·simp only[Value.slice.injEq,true_and]at Wp;obtain⟨rfl,rfl⟩:=Wp;have vU:len<=maxLen:=by simp only[maxLen];omega
   have vV:len*i.bytes<=140737488355328:=Nat.le_trans (Nat.mul_le_mul hk ZO) og;have hle:len*sz<=k*sz:=Nat.mul_le_mul_right _ iD;have yZ:=run_append_nil (P:=P) w t ty e i z ht hi hz ⟨g,0,none⟩ len c (bV C (len*sz)) (by rw[bQ,po]) (fun j u hj=>by
    have sO:j<len*sz:=by
     have:=(List.getElem?_eq_some_iff.1 hj).1
     rwa[bQ]at this
    exact rr gL iD 0 og j u (by
     rw[gj sO]at hj ⊢
     simpa using hj)) og (by simp only[maxLen]at vU;omega) og
   have hg:=zk (P:=P) (w:=w) (e:=e) (sz:=sz) (i:=i) (z:=z) (xs:=bV C (len*sz)) (k:=len) (GM:=0) po Wm (by rw[bQ]) vU;refine⟨⟨some ⟨w.heap.size,0,none⟩,grownCap w len 0 e,len,len,grownCap w len 0 e,C⟩,w.drew.alloc (.cells ((bV C (len*sz)).toArray++Builtin.zeroCells z.cells (grownCap w len 0 e-len)) e),⟨.inl ⟨rfl,rfl⟩,rfl,fun i hi=>rfl⟩,?_,?_⟩
   ·simp[execOp,resolve,invoke,builtin,ay ha hy,hc,yZ]
   ·exact hw.fresh (fun b o hb=>by simp only[aK.fT,Value.ownBlock,Option.some.injEq]at hb;omega) (wg w _ _) hg
def SD{t e:TypeId}{y2:Operand}{p:Option Addr}{len c m:Nat}{k2:IntKind}{φ:World->Prop}{gd:Option (Nat×Bool)}(hx:ev L x=some (.slice p len c))(hy:ev L y=some (.int k z))(hy2:ev L y2=some (.int k2 z))(ht:P.underlying t=some (.slice e)){sz:Nat}(hs:fk P e=some sz)(hz:z=(m:Int))(hm:m<=c):bd P n L φ ⟨some d,.slice t x none (some y) (some y2),ty,pos,af,gd⟩ (.slice p m m):=fun a w ha _=>by
 subst hz;have Lc:(if m=0 then p else p.map fun x=>x.add (0*sz))=p:=by
  split
  ·rfl
  ·cases p with
   | none=>rfl
   | some a=>simp[Addr.add]
 simp[execOp,ay ha hx,ay ha hy,ay ha hy2,Instr.sliceAt,run_underlying ht,Instr.slice,Instr.sliceBounds,Instr.sliceBound,asIntOf,hm,run_sizeOf hs];simp_all
def I0{t e:TypeId}{g len c m:Nat}{φ:World->Prop}{gd:Option (Nat×Bool)}(hx:ev L x=some (.slice (some ⟨g,0,none⟩) len c))(hy:ev L y=some (.int k z))(ht:P.underlying t=some (.slice e)){sz:Nat}(hs:fk P e=some sz)(hz:z=(m:Int))(hm:m<=len)(hc:len<=c):bd P n L φ ⟨some d,.slice t x (some y) none none,ty,pos,af,gd⟩ (.slice (some ⟨g,if c=m then 0 else m*sz,none⟩) (len-m) (c-m)):=fun a w ha _=>by
 subst hz;have e1:(if c=m then some (⟨g,0,none⟩:Addr)else some ((⟨g,0,none⟩:Addr).add (m*sz)))=some ⟨g,if c=m then 0 else m*sz,none⟩:=by
  split
  ·rfl
  ·congr 1;cases hq:m*sz<;>simp[Addr.add]
 simp[execOp,ay ha hx,ay ha hy,Instr.sliceAt,run_underlying ht,Instr.slice,Instr.sliceBounds,Instr.sliceBound,asIntOf,hm,run_sizeOf hs];omega
theorem RG.cut{t e:TypeId}{g cap k len c:Nat}{C:Nat->Value}{i q sz:Nat}(hv:RV.ok ⟨some ⟨g,0,none⟩,cap,k,len,c,C⟩)(hi:i<len)(hx:ev L x=some (.slice (some ⟨g,0,none⟩) i i))(hy:ev L y=some (.slice (some ⟨g,if c=i+1 then 0 else(i+1)*sz,none⟩) (len-(i+1)) q))(ht:P.underlying t=some (.slice e))(hr:rh P e sz=true)(hH:mT H (aS (some ⟨g,0,none⟩) cap e sz k C) H')(hk:len<=100000000000):AG P n L (XM W S H) ⟨some d,.call ⟨.builtin .append,#[x,y],#[t,t]⟩,ty,pos,af,none⟩ (fun u:RV=>u.ok/\u.len=len-1/\(∀ j,j<i*sz->u.C j=C j)/\∀ j,i*sz<=j->j<(len-1)*sz->u.C j=C (j+sz)) (fun u=>u.val) (fun u=>XM W S (u.Ce e sz::H')):=fun a w ha hw=>by
 have gL:(aS (some ⟨g,0,none⟩) cap e sz k C).holds w:=hw.eT.1 _ (hH.b8.mem_iff.2 sq);have hv:(len=k/\c=cap)\/(c=len/\len<=k):=hv;obtain⟨ii,z,hii,hz,po,ZO,Wm,Nq⟩:=qi hr;by_cases hl:len=i+1
 ·subst hl;refine⟨⟨some ⟨g,0,none⟩,cap,k,i,i,C⟩,w,⟨.inr ⟨rfl,show i<=k by omega⟩,sq,fun j _=>rfl,fun j h1 h2=>by simp at h2;omega⟩,?_,?_⟩
  ·have h3:∀ o,(Builtin.append_ #[t,t] ty #[.slice (some ⟨g,0,none⟩) i i,.slice (some ⟨g,o,none⟩) 0 q]).run P w= .ok (.slice (some ⟨g,0,none⟩) i i) w:=fun o=>by
    simp[Builtin.append_,run_underlying ht,Builtin.lenOf,Builtin.firstCells,loadCells,loadCellsFrom,storeCells,sizeOf,run_typeInfo hii,hii]
   rw[Nat.sub_self]at hy;simp[execOp,resolve,invoke,builtin,ay ha hx,ay ha hy,h3]
  ·exact hw.b8 hH.b8
 ·have iD:len<=k:=og;have Fg:len<=c:=by
   have:=B9 gL;omega
  have vU:len-1<=maxLen:=by simp only[maxLen];omega
  have vV:(len-1)*ii.bytes<=140737488355328:=Nat.le_trans (Nat.mul_le_mul (show len-1<=100000000000 by omega) ZO) og;have hle:len*sz<=k*sz:=Nat.mul_le_mul_right _ iD;have akj:i*sz<=len*sz:=Nat.mul_le_mul_right _ og;have e1:(len-(i+1))*sz+(i+1)*sz=len*sz:=by rw[<-Nat.add_mul];congr 1;omega
  have e2:i*sz+(len-(i+1))*sz=(len-1)*sz:=by rw[<-Nat.add_mul];congr 1;omega
  have e4:(i+1)*sz=i*sz+sz:=by rw[Nat.add_mul,Nat.one_mul]
  rw[if_neg og]at hy;have yZ:=run_append_grow (P:=P) w t ty e ii z ht hii hz ⟨g,0,none⟩ i i (bV C (i*sz)) (by rw[bQ,po]) (fun j u hj=>by
   have sO:j<i*sz:=by
    have:=(List.getElem?_eq_some_iff.1 hj).1
    rwa[bQ]at this
   exact rr gL (show i<=k by omega) 0 og j u (by
    rw[gj sO]at hj ⊢
    simpa using hj)) ⟨g,(i+1)*sz,none⟩ (len-(i+1)) q (bV (fun j=>C ((i+1)*sz+j)) ((len-(i+1))*sz)) (by rw[bQ,po])
    (rr gL (show len-(i+1)<=k by omega) ((i+1)*sz) og) og (by simp only[maxLen]at vU;omega) (growslice_fits og (by rw[show i+(len-(i+1))=len-1 by omega];exact vV))
  rw[show i+(len-(i+1))=len-1 by omega]at yZ;have hg:=zk (P:=P) (w:=w) (e:=e) (sz:=sz) (i:=ii) (z:=z) (xs:=bV C (i*sz)++bV (fun j=>C ((i+1)*sz+j)) ((len-(i+1))*sz)) (k:=len-1) (GM:=i) po Wm (by rw[List.length_append,bQ,bQ,e2]) vU;have e3:(bV C (i*sz)++bV (fun j=>C ((i+1)*sz+j)) ((len-(i+1))*sz)).toArray=(bV C (i*sz)).toArray++(bV (fun j=>C ((i+1)*sz+j)) ((len-(i+1))*sz)).toArray:=sq;rw[e3]at hg;have AB:=hw.cg hH rfl (fun b' o hb=>.inr (by simp only[aK.fT,Value.ownBlock,Option.some.injEq]at hb;omega)) (wg w _ _) hg;rw[Cm,e2]at AB;have fin:∀ (v9:Value) (w9:World),(Builtin.append_ #[t,t] ty #[.slice (some ⟨g,0,none⟩) i i,.slice (some ⟨g,(i+1)*sz,none⟩) (len-(i+1)) q]).run P w= .ok v9 w9->(execOp a.eval ⟨some d,.call ⟨.builtin .append,#[x,y],#[t,t]⟩,ty,pos,af,none⟩).run P w= .ok (.value v9) w9:=fun v9 w9 h9=>by
   simp[execOp,resolve,invoke,builtin,ay ha hx,ay ha hy,h9]
  refine⟨⟨_,_,len-1,len-1,_,fun j=>if j<i*sz then C j else C ((i+1)*sz+(j-i*sz))⟩,_,⟨.inl ⟨rfl,rfl⟩,rfl,fun j hj=>if_pos hj,fun j h1 h2=> ?_⟩,?_,AB⟩
  ·show(if j<i*sz then _ else _)=_;rw[if_neg og];congr 1;omega
  ·exact fin _ _ yZ
theorem RG.box{t:TypeId}{x:Operand}{v:Value}{m:Nat}{C:Nat->Value}(hx:ev L x=some v)(hm:v.cells.size=m)(hC:∀ i,i<m->cellsOf v.cells i=C i):AG P n L (XM W S H) ⟨some d,.box t x,ty,pos,af,none⟩ (fun _:Nat=>True) (fun b=>aC b 0 0) (fun b=>XM W S (.cells b 0 m C::H)):=fun a w ha hw=>by
 have nL:=hw.alloc v.cells t C fun i hi=>by rw[gV _ _ hi,hC i (hm▸hi)]
 rw[hm]at nL;exact⟨_,_,trivial,by simp[execOp,ay ha hx,Instr.box,newVar,newRow,newObj,Sem.run,aC],nL⟩
def RG.build{t e:TypeId}{parts:Array (Nat×Operand)}{vs:Array (Nat×Value)}{k m:Nat}{A:Array Value}(hp:parts.toList.mapM (fun x=>(ev L x.2).map fun u=>(x.1,u))=some vs.toList)(hb:∀ w,(Instr.buildSlice t k vs).run P w= .ok (.slice (some ⟨w.heap.size,0,none⟩) k k) (w.alloc (.cells A e)))(hA:A.size=m):AG P n L (XM W S H) ⟨some d,.buildSlice t k parts,ty,pos,af,none⟩ (fun _:Nat=>True) (fun b=>.slice (some ⟨b,0,none⟩) k k) (fun b=>XM W S (.cells b 0 m (cellsOf A)::H)):=fun a w ha hw=>by
 have nL:=hw.alloc A e (cellsOf A) fun i hi=>gV _ _ hi;rw[hA]at nL;have hv:parts.map (fun (i,x)=>(i,a.eval x))=vs:=by
  grind [Array.toList_inj,Array.toList_map,ri]
 exact⟨_,_,trivial,by simp only[execOp,hv,Sem.run_bind,hb,Result.andThen_ok,Sem.run_pure],nL⟩
def Xd(P:Program)(f:Field)(o:Nat):Bool:=(match P.underlying f.type with
 | some (.int _)=>Nat.beq f.offset o
 | _=>false)&& !(f.name== "_")
def two(P:Program)(t:TypeId):Bool:=match(P.fieldsOf t).toList with
 | [f,g]=>Xd P f 0&&Xd P g 1
 | _=>false
def Fi{P:Program}{f:Field}{o:Nat}(h:Xd P f o=true):(∃ k,P.underlying f.type=some (.int k))/\f.offset=o/\f.name≠ "_" :=by
 unfold Xd at h;simp only[Bool.and_eq_true,Bool.not_eq_true',beq_eq_false_iff_ne]at h;obtain⟨h1,h2⟩:=h;cases hu:P.underlying f.type with
 | none=>simp[hu]at h1
 | some ds=>
  simp only[hu]at h1;cases ds<;>simp only[]at h1<;>try cases h1
  rename_i k;exact⟨⟨k,rfl⟩,by simpa using h1,h2⟩
theorem aeq{op:BinOp}{t t':TypeId}{a1 a2 b1 b2:Int}{r:Bool}{φ:World->Prop}{gd:Option (Nat×Bool)}(hx:ev L x=some (.agg #[.int .i64 a1,.int .i64 a2]))(hy:ev L y=some (.agg #[.int .i64 b1,.int .i64 b2]))(hP:(P.underlying t=some (.struct (P.fieldsOf t))/\P.stoodInHeld t=false)/\P.eqGuardType P.depth t=false/\two P t=true)(hr:(match op with | .eql=>some (decide (a1=b1/\a2=b2)) | .neq=>some (!decide (a1=b1/\a2=b2)) | _=>none)=some r):bd P n L φ ⟨some d,.binOp op t x y t',ty,pos,af,gd⟩ (.bool r):=fun a w ha _=>by
 obtain⟨⟨h1,h2⟩,h3,h4⟩:=hP;have he:(Op.equal t (.agg #[.int .i64 a1,.int .i64 a2]) (.agg #[.int .i64 b1,.int .i64 b2])).run P w= .ok (decide (a1=b1/\a2=b2)) w:=by
  refine(run_equalIn_struct w 9999 t _ _ h1 h2).trans ?_;unfold two at h4;split at h4
  ·rename_i f g hfg;rw[hfg];simp only[Bool.and_eq_true]at h4;obtain⟨⟨k1,u1⟩,o1,n1⟩:=Fi h4.1;obtain⟨⟨k2,u2⟩,o2,n2⟩:=Fi h4.2;have p1:∀ q1 q2:Int,(part f.type #[Value.int .i64 q1,.int .i64 q2] f.offset).run P w= .ok (.int .i64 q1) w:=fun q1 q2=>by
    rw[o1];simp[part,jK (show jw P f.type=true by unfold jw;rw[u1])]
   have p2:∀ q1 q2:Int,(part g.type #[Value.int .i64 q1,.int .i64 q2] g.offset).run P w= .ok (.int .i64 q2) w:=fun q1 q2=>by
    rw[o2];simp[part,jK (show jw P g.type=true by unfold jw;rw[u2])]
   have e1:(Op.equalIn 9999 f.type (.int .i64 a1) (.int .i64 b1)).run P w= .ok (a1==b1) w:=run_equalIn_int (P:=P) (w:=w) 9998 f.type .i64 k1 a1 b1 u1;have e2:(Op.equalIn 9999 g.type (.int .i64 a2) (.int .i64 b2)).run P w= .ok (a2==b2) w:=run_equalIn_int (P:=P) (w:=w) 9998 g.type .i64 k2 a2 b2 u2;simp only[Op.eqFields,n1,n2,ne_eq,not_false_eq_true,if_true,Sem.run_bind,p1,p2,Result.andThen_ok,e1,e2];by_cases c1:a1=b1
   ·subst c1;by_cases c2:a2=b2;all_goals simp_all
   simp_all
  simp_all
 have b1':binOp .eql t (.agg #[.int .i64 a1,.int .i64 a2]) (.agg #[.int .i64 b1,.int .i64 b2])=(do pure (.bool (<-Op.equal t (.agg #[.int .i64 a1,.int .i64 a2]) (.agg #[.int .i64 b1,.int .i64 b2])))):=rfl;have b2':binOp .neq t (.agg #[.int .i64 a1,.int .i64 a2]) (.agg #[.int .i64 b1,.int .i64 b2])=(do pure (.bool (!(<-Op.equal t (.agg #[.int .i64 a1,.int .i64 a2]) (.agg #[.int .i64 b1,.int .i64 b2]))))):=rfl;have g1:(eqGuard .eql t x y (.agg #[.int .i64 a1,.int .i64 a2]) (.agg #[.int .i64 b1,.int .i64 b2])).run P w= .ok () w:=by simp[eqGuard,run_program,h3]
 have g2:(eqGuard .neq t x y (.agg #[.int .i64 a1,.int .i64 a2]) (.agg #[.int .i64 b1,.int .i64 b2])).run P w= .ok () w:=by simp[eqGuard,run_program,h3]
 cases op<;>simp only[Option.some.injEq]at hr<;>(try cases hr)<;>
  simp only[execOp,ay ha hx,ay ha hy,b1',b2']<;>simp[g1,g2,he]
def Co{t e:TypeId}{p:Option Addr}{len c m:Nat}{φ:World->Prop}{gd:Option (Nat×Bool)}(hx:ev L x=some (.slice p len c))(hy:ev L y=some (.int k z))(ht:P.underlying t=some (.slice e)){sz:Nat}(hs:fk P e=some sz)(hz:z=(m:Int))(hm:m<=c):bd P n L φ ⟨some d,.slice t x none (some y) none,ty,pos,af,gd⟩ (.slice p m c):=fun a w ha _=>by
 subst hz;have Lc:(if c=0 then p else p.map fun x=>x.add (0*sz))=p:=by
  split
  ·rfl
  ·cases p with
   | none=>rfl
   | some a=>simp[Addr.add]
 simp[execOp,ay ha hx,ay ha hy,Instr.sliceAt,run_underlying ht,Instr.slice,Instr.sliceBounds,Instr.sliceBound,asIntOf,hm,run_sizeOf hs];simp_all
def sY{k:Nat}{ps:List Nat}{cs:List (Nat×Nat)}{fn:Func}{R:Ending->World->Prop}{M:World->Prop}{r r' r2:ResultVar}{v v' v2:Value}(hr:fn.results= #[r,r',r2])(h1:oH P (fr k ps cs) L M r v)(h2:oH P (fr k ps cs) L M r' v')(h3:oH P (fr k ps cs) L M r2 v2)(h:∀ w,M w->R (.returned (.tuple #[v,v',v2])) w):XE (fr k ps cs) (bodyPost P fn R) .ret L M:=fun a w ha hw=>by
 refine⟨ha.1,.tuple #[v,v',v2],?_,h w hw⟩;simp_all[wc,oH]
end
end Go.X

namespace Go.X
open Go
section
variable {P:Program} {n:Fr} {Q:Exit->Act->World->Prop} {L:PF} {ops:Array Oper} {bU:List Oper} {op:Op} {ty:TypeId} {pos:String} {af:Array Edge} {d:Nat}
variable {W:World} {S:Nat->Nat->Prop} {H H':List aK} {M:World->Prop} {α:Type}
theorem XQ.g{G:α->Prop}{val:α->Value}{M':α->World->Prop}{B:Ax}{f i:Nat}{l l':Array Bool}(ho:ops[i]? =some ⟨some d,op,ty,pos,af,none⟩)(hk:Region.ready .any ops l=[i])(hl:l.setIfInBounds i true=l')(hr:AG P n L M ⟨some d,op,ty,pos,af,none⟩ G val M')(hd:Nat.blt d n.sz=true)(IW:∀ x w,M' x w->JL B l' w)(h:∀ x,G x->XQ P n ops Q B f l' ((d,val x)::L) (M' x)):XQ P n ops Q B (f+1) l L M:=by
 subst hl;refine XQ.step ho rfl hk fun Fg a w ha hw hJ=> ?_;obtain⟨x,w',hg,h1,h2⟩:=hr a w ha hw;unfold Oper.wp;rw[h1];exact h x hg Fg _ _ (ha.put hd _) h2 (IW x _ h2)
end
section
variable {P:Program} {n:Fr} {L:PF} {ops:Array Oper} {Q:Exit->Act->World->Prop} {ty:TypeId} {pos:String} {af:Array Edge} {d f i:Nat} {B:Ax} {l l':Array Bool}
def XS(P:Program)(n:Fr)(ops:Array Oper)(Q:Exit->Act->World->Prop)(B:Ax)(f:Nat)(l:Array Bool)(i:Nat)(L:PF)(M:World->Prop):Prop:=
 i∈Region.ready .any ops l->np ops l->∀ a w,nR n L a->M w->JL B l w->wpOp P ops (Lo Q) i (GJ P ops Q B f (l.setIfInBounds i true)) a w
theorem XQ.jO{i j:Nat}{M:World->Prop}(hk:Region.ready .any ops l=[i,j])(h1:XS P n ops Q B f l i L M)(h2:XS P n ops Q B f l j L M):XQ P n ops Q B (f+1) l L M:=by
 intro hc a w ha hw hJ;refine⟨hJ,fun h0=>(by rw[hk]at h0;cases h0),fun x hx=> ?_⟩;grind [XS]
def XS.step{o:Oper}{M:World->Prop}(ho:ops[i]? =some o)(hg:o.guard=none)(h:np ops (l.setIfInBounds i true)->∀ a w,nR n L a->M w->JL B l w->o.wp P a w (GJ P ops Q B f (l.setIfInBounds i true)) (Lo Q)):XS P n ops Q B f l i L M:=by
 intro hr hc a w ha hw hJ;unfold wpOp;simp only[ho];rw[if_pos (by simp[Region.wanted,hg])];grind [jJ]
def XS.call{W:World}{S:Nat->Nat->Prop}{H:List aK}{g:FuncId}{xs:List Operand}{vs:List Value}{n9:Array TypeId}{pre F:List aK}{post:Value->List aK->Prop}(ho:ops[i]? =some ⟨some d,.call ⟨.value (.func g),xs.toArray,n9⟩,ty,pos,af,none⟩)(hl:l.setIfInBounds i true=l')(he:Pd L xs=some vs)(hs:Spec P g vs pre post)(hp:cI H pre F)(hc:cV P g=true)(hd:Nat.blt d n.sz=true)(IW:∀ v H1,post v H1->∀ w,XM W S (H1++F) w->JL B l' w)(h:∀ v H1,post v H1->XQ P n ops Q B f l' ((d,v)::L) (XM W S (H1++F))):XS P n ops Q B f l i L (XM W S H):=by
 subst hl;refine XS.step ho rfl fun Fg a w ha hw hJ=> ?_;unfold Oper.wp;rw[xa hc (qh ha xs vs he)];show Calls P g vs.toArray w _;refine(hs w (hw.pick hp).eT).mono ?_;rintro e w' ⟨v,H1,rfl,sS,Lb,hx⟩;have nL:=hw.zc hp hx fun e he=>List.all_eq_true.1 Lb e he;exact h v H1 sS Fg _ _ (ha.put hd v) nL (IW v H1 sS _ nL)
def XS.bN{W:World}{S:Nat->Nat->Prop}{H:List aK}{t:TypeId}{z:Value}{m:Nat}{C:Nat->Value}(ho:ops[i]? =some ⟨some d,.alloc t,ty,pos,af,none⟩)(hl:l.setIfInBounds i true=l')(hz:B5 P t=some z)(hm:z.cells.size=m)(hC:∀ i,i<m->cellsOf z.cells i=C i)(hd:Nat.blt d n.sz=true)(IW:∀ b w,XM W S (.cells b 0 m C::H) w->JL B l' w)(h:∀ b,XQ P n ops Q B f l' ((d,aC b 0 0)::L) (XM W S (.cells b 0 m C::H))):XS P n ops Q B f l i L (XM W S H):=by
 subst hl;refine XS.step ho rfl fun Fg a w ha hw hJ=> ?_;have hx:=hw.alloc z.cells t C fun i hi=>by rw[gV _ _ hi,hC i (hm▸hi)]
 rw[hm]at hx;unfold Oper.wp;have:(execOp a.eval ⟨some d,.alloc t,ty,pos,af,none⟩).run P w= .ok (.value (aC w.heap.size 0 0)) (w.alloc (.cells z.cells t)):=by
  simp[execOp,Instr.alloc,pR hz,newVar,newRow,newObj,Sem.run,aC]
 rw[this];exact h _ Fg _ _ (ha.put hd _) hx (IW _ _ hx)
theorem XS.g{op:Op}{M:World->Prop}{α:Type}{G:α->Prop}{val:α->Value}{M':α->World->Prop}(ho:ops[i]? =some ⟨some d,op,ty,pos,af,none⟩)(hl:l.setIfInBounds i true=l')(hr:AG P n L M ⟨some d,op,ty,pos,af,none⟩ G val M')(hd:Nat.blt d n.sz=true)(IW:∀ x w,M' x w->JL B l' w)(h:∀ x,G x->XQ P n ops Q B f l' ((d,val x)::L) (M' x)):XS P n ops Q B f l i L M:=by
 subst hl;refine XS.step ho rfl fun Fg a w ha hw hJ=> ?_;obtain⟨x,w',hg,h1,h2⟩:=hr a w ha hw;unfold Oper.wp;rw[h1];exact h x hg Fg _ _ (ha.put hd _) h2 (IW x _ h2)
end
end Go.X

namespace Go.X
open Go
variable{H:List aK}{Ck Ff I1 NG SE ZZ pf uE x0 x1 x2 x3 x4 x5 x6 x7 x8 x9:aK}
def cI.h15 :cI (x0::x1::x2::x3::x4::x5::x6::x7::x8::x9::pf::uE::Ck::Ff::I1::H) [x0,x1,x2,x3,x4,x5,x6,x7,x8,x9,pf,uE,Ck,Ff,I1] H:=.cons .aa .h14
def cI.h16 :cI (x0::x1::x2::x3::x4::x5::x6::x7::x8::x9::pf::uE::Ck::Ff::I1::NG::H) [x0,x1,x2,x3,x4,x5,x6,x7,x8,x9,pf,uE,Ck,Ff,I1,NG] H:=.cons .aa .h15
def cI.h17 :cI (x0::x1::x2::x3::x4::x5::x6::x7::x8::x9::pf::uE::Ck::Ff::I1::NG::SE::H) [x0,x1,x2,x3,x4,x5,x6,x7,x8,x9,pf,uE,Ck,Ff,I1,NG,SE] H:=.cons .aa .h16
def cI.h18 :cI (x0::x1::x2::x3::x4::x5::x6::x7::x8::x9::pf::uE::Ck::Ff::I1::NG::SE::ZZ::H) [x0,x1,x2,x3,x4,x5,x6,x7,x8,x9,pf,uE,Ck,Ff,I1,NG,SE,ZZ] H:=.cons .aa .h17
def cI.h19{x18:aK} :cI (x0::x1::x2::x3::x4::x5::x6::x7::x8::x9::pf::uE::Ck::Ff::I1::NG::SE::ZZ::x18::H) [x0,x1,x2,x3,x4,x5,x6,x7,x8,x9,pf,uE,Ck,Ff,I1,NG,SE,ZZ,x18] H:=.cons .aa .h18
def cI.h20{x18 x19:aK} :cI (x0::x1::x2::x3::x4::x5::x6::x7::x8::x9::pf::uE::Ck::Ff::I1::NG::SE::ZZ::x18::x19::H) [x0,x1,x2,x3,x4,x5,x6,x7,x8,x9,pf,uE,Ck,Ff,I1,NG,SE,ZZ,x18,x19] H:=.cons .aa .h19
def sZ{P:Program}[Tb P]{L:SF}{c:Code}{f:FuncId}{fn:Func}{args:List Value}{pre:List aK}{post:Value->List aK->Prop}(k:Nat)(ps:List Nat)(cs:List (Nat×Nat))(hf:P.funcs[f]? =some fn)(hb:fn.body=some c)(hk:fn.ntmps=k)(hn:Nat.ble args.length fn.ntmps=true)[r:ND (oC 0 args) L](h:∀ W,gM P (fr k ps cs) (bodyPostM Fence.wide 3 P fn fun e w'=>∃ v H',e= .returned v/\post v H'/\H'.all aK.wr=true/\XM W (bZ pre) H' w') (XM W (bZ pre) pre) 3000 [] (.c c) L):Spec P f args pre post:=by
 subst hk;refine IK (kp:=ps) (cs:=cs) hf hb hn fun W=> ?_;rw[<-r.h];exact cm _ [] (.c _) _ (h W)
section
variable {P:Program} {n:Fr} {Q:Exit->Act->World->Prop} {L:PF} {M:World->Prop}
def XB.fI{i:Nat}{os:List Oper}{f:Nat}{l:Array Bool}(hm:P.follows .mixedOrders=true)(hf:os.length=f)(hl:Array.replicate f false=l)(hM:∀ w k,M w->M {w with drawn:=w.drawn+k})(h:XQ P n os.toArray Q [] f l L M)(hn:xc os=true:=by rfl):XB P n (.region i os.toArray true) Q L M:=fun a w ha hw=>by
 subst hf;subst hl;refine⟨by simpa using hn,hm,?_⟩;have:=re _ _ _ _ (h (sR _ _) a _ ha (hM w 1 hw) trivial);omega
end
end Go.X

namespace Go.X
open Go
variable{x:Operand}
section
variable {P:Program} {n:Fr} {Q:Exit->Act->World->Prop} {L:PF} {ops:Md} {bU:List Oper} {ty:TypeId} {pos:String} {af:Array Edge} {d:Nat}
variable {W:World} {S:Nat->Nat->Prop} {H:List aK}
def XO.SG{f:FuncId}{cs:List Value}{xs:List Operand}{vs:List Value}{n9:Array TypeId}{pre F:List aK}{post:Value->List aK->Prop}(hx:ev L x=some (.func (.func f) #[] cs.toArray))(he:Pd L xs=some vs)(hs:Spec P f (vs++cs) pre post)(hp:cI H pre F)(hc:cV P f=true)(hd:(Nat.blt d n.sz&&cx (.call ⟨.value x,xs.toArray,n9⟩))=true)(h:∀ v H1,post v H1->XO P n ops Q bU ((d,v)::L) (XM W S (H1++F))):XO P n ops Q (⟨some d,.call ⟨.value x,xs.toArray,n9⟩,ty,pos,af,none⟩::bU) L (XM W S H):=by
 simp only[Bool.and_eq_true]at hd;refine XO.op (by simp[hd.2]) fun a w ha hw=> ?_;unfold Oper.wp;have hr:(execOp a.eval ⟨some d,.call ⟨.value x,xs.toArray,n9⟩,ty,pos,af,none⟩).run P w= .ok (.enter f (vs++cs).toArray) w:=by
  unfold cV at hc;cases hf:P.funcs[f]? with
  | none=>simp[hf]at hc
  | some fn=>
   simp only[hf,Bool.and_eq_true]at hc;obtain⟨h1,h2⟩:=hc;have h3:¬fn.name= "runtime.NumGoroutine" :=by simpa using h1
   have h4:¬fn.body=none:=by cases hb:fn.body<;>simp_all
   have h5:=qh ha xs vs he;simp[execOp,resolve,ay ha hx,Deferred.ofValue,invoke,callFunc,run_program,hf,h3,h4,h5]
 rw[hr];show Calls P f (vs++cs).toArray w _;refine(hs w (hw.pick hp).eT).mono ?_;rintro e w' ⟨v,H1,rfl,sS,Lb,hx⟩;exact h v H1 sS _ _ (ha.put hd.1 v) (hw.zc hp hx fun e he=>List.all_eq_true.1 Lb e he)
def I2{f:FuncId}{u:Value}{φ:World->Prop}{gd:Option (Nat×Bool)}(hx:ev L x=some u):bd P n L φ (⟨some d,.makeFunc (.func f) #[] #[x],ty,pos,af,gd⟩) (.func (.func f) #[] #[u]):=fun a w ha hw=>by
 simp[execOp,ay ha hx,Instr.makeFunc]
def I3{t e:TypeId}{y:Operand}{A B:Array Value}{m sz:Nat}{k:IntKind}{z:Int}{φ:World->Prop}{gd:Option (Nat×Bool)}(hx:ev L x=some (.agg A))(hy:ev L y=some (.int k z))(ht:P.underlying t=some (.array m e))(hs:fk P e=some sz)(he:nq P e=true)(hz:0<=z/\z<m)(hv:A.extract (z.toNat*sz) (z.toNat*sz+sz)=B):bd P n L φ ⟨some d,.index t x y,ty,pos,af,gd⟩ (.agg B):=fun a w ha _=>by
 have hp:(part e A (z.toNat*sz)).run P w= .ok (.agg B) w:=by
  simp[part,vw he,run_sizeOf hs,hv]
 simp only[execOp,ay ha hx,ay ha hy,Instr.index,asIntOf,Sem.run_bind,Sem.run_pure,Result.andThen_ok,run_underlying ht,hz,run_sizeOf hs];simp only[Sem.run_bind,run_sizeOf hs,Result.andThen_ok,hp,true_and,and_self,if_true]
end
end Go.X

namespace Go.X
open Go Go.Proofs Go.Shelf Go.Sort
variable{v:Value}
def Xe(P:Program)(Le:Nat){α:Type}(enc:α->List Value)(cf:α->α->Int):Prop:=
 ∀ x y w,Calls P Le #[.agg (enc x).toArray,.agg (enc y).toArray] w fun e w'=>e= .returned (.int .i64 (cf x y))/\∃ os',w'=grow w os'
def SH{P:Program}{Le:Nat}{α:Type}{enc:α->List Value}{k:Nat}{cf:α->α->Int}[Inhabited α](h:Xe P Le enc cf)(blk off size:Nat)(w:World):CmpLays P Le #[] enc k cf blk off size w:=
 fun m os dk _ x y=>(h x y _).mono fun e w' ⟨he,os',hw⟩=>⟨he,0,os',hw⟩
section
variable {P:Program} {n:Fr} {Q:Exit->Act->World->Prop} {L:PF} {ops:Md} {bU:List Oper} {ty:TypeId} {pos:String} {af:Array Edge} {d:Nat}
def XO.aev{t:TypeId}{x:Operand}{w1:World}(hx:ev L x=some v)(hd:Nat.blt d n.sz=true)(h:XO P n ops Q bU ((d,aC w1.heap.size 0 0)::L) fun w=>w=w1.alloc (.cells v.cells t)):XO P n ops Q (⟨some d,.box t x,ty,pos,af,none⟩::bU) L (fun w=>w=w1):=
 XO.op rfl fun a w ha hw=>by
  subst hw;unfold Oper.wp;have:(execOp a.eval ⟨some d,.box t x,ty,pos,af,none⟩).run P w= .ok (.value (aC w.heap.size 0 0)) (w.alloc (.cells v.cells t)):=by
   simp[execOp,ay ha hx,Instr.box,newVar,newRow,newObj,Sem.run,aC]
  rw[this];exact h _ _ (ha.put hd _) rfl
def Xf{w:World}{A B:Array Value}{t t':TypeId}{i:Nat}(h:A[i]? =some v):((w.alloc (.cells A t)).alloc (.cells B t')).cell? ⟨w.heap.size,i,none⟩=some v:=by
 simp_all
def SI{w:World}{A B:Array Value}{t t':TypeId}{i:Nat}(h:B[i]? =some v):((w.alloc (.cells A t)).alloc (.cells B t')).cell? ⟨(w.alloc (.cells A t)).heap.size,i,none⟩=some v:=by
 simp_all
def NH{t:TypeId}{x:Operand}{b i:Nat}{φ:World->Prop}(hx:ev L x=some (aC b 0 i))(hc:∀ w,φ w->w.cell? ⟨b,i,none⟩=some v)(ht:jw P t=true):bd P n L φ (⟨some d,.load t x,ty,pos,af,none⟩) v:=fun a w ha hw=>by
 have hc':=hc w hw;have hr:=gi ht hc';simp[execOp,ay ha hx,Instr.loadAt,Instr.sureAddr,aC,hr]
def SJ(w:World)(A B:Obj):(w.alloc A).alloc B=grow w #[A,B]:=by
 rfl
end
def G1{w:World}{g cap n k:Nat}{e:TypeId}{F:Array Value}(h:(aK.row (.slice (some ⟨g,0,none⟩) n cap) e k n F.toList).holds w):Holds id w g 0 F:=by
 intro j hj;have hc:=cell_of_row h (j:=j) (v:=F[j]!) (by simp[hj]);obtain⟨cur,hb,_⟩:=od h;refine⟨?_,?_⟩
 ·simp_all
 ·simp[World.frozen?,hb]
theorem SK(cur F:Array Value)(h:F.size<=cur.size):(putCells id 0 F cur).toList.take F.size=F.toList:=by
 apply List.ext_getElem?;intro j;by_cases hj:j<F.size
 ·rw[List.getElem?_take_of_lt hj,Array.getElem?_toList,Array.getElem?_toList];simp[putCells,hj,show j<cur.size by omega]
 grind
def LD{w:World}{g cap n k m:Nat}{e:TypeId}{F F':Array Value}{os:Array Obj}(h:(aK.row (.slice (some ⟨g,0,none⟩) n cap) e k n F.toList).holds w)(hF:F'.size=F.size):XM w (bZ [.row (.slice (some ⟨g,0,none⟩) n cap) e k n F.toList]) [.row (.slice (some ⟨g,0,none⟩) n cap) e k n F'.toList] (grow (putRow id (Sort.ahead w m) g 0 F') os):=by
 obtain⟨cur,hb,h1,h2,h3,h4⟩:=od h;have hg:g<w.heap.size:=eh hb;have hFs:F.size=n*k:=by simpa using h.1
 have hnk:n*k<=cur.size:=by rw[h3];exact Nat.mul_le_mul_right _ h1
 have G2:(grow (putRow id (Sort.ahead w m) g 0 F') os).heap[g]? =some (.cells (putCells id 0 F' cur) e (0,0)):=by
  rw[heap_grow_old _ _ (by simpa using hg)];simp[putRow,mapBlock,Sort.ahead,Array.getElem?_modify,hb,onCells]
 have dP:∀ b,b<w.heap.size->¬b=g->(grow (putRow id (Sort.ahead w m) g 0 F') os).heap[b]? =w.heap[b]? :=fun b Cc gK=>by
  rw[heap_grow_old _ _ (by simpa using Cc)];have:¬g=b:=fun q=>gK q.symm;simp[putRow,mapBlock,Sort.ahead,Array.getElem?_modify,this]
 have hS:∀ o,bZ [.row (.slice (some ⟨g,0,none⟩) n cap) e k n F.toList] g o:=fun o=>⟨_,List.mem_singleton.2 rfl,rfl,rfl⟩;refine⟨⟨fun x hx=> ?_,sq⟩,⟨rfl,rfl,rfl,by simp[putRow,mapBlock,Sort.ahead],fun b Cc hn=>dP b Cc fun q=>hn 0 (by rw[q];exact hS 0),fun b A t fz hA=> ?_⟩,fun x hx _ b o ha=>.inr ?_⟩
 ·simp only[List.mem_singleton]at hx;subst hx;refine⟨by simp[hF,hFs],.inr ⟨g,cap,_,rfl,Nat.zero_le _,G2,h1,h2,by simp[putCells,h3],?_⟩⟩;grind [SK]
 ·by_cases hbg:b=g
  ·subst hbg;rw[hb]at hA;simp only[Option.some.injEq,Obj.cells.injEq]at hA;obtain⟨rfl,rfl,rfl⟩:=hA;exact⟨_,G2,by simp[putCells],fun o hn=>absurd (hS o) hn⟩
  grind
 ·simp only[List.mem_singleton]at hx;subst hx;exact⟨_,List.mem_singleton.2 rfl,rfl,ha⟩
def SL{P:Program}{ρ:Ren}{α:Type}[Inhabited α](L:SlLaysF0.n6 P ρ)(k:Nat)(aE:∀ w,(isAgg (ρ.t 24)).run P w= .ok true w)(zE:∀ w,(Go.sizeOf (ρ.t 24)).run P w= .ok k w)(enc:α->List Value)(hk:∀ x,(enc x).length=k)(h1:∀ x,∀ v∈enc x,v.oneCell'=true)(cf:α->α->Int)(hO:SWO (ltOf cf))(Le:Nat)(eg:∀ args w,(callFunc Le args).run P w= .ok (.enter Le args) w)(hc:Xe P Le enc cf)(p:Option Addr)(n cap:Nat)(e:TypeId)(d:Array α)(hn:d.size=n)(sO:n<=100000000000):Spec P (ρ.f 6) [.slice p n cap,.func (.func Le) #[] #[]] [.row (.slice p n cap) e k n (flatK enc k d).toList] (fun v H1=>v= .tuple #[]/\∃ d',PermIn 0 n d d'/\SortedIn (ltOf cf) 0 n d'/\H1=[.row (.slice p n cap) e k n (flatK enc k d').toList]):=by
 intro w hw;have gL:=hw.1 _ (List.mem_singleton.2 rfl);rcases gL.2 with⟨hv,SM⟩ | ⟨g,cL,cur,hv,_,hb,_⟩
 ·simp only[Value.slice.injEq]at hv;obtain⟨rfl,_,rfl⟩:=hv;subst SM;refine(AnyF.slices_SortFunc_none L none 0 _ w).mono fun ee w' ⟨he,dG⟩=>⟨_,_,he,⟨rfl,d,⟨rfl,fun _ _=>rfl,.refl _⟩,fun i j _ RO hj=>og,rfl⟩,rfl,?_⟩;grind [kH]
 ·simp only[Value.slice.injEq,true_and]at hv;obtain⟨rfl,rfl⟩:=hv;subst hn;refine(AnyQ.slices_SortFunc L k aE zE enc hk h1 cf hO Le #[] g 0 cap d w eg (SH hc g 0 d.size w) (G1 gL) (eh hb) og).mono fun ee w' ⟨he,d',nn,os,hp,hs,dG⟩=>
   ⟨_,_,he,⟨rfl,d',hp,hs,rfl⟩,rfl,?_⟩
  subst dG;exact LD gL (by simp[hp.1])
end Go.X

namespace Go.X
open Go
section
variable {P:Program} {n:Fr} {L:PF} {ty:TypeId} {pos:String} {af:Array Edge} {d:Nat} {gd:Option (Nat×Bool)} {φ:World->Prop}
def sF(k:Nat){t T:TypeId}{w:World}{v:Value}{ms:Array (String×TypeId)}(ht:P.underlying t=some (.interface ms)):(Op.equalIn (k+1) t .nilIface (.iface T v)).run P w= .ok false w:=by
 simp only[Op.equalIn,Sem.run_bind,run_underlying ht,Result.andThen_ok,Sem.run_pure]
def Bh(k:Nat){t T:TypeId}{w:World}{a b:Int}{ms:Array (String×TypeId)}(ht:P.underlying t=some (.interface ms)){i:TypeInfo}(hT:P.info? T=some i)(hc:i.comparable=true){ik:IntKind}(hu:P.underlying T=some (.int ik)):(Op.equalIn (k+2) t (.iface T (.int .i64 a)) (.iface T (.int .i64 b))).run P w= .ok (a==b) w:=by
 simp only[Op.equalIn,Sem.run_bind,run_underlying ht,Result.andThen_ok,Sem.run_pure];simp[Sem.run_bind,run_typeInfo hT,run_underlying hu,hc,Sem.run_pure]
def NI{op:BinOp}{t t' T:TypeId}{x y:Operand}{e m:Int}{ms:Array (String×TypeId)}{r:Bool}(hx:ev L x=some (az T e))(hy:ev L y=some (.iface T (.int .i64 m)))(hm:m≠0)(ht:P.underlying t=some (.interface ms)){i:TypeInfo}(hT:P.info? T=some i)(hc:i.comparable=true){ik:IntKind}(hu:P.underlying T=some (.int ik))(hr:(match op with | .eql=>some (decide (e=m)) | .neq=>some (decide (e≠m)) | _=>none)=some r):bd P n L φ ⟨some d,.binOp op t x y t',ty,pos,af,gd⟩ (.bool r):=fun a w ha _=>by
 by_cases h:e=0
 ·subst h;have hx:ev L x=some .nilIface:=hx;have he:(Op.equal t .nilIface (.iface T (.int .i64 m))).run P w= .ok false w:=sF 9999 ht;have hd:decide ((0:Int)=m)=false:=decide_eq_false fun q=>hm q.symm;cases op<;>simp only[Option.some.injEq]at hr<;>(try cases hr)<;>simp[execOp,eqGuard,ay ha hx,ay ha hy,binOp,he];all_goals omega
 ·rw[aQ T h]at hx;have he:(Op.equal t (.iface T (.int .i64 e)) (.iface T (.int .i64 m))).run P w= .ok (e==m) w:=Bh 9998 ht hT hc hu;have hq:(e==m)=decide (e=m):=by rw[Bool.eq_iff_iff];simp
  cases op<;>simp only[Option.some.injEq]at hr<;>(try cases hr)<;>simp[execOp,eqGuard,ay ha hx,ay ha hy,binOp,he,hq]
end
theorem XQ.mono{P:Program}{n:Fr}{ops:Array Oper}{Q:Exit->Act->World->Prop}{B:Ax}{f:Nat}{l:Array Bool}{L:PF}{M M':World->Prop}(hm:∀ w,M w->M' w)(h:XQ P n ops Q B f l L M'):XQ P n ops Q B f l L M:=fun hc a w ha hw hJ=>h hc a w ha (hm w hw) hJ
end Go.X

namespace Go.X
open Go Go.X
structure jP where
 aU:ByteArray
 a:Int
 b:Int
 c:Int
 iJ:Int
 on:Bool
 s:ByteArray
 t:ByteArray
def fM(x:jP)(i:Nat):Value:=
 if i=0 then .string (x.aU)else
 if i=1 then iI (x.a)else
 if i=2 then iI (x.b)else
 if i=3 then iI (x.c)else
 if i=4 then .int .u64 (x.iJ)else
 if i=5 then .bool (x.on)else
 if i=6 then .string (x.s)else
 if i=7 then .string (x.t)else
 undef
def s5(x:jP):(0+0)<8/\fM x (0+0)= .string (x.aU):=by
 grind [fM]
def bB(x:jP):(0+1)<8/\fM x (0+1)=iI (x.a):=by
 grind [fM]
def cQ(x:jP):(0+2)<8/\fM x (0+2)=iI (x.b):=by
 grind [fM]
def fZ(x:jP):(0+3)<8/\fM x (0+3)=iI (x.c):=by
 grind [fM]
def iZ(x:jP):(0+5)<8/\fM x (0+5)= .bool (x.on):=by
 grind [fM]
def fF(x:jP):(0+6)<8/\fM x (0+6)= .string (x.s):=by
 grind [fM]
def py(x:jP):(0+7)<8/\fM x (0+7)= .string (x.t):=by
 grind [fM]
structure jP.ok (x:jP):Prop where
 a: -9223372036854775808<=x.a/\x.a<=9223372036854775807
 b: -9223372036854775808<=x.b/\x.b<=9223372036854775807
 c: -9223372036854775808<=x.c/\x.c<=9223372036854775807
 iJ:0<=x.iJ/\x.iJ<=18446744073709551615
 s:x.s.size<=9223372036854775807
 t:x.t.size<=9223372036854775807
 aU:x.aU.size<=9223372036854775807
def fD(A:Int->jP)(i:Nat):Value:=fM (A ((i/8:Nat):Int)) (i%8)
def PC(A:Int->jP)(len:Nat)(z:Int)(q:0<=z/\z<len):0+z.toNat*8+8<=8*len/\dc (fD A) (0+z.toNat*8) 8= .agg #[.string (A z).aU,iI (A z).a,iI (A z).b,iI (A z).c,.int .u64 (A z).iJ,.bool (A z).on,.string (A z).s,.string (A z).t]:=by
 refine⟨og,?_⟩;have h:∀ j,j<8->fD A (0+z.toNat*8+j)=fM (A z) j:=fun j hj=>by
  grind [fD]
 simp only[dc,List.range,List.range.loop,List.map_cons,List.map_nil];rw[h 0 og,h 1 og,h 2 og,h 3 og,h 4 og,h 5 og,h 6 og,h 7 og];rfl
def NJ(A:Int->jP)(z:Int)(q:0<=z)(j:Nat)(hj:j<8:=by omega):fD A (0+z.toNat*8+j)=fM (A z) j:=by
 unfold fD;grind
def PD(A:Int->jP)(len:Nat)(z:Int)(q:0<=z/\z<len):0+z.toNat*8+6<8*len/\fD A (0+z.toNat*8+6)= .string (A z).s:=
 ⟨og,(NJ A z q.1 6).trans (fF (A z)).2⟩
def PE(A:Int->jP)(len:Nat)(z:Int)(q:0<=z/\z<len):0+z.toNat*8+7<8*len/\fD A (0+z.toNat*8+7)= .string (A z).t:=
 ⟨og,(NJ A z q.1 7).trans (py (A z)).2⟩
end Go.X

namespace Go.X
open Go Go.ChangeShapes Go.WideShapes Go.Deep Go.RowKit Go.ChangeAt
variable{a:Addr}
section
variable {H:Type} {enc:TypeId×Value->H} {P:Program} {w:World} {base:Nat} {spare:Nat->Bool} {bj:Bool}
def xr{t e:TypeId}{fs:Array Field}{fuel:Nat}{cs:List Value}{x:DataW H×List MemPlace}(ht:P.underlying t=some (.slice e))(he:P.underlying e=some (.struct fs))(ag4:oneCellFields P fs=true)(hC:P.cellsOf e=fs.size)(h:DataW.trod enc P w base spare bj fuel t cs=some x):(cs=[.slice none 0 0]/\x=(.nil,[]))\/∃ (a:Addr) (len cap m:Nat) (D:Nat->DataW H) (Pl:Nat->List MemPlace),cs=[.slice (some a) len cap]/\base<=a.block/\len<=cap/\cap<=maxLen/\m=(if spare a.block then cap else len)/\x=(.slice ((List.range len).map D) ((List.range (m-len)).map fun j=>D (len+j)),MemPlace.row a (m*fs.size)++(List.range m).flatMap Pl)/\∀ i,i<m->∃ (ys:List (DataW H×List MemPlace)) (n:Nat),D i= .agg (ys.map (·.1))/\Pl i=ys.flatMap (·.2)/\ys.length=fs.size/\∀ (j:Nat) (f:Field),fs[j]? =some f->∃ (v:Value) (y:DataW H×List MemPlace),w.cell? (a.add (i*fs.size+j))=some v/\ys[j]? =some y/\DataW.trod enc P w base spare bj n f.type [v]=some y:=by
 rcases open_slice ht h with h0 | ⟨a,len,cap,m,n,D,Pl,Bw,hb,hl,hm,hmm,hx,hi⟩
 ·exact .inl h0
 ·refine .inr ⟨a,len,cap,m,D,Pl,Bw,hb,hl,hm,hmm,by rw[hC]at hx;exact hx,fun i him=> ?_⟩;obtain⟨cs',hc,ht'⟩:=hi i him;rw[hC]at hc;obtain⟨ys,n',hn',hy,hlen,hyl,hf⟩:=DataW.trod_struct he ht';obtain⟨_,Fg,Wq⟩:=World.cells?_some hc;simp only[Prod.mk.injEq]at hy;refine⟨ys,n',hy.1,hy.2,hyl,fun j f hj=> ?_⟩;obtain⟨ho,hk⟩:=hone_of ag4 j f hj;have hjl:j<fs.size:=(Array.getElem?_eq_some_iff.1 hj).1;have aew:=Wq j hjl;have hv:cs'[j]? =some (cs'[j]'og):=List.getElem?_eq_getElem og;have h1:=hf j f hj;rw[ho,hk]at h1;have aex:(cs'.drop j).take 1=[cs'[j]'og]:=by
   rw[List.drop_eq_getElem_cons og];rfl
  rw[aex]at h1;have hys:ys[j]? =some (ys[j]'og):=List.getElem?_eq_getElem og;refine⟨_,_,?_,hys,h1.trans hys⟩;rw[<-Go.Deep.add_add,aew,hv]
end
section
variable {H:Type} {enc:TypeId×Value->H} {P:Program}
def Eu{f:Func}{s:ChangeSpec}{apart fresh handsOn again:Bool}{W W':World}{args:Array Value}{v:Value}{ds gs:List (DataW H)}{before pa pv:List MemPlace}(hW:DataW.Whole enc P f.params.toList s.vars apart W args.toList ds gs before)(aey:∀ (b:Nat) (sp:Nat->Bool) (hd:Bool),DataW.TrodAll enc P W' b sp hd f.resultTypes.toList (v.resultList f.resultTypes.size) (s.fn H (ds++gs)).results [])(Z0:∀ sp:Nat->Bool,(∀ p∈before,sp p.block=true)->DataW.TrodAll enc P W' 0 sp true f.params.toList args.toList (s.fn H (ds++gs)).args pa)(Z1:∀ sp:Nat->Bool,(∀ p∈before,sp p.block=true)->DataW.TrodVars enc P W' sp s.vars (s.fn H (ds++gs)).vars pv)(hps:before=pa++pv)(hb:Below W.heap.size W W')(xt:∀ (j:Nat) (t:TypeId) (r:Value),f.resultTypes[j]? =some t->(v.resultList f.resultTypes.size)[j]? =some r->Value.okWide P W' .any 0 t r):s.post enc P f apart fresh handsOn again W args v W':=by
 have sO:∀ p∈before,p.block<W.heap.size:=fun p hp=>hW.lt p hp;have dP:∀ p∈before,(fun b=>decide (b<W.heap.size)) p.block=true:=fun p hp=>by simpa using sO p hp
 refine⟨ds,gs,before,[],pa,pv,hW,aey _ _ _,Z0 _ dP,Z1 _ dP,World.keptBut_mono (fun p hp=>⟨hp,?_⟩) (hb.frame (· ∈before)),fun _=> ?_⟩
 ·rw[hps,List.mem_append]at hp;exact Or.inr hp
 ·obtain⟨_,_,_,_,_,hz,hn⟩:=hW;refine⟨xt,_,_,([]++pa)++pv,⟨[]++pa,pv,trodAll_append (Z0 _ fun _ _=>rfl) (aey _ _ _),Z1 _ fun _ _=>rfl,rfl,?_,?_⟩,?_⟩
  ·intro b off hp;have vy:MemPlace.cell b off∈before:=by rw[hps];simpa using hp
   rw[hb.frozen (sO _ vy)];exact hz b off vy
  ·intro ha;have:=hn ha;rw[hps]at this;simpa using this
  ·intro p hp _;rw[hps];simpa using hp
end
def pS{P:Program}{f:FuncId}{args:List Value}{pre:List aK}(hs:Spec P f args pre fun v H1=>v= .bool true/\H1=[])(Pb:∀ e∈pre,e.wr=false){w:World}(hg:Good pre w):Calls P f args.toArray w fun e w'=>e= .returned (.bool true)/\Below w.heap.size w w':=by
 refine(hs w hg).mono ?_;rintro e w' ⟨v,H1,rfl,⟨rfl,rfl⟩,_,hx⟩;have hn:∀ b o,¬bZ pre b o:=fun b o ⟨e,he,Wl,_⟩=>by rw[Pb e he]at Wl;cases Wl
 exact⟨rfl,hx.eK.os,hx.eK.tape,hx.eK.output,hx.eK.size,fun k hk=>hx.eK.same k hk fun o=>hn k o⟩
def LF{n:Int}(h:(Lit.int .i64 n).wf=true): -9223372036854775808<=n/\n<=9223372036854775807:=by
 simpa [Lit.wf,IntKind.min,IntKind.max,IntKind.signed,IntKind.bits]using h
def aa5{n:Int}(h:(Lit.int .u64 n).wf=true):0<=n/\n<=18446744073709551615:=by
 simpa [Lit.wf,IntKind.min,IntKind.max,IntKind.signed,IntKind.bits]using h
def Xg{w:World}{v:Value}(h:w.cell? (a.add 0)=some v):a.spot=none:=by
 have h:w.cell? a=some v:=h;cases hsp:a.spot with
 | none=>rfl
 | some s=>
  unfold World.cell? at h;cases hb:w.heap[a.block]? with
  | none=>simp[hb]at h
  | some o=>cases o<;>simp[hb,hsp]at h
def s8{w:World}{n:Nat}{C:Nat->Value}(hn:0<n)(h:∀ i,i<n->w.cell? (a.add i)=some (C i)):(aK.ro a.block a.off n C).holds w:=by
 have h0:=h 0 hn;have h0':w.cell? a=some (C 0):=h0;have iJ:∀ i,i<n->w.cell? ⟨a.block,a.off+i,none⟩=some (C i):=fun i hi=>by
  cases i with
  | zero=>
   have hs:a.spot=none:=by
    cases hsp:a.spot with
    | none=>rfl
    | some s=>
     unfold World.cell? at h0';cases hb:w.heap[a.block]? with
     | none=>simp[hb]at h0'
     | some o=>cases o<;>simp[hb,hsp]at h0'
   have:a=⟨a.block,a.off,none⟩:=by cases a;simp_all
   rw[this]at h0';simpa using h0'
  | succ i=>simpa [Addr.add]using h (i+1) hi
 have k0:=iJ 0 hn;unfold World.cell? at k0;cases hb:w.heap[a.block]? with
 | none=>simp[hb]at k0
 | some o=>
  cases o with
  | cells A t fz=>
   refine⟨A,t,fz,hb,fun i hi=> ?_⟩;have:=iJ i hi;simpa [World.cell?,hb]using this
  | _=>simp[hb]at k0
def Xh{w:World}{len:Nat}(hlen:0<len)(h:∀ i,i<len->∃ x:jP,x.ok/\∀ j,j<8->w.cell? (a.add (i*8+j))=some (fM x j)):∃ A:Int->jP,(∀ z:Int,0<=z->z<len->(A z).ok)/\Good [.ro a.block a.off (8*len) (fD A)] w:=by
 classical
 let A:Int->jP:=fun z=>if hz:z.toNat<len then Classical.choose (h z.toNat hz)else⟨⟨#[]⟩,0,0,0,0,false,⟨#[]⟩,⟨#[]⟩⟩
 have hA:∀ i:Nat,(hi:i<len)->A (i:Int)=Classical.choose (h i hi):=fun i hi=>by simp[A,hi]
 refine⟨A,fun z h0 h1=> ?_,fun e he=> ?_,sq⟩
 ·have hz:z.toNat<len:=og;have:A z=A (z.toNat:Int):=by rw[show((z.toNat:Nat):Int)=z from og]
  rw[this,hA _ hz];exact(Classical.choose_spec (h z.toNat hz)).1
 ·have:e= .ro a.block a.off (8*len) (fD A):=by simpa using he
  subst this;refine s8 og fun i hi=> ?_;have hd:i/8<len:=og;have h1:=(Classical.choose_spec (h (i/8) hd)).2 (i%8) og;rw[show i/8*8+i%8=i from og]at h1;rw[h1];unfold fD;rw[hA _ hd]
end Go.X
