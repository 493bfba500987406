import Derived.Test.YthdinakloheinaaGreatDoorXBytes
import Derived.Shelf.SlSortCmp.WholeK
import Derived.Shelf.SlSortCmp.NoneTotal
import Derived.ProofKit
import Derived.OpenShut
import Derived.Below
import Derived.ChangeSame
import Derived.Deep.Slices
import Derived.Deep.Fields
import Derived.Test.YthdinakloheinaaGreatDoorCards
import Derived.Test.YthdinakloheinaaGreatDoorTie
import Derived.Deep.DeepHandedRow
import Derived.Lib.LaidTab
set_option linter.all false
namespace Go.X
open Go
variable{z:Int}{k:IntKind}{x y:Operand}
section
variable{P:Program}{n:Fr}{Q:Exit->Act->World->Prop}{L:PF}{ops:Md}{rest:List Oper}{op:Op}{ty:TypeId}{pos:String}{af:Array Edge}{d:Nat}
variable{W:World}{S:Nat->Nat->Prop}{H H':List aG}{M:World->Prop}{α:Type}
def Eb(P:Program)(n:Fr)(L:PF)(M:World->Prop)(o:Oper)(G:α->Prop)(val:α->Value)(M':α->World->Prop):Prop:=
 ∀ a w,ra n L a->M w->∃ x w',G x/\(execOp a.eval o).run P w= .ok (.value (val x)) w'/\M' x w'
theorem XO.g{G:α->Prop}{val:α->Value}{M':α->World->Prop}(hr:Eb P n L M ⟨some d,op,ty,pos,af,none⟩ G val M')(hd:(Nat.blt d n.sz&&cQ op)=true)(h:∀ x,G x->XO P n ops Q rest ((d,val x)::L) (M' x)):XO P n ops Q (⟨some d,op,ty,pos,af,none⟩::rest) L M:=
 XO.op (by simp only[Bool.and_eq_true]at hd;simp[hd.2]) fun a w ha hw=>by
  simp only[Bool.and_eq_true]at hd;obtain⟨x,w',hg,h1,h2⟩:=hr a w ha hw;unfold Oper.wp;rw[h1];exact h x hg _ _ (ha.put hd.1 _) h2
theorem Ec(C C1:Nat->Value)(a b:Nat):cE C a++cE C1 b=cE (fun i=>if i<a then C i else C1 (i-a)) (a+b):=by
 apply List.ext_getElem?;intro j;by_cases hj:j<a
 ·rw[List.getElem?_append_left (by rw[aS];exact hj),eW hj,eW,if_pos hj]
 ·by_cases K3:j<a+b
  ·rw[List.getElem?_append_right (by rw[aS];omega),aS,eW,eW K3,if_neg hj]
  ·rw[List.getElem?_eq_none (by simp[aS];omega),List.getElem?_eq_none (by simp[aS];omega)]
def Ed{w:World}{b N:Nat}{C:Nat->Value}(hc:(aG.cells b 0 N C).holds w):∀ j u,(cE C N)[j]? =some u->w.cell? ((⟨b,0,none⟩:Addr).add j)=some u:=fun j u hj=>by
 have sW:j<N:=by
  have:=(List.getElem?_eq_some_iff.1 hj).1;rwa[aS]at this
 rw[eW sW]at hj;simp only[Option.some.injEq]at hj;have hcc:=eS hc sW;have e0:(⟨b,0,none⟩:Addr).add j=⟨b,0+j,none⟩:=by cases j<;>simp[Addr.add]
 rw[e0,<-hj];exact hcc
structure RV where
 p:Option Addr
 cap:Nat
 k:Nat
 len:Nat
 c:Nat
 C:Nat->Value
abbrev RV.D3(v:RV)(e:TypeId)(sz:Nat):aG:=aN v.p v.cap e sz v.k v.C
abbrev RV.val(v:RV):Value:=.slice v.p v.len v.c
def RV.ok(v:RV):Prop:=(v.len=v.k/\v.c=v.cap)\/(v.c=v.len/\v.len<=v.k)
def pZ{v:RV}(h:v.ok):v.len<=v.k:=by rcases h with h | h<;>omega
def Bh{P:Program}{w:World}{e:TypeId}{sz:Nat}{i:TypeInfo}{z:Value}{xs:List Value}{k IY:Nat}(qH:i.size=sz)(ZS:z.cells.size=sz)(hl:xs.length=k*sz)(uK:k<=maxLen):(aG.row (.slice (some ⟨w.heap.size,0,none⟩) k (grownCap w k IY e)) e sz k xs).holds (w.drew.alloc (.cells (xs.toArray++Builtin.zeroCells z.cells (grownCap w k IY e-k)) e)):=by
 have NW:=grownCap_ge w k IY e;have Sv:grownCap w k IY e<=maxLen:=grownCap_le_maxLen w k IY e uK;refine⟨hl,.inr ⟨w.heap.size,_,_,rfl,Nat.zero_le _,heap_alloc_new w.drew _,NW,Sv,?_,?_⟩⟩
 ·simp only[Array.size_append,List.size_toArray,size_zeroCells,ZS,hl,<-Nat.add_mul];congr 1;omega
 ·simp only[Array.toList_append];rw[<-hl];exact List.take_left
def ti{w:World}{g cap sz k m:Nat}{e:TypeId}{C:Nat->Value}(h:(aN (some ⟨g,0,none⟩) cap e sz k C).holds w)(hm:m<=k)(o:Nat)(ho:o+m*sz<=k*sz):∀ j u,(cE (fun i=>C (o+i)) (m*sz))[j]? =some u->w.cell? ((⟨g,o,none⟩:Addr).add j)=some u:=fun j u hj=>by
 have sW:j<m*sz:=by
  have:=(List.getElem?_eq_some_iff.1 hj).1;rwa[aS]at this
 rw[eW sW]at hj;simp only[Option.some.injEq]at hj;have e0:(⟨g,o,none⟩:Addr).add j=⟨g,o+j,none⟩:=by cases j<;>simp[Addr.add]
 rw[e0,<-hj];exact Bb h
def yz(w:World)(o:Obj)(S:Nat->Nat->Prop):ix w (w.drew.alloc o) S:=wA (kO w.drew o S)
def RG.append{t e:TypeId}{x y:Operand}{v:RV}{m c2 b N sz:Nat}{C1:Nat->Value}(hv:v.ok)(hx:ev L x=some v.val)(hy:ev L y=some (.slice (some ⟨b,0,none⟩) m c2))(ht:P.underlying t=some (.slice e))(hr:sZ P e sz=true)(hH:ox H (v.D3 e sz) H')(hN:lR H (.cells b 0 N C1))(hNm:N=m*sz)(h1:(cE C1 N).all one=true)(hm:0<m)(hk:v.len+m<=100000000000):Eb P n L (XM W S H) ⟨some d,.call ⟨.builtin .append,#[x,y],#[t,t]⟩,ty,pos,af,none⟩ (fun u:RV=>u.ok/\u.len=v.len+m/\(∀ i,i<v.len*sz->u.C i=v.C i)/\∀ i,i<m*sz->u.C (v.len*sz+i)=C1 i) (fun u=>u.val) (fun u=>XM W S (u.D3 e sz::H')):=fun a w ha hw=>by
 have hc:(aG.cells b 0 N C1).holds w:=hw.fB.1 _ hN.mem;have iA:(v.D3 e sz).holds w:=hw.fB.1 _ (hH.cG.mem_iff.2 sq);obtain⟨p,cap,k,len,c,C⟩:=v;simp only[RV.ok,RV.val,RV.D3]at*;have fin:∀ (p':Option Addr) (dv:Nat) (w':World),(Builtin.append_ #[t,t] ty #[.slice p len c,.slice (some ⟨b,0,none⟩) m c2]).run P w= .ok (.slice p' (len+m) dv) w'->
   XM W S (.row (.slice p' (len+m) dv) e sz (len+m) (cE C (len*sz)++cE C1 N)::H') w'->∃ (u:RV) (w':World),(u.ok/\u.len=len+m/\(∀ i,i<len*sz->u.C i=C i)/\∀ i,i<m*sz->u.C (len*sz+i)=C1 i)/\
    (execOp a.eval ⟨some d,.call ⟨.builtin .append,#[x,y],#[t,t]⟩,ty,pos,af,none⟩).run P w= .ok (.value u.val) w'/\XM W S (u.D3 e sz::H') w':=fun p' dv w' h3 h4=>by
  refine⟨⟨p',dv,len+m,len+m,dv,fun i=>if i<len*sz then C i else C1 (i-len*sz)⟩,w',⟨.inl ⟨rfl,rfl⟩,rfl,fun i hi=>if_pos hi,fun i _=> ?_⟩,?_,?_⟩
  ·show(if len*sz+i<len*sz then _ else _)=_;rw[if_neg og,Nat.add_sub_cancel_left]
  ·simp[execOp,resolve,invoke,builtin,av ha hx,av ha hy,h3]
  ·rw[Ec,hNm,<-Nat.add_mul]at h4;exact h4
 have full:len=k->c=cap->∃ (u:RV) (w':World),(u.ok/\u.len=len+m/\(∀ i,i<len*sz->u.C i=C i)/\∀ i,i<m*sz->u.C (len*sz+i)=C1 i)/\
    (execOp a.eval ⟨some d,.call ⟨.builtin .append,#[x,y],#[t,t]⟩,ty,pos,af,none⟩).run P w= .ok (.value u.val) w'/\XM W S (u.D3 e sz::H') w':=fun e1 e2=>by
  subst e1;subst e2;obtain⟨p',dv,w',h3,h4,h5,h6⟩:=pW (ty:=ty) (c:=c2) (b:=b) (news:=cE C1 N) ht hr iA hm (by rw[aS,hNm]) (Ed hc) (fun u hu=>pV (List.all_eq_true.1 h1 u hu)) hk;exact fin p' dv w' h3 (hw.cC hH rfl h6 h5 h4)
 rcases hv with⟨h1',h2'⟩ | ⟨h1',h2'⟩
 ·exact full h1' h2'
 ·rcases iA.2 with⟨hv,h0⟩ | ⟨g,dv,cur,hv,_⟩
  ·simp only[Value.slice.injEq]at hv;exact full og og
  ·simp only[Value.slice.injEq,true_and]at hv;obtain⟨rfl,rfl⟩:=hv;obtain⟨i,z,hi,hz,qH,hby,ZS,ND⟩:=rQ hr;have uK:len+m<=maxLen:=by simp only[maxLen];omega
   have yo:(len+m)*i.bytes<=140737488355328:=Nat.le_trans (Nat.mul_le_mul hk hby) og;have hle:len*sz<=k*sz:=Nat.mul_le_mul_right _ h2';have A4:=run_append_grow (P:=P) w t ty e i z ht hi hz ⟨g,0,none⟩ len c (cE C (len*sz)) (by rw[aS,qH]) (fun j u hj=>by
    have sW:j<len*sz:=by
     have:=(List.getElem?_eq_some_iff.1 hj).1
     rwa[aS]at this
    exact ti iA h2' 0 og j u (by
     rw[eW sW]at hj ⊢
     simpa using hj)) ⟨b,0,none⟩ m c2 (cE C1 N) (by rw[aS,hNm,qH]) (Ed hc) og (by simp only[maxLen]at uK;omega) (growslice_fits og yo)
   refine fin _ _ _ A4 ?_;have hg:=Bh (P:=P) (w:=w) (e:=e) (sz:=sz) (i:=i) (z:=z) (xs:=cE C (len*sz)++cE C1 N) (k:=len+m) (IY:=c) qH ZS (by rw[List.length_append,aS,aS,hNm,Nat.add_mul]) uK;have e3:(cE C (len*sz)++cE C1 N).toArray=(cE C (len*sz)).toArray++(cE C1 N).toArray:=sq;rw[e3]at hg;exact hw.cC hH rfl (fun b' o hb=>.inr (by simp only[aG.gL,Value.ownBlock,Option.some.injEq]at hb;omega)) (yz w _ _) hg
def RG.aie{t e:TypeId}{v:RV}{sz:Nat}(hv:v.ok)(hy:ev L y=some v.val)(ht:P.underlying t=some (.slice e))(hr:sZ P e sz=true)(hH:lR H (v.D3 e sz))(hk:v.len<=100000000000):Eb P n L (XM W S H) ⟨some d,.call ⟨.builtin .append,#[.const (.slice none 0 0),y],#[t,t]⟩,ty,pos,af,none⟩ (fun u:RV=>u.ok/\u.len=v.len/\∀ i,i<v.len*sz->u.C i=v.C i) (fun u=>u.val) (fun u=>XM W S (u.D3 e sz::H)):=fun a w ha hw=>by
 have iA:(v.D3 e sz).holds w:=hw.fB.1 _ hH.mem;obtain⟨p,cap,k,len,c,C⟩:=v;simp only[RV.ok,RV.val,RV.D3]at*;have hc:a.eval (.const (.slice none 0 0))= .slice none 0 0:=rfl;obtain⟨i,z,hi,hz,qH,hby,ZS,ND⟩:=rQ hr;by_cases h0:len=0
 ·subst h0;refine⟨⟨none,0,0,0,0,C⟩,w,⟨.inl ⟨rfl,rfl⟩,rfl,fun i hi=>rfl⟩,?_,?_⟩
  ·have h3:(Builtin.append_ #[t,t] ty #[.slice none 0 0,.slice p 0 c]).run P w= .ok (.slice none 0 0) w:=by
    cases p<;>simp[Builtin.append_,run_underlying ht,Builtin.lenOf,Builtin.firstCells,loadCells,loadCellsFrom,sizeOf,run_typeInfo hi,hi]
   simp[execOp,resolve,invoke,builtin,av ha hy,hc,h3]
  ·have:=hw.fU e sz;simpa [aN,cE]using this
 ·have jz:len<=k:=og;rcases iA.2 with⟨ZW,h0'⟩ | ⟨g,dv,cur,ZW,_⟩
  ·omega
  ·simp only[Value.slice.injEq,true_and]at ZW;obtain⟨rfl,rfl⟩:=ZW;have uK:len<=maxLen:=by simp only[maxLen];omega
   have yo:len*i.bytes<=140737488355328:=Nat.le_trans (Nat.mul_le_mul hk hby) og;have hle:len*sz<=k*sz:=Nat.mul_le_mul_right _ jz;have A4:=run_append_nil (P:=P) w t ty e i z ht hi hz ⟨g,0,none⟩ len c (cE C (len*sz)) (by rw[aS,qH]) (fun j u hj=>by
    have sW:j<len*sz:=by
     have:=(List.getElem?_eq_some_iff.1 hj).1
     rwa[aS]at this
    exact ti iA jz 0 og j u (by
     rw[eW sW]at hj ⊢
     simpa using hj)) og (by simp only[maxLen]at uK;omega) og
   have hg:=Bh (P:=P) (w:=w) (e:=e) (sz:=sz) (i:=i) (z:=z) (xs:=cE C (len*sz)) (k:=len) (IY:=0) qH ZS (by rw[aS]) uK;refine⟨⟨some ⟨w.heap.size,0,none⟩,grownCap w len 0 e,len,len,grownCap w len 0 e,C⟩,w.drew.alloc (.cells ((cE C (len*sz)).toArray++Builtin.zeroCells z.cells (grownCap w len 0 e-len)) e),⟨.inl ⟨rfl,rfl⟩,rfl,fun i hi=>rfl⟩,?_,?_⟩
   ·simp[execOp,resolve,invoke,builtin,av ha hy,hc,A4]
   ·exact hw.fresh (fun b o hb=>by simp only[aG.gL,Value.ownBlock,Option.some.injEq]at hb;omega) (yz w _ _) hg
def V4{t e:TypeId}{y2:Operand}{p:Option Addr}{len c m:Nat}{k2:IntKind}{φ:World->Prop}{gd:Option (Nat×Bool)}(hx:ev L x=some (.slice p len c))(hy:ev L y=some (.int k z))(hy2:ev L y2=some (.int k2 z))(ht:P.underlying t=some (.slice e)){sz:Nat}(hs:fE P e=some sz)(hz:z=(m:Int))(hm:m<=c):bj P n L φ ⟨some d,.slice t x none (some y) (some y2),ty,pos,af,gd⟩ (.slice p m m):=fun a w ha _=>by
 subst hz;have KH:(if m=0 then p else p.map fun x=>x.add (0*sz))=p:=by
  split
  ·rfl
  ·cases p with
   | none=>rfl
   | some a=>simp[Addr.add]
 simp[execOp,av ha hx,av ha hy,av ha hy2,Instr.sliceAt,run_underlying ht,Instr.slice,Instr.sliceBounds,Instr.sliceBound,asIntOf,hm,run_sizeOf hs];simpa using KH
def Lm{t e:TypeId}{g len c m:Nat}{φ:World->Prop}{gd:Option (Nat×Bool)}(hx:ev L x=some (.slice (some ⟨g,0,none⟩) len c))(hy:ev L y=some (.int k z))(ht:P.underlying t=some (.slice e)){sz:Nat}(hs:fE P e=some sz)(hz:z=(m:Int))(hm:m<=len)(hc:len<=c):bj P n L φ ⟨some d,.slice t x (some y) none none,ty,pos,af,gd⟩ (.slice (some ⟨g,if c=m then 0 else m*sz,none⟩) (len-m) (c-m)):=fun a w ha _=>by
 subst hz;have e1:(if c=m then some (⟨g,0,none⟩:Addr)else some ((⟨g,0,none⟩:Addr).add (m*sz)))=some ⟨g,if c=m then 0 else m*sz,none⟩:=by
  split
  ·rfl
  ·congr 1;cases hq:m*sz<;>simp[Addr.add]
 simp[execOp,av ha hx,av ha hy,Instr.sliceAt,run_underlying ht,Instr.slice,Instr.sliceBounds,Instr.sliceBound,asIntOf,hm,run_sizeOf hs];simpa using e1
theorem RG.cut{t e:TypeId}{g cap k len c:Nat}{C:Nat->Value}{i q sz:Nat}(hv:RV.ok ⟨some ⟨g,0,none⟩,cap,k,len,c,C⟩)(hi:i<len)(hx:ev L x=some (.slice (some ⟨g,0,none⟩) i i))(hy:ev L y=some (.slice (some ⟨g,if c=i+1 then 0 else(i+1)*sz,none⟩) (len-(i+1)) q))(ht:P.underlying t=some (.slice e))(hr:sZ P e sz=true)(hH:ox H (aN (some ⟨g,0,none⟩) cap e sz k C) H')(hk:len<=100000000000):Eb P n L (XM W S H) ⟨some d,.call ⟨.builtin .append,#[x,y],#[t,t]⟩,ty,pos,af,none⟩ (fun u:RV=>u.ok/\u.len=len-1/\(∀ j,j<i*sz->u.C j=C j)/\∀ j,i*sz<=j->j<(len-1)*sz->u.C j=C (j+sz)) (fun u=>u.val) (fun u=>XM W S (u.D3 e sz::H')):=fun a w ha hw=>by
 have iA:(aN (some ⟨g,0,none⟩) cap e sz k C).holds w:=hw.fB.1 _ (hH.cG.mem_iff.2 sq);have hv:(len=k/\c=cap)\/(c=len/\len<=k):=hv;obtain⟨ii,z,hii,hz,qH,hby,ZS,ND⟩:=rQ hr;by_cases hl:len=i+1
 ·subst hl;refine⟨⟨some ⟨g,0,none⟩,cap,k,i,i,C⟩,w,⟨.inr ⟨rfl,show i<=k by omega⟩,sq,fun j _=>rfl,fun j h1 h2=>by simp at h2;omega⟩,?_,?_⟩
  ·have h3:∀ o,(Builtin.append_ #[t,t] ty #[.slice (some ⟨g,0,none⟩) i i,.slice (some ⟨g,o,none⟩) 0 q]).run P w= .ok (.slice (some ⟨g,0,none⟩) i i) w:=fun o=>by
    simp[Builtin.append_,run_underlying ht,Builtin.lenOf,Builtin.firstCells,loadCells,loadCellsFrom,storeCells,sizeOf,run_typeInfo hii,hii]
   rw[Nat.sub_self]at hy;simp[execOp,resolve,invoke,builtin,av ha hx,av ha hy,h3]
  ·exact hw.cG hH.cG
 ·have jz:len<=k:=og;have KL:len<=c:=by
   have:=DY iA;omega
  have uK:len-1<=maxLen:=by simp only[maxLen];omega
  have yo:(len-1)*ii.bytes<=140737488355328:=Nat.le_trans (Nat.mul_le_mul (show len-1<=100000000000 by omega) hby) og;have hle:len*sz<=k*sz:=Nat.mul_le_mul_right _ jz;have aok:i*sz<=len*sz:=Nat.mul_le_mul_right _ og;have e1:(len-(i+1))*sz+(i+1)*sz=len*sz:=by rw[<-Nat.add_mul];congr 1;omega
  have e2:i*sz+(len-(i+1))*sz=(len-1)*sz:=by rw[<-Nat.add_mul];congr 1;omega
  have e4:(i+1)*sz=i*sz+sz:=by rw[Nat.add_mul,Nat.one_mul]
  rw[if_neg og]at hy;have A4:=run_append_grow (P:=P) w t ty e ii z ht hii hz ⟨g,0,none⟩ i i (cE C (i*sz)) (by rw[aS,qH]) (fun j u hj=>by
   have sW:j<i*sz:=by
    have:=(List.getElem?_eq_some_iff.1 hj).1
    rwa[aS]at this
   exact ti iA (show i<=k by omega) 0 og j u (by
    rw[eW sW]at hj ⊢
    simpa using hj)) ⟨g,(i+1)*sz,none⟩ (len-(i+1)) q (cE (fun j=>C ((i+1)*sz+j)) ((len-(i+1))*sz)) (by rw[aS,qH])
    (ti iA (show len-(i+1)<=k by omega) ((i+1)*sz) og) og (by simp only[maxLen]at uK;omega) (growslice_fits og (by rw[show i+(len-(i+1))=len-1 by omega];exact yo))
  rw[show i+(len-(i+1))=len-1 by omega]at A4;have hg:=Bh (P:=P) (w:=w) (e:=e) (sz:=sz) (i:=ii) (z:=z) (xs:=cE C (i*sz)++cE (fun j=>C ((i+1)*sz+j)) ((len-(i+1))*sz)) (k:=len-1) (IY:=i) qH ZS (by rw[List.length_append,aS,aS,e2]) uK;have e3:(cE C (i*sz)++cE (fun j=>C ((i+1)*sz+j)) ((len-(i+1))*sz)).toArray=(cE C (i*sz)).toArray++(cE (fun j=>C ((i+1)*sz+j)) ((len-(i+1))*sz)).toArray:=sq;rw[e3]at hg;have yp:=hw.cC hH rfl (fun b' o hb=>.inr (by simp only[aG.gL,Value.ownBlock,Option.some.injEq]at hb;omega)) (yz w _ _) hg;rw[Ec,e2]at yp;have fin:∀ (v9:Value) (w9:World),(Builtin.append_ #[t,t] ty #[.slice (some ⟨g,0,none⟩) i i,.slice (some ⟨g,(i+1)*sz,none⟩) (len-(i+1)) q]).run P w= .ok v9 w9->(execOp a.eval ⟨some d,.call ⟨.builtin .append,#[x,y],#[t,t]⟩,ty,pos,af,none⟩).run P w= .ok (.value v9) w9:=fun v9 w9 h9=>by
   simp[execOp,resolve,invoke,builtin,av ha hx,av ha hy,h9]
  refine⟨⟨_,_,len-1,len-1,_,fun j=>if j<i*sz then C j else C ((i+1)*sz+(j-i*sz))⟩,_,⟨.inl ⟨rfl,rfl⟩,rfl,fun j hj=>if_pos hj,fun j h1 h2=> ?_⟩,?_,yp⟩
  ·show(if j<i*sz then _ else _)=_;rw[if_neg og];congr 1;omega
  ·exact fin _ _ A4
theorem RG.box{t:TypeId}{x:Operand}{v:Value}{m:Nat}{C:Nat->Value}(hx:ev L x=some v)(hm:v.cells.size=m)(hC:∀ i,i<m->cellsOf v.cells i=C i):Eb P n L (XM W S H) ⟨some d,.box t x,ty,pos,af,none⟩ (fun _:Nat=>True) (fun b=>ay b 0 0) (fun b=>XM W S (.cells b 0 m C::H)):=fun a w ha hw=>by
 have nH:=hw.alloc v.cells t C fun i hi=>by rw[iJ _ _ hi,hC i (hm▸hi)]
 rw[hm]at nH;exact⟨_,_,trivial,by simp[execOp,av ha hx,Instr.box,newVar,newRow,newObj,Sem.run,ay],nH⟩
def RG.build{t e:TypeId}{parts:Array (Nat×Operand)}{vs:Array (Nat×Value)}{k m:Nat}{A:Array Value}(hp:parts.toList.mapM (fun x=>(ev L x.2).map fun u=>(x.1,u))=some vs.toList)(hb:∀ w,(Instr.buildSlice t k vs).run P w= .ok (.slice (some ⟨w.heap.size,0,none⟩) k k) (w.alloc (.cells A e)))(hA:A.size=m):Eb P n L (XM W S H) ⟨some d,.buildSlice t k parts,ty,pos,af,none⟩ (fun _:Nat=>True) (fun b=>.slice (some ⟨b,0,none⟩) k k) (fun b=>XM W S (.cells b 0 m (cellsOf A)::H)):=fun a w ha hw=>by
 have nH:=hw.alloc A e (cellsOf A) fun i hi=>iJ _ _ hi;rw[hA]at nH;have hv:parts.map (fun (i,x)=>(i,a.eval x))=vs:=by
  apply Array.toList_inj.1;rw[Array.toList_map];exact s5 ha _ _ hp
 exact⟨_,_,trivial,by simp only[execOp,hv,Sem.run_bind,hb,Result.andThen_ok,Sem.run_pure],nH⟩
def aaG(P:Program)(f:Field)(o:Nat):Bool:=(match P.underlying f.type with
 | some (.int _)=>Nat.beq f.offset o
 | _=>false)&& !(f.name== "_")
def two(P:Program)(t:TypeId):Bool:=match(P.fieldsOf t).toList with
 | [f,g]=>aaG P f 0&&aaG P g 1
 | _=>false
def Hk{P:Program}{f:Field}{o:Nat}(h:aaG P f o=true):(∃ k,P.underlying f.type=some (.int k))/\f.offset=o/\f.name≠ "_" :=by
 unfold aaG at h;simp only[Bool.and_eq_true,Bool.not_eq_true',beq_eq_false_iff_ne]at h;obtain⟨h1,h2⟩:=h;cases hu:P.underlying f.type with
 | none=>simp[hu]at h1
 | some ds=>
  simp only[hu]at h1;cases ds<;>simp only[]at h1<;>try cases h1
  rename_i k;exact⟨⟨k,rfl⟩,by simpa using h1,h2⟩
theorem aif{op:BinOp}{t t':TypeId}{a1 a2 b1 b2:Int}{r:Bool}{φ:World->Prop}{gd:Option (Nat×Bool)}(hx:ev L x=some (.agg #[.int .i64 a1,.int .i64 a2]))(hy:ev L y=some (.agg #[.int .i64 b1,.int .i64 b2]))(hP:(P.underlying t=some (.struct (P.fieldsOf t))/\P.stoodInHeld t=false)/\P.eqGuardType P.depth t=false/\two P t=true)(hr:(match op with | .eql=>some (decide (a1=b1/\a2=b2)) | .neq=>some (!decide (a1=b1/\a2=b2)) | _=>none)=some r):bj P n L φ ⟨some d,.binOp op t x y t',ty,pos,af,gd⟩ (.bool r):=fun a w ha _=>by
 obtain⟨⟨h1,h2⟩,h3,h4⟩:=hP;have he:(Op.equal t (.agg #[.int .i64 a1,.int .i64 a2]) (.agg #[.int .i64 b1,.int .i64 b2])).run P w= .ok (decide (a1=b1/\a2=b2)) w:=by
  refine(run_equalIn_struct w 9999 t _ _ h1 h2).trans ?_;unfold two at h4;split at h4
  ·rename_i f g hfg;rw[hfg];simp only[Bool.and_eq_true]at h4;obtain⟨⟨k1,u1⟩,o1,n1⟩:=Hk h4.1;obtain⟨⟨k2,u2⟩,o2,n2⟩:=Hk h4.2;have p1:∀ q1 q2:Int,(part f.type #[Value.int .i64 q1,.int .i64 q2] f.offset).run P w= .ok (.int .i64 q1) w:=fun q1 q2=>by
    rw[o1];simp[part,kN (show jL P f.type=true by unfold jL;rw[u1])]
   have p2:∀ q1 q2:Int,(part g.type #[Value.int .i64 q1,.int .i64 q2] g.offset).run P w= .ok (.int .i64 q2) w:=fun q1 q2=>by
    rw[o2];simp[part,kN (show jL P g.type=true by unfold jL;rw[u2])]
   have e1:(Op.equalIn 9999 f.type (.int .i64 a1) (.int .i64 b1)).run P w= .ok (a1==b1) w:=run_equalIn_int (P:=P) (w:=w) 9998 f.type .i64 k1 a1 b1 u1;have e2:(Op.equalIn 9999 g.type (.int .i64 a2) (.int .i64 b2)).run P w= .ok (a2==b2) w:=run_equalIn_int (P:=P) (w:=w) 9998 g.type .i64 k2 a2 b2 u2;simp only[Op.eqFields,n1,n2,ne_eq,not_false_eq_true,if_true,Sem.run_bind,p1,p2,Result.andThen_ok,e1,e2];by_cases c1:a1=b1
   ·subst c1;by_cases c2:a2=b2
    ·subst c2;simp[p2,e2]
    ·simp[c2,p2,e2]
   ·simp[c1,p2,e2]
  ·cases h4
 have b1':binOp .eql t (.agg #[.int .i64 a1,.int .i64 a2]) (.agg #[.int .i64 b1,.int .i64 b2])=(do pure (.bool (<-Op.equal t (.agg #[.int .i64 a1,.int .i64 a2]) (.agg #[.int .i64 b1,.int .i64 b2])))):=rfl;have b2':binOp .neq t (.agg #[.int .i64 a1,.int .i64 a2]) (.agg #[.int .i64 b1,.int .i64 b2])=(do pure (.bool (!(<-Op.equal t (.agg #[.int .i64 a1,.int .i64 a2]) (.agg #[.int .i64 b1,.int .i64 b2]))))):=rfl;have g1:(eqGuard .eql t x y (.agg #[.int .i64 a1,.int .i64 a2]) (.agg #[.int .i64 b1,.int .i64 b2])).run P w= .ok () w:=by simp[eqGuard,run_program,h3]
 have g2:(eqGuard .neq t x y (.agg #[.int .i64 a1,.int .i64 a2]) (.agg #[.int .i64 b1,.int .i64 b2])).run P w= .ok () w:=by simp[eqGuard,run_program,h3]
 cases op<;>simp only[Option.some.injEq]at hr<;>(try cases hr)<;>
  simp only[execOp,av ha hx,av ha hy,b1',b2']<;>simp[g1,g2,he]
def Ee{t e:TypeId}{p:Option Addr}{len c m:Nat}{φ:World->Prop}{gd:Option (Nat×Bool)}(hx:ev L x=some (.slice p len c))(hy:ev L y=some (.int k z))(ht:P.underlying t=some (.slice e)){sz:Nat}(hs:fE P e=some sz)(hz:z=(m:Int))(hm:m<=c):bj P n L φ ⟨some d,.slice t x none (some y) none,ty,pos,af,gd⟩ (.slice p m c):=fun a w ha _=>by
 subst hz;have KH:(if c=0 then p else p.map fun x=>x.add (0*sz))=p:=by
  split
  ·rfl
  ·cases p with
   | none=>rfl
   | some a=>simp[Addr.add]
 simp[execOp,av ha hx,av ha hy,Instr.sliceAt,run_underlying ht,Instr.slice,Instr.sliceBounds,Instr.sliceBound,asIntOf,hm,run_sizeOf hs];simpa using KH
def vc{k:Nat}{ps:List Nat}{cs:List (Nat×Nat)}{fn:Func}{R:Ending->World->Prop}{M:World->Prop}{r r' r2:ResultVar}{v v' v2:Value}(hr:fn.results= #[r,r',r2])(h1:uv P (fr k ps cs) L M r v)(h2:uv P (fr k ps cs) L M r' v')(h3:uv P (fr k ps cs) L M r2 v2)(h:∀ w,M w->R (.returned (.tuple #[v,v',v2])) w):XE (fr k ps cs) (bodyPost P fn R) .ret L M:=fun a w ha hw=>by
 refine⟨ha.1,.tuple #[v,v',v2],?_,h w hw⟩;have e1:=h1 a w ha hw;have e2:=h2 a w ha hw;have e3:=h3 a w ha hw;rw[yw,hr];simp[e1,e2,e3]
end
end Go.X

namespace Go.X
open Go
section
variable{P:Program}{n:Fr}{Q:Exit->Act->World->Prop}{L:PF}{ops:Array Oper}{rest:List Oper}{op:Op}{ty:TypeId}{pos:String}{af:Array Edge}{d:Nat}
variable{W:World}{S:Nat->Nat->Prop}{H H':List aG}{M:World->Prop}{α:Type}
theorem XQ.g{G:α->Prop}{val:α->Value}{M':α->World->Prop}{B:DS}{f i:Nat}{l l':Array Bool}(ho:ops[i]? =some ⟨some d,op,ty,pos,af,none⟩)(hk:Region.ready .any ops l=[i])(hl:l.setIfInBounds i true=l')(hr:Eb P n L M ⟨some d,op,ty,pos,af,none⟩ G val M')(hd:Nat.blt d n.sz=true)(N2:∀ x w,M' x w->JL B l' w)(h:∀ x,G x->XQ P n ops Q B f l' ((d,val x)::L) (M' x)):XQ P n ops Q B (f+1) l L M:=by
 subst hl;refine XQ.step ho rfl hk fun KL a w ha hw hJ=> ?_;obtain⟨x,w',hg,h1,h2⟩:=hr a w ha hw;unfold Oper.wp;rw[h1];exact h x hg KL _ _ (ha.put hd _) h2 (N2 x _ h2)
end
section
variable{P:Program}{n:Fr}{L:PF}{ops:Array Oper}{Q:Exit->Act->World->Prop}{ty:TypeId}{pos:String}{af:Array Edge}{d f i:Nat}{B:DS}{l l':Array Bool}
def XS(P:Program)(n:Fr)(ops:Array Oper)(Q:Exit->Act->World->Prop)(B:DS)(f:Nat)(l:Array Bool)(i:Nat)(L:PF)(M:World->Prop):Prop:=
 i∈Region.ready .any ops l->oK ops l->∀ a w,ra n L a->M w->JL B l w->wpOp P ops (Qk Q) i (KE P ops Q B f (l.setIfInBounds i true)) a w
theorem XQ.jo{i j:Nat}{M:World->Prop}(hk:Region.ready .any ops l=[i,j])(h1:XS P n ops Q B f l i L M)(h2:XS P n ops Q B f l j L M):XQ P n ops Q B (f+1) l L M:=by
 intro hc a w ha hw hJ;refine⟨hJ,fun h0=>(by rw[hk]at h0;cases h0),fun x hx=> ?_⟩;have nH:=hx;rw[hk]at nH;rcases List.mem_cons.1 nH with rfl | nH
 ·exact h1 hx hc a w ha hw hJ
 ·obtain rfl:=List.mem_singleton.1 nH;exact h2 hx hc a w ha hw hJ
def XS.step{o:Oper}{M:World->Prop}(ho:ops[i]? =some o)(hg:o.guard=none)(h:oK ops (l.setIfInBounds i true)->∀ a w,ra n L a->M w->JL B l w->o.wp P a w (KE P ops Q B f (l.setIfInBounds i true)) (Qk Q)):XS P n ops Q B f l i L M:=by
 intro hr hc a w ha hw hJ;unfold wpOp;simp only[ho];rw[if_pos (by simp[Region.wanted,hg])];exact .inl (h (kM hc hr) a w ha hw hJ)
def XS.call{W:World}{S:Nat->Nat->Prop}{H:List aG}{g:FuncId}{xs:List Operand}{vs:List Value}{pG:Array TypeId}{pre F:List aG}{post:Value->List aG->Prop}(ho:ops[i]? =some ⟨some d,.call ⟨.value (.func g),xs.toArray,pG⟩,ty,pos,af,none⟩)(hl:l.setIfInBounds i true=l')(he:Sn L xs=some vs)(hs:Spec P g vs pre post)(hp:cX H pre F)(hc:dg P g=true)(hd:Nat.blt d n.sz=true)(N2:∀ v H1,post v H1->∀ w,XM W S (H1++F) w->JL B l' w)(h:∀ v H1,post v H1->XQ P n ops Q B f l' ((d,v)::L) (XM W S (H1++F))):XS P n ops Q B f l i L (XM W S H):=by
 subst hl;refine XS.step ho rfl fun KL a w ha hw hJ=> ?_;unfold Oper.wp;rw[zo hc (rO ha xs vs he)];show Calls P g vs.toArray w _;refine(hs w (hw.pick hp).fB).mono ?_;rintro e w' ⟨v,H1,rfl,u5,NF,hx⟩;have nH:=hw.A8 hp hx fun e he=>List.all_eq_true.1 NF e he;exact h v H1 u5 KL _ _ (ha.put hd v) nH (N2 v H1 u5 _ nH)
def XS.bP{W:World}{S:Nat->Nat->Prop}{H:List aG}{t:TypeId}{z:Value}{m:Nat}{C:Nat->Value}(ho:ops[i]? =some ⟨some d,.alloc t,ty,pos,af,none⟩)(hl:l.setIfInBounds i true=l')(hz:DU P t=some z)(hm:z.cells.size=m)(hC:∀ i,i<m->cellsOf z.cells i=C i)(hd:Nat.blt d n.sz=true)(N2:∀ b w,XM W S (.cells b 0 m C::H) w->JL B l' w)(h:∀ b,XQ P n ops Q B f l' ((d,ay b 0 0)::L) (XM W S (.cells b 0 m C::H))):XS P n ops Q B f l i L (XM W S H):=by
 subst hl;refine XS.step ho rfl fun KL a w ha hw hJ=> ?_;have hx:=hw.alloc z.cells t C fun i hi=>by rw[iJ _ _ hi,hC i (hm▸hi)]
 rw[hm]at hx;unfold Oper.wp;have:(execOp a.eval ⟨some d,.alloc t,ty,pos,af,none⟩).run P w= .ok (.value (ay w.heap.size 0 0)) (w.alloc (.cells z.cells t)):=by
  simp[execOp,Instr.alloc,rh hz,newVar,newRow,newObj,Sem.run,ay]
 rw[this];exact h _ KL _ _ (ha.put hd _) hx (N2 _ _ hx)
end
end Go.X

namespace Go.X
open Go
variable{H:List aG}{D8 Hi Ln QC V5 qy wH x0 x1 x17 x2 x3 x4 x5 x6 x7 x8 x9:aG}
def cX.h15 :cX (x0::x1::x2::x3::x4::x5::x6::x7::x8::x9::qy::wH::D8::Hi::Ln::H) [x0,x1,x2,x3,x4,x5,x6,x7,x8,x9,qy,wH,D8,Hi,Ln] H:=.cons .aa .h14
def cX.h16 :cX (x0::x1::x2::x3::x4::x5::x6::x7::x8::x9::qy::wH::D8::Hi::Ln::QC::H) [x0,x1,x2,x3,x4,x5,x6,x7,x8,x9,qy,wH,D8,Hi,Ln,QC] H:=.cons .aa .h15
def cX.h17 :cX (x0::x1::x2::x3::x4::x5::x6::x7::x8::x9::qy::wH::D8::Hi::Ln::QC::V5::H) [x0,x1,x2,x3,x4,x5,x6,x7,x8,x9,qy,wH,D8,Hi,Ln,QC,V5] H:=.cons .aa .h16
def cX.h18 :cX (x0::x1::x2::x3::x4::x5::x6::x7::x8::x9::qy::wH::D8::Hi::Ln::QC::V5::x17::H) [x0,x1,x2,x3,x4,x5,x6,x7,x8,x9,qy,wH,D8,Hi,Ln,QC,V5,x17] H:=.cons .aa .h17
def cX.h19{x18:aG} :cX (x0::x1::x2::x3::x4::x5::x6::x7::x8::x9::qy::wH::D8::Hi::Ln::QC::V5::x17::x18::H) [x0,x1,x2,x3,x4,x5,x6,x7,x8,x9,qy,wH,D8,Hi,Ln,QC,V5,x17,x18] H:=.cons .aa .h18
def cX.h20{x18 x19:aG} :cX (x0::x1::x2::x3::x4::x5::x6::x7::x8::x9::qy::wH::D8::Hi::Ln::QC::V5::x17::x18::x19::H) [x0,x1,x2,x3,x4,x5,x6,x7,x8,x9,qy,wH,D8,Hi,Ln,QC,V5,x17,x18,x19] H:=.cons .aa .h19
def vd{P:Program}[Tb P]{L:SF}{c:Code}{f:FuncId}{fn:Func}{args:List Value}{pre:List aG}{post:Value->List aG->Prop}(k:Nat)(ps:List Nat)(cs:List (Nat×Nat))(hf:P.funcs[f]? =some fn)(hb:fn.body=some c)(hk:fn.ntmps=k)(hn:Nat.ble args.length fn.ntmps=true)[r:QA (pT 0 args) L](h:∀ W,iB P (fr k ps cs) (bodyPostM Fence.wide 3 P fn fun e w'=>∃ v H',e= .returned v/\post v H'/\H'.all aG.wr=true/\XM W (cx pre) H' w') (XM W (cx pre) pre) 3000 [] (.c c) L):Spec P f args pre post:=by
 subst hk;refine K7 (kp:=ps) (cs:=cs) hf hb hn fun W=> ?_;rw[<-r.h];exact cK _ [] (.c _) _ (h W)
section
variable{P:Program}{n:Fr}{Q:Exit->Act->World->Prop}{L:PF}{M:World->Prop}
def XB.ir{i:Nat}{os:List Oper}{f:Nat}{l:Array Bool}(hm:P.follows .mixedOrders=true)(hf:os.length=f)(hl:Array.replicate f false=l)(hM:∀ w k,M w->M {w with drawn:=w.drawn+k})(h:XQ P n os.toArray Q [] f l L M)(hn:Cu os=true:=by rfl):XB P n (.region i os.toArray true) Q L M:=fun a w ha hw=>by
 subst hf;subst hl;refine⟨by simpa using hn,hm,?_⟩;have:=sY _ _ _ _ (h (uZ _ _) a _ ha (hM w 1 hw) trivial);simpa using this
end
end Go.X

namespace Go.X
open Go
variable{x:Operand}
section
variable{P:Program}{n:Fr}{Q:Exit->Act->World->Prop}{L:PF}{ops:Md}{rest:List Oper}{ty:TypeId}{pos:String}{af:Array Edge}{d:Nat}
variable{W:World}{S:Nat->Nat->Prop}{H:List aG}
def XO.V6{f:FuncId}{cs:List Value}{xs:List Operand}{vs:List Value}{pG:Array TypeId}{pre F:List aG}{post:Value->List aG->Prop}(hx:ev L x=some (.func (.func f) #[] cs.toArray))(he:Sn L xs=some vs)(hs:Spec P f (vs++cs) pre post)(hp:cX H pre F)(hc:dg P f=true)(hd:(Nat.blt d n.sz&&cQ (.call ⟨.value x,xs.toArray,pG⟩))=true)(h:∀ v H1,post v H1->XO P n ops Q rest ((d,v)::L) (XM W S (H1++F))):XO P n ops Q (⟨some d,.call ⟨.value x,xs.toArray,pG⟩,ty,pos,af,none⟩::rest) L (XM W S H):=by
 simp only[Bool.and_eq_true]at hd;refine XO.op (by simp[hd.2]) fun a w ha hw=> ?_;unfold Oper.wp;have hr:(execOp a.eval ⟨some d,.call ⟨.value x,xs.toArray,pG⟩,ty,pos,af,none⟩).run P w= .ok (.enter f (vs++cs).toArray) w:=by
  unfold dg at hc;cases hf:P.funcs[f]? with
  | none=>simp[hf]at hc
  | some fn=>
   simp only[hf,Bool.and_eq_true]at hc;obtain⟨h1,h2⟩:=hc;have h3:¬fn.name= "runtime.NumGoroutine" :=by simpa using h1
   have h4:¬fn.body=none:=by cases hb:fn.body<;>simp_all
   have h5:=rO ha xs vs he;simp[execOp,resolve,av ha hx,Deferred.ofValue,invoke,callFunc,run_program,hf,h3,h4,h5]
 rw[hr];show Calls P f (vs++cs).toArray w _;refine(hs w (hw.pick hp).fB).mono ?_;rintro e w' ⟨v,H1,rfl,u5,NF,hx⟩;exact h v H1 u5 _ _ (ha.put hd.1 v) (hw.A8 hp hx fun e he=>List.all_eq_true.1 NF e he)
def Lo{f:FuncId}{u:Value}{φ:World->Prop}{gd:Option (Nat×Bool)}(hx:ev L x=some u):bj P n L φ (⟨some d,.makeFunc (.func f) #[] #[x],ty,pos,af,gd⟩) (.func (.func f) #[] #[u]):=fun a w ha hw=>by
 simp[execOp,av ha hx,Instr.makeFunc]
def Lp{t e:TypeId}{y:Operand}{A B:Array Value}{m sz:Nat}{k:IntKind}{z:Int}{φ:World->Prop}{gd:Option (Nat×Bool)}(hx:ev L x=some (.agg A))(hy:ev L y=some (.int k z))(ht:P.underlying t=some (.array m e))(hs:fE P e=some sz)(he:oM P e=true)(hz:0<=z/\z<m)(hv:A.extract (z.toNat*sz) (z.toNat*sz+sz)=B):bj P n L φ ⟨some d,.index t x y,ty,pos,af,gd⟩ (.agg B):=fun a w ha _=>by
 have hp:(part e A (z.toNat*sz)).run P w= .ok (.agg B) w:=by
  simp[part,xO he,run_sizeOf hs,hv]
 simp only[execOp,av ha hx,av ha hy,Instr.index,asIntOf,Sem.run_bind,Sem.run_pure,Result.andThen_ok,run_underlying ht,hz,run_sizeOf hs];simp only[Sem.run_bind,run_sizeOf hs,Result.andThen_ok,hp,true_and,and_self,if_true]
end
end Go.X

namespace Go.X
open Go Go.Proofs Go.Shelf Go.Sort
variable{v:Value}
def aaH(P:Program)(NH:Nat){α:Type}(enc:α->List Value)(cf:α->α->Int):Prop:=
 ∀ x y w,Calls P NH #[.agg (enc x).toArray,.agg (enc y).toArray] w fun e w'=>e= .returned (.int .i64 (cf x y))/\∃ os',w'=grow w os'
def V7{P:Program}{NH:Nat}{α:Type}{enc:α->List Value}{k:Nat}{cf:α->α->Int}[Inhabited α](h:aaH P NH enc cf)(blk off size:Nat)(w:World):CmpLays P NH #[] enc k cf blk off size w:=
 fun m os dk _ x y=>(h x y _).mono fun e w' ⟨he,os',hw⟩=>⟨he,0,os',hw⟩
section
variable{P:Program}{n:Fr}{Q:Exit->Act->World->Prop}{L:PF}{ops:Md}{rest:List Oper}{ty:TypeId}{pos:String}{af:Array Edge}{d:Nat}
def XO.ail{t:TypeId}{x:Operand}{w1:World}(hx:ev L x=some v)(hd:Nat.blt d n.sz=true)(h:XO P n ops Q rest ((d,ay w1.heap.size 0 0)::L) fun w=>w=w1.alloc (.cells v.cells t)):XO P n ops Q (⟨some d,.box t x,ty,pos,af,none⟩::rest) L (fun w=>w=w1):=
 XO.op rfl fun a w ha hw=>by
  subst hw;unfold Oper.wp;have:(execOp a.eval ⟨some d,.box t x,ty,pos,af,none⟩).run P w= .ok (.value (ay w.heap.size 0 0)) (w.alloc (.cells v.cells t)):=by
   simp[execOp,av ha hx,Instr.box,newVar,newRow,newObj,Sem.run,ay]
  rw[this];exact h _ _ (ha.put hd _) rfl
def aaI{w:World}{A B:Array Value}{t t':TypeId}{i:Nat}(h:A[i]? =some v):((w.alloc (.cells A t)).alloc (.cells B t')).cell? ⟨w.heap.size,i,none⟩=some v:=by
 have e:((w.alloc (.cells A t)).alloc (.cells B t')).heap[w.heap.size]? =some (.cells A t):=by
  rw[heap_alloc_old _ _ sq];exact heap_alloc_new w _
 simp[World.cell?,e,h]
def V8{w:World}{A B:Array Value}{t t':TypeId}{i:Nat}(h:B[i]? =some v):((w.alloc (.cells A t)).alloc (.cells B t')).cell? ⟨(w.alloc (.cells A t)).heap.size,i,none⟩=some v:=by
 have e:((w.alloc (.cells A t)).alloc (.cells B t')).heap[(w.alloc (.cells A t)).heap.size]? =some (.cells B t'):=heap_alloc_new _ _;simp only[World.cell?,e,h];rfl
def QD{t:TypeId}{x:Operand}{b i:Nat}{φ:World->Prop}(hx:ev L x=some (ay b 0 i))(hc:∀ w,φ w->w.cell? ⟨b,i,none⟩=some v)(ht:jL P t=true):bj P n L φ (⟨some d,.load t x,ty,pos,af,none⟩) v:=fun a w ha hw=>by
 have hc':=hc w hw;have hr:=gZ ht hc';simp[execOp,av ha hx,Instr.loadAt,Instr.sureAddr,ay,hr]
def V9(w:World)(A B:Obj):(w.alloc A).alloc B=grow w #[A,B]:=by
 simp only[World.alloc_eq,grow];congr 1
end
def I8{w:World}{g cap n k:Nat}{e:TypeId}{F:Array Value}(h:(aG.row (.slice (some ⟨g,0,none⟩) n cap) e k n F.toList).holds w):Holds id w g 0 F:=by
 intro j hj;have hc:=cell_of_row h (j:=j) (v:=F[j]!) (by simp[hj]);obtain⟨cur,hb,_⟩:=pH h;refine⟨?_,?_⟩
 ·rw[Nat.zero_add]at hc ⊢;exact hc
 ·simp[World.frozen?,hb]
def Wa(cur F:Array Value)(h:F.size<=cur.size):(putCells id 0 F cur).toList.take F.size=F.toList:=by
 apply List.ext_getElem?;intro j;by_cases hj:j<F.size
 ·rw[List.getElem?_take_of_lt hj,Array.getElem?_toList,Array.getElem?_toList];simp[putCells,hj,show j<cur.size by omega]
 ·rw[List.getElem?_take_eq_none og,List.getElem?_eq_none eI]
def N7{w:World}{g cap n k m:Nat}{e:TypeId}{F F':Array Value}{os:Array Obj}(h:(aG.row (.slice (some ⟨g,0,none⟩) n cap) e k n F.toList).holds w)(hF:F'.size=F.size):XM w (cx [.row (.slice (some ⟨g,0,none⟩) n cap) e k n F.toList]) [.row (.slice (some ⟨g,0,none⟩) n cap) e k n F'.toList] (grow (putRow id (Sort.ahead w m) g 0 F') os):=by
 obtain⟨cur,hb,h1,h2,h3,h4⟩:=pH h;have hg:g<w.heap.size:=dV hb;have hFs:F.size=n*k:=by simpa using h.1
 have hnk:n*k<=cur.size:=by rw[h3];exact Nat.mul_le_mul_right _ h1
 have I9:(grow (putRow id (Sort.ahead w m) g 0 F') os).heap[g]? =some (.cells (putCells id 0 F' cur) e (0,0)):=by
  rw[heap_grow_old _ _ (by simpa using hg)];simp[putRow,mapBlock,Sort.ahead,Array.getElem?_modify,hb,onCells]
 have dX:∀ b,b<w.heap.size->¬b=g->(grow (putRow id (Sort.ahead w m) g 0 F') os).heap[b]? =w.heap[b]? :=fun b D1 gJ=>by
  rw[heap_grow_old _ _ (by simpa using D1)];have:¬g=b:=fun q=>gJ q.symm;simp[putRow,mapBlock,Sort.ahead,Array.getElem?_modify,this]
 have hS:∀ o,cx [.row (.slice (some ⟨g,0,none⟩) n cap) e k n F.toList] g o:=fun o=>⟨_,List.mem_singleton.2 rfl,rfl,rfl⟩;refine⟨⟨fun x hx=> ?_,sq⟩,⟨rfl,rfl,rfl,by simp[putRow,mapBlock,Sort.ahead],fun b D1 hn=>dX b D1 fun q=>hn 0 (by rw[q];exact hS 0),fun b A t fz hA=> ?_⟩,fun x hx _ b o ha=>.inr ?_⟩
 ·simp only[List.mem_singleton]at hx;subst hx;refine⟨by simp[hF,hFs],.inr ⟨g,cap,_,rfl,Nat.zero_le _,I9,h1,h2,by simp[putCells,h3],?_⟩⟩;have:=Wa cur F' og;rw[hF,hFs]at this;exact this
 ·by_cases hbg:b=g
  ·subst hbg;rw[hb]at hA;simp only[Option.some.injEq,Obj.cells.injEq]at hA;obtain⟨rfl,rfl,rfl⟩:=hA;exact⟨_,I9,by simp[putCells],fun o hn=>absurd (hS o) hn⟩
  ·exact⟨A,by rw[dX b (dV hA) hbg];exact hA,rfl,fun _ _=>rfl⟩
 ·simp only[List.mem_singleton]at hx;subst hx;exact⟨_,List.mem_singleton.2 rfl,rfl,ha⟩
def Wb{P:Program}{ρ:Ren}{α:Type}[Inhabited α](L:SlLaysF0.n6 P ρ)(k:Nat)(aE:∀ w,(isAgg (ρ.t 24)).run P w= .ok true w)(zE:∀ w,(Go.sizeOf (ρ.t 24)).run P w= .ok k w)(enc:α->List Value)(hk:∀ x,(enc x).length=k)(h1:∀ x,∀ v∈enc x,v.oneCell'=true)(cf:α->α->Int)(hO:SWO (ltOf cf))(NH:Nat)(eg:∀ args w,(callFunc NH args).run P w= .ok (.enter NH args) w)(hc:aaH P NH enc cf)(p:Option Addr)(n cap:Nat)(e:TypeId)(d:Array α)(hn:d.size=n)(sW:n<=100000000000):Spec P (ρ.f 6) [.slice p n cap,.func (.func NH) #[] #[]] [.row (.slice p n cap) e k n (flatK enc k d).toList] (fun v H1=>v= .tuple #[]/\∃ d',PermIn 0 n d d'/\SortedIn (ltOf cf) 0 n d'/\H1=[.row (.slice p n cap) e k n (flatK enc k d').toList]):=by
 intro w hw;have iA:=hw.1 _ (List.mem_singleton.2 rfl);rcases iA.2 with⟨hv,hn0⟩ | ⟨g,dv,cur,hv,_,hb,_⟩
 ·simp only[Value.slice.injEq]at hv;obtain⟨rfl,_,rfl⟩:=hv;subst hn0;refine(AnyF.slices_SortFunc_none L none 0 _ w).mono fun ee w' ⟨he,er⟩=>⟨_,_,he,⟨rfl,d,⟨rfl,fun _ _=>rfl,.refl _⟩,fun i j _ KS hj=>og,rfl⟩,rfl,?_⟩;subst er;exact lK hw
 ·simp only[Value.slice.injEq,true_and]at hv;obtain⟨rfl,rfl⟩:=hv;subst hn;refine(AnyQ.slices_SortFunc L k aE zE enc hk h1 cf hO NH #[] g 0 cap d w eg (V7 hc g 0 d.size w) (I8 iA) (dV hb) og).mono fun ee w' ⟨he,d',nn,os,hp,hs,er⟩=>
   ⟨_,_,he,⟨rfl,d',hp,hs,rfl⟩,rfl,?_⟩
  subst er;exact N7 iA (by simp[hp.1])
end Go.X

namespace Go.X
open Go
section
variable{P:Program}{n:Fr}{L:PF}{ty:TypeId}{pos:String}{af:Array Edge}{d:Nat}{gd:Option (Nat×Bool)}{φ:World->Prop}
def uL(k:Nat){t T:TypeId}{w:World}{v:Value}{ms:Array (String×TypeId)}(ht:P.underlying t=some (.interface ms)):(Op.equalIn (k+1) t .nilIface (.iface T v)).run P w= .ok false w:=by
 simp only[Op.equalIn,Sem.run_bind,run_underlying ht,Result.andThen_ok,Sem.run_pure]
def Db(k:Nat){t T:TypeId}{w:World}{a b:Int}{ms:Array (String×TypeId)}(ht:P.underlying t=some (.interface ms)){i:TypeInfo}(hT:P.info? T=some i)(hc:i.comparable=true){ik:IntKind}(hu:P.underlying T=some (.int ik)):(Op.equalIn (k+2) t (.iface T (.int .i64 a)) (.iface T (.int .i64 b))).run P w= .ok (a==b) w:=by
 simp only[Op.equalIn,Sem.run_bind,run_underlying ht,Result.andThen_ok,Sem.run_pure];simp[Sem.run_bind,run_typeInfo hT,run_underlying hu,hc,Sem.run_pure]
def QE{op:BinOp}{t t' T:TypeId}{x y:Operand}{e m:Int}{ms:Array (String×TypeId)}{r:Bool}(hx:ev L x=some (ax T e))(hy:ev L y=some (.iface T (.int .i64 m)))(hm:m≠0)(ht:P.underlying t=some (.interface ms)){i:TypeInfo}(hT:P.info? T=some i)(hc:i.comparable=true){ik:IntKind}(hu:P.underlying T=some (.int ik))(hr:(match op with | .eql=>some (decide (e=m)) | .neq=>some (decide (e≠m)) | _=>none)=some r):bj P n L φ ⟨some d,.binOp op t x y t',ty,pos,af,gd⟩ (.bool r):=fun a w ha _=>by
 by_cases h:e=0
 ·subst h;have hx:ev L x=some .nilIface:=hx;have he:(Op.equal t .nilIface (.iface T (.int .i64 m))).run P w= .ok false w:=uL 9999 ht;have hd:decide ((0:Int)=m)=false:=decide_eq_false fun q=>hm q.symm;cases op<;>simp only[Option.some.injEq]at hr<;>(try cases hr)<;>simp[execOp,eqGuard,av ha hx,av ha hy,binOp,he];all_goals omega
 ·rw[aL T h]at hx;have he:(Op.equal t (.iface T (.int .i64 e)) (.iface T (.int .i64 m))).run P w= .ok (e==m) w:=Db 9998 ht hT hc hu;have hq:(e==m)=decide (e=m):=by rw[Bool.eq_iff_iff];simp
  cases op<;>simp only[Option.some.injEq]at hr<;>(try cases hr)<;>simp[execOp,eqGuard,av ha hx,av ha hy,binOp,he,hq]
end
theorem XQ.mono{P:Program}{n:Fr}{ops:Array Oper}{Q:Exit->Act->World->Prop}{B:DS}{f:Nat}{l:Array Bool}{L:PF}{M M':World->Prop}(hm:∀ w,M w->M' w)(h:XQ P n ops Q B f l L M'):XQ P n ops Q B f l L M:=fun hc a w ha hw hJ=>h hc a w ha (hm w hw) hJ
end Go.X

namespace Go.X
open Go Go.X
structure jA where
 aI:ByteArray
 a:Int
 b:Int
 c:Int
 iZ:Int
 on:Bool
 s:ByteArray
 t:ByteArray
def gM(x:jA)(i:Nat):Value:=
 if i=0 then .string (x.aI)else
 if i=1 then iI (x.a)else
 if i=2 then iI (x.b)else
 if i=3 then iI (x.c)else
 if i=4 then .int .u64 (x.iZ)else
 if i=5 then .bool (x.on)else
 if i=6 then .string (x.s)else
 if i=7 then .string (x.t)else
 undef
def ve(x:jA):(0+0)<8/\gM x (0+0)= .string (x.aI):=by
 grind [gM]
def bF(x:jA):(0+1)<8/\gM x (0+1)=iI (x.a):=by
 grind [gM]
def dw(x:jA):(0+2)<8/\gM x (0+2)=iI (x.b):=by
 grind [gM]
def gX(x:jA):(0+3)<8/\gM x (0+3)=iI (x.c):=by
 grind [gM]
def jU(x:jA):(0+5)<8/\gM x (0+5)= .bool (x.on):=by
 grind [gM]
def gg(x:jA):(0+6)<8/\gM x (0+6)= .string (x.s):=by
 grind [gM]
def qK(x:jA):(0+7)<8/\gM x (0+7)= .string (x.t):=by
 grind [gM]
structure jA.ok (x:jA):Prop where
 a: -9223372036854775808<=x.a/\x.a<=9223372036854775807
 b: -9223372036854775808<=x.b/\x.b<=9223372036854775807
 c: -9223372036854775808<=x.c/\x.c<=9223372036854775807
 iZ:0<=x.iZ/\x.iZ<=18446744073709551615
 s:x.s.size<=9223372036854775807
 t:x.t.size<=9223372036854775807
 aI:x.aI.size<=9223372036854775807
def fY(A:Int->jA)(i:Nat):Value:=gM (A ((i/8:Nat):Int)) (i%8)
def SM(A:Int->jA)(len:Nat)(z:Int)(q:0<=z/\z<len):0+z.toNat*8+8<=8*len/\dB (fY A) (0+z.toNat*8) 8= .agg #[.string (A z).aI,iI (A z).a,iI (A z).b,iI (A z).c,.int .u64 (A z).iZ,.bool (A z).on,.string (A z).s,.string (A z).t]:=by
 refine⟨og,?_⟩;have h:∀ j,j<8->fY A (0+z.toNat*8+j)=gM (A z) j:=fun j hj=>by
  grind [fY]
 simp only[dB,List.range,List.range.loop,List.map_cons,List.map_nil];rw[h 0 og,h 1 og,h 2 og,h 3 og,h 4 og,h 5 og,h 6 og,h 7 og];rfl
def QF(A:Int->jA)(z:Int)(q:0<=z)(j:Nat)(hj:j<8:=by omega):fY A (0+z.toNat*8+j)=gM (A z) j:=by
 unfold fY;grind
def SN(A:Int->jA)(len:Nat)(z:Int)(q:0<=z/\z<len):0+z.toNat*8+6<8*len/\fY A (0+z.toNat*8+6)= .string (A z).s:=
 ⟨og,(QF A z q.1 6).trans (gg (A z)).2⟩
def SO(A:Int->jA)(len:Nat)(z:Int)(q:0<=z/\z<len):0+z.toNat*8+7<8*len/\fY A (0+z.toNat*8+7)= .string (A z).t:=
 ⟨og,(QF A z q.1 7).trans (qK (A z)).2⟩
end Go.X

namespace Go.X
open Go Go.ChangeShapes Go.WideShapes Go.Deep Go.RowKit Go.ChangeAt
variable{a:Addr}
section
variable{H:Type}{enc:TypeId×Value->H}{P:Program}{w:World}{base:Nat}{spare:Nat->Bool}{bu:Bool}
def zz{t e:TypeId}{fs:Array Field}{fuel:Nat}{cs:List Value}{x:DataW H×List MemPlace}(ht:P.underlying t=some (.slice e))(he:P.underlying e=some (.struct fs))(akU:oneCellFields P fs=true)(hC:P.cellsOf e=fs.size)(h:DataW.trod enc P w base spare bu fuel t cs=some x):(cs=[.slice none 0 0]/\x=(.nil,[]))\/∃ (a:Addr) (len cap m:Nat) (D:Nat->DataW H) (Pl:Nat->List MemPlace),cs=[.slice (some a) len cap]/\base<=a.block/\len<=cap/\cap<=maxLen/\m=(if spare a.block then cap else len)/\x=(.slice ((List.range len).map D) ((List.range (m-len)).map fun j=>D (len+j)),MemPlace.row a (m*fs.size)++(List.range m).flatMap Pl)/\∀ i,i<m->∃ (ys:List (DataW H×List MemPlace)) (n:Nat),D i= .agg (ys.map (·.1))/\Pl i=ys.flatMap (·.2)/\ys.length=fs.size/\∀ (j:Nat) (f:Field),fs[j]? =some f->∃ (v:Value) (y:DataW H×List MemPlace),w.cell? (a.add (i*fs.size+j))=some v/\ys[j]? =some y/\DataW.trod enc P w base spare bu n f.type [v]=some y:=by
 rcases open_slice ht h with h0 | ⟨a,len,cap,m,n,D,Pl,Dq,hb,hl,hm,hmm,hx,hi⟩
 ·exact .inl h0
 ·refine .inr ⟨a,len,cap,m,D,Pl,Dq,hb,hl,hm,hmm,by rw[hC]at hx;exact hx,fun i him=> ?_⟩;obtain⟨cs',hc,ht'⟩:=hi i him;rw[hC]at hc;obtain⟨ys,n',hn',hy,hlen,hyl,hf⟩:=DataW.trod_struct he ht';obtain⟨_,KL,ZX⟩:=World.cells?_some hc;simp only[Prod.mk.injEq]at hy;refine⟨ys,n',hy.1,hy.2,hyl,fun j f hj=> ?_⟩;obtain⟨ho,hk⟩:=hone_of akU j f hj;have hjl:j<fs.size:=(Array.getElem?_eq_some_iff.1 hj).1;have aim:=ZX j hjl;have hv:cs'[j]? =some (cs'[j]'og):=List.getElem?_eq_getElem og;have h1:=hf j f hj;rw[ho,hk]at h1;have ain:(cs'.drop j).take 1=[cs'[j]'og]:=by
   rw[List.drop_eq_getElem_cons og];rfl
  rw[ain]at h1;have hys:ys[j]? =some (ys[j]'og):=List.getElem?_eq_getElem og;refine⟨_,_,?_,hys,h1.trans hys⟩;rw[<-Go.Deep.add_add,aim,hv]
end
section
variable{H:Type}{enc:TypeId×Value->H}{P:Program}
def Gt{f:Func}{s:ChangeSpec}{apart fresh handsOn again:Bool}{W W':World}{args:Array Value}{v:Value}{ds gs:List (DataW H)}{before pa pv:List MemPlace}(hW:DataW.Whole enc P f.params.toList s.vars apart W args.toList ds gs before)(aio:∀ (b:Nat) (sp:Nat->Bool) (hd:Bool),DataW.TrodAll enc P W' b sp hd f.resultTypes.toList (v.resultList f.resultTypes.size) (s.fn H (ds++gs)).results [])(ady:∀ sp:Nat->Bool,(∀ p∈before,sp p.block=true)->DataW.TrodAll enc P W' 0 sp true f.params.toList args.toList (s.fn H (ds++gs)).args pa)(adz:∀ sp:Nat->Bool,(∀ p∈before,sp p.block=true)->DataW.TrodVars enc P W' sp s.vars (s.fn H (ds++gs)).vars pv)(hps:before=pa++pv)(hb:Below W.heap.size W W')(uX:∀ (j:Nat) (t:TypeId) (r:Value),f.resultTypes[j]? =some t->(v.resultList f.resultTypes.size)[j]? =some r->Value.okWide P W' .any 0 t r):s.post enc P f apart fresh handsOn again W args v W':=by
 have sW:∀ p∈before,p.block<W.heap.size:=fun p hp=>hW.lt p hp;have dX:∀ p∈before,(fun b=>decide (b<W.heap.size)) p.block=true:=fun p hp=>by simpa using sW p hp
 refine⟨ds,gs,before,[],pa,pv,hW,aio _ _ _,ady _ dX,adz _ dX,World.keptBut_mono (fun p hp=>⟨hp,?_⟩) (hb.frame (· ∈before)),fun _=> ?_⟩
 ·rw[hps,List.mem_append]at hp;exact Or.inr hp
 ·obtain⟨_,_,_,_,_,hz,hn⟩:=hW;refine⟨uX,_,_,([]++pa)++pv,⟨[]++pa,pv,trodAll_append (ady _ fun _ _=>rfl) (aio _ _ _),adz _ fun _ _=>rfl,rfl,?_,?_⟩,?_⟩
  ·intro b off hp;have xH:MemPlace.cell b off∈before:=by rw[hps];simpa using hp
   rw[hb.frozen (sW _ xH)];exact hz b off xH
  ·intro ha;have:=hn ha;rw[hps]at this;simpa using this
  ·intro p hp _;rw[hps];simpa using hp
end
def rj{P:Program}{f:FuncId}{args:List Value}{pre:List aG}(hs:Spec P f args pre fun v H1=>v= .bool true/\H1=[])(Sl:∀ e∈pre,e.wr=false){w:World}(hg:Good pre w):Calls P f args.toArray w fun e w'=>e= .returned (.bool true)/\Below w.heap.size w w':=by
 refine(hs w hg).mono ?_;rintro e w' ⟨v,H1,rfl,⟨rfl,rfl⟩,_,hx⟩;have hn:∀ b o,¬cx pre b o:=fun b o ⟨e,he,Qo,_⟩=>by rw[Sl e he]at Qo;cases Qo
 exact⟨rfl,hx.fq.os,hx.fq.tape,hx.fq.output,hx.fq.size,fun k hk=>hx.fq.same k hk fun o=>hn k o⟩
def N8{n:Int}(h:(Lit.int .i64 n).wf=true): -9223372036854775808<=n/\n<=9223372036854775807:=by
 simpa [Lit.wf,IntKind.min,IntKind.max,IntKind.signed,IntKind.bits]using h
def aeJ{n:Int}(h:(Lit.int .u64 n).wf=true):0<=n/\n<=18446744073709551615:=by
 simpa [Lit.wf,IntKind.min,IntKind.max,IntKind.signed,IntKind.bits]using h
def aaK{w:World}{v:Value}(h:w.cell? (a.add 0)=some v):a.spot=none:=by
 have h:w.cell? a=some v:=h;cases hsp:a.spot with
 | none=>rfl
 | some s=>
  unfold World.cell? at h;cases hb:w.heap[a.block]? with
  | none=>simp[hb]at h
  | some o=>cases o<;>simp[hb,hsp]at h
def vf{w:World}{n:Nat}{C:Nat->Value}(hn:0<n)(h:∀ i,i<n->w.cell? (a.add i)=some (C i)):(aG.ro a.block a.off n C).holds w:=by
 have h0:=h 0 hn;have h0':w.cell? a=some (C 0):=h0;have iZ:∀ i,i<n->w.cell? ⟨a.block,a.off+i,none⟩=some (C i):=fun i hi=>by
  cases i with
  | zero=>
   have hs:a.spot=none:=by
    cases hsp:a.spot with
    | none=>rfl
    | some s=>
     unfold World.cell? at h0';cases hb:w.heap[a.block]? with
     | none=>simp[hb]at h0'
     | some o=>cases o<;>simp[hb,hsp]at h0'
   have:a=⟨a.block,a.off,none⟩:=by cases a;simp_all
   rw[this]at h0';simpa using h0'
  | succ i=>simpa [Addr.add]using h (i+1) hi
 have k0:=iZ 0 hn;unfold World.cell? at k0;cases hb:w.heap[a.block]? with
 | none=>simp[hb]at k0
 | some o=>
  cases o with
  | cells A t fz=>
   refine⟨A,t,fz,hb,fun i hi=> ?_⟩;have:=iZ i hi;simpa [World.cell?,hb]using this
  | _=>simp[hb]at k0
def aaL{w:World}{len:Nat}(hlen:0<len)(h:∀ i,i<len->∃ x:jA,x.ok/\∀ j,j<8->w.cell? (a.add (i*8+j))=some (gM x j)):∃ A:Int->jA,(∀ z:Int,0<=z->z<len->(A z).ok)/\Good [.ro a.block a.off (8*len) (fY A)] w:=by
 classical
 let A:Int->jA:=fun z=>if hz:z.toNat<len then Classical.choose (h z.toNat hz)else⟨⟨#[]⟩,0,0,0,0,false,⟨#[]⟩,⟨#[]⟩⟩
 have hA:∀ i:Nat,(hi:i<len)->A (i:Int)=Classical.choose (h i hi):=fun i hi=>by simp[A,hi]
 refine⟨A,fun z h0 h1=> ?_,fun e he=> ?_,sq⟩
 ·have hz:z.toNat<len:=og;have:A z=A (z.toNat:Int):=by rw[show((z.toNat:Nat):Int)=z from og]
  rw[this,hA _ hz];exact(Classical.choose_spec (h z.toNat hz)).1
 ·have:e= .ro a.block a.off (8*len) (fY A):=by simpa using he
  subst this;refine vf og fun i hi=> ?_;have hd:i/8<len:=og;have h1:=(Classical.choose_spec (h (i/8) hd)).2 (i%8) og;rw[show i/8*8+i%8=i from og]at h1;rw[h1];unfold fY;rw[hA _ hd]
end Go.X

namespace Go.Proofs.YthdinakloheinaaGreatDoor
open Go Go.Proofs
def jg0(P:Program)(f:FuncId)(fn:Func)(s:ChangeSpec)(c:OpenClaim):Bool:=c.wf (OpenSpec.ofChange s)
def jg1(P:Program)(f:FuncId)(fn:Func)(s:ChangeSpec)(c:OpenClaim):Bool:=laidOutB P
def jg2(P:Program)(f:FuncId)(fn:Func)(s:ChangeSpec)(c:OpenClaim):Bool:=mapsRowed P
def jg3(P:Program)(f:FuncId)(fn:Func)(s:ChangeSpec)(c:OpenClaim):Bool:=fn.params.all (P.readableRec ·)&&namedTie P c.named s.vars
def jg4(P:Program)(f:FuncId)(fn:Func)(s:ChangeSpec)(c:OpenClaim):Bool:=(c.stops==[])&&(P.stops==[])&&(c.knobs==[])&&(P.stopKnobs==[])
def jg5(P:Program)(f:FuncId)(fn:Func)(s:ChangeSpec)(c:OpenClaim):Bool:=(c.inPlace==P.inPlace f)
def jg6(P:Program)(f:FuncId)(fn:Func)(s:ChangeSpec)(c:OpenClaim):Bool:=(c.unfollowed==P.unfollowed f)
def jg7(P:Program)(f:FuncId)(fn:Func)(s:ChangeSpec)(c:OpenClaim):Bool:=(c.recurses==P.recurses f)
def jg8(P:Program)(f:FuncId)(fn:Func)(s:ChangeSpec)(c:OpenClaim):Bool:=(c.named==P.varsNamed f)
def jg9(P:Program)(f:FuncId)(fn:Func)(s:ChangeSpec)(c:OpenClaim):Bool:=(c.maps==(fn.params.toList++s.plain.varTypes P).any (P.mapsRec ·))&&(c.ifaces==(fn.params.toList++s.plain.varTypes P).any (P.ifacesRec ·))&&(c.mapsOut==P.mapsAmong fn.resultTypes.toList)&&(c.loops==(fn.params.toList++s.plain.varTypes P).any (P.loopsFrom ·))&&(c.wideKeys==(fn.params.toList++s.plain.varTypes P++fn.resultTypes.toList).any (P.wideKeysFrom ·))
def aeK(P:Program)(f:FuncId)(fn:Func)(s:ChangeSpec)(c:OpenClaim):Bool:=s.vars.all (P.varReadable ·)
def aeL(P:Program)(f:FuncId)(fn:Func)(s:ChangeSpec)(c:OpenClaim):Bool:=fn.resultTypes.all (fun t=>P.readableRec t&&decide (t<P.types.size))&&(c.ifacesOut==fn.resultTypes.toList.any (P.ifacesRec ·))&&(c.loopsOut==fn.resultTypes.toList.any (P.loopsFrom ·))
def aeM(P:Program)(f:FuncId)(fn:Func)(s:ChangeSpec)(c:OpenClaim):Bool:=(c.plainKeys==P.plainKeys)
def aeN(P:Program)(f:FuncId)(fn:Func)(s:ChangeSpec)(c:OpenClaim):Bool:=c.shortTexts.isNone&&P.stopsHeard
def aeO(P:Program)(f:FuncId)(fn:Func)(s:ChangeSpec)(c:OpenClaim):Bool:=P.mayEnter
def aeP(P:Program)(f:FuncId)(fn:Func)(s:ChangeSpec)(c:OpenClaim):Bool:=(c.lifted==P.liftsFinal)
def aeQ(P:Program)(f:FuncId)(fn:Func)(s:ChangeSpec)(c:OpenClaim):Bool:=(P.make==some c.make)
def aeR(P:Program)(f:FuncId)(fn:Func)(s:ChangeSpec)(c:OpenClaim):Bool:=(c.kinds==(if c.domain.isEmpty then []else fn.params.toList.map fun t=>match P.underlying t with | some (.int k)=>some k | _=>none))&&(c.pinned==c.pinnedBy)
def aeS(P:Program)(f:FuncId)(fn:Func)(s:ChangeSpec)(c:OpenClaim):Bool:=(c.veiled==(fn.params.toList++s.plain.varTypes P++fn.resultTypes.toList).any (P.veiledRec ·))&&c.veiledFits P fn.params.toList (fn.params.toList++s.plain.varTypes P++fn.resultTypes.toList)
def Wc{P:Program}{f:FuncId}{fn:Func}{s:ChangeSpec}{c:OpenClaim}(k0:jg0 P f fn s c=true)(k1:jg1 P f fn s c=true)(k2:jg2 P f fn s c=true)(k3:jg3 P f fn s c=true)(k4:jg4 P f fn s c=true)(k5:jg5 P f fn s c=true)(k6:jg6 P f fn s c=true)(k7:jg7 P f fn s c=true)(k8:jg8 P f fn s c=true)(k9:jg9 P f fn s c=true)(k10:aeK P f fn s c=true)(k11:aeL P f fn s c=true)(k12:aeM P f fn s c=true)(k13:aeN P f fn s c=true)(k14:aeO P f fn s c=true)(k15:aeP P f fn s c=true)(k16:aeQ P f fn s c=true)(k17:aeR P f fn s c=true)(k18:aeS P f fn s c=true):joinedFacts P f fn s c=true:=by
 simp only[jg0,jg1,jg2,jg3,jg4,jg5,jg6,jg7,jg8,jg9,aeK,aeL,aeM,aeN,aeO,aeP,aeQ,aeR,aeS,Bool.and_eq_true]at k0 k1 k2 k3 k4 k5 k6 k7 k8 k9 k10 k11 k12 k13 k14 k15 k16 k17 k18;simp only[joinedFacts,Bool.and_eq_true];exact⟨⟨⟨⟨⟨⟨⟨⟨⟨⟨⟨⟨⟨⟨⟨⟨⟨⟨⟨⟨⟨⟨⟨⟨⟨⟨⟨⟨⟨⟨⟨k0,k1⟩,k2⟩,k3.1⟩,k3.2⟩,k4.1.1.1⟩,k4.1.1.2⟩,k4.1.2⟩,k4.2⟩,k5⟩,k6⟩,k7⟩,k8⟩,k9.1.1.1.1⟩,k9.1.1.1.2⟩,k9.1.1.2⟩,k9.1.2⟩,k9.2⟩,k10⟩,k11.1.1⟩,k11.1.2⟩,k11.2⟩,k12⟩,k13.1⟩,k13.2⟩,k14⟩,k15⟩,k16⟩,k17.1⟩,k17.2⟩,k18.1⟩,k18.2⟩
abbrev Hl:ChangeSpec:=(OpenSpec.ofChange Rows.topGoneSpec).bare
def jf0:jg0 Tryz.prog 11 Tryz.f11 Hl Rows.topGoneRow=true:=by kernel_rfl
def jf1:jg1 Tryz.prog 11 Tryz.f11 Hl Rows.topGoneRow=true:=by kernel_rfl
def jf2:jg2 Tryz.prog 11 Tryz.f11 Hl Rows.topGoneRow=true:=by kernel_rfl
def jf3:jg3 Tryz.prog 11 Tryz.f11 Hl Rows.topGoneRow=true:=by kernel_rfl
def jf4:jg4 Tryz.prog 11 Tryz.f11 Hl Rows.topGoneRow=true:=by kernel_rfl
def jf5:jg5 Tryz.prog 11 Tryz.f11 Hl Rows.topGoneRow=true:=by kernel_rfl
def jf6:jg6 Tryz.prog 11 Tryz.f11 Hl Rows.topGoneRow=true:=by kernel_rfl
def jf7:jg7 Tryz.prog 11 Tryz.f11 Hl Rows.topGoneRow=true:=by kernel_rfl
def jf8:jg8 Tryz.prog 11 Tryz.f11 Hl Rows.topGoneRow=true:=by kernel_rfl
def jf9:jg9 Tryz.prog 11 Tryz.f11 Hl Rows.topGoneRow=true:=by kernel_rfl
def ala:aeK Tryz.prog 11 Tryz.f11 Hl Rows.topGoneRow=true:=by kernel_rfl
def alb:aeL Tryz.prog 11 Tryz.f11 Hl Rows.topGoneRow=true:=by kernel_rfl
def alc:aeM Tryz.prog 11 Tryz.f11 Hl Rows.topGoneRow=true:=by kernel_rfl
def ald:aeN Tryz.prog 11 Tryz.f11 Hl Rows.topGoneRow=true:=by kernel_rfl
def ale:aeO Tryz.prog 11 Tryz.f11 Hl Rows.topGoneRow=true:=by kernel_rfl
def alf:aeP Tryz.prog 11 Tryz.f11 Hl Rows.topGoneRow=true:=by kernel_rfl
def alg:aeQ Tryz.prog 11 Tryz.f11 Hl Rows.topGoneRow=true:=by kernel_rfl
def alh:aeR Tryz.prog 11 Tryz.f11 Hl Rows.topGoneRow=true:=by kernel_rfl
def ali:aeS Tryz.prog 11 Tryz.f11 Hl Rows.topGoneRow=true:=by kernel_rfl
def aeT:joinedFacts Tryz.prog 11 Tryz.f11 Hl Rows.topGoneRow=true:=
 Wc jf0 jf1 jf2 jf3 jf4 jf5 jf6 jf7 jf8 jf9 ala alb alc ald ale alf alg alh ali
end Go.Proofs.YthdinakloheinaaGreatDoor
