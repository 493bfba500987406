import Derived.Test.YthdinakloheinaaGreatDoorXLay
import Derived.Laws.AppendOwn
set_option linter.all false
namespace Go.X
open Go
variable{z:Int}{x y:Operand}{v:Value}
def rh(P:Program)(e:TypeId)(sz:Nat):Bool:=match P.info? e with
 | some i=>Nat.beq i.size sz&&Nat.ble i.bytes 1000&&Nat.blt 0 sz&&(match i.zero with
  | some z=>Nat.beq z.cells.size sz
  | none=>false)
 | none=>false
def qi{P:Program}{e:TypeId}{sz:Nat}(h:rh P e sz=true):∃ i z,P.info? e=some i/\i.zero=some z/\i.size=sz/\i.bytes<=1000/\z.cells.size=sz/\0<sz:=by
 unfold rh at h;cases hi:P.info? e with
 | none=>simp[hi]at h
 | some i=>
  simp only[hi]at h;cases hz:i.zero with
  | none=>simp[hz]at h
  | some z=>
   simp only[hz,Bool.and_eq_true,Nat.beq_eq]at h;obtain⟨⟨⟨h1,h2⟩,h3⟩,h4⟩:=h;exact⟨i,z,rfl,hz,h1,Nat.le_of_ble_eq_true h2,h4,by simpa using h3⟩
def bV(C:Nat->Value)(m:Nat):List Value:=(List.range m).map C
def XM.fc{W w:World}{S:Nat->Nat->Prop}{H:List aK}(h:XM W S H w)(e:TypeId)(sz:Nat):XM W S (.row (.slice none 0 0) e sz 0 []::H) w:=
 h.fresh (fun b o hb=>by simp[aK.fT,Value.ownBlock]at hb) (gH.refl _ _) (World.ownsRow_nil w 0 e sz)
def jL(w:World)(o:Obj)(S:Nat->Nat->Prop):gH w (w.alloc o) S:=
 ⟨rfl,rfl,rfl,sq,fun b hb _=>heap_alloc_old w _ hb,fun b A' t' fz hA=>⟨A',by rw[heap_alloc_old w _ (eh hA)];exact hA,rfl,fun _ _=>rfl⟩⟩
def uz{w w':World}{S:Nat->Nat->Prop}(h:gH w.drew w' S):gH w w' S:=⟨h.os,h.tape,h.output,h.size,h.same,h.part⟩
def ID{w:World}{g:Nat}{GM cs:Array Value}{t:TypeId}{fz:Nat×Nat}(hg:w.heap[g]? =some (.cells GM t fz))(hs:cs.size=GM.size){S:Nat->Nat->Prop}(hS:∀ o,S g o):gH w (w.setRow g cs) S:=by
 refine⟨rfl,rfl,rfl,sq,fun k hk hn=>setRow_other w g k _ fun e=>hn 0 (e▸hS 0),fun k A' t' fz' hA=> ?_⟩;by_cases hk:k=g
 ·subst hk;rw[hg]at hA;simp only[Option.some.injEq,Obj.cells.injEq]at hA;obtain⟨rfl,rfl,rfl⟩:=hA;exact⟨cs,setRow_heap w k GM cs _ _ hg,hs,fun o ho=>absurd (hS o) ho⟩
 ·exact⟨A',by rw[setRow_other w g k _ hk];exact hA,rfl,fun _ _=>rfl⟩
def oF{P:Program}{w:World}{t ty e:TypeId}{p:Option Addr}{k cap m c sz b:Nat}{xs news:List Value}(ht:P.underlying t=some (.slice e))(hr:rh P e sz=true)(gL:(aK.row (.slice p k cap) e sz k xs).holds w)(hm:0<m)(hl:news.length=m*sz)(R9:∀ j u,news[j]? =some u->w.cell? ((⟨b,0,none⟩:Addr).add j)=some u)(h1:∀ u∈news,u.oneCell'=true)(hk:k+m<=100000000000):∃ p' cL w',(Builtin.append_ #[t,t] ty #[.slice p k cap,.slice (some ⟨b,0,none⟩) m c]).run P w= .ok (.slice p' (k+m) cL) w'/\(aK.row (.slice p' (k+m) cL) e sz (k+m) (xs++news)).holds w'/\gH w w' (fun b o=>(aK.row (.slice p k cap) e sz k xs).fT b o)/\(∀ b o,(aK.row (.slice p' (k+m) cL) e sz (k+m) (xs++news)).fT b o->(aK.row (.slice p k cap) e sz k xs).fT b o\/w.heap.size<=b):=by
 obtain⟨i,z,hi,hz,po,ZO,Wm,Nq⟩:=qi hr;subst po;have vU:k+m<=maxLen:=by simp only[maxLen];omega
 have hlen:(xs++news).length=(k+m)*i.size:=by rw[List.length_append,gL.1,hl,Nat.add_mul]
 have vV:(k+m)*i.bytes<=140737488355328:=Nat.le_trans (Nat.mul_le_mul hk ZO) og;have grown:∀ (GM:Nat),
   (aK.row (.slice (some ⟨w.heap.size,0,none⟩) (k+m) (grownCap w (k+m) GM e)) e i.size (k+m) (xs++news)).holds (w.drew.alloc (.cells (xs.toArray++news.toArray++Builtin.zeroCells z.cells (grownCap w (k+m) GM e-(k+m))) e)):=by
  intro GM;have Ls:=grownCap_ge w (k+m) GM e;have Pj:grownCap w (k+m) GM e<=maxLen:=grownCap_le_maxLen w (k+m) GM e vU;refine⟨hlen,.inr ⟨w.heap.size,_,_,rfl,Nat.zero_le _,heap_alloc_new w.drew _,Ls,Pj,?_,?_⟩⟩
  ·simp only[Array.size_append,List.size_toArray,size_zeroCells,Wm,gL.1,hl,<-Nat.add_mul];simp_all
  grind
 have ZP:∀ (o:Obj) S,gH w (w.drew.alloc o) S:=fun o S=>uz (jL w.drew o S);have ZQ:=gL;rcases gL.2 with⟨hv,rfl⟩ | ⟨g,vW,cur,hv,_,hg,hnc,Pj,Bw,aiJ⟩
 ·simp only[Value.slice.injEq]at hv;obtain⟨rfl,_,rfl⟩:=hv;have hx:xs=[]:=List.eq_nil_of_length_eq_zero (by simpa using gL.1);subst hx;have hr:=run_append_nil (P:=P) w t ty e i z ht hi hz ⟨b,0,none⟩ m c news hl R9 hm (by simp only[maxLen]at vU;omega) (by simp only[Nat.zero_add]at vV;omega);have hgr:=grown 0;simp only[Nat.zero_add,List.nil_append,Array.empty_append]at hgr ⊢;exact⟨_,_,_,hr,hgr,ZP _ _,fun b' o hb=>.inr (by simp only[aK.fT,Value.ownBlock,Option.some.injEq]at hb;omega)⟩
 ·simp only[Value.slice.injEq,true_and]at hv;obtain⟨rfl,rfl⟩:=hv;by_cases lD:k+m<=cap
  ·have ad4:k*i.size+news.length<=cur.size:=by rw[hl,Bw,<-Nat.add_mul];exact Nat.mul_le_mul_right _ lD
   have hr:=run_append_room (P:=P) w t ty e i ht hi g k cap cur hg ⟨b,0,none⟩ m c news hl R9 h1 lD ad4;have ad5:(cur.toList.take (k*i.size)++news++cur.toList.drop (k*i.size+news.length)).toArray.size=cur.size:=by
    grind
   refine⟨_,_,_,hr,⟨hlen,.inr ⟨g,cap,_,rfl,Nat.zero_le _,setRow_heap w g cur _ e _ hg,lD,Pj,ad5.trans Bw,?_⟩⟩,ID hg ad5 fun _=>rfl,fun b' o hb=>.inl hb⟩;grind
  ·have holds:∀ j u,xs[j]? =some u->w.cell? ((⟨g,0,none⟩:Addr).add j)=some u:=World.ownsRow.cells ZQ (g:=g) rfl;have hr:=run_append_grow (P:=P) w t ty e i z ht hi hz ⟨g,0,none⟩ k cap xs ZQ.1 holds ⟨b,0,none⟩ m c news hl R9 og (by simp only[maxLen]at vU;omega) (growslice_fits og vV);exact⟨_,_,_,hr,grown cap,ZP _ _,fun b' o hb=>.inr (by simp only[aK.fT,Value.ownBlock,Option.some.injEq]at hb;omega)⟩
section
variable {P:Program} {n:Fr} {Q:Exit->Act->World->Prop} {L:PF} {ops:Md} {bU:List Oper} {ty:TypeId} {pos:String} {af:Array Edge} {d:Nat}
variable {W:World} {S:Nat->Nat->Prop} {H H':List aK}
theorem ri{a:Act}(ha:nR n L a):∀ (l:List (Nat×Operand)) (us:List (Nat×Value)),l.mapM (fun x=>(ev L x.2).map fun u=>(x.1,u))=some us->l.map (fun x=>(x.1,a.eval x.2))=us
 | [],us,h=>by simp at h;subst h;rfl
 | x::r,us,h=>by
  simp only[List.mapM_cons,Option.bind_eq_bind]at h;cases he:ev L x.2 with
  | none=>simp[he]at h
  | some u=>
   simp only[he,Option.map_some,Option.bind_some]at h;cases hr:r.mapM (fun x=>(ev L x.2).map fun u=>(x.1,u))with
   | none=>simp[hr]at h
   | some us'=>
    simp[hr]at h;subst h;simp only[List.map_cons];rw[ri ha r us' hr,ay ha he]
def XO.buildSlice{t e:TypeId}{parts:Array (Nat×Operand)}{vs:Array (Nat×Value)}{k m:Nat}{A:Array Value}(hp:parts.toList.mapM (fun x=>(ev L x.2).map fun u=>(x.1,u))=some vs.toList)(hb:∀ w,(Instr.buildSlice t k vs).run P w= .ok (.slice (some ⟨w.heap.size,0,none⟩) k k) (w.alloc (.cells A e)))(hA:A.size=m)(hd:Nat.blt d n.sz=true)(h:∀ b,XO P n ops Q bU ((d,.slice (some ⟨b,0,none⟩) k k)::L) (XM W S (.cells b 0 m (cellsOf A)::H))):XO P n ops Q (⟨some d,.buildSlice t k parts,ty,pos,af,none⟩::bU) L (XM W S H):=
 XO.op rfl fun a w ha hw=>by
  have nL:=hw.alloc A e (cellsOf A) fun i hi=>gV _ _ hi;rw[hA]at nL;unfold Oper.wp;have hv:parts.map (fun (i,x)=>(i,a.eval x))=vs:=by
   apply Array.toList_inj.1;rw[Array.toList_map];exact ri ha _ _ hp
  have:(execOp a.eval ⟨some d,.buildSlice t k parts,ty,pos,af,none⟩).run P w= .ok (.value (.slice (some ⟨w.heap.size,0,none⟩) k k)) (w.alloc (.cells A e)):=by
   simp only[execOp,hv,Sem.run_bind,hb,Result.andThen_ok,Sem.run_pure]
  rw[this];exact h _ _ _ (ha.put hd _) nL
def XO.append{t e:TypeId}{x y:Operand}{p:Option Addr}{k cap m c sz b N:Nat}{xs:List Value}{C:Nat->Value}(hx:ev L x=some (.slice p k cap))(hy:ev L y=some (.slice (some ⟨b,0,none⟩) m c))(ht:P.underlying t=some (.slice e))(hr:rh P e sz=true)(hH:mT H (.row (.slice p k cap) e sz k xs) H')(hN:kR H (.cells b 0 N C))(WO:N=m*sz)(h1:(bV C N).all one=true)(hm:0<m)(hk:k+m<=100000000000)(hd:Nat.blt d n.sz=true)(h:∀ p' cL,XO P n ops Q bU ((d,.slice p' (k+m) cL)::L) (XM W S (.row (.slice p' (k+m) cL) e sz (k+m) (xs++bV C N)::H'))):XO P n ops Q (⟨some d,.call ⟨.builtin .append,#[x,y],#[t,t]⟩,ty,pos,af,none⟩::bU) L (XM W S H):=
 XO.op rfl fun a w ha hw=>by
  have hc:(aK.cells b 0 N C).holds w:=hw.eT.1 _ hN.mem;have gL:(aK.row (.slice p k cap) e sz k xs).holds w:=hw.eT.1 _ (hH.b8.mem_iff.2 sq);obtain⟨p',cL,w',h3,h4,h5,h6⟩:=oF (ty:=ty) (c:=c) (b:=b) (news:=bV C N) ht hr gL hm (by simp[bV,WO]) (fun j u hj=>by
    simp only[bV,List.getElem?_map,Option.map_eq_some_iff]at hj
    obtain⟨j',hj1,rfl⟩:=hj
    have Lt:j<N:=by
     have:=(List.getElem?_eq_some_iff.1 hj1).1
     simpa using this
    have hj3:j'=j:=by
     have:=(List.getElem?_eq_some_iff.1 hj1).2
     simpa using this.symm
    subst hj3
    have hcc:=ec hc Lt
    have e0:(⟨b,0,none⟩:Addr).add j'=⟨b,0+j',none⟩:=by
     cases j'<;>simp[Addr.add]
    rw[e0];exact hcc) (fun u hu=>oE (List.all_eq_true.1 h1 u hu)) hk
  have AB:=hw.cg hH rfl h6 h5 h4;unfold Oper.wp;have:(execOp a.eval ⟨some d,.call ⟨.builtin .append,#[x,y],#[t,t]⟩,ty,pos,af,none⟩).run P w= .ok (.value (.slice p' (k+m) cL)) w':=by
   simp[execOp,resolve,invoke,builtin,ay ha hx,ay ha hy,h3]
  rw[this];exact h _ _ _ _ (ha.put hd _) AB
def mU{t e:TypeId}{parts:Array (Nat×Operand)}{vs:Array (Nat×Value)}{k sz:Nat}{A:Array Value}(hp:parts.toList.mapM (fun x=>(ev L x.2).map fun u=>(x.1,u))=some vs.toList)(hb:∀ w,(Instr.buildSlice t k vs).run P w= .ok (.slice (some ⟨w.heap.size,0,none⟩) k k) (w.alloc (.cells A e)))(hA:A.size=k*sz)(hk:k<=1000000)(hd:Nat.blt d n.sz=true)(h:∀ b,XO P n ops Q bU ((d,.slice (some ⟨b,0,none⟩) k k)::L) (XM W S (.row (.slice (some ⟨b,0,none⟩) k k) e sz k A.toList::H))):XO P n ops Q (⟨some d,.buildSlice t k parts,ty,pos,af,none⟩::bU) L (XM W S H):=
 XO.op rfl fun a w ha hw=>by
  have nL:XM W S (.row (.slice (some ⟨w.heap.size,0,none⟩) k k) e sz k A.toList::H) (w.alloc (.cells A e)):=by
   refine hw.fresh (fun b o hb=>by simp only[aK.fT,Value.ownBlock,Option.some.injEq]at hb;omega) (jL w _ _) ⟨by simp[hA],.inr ⟨w.heap.size,k,A,rfl,Nat.zero_le _,heap_alloc_new w _,Nat.le_refl _,by simp only[maxLen];omega,hA,?_⟩⟩;rw[<-hA,<-Array.length_toList,List.take_length]
  unfold Oper.wp;have hv:parts.map (fun (i,x)=>(i,a.eval x))=vs:=by
   apply Array.toList_inj.1;rw[Array.toList_map];exact ri ha _ _ hp
  have:(execOp a.eval ⟨some d,.buildSlice t k parts,ty,pos,af,none⟩).run P w= .ok (.value (.slice (some ⟨w.heap.size,0,none⟩) k k)) (w.alloc (.cells A e)):=by
   simp only[execOp,hv,Sem.run_bind,hb,Result.andThen_ok,Sem.run_pure]
  rw[this];exact h _ _ _ (ha.put hd _) nL
theorem cell_of_row{w:World}{g k cap sz j:Nat}{e:TypeId}{xs:List Value}(h:(aK.row (.slice (some ⟨g,0,none⟩) k cap) e sz k xs).holds w)(hj:xs[j]? =some v):w.cell? ⟨g,0+j,none⟩=some v:=by
 have:=World.ownsRow.cells h (g:=g) rfl j v hj;have e0:(⟨g,0,none⟩:Addr).add j=⟨g,0+j,none⟩:=by cases j<;>simp[Addr.add]
 simp_all
def ze{t:TypeId}{g i k cap sz:Nat}{e:TypeId}{xs:List Value}{φ:World->Prop}{gd:Option (Nat×Bool)}(hx:ev L x=some (aC g 0 i))(hH:∀ w,φ w->(aK.row (.slice (some ⟨g,0,none⟩) k cap) e sz k xs).holds w)(hv:xs[i]? =some v)(ht:jw P t=true):bd P n L φ (⟨some d,.load t x,ty,pos,af,gd⟩) v:=fun a w ha hw=>by
 have hc:w.cell? ⟨g,i,none⟩=some v:=by
  grind [cell_of_row]
 simp[execOp,ay ha hx,Instr.loadAt,Instr.sureAddr,aC,gi ht hc]
end
def fL(zs:List Int):List Value:=zs.map (Value.int .i64)
def dg(zs:List Int)(z:Int):Int:=zs.getD z.toNat 0
def ints_at{zs:List Int}(h:0<=z/\z<zs.length:=by omega):(fL zs)[0+z.toNat*1]? =some (.int .i64 (dg zs z)):=by
 grind [fL,dg]
abbrev db(p:Option Addr)(cap:Nat)(e:TypeId)(zs:List Int):aK:=.row (.slice p zs.length cap) e 1 zs.length (fL zs)
def IE(zs:List Int)(z:Int):fL zs++[.int .i64 z]=fL (zs++[z]):=by simp[fL]
section
variable {P:Program} {n:Fr} {Q:Exit->Act->World->Prop} {L:PF} {ops:Md} {bU:List Oper} {ty:TypeId} {pos:String} {af:Array Edge} {d:Nat}
variable {W:World} {S:Nat->Nat->Prop} {H H':List aK}
def jM{t e:TypeId}{p:Option Addr}{cap c b:Nat}{zs:List Int}(hx:ev L x=some (.slice p zs.length cap))(hy:ev L y=some (.slice (some ⟨b,0,none⟩) 1 c))(ht:P.underlying t=some (.slice e))(hr:rh P e 1=true)(hH:mT H (db p cap e zs) H')(hN:kR H (.cells b 0 1 (cellsOf #[.int .i64 z])))(hk:zs.length+1<=100000000000)(hd:Nat.blt d n.sz=true)(h:∀ p' cL,XO P n ops Q bU ((d,.slice p' (zs++[z]).length cL)::L) (XM W S (db p' cL e (zs++[z])::H'))):XO P n ops Q (⟨some d,.call ⟨.builtin .append,#[x,y],#[t,t]⟩,ty,pos,af,none⟩::bU) L (XM W S H):=
 XO.append hx hy ht hr hH hN rfl rfl og hk hd (fun p' cL=>by
  have e1:zs.length+1=(zs++[z]).length:=sq
  have e2:fL zs++bV (cellsOf #[.int .i64 z]) 1=fL (zs++[z]):=IE zs z
  rw[e1,e2]
  exact h p' cL)
def WQ{k:Nat}{ps:List Nat}{cs:List (Nat×Nat)}{fn:Func}{R:Ending->World->Prop}{a b o i m sz:Nat}{t:TypeId}{C:Nat->Value}(hr:fn.results= #[.cell a t])(hv:lk L a=some (aC b o i))(hH:kR H (.cells b o m C))(hC:i+sz<=m/\dc C i sz=v)(ht:nq P t=true)(hs:fk P t=some sz)(h:∀ w,XM W S H w->R (.returned v) w):XE (fr k ps cs) (bodyPost P fn R) .ret L (XM W S H):=fun x w ha hw=>
 ⟨ha.1,v,by
  have hc:(aK.cells b o m C).holds w:=hw.eT.1 _ hH.mem
  have hl:=ji (P:=P) (w:=w) (b:=b) (o:=o) (i:=i) (C:=C) ht hs fun l hl=>ec hc
  rw[hC.2]at hl
  have he:x.tmps.getD a undef= .pointer (some ⟨b,o+i,none⟩):=ha.2.2 a _ hv
  have he2:x.tmps[a]?.getD undef= .pointer (some ⟨b,o+i,none⟩):=by simpa using he
  simp[results,hr,he2,asAddr,hl],h w hw⟩
def GN(f:Int->Int)(m:Nat):Array Value:=((List.range m).map fun (j:Nat)=>Value.int .i64 (f (j:Int))).toArray
def ll{t e:TypeId}{f:Int->Int}{m:Nat}{k:IntKind}{φ:World->Prop}{gd:Option (Nat×Bool)}(hx:ev L x=some (.agg (GN f m)))(hy:ev L y=some (.int k z))(ht:P.underlying t=some (.array m e))(hs:fk P e=some 1)(he:jw P e=true)(hz:0<=z/\z<m:=by omega):bd P n L φ ⟨some d,.index t x y,ty,pos,af,gd⟩ (.int .i64 (f z)):=fun a w ha _=>by
 have h2:z.toNat<m:=og;have h3:((z.toNat:Nat):Int)=z:=og;have hp:(part e (GN f m) (z.toNat*1)).run P w= .ok (.int .i64 (f z)) w:=by
  simp[part,jK he,GN,h2,h3]
 simp only[execOp,ay ha hx,ay ha hy,Instr.index,asIntOf,Sem.run_bind,Sem.run_pure,Result.andThen_ok,run_underlying ht,hz,run_sizeOf hs];simp only[Sem.run_bind,run_sizeOf hs,Result.andThen_ok,hp,true_and,and_self,if_true]
def vX{t e:TypeId}{A:Array Value}{m:Nat}{k:IntKind}{φ:World->Prop}{gd:Option (Nat×Bool)}(hx:ev L x=some (.agg A))(hy:ev L y=some (.int k z))(ht:P.underlying t=some (.array m e))(hs:fk P e=some 1)(he:jw P e=true)(hz:0<=z/\z<m)(hv:A[z.toNat]? =some v):bd P n L φ ⟨some d,.index t x y,ty,pos,af,gd⟩ v:=fun a w ha _=>by
 have hp:(part e A (z.toNat*1)).run P w= .ok v w:=by
  simp[part,jK he,hv]
 simp only[execOp,ay ha hx,ay ha hy,Instr.index,asIntOf,Sem.run_bind,Sem.run_pure,Result.andThen_ok,run_underlying ht,hz,run_sizeOf hs];simp only[Sem.run_bind,run_sizeOf hs,Result.andThen_ok,hp,true_and,and_self,if_true]
end
def encI(f:Int->Int)(m:Nat):Nat->Value:=fun i=>if i<m then .int .i64 (f i)else undef
def Bf(f:Int->Bool)(m:Nat):Array Value:=((List.range m).map fun (j:Nat)=>Value.bool (f (j:Int))).toArray
def ln(f:Int->Bool)(m:Nat):Nat->Value:=fun i=>if i<m then .bool (f i)else undef
def ln.ld(f:Int->Bool)(m:Nat)(z:Int)(h:0<=z/\z<m):0+z.toNat*1<m/\ln f m (0+z.toNat*1)= .bool (f z):=by
 grind [ln]
theorem encI.st(f:Int->Int)(m:Nat)(z v:Int)(h:0<=z/\z<m):0+z.toNat*1<m/\dE (encI f m) (0+z.toNat*1) (.int .i64 v)=encI (ae f z v) m:=by
 grind [dE,encI,ae]
theorem ln.st(f:Int->Bool)(m:Nat)(z:Int)(v:Bool)(h:0<=z/\z<m):0+z.toNat*1<m/\dE (ln f m) (0+z.toNat*1) (.bool v)=ln (ae f z v) m:=by
 grind [dE,ln,ae]
def E7(f:Int->Bool)(m:Nat):(Bf f m).size=m:=by simp[Bf]
theorem ln.box(f:Int->Bool)(m:Nat):∀ i,i<m->cellsOf (Bf f m) i=ln f m i:=fun i hi=>by simp[cellsOf,Bf,ln,hi]
end Go.X

namespace Go.X
open Go
variable{x y:Operand}{p:Option Addr}{v:Value}
abbrev aS(p:Option Addr)(cap:Nat)(e:TypeId)(sz k:Nat)(C:Nat->Value):aK:=.row (.slice p k cap) e sz k (bV C (k*sz))
theorem gj{C:Nat->Value}{m i:Nat}(h:i<m):(bV C m)[i]? =some (C i):=by simp[bV,h]
theorem bQ(C:Nat->Value)(m:Nat):(bV C m).length=m:=by simp[bV]
theorem Lu(C:Nat->Value)(m i:Nat)(v:Value):(bV C m).set i v=bV (dE C i v) m:=by
 apply List.ext_getElem?;grind [dE,bV]
theorem zf{w:World}{g cap sz k i:Nat}{e:TypeId}{C:Nat->Value}(h:(aS (some ⟨g,0,none⟩) cap e sz k C).holds w)(hi:i<k*sz):w.cell? ⟨g,i,none⟩=some (C i):=by
 grind [cell_of_row,gj]
def od{w:World}{g cap sz k:Nat}{e:TypeId}{xs:List Value}(h:(aK.row (.slice (some ⟨g,0,none⟩) k cap) e sz k xs).holds w):∃ cur,w.heap[g]? =some (.cells cur e (0,0))/\k<=cap/\cap<=maxLen/\cur.size=cap*sz/\cur.toList.take (k*sz)=xs:=by
 rcases h.2 with⟨hv,_⟩ | ⟨g',cL,cur,hv,_,h1,h2,h3,h4,h5⟩;all_goals simp_all
def XM.Nr{W w:World}{S:Nat->Nat->Prop}{H H':List aK}{g cap sz k i:Nat}{e:TypeId}{C:Nat->Value}(h:XM W S H w)(hd:mT H (aS (some ⟨g,0,none⟩) cap e sz k C) H')(hi:i<k*sz)(v:Value):XM W S (aS (some ⟨g,0,none⟩) cap e sz k (dE C i v)::H') (w.setCell ⟨g,i,none⟩ v):=by
 have hh:(aS (some ⟨g,0,none⟩) cap e sz k C).holds w:=h.eT.1 _ (hd.b8.mem_iff.2 sq);obtain⟨cur,h1,h2,h3,h4,h5⟩:=od hh;have hS:(aS (some ⟨g,0,none⟩) cap e sz k C).fT g (0+i):=rfl;have hk:gH w (w.setCell ⟨g,i,none⟩ v) (fun b o=>(aS (some ⟨g,0,none⟩) cap e sz k C).fT b o):=by
  have:=gH.setCell h1 v hS;simp_all
 refine h.cg (e':=aS (some ⟨g,0,none⟩) cap e sz k (dE C i v)) hd rfl (fun b' o' ha=>.inl ha) hk ?_;refine⟨by rw[bQ],.inr ⟨g,cap,cur.setIfInBounds i v,rfl,Nat.zero_le _,by simp[World.setCell,Array.getElem?_modify,h1],h2,h3,by simpa using h4,?_⟩⟩;grind [List.take_set,Lu]
section
variable {P:Program} {n:Fr} {Q:Exit->Act->World->Prop} {L:PF} {ops:Md} {bU:List Oper} {ty:TypeId} {pos:String} {af:Array Edge} {d:Nat}
variable {W:World} {S:Nat->Nat->Prop} {H H':List aK}
def sU{w:World}{g cap sz k i:Nat}{e:TypeId}{C:Nat->Value}(h:(aS (some ⟨g,0,none⟩) cap e sz k C).holds w)(hi:i<k*sz)(hv:one v=true):(store ⟨g,i,none⟩ v).run P w= .ok () (w.setCell ⟨g,i,none⟩ v):=by
 rw[run_store P w _ v .plain (oE hv),zf h hi];obtain⟨cur,h1,h2,h3,h4,h5⟩:=od h;have:w.frozen? ⟨g,i,none⟩=false:=by
  simp only[World.frozen?,h1];simp
 simp[this]
def vx{g cap sz k:Nat}{e:TypeId} :∀ (vs:List Value) (i j:Nat) (C:Nat->Value) (w:World),XM W S (aS (some ⟨g,0,none⟩) cap e sz k C::H) w->i+j+vs.length<=k*sz->vs.all one=true->
  ∃ w',(storeCells ⟨g,i,none⟩ vs j).run P w= .ok () w'/\XM W S (aS (some ⟨g,0,none⟩) cap e sz k (cB C (i+j) vs)::H) w'
 | [],i,j,C,w,h,_,_=>⟨w,by simp[storeCells],h⟩
 | v::r,i,j,C,w,h,hl,h1=>by
  simp only[List.all_cons,Bool.and_eq_true]at h1;simp only[List.length_cons]at hl;have h2:=h.Nr .aa (i:=i+j) og v;obtain⟨w',hr,hx⟩:=vx r i (j+1) _ _ h2 og h1.2;refine⟨w',?_,by simpa only[cB,Nat.add_assoc]using hx⟩;simp only[storeCells,Sem.run_bind,oD];rw[show(⟨g,i,none⟩:Addr).add j=⟨g,i+j,none⟩from by
   have:=oD g 0 i j
   simpa only[Nat.zero_add]using this,sU (show(aS (some ⟨g,0,none⟩) cap e sz k C).holds w from h.eT.1 _ sq) og h1.1]
  exact hr
def B8{t:TypeId}{g cap sz k i m:Nat}{e:TypeId}{C:Nat->Value}{cs:Array Value}{a:Act}{w:World}(ha:nR n L a)(hx:ev L x=some (aC g 0 i))(hy:ev L y=some (.agg cs))(hw:XM W S (aS (some ⟨g,0,none⟩) cap e sz k C::H) w)(hi:i+m<=k*sz)(hv:cs.toList.all one=true/\cs.size=m)(hs:fk P t=some m):∃ w',(execOp a.eval ⟨none,.store t x y,ty,pos,af,none⟩).run P w= .ok .skip w'/\XM W S (aS (some ⟨g,0,none⟩) cap e sz k (cB C i cs.toList)::H) w':=by
 obtain⟨w',hr,nL⟩:=vx (P:=P) cs.toList i 0 C w hw (by simp;omega) hv.1;simp only[Nat.add_zero]at nL;exact⟨w',by simp[execOp,ay ha hx,ay ha hy,Instr.storeAt,Instr.sureAddr,aC,storeVar,Value.cells,run_sizeOf hs,hv.2,hr],nL⟩
def XO.WR{t:TypeId}{g cap sz k i m:Nat}{e:TypeId}{C C':Nat->Value}{cs:Array Value}(hx:ev L x=some (aC g 0 i))(hy:ev L y=some (.agg cs))(hH:nK H (aS (some ⟨g,0,none⟩) cap e sz k C) (aS (some ⟨g,0,none⟩) cap e sz k C') H')(hi:i+m<=k*sz/\cB C i cs.toList=C')(hv:cs.toList.all one=true/\cs.size=m)(hs:fk P t=some m)(h:XO P n ops Q bU L (XM W S H')):XO P n ops Q (⟨none,.store t x y,ty,pos,af,none⟩::bU) L (XM W S H):=
 XO.op rfl fun a w ha hw=>by
  obtain⟨H1,hd,hp⟩:=hH.ZM;obtain⟨w',hr,nL⟩:=B8 (ty:=ty) (pos:=pos) (af:=af) ha hx hy (hw.b8 hd.b8) hi.1 hv hs;rw[hi.2]at nL;unfold Oper.wp;rw[hr];exact h _ _ ha (nL.b8 hp)
def WS{t:TypeId}{g i k cap sz:Nat}{e:TypeId}{C:Nat->Value}{φ:World->Prop}{gd:Option (Nat×Bool)}(hx:ev L x=some (aC g 0 i))(hH:∀ w,φ w->(aS (some ⟨g,0,none⟩) cap e sz k C).holds w)(hv:i<k*sz/\C i=v)(ht:jw P t=true):
  bd P n L φ (⟨some d,.load t x,ty,pos,af,gd⟩) v:=ze hx hH (by rw[gj hv.1,hv.2]) ht
def Sa{t:TypeId}{g i k cap sz m:Nat}{e:TypeId}{C:Nat->Value}{φ:World->Prop}{gd:Option (Nat×Bool)}(hx:ev L x=some (aC g 0 i))(hH:∀ w,φ w->(aS (some ⟨g,0,none⟩) cap e sz k C).holds w)(hv:i+m<=k*sz/\dc C i m=v)(ht:nq P t=true)(hs:fk P t=some m):bd P n L φ (⟨some d,.load t x,ty,pos,af,gd⟩) v:=fun a w ha hw=>by
 have hr:=ji (P:=P) (w:=w) (b:=g) (o:=0) (i:=i) (C:=C) ht hs (fun l hl=>by
  have:=zf (hH w hw) (i:=i+l) og
  rwa[Nat.zero_add])
 rw[hv.2]at hr;simp only[Nat.zero_add]at hr;simp[execOp,ay ha hx,Instr.loadAt,Instr.sureAddr,aC,hr]
def XO.Sb{t e0:TypeId}{k k2 cap sz:Nat}{kk:IntKind}{z:Int}{e:TypeId}{C C':Nat->Value}(hx:ev L x=some (.slice p k cap))(hy:ev L y=some (.int kk z))(ht:P.underlying t=some (.slice e0))(hs:fk P e0=some sz)(hz:z=(k2:Int))(Eg:k2<=k)(hk:k<=cap)(hC:∀ i,i<k2*sz->C' i=C i)(hH:nK H (aS p cap e sz k C) (aS p cap e sz k2 C') H')(hd:Nat.blt d n.sz=true)(h:XO P n ops Q bU ((d,.slice p k2 cap)::L) (XM W S H')):XO P n ops Q (⟨some d,.slice t x none (some y) none,ty,pos,af,none⟩::bU) L (XM W S H):=
 XO.mono (M':=XM W S H') (fun w hw=>by
  obtain⟨H1,ad7,hp⟩:=hH.ZM
  have gL:(aS p cap e sz k C).holds w:=hw.eT.1 _ (ad7.b8.mem_iff.2 sq)
  have agL:(aS p cap e sz k2 C').holds w:=by
   refine⟨by rw[bQ],?_⟩
   rcases gL.2 with⟨hv,hk0⟩ | ⟨g,cL,cur,hv,h0,h1,h2,h3,h4,h5⟩
   ·simp only[Value.slice.injEq]at hv
    obtain⟨rfl,rfl,rfl⟩:=hv
    have:k2=0:=og
    subst this;exact .inl ⟨rfl,rfl⟩
   ·simp only[Value.slice.injEq,true_and]at hv
    obtain⟨rfl,rfl⟩:=hv
    refine .inr ⟨g,cap,cur,rfl,h0,h1,og,h3,h4,?_⟩
    have hle:k2*sz<=k*sz:=Nat.mul_le_mul_right _ Eg
    have:=congrArg (List.take (k2*sz)) h5
    rw[List.take_take,Nat.min_eq_left hle]at this
    rw[this]
    apply List.ext_getElem?
    intro j
    by_cases hj:j<k2*sz
    ·rw[List.getElem?_take_of_lt hj,gj og,gj hj,hC j hj]
    ·rw[List.getElem?_eq_none (by rw[List.length_take,bQ];exact Nat.le_trans (Nat.min_le_left _ _) og),List.getElem?_eq_none (by rw[bQ];omega)]
  have AB:=hw.cg (e':=aS p cap e sz k2 C') ad7 rfl (fun b o hb=>.inl (by cases p<;>exact hb)) (gH.refl _ _) agL
  exact AB.b8 hp) (XO.v (fun a w ha _=>by
  subst hz
  have hzc:(k2:Int)<=(cap:Int):=og
  have:(execOp a.eval ⟨some d,.slice t x none (some y) none,ty,pos,af,none⟩).run P w= .ok (.value (.slice p k2 cap)) w:=by
   have Lc:(if cap=0 then p else p.map fun x=>x.add (0*sz))=p:=by
    split
    ·rfl
    ·cases p with
     | none=>rfl
     | some a=>simp[Addr.add]
   have hk3:k2<=cap:=og
   simp[execOp,ay ha hx,ay ha hy,Instr.sliceAt,run_underlying ht,Instr.slice,Instr.sliceBounds,Instr.sliceBound,asIntOf,hk3,run_sizeOf hs]
   simpa using Lc
  exact this) (by simp[hd,cx]) h)
def B9{w:World}{k cap sz:Nat}{e:TypeId}{xs:List Value}(h:(aK.row (.slice p k cap) e sz k xs).holds w):k<=cap:=by
 rcases h.2 with⟨hv,h0⟩ | ⟨g,cL,cur,hv,_,_,h2,_⟩;all_goals simp_all
def vY{t e:TypeId}{k cap m c sz b N:Nat}{C C1 C2:Nat->Value}(hx:ev L x=some (.slice p k cap))(hy:ev L y=some (.slice (some ⟨b,0,none⟩) m c))(ht:P.underlying t=some (.slice e))(hr:rh P e sz=true)(hH:mT H (aS p cap e sz k C) H')(hN:kR H (.cells b 0 N C1))(WO:N=m*sz)(h1:(bV C1 N).all one=true)(hm:0<m)(hk:k+m<=100000000000)(hC:∀ i,i<(k+m)*sz->C2 i=if i<k*sz then C i else C1 (i-k*sz))(hd:Nat.blt d n.sz=true)(h:∀ p' cL,XO P n ops Q bU ((d,.slice p' (k+m) cL)::L) (XM W S (aS p' cL e sz (k+m) C2::H'))):XO P n ops Q (⟨some d,.call ⟨.builtin .append,#[x,y],#[t,t]⟩,ty,pos,af,none⟩::bU) L (XM W S H):=
 XO.append hx hy ht hr hH hN WO h1 hm hk hd (fun p' cL=>by
  have e2:bV C (k*sz)++bV C1 N=bV C2 ((k+m)*sz):=by
   apply List.ext_getElem?
   intro j
   have hl:(k+m)*sz=k*sz+N:=by rw[WO,Nat.add_mul]
   by_cases hj:j<k*sz
   ·rw[List.getElem?_append_left (by rw[bQ];exact hj),gj hj,gj og,hC j og,if_pos hj]
   ·by_cases Lt:j<(k+m)*sz
    ·rw[List.getElem?_append_right (by rw[bQ];omega),bQ,gj og,gj Lt,hC j Lt,if_neg hj]
    ·rw[List.getElem?_eq_none (by simp[bQ];omega),List.getElem?_eq_none (by simp[bQ];omega)]
  rw[e2]
  exact h p' cL)
end
end Go.X

namespace Go.X
open Go
variable{op:BinOp}{k:IntKind}{x y:Operand}
def IG{x t:Nat}(ht:x.testBit t=true)(hl:∀ j,j<t->x.testBit j=false):x%2^(t+1)=2^t:=by
 apply Nat.eq_of_testBit_eq;grind
def Ca{x:Nat}(hx:x≠0):∃ t,x.testBit t=true/\∀ j,j<t->x.testBit j=false:=by
 obtain⟨i,hi⟩:=Nat.exists_testBit_of_ne_zero hx;obtain⟨t,h1,h2⟩:=exists_least (p:=fun i=>x.testBit i=true) ⟨i,hi⟩;grind
theorem Pm{x t:Nat}(ht:x.testBit t=true)(hl:∀ j,j<t->x.testBit j=false)(j:Nat):(x&&&(x-1)).testBit j=(x.testBit j&& !decide (j=t)):=by
 have hm:=IG ht hl;have hd:=Nat.div_add_mod x (2^(t+1));rw[hm]at hd;have hp:0<2^t:=Nat.two_pow_pos t;have Il:x-1=2^(t+1)*(x/2^(t+1))+(2^t-1):=og;have sO:2^t<2^(t+1):=Nat.pow_lt_pow_right og og;rw[Nat.testBit_and];by_cases h1:j<t
 ·simp_all
 ·by_cases h2:j=t
  ·subst h2;rw[Il,Nat.testBit_two_pow_mul_add _ og];simp
  ·have h3:¬j<t+1:=og;have e1:(x-1).testBit j=x.testBit j:=by
    rw[Il,Nat.testBit_two_pow_mul_add _ og];grind
   simp_all
def Ns{x t w:Nat}(ht:x.testBit t=true)(hl:∀ j,j<t->x.testBit j=false)(hx:x<2^w)(hw:t<w):x&&&(2^w-x)=2^t:=by
 have hm:=IG ht hl;have hd:=Nat.div_add_mod x (2^(t+1));rw[hm]at hd;have hp:0<2^t:=Nat.two_pow_pos t;have sO:2^t<2^(t+1):=Nat.pow_lt_pow_right og og;have aiL:2^(t+1)=2*2^t:=by rw[Nat.pow_succ];omega
 have l9:2^w=2^(t+1)*2^(w-(t+1)):=by rw[<-Nat.pow_add];congr 1;omega
 have hq:x/2^(t+1)<2^(w-(t+1)):=by
  simp_all[Nat.div_lt_iff_lt_mul,Nat.mul_comm]
 have Il:2^w-x=2^(t+1)*(2^(w-(t+1))-(x/2^(t+1)+1))+2^t:=by
  have e:2^(t+1)*(2^(w-(t+1))-(x/2^(t+1)+1))=2^w-(2^(t+1)*(x/2^(t+1))+2^(t+1)):=by
   grind [Nat.mul_sub]
  have hle:2^(t+1)*(x/2^(t+1))+2^(t+1)<=2^w:=by
   rw[l9,<-Nat.mul_succ];exact Nat.mul_le_mul_left _ hq
  omega
 apply Nat.eq_of_testBit_eq;intro j;rw[Nat.testBit_and,Il,Nat.testBit_two_pow_mul_add _ sO,Nat.testBit_two_pow];grind
def kI(a b:Nat):Nat:=a&&&(a^^^b)
theorem Eo(a b j:Nat):(kI a b).testBit j=(a.testBit j&& !b.testBit j):=by
 grind [kI]
theorem Sc(a b:Nat):kI a b<=a:=Nat.and_le_left
def Nt:IntKind->Bool
 | .u8 | .u16 | .u32 | .u64=>true
 | _=>false
def IH(hk:Nt k=true){a:Nat}(h:a<2^k.bits):k.wrap (a:Int)=a:=by
 have hs:k.signed=false:=by cases k<;>simp_all[Nt,IntKind.signed]
 have:((a:Int)%(2^k.bits:Int))=a:=Int.emod_eq_of_lt og (by exact_mod_cast h);simp[IntKind.wrap,hs,this]
section
variable {P:Program} {n:Fr} {L:PF} {ty:TypeId} {pos:String} {af:Array Edge} {d:Nat} {φ:World->Prop} {gd:Option (Nat×Bool)}
def Se{w:World}{a b r:Nat}(hk:Nt k=true)(ha:a<2^k.bits)(hb:b<2^k.bits)(hr:(match op with | .and=>some (a&&&b) | .or=>some (a|||b) | .xor=>some (a^^^b) | .andNot=>some (kI a b) | _=>none)=some r):(Op.intBits op k (a:Int) (b:Int)).run P w= .ok (.int k r) w:=by
 have e1:(BitVec.ofInt k.bits (a:Int))=BitVec.ofNat k.bits a:=BitVec.ofInt_natCast _ _;have e2:(BitVec.ofInt k.bits (b:Int))=BitVec.ofNat k.bits b:=BitVec.ofInt_natCast _ _;have n1:(BitVec.ofNat k.bits a).toNat=a:=by simp[Nat.mod_eq_of_lt ha]
 have n2:(BitVec.ofNat k.bits b).toNat=b:=by simp[Nat.mod_eq_of_lt hb]
 have iJ:∀ (v:BitVec k.bits),k.wrap (v.toNat:Int)=v.toNat:=fun v=>IH hk v.isLt;cases op<;>simp only[Option.some.injEq]at hr<;>(try cases hr)<;>
  simp only[Op.intBits,e1,e2,Sem.run_pure,iJ]
 ·simp_all
 ·simp_all
 ·simp_all
 ·have:(BitVec.ofNat k.bits a&&& ~~~BitVec.ofNat k.bits b).toNat=kI a b:=by
   apply Nat.eq_of_testBit_eq;grind [kI]
  rw[this]
theorem V.bits{t t':TypeId}{a b r:Nat}(hx:ev L x=some (.int k a))(hy:ev L y=some (.int k b))(hk:Nt k=true)(ha:a<2^k.bits)(hb:b<2^k.bits)(hr:(match op with | .and=>some (a&&&b) | .or=>some (a|||b) | .xor=>some (a^^^b) | .andNot=>some (kI a b) | _=>none)=some r):bd P n L φ ⟨some d,.binOp op t x y t',ty,pos,af,gd⟩ (.int k r):=
 qg hx hy (fun w A hx hy=>by
  have he:=Se (P:=P) (w:=w) hk ha hb hr
  cases op<;>simp only[Option.some.injEq]at hr<;>(try cases hr)<;>
   simp[execOp,eqGuard,hx,hy,binOp,he])
def V.shl{t t':TypeId}{x y:Operand}{k k':IntKind}{a z:Int}(hx:ev L x=some (.int k a))(hy:ev L y=some (.int k' z))(hz:0<=z)(r:Int)(hr:k.wrap (a*2^(min z.toNat k.bits))=r):bd P n L φ ⟨some d,.binOp .shl t x y t',ty,pos,af,gd⟩ (.int k r):=
 qg hx hy (fun w A hx hy=>by
  have h:¬z<0:=og
  simp[execOp,eqGuard,hx,hy,binOp,Op.shift,h,hr])
def V.shr{t t':TypeId}{x y:Operand}{k k':IntKind}{a z:Int}(hx:ev L x=some (.int k a))(hy:ev L y=some (.int k' z))(hz:0<=z)(r:Int)(hr:a.fdiv (2^(min z.toNat k.bits))=r):bd P n L φ ⟨some d,.binOp .shr t x y t',ty,pos,af,gd⟩ (.int k r):=
 qg hx hy (fun w A hx hy=>by
  have h:¬z<0:=og
  simp[execOp,eqGuard,hx,hy,binOp,Op.shift,h,hr])
def E8{t:TypeId}{g m sz:Nat}{z:Int}(hx:ev L x=some (.pointer (some ⟨g,0,none⟩)))(hy:ev L y=some (.int k z))(ht:vv P t=some (m,sz))(hz:0<=z/\z<m):bd P n L φ (⟨some d,.indexAddr t x y,ty,pos,af,gd⟩) (aC g 0 (0+z.toNat*sz)):=
 iW (b:=g) (o:=0) (i:=0) hx hy ht hz
def Pn{w:World}{a b r:Nat}(hw:k.wrap (r:Int)=r)(ha:a<2^k.bits)(hb:b<2^k.bits)(hr:(match op with | .and=>some (a&&&b) | .or=>some (a|||b) | .xor=>some (a^^^b) | .andNot=>some (kI a b) | _=>none)=some r):(Op.intBits op k (a:Int) (b:Int)).run P w= .ok (.int k r) w:=by
 have e1:(BitVec.ofInt k.bits (a:Int))=BitVec.ofNat k.bits a:=BitVec.ofInt_natCast _ _;have e2:(BitVec.ofInt k.bits (b:Int))=BitVec.ofNat k.bits b:=BitVec.ofInt_natCast _ _;have n1:(BitVec.ofNat k.bits a).toNat=a:=by simp[Nat.mod_eq_of_lt ha]
 have n2:(BitVec.ofNat k.bits b).toNat=b:=by simp[Nat.mod_eq_of_lt hb]
 cases op<;>simp only[Option.some.injEq]at hr<;>(try cases hr)<;>
  simp only[Op.intBits,e1,e2,Sem.run_pure]
 ·simp_all
 ·simp_all
 ·simp_all
 ·have:(BitVec.ofNat k.bits a&&& ~~~BitVec.ofNat k.bits b).toNat=kI a b:=by
   apply Nat.eq_of_testBit_eq;grind [kI]
  simp_all
theorem WT{t t':TypeId}{a b r:Nat}(hx:ev L x=some (.int .i64 a))(hy:ev L y=some (.int .i64 b))(ha:a<9223372036854775808)(hb:b<9223372036854775808)(hw:r<9223372036854775808)(hr:(match op with | .and=>some (a&&&b) | .or=>some (a|||b) | .xor=>some (a^^^b) | .andNot=>some (kI a b) | _=>none)=some r):bd P n L φ ⟨some d,.binOp op t x y t',ty,pos,af,gd⟩ (.int .i64 r):=
 qg hx hy (fun w A hx hy=>by
  have he:=Pn (P:=P) (w:=w) (k:=.i64) (IntWalk.i64_in _ og) (Nat.lt_of_lt_of_le ha dq) (Nat.lt_of_lt_of_le hb dq) hr
  cases op<;>simp only[Option.some.injEq]at hr<;>(try cases hr)<;>
   simp[execOp,eqGuard,hx,hy,binOp,he])
def Nu{t t':TypeId}{a b z:Int}{r:Nat}(hx:ev L x=some (.int .i64 a))(hy:ev L y=some (.int .i64 b))(ha:0<=a/\a<9223372036854775808)(hb:0<=b/\b<9223372036854775808)(hz:0<=z/\z<9223372036854775808)(hr:(match op with | .and=>some (a.toNat&&&b.toNat) | .or=>some (a.toNat|||b.toNat) | .xor=>some (a.toNat^^^b.toNat) | .andNot=>some (kI a.toNat b.toNat) | _=>none)=some r)(he:(r:Int)=z):bd P n L φ ⟨some d,.binOp op t x y t',ty,pos,af,gd⟩ (.int .i64 z):=by
 subst he;have AB:ev L x=some (.int .i64 ((a.toNat:Nat):Int)):=by rw[show((a.toNat:Nat):Int)=a from og];exact hx
 have hy2:ev L y=some (.int .i64 ((b.toNat:Nat):Int)):=by rw[show((b.toNat:Nat):Int)=b from og];exact hy
 grind [WT]
def V.rem{t t':TypeId}{x y:Operand}{k:IntKind}{a b:Int}(hx:ev L x=some (.int k a))(hy:ev L y=some (.int k b))(hb:b≠0)(r:Int)(hr:a.tmod b=r):bd P n L φ ⟨some d,.binOp .rem t x y t',ty,pos,af,gd⟩ (.int k r):=
 qg hx hy fun w A hx hy=>by simp[execOp,eqGuard,hx,hy,binOp,Op.intDiv,hb,hr]
theorem V.quo{t t':TypeId}{x y:Operand}{k:IntKind}{a b:Int}(hx:ev L x=some (.int k a))(hy:ev L y=some (.int k b))(hb:b≠0)(r:Int)(hr:k.wrap (a.tdiv b)=r):bd P n L φ ⟨some d,.binOp .quo t x y t',ty,pos,af,gd⟩ (.int k r):=
 qg hx hy fun w A hx hy=>by simp[execOp,eqGuard,hx,hy,binOp,Op.intDiv,hb,hr]
def sV{a b:Int}(ha:0<=a:=by omega)(hb:0<b:=by omega)(h:a<=9223372036854775807:=by omega):IntKind.i64.wrap (a.tdiv b)=a/b:=by
 rw[Int.tdiv_eq_ediv_of_nonneg ha];have h1:0<=a/b:=Int.ediv_nonneg ha og;have h2:a/b<=a:=Int.ediv_le_self b ha;exact IntWalk.i64_in _ og
end
end Go.X

namespace Go.X
open Go
variable{x:Operand}{p:Option Addr}
section
variable {P:Program} {n:Fr} {Q:Exit->Act->World->Prop} {L:PF} {ops:Md} {bU:List Oper} {ty:TypeId} {pos:String} {af:Array Edge} {d:Nat}
variable {W:World} {S:Nat->Nat->Prop} {H H':List aK}
def XO.aaK{t:TypeId}{y:Operand}{g cap sz k i:Nat}{e:TypeId}{C C':Nat->Value}{v:Value}(hx:ev L x=some (aC g 0 i))(hy:ev L y=some v)(hH:nK H (aS (some ⟨g,0,none⟩) cap e sz k C) (aS (some ⟨g,0,none⟩) cap e sz k C') H')(hi:i<k*sz/\dE C i v=C')(hv:one v=true)(hs:fk P t=some 1)(h:XO P n ops Q bU L (XM W S H')):XO P n ops Q (⟨none,.store t x y,ty,pos,af,none⟩::bU) L (XM W S H):=
 XO.op rfl fun a w ha hw=>by
  obtain⟨H1,hd,hp⟩:=hH.ZM;have IA:=hw.b8 hd.b8;have hr:=sU (P:=P) (show(aS (some ⟨g,0,none⟩) cap e sz k C).holds w from IA.eT.1 _ sq) hi.1 hv;have nL:=IA.Nr .aa hi.1 v;rw[hi.2]at nL;have sW:(execOp a.eval ⟨none,.store t x y,ty,pos,af,none⟩).run P w= .ok .skip (w.setCell ⟨g,i,none⟩ v):=by
   have h0:(⟨g,i,none⟩:Addr).add 0=⟨g,i,none⟩:=rfl;simp[execOp,ay ha hx,ay ha hy,Instr.storeAt,Instr.sureAddr,aC,storeVar,zd hv,run_sizeOf hs,storeCells,h0,hr]
  unfold Oper.wp;rw[sW];exact h _ _ ha (nL.b8 hp)
def XO.Po{t e:TypeId}{y:Operand}{k cap m c sz g:Nat}{xs ys:List Value}(hx:ev L x=some (.slice p k cap))(hy:ev L y=some (.slice (some ⟨g,0,none⟩) m c))(ht:P.underlying t=some (.slice e))(hr:rh P e sz=true)(hH:mT H (.row (.slice p k cap) e sz k xs) H')(hN:kR H (.row (.slice (some ⟨g,0,none⟩) m c) e sz m ys))(h1:ys.all one=true)(hk:k+m<=100000000000)(hd:Nat.blt d n.sz=true)(h:∀ p' cL,XO P n ops Q bU ((d,.slice p' (k+m) cL)::L) (XM W S (.row (.slice p' (k+m) cL) e sz (k+m) (xs++ys)::H'))):XO P n ops Q (⟨some d,.call ⟨.builtin .append,#[x,y],#[t,t]⟩,ty,pos,af,none⟩::bU) L (XM W S H):=
 XO.op rfl fun a w ha hw=>by
  have aaL:(aK.row (.slice (some ⟨g,0,none⟩) m c) e sz m ys).holds w:=hw.eT.1 _ hN.mem;have gL:(aK.row (.slice p k cap) e sz k xs).holds w:=hw.eT.1 _ (hH.b8.mem_iff.2 sq);by_cases hm:0<m
  ·obtain⟨p',cL,w',h3,h4,h5,h6⟩:=oF (ty:=ty) (c:=c) (b:=g) (news:=ys) ht hr gL hm aaL.1 (World.ownsRow.cells aaL (g:=g) rfl) (fun u hu=>oE (List.all_eq_true.1 h1 u hu)) hk;have AB:=hw.cg hH rfl h6 h5 h4;unfold Oper.wp;have:(execOp a.eval ⟨some d,.call ⟨.builtin .append,#[x,y],#[t,t]⟩,ty,pos,af,none⟩).run P w= .ok (.value (.slice p' (k+m) cL)) w':=by
    simp[execOp,resolve,invoke,builtin,ay ha hx,ay ha hy,h3]
   rw[this];exact h _ _ _ _ (ha.put hd _) AB
  ·have hm0:m=0:=og;subst hm0;have hys:ys=[]:=List.eq_nil_of_length_eq_zero (by simpa using aaL.1);subst hys;have hkc:k<=cap:=B9 gL;obtain⟨i,z,hi,hz,po,ZO,Wm,Nq⟩:=qi hr;have h3:(Builtin.append_ #[t,t] ty #[.slice p k cap,.slice (some ⟨g,0,none⟩) 0 c]).run P w= .ok (.slice p (k+0) cap) w:=by
    cases p with
    | none=>simp[Builtin.append_,run_underlying ht,Builtin.lenOf,Builtin.firstCells,loadCells,loadCellsFrom,hkc,sizeOf,run_typeInfo hi,hi]
    | some q=>simp[Builtin.append_,run_underlying ht,Builtin.lenOf,Builtin.firstCells,loadCells,loadCellsFrom,storeCells,hkc,sizeOf,run_typeInfo hi,hi]
   have AB:XM W S (.row (.slice p (k+0) cap) e sz (k+0) (xs++[])::H') w:=by
    simpa using hw.b8 hH.b8
   unfold Oper.wp;have:(execOp a.eval ⟨some d,.call ⟨.builtin .append,#[x,y],#[t,t]⟩,ty,pos,af,none⟩).run P w= .ok (.value (.slice p (k+0) cap)) w:=by
    simp only[Nat.add_zero]at h3 ⊢;simp[execOp,resolve,invoke,builtin,ay ha hx,ay ha hy,h3]
   rw[this];exact h _ _ _ _ (ha.put hd _) AB
def vZ(k:Nat){t e:TypeId}{w:World}{l c:Nat}(ht:P.underlying t=some (.slice e)):(Op.equalIn (k+1) t (.slice p l c) (.slice none 0 0)).run P w= .ok p.isNone w:=by
 cases p<;>simp only[Op.equalIn,Sem.run_bind,run_underlying ht,Result.andThen_ok,Sem.run_pure,Option.isNone]
def kW{op:BinOp}{t t' e:TypeId}{l c:Nat}{r:Bool}{φ:World->Prop}{gd:Option (Nat×Bool)}(hx:ev L x=some (.slice p l c))(ht:P.underlying t=some (.slice e))(hr:(match op with | .eql=>some (decide (p=none)) | .neq=>some (decide (p≠none)) | _=>none)=some r):bd P n L φ ⟨some d,.binOp op t x (.const (.slice none 0 0)) t',ty,pos,af,gd⟩ (.bool r):=fun a w ha _=>by
 have he:(Op.equal t (.slice p l c) (.slice none 0 0)).run P w= .ok p.isNone w:=vZ 9999 ht;have hy:a.eval (.const (.slice none 0 0))= .slice none 0 0:=rfl;have b1:binOp .eql t (.slice p l c) (.slice none 0 0)=(do pure (.bool (<-Op.equal t (.slice p l c) (.slice none 0 0)))):=rfl;have b2:binOp .neq t (.slice p l c) (.slice none 0 0)=(do pure (.bool (!(<-Op.equal t (.slice p l c) (.slice none 0 0))))):=rfl;have g1:eqGuard .eql t x (.const (.slice none 0 0)) (.slice p l c) (.slice none 0 0)=pure ():=rfl;have g2:eqGuard .neq t x (.const (.slice none 0 0)) (.slice p l c) (.slice none 0 0)=pure ():=rfl;cases op<;>simp only[Option.some.injEq]at hr<;>(try cases hr)<;>
  simp only[execOp,ay ha hx,hy,b1,b2,g1,g2]<;>cases p<;>simp[he]
end
end Go.X
