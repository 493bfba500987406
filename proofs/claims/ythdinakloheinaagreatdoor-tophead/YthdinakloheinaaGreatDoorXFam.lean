import Derived.Test.YthdinakloheinaaGreatDoorXBits
import Derived.RangeFuncNested
import Derived.RangeFuncBound
import Derived.RangeFuncCalls
import Derived.RangeFuncLeaves
import Derived.RangeFuncFrom
import Derived.Shelf.Abstract
import Derived.TacticsInMore
import Derived.OrdersIn
import Derived.Laws.StructEq
set_option linter.all false
namespace Go.X
open Go
variable{x:Operand}{p:Option Addr}
section
variable {P:Program} {n:Fr} {Q:Exit->Act->World->Prop} {L:PF} {ops:Md} {bU:List Oper} {ty:TypeId} {pos:String} {af:Array Edge} {d:Nat}
variable {W:World} {S:Nat->Nat->Prop} {H H':List aB}
def XO.aan{t:TypeId}{y:Operand}{g cap sz k i:Nat}{e:TypeId}{C C':Nat->Value}{v:Value}(hx:ev L x=some (aA g 0 i))(hy:ev L y=some v)(hH:nL H (aM (some ⟨g,0,none⟩) cap e sz k C) (aM (some ⟨g,0,none⟩) cap e sz k C') H')(hi:i<k*sz/\dL C i v=C')(hv:one v=true)(hs:fb P t=some 1)(h:XO P n ops Q bU L (XM W S H')):XO P n ops Q (⟨none,.store t x y,ty,pos,af,none⟩::bU) L (XM W S H):=
 XO.op rfl fun a w ha hw=>by
  obtain⟨H1,hd,hp⟩:=hH.Zm;have H5:=hw.b8 hd.b8;have hr:=sU (P:=P) (show(aM (some ⟨g,0,none⟩) cap e sz k C).holds w from H5.eY.1 _ sq) hi.1 hv;have mz:=H5.MX .aa hi.1 v;rw[hi.2]at mz;have qh:(execOp a.eval ⟨none,.store t x y,ty,pos,af,none⟩).run P w= .ok .skip (w.setCell ⟨g,i,none⟩ v):=by
   have h0:(⟨g,i,none⟩:Addr).add 0=⟨g,i,none⟩:=rfl;simp[execOp,au ha hx,au ha hy,Instr.storeAt,Instr.sureAddr,aA,storeVar,yO hv,run_sizeOf hs,storeCells,h0,hr]
  unfold Oper.wp;rw[qh];exact h _ _ ha (mz.b8 hp)
def XO.OU{t e:TypeId}{y:Operand}{k cap m c sz g:Nat}{xs ys:List Value}(hx:ev L x=some (.slice p k cap))(hy:ev L y=some (.slice (some ⟨g,0,none⟩) m c))(ht:P.underlying t=some (.slice e))(hr:rh P e sz=true)(hH:nc H (.row (.slice p k cap) e sz k xs) H')(hN:kR H (.row (.slice (some ⟨g,0,none⟩) m c) e sz m ys))(h1:ys.all one=true)(hk:k+m<=100000000000)(hd:Nat.blt d n.sz=true)(h:∀ p' cJ,XO P n ops Q bU ((d,.slice p' (k+m) cJ)::L) (XM W S (.row (.slice p' (k+m) cJ) e sz (k+m) (xs++ys)::H'))):XO P n ops Q (⟨some d,.call ⟨.builtin .append,#[x,y],#[t,t]⟩,ty,pos,af,none⟩::bU) L (XM W S H):=
 XO.op rfl fun a w ha hw=>by
  have aao:(aB.row (.slice (some ⟨g,0,none⟩) m c) e sz m ys).holds w:=hw.eY.1 _ hN.mem;have gB:(aB.row (.slice p k cap) e sz k xs).holds w:=hw.eY.1 _ (hH.b8.mem_iff.2 sq);by_cases hm:0<m
  ·obtain⟨p',cJ,w',h3,h4,h5,h6⟩:=oG (ty:=ty) (c:=c) (b:=g) (news:=ys) ht hr gB hm aao.1 (World.ownsRow.cells aao (g:=g) rfl) (fun u hu=>oF (List.all_eq_true.1 h1 u hu)) hk;have sK:=hw.b7 hH rfl h6 h5 h4;unfold Oper.wp;have:(execOp a.eval ⟨some d,.call ⟨.builtin .append,#[x,y],#[t,t]⟩,ty,pos,af,none⟩).run P w= .ok (.value (.slice p' (k+m) cJ)) w':=by
    simp[execOp,resolve,invoke,builtin,au ha hx,au ha hy,h3]
   rw[this];exact h _ _ _ _ (ha.put hd _) sK
  ·have hm0:m=0:=og;subst hm0;have hys:ys=[]:=List.eq_nil_of_length_eq_zero (by simpa using aao.1);subst hys;have hkc:k<=cap:=BP gB;obtain⟨i,z,hi,hz,po,Zo,VX,KF⟩:=qm hr;have h3:(Builtin.append_ #[t,t] ty #[.slice p k cap,.slice (some ⟨g,0,none⟩) 0 c]).run P w= .ok (.slice p (k+0) cap) w:=by
    cases p with
    | none=>simp[Builtin.append_,run_underlying ht,Builtin.lenOf,Builtin.firstCells,loadCells,loadCellsFrom,hkc,sizeOf,run_typeInfo hi,hi]
    | some q=>simp[Builtin.append_,run_underlying ht,Builtin.lenOf,Builtin.firstCells,loadCells,loadCellsFrom,storeCells,hkc,sizeOf,run_typeInfo hi,hi]
   have sK:XM W S (.row (.slice p (k+0) cap) e sz (k+0) (xs++[])::H') w:=by
    simpa using hw.b8 hH.b8
   unfold Oper.wp;have:(execOp a.eval ⟨some d,.call ⟨.builtin .append,#[x,y],#[t,t]⟩,ty,pos,af,none⟩).run P w= .ok (.value (.slice p (k+0) cap)) w:=by
    simp only[Nat.add_zero]at h3 ⊢;simp[execOp,resolve,invoke,builtin,au ha hx,au ha hy,h3]
   rw[this];exact h _ _ _ _ (ha.put hd _) sK
def vL(k:Nat){t e:TypeId}{w:World}{l c:Nat}(ht:P.underlying t=some (.slice e)):(Op.equalIn (k+1) t (.slice p l c) (.slice none 0 0)).run P w= .ok p.isNone w:=by
 cases p<;>simp only[Op.equalIn,Sem.run_bind,run_underlying ht,Result.andThen_ok,Sem.run_pure,Option.isNone]
def kX{op:BinOp}{t t' e:TypeId}{l c:Nat}{r:Bool}{φ:World->Prop}{gd:Option (Nat×Bool)}(hx:ev L x=some (.slice p l c))(ht:P.underlying t=some (.slice e))(hr:(match op with | .eql=>some (decide (p=none)) | .neq=>some (decide (p≠none)) | _=>none)=some r):aZ P n L φ ⟨some d,.binOp op t x (.const (.slice none 0 0)) t',ty,pos,af,gd⟩ (.bool r):=fun a w ha _=>by
 have he:(Op.equal t (.slice p l c) (.slice none 0 0)).run P w= .ok p.isNone w:=vL 9999 ht;have hy:a.eval (.const (.slice none 0 0))= .slice none 0 0:=rfl;have b1:binOp .eql t (.slice p l c) (.slice none 0 0)=(do pure (.bool (<-Op.equal t (.slice p l c) (.slice none 0 0)))):=rfl;have b2:binOp .neq t (.slice p l c) (.slice none 0 0)=(do pure (.bool (!(<-Op.equal t (.slice p l c) (.slice none 0 0))))):=rfl;have g1:eqGuard .eql t x (.const (.slice none 0 0)) (.slice p l c) (.slice none 0 0)=pure ():=rfl;have g2:eqGuard .neq t x (.const (.slice none 0 0)) (.slice p l c) (.slice none 0 0)=pure ():=rfl;cases op<;>simp only[Option.some.injEq]at hr<;>(try cases hr)<;>
  simp only[execOp,au ha hx,hy,b1,b2,g1,g2]<;>cases p<;>simp[he]
end
end Go.X

namespace Go.X
open Go Go.RowKit Go.Proofs
variable{fn:Func}{x:Operand}
def Ah(l:List Oper):Bool:=l.all fun o=>match o.op with | .defer _=>false | _=>true
def RN{l:List Oper}(h:Ah l=true){i:Nat}{o:Oper}(hi:l[i]? =some o):∀ c,o.op≠ .defer c:=fun c hc=>by
 have:=List.all_eq_true.1 h o (List.mem_of_getElem? hi);rw[hc]at this;cases this
def VY(P:Program):Code->(Exit->Act->World->Prop)->Act->World->Prop
 | .skip,Q,a,w=>Q .normal a w
 | .exit i,Q,a,w=>Q (.exit i) a w
 | .ret,Q,a,w=>Q .ret a w
 | .seq x y,Q,a,w=>VY P x (Exit.then (VY P y Q) Q) a w
 | .block i c,Q,a,w=>VY P c (Exit.inBlock i Q) a w
 | .cond c x y,Q,a,w=>∃ t,a.eval c= .bool t/\(t=true->VY P x Q a w)/\(t=false->VY P y Q a w)
 | .region _ ops false,Q,a,w=>Ah ops.toList=true/\wpList P ops Q ops.toList a w
 | .region _ ops true,Q,a,w=>Ah ops.toList=true/\P.follows .mixedOrders=true/\wpAny P .any ops Q ops.size (Array.replicate ops.size false) a {w with drawn:=w.drawn+1}
 | _,_,_,_=>False
section
variable {P:Program} {Q:Exit->Act->World->Prop} {l:Nat} {n:Nat}
abbrev inR(l:Nat):Fence:=Fence.wide.inRound l
def M1{o:Oper}{a:Act}{w:World}{K:Act->World->Prop}(hd:∀ c,o.op≠ .defer c)(hq:∀ a w,¬Q .outgrown a w)(h:o.wp P a w K Q):o.wpIn (inR l) n P a w K Q:=by
 refine⟨fun _ _=>trivial,?_⟩;rw[Oper.semAt_eq _ _ _ hd];unfold Oper.wp at h;generalize (execOp a.eval o).run P w=r at*;cases r with
 | ok x w'=>
  have adX:(inR l).depth.isSome=true->1<=n:=fun q=>by cases q
  cases x<;>simp only[Oper.upon,Oper.uponIn]at h ⊢;case value=>exact h
  case skip=>exact h
  case defer=>exact h
  case enter=>
   refine⟨adX,CallsIn.inRound l (callsIn_wide.2 (h.mono fun e w'' he=> ?_))⟩;cases e with
   | returned v=>exact he
   | panicked c=>exact he
   | outgrown=>obtain⟨_,_,he⟩:=he;exact absurd he (hq _ _)
  case row=>
   refine⟨adX,fun c cs _=> ?_⟩;obtain⟨v,w2,hr,hs⟩:=h c cs;exact⟨v,w2,hr,stepsIn_wide.2 hs⟩
  all_goals exact h.elim
 | halt x w'=>cases x<;>simp only[Oper.upon,Oper.uponIn]at h ⊢ <;>exact h
def Ge{ops:Array Oper}(hq:∀ a w,¬Q .outgrown a w):∀ (bU:List Oper) (a:Act) (w:World),Ah bU=true->wpList P ops Q bU a w->wpListIn (inR l) n P ops Q bU a w
 | [],_,_,_,h=>h
 | o::bU,a,w,hn,h=>by
  simp only[Ah,List.all_cons,Bool.and_eq_true]at hn;unfold wpList at h;unfold wpListIn;split
  ·rename_i hw;rw[if_pos hw]at h;rcases h with h | ⟨_,a',w',h⟩
   ·refine M1 (fun c hc=> ?_) hq (Oper.wp_mono (fun a' w'=>Ge hq bU a' w' hn.2) h);have:=hn.1;rw[hc]at this;cases this
   ·exact absurd h (hq _ _)
  ·rename_i hw;rw[if_neg hw]at h;exact⟨fun _ _=>trivial,Ge hq bU _ _ hn.2 h⟩
def Gf{ops:Array Oper}(hq:∀ a w,¬Q .outgrown a w)(hn:Ah ops.toList=true):∀ (f:Nat) (ls:Array Bool) (a:Act) (w:World),wpAny P .any ops Q f ls a w->wpAnyIn (inR l) n P .any ops Q f ls a w
 | 0,_,_,_,h=>h
 | f+1,ls,a,w,h=>⟨h.1,fun i hi=>by
  have h2:=h.2 i hi
  unfold wpOp at h2
  unfold wpOpIn
  cases ho:ops[i]? with
  | none=>rw[ho]at h2;exact Gf hq hn f _ _ _ h2
  | some o=>
   rw[ho]at h2
   simp only at h2 ⊢
   split
   ·rename_i hw
    rw[if_pos hw]at h2
    rcases h2 with h2 | ⟨_,a',w',h2⟩
    ·exact M1 (RN hn (i:=i) (by rw[Array.getElem?_toList];exact ho)) hq (Oper.wp_mono (fun a' w'=>Gf hq hn f _ a' w') h2)
    ·exact absurd h2 (hq _ _)
   ·rename_i hw
    rw[if_neg hw]at h2
    exact⟨fun _ _=>trivial,Gf hq hn f _ _ _ h2⟩⟩
def vM:∀ (c:Code) (Q:Exit->Act->World->Prop) (a:Act) (w:World),(∀ a w,¬Q .outgrown a w)->VY P c Q a w->c.wpIn (inR l) n P Q a w
 | .skip,_,_,_,_,h=>wpIn_skip h
 | .exit _,_,_,_,_,h=>wpIn_exit h
 | .ret,_,_,_,_,h=>wpIn_ret h
 | .seq x y,Q,a,w,hq,h=>wpIn_seq (wpIn_mono (vM x (Exit.then (VY P y Q) Q) a w (fun a w=>hq a w) h) (fun e a w q=>by
   cases e with
   | normal=>exact vM y Q a w hq q
   | exit i=>exact q
   | goto i=>exact q
   | ret=>exact q
   | panic i=>exact q
   | outgrown=>exact q))
 | .block i c,Q,a,w,hq,h=>wpIn_block (vM c (Exit.inBlock _ Q) a w (fun a w=>hq a w) h)
 | .cond c x y,Q,a,w,hq,⟨_,h1,h2,h3⟩=>wpIn_cond_split h1 (fun ht=>vM x Q a w hq (h2 ht)) fun ht=>vM y Q a w hq (h3 ht)
 | .region _ ops false,_,a,w,hq,h=>wpIn_region_list (Ge hq _ a w h.1 h.2)
 | .region _ _ true,_,a,w,hq,h=>wpIn_region_any h.2.1 (Gf hq h.1 _ _ a _ h.2.2)
 | .loop _,_,_,_,_,k=>k.elim
 | .rangeFunc ..,_,_,_,_,k=>k.elim
 | .scope _,_,_,_,_,k=>k.elim
 | .label _,_,_,_,_,k=>k.elim
 | .goto _,_,_,_,_,k=>k.elim
end
section
variable {P:Program} {n:Fr} {Q:Exit->Act->World->Prop} {L L':PF} {M M':World->Prop}
def XB(P:Program)(n:Fr)(c:Code)(Q:Exit->Act->World->Prop)(L:PF)(M:World->Prop):Prop:=
 ∀ a w,pd n L a->M w->VY P c Q a w
theorem XB.eG{c:Code}(L':PF)(hs:Sub L L')(h:XB P n c Q L' M):XB P n c Q L M:=fun a w ha hw=>h a w (hs.Wf ha) hw
def XB.seq{x y:Code}(h:XB P n x (Exit.then (VY P y Q) Q) L M):XB P n (.seq x y) Q L M:=h
def oH{y:Code}{Q':Exit->Act->World->Prop}(h:XB P n y Q L M):XE n (Exit.then (VY P y Q) Q') .normal L M:=h
def XB.skip(h:XE n Q .normal L M):XB P n .skip Q L M:=h
def XB.ret(h:XE n Q .ret L M):XB P n .ret Q L M:=h
theorem XB.block{i:Nat}{c:Code}(h:XB P n c (Exit.inBlock i Q) L M):XB P n (.block i c) Q L M:=h
def XB.cond{c:Operand}{x y:Code}{t:Bool}(hc:ev L c=some (.bool t))(ht:t=true->XB P n x Q L M)(hf:t=false->XB P n y Q L M):XB P n (.cond c x y) Q L M:=
 fun a w ha hw=>⟨t,au ha hc,fun h=>ht h a w ha hw,fun h=>hf h a w ha hw⟩
def XB.MN{c:Operand}{x y:Code}{p:Prop}[Decidable p](hc:ev L c=some (.bool (decide p)))(ht:p->XB P n x Q L M)(hf:¬p->XB P n y Q L M):
  XB P n (.cond c x y) Q L M:=XB.cond hc (fun h=>ht (of_decide_eq_true h)) fun h=>hf (of_decide_eq_false h)
def XB.region{i:Nat}{l:List Oper}(h:XO P n (.cl l.toArray) Q l L M)(hn:Ah l=true:=by rfl):XB P n (.region i l.toArray false) Q L M:=fun a w ha hw=>by
 refine⟨by simpa using hn,?_⟩;have:wpList P l.toArray Q l a w:=h a w ha hw;simpa using this
end
def mkD(D:Nat):Deferred:= {target:=.collected D,args:= #[]}
def aB.yT:aB->Bool
 | .mark _=>false
 | _=>true
def BR{e:aB}{w:World}(h:e.holds w)(hm:e.yT=true){b o:Nat}(ha:e.fO b o):∃ A t fz,w.heap[b]? =some (.cells A t fz):=by
 cases e with
 | cells b' o' n C=>obtain⟨A,t,lo,hi,h1,_⟩:=h;obtain⟨rfl,_⟩:=ha;exact⟨_,_,_,h1⟩
 | ro b' o' n C=>obtain⟨A,t,fz,h1,_⟩:=h;obtain⟨rfl,_⟩:=ha;exact⟨_,_,_,h1⟩
 | row v e sz k xs=>
  rcases h.2 with⟨rfl,_⟩ | ⟨g,cap,cur,rfl,_,hb,_⟩
  ·cases ha
  ·have:b=g:=by simp only[aB.fO,Value.ownBlock,Option.some.injEq]at ha;exact ha.symm
   subst this;exact⟨_,_,_,hb⟩
 | mark D=>cases hm
 | bk p r=>
  obtain⟨i,hi,hb⟩:=ha;rcases(h.1 i hi).2 with⟨hv,_⟩ | ⟨g,cap,cur,hv,hb',hg,_⟩
  ·rw[hv]at hb;cases hb
  ·rw[hv]at hb;simp only[Value.ownBlock,Option.some.injEq]at hb;subst hb;exact⟨_,_,_,hg⟩
 | eb p g n C=>obtain⟨i,hi,rfl,_⟩:=ha;obtain⟨A,t,lo,HN,h1,_⟩:=h.1 i hi;exact⟨_,_,_,h1⟩
def yU{e:aB}(h:e.wr=true):e.yT=true:=by cases e<;>first | rfl | cases h
def aB.K5{e:aB}{w w':World}{D:Nat}(hb:∀ b,b<w.heap.size->¬b=D->w'.heap[b]? =w.heap[b]?)(hD:∀ o,w.heap[D]? =some o->o.isCells=false)(hm:e.yT=true)(h:e.holds w):e.holds w':=by
 have ne:∀ (b:Nat) (A:Array Value) (t:TypeId) (fz:Nat×Nat),w.heap[b]? =some (.cells A t fz)->w'.heap[b]? =some (.cells A t fz):=fun b A t fz hA=>by
  rw[hb b (di hA) fun q=>by subst q;have:=hD _ hA;cases this];exact hA
 cases e with
 | cells b o n C=>obtain⟨A,t,lo,hi,h1,h2⟩:=h;exact⟨A,t,lo,hi,ne _ _ _ _ h1,h2⟩
 | ro b o n C=>obtain⟨A,t,fz,h1,h2⟩:=h;exact⟨A,t,fz,ne _ _ _ _ h1,h2⟩
 | row v e sz k xs=>
  refine⟨h.1,?_⟩;rcases h.2 with hn | ⟨g,cap,cur,rfl,hb',hg,bU⟩
  ·exact .inl hn
  ·exact .inr ⟨g,cap,cur,rfl,hb',ne _ _ _ _ hg,bU⟩
 | mark D=>cases hm
 | bk p r=>
  refine⟨fun i hi=> ?_,h.2⟩;have hr:=h.1 i hi;refine⟨hr.1,?_⟩;rcases hr.2 with hn | ⟨g,cap,cur,hv,hb',hg,bU⟩
  ·exact .inl hn
  ·exact .inr ⟨g,cap,cur,hv,hb',ne _ _ _ _ hg,bU⟩
 | eb p g n C=>
  refine⟨fun i hi=> ?_,h.2⟩;obtain⟨A,t,lo,HN,h1,h2⟩:=h.1 i hi;exact⟨A,t,lo,HN,ne _ _ _ _ h1,h2⟩
theorem XM.mA{W w w':World}{S:Nat->Nat->Prop}{H:List aB}{D:Nat}(h:XM W S H w)(hm:H.all aB.yT=true)(hDW:W.heap.size<=D)(hos:w'.os=w.os)(ht:w'.tape=w.tape)(Ig:w'.output=w.output)(KF:w.heap.size<=w'.heap.size)(hb:∀ b,b<w.heap.size->¬b=D->w'.heap[b]? =w.heap[b]?)(hD:∀ o,w.heap[D]? =some o->o.isCells=false):XM W S H w':=by
 refine⟨⟨fun e he=>aB.K5 hb hD (List.all_eq_true.1 hm e he) (h.eY.1 e he),h.eY.2⟩,⟨hos.trans h.eG.os,ht.trans h.eG.tape,Ig.trans h.eG.output,Nat.le_trans h.eG.size KF,fun b vN hn=> ?_,fun b A t fz hA=> ?_⟩,h.D8⟩
 ·rw[hb b (Nat.lt_of_lt_of_le vN h.eG.size) og];exact h.eG.same b vN hn
 ·obtain⟨A',h1,h2,h3⟩:=h.eG.part b A t fz hA;have:=di hA;exact⟨A',by rw[hb b (Nat.lt_of_lt_of_le this h.eG.size) og];exact h1,h2,h3⟩
section
variable {P:Program} {L:PF} {W:World} {S:Nat->Nat->Prop} {H H':List aB}
def qn{k m:Nat}{kp:List Nat}{cs:List (Nat×Nat)}{R:Ending->World->Prop}{e:Exit}{M:World->Prop}(he:e= .normal\/e= .ret)(h:XE (fr k kp cs) (bodyPost P fn R) e L M):XE (fr k kp cs) (bodyPostM Fence.wide m P fn R) e L M:=fun a w ha hw=>by
 have h1:=h a w ha hw;rcases he with rfl | rfl
 ·obtain⟨hd,v,h2,h3⟩:=h1;show LeavesInM _ _ _ _ a.tmps R a.defers .returning w;rw[hd];exact⟨v,h2,h3⟩
 ·obtain⟨hd,v,h2,h3⟩:=h1;show LeavesInM _ _ _ _ a.tmps R a.defers .returning w;rw[hd];exact⟨v,h2,h3⟩
def oI{k m D:Nat}{kp:List Nat}{cs:List (Nat×Nat)}{R:Ending->World->Prop}{e:Exit}(he:e= .normal\/e= .ret)(hH:nc H (.mark D) H')(hm:H'.all aB.yT=true)(hD:W.heap.size<=D)(h:XE (fr k kp cs) (bodyPost P fn R) e L (XM W S H')):XE ⟨k,[mkD D],kp,cs⟩ (bodyPostM Fence.wide m P fn R) e L (XM W S H):=fun a w ha hw=>by
 have H5:=hw.b8 hH.b8;have ES:w.heap[D]? =some (.deferred (some [])):=H5.eY.1 (.mark D) sq;have ml:XM W S H' w:=XM.left (E:=H') (F:=[.mark D]) (H5.b8 (by
  have:=List.perm_append_comm (l₁:=[aB.mark D]) (l₂:=H')
  simpa using this))
 have bK:XM W S H' (w.putObj D (.deferred none)):=ml.mA (D:=D) hm hD rfl rfl rfl sq (fun b _ fM=>World.putObj_heap_other fM) fun o ho=>by rw[ES]at ho;cases ho;rfl
 have h1:=h {a with defers:=[]} _ ⟨rfl,ha.2.1,ha.2.2⟩ bK;have hd:a.defers=[mkD D]:=ha.1;rcases he with rfl | rfl
 ·obtain⟨_,v,h2,h3⟩:=h1;show LeavesInM _ _ _ _ a.tmps R a.defers .returning w;rw[hd];exact⟨sq,.inl ⟨_,_,rfl,run_takeDeferred ES,v,h2,h3⟩⟩
 ·obtain⟨_,v,h2,h3⟩:=h1;show LeavesInM _ _ _ _ a.tmps R a.defers .returning w;rw[hd];exact⟨sq,.inl ⟨_,_,rfl,run_takeDeferred ES,v,h2,h3⟩⟩
def Ih{kp:List Nat}{cs:List (Nat×Nat)}{f:FuncId}{c:Code}{args:List Value}{pre:List aB}{post:Value->List aB->Prop}(hf:P.funcs[f]? =some fn)(hb:fn.body=some c)(hn:Nat.ble args.length fn.ntmps=true)(h:∀ W,XC P (fr fn.ntmps kp cs) c (bodyPostM Fence.wide 3 P fn fun e w'=>∃ v H',e= .returned v/\post v H'/\H'.all aB.wr=true/\XM W (ck pre) H' w') (oD 0 args) (XM W (ck pre) pre)):Spec P f args pre post:=by
 intro w hw;refine(callsIn_wide (n:=3)).1 (callsIn_of_wp_marks hf hb trivial (wpIn_wide.2 (h w _ w ⟨rfl,?_,?_⟩ (kJ hw))))
 ·have:args.length<=fn.ntmps:=by simpa using hn
  simp;omega
 ·intro i v hi;obtain⟨_,h2⟩:=yK args 0 i v hi;have qi:i<args.length:=by
   rcases Nat.lt_or_ge i args.length with h' | h'
   ·exact h'
   ·rw[List.getElem?_eq_none (by simpa using h')]at h2;simp at h2
  have h3:args[i]? =some v:=by simpa using h2
  simp only[Array.getD_eq_getD_getElem?];rw[Array.getElem?_append_left (by simpa using qi)];simp[h3]
end
def RO(R:List (Addr×Value))(A B:World):Prop:=∀ x∈R,A.cell? x.1=some x.2->B.cell? x.1=some x.2
def RO.trans{R:List (Addr×Value)}{A B C:World}(h:RO R A B)(k:RO R B C):RO R A C:=fun x hx ha=>k x hx (h x hx ha)
def RP{W:World}{l:Nat}{o o':Obj}(hl:W.heap[l]? =some o)(ho:o.isCells=false){a:Addr}{v:Value}(h:W.cell? a=some v):(W.putObj l o').cell? a=some v:=by
 have fM:¬a.block=l:=fun e=>by
  subst e;simp only[World.cell?,hl]at h;cases o<;>first | (cases ho;done) | (simp at h;done)
 rw[World.cell?_of_block (World.putObj_heap_other fM)];exact h
theorem RO.put{R:List (Addr×Value)}(W:World)(l:Nat)(o o':Obj)(hl:W.heap[l]? =some o)(ho:o.isCells=false):RO R W (W.putObj l o'):=fun _ _ h=>RP hl ho h
theorem cO.refl:∀ (H:List aB),cO H H []
 | []=>.nil
 | _::H=>.cons .aa (cO.refl H)
theorem XM.then{W w w':World}{S:Nat->Nat->Prop}{H H':List aB}(h:XM W S H w)(hc:XM w (ck H) H' w')(OH:H'.all aB.wr=true):XM W S H' w':=by
 have:=h.yN (cO.refl H) hc fun e he=>List.all_eq_true.1 OH e he;simpa using this
def K6{H:List aB}{w:World}(h:Good H w){b o:Nat}(hf:ck H b o):∃ A t fz,w.heap[b]? =some (.cells A t fz):=by
 obtain⟨e,he,hw,ha⟩:=hf;exact BR (h.1 e he) (yU hw) ha
def XM.RR{w w':World}{H H':List aB}(hg:Good H w)(hc:XM w (ck H) H' w'):KeepsOthers w w':=by
 refine⟨hc.eG.size,fun b o hb ho=> ?_⟩;rw[hc.eG.same b (di hb) fun off hf=> ?_]
 ·exact hb
 ·obtain⟨A,t,fz,h1⟩:=K6 hg hf;rw[hb]at h1;cases h1;cases ho
section
variable {P:Program} {Q:Exit->Act->World->Prop} {L:PF} {W:World} {S:Nat->Nat->Prop} {H:List aB} {α:Type}
def RI(W:World)(S:Nat->Nat->Prop)(V:List α->Prop)(J:List α->List aB)(pre:List α)(w:World):Prop:=V pre/\XM W S (J pre) w
theorem RI.aS{V:List α->Prop}{J:List α->List aB}{B:Nat}(hJ:∀ pre,(J pre).all aB.wr=true)(hB:W.heap.size<=B):OwnFrom B (RI W S V J):=fun pre w w' row ⟨hv,hx⟩ hg hr=>by
 have hm:(J pre).all aB.yT=true:=List.all_eq_true.2 fun e he=>yU (List.all_eq_true.1 (hJ pre) e he);refine⟨hv,?_⟩;cases row with
 | none=>exact hx.mA (D:=w.heap.size) hm hx.eG.size hg.os hg.tape hg.output hg.size (fun b hb _=>hg.block b hb sq) fun o ho=>by have:=di ho;omega
 | some r=>
  obtain⟨h1,o,h2,h3⟩:=hr r rfl;exact hx.mA (D:=r) hm og hg.os hg.tape hg.output hg.size (fun b hb fM=>hg.block b hb fun e=>by cases e;exact fM rfl) fun o' ho=>by rw[h2]at ho;cases ho;exact h3
abbrev Gg(W:World)(S:Nat->Nat->Prop)(V Vx:List α->Prop)(J Jx:List α->List aB)(R:List (Addr×Value))(pre:List α)(x:α)(w:World):Exit->Act->World->Prop:=
 ownPostK (RO R) (RI W S V J) (fun c ys w'=>c= .ret/\RI W S Vx Jx ys w') (pre++[x]) w
def Bi{n:Fr}{V Vx:List α->Prop}{J Jx:List α->List aB}{R:List (Addr×Value)}{pre:List α}{x:α}{w:World}{H':List aB}(h:XM W S (J pre) w)(hV:V (pre++[x]))(KG:(J (pre++[x])).all aB.wr=true)(hR:∀ w',Go.X.Good (J (pre++[x])) w'->∀ y∈R,w'.cell? y.1=some y.2)(hp:∀ w',XM w (ck (J pre)) H' w'->XM w (ck (J pre)) (J (pre++[x])) w'):XE n (Gg W S V Vx J Jx R pre x w) .normal L (XM w (ck (J pre)) H'):=fun _ w' _ hw=>by
 have h1:=hp w' hw;exact⟨h1.RR h.eY,fun y hy _=>hR w' h1.eY y hy,hV,h.then h1 KG⟩
theorem XE.fi{n:Fr}{V Vx:List α->Prop}{J Jx:List α->List aB}{R:List (Addr×Value)}{pre:List α}{x:α}{w:World}{H':List aB}(h:XM W S (J pre) w)(hV:Vx (pre++[x]))(KG:(Jx (pre++[x])).all aB.wr=true)(hp:∀ w',XM w (ck (J pre)) H' w'->XM w (ck (J pre)) (Jx (pre++[x])) w'):XE n (Gg W S V Vx J Jx R pre x w) .ret L (XM w (ck (J pre)) H'):=fun _ w' _ hw=>by
 have h1:=hp w' hw;exact⟨h1.RR h.eY,rfl,hV,h.then h1 KG⟩
def OV{k:Nat}{kp:List Nat}{cs:List (Nat×Nat)}{g:Operand}{ps:Array Tmp}{assign body:Code}{gf:Nat}{lb:Array Value}{aaq:α->Array Value}{R:List (Addr×Value)}{xs:List α}(V Vx:List α->Prop)(J Jx:List α->List aB)(L1:α->PF)(asg:α->Array Value->Act)(hg:ev L g=some (.func (.func gf) #[] lb))(eg:∀ args w,(callFunc gf args).run P w= .ok (.enter gf args) w)(hps:∀ x,(aaq x).size=ps.size)(aas:∀ w,XM W S H w->SeqStopsK Fence.wide 2 P gf lb aaq (RO R) (· =xs) (· <+:xs) xs.length w)(hV0:V [])(hJ0:∀ w,XM W S H w->XM W S (J []) w)(hJ:∀ pre,(J pre).all aB.wr=true)(hJx:∀ pre,(Jx pre).all aB.wr=true)(Wx:∀ (l:Nat) (x:α) (tmps:Array Value) (w:World) (K:Act->World->Prop),K (asg x tmps) w->assign.wpIn (inR l) 1 P (Exit.then K fun _ _ _=>False) {tmps:=(ps.zip (aaq x)).foldl (fun t (p,v)=>t.setIfInBounds p v) tmps,defers:=[]} w)(agA:∀ x a,pd (fr k kp cs) L a->pd (fr k kp cs) (L1 x) (asg x a.tmps))(RS:∀ pre x w,V pre->pre.length<xs.length->XM W S (J pre) w->XB P (fr k kp cs) body (Gg W S V Vx J Jx R pre x w) (L1 x) (XM w (ck (J pre)) (J pre)))(RT:V xs->∀ D,W.heap.size<=D->XE ⟨k,[mkD D],kp,cs⟩ Q .normal L (XM W S (.mark D::J xs)))(RU:∀ pre,pre<+:xs->Vx pre->∀ D,W.heap.size<=D->XE ⟨k,[mkD D],kp,cs⟩ Q .ret L (XM W S (.mark D::Jx pre))):XC P (fr k kp cs) (.rangeFunc g ps assign body) Q L (XM W S H):=fun a w ha hw=>by
 have ES:∀ (D:Nat) (E:List aB) (w':World),E.all aB.wr=true->W.heap.size<=D->XM W S E w'->w'.heap[D]? =some (.deferred (some []))->XM W S (.mark D::E) w':=fun D E w' hE hD hx hh=>by
  refine⟨⟨fun e he=> ?_,List.pairwise_cons.2 ⟨fun e he _ b o h1 h2=> ?_,hx.eY.2⟩⟩,hx.eG,fun e he KG b o hb=> ?_⟩
  ·rcases List.mem_cons.1 he with rfl | he
   ·exact hh
   ·exact hx.eY.1 e he
  ·obtain rfl:b=D:=h1;obtain⟨A,t,fz,h3⟩:=BR (hx.eY.1 e he) (yU (List.all_eq_true.1 hE e he)) h2;rw[hh]at h3;cases h3
  ·rcases List.mem_cons.1 he with rfl | he
   ·cases KG
   ·exact hx.D8 e he KG b o hb
 refine(wpIn_wide (n:=3)).1 ?_;refine wpIn_rangeFunc_ownF (F:=Fence.wide) (w0:=w) rfl og (au ha hg) trivial eg (aas w hw) (fun h k=>h.trans k) (fun W l o o' _ hl ho _=>RO.put W l o o' hl ho) (Below.refl _ _) hps
  (RI W S V J) (fun c ys w'=>c= .ret/\RI W S Vx Jx ys w') (RI.aS hJ hw.eG.size) (fun c=>fun pre A B row ⟨hc,hi⟩ hgr hr=>⟨hc,RI.aS hJx hw.eG.size pre A B row hi hgr hr⟩) ⟨hV0,hJ0 w hw⟩ (fun x=>asg x a.tmps) ?_ ?_ ?_ ?_
 ·exact fun l x W' K hK=>Wx l x a.tmps W' K hK
 ·rintro l pre x w1 ⟨hv,hx⟩ hlen;refine vM body _ _ w1 (fun _ _ q=>q) ?_;exact RS pre x w1 hv hlen hx _ w1 (agA x a ha) (kJ hx.eY)
 ·rintro D ys w1 hD rfl ⟨hv,hx⟩ hh;have hD2:W.heap.size<=D:=Nat.le_trans hw.eG.size hD;have hd:a.defers=[]:=ha.1;refine RT hv D hD2 _ w1 ⟨?_,ha.2.1,ha.2.2⟩ (ES D _ w1 (hJ _) hD2 hx hh);show _::a.defers=_;rw[hd];rfl
 ·rintro D c pre w1 hD hp ⟨rfl,hv,hx⟩ hh;have hD2:W.heap.size<=D:=Nat.le_trans hw.eG.size hD;have hd:a.defers=[]:=ha.1;refine wpIn_ret (RU pre hp hv D hD2 _ w1 ⟨?_,ha.2.1,ha.2.2⟩ (ES D _ w1 (hJx _) hD2 hx hh));show _::a.defers=_;rw[hd];rfl
end
section
variable {P:Program} {Q:Exit->Act->World->Prop} {L:PF} {n:Fr} {M:World->Prop} {ty:TypeId} {pos:String} {af:Array Edge} {d:Nat} {ops:Array Oper} {bU:List Oper}
def XI(P:Program)(n:Fr)(ops:Array Oper)(Q:Exit->Act->World->Prop)(l:List Oper)(L:PF)(M:World->Prop):Prop:=
 ∀ a w,pd n L a->M w->wpListIn Fence.wide 2 P ops Q l a w
def K7{i:Nat}{l:List Oper}(h:XI P n l.toArray Q l L M):XC P n (.region i l.toArray false) Q L M:=fun a w ha hw=>wpIn_wide.1 (wpIn_region_lit (h a w ha hw))
theorem XI.nil(h:XE n Q .normal L M):XI P n ops Q [] L M:=h
theorem XI.v{op:Op}{v:Value}(hv:aZ P n L M ⟨some d,op,ty,pos,af,none⟩ v)(hd:Nat.blt d n.sz=true)(h:XI P n ops Q bU ((d,v)::L) M):XI P n ops Q (⟨some d,op,ty,pos,af,none⟩::bU) L M:=fun a w ha hw=>by
 unfold wpListIn;rw[if_pos (by simp[Region.wanted])];refine⟨fun _ _=>trivial,?_⟩;have h0:Fence.wide.round=none:=rfl;rw[h0,Oper.semAt_none,hv a w ha hw];exact h _ w (ha.put hd v) hw
def XI.yield{y:Operand}{l:Nat}{v:Value}{R:Ending->World->Prop}{t:Array TypeId}(hx:ev L x=some (.func (.yield l) #[] #[]))(hy:ev L y=some v)(hY:∀ w,M w->YieldAt Fence.wide 1 P l #[v] w R)(hd:Nat.blt d n.sz=true)(h:∀ e w,R e w->∃ b,e= .returned (.bool b)/\XI P n ops Q bU ((d,.bool b)::L) fun w'=>R (.returned (.bool b)) w'):XI P n ops Q (⟨some d,.call ⟨.value x,#[y],t⟩,ty,pos,af,none⟩::bU) L M:=fun a w ha hw=>by
 obtain⟨fn,tmps,assign,body,h1,h2⟩:=hY w hw;unfold wpListIn;rw[if_pos (by simp[Region.wanted])];refine⟨fun _ _=>trivial,?_⟩;have h0:Fence.wide.round=none:=rfl;have agB:(execOp a.eval ⟨some d,.call ⟨.value x,#[y],t⟩,ty,pos,af,none⟩).run P w= .ok (.round l fn tmps assign body) w:=by
  simp[execOp,resolve,invoke,Deferred.ofValue,au ha hx,au ha hy,h1]
 rw[h0,Oper.semAt_none,agB];refine⟨fun q=>(by cases q),h2.mono fun e w' hr=> ?_⟩;obtain⟨b,rfl,sK⟩:=h e w' hr;exact sK _ w' (ha.put hd _) hr
def vO{t:TypeId}{b o:Nat}{v:Value}{φ:World->Prop}{gd:Option (Nat×Bool)}(hx:ev L x=some (.pointer (some ⟨b,o,none⟩)))(hc:∀ w,φ w->w.cell? ⟨b,o,none⟩=some v)(ht:jD P t=true):aZ P n L φ (⟨some d,.load t x,ty,pos,af,gd⟩) v:=fun a w ha hw=>by
 simp[execOp,au ha hx,Instr.loadAt,Instr.sureAddr,fT ht (hc w hw)]
def pq{f:FuncId}{y:Operand}{u v:Value}{φ:World->Prop}{gd:Option (Nat×Bool)}(hx:ev L x=some u)(hy:ev L y=some v):aZ P n L φ (⟨some d,.makeFunc (.func f) #[] #[x,y],ty,pos,af,gd⟩) (.func (.func f) #[] #[u,v]):=fun a w ha hw=>by
 simp[execOp,au ha hx,au ha hy,Instr.makeFunc]
end
section
variable {P:Program} {Q:Exit->Act->World->Prop} {L:PF} {W:World} {S:Nat->Nat->Prop} {H:List aB} {α:Type}
theorem ad0(tmps:Array Value)(p:Tmp)(v:Value):(#[p].zip #[v]).foldl (fun t (p,v)=>t.setIfInBounds p v) tmps=tmps.setIfInBounds p v:=sq
def OW{l i q p:Nat}{ty:TypeId}{pos:String}{a:Act}{w:World}{K:Act->World->Prop}(h:K (a.put (some q) (a.eval (.tmp p))) w):(Code.region i #[⟨some q,.assign (.tmp p),ty,pos,#[],none⟩] false).wpIn (inR l) 1 P (Exit.then K fun _ _ _=>False) a w:=by
 refine vM _ _ _ w (fun _ _ q=>q) ⟨rfl,?_⟩;show wpList _ _ _ [_] _ _;unfold wpList;rw[if_pos (by simp[Region.wanted])];left;unfold Oper.wp;have:(execOp a.eval ⟨some q,.assign (.tmp p),ty,pos,#[],none⟩).run P w= .ok (.value (a.eval (.tmp p))) w:=by simp[execOp]
 rw[this];exact h
def uo{k:Nat}{kp:List Nat}{cs:List (Nat×Nat)}{g:Operand}{p q i:Nat}{ty:TypeId}{pos:String}{body:Code}{gf:Nat}{lb:Array Value}{R:List (Addr×Value)}{xs:List α}(enc:α->Value)(V Vx:List α->Prop)(J Jx:List α->List aB)(hg:ev L g=some (.func (.func gf) #[] lb))(eg:∀ args w,(callFunc gf args).run P w= .ok (.enter gf args) w)(hp:Nat.blt p k=true)(hq:Nat.blt q k=true)(aas:∀ w,XM W S H w->SeqStopsK Fence.wide 2 P gf lb (fun x=> #[enc x]) (RO R) (· =xs) (· <+:xs) xs.length w)(hV0:V [])(hJ0:∀ w,XM W S H w->XM W S (J []) w)(hJ:∀ pre,(J pre).all aB.wr=true)(hJx:∀ pre,(Jx pre).all aB.wr=true)(RS:∀ pre x w,V pre->pre.length<xs.length->XM W S (J pre) w->XB P (fr k kp cs) body (Gg W S V Vx J Jx R pre x w) ((q,enc x)::(p,enc x)::L) (XM w (ck (J pre)) (J pre)))(RT:V xs->∀ D,W.heap.size<=D->XE ⟨k,[mkD D],kp,cs⟩ Q .normal L (XM W S (.mark D::J xs)))(RU:∀ pre,pre<+:xs->Vx pre->∀ D,W.heap.size<=D->XE ⟨k,[mkD D],kp,cs⟩ Q .ret L (XM W S (.mark D::Jx pre))):XC P (fr k kp cs) (.rangeFunc g #[p] (.region i #[⟨some q,.assign (.tmp p),ty,pos,#[],none⟩] false) body) Q L (XM W S H):=
 OV V Vx J Jx (fun x=>(q,enc x)::(p,enc x)::L) (fun x tmps=>(Act.put {tmps:=tmps.setIfInBounds p (enc x),defers:=[]} (some q) (Act.eval {tmps:=tmps.setIfInBounds p (enc x),defers:=[]} (.tmp p)))) hg eg (fun _=>rfl) aas hV0 hJ0 hJ hJx
  (fun l x tmps w K hK=>by rw[ad0];exact OW hK)
  (fun x a ha=>by
   have h1:=ha.put (n:=fr k kp cs) hp (enc x)
   have hd:a.defers=[]:=ha.1
   have h2:pd (fr k kp cs) ((p,enc x)::L) {tmps:=a.tmps.setIfInBounds p (enc x),defers:=[]} :=by simpa only[Act.put,hd]using h1
   have h3:Act.eval {tmps:=a.tmps.setIfInBounds p (enc x),defers:=[]} (.tmp p)=enc x:=au h2 (by simp[ev,lk])
   have h4:=h2.put (n:=fr k kp cs) hq (enc x)
   rw[h3];exact h4) RS RT RU
end
end Go.X

namespace Go.X
open Go Go.RowKit Go.Proofs
variable{v:Value}
section
variable {P:Program} {n:Fr} {Q:Exit->Act->World->Prop} {L:PF} {W:World} {S:Nat->Nat->Prop} {H:List aB}
def RW(tmps:Array Value):ResultVar->Sem Value
 | .tmp t=>pure (tmps.getD t undef)
 | .cell a t=>do loadVar t (<-asAddr (tmps.getD a undef))
theorem vP(fn:Func)(tmps:Array Value):results fn tmps=(do
  let vs<-fn.results.mapM (RW tmps)
  pure (if h:vs.size=1 then vs[0]else .tuple vs)):=by
 have:RW tmps=(fun
  | .tmp t=>pure (tmps.getD t undef)
  | .cell a t=>do loadVar t (<-asAddr (tmps.getD a undef))):=by
  funext x;cases x<;>rfl
 rw[this];rfl
def su(P:Program)(n:Fr)(L:PF)(M:World->Prop)(r:ResultVar)(v:Value):Prop:=
 ∀ a w,pd n L a->M w->(RW a.tmps r).run P w= .ok v w
def su.tmp{M:World->Prop}{t:Nat}{v:Value}(h:lk L t=some v):su P n L M (.tmp t) v:=fun a w ha _=>by
 show(pure (a.tmps.getD t undef):Sem Value).run P w=_;rw[ha.2.2 t v h];rfl
theorem su.cell{c b o i m:Nat}{t:TypeId}{C:Nat->Value}{v:Value}(hv:lk L c=some (aA b o i))(hH:kR H (.cells b o m C))(hC:i<m/\C i=v)(ht:jD P t=true):su P n L (XM W S H) (.cell c t) v:=fun a w ha hw=>by
 have hc:=dX (hw.eY.1 _ hH.mem) hC.1;rw[hC.2]at hc;show(do loadVar t (<-asAddr (a.tmps.getD c undef)):Sem Value).run P w=_;rw[ha.2.2 c _ hv];simp[asAddr,aA,fT ht hc]
def su.agg{c b o i m sz:Nat}{t:TypeId}{C:Nat->Value}(hv:lk L c=some (aA b o i))(hH:kR H (.cells b o m C))(hC:i+sz<=m/\cZ C i sz=v)(ht:ny P t=true)(hs:fb P t=some sz):su P n L (XM W S H) (.cell c t) v:=fun a w ha hw=>by
 have hl:=js (P:=P) (w:=w) (b:=b) (o:=o) (i:=i) (C:=C) ht hs fun l hl=>dX (hw.eY.1 _ hH.mem);rw[hC.2]at hl;show(do loadVar t (<-asAddr (a.tmps.getD c undef)):Sem Value).run P w=_;rw[ha.2.2 c _ hv];simp[asAddr,aA,hl]
def jt{k:Nat}{ps:List Nat}{cs:List (Nat×Nat)}{fn:Func}{R:Ending->World->Prop}{M:World->Prop}{r:ResultVar}(hr:fn.results= #[r])(h1:su P (fr k ps cs) L M r v)(h:∀ w,M w->R (.returned v) w):XE (fr k ps cs) (bodyPost P fn R) .ret L M:=fun a w ha hw=>by
 refine⟨ha.1,v,?_,h w hw⟩;have e1:=h1 a w ha hw;rw[vP,hr];simp[e1]
def dQ{k:Nat}{ps:List Nat}{cs:List (Nat×Nat)}{fn:Func}{R:Ending->World->Prop}{M:World->Prop}{r r':ResultVar}{v':Value}(hr:fn.results= #[r,r'])(h1:su P (fr k ps cs) L M r v)(h2:su P (fr k ps cs) L M r' v')(h:∀ w,M w->R (.returned (.tuple #[v,v'])) w):XE (fr k ps cs) (bodyPost P fn R) .ret L M:=fun a w ha hw=>by
 refine⟨ha.1,.tuple #[v,v'],?_,h w hw⟩;have e1:=h1 a w ha hw;have e2:=h2 a w ha hw;rw[vP,hr];simp[e1,e2]
def aF(v:Value):Nat->Value:=cellsOf #[v]
def aF.ld(v:Value):0<1/\aF v 0=v:=⟨og,rfl⟩
theorem aF.st(u v:Value):0<1/\dL (aF u) 0 v=aF v:=⟨og,by
 funext i
 cases i with
 | zero=>rfl
 | succ i=>simp[dL,aF,cellsOf]⟩
def Wy{f:Int->Bool}{m:Nat}{z:Int}(h:0<=z/\z<m):(Wt f m)[z.toNat]? =some (.bool (f z)):=by
 have h1:z.toNat<m:=og;have h2:((z.toNat:Nat):Int)=z:=og;simp[Wt,h1,h2]
end
section
variable {P:Program} {Q:Exit->Act->World->Prop} {L:PF} {n:Fr} {M:World->Prop} {ty:TypeId} {pos:String} {af:Array Edge} {d:Nat} {ops:Md} {bU:List Oper}
def YieldAt.weak{F:Fence}{m:Nat}{l:Nat}{args:Array Value}{w:World}{R R':Ending->World->Prop}(h:YieldAt F m P l args w R)(hr:∀ e w',R e w'->R' e w'):YieldAt F m P l args w R':=by
 obtain⟨fn,tmps,assign,body,h1,h2⟩:=h;exact⟨fn,tmps,assign,body,h1,h2.mono hr⟩
def pt{g:FuncId}(hc:c9 P g=true):∀ args w,(callFunc g args).run P w= .ok (.enter g args) w:=fun args w=>by
 unfold c9 at hc;cases hf:P.funcs[g]? with
 | none=>simp[hf]at hc
 | some fn=>
  simp only[hf,Bool.and_eq_true]at hc;obtain⟨h1,h2⟩:=hc;have h3:¬fn.name= "runtime.NumGoroutine" :=by simpa using h1
  have h4:¬fn.body=none:=by cases hb:fn.body<;>simp_all
  simp[callFunc,run_program,hf,h3,h4]
theorem Wz{w:World}{a:Addr}(h:w.cell? a=some v):a.block<w.heap.size:=by
 unfold World.cell? at h;cases ho:w.heap[a.block]? with
 | none=>simp[ho]at h
 | some o=>exact di ho
end
end Go.X

namespace Go.X
open Go
def jc(p:Nat->Bool)(i:Nat):Nat->Bool:=fun j=>p j&& !Nat.beq j i
def ET(p:Nat->Bool)(i:Nat):Nat->Bool:=fun j=>p j||Nat.beq j i
def AY(r:Nat->pQ)(i:Nat)(x:pQ):Nat->pQ:=fun j=>bif Nat.beq j i then x else r j
theorem WA{i j:Nat}(h:¬i=j):Nat.beq i j=false:=by
 cases hb:Nat.beq i j with
 | false=>rfl
 | true=>exact absurd (Nat.eq_of_beq_eq_true hb) h
def uq(p:Nat->Bool)(i:Nat):jc p i i=false:=by simp[jc]
theorem iJ{p:Nat->Bool}{i j:Nat} :jc p i j=true↔p j=true/\j≠i:=by
 simp only[jc,Bool.and_eq_true,Bool.not_eq_true',ne_eq];constructor
 ·rintro⟨h1,h2⟩;exact⟨h1,fun e=>by subst e;simp at h2⟩
 ·rintro⟨h1,h2⟩;exact⟨h1,WA h2⟩
theorem jF{p:Nat->Bool}{i j:Nat} :ET p i j=true↔p j=true\/j=i:=by
 simp only[ET,Bool.or_eq_true];constructor
 ·rintro(h | h)
  ·exact .inl h
  ·exact .inr (by simpa using h)
 ·rintro(h | h)
  ·exact .inl h
  ·exact .inr (by simpa using h)
theorem mT(r:Nat->pQ)(i:Nat)(x:pQ):AY r i x i=x:=by simp[AY]
theorem lL(r:Nat->pQ){i j:Nat}(x:pQ)(h:j≠i):AY r i x j=r j:=by
 simp[AY,WA h]
theorem EU{p:Nat->Bool}{i:Nat}(h:p i=true):ET (jc p i) i=p:=by
 funext j;rw[Bool.eq_iff_iff,jF,iJ];constructor
 ·rintro(h1 | rfl)
  ·exact h1.1
  ·exact h
 ·intro hj;by_cases c:j=i
  ·exact .inr c
  ·exact .inl ⟨hj,c⟩
abbrev pQ.BU(x:pQ):aB:=.row x.v x.e x.sz x.k x.xs
section
variable {W w:World} {S:Nat->Nat->Prop} {H:List aB}
def om{p:Nat->Bool}{r:Nat->pQ}(i:Nat)(hp:p i=true)(h:XM W S (.bk p r::H) w):XM W S ((r i).BU:: .bk (jc p i) r::H) w:=by
 obtain⟨⟨hh,mi⟩,hk,hm⟩:=h;rw[List.pairwise_cons]at mi;have hf:(aB.bk p r).holds w:=hh _ sq;have ha1:∀ b o,((r i).BU).fO b o->(aB.bk p r).fO b o:=fun b o hb=>⟨i,hp,hb⟩;have ha2:∀ b o,(aB.bk (jc p i) r).fO b o->(aB.bk p r).fO b o:=fun b o ⟨j,hj,hb⟩=>⟨j,(iJ.1 hj).1,hb⟩;refine⟨⟨fun e he=> ?_,List.pairwise_cons.2 ⟨fun e he _ b o h1 h2=> ?_,List.pairwise_cons.2 ⟨fun e he hw b o h1 h2=>mi.1 e he (by simp[aB.wr]) b o (ha2 b o h1) h2,mi.2⟩⟩⟩,hk,fun e he hw b o hb=> ?_⟩
 ·rcases List.mem_cons.1 he with rfl | he
  ·exact hf.1 i hp
  ·rcases List.mem_cons.1 he with rfl | he
   ·exact⟨fun j hj=>hf.1 j (iJ.1 hj).1,fun j k b hj hk=>hf.2 j k b (iJ.1 hj).1 (iJ.1 hk).1⟩
   ·exact hh e (List.mem_cons_of_mem _ he)
 ·rcases List.mem_cons.1 he with rfl | he
  ·obtain⟨j,hj,hb⟩:=h2;have H9:=iJ.1 hj;exact hf.2 i j b hp H9.1 (Ne.symm H9.2) h1 hb
  ·exact mi.1 e he (by simp[aB.wr]) b o (ha1 b o h1) h2
 ·rcases List.mem_cons.1 he with rfl | he
  ·exact hm _ sq rfl b o (ha1 b o hb)
  ·rcases List.mem_cons.1 he with rfl | he
   ·exact hm _ sq rfl b o (ha2 b o hb)
   ·exact hm e (List.mem_cons_of_mem _ he) hw b o hb
def qo{p:Nat->Bool}{r:Nat->pQ}(i:Nat){x:pQ}(hp:p i=false)(h:XM W S (x.BU:: .bk p r::H) w):XM W S (.bk (ET p i) (AY r i x)::H) w:=by
 obtain⟨⟨hh,mi⟩,hk,hm⟩:=h;rw[List.pairwise_cons,List.pairwise_cons]at mi;obtain⟨hx,Rb,OJ⟩:=mi;have hf:(aB.bk p r).holds w:=hh _ sq;have fM:∀ j,p j=true->j≠i:=fun j hj e=>by subst e;rw[hp]at hj;cases hj
 have har:∀ b o,(aB.bk (ET p i) (AY r i x)).fO b o->x.BU.fO b o\/(aB.bk p r).fO b o:=fun b o ⟨j,hj,hb⟩=>by
  rcases jF.1 hj with h1 | rfl
  ·rw[lL _ _ (fM j h1)]at hb;exact .inr ⟨j,h1,hb⟩
  ·rw[mT]at hb;exact .inl hb
 refine⟨⟨fun e he=> ?_,List.pairwise_cons.2 ⟨fun e he _ b o h1 h2=> ?_,OJ⟩⟩,hk,fun e he hw b o hb=> ?_⟩
 ·rcases List.mem_cons.1 he with rfl | he
  ·refine⟨fun j hj=> ?_,fun j k b hj Ib Zk h1 h2=> ?_⟩
   ·rcases jF.1 hj with h1 | rfl
    ·rw[lL _ _ (fM j h1)];exact hf.1 j h1
    ·rw[mT];exact hh x.BU sq
   ·have hxf:∀ l,p l=true->x.v.ownBlock=some b->(r l).v.ownBlock=some b->False:=fun l hl e1 e2=>hx (.bk p r) sq (by simp[aB.wr]) b 0 e1 ⟨l,hl,e2⟩;rcases jF.1 hj with q1 | rfl
    ·rw[lL _ _ (fM j q1)]at h1;rcases jF.1 Ib with q2 | rfl
     ·rw[lL _ _ (fM k q2)]at h2;exact hf.2 j k b q1 q2 Zk h1 h2
     ·rw[mT]at h2;exact hxf j q1 h2 h1
    ·rw[mT]at h1;rcases jF.1 Ib with q2 | rfl
     ·rw[lL _ _ (fM k q2)]at h2;exact hxf k q2 h1 h2
     ·exact Zk rfl
  ·exact hh e (by simp[he])
 ·rcases har b o h1 with h3 | h3
  ·exact hx e (by simp[he]) (by simp[aB.wr]) b o h3 h2
  ·exact Rb e he (by simp[aB.wr]) b o h3 h2
 ·rcases List.mem_cons.1 he with rfl | he
  ·rcases har b o hb with h3 | h3
   ·exact hm x.BU sq rfl b o h3
   ·exact hm _ sq rfl b o h3
  ·exact hm e (by simp[he]) hw b o hb
theorem XM.part{b o n off m:Nat}{C:Nat->Value}(hn:off+m<=n)(h:XM W S (.cells b o n C::H) w):XM W S (.cells b (o+off) m (fun i=>C (off+i)):: .cells b o off C:: .cells b (o+off+m) (n-off-m) (fun i=>C (off+m+i))::H) w:=by
 obtain⟨⟨hh,mi⟩,hk,hm⟩:=h;rw[List.pairwise_cons]at mi;obtain⟨A,t,lo,hi,h1,h2⟩:=hh (.cells b o n C) sq;have sub:∀ (o' n':Nat) (C':Nat->Value),o<=o'->o'+n'<=o+n->∀ b' i,(aB.cells b o' n' C').fO b' i->(aB.cells b o n C).fO b' i:=fun o' n' C' h3 h4 b' i ⟨e1,e2,e3⟩=>⟨e1,og,og⟩;have s1:=sub (o+off) m (fun i=>C (off+i)) og og;have s2:=sub o off C og og;have s3:=sub (o+off+m) (n-off-m) (fun i=>C (off+m+i)) og og;refine⟨⟨fun e he=> ?_,?_⟩,hk,fun e he hw b' i hb=> ?_⟩
 ·simp only[List.mem_cons]at he;rcases he with rfl | rfl | rfl | he
  ·refine⟨A,t,lo,hi,h1,fun i HN=> ?_⟩;have:=h2 (off+i) og;rw[show o+off+i=o+(off+i)from og];exact this
  ·exact⟨A,t,lo,hi,h1,fun i HN=>h2 i og⟩
  ·refine⟨A,t,lo,hi,h1,fun i HN=> ?_⟩;have:=h2 (off+m+i) og;rw[show o+off+m+i=o+(off+m+i)from og];exact this
  ·exact hh e (by simp[he])
 ·refine List.pairwise_cons.2 ⟨fun e he _ b' i h3 h4=> ?_,List.pairwise_cons.2 ⟨fun e he _ b' i h3 h4=> ?_,List.pairwise_cons.2 ⟨fun e he _ b' i h3 h4=>mi.1 e he (by simp[aB.wr]) b' i (s3 b' i h3) h4,mi.2⟩⟩⟩
  ·simp only[List.mem_cons]at he;rcases he with rfl | rfl | he
   ·obtain⟨_,a1,a2⟩:=h3;obtain⟨_,a3,a4⟩:=h4;omega
   ·obtain⟨_,a1,a2⟩:=h3;obtain⟨_,a3,a4⟩:=h4;omega
   ·exact mi.1 e he (by simp[aB.wr]) b' i (s1 b' i h3) h4
  ·simp only[List.mem_cons]at he;rcases he with rfl | he
   ·obtain⟨_,a1,a2⟩:=h3;obtain⟨_,a3,a4⟩:=h4;omega
   ·exact mi.1 e he (by simp[aB.wr]) b' i (s2 b' i h3) h4
 ·simp only[List.mem_cons]at he;rcases he with rfl | rfl | rfl | he
  ·exact hm (.cells b o n C) sq rfl b' i (s1 b' i hb)
  ·exact hm (.cells b o n C) sq rfl b' i (s2 b' i hb)
  ·exact hm (.cells b o n C) sq rfl b' i (s3 b' i hb)
  ·exact hm e (by simp[he]) hw b' i hb
def XM.Ii{b o n off m:Nat}{C C1 C2 C3:Nat->Value}(hn:off+m<=n)(e1:∀ i,i<off->C i=C1 i)(e2:∀ i,i<m->C (off+i)=C2 i)(e3:∀ i,i<n-off-m->C (off+m+i)=C3 i)(h:XM W S (.cells b (o+off) m C2:: .cells b o off C1:: .cells b (o+off+m) (n-off-m) C3::H) w)(hm0:0<m):XM W S (.cells b o n C::H) w:=by
 obtain⟨⟨hh,mi⟩,hk,hm⟩:=h;simp only[List.pairwise_cons]at mi;obtain⟨p1,p2,p3,p4⟩:=mi;obtain⟨A,t,lo,hi,h1,h2⟩:=hh (.cells b (o+off) m C2) sq;obtain⟨A',t',lo',HN,h1',h2'⟩:=hh (.cells b o off C1) sq;obtain⟨A'',t'',ajZ,aj0,aau,agC⟩:=hh (.cells b (o+off+m) (n-off-m) C3) sq;rw[h1]at h1' aau;simp only[Option.some.injEq,Obj.cells.injEq,Prod.mk.injEq]at h1' aau;obtain⟨rfl,rfl,rfl,rfl⟩:=h1';obtain⟨rfl,rfl,rfl,rfl⟩:=aau;have cut:∀ b' i,(aB.cells b o n C).fO b' i->(aB.cells b (o+off) m C2).fO b' i\/(aB.cells b o off C1).fO b' i\/(aB.cells b (o+off+m) (n-off-m) C3).fO b' i:=fun b' i ⟨q1,q2,q3⟩=>by
  by_cases c1:i<o+off
  ·exact .inr (.inl ⟨q1,q2,c1⟩)
  ·by_cases c2:i<o+off+m
   ·exact .inl ⟨q1,og,c2⟩
   ·exact .inr (.inr ⟨q1,og,og⟩)
 refine⟨⟨fun e he=> ?_,List.pairwise_cons.2 ⟨fun e he _ b' i h3 h4=> ?_,p4⟩⟩,hk,fun e he hw b' i hb=> ?_⟩
 ·rcases List.mem_cons.1 he with rfl | he
  ·refine⟨A,t,lo,hi,h1,fun i OX=> ?_⟩;by_cases c1:i<off
   ·rw[e1 i c1];exact h2' i c1
   ·by_cases c2:i<off+m
    ·have:=h2 (i-off) og;have e:=e2 (i-off) og;rw[show off+(i-off)=i from og]at e;rw[show o+off+(i-off)=o+i from og]at this;rw[e];exact this
    ·have:=agC (i-off-m) og;have e:=e3 (i-off-m) og;rw[show off+m+(i-off-m)=i from og]at e;rw[show o+off+m+(i-off-m)=o+i from og]at this;rw[e];exact this
  ·exact hh e (by simp[he])
 ·rcases cut b' i h3 with h | h | h
  ·exact p1 e (by simp[he]) (by simp[aB.wr]) b' i h h4
  ·exact p2 e (by simp[he]) (by simp[aB.wr]) b' i h h4
  ·exact p3 e he (by simp[aB.wr]) b' i h h4
 ·rcases List.mem_cons.1 he with rfl | he
  ·rcases cut b' i hb with h | h | h
   ·exact hm _ sq rfl b' i h
   ·exact hm (.cells b o off C1) sq rfl b' i h
   ·exact hm (.cells b (o+off+m) (n-off-m) C3) sq rfl b' i h
  ·exact hm e (by simp[he]) hw b' i hb
def Ij(C:Nat->Nat->Value)(i:Nat)(x:Nat->Value):Nat->Nat->Value:=fun j=>bif Nat.beq j i then x else C j
def Ik(g:Nat->Nat)(i b:Nat):Nat->Nat:=fun j=>bif Nat.beq j i then b else g j
theorem Gh(C:Nat->Nat->Value)(i:Nat)(x:Nat->Value):Ij C i x i=x:=by simp[Ij]
theorem Gi(C:Nat->Nat->Value){i j:Nat}(x:Nat->Value)(h:j≠i):Ij C i x j=C j:=by simp[Ij,WA h]
theorem ur(g:Nat->Nat)(i b:Nat):Ik g i b i=b:=by simp[Ik]
theorem rj(g:Nat->Nat){i j:Nat}(b:Nat)(h:j≠i):Ik g i b j=g j:=by simp[Ik,WA h]
def BV{p:Nat->Bool}{g:Nat->Nat}{n:Nat}{C:Nat->Nat->Value}(i:Nat)(hp:p i=true)(h:XM W S (.eb p g n C::H) w):XM W S (.cells (g i) 0 n (C i):: .eb (jc p i) g n C::H) w:=by
 obtain⟨⟨hh,mi⟩,hk,hm⟩:=h;rw[List.pairwise_cons]at mi;have hf:(aB.eb p g n C).holds w:=hh _ sq;have ha1:∀ b o,(aB.cells (g i) 0 n (C i)).fO b o->(aB.eb p g n C).fO b o:=fun b o ⟨e1,e2,e3⟩=>⟨i,hp,e1,og⟩;have ha2:∀ b o,(aB.eb (jc p i) g n C).fO b o->(aB.eb p g n C).fO b o:=fun b o ⟨j,hj,hb⟩=>⟨j,(iJ.1 hj).1,hb⟩;refine⟨⟨fun e he=> ?_,List.pairwise_cons.2 ⟨fun e he _ b o h1 h2=> ?_,List.pairwise_cons.2 ⟨fun e he hw b o h1 h2=>mi.1 e he (by simp[aB.wr]) b o (ha2 b o h1) h2,mi.2⟩⟩⟩,hk,fun e he hw b o hb=> ?_⟩
 ·rcases List.mem_cons.1 he with rfl | he
  ·obtain⟨A,t,lo,hi,h1,h2⟩:=hf.1 i hp;exact⟨A,t,lo,hi,h1,fun j hj=>by rw[Nat.zero_add];exact h2 j hj⟩
  ·rcases List.mem_cons.1 he with rfl | he
   ·exact⟨fun j hj=>hf.1 j (iJ.1 hj).1,fun j k hj hk=>hf.2 j k (iJ.1 hj).1 (iJ.1 hk).1⟩
   ·exact hh e (List.mem_cons_of_mem _ he)
 ·rcases List.mem_cons.1 he with rfl | he
  ·obtain⟨j,hj,hb,_⟩:=h2;have H9:=iJ.1 hj;exact hf.2 i j hp H9.1 (Ne.symm H9.2) (h1.1.symm.trans hb)
  ·exact mi.1 e he (by simp[aB.wr]) b o (ha1 b o h1) h2
 ·rcases List.mem_cons.1 he with rfl | he
  ·exact hm _ sq rfl b o (ha1 b o hb)
  ·rcases List.mem_cons.1 he with rfl | he
   ·exact hm (.eb p g n C) sq rfl b o (ha2 b o hb)
   ·exact hm e (List.mem_cons_of_mem _ he) hw b o hb
def EV{p:Nat->Bool}{g:Nat->Nat}{n b0:Nat}{C:Nat->Nat->Value}{x:Nat->Value}(i:Nat)(hn:0<n)(hp:p i=false)(h:XM W S (.cells b0 0 n x:: .eb p g n C::H) w):XM W S (.eb (ET p i) (Ik g i b0) n (Ij C i x)::H) w:=by
 obtain⟨⟨hh,mi⟩,hk,hm⟩:=h;rw[List.pairwise_cons,List.pairwise_cons]at mi;obtain⟨hx,Rb,OJ⟩:=mi;have hf:(aB.eb p g n C).holds w:=hh _ sq;have hc:(aB.cells b0 0 n x).holds w:=hh _ sq;have fM:∀ j,p j=true->j≠i:=fun j hj e=>by subst e;rw[hp]at hj;cases hj
 have hxb:∀ j,p j=true->g j≠b0:=fun j hj e=>hx (.eb p g n C) sq (by simp[aB.wr]) b0 0 ⟨rfl,og,og⟩ ⟨j,hj,e.symm,hn⟩;have har:∀ b o,(aB.eb (ET p i) (Ik g i b0) n (Ij C i x)).fO b o->(aB.cells b0 0 n x).fO b o\/(aB.eb p g n C).fO b o:=fun b o ⟨j,hj,hb,ho⟩=>by
  rcases jF.1 hj with h1 | rfl
  ·rw[rj _ _ (fM j h1)]at hb;exact .inr ⟨j,h1,hb,ho⟩
  ·rw[ur]at hb;exact .inl ⟨hb,og,og⟩
 refine⟨⟨fun e he=> ?_,List.pairwise_cons.2 ⟨fun e he _ b o h1 h2=> ?_,OJ⟩⟩,hk,fun e he hw b o hb=> ?_⟩
 ·rcases List.mem_cons.1 he with rfl | he
  ·refine⟨fun j hj=> ?_,fun j k hj Ib Zk=> ?_⟩
   ·rcases jF.1 hj with h1 | rfl
    ·rw[rj _ _ (fM j h1),Gi _ _ (fM j h1)];exact hf.1 j h1
    ·rw[ur,Gh];obtain⟨A,t,lo,hi,h1,h2⟩:=hc;exact⟨A,t,lo,hi,h1,fun m VZ=>by have:=h2 m VZ;rwa[Nat.zero_add]at this⟩
   ·rcases jF.1 hj with q1 | rfl
    ·rw[rj _ _ (fM j q1)];rcases jF.1 Ib with q2 | rfl
     ·rw[rj _ _ (fM k q2)];exact hf.2 j k q1 q2 Zk
     ·rw[ur];exact hxb j q1
    ·rw[ur];rcases jF.1 Ib with q2 | rfl
     ·rw[rj _ _ (fM k q2)];exact fun e=>hxb k q2 e.symm
     ·exact absurd rfl Zk
  ·exact hh e (by simp[he])
 ·rcases har b o h1 with h3 | h3
  ·exact hx e (by simp[he]) (by simp[aB.wr]) b o h3 h2
  ·exact Rb e he (by simp[aB.wr]) b o h3 h2
 ·rcases List.mem_cons.1 he with rfl | he
  ·rcases har b o hb with h3 | h3
   ·exact hm (.cells b0 0 n x) sq rfl b o h3
   ·exact hm _ sq rfl b o h3
  ·exact hm e (by simp[he]) hw b o hb
def BW{g:Nat->Nat}{n:Nat}{C:Nat->Nat->Value}(h:XM W S H w):XM W S (.eb (fun _=>false) g n C::H) w:=by
 obtain⟨⟨hh,mi⟩,hk,hm⟩:=h;refine⟨⟨fun e he=> ?_,List.pairwise_cons.2 ⟨fun e _ _ b o h1 _=> ?_,mi⟩⟩,hk,fun e he hw b o hb=> ?_⟩
 ·rcases List.mem_cons.1 he with rfl | he
  ·exact⟨fun i hi=>(by cases hi),fun i j hi=>(by cases hi)⟩
  ·exact hh e he
 ·obtain⟨i,hi,_⟩:=h1;cases hi
 ·rcases List.mem_cons.1 he with rfl | he
  ·obtain⟨i,hi,_⟩:=hb;cases hi
  ·exact hm e he hw b o hb
def EW{r:Nat->pQ}(h:XM W S H w):XM W S (.bk (fun _=>false) r::H) w:=by
 obtain⟨⟨hh,mi⟩,hk,hm⟩:=h;refine⟨⟨fun e he=> ?_,List.pairwise_cons.2 ⟨fun e _ _ b o h1 _=> ?_,mi⟩⟩,hk,fun e he hw b o hb=> ?_⟩
 ·rcases List.mem_cons.1 he with rfl | he
  ·exact⟨fun i hi=>(by cases hi),fun i j b hi=>(by cases hi)⟩
  ·exact hh e he
 ·obtain⟨i,hi,_⟩:=h1;cases hi
 ·rcases List.mem_cons.1 he with rfl | he
  ·obtain⟨i,hi,_⟩:=hb;cases hi
  ·exact hm e he hw b o hb
end
end Go.X
