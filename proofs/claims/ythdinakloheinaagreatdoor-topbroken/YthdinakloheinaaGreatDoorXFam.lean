import Derived.Test.YthdinakloheinaaGreatDoorXMore
import Derived.RangeFuncNested
import Derived.RangeFuncBound
import Derived.RangeFuncCalls
import Derived.RangeFuncLeaves
import Derived.RangeFuncFrom
import Derived.Shelf.Abstract
import Derived.TacticsInMore
import Derived.OrdersIn
import Derived.Laws.StructEq
namespace Go.X
open Go Go.RowKit Go.Proofs
def pS(l:List Oper):Bool:=l.all fun o=>match o.op with | .defer _=>false | _=>true
theorem En{l:List Oper}(h:pS l=true){i:Nat}{o:Oper}(hi:l[i]? =some o):∀ c,o.op≠ .defer c:=fun c hc=>by
 have:=List.all_eq_true.1 h o (List.mem_of_getElem? hi)
 rw[hc]at this
 cases this
def swp(P:Program):Code→(Exit→Act→World→Prop)→Act→World→Prop
 | .skip,Q,a,w=>Q .normal a w
 | .exit i,Q,a,w=>Q (.exit i) a w
 | .ret,Q,a,w=>Q .ret a w
 | .seq x y,Q,a,w=>swp P x (Exit.then (swp P y Q) Q) a w
 | .block i c,Q,a,w=>swp P c (Exit.inBlock i Q) a w
 | .cond c x y,Q,a,w=>∃ t,a.eval c= .bool t∧(t=true→swp P x Q a w)∧(t=false→swp P y Q a w)
 | .region _ ops false,Q,a,w=>pS ops.toList=true∧wpList P ops Q ops.toList a w
 | .region _ ops true,Q,a,w=>pS ops.toList=true∧P.follows .mixedOrders=true∧wpAny P .any ops Q ops.size (Array.replicate ops.size false) a {w with drawn:=w.drawn+1}
 | _,_,_,_=>False
section
variable {P:Program} {Q:Exit→Act→World→Prop} {l:Nat} {n:Nat}
abbrev KN(l:Nat):Fence:=Fence.wide.inRound l
theorem A7{o:Oper}{a:Act}{w:World}{K:Act→World→Prop}(hd:∀ c,o.op≠ .defer c)(hq:∀ a w,¬Q .outgrown a w)(h:o.wp P a w K Q):o.wpIn (KN l) n P a w K Q:=by
 refine⟨fun _ _=>trivial,?_⟩
 rw[Oper.semAt_eq _ _ _ hd]
 unfold Oper.wp at h
 generalize (execOp a.eval o).run P w=r at*
 cases r with
 | ok x w'=>
  have hdep:(KN l).depth.isSome=true→1≤n:=fun q=>by cases q
  cases x<;>simp only[Oper.upon,Oper.uponIn]at h ⊢
  case value=>exact h
  case skip=>exact h
  case defer=>exact h
  case enter=>
   refine⟨hdep,CallsIn.inRound l (callsIn_wide.2 (h.mono fun e w'' he=> ?_))⟩
   cases e with
   | returned v=>exact he
   | panicked c=>exact he
   | outgrown=>obtain⟨_,_,he⟩:=he;exact absurd he (hq _ _)
  case row=>
   refine⟨hdep,fun c cs _=> ?_⟩
   obtain⟨v,w2,hr,hs⟩:=h c cs
   exact⟨v,w2,hr,stepsIn_wide.2 hs⟩
  all_goals exact h.elim
 | halt x w'=>cases x<;>simp only[Oper.upon,Oper.uponIn]at h ⊢ <;>exact h
theorem vb{ops:Array Oper}(hq:∀ a w,¬Q .outgrown a w):∀ (rest:List Oper) (a:Act) (w:World),pS rest=true→wpList P ops Q rest a w→wpListIn (KN l) n P ops Q rest a w
 | [],_,_,_,h=>h
 | o::rest,a,w,hn,h=>by
  simp only[pS,List.all_cons,Bool.and_eq_true]at hn
  unfold wpList at h
  unfold wpListIn
  split
  ·rename_i hw
   rw[if_pos hw]at h
   rcases h with h | ⟨_,a',w',h⟩
   ·refine A7 (fun c hc=> ?_) hq (Oper.wp_mono (fun a' w'=>vb hq rest a' w' hn.2) h)
    have:=hn.1
    rw[hc]at this
    cases this
   ·exact absurd h (hq _ _)
  ·rename_i hw
   rw[if_neg hw]at h
   exact⟨fun _ _=>trivial,vb hq rest _ _ hn.2 h⟩
theorem vf{ops:Array Oper}(hq:∀ a w,¬Q .outgrown a w)(hn:pS ops.toList=true):∀ (f:Nat) (ls:Array Bool) (a:Act) (w:World),wpAny P .any ops Q f ls a w→wpAnyIn (KN l) n P .any ops Q f ls a w
 | 0,_,_,_,h=>h
 | f+1,ls,a,w,h=>⟨h.1,fun i hi=>by
  have h2:=h.2 i hi
  unfold wpOp at h2
  unfold wpOpIn
  cases ho:ops[i]? with
  | none=>rw[ho]at h2;exact vf hq hn f _ _ _ h2
  | some o=>
   rw[ho]at h2
   simp only at h2 ⊢
   split
   ·rename_i hw
    rw[if_pos hw]at h2
    rcases h2 with h2 | ⟨_,a',w',h2⟩
    ·exact A7 (En hn (i:=i) (by rw[Array.getElem?_toList];exact ho)) hq (Oper.wp_mono (fun a' w'=>vf hq hn f _ a' w') h2)
    ·exact absurd h2 (hq _ _)
   ·rename_i hw
    rw[if_neg hw]at h2
    exact⟨fun _ _=>trivial,vf hq hn f _ _ _ h2⟩⟩
theorem mU:∀ (c:Code) (Q:Exit→Act→World→Prop) (a:Act) (w:World),(∀ a w,¬Q .outgrown a w)→swp P c Q a w→c.wpIn (KN l) n P Q a w
 | .skip,_,_,_,_,h=>wpIn_skip h
 | .exit _,_,_,_,_,h=>wpIn_exit h
 | .ret,_,_,_,_,h=>wpIn_ret h
 | .seq x y,Q,a,w,hq,h=>wpIn_seq (wpIn_mono (mU x (Exit.then (swp P y Q) Q) a w (fun a w=>hq a w) h) (fun e a w q=>by
   cases e with
   | normal=>exact mU y Q a w hq q
   | exit i=>exact q
   | goto i=>exact q
   | ret=>exact q
   | panic i=>exact q
   | outgrown=>exact q))
 | .block i c,Q,a,w,hq,h=>wpIn_block (mU c (Exit.inBlock _ Q) a w (fun a w=>hq a w) h)
 | .cond c x y,Q,a,w,hq,⟨_,h1,h2,h3⟩=>wpIn_cond_split h1 (fun ht=>mU x Q a w hq (h2 ht)) (fun ht=>mU y Q a w hq (h3 ht))
 | .region _ ops false,_,a,w,hq,h=>wpIn_region_list (vb hq _ a w h.1 h.2)
 | .region _ _ true,_,a,w,hq,h=>wpIn_region_any h.2.1 (vf hq h.1 _ _ a _ h.2.2)
 | .loop _,_,_,_,_,k=>k.elim
 | .rangeFunc ..,_,_,_,_,k=>k.elim
 | .scope _,_,_,_,_,k=>k.elim
 | .label _,_,_,_,_,k=>k.elim
 | .goto _,_,_,_,_,k=>k.elim
end
section
variable {P:Program} {n:Fr} {Q:Exit→Act→World→Prop} {L L':PF} {M M':World→Prop}
def XB(P:Program)(n:Fr)(c:Code)(Q:Exit→Act→World→Prop)(L:PF)(M:World→Prop):Prop:=
 ∀ a w,Sat n L a→M w→swp P c Q a w
theorem XB.keep{c:Code}(L':PF)(hs:Sub L L')(h:XB P n c Q L' M):XB P n c Q L M:=fun a w ha hw=>h a w (hs.sat ha) hw
theorem XB.seq{x y:Code}(h:XB P n x (Exit.then (swp P y Q) Q) L M):XB P n (.seq x y) Q L M:=h
theorem XE.Ez{y:Code}{Q':Exit→Act→World→Prop}(h:XB P n y Q L M):XE n (Exit.then (swp P y Q) Q') .normal L M:=h
theorem XB.skip(h:XE n Q .normal L M):XB P n .skip Q L M:=h
theorem XB.ret(h:XE n Q .ret L M):XB P n .ret Q L M:=h
theorem XB.block{i:Nat}{c:Code}(h:XB P n c (Exit.inBlock i Q) L M):XB P n (.block i c) Q L M:=h
theorem XB.cond{c:Operand}{x y:Code}{t:Bool}(hc:ev L c=some (.bool t))(ht:t=true→XB P n x Q L M)(hf:t=false→XB P n y Q L M):XB P n (.cond c x y) Q L M:=
 fun a w ha hw=>⟨t,az ha hc,fun h=>ht h a w ha hw,fun h=>hf h a w ha hw⟩
theorem XB.region{i:Nat}{l:List Oper}(h:XO P n (.cl l.toArray) Q l L M)(hn:pS l=true:=by rfl):XB P n (.region i l.toArray false) Q L M:=fun a w ha hw=>by
 refine⟨by simpa using hn,?_⟩
 have:wpList P l.toArray Q l a w:=h a w ha hw
 simpa using this
end
def Mg(D:Nat):Deferred:= {target:=.collected D,args:= #[]}
def ax.noMark:ax→Bool
 | .mark _=>false
 | _=>true
theorem rk{e:ax}{w:World}(h:e.holds w)(hm:e.noMark=true){b o:Nat}(ha:e.dG b o):∃ A t fz,w.heap[b]? =some (.cells A t fz):=by
 cases e with
 | cells b' o' n C=>obtain⟨A,t,lo,hi,h1,_⟩:=h;obtain⟨rfl,_⟩:=ha;exact⟨_,_,_,h1⟩
 | ro b' o' n C=>obtain⟨A,t,fz,h1,_⟩:=h;obtain⟨rfl,_⟩:=ha;exact⟨_,_,_,h1⟩
 | row v e sz k xs=>
  rcases h.2 with⟨rfl,_⟩ | ⟨g,cap,cur,rfl,_,hb,_⟩
  ·cases ha
  ·have:b=g:=by simp only[ax.dG,Value.ownBlock,Option.some.injEq]at ha;exact ha.symm
   subst this
   exact⟨_,_,_,hb⟩
 | mark D=>cases hm
 | fam p r=>
  obtain⟨i,hi,hb⟩:=ha
  rcases(h.1 i hi).2 with⟨hv,_⟩ | ⟨g,cap,cur,hv,hb',hg,_⟩
  ·rw[hv]at hb;cases hb
  ·rw[hv]at hb
   simp only[Value.ownBlock,Option.some.injEq]at hb
   subst hb
   exact⟨_,_,_,hg⟩
 | cfam p g n C=>obtain⟨i,hi,rfl,_⟩:=ha;obtain⟨A,t,lo,hi',h1,_⟩:=h.1 i hi;exact⟨_,_,_,h1⟩
theorem oD{e:ax}(h:e.wr=true):e.noMark=true:=by cases e<;>first | rfl | cases h
theorem ax.yL{e:ax}{w w':World}{D:Nat}(hb:∀ b,b<w.heap.size→¬b=D→w'.heap[b]? =w.heap[b]?)(hD:∀ o,w.heap[D]? =some o→o.isCells=false)(hm:e.noMark=true)(h:e.holds w):e.holds w':=by
 have ne:∀ (b:Nat) (A:Array Value) (t:TypeId) (fz:Nat×Nat),w.heap[b]? =some (.cells A t fz)→w'.heap[b]? =some (.cells A t fz):=fun b A t fz hA=>by
  rw[hb b (cw hA) (fun q=>by subst q;have:=hD _ hA;cases this)];exact hA
 cases e with
 | cells b o n C=>obtain⟨A,t,lo,hi,h1,h2⟩:=h;exact⟨A,t,lo,hi,ne _ _ _ _ h1,h2⟩
 | ro b o n C=>obtain⟨A,t,fz,h1,h2⟩:=h;exact⟨A,t,fz,ne _ _ _ _ h1,h2⟩
 | row v e sz k xs=>
  refine⟨h.1,?_⟩
  rcases h.2 with hn | ⟨g,cap,cur,rfl,hb',hg,rest⟩
  ·exact .inl hn
  ·exact .inr ⟨g,cap,cur,rfl,hb',ne _ _ _ _ hg,rest⟩
 | mark D=>cases hm
 | fam p r=>
  refine⟨fun i hi=> ?_,h.2⟩
  have hr:=h.1 i hi
  refine⟨hr.1,?_⟩
  rcases hr.2 with hn | ⟨g,cap,cur,hv,hb',hg,rest⟩
  ·exact .inl hn
  ·exact .inr ⟨g,cap,cur,hv,hb',ne _ _ _ _ hg,rest⟩
 | cfam p g n C=>
  refine⟨fun i hi=> ?_,h.2⟩
  obtain⟨A,t,lo,hi',h1,h2⟩:=h.1 i hi
  exact⟨A,t,lo,hi',ne _ _ _ _ h1,h2⟩
theorem XM.gD{W w w':World}{S:Nat→Nat→Prop}{H:List ax}{D:Nat}(h:XM W S H w)(hm:H.all ax.noMark=true)(hDW:W.heap.size≤D)(hos:w'.os=w.os)(ht:w'.tape=w.tape)(hout:w'.output=w.output)(hsz:w.heap.size≤w'.heap.size)(hb:∀ b,b<w.heap.size→¬b=D→w'.heap[b]? =w.heap[b]?)(hD:∀ o,w.heap[D]? =some o→o.isCells=false):XM W S H w':=by
 refine⟨⟨fun e he=>ax.yL hb hD (List.all_eq_true.1 hm e he) (h.good.1 e he),h.good.2⟩,⟨hos.trans h.keep.os,ht.trans h.keep.tape,hout.trans h.keep.output,Nat.le_trans h.keep.size hsz,fun b hb2 hn=> ?_,fun b A t fz hA=> ?_⟩,h.mine⟩
 ·rw[hb b (Nat.lt_of_lt_of_le hb2 h.keep.size) (by omega)];exact h.keep.same b hb2 hn
 ·obtain⟨A',h1,h2,h3⟩:=h.keep.part b A t fz hA
  have:=cw hA
  exact⟨A',by rw[hb b (Nat.lt_of_lt_of_le this h.keep.size) (by omega)];exact h1,h2,h3⟩
section
variable {P:Program} {L:PF} {W:World} {S:Nat→Nat→Prop} {H H':List ax}
theorem XE.DM{k m:Nat}{kp:List Nat}{cs:List (Nat×Nat)}{fn:Func}{R:Ending→World→Prop}{e:Exit}{M:World→Prop}(he:e= .normal∨e= .ret)(h:XE (fr k kp cs) (bodyPost P fn R) e L M):XE (fr k kp cs) (bodyPostM Fence.wide m P fn R) e L M:=fun a w ha hw=>by
 have h1:=h a w ha hw
 rcases he with rfl | rfl
 ·obtain⟨hd,v,h2,h3⟩:=h1
  show LeavesInM _ _ _ _ a.tmps R a.defers .returning w
  rw[hd];exact⟨v,h2,h3⟩
 ·obtain⟨hd,v,h2,h3⟩:=h1
  show LeavesInM _ _ _ _ a.tmps R a.defers .returning w
  rw[hd];exact⟨v,h2,h3⟩
theorem XE.Eu{k m D:Nat}{kp:List Nat}{cs:List (Nat×Nat)}{fn:Func}{R:Ending→World→Prop}{e:Exit}(he:e= .normal∨e= .ret)(hH:dX H (.mark D) H')(hm:H'.all ax.noMark=true)(hD:W.heap.size≤D)(h:XE (fr k kp cs) (bodyPost P fn R) e L (XM W S H')):XE ⟨k,[Mg D],kp,cs⟩ (bodyPostM Fence.wide m P fn R) e L (XM W S H):=fun a w ha hw=>by
 have hw1:=hw.perm hH.perm
 have hmark:w.heap[D]? =some (.deferred (some [])):=hw1.good.1 (.mark D) (by simp)
 have hw2:XM W S H' w:=XM.left (E:=H') (F:=[.mark D]) (hw1.perm (by
  have:=List.perm_append_comm (l₁:=[ax.mark D]) (l₂:=H')
  simpa using this))
 have hw3:XM W S H' (w.putObj D (.deferred none)):=hw2.gD (D:=D) hm hD rfl rfl rfl (by simp) (fun b _ hne=>World.putObj_heap_other hne) (fun o ho=>by rw[hmark]at ho;cases ho;rfl)
 have h1:=h {a with defers:=[]} _ ⟨rfl,ha.2.1,ha.2.2⟩ hw3
 have hd:a.defers=[Mg D]:=ha.1
 rcases he with rfl | rfl
 ·obtain⟨_,v,h2,h3⟩:=h1
  show LeavesInM _ _ _ _ a.tmps R a.defers .returning w
  rw[hd]
  exact⟨by simp,.inl ⟨_,_,rfl,run_takeDeferred hmark,v,h2,h3⟩⟩
 ·obtain⟨_,v,h2,h3⟩:=h1
  show LeavesInM _ _ _ _ a.tmps R a.defers .returning w
  rw[hd]
  exact⟨by simp,.inl ⟨_,_,rfl,run_takeDeferred hmark,v,h2,h3⟩⟩
theorem Spec.KM{kp:List Nat}{cs:List (Nat×Nat)}{f:FuncId}{fn:Func}{c:Code}{args:List Value}{pre:List ax}{post:Value→List ax→Prop}(hf:P.funcs[f]? =some fn)(hb:fn.body=some c)(hn:Nat.ble args.length fn.ntmps=true)(h:∀ W,XC P (fr fn.ntmps kp cs) c (bodyPostM Fence.wide 3 P fn fun e w'=>∃ v H',e= .returned v∧post v H'∧H'.all ax.wr=true∧XM W (bS pre) H' w') (ic 0 args) (XM W (bS pre) pre)):Spec P f args pre post:=by
 intro w hw
 refine(callsIn_wide (n:=3)).1 (callsIn_of_wp_marks hf hb trivial (wpIn_wide.2 (h w _ w ⟨rfl,?_,?_⟩ (XM.start hw))))
 ·have:args.length≤fn.ntmps:=by simpa using hn
  simp;omega
 ·intro i v hi
  obtain⟨_,h2⟩:=o5 args 0 i v hi
  have hlt:i<args.length:=by
   rcases Nat.lt_or_ge i args.length with h' | h'
   ·exact h'
   ·rw[List.getElem?_eq_none (by simpa using h')]at h2;simp at h2
  have h3:args[i]? =some v:=by simpa using h2
  simp only[Array.getD_eq_getD_getElem?]
  rw[Array.getElem?_append_left (by simpa using hlt)]
  simp[h3]
end
def GR(R:List (Addr×Value))(A B:World):Prop:=∀ x∈R,A.cell? x.1=some x.2→B.cell? x.1=some x.2
theorem GR.trans{R:List (Addr×Value)}{A B C:World}(h:GR R A B)(k:GR R B C):GR R A C:=fun x hx ha=>k x hx (h x hx ha)
theorem FN{W:World}{l:Nat}{o o':Obj}(hl:W.heap[l]? =some o)(ho:o.isCells=false){a:Addr}{v:Value}(h:W.cell? a=some v):(W.putObj l o').cell? a=some v:=by
 have hne:¬a.block=l:=fun e=>by
  subst e
  simp only[World.cell?,hl]at h
  cases o<;>first | (cases ho;done) | (simp at h;done)
 rw[World.cell?_of_block (World.putObj_heap_other hne)]
 exact h
theorem GR.put{R:List (Addr×Value)}(W:World)(l:Nat)(o o':Obj)(hl:W.heap[l]? =some o)(ho:o.isCells=false):GR R W (W.putObj l o'):=fun _ _ h=>FN hl ho h
theorem bF.refl:∀ (H:List ax),bF H H []
 | []=>.nil
 | _::H=>.cons .here (bF.refl H)
theorem XM.then{W w w':World}{S:Nat→Nat→Prop}{H H':List ax}(h:XM W S H w)(hc:XM w (bS H) H' w')(hro:H'.all ax.wr=true):XM W S H' w':=by
 have:=h.called (bF.refl H) hc (fun e he=>List.all_eq_true.1 hro e he)
 simpa using this
theorem zw{H:List ax}{w:World}(h:Good H w){b o:Nat}(hf:bS H b o):∃ A t fz,w.heap[b]? =some (.cells A t fz):=by
 obtain⟨e,he,hw,ha⟩:=hf
 exact rk (h.1 e he) (oD hw) ha
theorem XM.others{w w':World}{H H':List ax}(hg:Good H w)(hc:XM w (bS H) H' w'):KeepsOthers w w':=by
 refine⟨hc.keep.size,fun b o hb ho=> ?_⟩
 rw[hc.keep.same b (cw hb) (fun off hf=> ?_)]
 ·exact hb
 ·obtain⟨A,t,fz,h1⟩:=zw hg hf
  rw[hb]at h1;cases h1;cases ho
section
variable {P:Program} {Q:Exit→Act→World→Prop} {L:PF} {W:World} {S:Nat→Nat→Prop} {H:List ax} {α:Type}
def RI(W:World)(S:Nat→Nat→Prop)(V:List α→Prop)(J:List α→List ax)(pre:List α)(w:World):Prop:=V pre∧XM W S (J pre) w
theorem RI.own{V:List α→Prop}{J:List α→List ax}{B:Nat}(hJ:∀ pre,(J pre).all ax.wr=true)(hB:W.heap.size≤B):OwnFrom B (RI W S V J):=fun pre w w' row ⟨hv,hx⟩ hg hr=>by
 have hm:(J pre).all ax.noMark=true:=List.all_eq_true.2 fun e he=>oD (List.all_eq_true.1 (hJ pre) e he)
 refine⟨hv,?_⟩
 cases row with
 | none=>exact hx.gD (D:=w.heap.size) hm hx.keep.size hg.os hg.tape hg.output hg.size (fun b hb _=>hg.block b hb (by simp)) (fun o ho=>by have:=cw ho;omega)
 | some r=>
  obtain⟨h1,o,h2,h3⟩:=hr r rfl
  exact hx.gD (D:=r) hm (by omega) hg.os hg.tape hg.output hg.size (fun b hb hne=>hg.block b hb (fun e=>by cases e;exact hne rfl)) (fun o' ho=>by rw[h2]at ho;cases ho;exact h3)
abbrev uP(W:World)(S:Nat→Nat→Prop)(V Vx:List α→Prop)(J Jx:List α→List ax)(R:List (Addr×Value))(pre:List α)(x:α)(w:World):Exit→Act→World→Prop:=
 ownPostK (GR R) (RI W S V J) (fun c ys w'=>c= .ret∧RI W S Vx Jx ys w') (pre++[x]) w
theorem XE.Ni{n:Fr}{V Vx:List α→Prop}{J Jx:List α→List ax}{R:List (Addr×Value)}{pre:List α}{x:α}{w:World}{H':List ax}(h:XM W S (J pre) w)(hV:V (pre++[x]))(hwr:(J (pre++[x])).all ax.wr=true)(hR:∀ w',Go.X.Good (J (pre++[x])) w'→∀ y∈R,w'.cell? y.1=some y.2)(hp:∀ w',XM w (bS (J pre)) H' w'→XM w (bS (J pre)) (J (pre++[x])) w'):XE n (uP W S V Vx J Jx R pre x w) .normal L (XM w (bS (J pre)) H'):=fun _ w' _ hw=>by
 have h1:=hp w' hw
 exact⟨h1.others h.good,fun y hy _=>hR w' h1.good y hy,hV,h.then h1 hwr⟩
theorem XE.leave{n:Fr}{V Vx:List α→Prop}{J Jx:List α→List ax}{R:List (Addr×Value)}{pre:List α}{x:α}{w:World}{H':List ax}(h:XM W S (J pre) w)(hV:Vx (pre++[x]))(hwr:(Jx (pre++[x])).all ax.wr=true)(hp:∀ w',XM w (bS (J pre)) H' w'→XM w (bS (J pre)) (Jx (pre++[x])) w'):XE n (uP W S V Vx J Jx R pre x w) .ret L (XM w (bS (J pre)) H'):=fun _ w' _ hw=>by
 have h1:=hp w' hw
 exact⟨h1.others h.good,rfl,hV,h.then h1 hwr⟩
theorem XC.L3{k:Nat}{kp:List Nat}{cs:List (Nat×Nat)}{g:Operand}{ps:Array Tmp}{assign body:Code}{gf:Nat}{lb:Array Value}{encs:α→Array Value}{R:List (Addr×Value)}{xs:List α}(V Vx:List α→Prop)(J Jx:List α→List ax)(L1:α→PF)(asg:α→Array Value→Act)(hg:ev L g=some (.func (.func gf) #[] lb))(eg:∀ args w,(callFunc gf args).run P w= .ok (.enter gf args) w)(hps:∀ x,(encs x).size=ps.size)(hseq:∀ w,XM W S H w→SeqStopsK Fence.wide 2 P gf lb encs (GR R) (· =xs) (· <+:xs) xs.length w)(hV0:V [])(hJ0:∀ w,XM W S H w→XM W S (J []) w)(hJ:∀ pre,(J pre).all ax.wr=true)(hJx:∀ pre,(Jx pre).all ax.wr=true)(hassign:∀ (l:Nat) (x:α) (tmps:Array Value) (w:World) (K:Act→World→Prop),K (asg x tmps) w→assign.wpIn (KN l) 1 P (Exit.then K (fun _ _ _=>False)) {tmps:=(ps.zip (encs x)).foldl (fun t (p,v)=>t.setIfInBounds p v) tmps,defers:=[]} w)(hsat:∀ x a,Sat (fr k kp cs) L a→Sat (fr k kp cs) (L1 x) (asg x a.tmps))(hbody:∀ pre x w,V pre→pre.length<xs.length→XM W S (J pre) w→XB P (fr k kp cs) body (uP W S V Vx J Jx R pre x w) (L1 x) (XM w (bS (J pre)) (J pre)))(hdone:V xs→∀ D,W.heap.size≤D→XE ⟨k,[Mg D],kp,cs⟩ Q .normal L (XM W S (.mark D::J xs)))(hstop:∀ pre,pre<+:xs→Vx pre→∀ D,W.heap.size≤D→XE ⟨k,[Mg D],kp,cs⟩ Q .ret L (XM W S (.mark D::Jx pre))):XC P (fr k kp cs) (.rangeFunc g ps assign body) Q L (XM W S H):=fun a w ha hw=>by
 have hmark:∀ (D:Nat) (E:List ax) (w':World),E.all ax.wr=true→W.heap.size≤D→XM W S E w'→w'.heap[D]? =some (.deferred (some []))→XM W S (.mark D::E) w':=fun D E w' hE hD hx hh=>by
  refine⟨⟨fun e he=> ?_,List.pairwise_cons.2 ⟨fun e he _ b o h1 h2=> ?_,hx.good.2⟩⟩,hx.keep,fun e he hwr b o hb=> ?_⟩
  ·rcases List.mem_cons.1 he with rfl | he
   ·exact hh
   ·exact hx.good.1 e he
  ·obtain rfl:b=D:=h1
   obtain⟨A,t,fz,h3⟩:=rk (hx.good.1 e he) (oD (List.all_eq_true.1 hE e he)) h2
   rw[hh]at h3;cases h3
  ·rcases List.mem_cons.1 he with rfl | he
   ·cases hwr
   ·exact hx.mine e he hwr b o hb
 refine(wpIn_wide (n:=3)).1 ?_
 refine wpIn_rangeFunc_ownF (F:=Fence.wide) (w0:=w) rfl (by omega) (az ha hg) trivial eg (hseq w hw) (fun h k=>h.trans k) (fun W l o o' _ hl ho _=>GR.put W l o o' hl ho) (Below.refl _ _) hps
  (RI W S V J) (fun c ys w'=>c= .ret∧RI W S Vx Jx ys w') (RI.own hJ hw.keep.size) (fun c=>fun pre A B row ⟨hc,hi⟩ hgr hr=>⟨hc,RI.own hJx hw.keep.size pre A B row hi hgr hr⟩) ⟨hV0,hJ0 w hw⟩ (fun x=>asg x a.tmps) ?_ ?_ ?_ ?_
 ·exact fun l x W' K hK=>hassign l x a.tmps W' K hK
 ·rintro l pre x w1 ⟨hv,hx⟩ hlen
  refine mU body _ _ w1 (fun _ _ q=>q) ?_
  exact hbody pre x w1 hv hlen hx _ w1 (hsat x a ha) (XM.start hx.good)
 ·rintro D ys w1 hD rfl ⟨hv,hx⟩ hh
  have hD2:W.heap.size≤D:=Nat.le_trans hw.keep.size hD
  have hd:a.defers=[]:=ha.1
  refine hdone hv D hD2 _ w1 ⟨?_,ha.2.1,ha.2.2⟩ (hmark D _ w1 (hJ _) hD2 hx hh)
  show _::a.defers=_
  rw[hd];rfl
 ·rintro D c pre w1 hD hp ⟨rfl,hv,hx⟩ hh
  have hD2:W.heap.size≤D:=Nat.le_trans hw.keep.size hD
  have hd:a.defers=[]:=ha.1
  refine wpIn_ret (hstop pre hp hv D hD2 _ w1 ⟨?_,ha.2.1,ha.2.2⟩ (hmark D _ w1 (hJx _) hD2 hx hh))
  show _::a.defers=_
  rw[hd];rfl
end
section
variable {P:Program} {Q:Exit→Act→World→Prop} {L:PF} {n:Fr} {M:World→Prop} {ty:TypeId} {pos:String} {af:Array Edge} {d:Nat} {ops:Array Oper} {rest:List Oper}
def XI(P:Program)(n:Fr)(ops:Array Oper)(Q:Exit→Act→World→Prop)(l:List Oper)(L:PF)(M:World→Prop):Prop:=
 ∀ a w,Sat n L a→M w→wpListIn Fence.wide 2 P ops Q l a w
theorem XC.Hn{i:Nat}{l:List Oper}(h:XI P n l.toArray Q l L M):XC P n (.region i l.toArray false) Q L M:=fun a w ha hw=>wpIn_wide.1 (wpIn_region_lit (h a w ha hw))
theorem XI.nil(h:XE n Q .normal L M):XI P n ops Q [] L M:=h
theorem XI.v{op:Op}{v:Value}(hv:bh P n L M ⟨some d,op,ty,pos,af,none⟩ v)(hd:Nat.blt d n.sz=true)(h:XI P n ops Q rest ((d,v)::L) M):XI P n ops Q (⟨some d,op,ty,pos,af,none⟩::rest) L M:=fun a w ha hw=>by
 unfold wpListIn
 rw[if_pos (by simp[Region.wanted])]
 refine⟨fun _ _=>trivial,?_⟩
 have h0:Fence.wide.round=none:=rfl
 rw[h0,Oper.semAt_none,hv a w ha hw]
 exact h _ w (ha.put hd v) hw
theorem XI.yield{x y:Operand}{l:Nat}{v:Value}{R:Ending→World→Prop}{t:Array TypeId}(hx:ev L x=some (.func (.yield l) #[] #[]))(hy:ev L y=some v)(hY:∀ w,M w→YieldAt Fence.wide 1 P l #[v] w R)(hd:Nat.blt d n.sz=true)(h:∀ e w,R e w→∃ b,e= .returned (.bool b)∧XI P n ops Q rest ((d,.bool b)::L) (fun w'=>R (.returned (.bool b)) w')):XI P n ops Q (⟨some d,.call ⟨.value x,#[y],t⟩,ty,pos,af,none⟩::rest) L M:=fun a w ha hw=>by
 obtain⟨fn,tmps,assign,body,h1,h2⟩:=hY w hw
 unfold wpListIn
 rw[if_pos (by simp[Region.wanted])]
 refine⟨fun _ _=>trivial,?_⟩
 have h0:Fence.wide.round=none:=rfl
 have hrun:(execOp a.eval ⟨some d,.call ⟨.value x,#[y],t⟩,ty,pos,af,none⟩).run P w= .ok (.round l fn tmps assign body) w:=by
  simp[execOp,resolve,invoke,Deferred.ofValue,az ha hx,az ha hy,h1]
 rw[h0,Oper.semAt_none,hrun]
 refine⟨fun q=>(by cases q),h2.mono fun e w' hr=> ?_⟩
 obtain⟨b,rfl,hx2⟩:=h e w' hr
 exact hx2 _ w' (ha.put hd _) hr
theorem V.sa{t:TypeId}{x:Operand}{b o:Nat}{v:Value}{φ:World→Prop}{gd:Option (Nat×Bool)}(hx:ev L x=some (.pointer (some ⟨b,o,none⟩)))(hc:∀ w,φ w→w.cell? ⟨b,o,none⟩=some v)(ht:fT P t=true):bh P n L φ (⟨some d,.load t x,ty,pos,af,gd⟩) v:=fun a w ha hw=>by
 simp[execOp,az ha hx,Instr.loadAt,Instr.sureAddr,dw ht (hc w hw)]
theorem V.Ct{f:FuncId}{x y:Operand}{u v:Value}{φ:World→Prop}{gd:Option (Nat×Bool)}(hx:ev L x=some u)(hy:ev L y=some v):bh P n L φ (⟨some d,.makeFunc (.func f) #[] #[x,y],ty,pos,af,gd⟩) (.func (.func f) #[] #[u,v]):=fun a w ha hw=>by
 simp[execOp,az ha hx,az ha hy,Instr.makeFunc]
end
section
variable {P:Program} {Q:Exit→Act→World→Prop} {L:PF} {W:World} {S:Nat→Nat→Prop} {H:List ax} {α:Type}
theorem MV(tmps:Array Value)(p:Tmp)(v:Value):(#[p].zip #[v]).foldl (fun t (p,v)=>t.setIfInBounds p v) tmps=tmps.setIfInBounds p v:=by simp
theorem C8{l i q p:Nat}{ty:TypeId}{pos:String}{a:Act}{w:World}{K:Act→World→Prop}(h:K (a.put (some q) (a.eval (.tmp p))) w):(Code.region i #[⟨some q,.assign (.tmp p),ty,pos,#[],none⟩] false).wpIn (KN l) 1 P (Exit.then K (fun _ _ _=>False)) a w:=by
 refine mU _ _ _ w (fun _ _ q=>q) ⟨rfl,?_⟩
 show wpList _ _ _ [_] _ _
 unfold wpList
 rw[if_pos (by simp[Region.wanted])]
 left
 unfold Oper.wp
 have:(execOp a.eval ⟨some q,.assign (.tmp p),ty,pos,#[],none⟩).run P w= .ok (.value (a.eval (.tmp p))) w:=by simp[execOp]
 rw[this]
 exact h
theorem XC.Ex{k:Nat}{kp:List Nat}{cs:List (Nat×Nat)}{g:Operand}{p q i:Nat}{ty:TypeId}{pos:String}{body:Code}{gf:Nat}{lb:Array Value}{R:List (Addr×Value)}{xs:List α}(enc:α→Value)(V Vx:List α→Prop)(J Jx:List α→List ax)(hg:ev L g=some (.func (.func gf) #[] lb))(eg:∀ args w,(callFunc gf args).run P w= .ok (.enter gf args) w)(hp:Nat.blt p k=true)(hq:Nat.blt q k=true)(hseq:∀ w,XM W S H w→SeqStopsK Fence.wide 2 P gf lb (fun x=> #[enc x]) (GR R) (· =xs) (· <+:xs) xs.length w)(hV0:V [])(hJ0:∀ w,XM W S H w→XM W S (J []) w)(hJ:∀ pre,(J pre).all ax.wr=true)(hJx:∀ pre,(Jx pre).all ax.wr=true)(hbody:∀ pre x w,V pre→pre.length<xs.length→XM W S (J pre) w→XB P (fr k kp cs) body (uP W S V Vx J Jx R pre x w) ((q,enc x)::(p,enc x)::L) (XM w (bS (J pre)) (J pre)))(hdone:V xs→∀ D,W.heap.size≤D→XE ⟨k,[Mg D],kp,cs⟩ Q .normal L (XM W S (.mark D::J xs)))(hstop:∀ pre,pre<+:xs→Vx pre→∀ D,W.heap.size≤D→XE ⟨k,[Mg D],kp,cs⟩ Q .ret L (XM W S (.mark D::Jx pre))):XC P (fr k kp cs) (.rangeFunc g #[p] (.region i #[⟨some q,.assign (.tmp p),ty,pos,#[],none⟩] false) body) Q L (XM W S H):=
 XC.L3 V Vx J Jx (fun x=>(q,enc x)::(p,enc x)::L) (fun x tmps=>(Act.put {tmps:=tmps.setIfInBounds p (enc x),defers:=[]} (some q) (Act.eval {tmps:=tmps.setIfInBounds p (enc x),defers:=[]} (.tmp p)))) hg eg (fun _=>rfl) hseq hV0 hJ0 hJ hJx
  (fun l x tmps w K hK=>by rw[MV];exact C8 hK)
  (fun x a ha=>by
   have h1:=ha.put (n:=fr k kp cs) hp (enc x)
   have hd:a.defers=[]:=ha.1
   have h2:Sat (fr k kp cs) ((p,enc x)::L) {tmps:=a.tmps.setIfInBounds p (enc x),defers:=[]} :=by simpa only[Act.put,hd]using h1
   have h3:Act.eval {tmps:=a.tmps.setIfInBounds p (enc x),defers:=[]} (.tmp p)=enc x:=az h2 (by simp[ev,lk])
   have h4:=h2.put (n:=fr k kp cs) hq (enc x)
   rw[h3];exact h4) hbody hdone hstop
end
end Go.X

namespace Go.X
open Go Go.RowKit Go.Proofs
section
variable {P:Program} {n:Fr} {Q:Exit→Act→World→Prop} {L:PF} {W:World} {S:Nat→Nat→Prop} {H:List ax}
def GQ(tmps:Array Value):ResultVar→Sem Value
 | .tmp t=>pure (tmps.getD t undef)
 | .cell a t=>do loadVar t (←asAddr (tmps.getD a undef))
theorem rS(fn:Func)(tmps:Array Value):results fn tmps=(do
  let vs←fn.results.mapM (GQ tmps)
  pure (if h:vs.size=1 then vs[0]else .tuple vs)):=by
 have:GQ tmps=(fun
  | .tmp t=>pure (tmps.getD t undef)
  | .cell a t=>do loadVar t (←asAddr (tmps.getD a undef))):=by
  funext x;cases x<;>rfl
 rw[this];rfl
def nf(P:Program)(n:Fr)(L:PF)(M:World→Prop)(r:ResultVar)(v:Value):Prop:=
 ∀ a w,Sat n L a→M w→(GQ a.tmps r).run P w= .ok v w
theorem nf.tmp{M:World→Prop}{t:Nat}{v:Value}(h:lk L t=some v):nf P n L M (.tmp t) v:=fun a w ha _=>by
 show(pure (a.tmps.getD t undef):Sem Value).run P w=_
 rw[ha.2.2 t v h];rfl
theorem nf.cell{c b o i m:Nat}{t:TypeId}{C:Nat→Value}{v:Value}(hv:lk L c=some (ptr b o i))(hH:Has H (.cells b o m C))(hC:i<m∧C i=v)(ht:fT P t=true):nf P n L (XM W S H) (.cell c t) v:=fun a w ha hw=>by
 have hc:=cB (hw.good.1 _ hH.mem) hC.1
 rw[hC.2]at hc
 show(do loadVar t (←asAddr (a.tmps.getD c undef)):Sem Value).run P w=_
 rw[ha.2.2 c _ hv]
 simp[asAddr,ptr,dw ht hc]
theorem nf.agg{c b o i m sz:Nat}{t:TypeId}{C:Nat→Value}{v:Value}(hv:lk L c=some (ptr b o i))(hH:Has H (.cells b o m C))(hC:i+sz≤m∧cq C i sz=v)(ht:jW P t=true)(hs:dx P t=some sz):nf P n L (XM W S H) (.cell c t) v:=fun a w ha hw=>by
 have hl:=fI (P:=P) (w:=w) (b:=b) (o:=o) (i:=i) (C:=C) ht hs (fun l hl=>cB (hw.good.1 _ hH.mem) (by omega))
 rw[hC.2]at hl
 show(do loadVar t (←asAddr (a.tmps.getD c undef)):Sem Value).run P w=_
 rw[ha.2.2 c _ hv]
 simp[asAddr,ptr,hl]
theorem XE.Aq{k:Nat}{ps:List Nat}{cs:List (Nat×Nat)}{fn:Func}{R:Ending→World→Prop}{M:World→Prop}{r:ResultVar}{v:Value}(hr:fn.results= #[r])(h1:nf P (fr k ps cs) L M r v)(h:∀ w,M w→R (.returned v) w):XE (fr k ps cs) (bodyPost P fn R) .ret L M:=fun a w ha hw=>by
 refine⟨ha.1,v,?_,h w hw⟩
 have e1:=h1 a w ha hw
 rw[rS,hr]
 simp[e1]
theorem XE.tq{k:Nat}{ps:List Nat}{cs:List (Nat×Nat)}{fn:Func}{R:Ending→World→Prop}{M:World→Prop}{r r':ResultVar}{v v':Value}(hr:fn.results= #[r,r'])(h1:nf P (fr k ps cs) L M r v)(h2:nf P (fr k ps cs) L M r' v')(h:∀ w,M w→R (.returned (.tuple #[v,v'])) w):XE (fr k ps cs) (bodyPost P fn R) .ret L M:=fun a w ha hw=>by
 refine⟨ha.1,.tuple #[v,v'],?_,h w hw⟩
 have e1:=h1 a w ha hw
 have e2:=h2 a w ha hw
 rw[rS,hr]
 simp[e1,e2]
def bN(v:Value):Nat→Value:=cellsOf #[v]
theorem bN.ld(v:Value):0<1∧bN v 0=v:=⟨by omega,rfl⟩
theorem bN.st(u v:Value):0<1∧cH (bN u) 0 v=bN v:=⟨by omega,by
 funext i
 cases i with
 | zero=>rfl
 | succ i=>simp[cH,bN,cellsOf]⟩
theorem HQ{f:Int→Bool}{m:Nat}{z:Int}(h:0≤z∧z<m):(yV f m)[z.toNat]? =some (.bool (f z)):=by
 have h1:z.toNat<m:=by omega
 have h2:((z.toNat:Nat):Int)=z:=by omega
 simp[yV,h1,h2]
end
section
variable {P:Program} {Q:Exit→Act→World→Prop} {L:PF} {n:Fr} {M:World→Prop} {ty:TypeId} {pos:String} {af:Array Edge} {d:Nat} {ops:Md} {rest:List Oper}
theorem YieldAt.LW{F:Fence}{m:Nat}{l:Nat}{args:Array Value}{w:World}{R R':Ending→World→Prop}(h:YieldAt F m P l args w R)(hr:∀ e w',R e w'→R' e w'):YieldAt F m P l args w R':=by
 obtain⟨fn,tmps,assign,body,h1,h2⟩:=h
 exact⟨fn,tmps,assign,body,h1,h2.mono hr⟩
theorem pP{g:FuncId}(hc:cX P g=true):∀ args w,(callFunc g args).run P w= .ok (.enter g args) w:=fun args w=>by
 unfold cX at hc
 cases hf:P.funcs[g]? with
 | none=>simp[hf]at hc
 | some fn=>
  simp only[hf,Bool.and_eq_true]at hc
  obtain⟨h1,h2⟩:=hc
  have h3:¬fn.name= "runtime.NumGoroutine" :=by simpa using h1
  have h4:¬fn.body=none:=by cases hb:fn.body<;>simp_all
  simp[callFunc,run_program,hf,h3,h4]
theorem IY{w:World}{a:Addr}{v:Value}(h:w.cell? a=some v):a.block<w.heap.size:=by
 unfold World.cell? at h
 cases ho:w.heap[a.block]? with
 | none=>simp[ho]at h
 | some o=>exact cw ho
end
end Go.X

namespace Go.X
open Go
def eA(p:Nat→Bool)(i:Nat):Nat→Bool:=fun j=>p j&& !Nat.beq j i
def tH(p:Nat→Bool)(i:Nat):Nat→Bool:=fun j=>p j||Nat.beq j i
def pV(r:Nat→iu)(i:Nat)(x:iu):Nat→iu:=fun j=>bif Nat.beq j i then x else r j
theorem HP{i j:Nat}(h:¬i=j):Nat.beq i j=false:=by
 cases hb:Nat.beq i j with
 | false=>rfl
 | true=>exact absurd (Nat.eq_of_beq_eq_true hb) h
theorem lV(p:Nat→Bool)(i:Nat):eA p i i=false:=by simp[eA]
theorem ek{p:Nat→Bool}{i j:Nat} :eA p i j=true↔p j=true∧j≠i:=by
 simp only[eA,Bool.and_eq_true,Bool.not_eq_true',ne_eq]
 constructor
 ·rintro⟨h1,h2⟩;exact⟨h1,fun e=>by subst e;simp at h2⟩
 ·rintro⟨h1,h2⟩;exact⟨h1,HP h2⟩
theorem eQ{p:Nat→Bool}{i j:Nat} :tH p i j=true↔p j=true∨j=i:=by
 simp only[tH,Bool.or_eq_true]
 constructor
 ·rintro(h | h)
  ·exact .inl h
  ·exact .inr (by simpa using h)
 ·rintro(h | h)
  ·exact .inl h
  ·exact .inr (by simpa using h)
theorem gK(r:Nat→iu)(i:Nat)(x:iu):pV r i x i=x:=by simp[pV]
theorem gg(r:Nat→iu){i j:Nat}(x:iu)(h:j≠i):pV r i x j=r j:=by
 simp[pV,HP h]
theorem uK{p:Nat→Bool}{i:Nat}(h:p i=true):tH (eA p i) i=p:=by
 funext j
 rw[Bool.eq_iff_iff,eQ,ek]
 constructor
 ·rintro(h1 | rfl)
  ·exact h1.1
  ·exact h
 ·intro hj
  by_cases c:j=i
  ·exact .inr c
  ·exact .inl ⟨hj,c⟩
abbrev iu.oM(x:iu):ax:=.row x.v x.e x.sz x.k x.xs
section
variable {W w:World} {S:Nat→Nat→Prop} {H:List ax}
theorem XM.oK{p:Nat→Bool}{r:Nat→iu}(i:Nat)(hp:p i=true)(h:XM W S (.fam p r::H) w):XM W S ((r i).oM:: .fam (eA p i) r::H) w:=by
 obtain⟨⟨hh,hpw⟩,hk,hm⟩:=h
 rw[List.pairwise_cons]at hpw
 have hf:(ax.fam p r).holds w:=hh _ (by simp)
 have ha1:∀ b o,((r i).oM).dG b o→(ax.fam p r).dG b o:=fun b o hb=>⟨i,hp,hb⟩
 have ha2:∀ b o,(ax.fam (eA p i) r).dG b o→(ax.fam p r).dG b o:=fun b o ⟨j,hj,hb⟩=>⟨j,(ek.1 hj).1,hb⟩
 refine⟨⟨fun e he=> ?_,List.pairwise_cons.2 ⟨fun e he _ b o h1 h2=> ?_,List.pairwise_cons.2 ⟨fun e he hw b o h1 h2=>hpw.1 e he (by simp[ax.wr]) b o (ha2 b o h1) h2,hpw.2⟩⟩⟩,hk,fun e he hw b o hb=> ?_⟩
 ·rcases List.mem_cons.1 he with rfl | he
  ·exact hf.1 i hp
  ·rcases List.mem_cons.1 he with rfl | he
   ·exact⟨fun j hj=>hf.1 j (ek.1 hj).1,fun j k b hj hk=>hf.2 j k b (ek.1 hj).1 (ek.1 hk).1⟩
   ·exact hh e (List.mem_cons_of_mem _ he)
 ·rcases List.mem_cons.1 he with rfl | he
  ·obtain⟨j,hj,hb⟩:=h2
   have hj2:=ek.1 hj
   exact hf.2 i j b hp hj2.1 (Ne.symm hj2.2) h1 hb
  ·exact hpw.1 e he (by simp[ax.wr]) b o (ha1 b o h1) h2
 ·rcases List.mem_cons.1 he with rfl | he
  ·exact hm _ (by simp) rfl b o (ha1 b o hb)
  ·rcases List.mem_cons.1 he with rfl | he
   ·exact hm _ (by simp) rfl b o (ha2 b o hb)
   ·exact hm e (List.mem_cons_of_mem _ he) hw b o hb
theorem XM.uG{p:Nat→Bool}{r:Nat→iu}(i:Nat){x:iu}(hp:p i=false)(h:XM W S (x.oM:: .fam p r::H) w):XM W S (.fam (tH p i) (pV r i x)::H) w:=by
 obtain⟨⟨hh,hpw⟩,hk,hm⟩:=h
 rw[List.pairwise_cons,List.pairwise_cons]at hpw
 obtain⟨hx,hf2,hpw2⟩:=hpw
 have hf:(ax.fam p r).holds w:=hh _ (by simp)
 have hne:∀ j,p j=true→j≠i:=fun j hj e=>by subst e;rw[hp]at hj;cases hj
 have har:∀ b o,(ax.fam (tH p i) (pV r i x)).dG b o→x.oM.dG b o∨(ax.fam p r).dG b o:=fun b o ⟨j,hj,hb⟩=>by
  rcases eQ.1 hj with h1 | rfl
  ·rw[gg _ _ (hne j h1)]at hb;exact .inr ⟨j,h1,hb⟩
  ·rw[gK]at hb;exact .inl hb
 refine⟨⟨fun e he=> ?_,List.pairwise_cons.2 ⟨fun e he _ b o h1 h2=> ?_,hpw2⟩⟩,hk,fun e he hw b o hb=> ?_⟩
 ·rcases List.mem_cons.1 he with rfl | he
  ·refine⟨fun j hj=> ?_,fun j k b hj hk2 hjk h1 h2=> ?_⟩
   ·rcases eQ.1 hj with h1 | rfl
    ·rw[gg _ _ (hne j h1)];exact hf.1 j h1
    ·rw[gK];exact hh x.oM (by simp)
   ·have hxf:∀ l,p l=true→x.v.ownBlock=some b→(r l).v.ownBlock=some b→False:=fun l hl e1 e2=>hx (.fam p r) (by simp) (by simp[ax.wr]) b 0 e1 ⟨l,hl,e2⟩
    rcases eQ.1 hj with q1 | rfl
    ·rw[gg _ _ (hne j q1)]at h1
     rcases eQ.1 hk2 with q2 | rfl
     ·rw[gg _ _ (hne k q2)]at h2
      exact hf.2 j k b q1 q2 hjk h1 h2
     ·rw[gK]at h2;exact hxf j q1 h2 h1
    ·rw[gK]at h1
     rcases eQ.1 hk2 with q2 | rfl
     ·rw[gg _ _ (hne k q2)]at h2;exact hxf k q2 h1 h2
     ·exact hjk rfl
  ·exact hh e (by simp[he])
 ·rcases har b o h1 with h3 | h3
  ·exact hx e (by simp[he]) (by simp[ax.wr]) b o h3 h2
  ·exact hf2 e he (by simp[ax.wr]) b o h3 h2
 ·rcases List.mem_cons.1 he with rfl | he
  ·rcases har b o hb with h3 | h3
   ·exact hm x.oM (by simp) rfl b o h3
   ·exact hm _ (by simp) rfl b o h3
  ·exact hm e (by simp[he]) hw b o hb
theorem XM.part{b o n off m:Nat}{C:Nat→Value}(hn:off+m≤n)(h:XM W S (.cells b o n C::H) w):XM W S (.cells b (o+off) m (fun i=>C (off+i)):: .cells b o off C:: .cells b (o+off+m) (n-off-m) (fun i=>C (off+m+i))::H) w:=by
 obtain⟨⟨hh,hpw⟩,hk,hm⟩:=h
 rw[List.pairwise_cons]at hpw
 obtain⟨A,t,lo,hi,h1,h2⟩:=hh (.cells b o n C) (by simp)
 have sub:∀ (o' n':Nat) (C':Nat→Value),o≤o'→o'+n'≤o+n→∀ b' i,(ax.cells b o' n' C').dG b' i→(ax.cells b o n C).dG b' i:=fun o' n' C' h3 h4 b' i ⟨e1,e2,e3⟩=>⟨e1,by omega,by omega⟩
 have s1:=sub (o+off) m (fun i=>C (off+i)) (by omega) (by omega)
 have s2:=sub o off C (by omega) (by omega)
 have s3:=sub (o+off+m) (n-off-m) (fun i=>C (off+m+i)) (by omega) (by omega)
 refine⟨⟨fun e he=> ?_,?_⟩,hk,fun e he hw b' i hb=> ?_⟩
 ·simp only[List.mem_cons]at he
  rcases he with rfl | rfl | rfl | he
  ·refine⟨A,t,lo,hi,h1,fun i hi'=> ?_⟩
   have:=h2 (off+i) (by omega)
   rw[show o+off+i=o+(off+i)from by omega];exact this
  ·exact⟨A,t,lo,hi,h1,fun i hi'=>h2 i (by omega)⟩
  ·refine⟨A,t,lo,hi,h1,fun i hi'=> ?_⟩
   have:=h2 (off+m+i) (by omega)
   rw[show o+off+m+i=o+(off+m+i)from by omega];exact this
  ·exact hh e (by simp[he])
 ·refine List.pairwise_cons.2 ⟨fun e he _ b' i h3 h4=> ?_,List.pairwise_cons.2 ⟨fun e he _ b' i h3 h4=> ?_,List.pairwise_cons.2 ⟨fun e he _ b' i h3 h4=>hpw.1 e he (by simp[ax.wr]) b' i (s3 b' i h3) h4,hpw.2⟩⟩⟩
  ·simp only[List.mem_cons]at he
   rcases he with rfl | rfl | he
   ·obtain⟨_,a1,a2⟩:=h3;obtain⟨_,a3,a4⟩:=h4;omega
   ·obtain⟨_,a1,a2⟩:=h3;obtain⟨_,a3,a4⟩:=h4;omega
   ·exact hpw.1 e he (by simp[ax.wr]) b' i (s1 b' i h3) h4
  ·simp only[List.mem_cons]at he
   rcases he with rfl | he
   ·obtain⟨_,a1,a2⟩:=h3;obtain⟨_,a3,a4⟩:=h4;omega
   ·exact hpw.1 e he (by simp[ax.wr]) b' i (s2 b' i h3) h4
 ·simp only[List.mem_cons]at he
  rcases he with rfl | rfl | rfl | he
  ·exact hm (.cells b o n C) (by simp) rfl b' i (s1 b' i hb)
  ·exact hm (.cells b o n C) (by simp) rfl b' i (s2 b' i hb)
  ·exact hm (.cells b o n C) (by simp) rfl b' i (s3 b' i hb)
  ·exact hm e (by simp[he]) hw b' i hb
theorem XM.join{b o n off m:Nat}{C C1 C2 C3:Nat→Value}(hn:off+m≤n)(e1:∀ i,i<off→C i=C1 i)(e2:∀ i,i<m→C (off+i)=C2 i)(e3:∀ i,i<n-off-m→C (off+m+i)=C3 i)(h:XM W S (.cells b (o+off) m C2:: .cells b o off C1:: .cells b (o+off+m) (n-off-m) C3::H) w)(hm0:0<m):XM W S (.cells b o n C::H) w:=by
 obtain⟨⟨hh,hpw⟩,hk,hm⟩:=h
 simp only[List.pairwise_cons]at hpw
 obtain⟨p1,p2,p3,p4⟩:=hpw
 obtain⟨A,t,lo,hi,h1,h2⟩:=hh (.cells b (o+off) m C2) (by simp)
 obtain⟨A',t',lo',hi',h1',h2'⟩:=hh (.cells b o off C1) (by simp)
 obtain⟨A'',t'',lo'',hi'',h1'',h2''⟩:=hh (.cells b (o+off+m) (n-off-m) C3) (by simp)
 rw[h1]at h1' h1''
 simp only[Option.some.injEq,Obj.cells.injEq,Prod.mk.injEq]at h1' h1''
 obtain⟨rfl,rfl,rfl,rfl⟩:=h1'
 obtain⟨rfl,rfl,rfl,rfl⟩:=h1''
 have cut:∀ b' i,(ax.cells b o n C).dG b' i→(ax.cells b (o+off) m C2).dG b' i∨(ax.cells b o off C1).dG b' i∨(ax.cells b (o+off+m) (n-off-m) C3).dG b' i:=fun b' i ⟨q1,q2,q3⟩=>by
  by_cases c1:i<o+off
  ·exact .inr (.inl ⟨q1,q2,c1⟩)
  ·by_cases c2:i<o+off+m
   ·exact .inl ⟨q1,by omega,c2⟩
   ·exact .inr (.inr ⟨q1,by omega,by omega⟩)
 refine⟨⟨fun e he=> ?_,List.pairwise_cons.2 ⟨fun e he _ b' i h3 h4=> ?_,p4⟩⟩,hk,fun e he hw b' i hb=> ?_⟩
 ·rcases List.mem_cons.1 he with rfl | he
  ·refine⟨A,t,lo,hi,h1,fun i hi2=> ?_⟩
   by_cases c1:i<off
   ·rw[e1 i c1];exact h2' i c1
   ·by_cases c2:i<off+m
    ·have:=h2 (i-off) (by omega)
     have e:=e2 (i-off) (by omega)
     rw[show off+(i-off)=i from by omega]at e
     rw[show o+off+(i-off)=o+i from by omega]at this
     rw[e];exact this
    ·have:=h2'' (i-off-m) (by omega)
     have e:=e3 (i-off-m) (by omega)
     rw[show off+m+(i-off-m)=i from by omega]at e
     rw[show o+off+m+(i-off-m)=o+i from by omega]at this
     rw[e];exact this
  ·exact hh e (by simp[he])
 ·rcases cut b' i h3 with h | h | h
  ·exact p1 e (by simp[he]) (by simp[ax.wr]) b' i h h4
  ·exact p2 e (by simp[he]) (by simp[ax.wr]) b' i h h4
  ·exact p3 e he (by simp[ax.wr]) b' i h h4
 ·rcases List.mem_cons.1 he with rfl | he
  ·rcases cut b' i hb with h | h | h
   ·exact hm _ (by simp) rfl b' i h
   ·exact hm (.cells b o off C1) (by simp) rfl b' i h
   ·exact hm (.cells b (o+off+m) (n-off-m) C3) (by simp) rfl b' i h
  ·exact hm e (by simp[he]) hw b' i hb
def wB(C:Nat→Nat→Value)(i:Nat)(x:Nat→Value):Nat→Nat→Value:=fun j=>bif Nat.beq j i then x else C j
def xd(g:Nat→Nat)(i b:Nat):Nat→Nat:=fun j=>bif Nat.beq j i then b else g j
theorem vG(C:Nat→Nat→Value)(i:Nat)(x:Nat→Value):wB C i x i=x:=by simp[wB]
theorem vc(C:Nat→Nat→Value){i j:Nat}(x:Nat→Value)(h:j≠i):wB C i x j=C j:=by simp[wB,HP h]
theorem lN(g:Nat→Nat)(i b:Nat):xd g i b i=b:=by simp[xd]
theorem ks(g:Nat→Nat){i j:Nat}(b:Nat)(h:j≠i):xd g i b j=g j:=by simp[xd,HP h]
theorem XM.A2{p:Nat→Bool}{g:Nat→Nat}{n:Nat}{C:Nat→Nat→Value}(i:Nat)(hp:p i=true)(h:XM W S (.cfam p g n C::H) w):XM W S (.cells (g i) 0 n (C i):: .cfam (eA p i) g n C::H) w:=by
 obtain⟨⟨hh,hpw⟩,hk,hm⟩:=h
 rw[List.pairwise_cons]at hpw
 have hf:(ax.cfam p g n C).holds w:=hh _ (by simp)
 have ha1:∀ b o,(ax.cells (g i) 0 n (C i)).dG b o→(ax.cfam p g n C).dG b o:=fun b o ⟨e1,e2,e3⟩=>⟨i,hp,e1,by omega⟩
 have ha2:∀ b o,(ax.cfam (eA p i) g n C).dG b o→(ax.cfam p g n C).dG b o:=fun b o ⟨j,hj,hb⟩=>⟨j,(ek.1 hj).1,hb⟩
 refine⟨⟨fun e he=> ?_,List.pairwise_cons.2 ⟨fun e he _ b o h1 h2=> ?_,List.pairwise_cons.2 ⟨fun e he hw b o h1 h2=>hpw.1 e he (by simp[ax.wr]) b o (ha2 b o h1) h2,hpw.2⟩⟩⟩,hk,fun e he hw b o hb=> ?_⟩
 ·rcases List.mem_cons.1 he with rfl | he
  ·obtain⟨A,t,lo,hi,h1,h2⟩:=hf.1 i hp
   exact⟨A,t,lo,hi,h1,fun j hj=>by rw[Nat.zero_add];exact h2 j hj⟩
  ·rcases List.mem_cons.1 he with rfl | he
   ·exact⟨fun j hj=>hf.1 j (ek.1 hj).1,fun j k hj hk=>hf.2 j k (ek.1 hj).1 (ek.1 hk).1⟩
   ·exact hh e (List.mem_cons_of_mem _ he)
 ·rcases List.mem_cons.1 he with rfl | he
  ·obtain⟨j,hj,hb,_⟩:=h2
   have hj2:=ek.1 hj
   exact hf.2 i j hp hj2.1 (Ne.symm hj2.2) (h1.1.symm.trans hb)
  ·exact hpw.1 e he (by simp[ax.wr]) b o (ha1 b o h1) h2
 ·rcases List.mem_cons.1 he with rfl | he
  ·exact hm _ (by simp) rfl b o (ha1 b o hb)
  ·rcases List.mem_cons.1 he with rfl | he
   ·exact hm (.cfam p g n C) (by simp) rfl b o (ha2 b o hb)
   ·exact hm e (List.mem_cons_of_mem _ he) hw b o hb
theorem XM.GG{p:Nat→Bool}{g:Nat→Nat}{n b0:Nat}{C:Nat→Nat→Value}{x:Nat→Value}(i:Nat)(hn:0<n)(hp:p i=false)(h:XM W S (.cells b0 0 n x:: .cfam p g n C::H) w):XM W S (.cfam (tH p i) (xd g i b0) n (wB C i x)::H) w:=by
 obtain⟨⟨hh,hpw⟩,hk,hm⟩:=h
 rw[List.pairwise_cons,List.pairwise_cons]at hpw
 obtain⟨hx,hf2,hpw2⟩:=hpw
 have hf:(ax.cfam p g n C).holds w:=hh _ (by simp)
 have hc:(ax.cells b0 0 n x).holds w:=hh _ (by simp)
 have hne:∀ j,p j=true→j≠i:=fun j hj e=>by subst e;rw[hp]at hj;cases hj
 have hxb:∀ j,p j=true→g j≠b0:=fun j hj e=>hx (.cfam p g n C) (by simp) (by simp[ax.wr]) b0 0 ⟨rfl,by omega,by omega⟩ ⟨j,hj,e.symm,hn⟩
 have har:∀ b o,(ax.cfam (tH p i) (xd g i b0) n (wB C i x)).dG b o→(ax.cells b0 0 n x).dG b o∨(ax.cfam p g n C).dG b o:=fun b o ⟨j,hj,hb,ho⟩=>by
  rcases eQ.1 hj with h1 | rfl
  ·rw[ks _ _ (hne j h1)]at hb;exact .inr ⟨j,h1,hb,ho⟩
  ·rw[lN]at hb;exact .inl ⟨hb,by omega,by omega⟩
 refine⟨⟨fun e he=> ?_,List.pairwise_cons.2 ⟨fun e he _ b o h1 h2=> ?_,hpw2⟩⟩,hk,fun e he hw b o hb=> ?_⟩
 ·rcases List.mem_cons.1 he with rfl | he
  ·refine⟨fun j hj=> ?_,fun j k hj hk2 hjk=> ?_⟩
   ·rcases eQ.1 hj with h1 | rfl
    ·rw[ks _ _ (hne j h1),vc _ _ (hne j h1)];exact hf.1 j h1
    ·rw[lN,vG]
     obtain⟨A,t,lo,hi,h1,h2⟩:=hc
     exact⟨A,t,lo,hi,h1,fun m hm2=>by have:=h2 m hm2;rwa[Nat.zero_add]at this⟩
   ·rcases eQ.1 hj with q1 | rfl
    ·rw[ks _ _ (hne j q1)]
     rcases eQ.1 hk2 with q2 | rfl
     ·rw[ks _ _ (hne k q2)];exact hf.2 j k q1 q2 hjk
     ·rw[lN];exact hxb j q1
    ·rw[lN]
     rcases eQ.1 hk2 with q2 | rfl
     ·rw[ks _ _ (hne k q2)];exact fun e=>hxb k q2 e.symm
     ·exact absurd rfl hjk
  ·exact hh e (by simp[he])
 ·rcases har b o h1 with h3 | h3
  ·exact hx e (by simp[he]) (by simp[ax.wr]) b o h3 h2
  ·exact hf2 e he (by simp[ax.wr]) b o h3 h2
 ·rcases List.mem_cons.1 he with rfl | he
  ·rcases har b o hb with h3 | h3
   ·exact hm (.cells b0 0 n x) (by simp) rfl b o h3
   ·exact hm _ (by simp) rfl b o h3
  ·exact hm e (by simp[he]) hw b o hb
theorem XM.Bw{g:Nat→Nat}{n:Nat}{C:Nat→Nat→Value}(h:XM W S H w):XM W S (.cfam (fun _=>false) g n C::H) w:=by
 obtain⟨⟨hh,hpw⟩,hk,hm⟩:=h
 refine⟨⟨fun e he=> ?_,List.pairwise_cons.2 ⟨fun e _ _ b o h1 _=> ?_,hpw⟩⟩,hk,fun e he hw b o hb=> ?_⟩
 ·rcases List.mem_cons.1 he with rfl | he
  ·exact⟨fun i hi=>(by cases hi),fun i j hi=>(by cases hi)⟩
  ·exact hh e he
 ·obtain⟨i,hi,_⟩:=h1;cases hi
 ·rcases List.mem_cons.1 he with rfl | he
  ·obtain⟨i,hi,_⟩:=hb;cases hi
  ·exact hm e he hw b o hb
theorem XM.Gl{r:Nat→iu}(h:XM W S H w):XM W S (.fam (fun _=>false) r::H) w:=by
 obtain⟨⟨hh,hpw⟩,hk,hm⟩:=h
 refine⟨⟨fun e he=> ?_,List.pairwise_cons.2 ⟨fun e _ _ b o h1 _=> ?_,hpw⟩⟩,hk,fun e he hw b o hb=> ?_⟩
 ·rcases List.mem_cons.1 he with rfl | he
  ·exact⟨fun i hi=>(by cases hi),fun i j b hi=>(by cases hi)⟩
  ·exact hh e he
 ·obtain⟨i,hi,_⟩:=h1;cases hi
 ·rcases List.mem_cons.1 he with rfl | he
  ·obtain⟨i,hi,_⟩:=hb;cases hi
  ·exact hm e he hw b o hb
end
end Go.X
