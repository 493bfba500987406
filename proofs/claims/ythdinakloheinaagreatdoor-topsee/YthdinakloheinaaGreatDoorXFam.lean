import Derived.Test.YthdinakloheinaaGreatDoorXMore
import Derived.RangeFuncNested
import Derived.RangeFuncBound
import Derived.RangeFuncCalls
import Derived.RangeFuncLeaves
import Derived.RangeFuncFrom
import Derived.Shelf.Abstract
import Derived.TacticsInMore
import Derived.OrdersIn
import Derived.Laws.StructEq
set_option linter.all false
namespace Go.X
open Go Go.RowKit Go.Proofs
variable{body:Code}{fn:Func}{g x:Operand}
def xc(l:List Oper):Bool:=l.all fun o=>match o.op with | .defer _=>false | _=>true
def Sf{l:List Oper}(h:xc l=true){i:Nat}{o:Oper}(hi:l[i]? =some o):∀ c,o.op≠ .defer c:=fun c hc=>by
 grind [xc]
def Wn(P:Program):Code->(Exit->Act->World->Prop)->Act->World->Prop
 | .skip,Q,a,w=>Q .normal a w
 | .exit i,Q,a,w=>Q (.exit i) a w
 | .ret,Q,a,w=>Q .ret a w
 | .seq x y,Q,a,w=>Wn P x (Exit.then (Wn P y Q) Q) a w
 | .block i c,Q,a,w=>Wn P c (Exit.inBlock i Q) a w
 | .cond c x y,Q,a,w=>∃ t,a.eval c= .bool t/\(t=true->Wn P x Q a w)/\(t=false->Wn P y Q a w)
 | .region _ ops false,Q,a,w=>xc ops.toList=true/\wpList P ops Q ops.toList a w
 | .region _ ops true,Q,a,w=>xc ops.toList=true/\P.follows .mixedOrders=true/\wpAny P .any ops Q ops.size (Array.replicate ops.size false) a {w with drawn:=w.drawn+1}
 | _,_,_,_=>False
section
variable {P:Program} {Q:Exit->Act->World->Prop} {l:Nat} {n:Nat}
abbrev inR(l:Nat):Fence:=Fence.wide.inRound l
def Nv{o:Oper}{a:Act}{w:World}{K:Act->World->Prop}(hd:∀ c,o.op≠ .defer c)(hq:∀ a w,¬Q .outgrown a w)(h:o.wp P a w K Q):o.wpIn (inR l) n P a w K Q:=by
 refine⟨fun _ _=>trivial,?_⟩;rw[Oper.semAt_eq _ _ _ hd];unfold Oper.wp at h;generalize (execOp a.eval o).run P w=r at*;cases r with
 | ok x w'=>
  have ad9:(inR l).depth.isSome=true->1<=n:=fun q=>by cases q
  cases x<;>simp only[Oper.upon,Oper.uponIn]at h ⊢;case value=>exact h
  case skip=>exact h
  case defer=>exact h
  case enter=>
   refine⟨ad9,CallsIn.inRound l (callsIn_wide.2 (h.mono fun e w'' he=> ?_))⟩;cases e with
   | returned v=>exact he
   | panicked c=>exact he
   | outgrown=>obtain⟨_,_,he⟩:=he;exact absurd he (hq _ _)
  case row=>
   refine⟨ad9,fun c cs _=> ?_⟩;obtain⟨v,w2,hr,hs⟩:=h c cs;exact⟨v,w2,hr,stepsIn_wide.2 hs⟩
  all_goals exact h.elim
 | halt x w'=>cases x<;>simp only[Oper.upon,Oper.uponIn]at h ⊢ <;>exact h
def GP{ops:Array Oper}(hq:∀ a w,¬Q .outgrown a w):∀ (bU:List Oper) (a:Act) (w:World),xc bU=true->wpList P ops Q bU a w->wpListIn (inR l) n P ops Q bU a w
 | [],_,_,_,h=>h
 | o::bU,a,w,hn,h=>by
  simp only[xc,List.all_cons,Bool.and_eq_true]at hn;unfold wpList at h;unfold wpListIn;split
  ·rename_i hw;rw[if_pos hw]at h;rcases h with h | ⟨_,a',w',h⟩
   ·refine Nv (fun c hc=> ?_) hq (Oper.wp_mono (fun a' w'=>GP hq bU a' w' hn.2) h);have:=hn.1;rw[hc]at this;cases this
   ·exact absurd h (hq _ _)
  ·rename_i hw;rw[if_neg hw]at h;exact⟨fun _ _=>trivial,GP hq bU _ _ hn.2 h⟩
def GQ{ops:Array Oper}(hq:∀ a w,¬Q .outgrown a w)(hn:xc ops.toList=true):∀ (f:Nat) (ls:Array Bool) (a:Act) (w:World),wpAny P .any ops Q f ls a w->wpAnyIn (inR l) n P .any ops Q f ls a w
 | 0,_,_,_,h=>h
 | f+1,ls,a,w,h=>⟨h.1,fun i hi=>by
  have h2:=h.2 i hi
  unfold wpOp at h2
  unfold wpOpIn
  cases ho:ops[i]? with
  | none=>rw[ho]at h2;exact GQ hq hn f _ _ _ h2
  | some o=>
   rw[ho]at h2
   simp only at h2 ⊢
   split
   ·rename_i hw
    rw[if_pos hw]at h2
    rcases h2 with h2 | ⟨_,a',w',h2⟩
    ·exact Nv (Sf hn (i:=i) (by rw[Array.getElem?_toList];exact ho)) hq (Oper.wp_mono (fun a' w'=>GQ hq hn f _ a' w') h2)
    simp_all
   ·rename_i hw
    rw[if_neg hw]at h2
    exact⟨fun _ _=>trivial,GQ hq hn f _ _ _ h2⟩⟩
def wa:∀ (c:Code) (Q:Exit->Act->World->Prop) (a:Act) (w:World),(∀ a w,¬Q .outgrown a w)->Wn P c Q a w->c.wpIn (inR l) n P Q a w
 | .skip,_,_,_,_,h=>wpIn_skip h
 | .exit _,_,_,_,_,h=>wpIn_exit h
 | .ret,_,_,_,_,h=>wpIn_ret h
 | .seq x y,Q,a,w,hq,h=>wpIn_seq (wpIn_mono (wa x (Exit.then (Wn P y Q) Q) a w (fun a w=>hq a w) h) (fun e a w q=>by
   cases e with
   | normal=>exact wa y Q a w hq q
   | exit i=>exact q
   | goto i=>exact q
   | ret=>exact q
   | panic i=>exact q
   | outgrown=>exact q))
 | .block i c,Q,a,w,hq,h=>wpIn_block (wa c (Exit.inBlock _ Q) a w (fun a w=>hq a w) h)
 | .cond c x y,Q,a,w,hq,⟨_,h1,h2,h3⟩=>wpIn_cond_split h1 (fun ht=>wa x Q a w hq (h2 ht)) fun ht=>wa y Q a w hq (h3 ht)
 | .region _ ops false,_,a,w,hq,h=>wpIn_region_list (GP hq _ a w h.1 h.2)
 | .region _ _ true,_,a,w,hq,h=>wpIn_region_any h.2.1 (GQ hq h.1 _ _ a _ h.2.2)
 | .loop _,_,_,_,_,k=>k.elim
 | .rangeFunc ..,_,_,_,_,k=>k.elim
 | .scope _,_,_,_,_,k=>k.elim
 | .label _,_,_,_,_,k=>k.elim
 | .goto _,_,_,_,_,k=>k.elim
end
section
variable {P:Program} {n:Fr} {Q:Exit->Act->World->Prop} {L L':PF} {M M':World->Prop}
def XB(P:Program)(n:Fr)(c:Code)(Q:Exit->Act->World->Prop)(L:PF)(M:World->Prop):Prop:=
 ∀ a w,nR n L a->M w->Wn P c Q a w
theorem XB.eK{c:Code}(L':PF)(hs:Sub L L')(h:XB P n c Q L' M):XB P n c Q L M:=fun a w ha hw=>h a w (hs.WC ha) hw
def XB.seq{x y:Code}(h:XB P n x (Exit.then (Wn P y Q) Q) L M):XB P n (.seq x y) Q L M:=h
def oG{y:Code}{Q':Exit->Act->World->Prop}(h:XB P n y Q L M):XE n (Exit.then (Wn P y Q) Q') .normal L M:=h
def XB.skip(h:XE n Q .normal L M):XB P n .skip Q L M:=h
def XB.ret(h:XE n Q .ret L M):XB P n .ret Q L M:=h
theorem XB.block{i:Nat}{c:Code}(h:XB P n c (Exit.inBlock i Q) L M):XB P n (.block i c) Q L M:=h
theorem XB.cond{c:Operand}{x y:Code}{t:Bool}(hc:ev L c=some (.bool t))(ht:t=true->XB P n x Q L M)(hf:t=false->XB P n y Q L M):XB P n (.cond c x y) Q L M:=
 fun a w ha hw=>⟨t,ay ha hc,fun h=>ht h a w ha hw,fun h=>hf h a w ha hw⟩
def XB.Nl{c:Operand}{x y:Code}{p:Prop}[Decidable p](hc:ev L c=some (.bool (decide p)))(ht:p->XB P n x Q L M)(hf:¬p->XB P n y Q L M):
  XB P n (.cond c x y) Q L M:=by grind [XB.cond]
def XB.region{i:Nat}{l:List Oper}(h:XO P n (.cl l.toArray) Q l L M)(hn:xc l=true:=by rfl):XB P n (.region i l.toArray false) Q L M:=fun a w ha hw=>by
 refine⟨by simpa using hn,?_⟩;have:wpList P l.toArray Q l a w:=h a w ha hw;omega
end
def Wo(D:Nat):Deferred:= {target:=.collected D,args:= #[]}
def aK.zg:aK->Bool
 | .mark _=>false
 | _=>true
theorem Cb{e:aK}{w:World}(h:e.holds w)(hm:e.zg=true){b o:Nat}(ha:e.fT b o):∃ A t fz,w.heap[b]? =some (.cells A t fz):=by
 cases e with
 | cells b' o' n C=>obtain⟨A,t,lo,hi,h1,_⟩:=h;obtain⟨rfl,_⟩:=ha;exact⟨_,_,_,h1⟩
 | ro b' o' n C=>obtain⟨A,t,fz,h1,_⟩:=h;obtain⟨rfl,_⟩:=ha;exact⟨_,_,_,h1⟩
 | row v e sz k xs=>
  rcases h.2 with⟨rfl,_⟩ | ⟨g,cap,cur,rfl,_,hb,_⟩
  ·cases ha
  ·have:b=g:=by simp only[aK.fT,Value.ownBlock,Option.some.injEq]at ha;exact ha.symm
   simp_all
 | mark D=>cases hm
 | aV p r=>
  obtain⟨i,hi,hb⟩:=ha;rcases(h.1 i hi).2 with⟨hv,_⟩ | ⟨g,cap,cur,hv,hb',hg,_⟩
  ·rw[hv]at hb;cases hb
  ·rw[hv]at hb;simp only[Value.ownBlock,Option.some.injEq]at hb;simp_all
 | dN p g n C=>obtain⟨i,hi,rfl,_⟩:=ha;obtain⟨A,t,lo,Ik,h1,_⟩:=h.1 i hi;exact⟨_,_,_,h1⟩
theorem zh{e:aK}(h:e.wr=true):e.zg=true:=by cases e<;>first | rfl | cases h
def aK.Lv{e:aK}{w w':World}{D:Nat}(hb:∀ b,b<w.heap.size->¬b=D->w'.heap[b]? =w.heap[b]?)(hD:∀ o,w.heap[D]? =some o->o.isCells=false)(hm:e.zg=true)(h:e.holds w):e.holds w':=by
 have ne:∀ (b:Nat) (A:Array Value) (t:TypeId) (fz:Nat×Nat),w.heap[b]? =some (.cells A t fz)->w'.heap[b]? =some (.cells A t fz):=fun b A t fz hA=>by
  rw[hb b (eh hA) fun q=>by subst q;have:=hD _ hA;cases this];exact hA
 cases e with
 | cells b o n C=>obtain⟨A,t,lo,hi,h1,h2⟩:=h;exact⟨A,t,lo,hi,ne _ _ _ _ h1,h2⟩
 | ro b o n C=>obtain⟨A,t,fz,h1,h2⟩:=h;exact⟨A,t,fz,ne _ _ _ _ h1,h2⟩
 | row v e sz k xs=>
  refine⟨h.1,?_⟩;rcases h.2 with hn | ⟨g,cap,cur,rfl,hb',hg,bU⟩
  ·simp_all
  ·grind
 | mark D=>cases hm
 | aV p r=>
  refine⟨fun i hi=> ?_,h.2⟩;have hr:=h.1 i hi;refine⟨hr.1,?_⟩;rcases hr.2 with hn | ⟨g,cap,cur,hv,hb',hg,bU⟩
  ·simp_all
  ·grind
 | dN p g n C=>
  refine⟨fun i hi=> ?_,h.2⟩;obtain⟨A,t,lo,Ik,h1,h2⟩:=h.1 i hi;exact⟨A,t,lo,Ik,ne _ _ _ _ h1,h2⟩
theorem XM.mm{W w w':World}{S:Nat->Nat->Prop}{H:List aK}{D:Nat}(h:XM W S H w)(hm:H.all aK.zg=true)(hDW:W.heap.size<=D)(hos:w'.os=w.os)(ht:w'.tape=w.tape)(II:w'.output=w.output)(Nq:w.heap.size<=w'.heap.size)(hb:∀ b,b<w.heap.size->¬b=D->w'.heap[b]? =w.heap[b]?)(hD:∀ o,w.heap[D]? =some o->o.isCells=false):XM W S H w':=by
 refine⟨⟨fun e he=>aK.Lv hb hD (List.all_eq_true.1 hm e he) (h.eT.1 e he),h.eT.2⟩,⟨hos.trans h.eK.os,ht.trans h.eK.tape,II.trans h.eK.output,Nat.le_trans h.eK.size Nq,fun b Cc hn=> ?_,fun b A t fz hA=> ?_⟩,h.Em⟩
 ·rw[hb b (Nat.lt_of_lt_of_le Cc h.eK.size) og];exact h.eK.same b Cc hn
 ·obtain⟨A',h1,h2,h3⟩:=h.eK.part b A t fz hA;grind
section
variable {P:Program} {L:PF} {W:World} {S:Nat->Nat->Prop} {H H':List aK}
def qj{k m:Nat}{kp:List Nat}{cs:List (Nat×Nat)}{R:Ending->World->Prop}{e:Exit}{M:World->Prop}(he:e= .normal\/e= .ret)(h:XE (fr k kp cs) (bodyPost P fn R) e L M):XE (fr k kp cs) (bodyPostM Fence.wide m P fn R) e L M:=fun a w ha hw=>by
 have h1:=h a w ha hw;rcases he with rfl | rfl
 ·obtain⟨hd,v,h2,h3⟩:=h1;show LeavesInM _ _ _ _ a.tmps R a.defers .returning w;rw[hd];exact⟨v,h2,h3⟩
 ·obtain⟨hd,v,h2,h3⟩:=h1;show LeavesInM _ _ _ _ a.tmps R a.defers .returning w;rw[hd];exact⟨v,h2,h3⟩
def mV{k m D:Nat}{kp:List Nat}{cs:List (Nat×Nat)}{R:Ending->World->Prop}{e:Exit}(he:e= .normal\/e= .ret)(hH:mT H (.mark D) H')(hm:H'.all aK.zg=true)(hD:W.heap.size<=D)(h:XE (fr k kp cs) (bodyPost P fn R) e L (XM W S H')):XE ⟨k,[Wo D],kp,cs⟩ (bodyPostM Fence.wide m P fn R) e L (XM W S H):=fun a w ha hw=>by
 have IA:=hw.b8 hH.b8;have IJ:w.heap[D]? =some (.deferred (some [])):=IA.eT.1 (.mark D) sq;have l9:XM W S H' w:=XM.left (E:=H') (F:=[.mark D]) (IA.b8 (by
  have:=List.perm_append_comm (l₁:=[aK.mark D]) (l₂:=H')
  simpa using this))
 have bJ:XM W S H' (w.putObj D (.deferred none)):=l9.mm (D:=D) hm hD rfl rfl rfl sq (fun b _ gK=>World.putObj_heap_other gK) fun o ho=>by rw[IJ]at ho;cases ho;rfl
 have h1:=h {a with defers:=[]} _ ⟨rfl,ha.2.1,ha.2.2⟩ bJ;have hd:a.defers=[Wo D]:=ha.1;rcases he with rfl | rfl
 ·obtain⟨_,v,h2,h3⟩:=h1;show LeavesInM _ _ _ _ a.tmps R a.defers .returning w;rw[hd];exact⟨sq,.inl ⟨_,_,rfl,run_takeDeferred IJ,v,h2,h3⟩⟩
 ·obtain⟨_,v,h2,h3⟩:=h1;show LeavesInM _ _ _ _ a.tmps R a.defers .returning w;rw[hd];exact⟨sq,.inl ⟨_,_,rfl,run_takeDeferred IJ,v,h2,h3⟩⟩
def IK{kp:List Nat}{cs:List (Nat×Nat)}{f:FuncId}{c:Code}{args:List Value}{pre:List aK}{post:Value->List aK->Prop}(hf:P.funcs[f]? =some fn)(hb:fn.body=some c)(hn:Nat.ble args.length fn.ntmps=true)(h:∀ W,XC P (fr fn.ntmps kp cs) c (bodyPostM Fence.wide 3 P fn fun e w'=>∃ v H',e= .returned v/\post v H'/\H'.all aK.wr=true/\XM W (bZ pre) H' w') (oC 0 args) (XM W (bZ pre) pre)):Spec P f args pre post:=by
 intro w hw;refine(callsIn_wide (n:=3)).1 (callsIn_of_wp_marks hf hb trivial (wpIn_wide.2 (h w _ w ⟨rfl,?_,?_⟩ (kH hw))))
 ·simp_all
 ·intro i v hi;obtain⟨_,h2⟩:=y9 args 0 i v hi;have sO:i<args.length:=by
   grind
  simp_all[Array.getElem?_append_left]
end
def RE(R:List (Addr×Value))(A B:World):Prop:=∀ x∈R,A.cell? x.1=some x.2->B.cell? x.1=some x.2
def RE.trans{R:List (Addr×Value)}{A B C:World}(h:RE R A B)(k:RE R B C):RE R A C:=fun x hx ha=>k x hx (h x hx ha)
def Si{W:World}{l:Nat}{o o':Obj}(hl:W.heap[l]? =some o)(ho:o.isCells=false){a:Addr}{v:Value}(h:W.cell? a=some v):(W.putObj l o').cell? a=some v:=by
 have gK:¬a.block=l:=fun e=>by
  subst e;simp only[World.cell?,hl]at h;cases o<;>first | (cases ho;done) | (simp at h;done)
 rw[World.cell?_of_block (World.putObj_heap_other gK)];exact h
theorem RE.put{R:List (Addr×Value)}(W:World)(l:Nat)(o o':Obj)(hl:W.heap[l]? =some o)(ho:o.isCells=false):RE R W (W.putObj l o'):=fun _ _ h=>Si hl ho h
theorem cI.refl:∀ (H:List aK),cI H H []
 | []=>.nil
 | _::H=>.cons .aa (cI.refl H)
theorem XM.then{W w w':World}{S:Nat->Nat->Prop}{H H':List aK}(h:XM W S H w)(hc:XM w (bZ H) H' w')(Pb:H'.all aK.wr=true):XM W S H' w':=by
 have:=h.zc (cI.refl H) hc fun e he=>List.all_eq_true.1 Pb e he;simp_all
def Lw{H:List aK}{w:World}(h:Good H w){b o:Nat}(hf:bZ H b o):∃ A t fz,w.heap[b]? =some (.cells A t fz):=by
 grind [Cb,zh,Good,bZ]
def XM.Sj{w w':World}{H H':List aK}(hg:Good H w)(hc:XM w (bZ H) H' w'):KeepsOthers w w':=by
 refine⟨hc.eK.size,fun b o hb ho=> ?_⟩;rw[hc.eK.same b (eh hb) fun off hf=> ?_]
 ·omega
 ·obtain⟨A,t,fz,h1⟩:=Lw hg hf;rw[hb]at h1;cases h1;cases ho
section
variable {P:Program} {Q:Exit->Act->World->Prop} {L:PF} {W:World} {S:Nat->Nat->Prop} {H:List aK} {α:Type}
def RI(W:World)(S:Nat->Nat->Prop)(V:List α->Prop)(J:List α->List aK)(pre:List α)(w:World):Prop:=V pre/\XM W S (J pre) w
theorem RI.bu{V:List α->Prop}{J:List α->List aK}{B:Nat}(hJ:∀ pre,(J pre).all aK.wr=true)(hB:W.heap.size<=B):OwnFrom B (RI W S V J):=fun pre w w' row ⟨hv,hx⟩ hg hr=>by
 have hm:(J pre).all aK.zg=true:=List.all_eq_true.2 fun e he=>zh (List.all_eq_true.1 (hJ pre) e he);refine⟨hv,?_⟩;cases row with
 | none=>exact hx.mm (D:=w.heap.size) hm hx.eK.size hg.os hg.tape hg.output hg.size (fun b hb _=>hg.block b hb sq) fun o ho=>by have:=eh ho;omega
 | some r=>
  obtain⟨h1,o,h2,h3⟩:=hr r rfl;exact hx.mm (D:=r) hm og hg.os hg.tape hg.output hg.size (fun b hb gK=>hg.block b hb fun e=>by cases e;exact gK rfl) fun o' ho=>by rw[h2]at ho;cases ho;exact h3
abbrev Cd(W:World)(S:Nat->Nat->Prop)(V Vx:List α->Prop)(J Jx:List α->List aK)(R:List (Addr×Value))(pre:List α)(x:α)(w:World):Exit->Act->World->Prop:=
 ownPostK (RE R) (RI W S V J) (fun c ys w'=>c= .ret/\RI W S Vx Jx ys w') (pre++[x]) w
def xd{n:Fr}{V Vx:List α->Prop}{J Jx:List α->List aK}{R:List (Addr×Value)}{pre:List α}{x:α}{w:World}{H':List aK}(h:XM W S (J pre) w)(hV:V (pre++[x]))(Lb:(J (pre++[x])).all aK.wr=true)(hR:∀ w',Go.X.Good (J (pre++[x])) w'->∀ y∈R,w'.cell? y.1=some y.2)(hp:∀ w',XM w (bZ (J pre)) H' w'->XM w (bZ (J pre)) (J (pre++[x])) w'):XE n (Cd W S V Vx J Jx R pre x w) .normal L (XM w (bZ (J pre)) H'):=fun _ w' _ hw=>by
 have h1:=hp w' hw;exact⟨h1.Sj h.eT,fun y hy _=>hR w' h1.eT y hy,hV,h.then h1 Lb⟩
theorem XE.fB{n:Fr}{V Vx:List α->Prop}{J Jx:List α->List aK}{R:List (Addr×Value)}{pre:List α}{x:α}{w:World}{H':List aK}(h:XM W S (J pre) w)(hV:Vx (pre++[x]))(Lb:(Jx (pre++[x])).all aK.wr=true)(hp:∀ w',XM w (bZ (J pre)) H' w'->XM w (bZ (J pre)) (Jx (pre++[x])) w'):XE n (Cd W S V Vx J Jx R pre x w) .ret L (XM w (bZ (J pre)) H'):=fun _ w' _ hw=>by
 have h1:=hp w' hw;exact⟨h1.Sj h.eT,rfl,hV,h.then h1 Lb⟩
def E9{k:Nat}{kp:List Nat}{cs:List (Nat×Nat)}{ps:Array Tmp}{assign:Code}{gf:Nat}{lb:Array Value}{aaN:α->Array Value}{R:List (Addr×Value)}{xs:List α}(V Vx:List α->Prop)(J Jx:List α->List aK)(L1:α->PF)(asg:α->Array Value->Act)(hg:ev L g=some (.func (.func gf) #[] lb))(eg:∀ args w,(callFunc gf args).run P w= .ok (.enter gf args) w)(hps:∀ x,(aaN x).size=ps.size)(Sk:∀ w,XM W S H w->SeqStopsK Fence.wide 2 P gf lb aaN (RE R) (· =xs) (· <+:xs) xs.length w)(hV0:V [])(hJ0:∀ w,XM W S H w->XM W S (J []) w)(hJ:∀ pre,(J pre).all aK.wr=true)(hJx:∀ pre,(Jx pre).all aK.wr=true)(af3:∀ (l:Nat) (x:α) (tmps:Array Value) (w:World) (K:Act->World->Prop),K (asg x tmps) w->assign.wpIn (inR l) 1 P (Exit.then K fun _ _ _=>False) {tmps:=(ps.zip (aaN x)).foldl (fun t (p,v)=>t.setIfInBounds p v) tmps,defers:=[]} w)(akb:∀ x a,nR (fr k kp cs) L a->nR (fr k kp cs) (L1 x) (asg x a.tmps))(Nw:∀ pre x w,V pre->pre.length<xs.length->XM W S (J pre) w->XB P (fr k kp cs) body (Cd W S V Vx J Jx R pre x w) (L1 x) (XM w (bZ (J pre)) (J pre)))(Nx:V xs->∀ D,W.heap.size<=D->XE ⟨k,[Wo D],kp,cs⟩ Q .normal L (XM W S (.mark D::J xs)))(IL:∀ pre,pre<+:xs->Vx pre->∀ D,W.heap.size<=D->XE ⟨k,[Wo D],kp,cs⟩ Q .ret L (XM W S (.mark D::Jx pre))):XC P (fr k kp cs) (.rangeFunc g ps assign body) Q L (XM W S H):=fun a w ha hw=>by
 have IJ:∀ (D:Nat) (E:List aK) (w':World),E.all aK.wr=true->W.heap.size<=D->XM W S E w'->w'.heap[D]? =some (.deferred (some []))->XM W S (.mark D::E) w':=fun D E w' hE hD hx hh=>by
  refine⟨⟨fun e he=> ?_,List.pairwise_cons.2 ⟨fun e he _ b o h1 h2=> ?_,hx.eT.2⟩⟩,hx.eK,fun e he Lb b o hb=> ?_⟩
  ·rcases List.mem_cons.1 he with rfl | he
   ·exact hh
   ·exact hx.eT.1 e he
  ·obtain rfl:b=D:=h1;obtain⟨A,t,fz,h3⟩:=Cb (hx.eT.1 e he) (zh (List.all_eq_true.1 hE e he)) h2;simp_all
  ·rcases List.mem_cons.1 he with rfl | he
   ·cases Lb
   ·exact hx.Em e he Lb b o hb
 refine(wpIn_wide (n:=3)).1 ?_;refine wpIn_rangeFunc_ownF (F:=Fence.wide) (w0:=w) rfl og (ay ha hg) trivial eg (Sk w hw) (fun h k=>h.trans k) (fun W l o o' _ hl ho _=>RE.put W l o o' hl ho) (Below.refl _ _) hps
  (RI W S V J) (fun c ys w'=>c= .ret/\RI W S Vx Jx ys w') (RI.bu hJ hw.eK.size) (fun c=>fun pre A B row ⟨hc,hi⟩ hgr hr=>⟨hc,RI.bu hJx hw.eK.size pre A B row hi hgr hr⟩) ⟨hV0,hJ0 w hw⟩ (fun x=>asg x a.tmps) ?_ ?_ ?_ ?_
 ·simp_all
 ·rintro l pre x w1 ⟨hv,hx⟩ hlen;refine wa body _ _ w1 (fun _ _ q=>q) ?_;grind [kH,XM.eT,XB]
 ·rintro D ys w1 hD rfl ⟨hv,hx⟩ hh;have hD2:W.heap.size<=D:=Nat.le_trans hw.eK.size hD;grind [nR,XE,Wo]
 ·rintro D c pre w1 hD hp ⟨rfl,hv,hx⟩ hh;have hD2:W.heap.size<=D:=Nat.le_trans hw.eK.size hD;have hd:a.defers=[]:=ha.1;refine wpIn_ret (IL pre hp hv D hD2 _ w1 ⟨?_,ha.2.1,ha.2.2⟩ (IJ D _ w1 (hJx _) hD2 hx hh));grind [Wo]
end
section
variable {P:Program} {Q:Exit->Act->World->Prop} {L:PF} {n:Fr} {M:World->Prop} {ty:TypeId} {pos:String} {af:Array Edge} {d:Nat} {ops:Array Oper} {bU:List Oper}
def XI(P:Program)(n:Fr)(ops:Array Oper)(Q:Exit->Act->World->Prop)(l:List Oper)(L:PF)(M:World->Prop):Prop:=
 ∀ a w,nR n L a->M w->wpListIn Fence.wide 2 P ops Q l a w
def Lx{i:Nat}{l:List Oper}(h:XI P n l.toArray Q l L M):XC P n (.region i l.toArray false) Q L M:=fun a w ha hw=>wpIn_wide.1 (wpIn_region_lit (h a w ha hw))
theorem XI.nil(h:XE n Q .normal L M):XI P n ops Q [] L M:=h
theorem XI.v{op:Op}{v:Value}(hv:bd P n L M ⟨some d,op,ty,pos,af,none⟩ v)(hd:Nat.blt d n.sz=true)(h:XI P n ops Q bU ((d,v)::L) M):XI P n ops Q (⟨some d,op,ty,pos,af,none⟩::bU) L M:=fun a w ha hw=>by
 unfold wpListIn;rw[if_pos (by simp[Region.wanted])];refine⟨fun _ _=>trivial,?_⟩;have h0:Fence.wide.round=none:=rfl;rw[h0,Oper.semAt_none,hv a w ha hw];exact h _ w (ha.put hd v) hw
def XI.yield{y:Operand}{l:Nat}{v:Value}{R:Ending->World->Prop}{t:Array TypeId}(hx:ev L x=some (.func (.yield l) #[] #[]))(hy:ev L y=some v)(hY:∀ w,M w->YieldAt Fence.wide 1 P l #[v] w R)(hd:Nat.blt d n.sz=true)(h:∀ e w,R e w->∃ b,e= .returned (.bool b)/\XI P n ops Q bU ((d,.bool b)::L) fun w'=>R (.returned (.bool b)) w'):XI P n ops Q (⟨some d,.call ⟨.value x,#[y],t⟩,ty,pos,af,none⟩::bU) L M:=fun a w ha hw=>by
 obtain⟨fn,tmps,assign,body,h1,h2⟩:=hY w hw;unfold wpListIn;rw[if_pos (by simp[Region.wanted])];refine⟨fun _ _=>trivial,?_⟩;have h0:Fence.wide.round=none:=rfl;have agQ:(execOp a.eval ⟨some d,.call ⟨.value x,#[y],t⟩,ty,pos,af,none⟩).run P w= .ok (.round l fn tmps assign body) w:=by
  simp[execOp,resolve,invoke,Deferred.ofValue,ay ha hx,ay ha hy,h1]
 rw[h0,Oper.semAt_none,agQ];refine⟨fun q=>(by cases q),h2.mono fun e w' hr=> ?_⟩;obtain⟨b,rfl,AB⟩:=h e w' hr;exact AB _ w' (ha.put hd _) hr
def wb{t:TypeId}{b o:Nat}{v:Value}{φ:World->Prop}{gd:Option (Nat×Bool)}(hx:ev L x=some (.pointer (some ⟨b,o,none⟩)))(hc:∀ w,φ w->w.cell? ⟨b,o,none⟩=some v)(ht:jw P t=true):bd P n L φ (⟨some d,.load t x,ty,pos,af,gd⟩) v:=fun a w ha hw=>by
 simp[execOp,ay ha hx,Instr.loadAt,Instr.sureAddr,gi ht (hc w hw)]
def pq{f:FuncId}{y:Operand}{u v:Value}{φ:World->Prop}{gd:Option (Nat×Bool)}(hx:ev L x=some u)(hy:ev L y=some v):bd P n L φ (⟨some d,.makeFunc (.func f) #[] #[x,y],ty,pos,af,gd⟩) (.func (.func f) #[] #[u,v]):=fun a w ha hw=>by
 simp[execOp,ay ha hx,ay ha hy,Instr.makeFunc]
end
section
variable {P:Program} {Q:Exit->Act->World->Prop} {L:PF} {W:World} {S:Nat->Nat->Prop} {H:List aK} {α:Type}
theorem ZR(tmps:Array Value)(p:Tmp)(v:Value):(#[p].zip #[v]).foldl (fun t (p,v)=>t.setIfInBounds p v) tmps=tmps.setIfInBounds p v:=sq
def Pp{k:Nat}{kp:List Nat}{cs:List (Nat×Nat)}{p:Nat}{gf:Nat}{lb:Array Value}{R:List (Addr×Value)}{xs:List α}(enc:α->Value)(V Vx:List α->Prop)(J Jx:List α->List aK)(hg:ev L g=some (.func (.func gf) #[] lb))(eg:∀ args w,(callFunc gf args).run P w= .ok (.enter gf args) w)(hp:Nat.blt p k=true)(Sk:∀ w,XM W S H w->SeqStopsK Fence.wide 2 P gf lb (fun x=> #[enc x]) (RE R) (· =xs) (· <+:xs) xs.length w)(hV0:V [])(hJ0:∀ w,XM W S H w->XM W S (J []) w)(hJ:∀ pre,(J pre).all aK.wr=true)(hJx:∀ pre,(Jx pre).all aK.wr=true)(Nw:∀ pre x w,V pre->pre.length<xs.length->XM W S (J pre) w->XB P (fr k kp cs) body (Cd W S V Vx J Jx R pre x w) ((p,enc x)::L) (XM w (bZ (J pre)) (J pre)))(Nx:V xs->∀ D,W.heap.size<=D->XE ⟨k,[Wo D],kp,cs⟩ Q .normal L (XM W S (.mark D::J xs)))(IL:∀ pre,pre<+:xs->Vx pre->∀ D,W.heap.size<=D->XE ⟨k,[Wo D],kp,cs⟩ Q .ret L (XM W S (.mark D::Jx pre))):XC P (fr k kp cs) (.rangeFunc g #[p] .skip body) Q L (XM W S H):=
 E9 V Vx J Jx (fun x=>(p,enc x)::L) (fun x tmps=> {tmps:=tmps.setIfInBounds p (enc x),defers:=[]}) hg eg (fun _=>rfl) Sk hV0 hJ0 hJ hJx
  (fun l x tmps w K hK=>by rw[ZR];exact wpIn_skip hK) (fun x a ha=>by
   have:=ha.put (n:=fr k kp cs) hp (enc x)
   have hd:a.defers=[]:=ha.1
   simpa only[Act.put,hd]using this) Nw Nx IL
def Pq{l i q p:Nat}{ty:TypeId}{pos:String}{a:Act}{w:World}{K:Act->World->Prop}(h:K (a.put (some q) (a.eval (.tmp p))) w):(Code.region i #[⟨some q,.assign (.tmp p),ty,pos,#[],none⟩] false).wpIn (inR l) 1 P (Exit.then K fun _ _ _=>False) a w:=by
 refine wa _ _ _ w (fun _ _ q=>q) ⟨rfl,?_⟩;show wpList _ _ _ [_] _ _;unfold wpList;rw[if_pos (by simp[Region.wanted])];left;unfold Oper.wp;have:(execOp a.eval ⟨some q,.assign (.tmp p),ty,pos,#[],none⟩).run P w= .ok (.value (a.eval (.tmp p))) w:=by simp[execOp]
 rw[this];exact h
def uA{k:Nat}{kp:List Nat}{cs:List (Nat×Nat)}{p q i:Nat}{ty:TypeId}{pos:String}{gf:Nat}{lb:Array Value}{R:List (Addr×Value)}{xs:List α}(enc:α->Value)(V Vx:List α->Prop)(J Jx:List α->List aK)(hg:ev L g=some (.func (.func gf) #[] lb))(eg:∀ args w,(callFunc gf args).run P w= .ok (.enter gf args) w)(hp:Nat.blt p k=true)(hq:Nat.blt q k=true)(Sk:∀ w,XM W S H w->SeqStopsK Fence.wide 2 P gf lb (fun x=> #[enc x]) (RE R) (· =xs) (· <+:xs) xs.length w)(hV0:V [])(hJ0:∀ w,XM W S H w->XM W S (J []) w)(hJ:∀ pre,(J pre).all aK.wr=true)(hJx:∀ pre,(Jx pre).all aK.wr=true)(Nw:∀ pre x w,V pre->pre.length<xs.length->XM W S (J pre) w->XB P (fr k kp cs) body (Cd W S V Vx J Jx R pre x w) ((q,enc x)::(p,enc x)::L) (XM w (bZ (J pre)) (J pre)))(Nx:V xs->∀ D,W.heap.size<=D->XE ⟨k,[Wo D],kp,cs⟩ Q .normal L (XM W S (.mark D::J xs)))(IL:∀ pre,pre<+:xs->Vx pre->∀ D,W.heap.size<=D->XE ⟨k,[Wo D],kp,cs⟩ Q .ret L (XM W S (.mark D::Jx pre))):XC P (fr k kp cs) (.rangeFunc g #[p] (.region i #[⟨some q,.assign (.tmp p),ty,pos,#[],none⟩] false) body) Q L (XM W S H):=
 E9 V Vx J Jx (fun x=>(q,enc x)::(p,enc x)::L) (fun x tmps=>(Act.put {tmps:=tmps.setIfInBounds p (enc x),defers:=[]} (some q) (Act.eval {tmps:=tmps.setIfInBounds p (enc x),defers:=[]} (.tmp p)))) hg eg (fun _=>rfl) Sk hV0 hJ0 hJ hJx
  (fun l x tmps w K hK=>by rw[ZR];exact Pq hK)
  (fun x a ha=>by
   have h1:=ha.put (n:=fr k kp cs) hp (enc x)
   have hd:a.defers=[]:=ha.1
   have h2:nR (fr k kp cs) ((p,enc x)::L) {tmps:=a.tmps.setIfInBounds p (enc x),defers:=[]} :=by simpa only[Act.put,hd]using h1
   have h3:Act.eval {tmps:=a.tmps.setIfInBounds p (enc x),defers:=[]} (.tmp p)=enc x:=ay h2 (by simp[ev,lk])
   have h4:=h2.put (n:=fr k kp cs) hq (enc x)
   rw[h3];exact h4) Nw Nx IL
end
end Go.X

namespace Go.X
open Go Go.RowKit Go.Proofs
variable{v:Value}
section
variable {P:Program} {n:Fr} {Q:Exit->Act->World->Prop} {L:PF} {W:World} {S:Nat->Nat->Prop} {H:List aK}
def ZS(tmps:Array Value):ResultVar->Sem Value
 | .tmp t=>pure (tmps.getD t undef)
 | .cell a t=>do loadVar t (<-asAddr (tmps.getD a undef))
theorem wc(fn:Func)(tmps:Array Value):results fn tmps=(do
  let vs<-fn.results.mapM (ZS tmps)
  pure (if h:vs.size=1 then vs[0]else .tuple vs)):=by
 rfl
def oH(P:Program)(n:Fr)(L:PF)(M:World->Prop)(r:ResultVar)(v:Value):Prop:=
 ∀ a w,nR n L a->M w->(ZS a.tmps r).run P w= .ok v w
def oH.tmp{M:World->Prop}{t:Nat}{v:Value}(h:lk L t=some v):oH P n L M (.tmp t) v:=fun a w ha _=>by
 show(pure (a.tmps.getD t undef):Sem Value).run P w=_;rw[ha.2.2 t v h];rfl
theorem oH.cell{c b o i m:Nat}{t:TypeId}{C:Nat->Value}{v:Value}(hv:lk L c=some (aC b o i))(hH:kR H (.cells b o m C))(hC:i<m/\C i=v)(ht:jw P t=true):oH P n L (XM W S H) (.cell c t) v:=fun a w ha hw=>by
 have hc:=ec (hw.eT.1 _ hH.mem) hC.1;rw[hC.2]at hc;show(do loadVar t (<-asAddr (a.tmps.getD c undef)):Sem Value).run P w=_;rw[ha.2.2 c _ hv];simp[asAddr,aC,gi ht hc]
def oH.agg{c b o i m sz:Nat}{t:TypeId}{C:Nat->Value}(hv:lk L c=some (aC b o i))(hH:kR H (.cells b o m C))(hC:i+sz<=m/\dc C i sz=v)(ht:nq P t=true)(hs:fk P t=some sz):oH P n L (XM W S H) (.cell c t) v:=fun a w ha hw=>by
 have hl:=ji (P:=P) (w:=w) (b:=b) (o:=o) (i:=i) (C:=C) ht hs fun l hl=>ec (hw.eT.1 _ hH.mem);rw[hC.2]at hl;show(do loadVar t (<-asAddr (a.tmps.getD c undef)):Sem Value).run P w=_;rw[ha.2.2 c _ hv];simp[asAddr,aC,hl]
def jj{k:Nat}{ps:List Nat}{cs:List (Nat×Nat)}{fn:Func}{R:Ending->World->Prop}{M:World->Prop}{r:ResultVar}(hr:fn.results= #[r])(h1:oH P (fr k ps cs) L M r v)(h:∀ w,M w->R (.returned v) w):XE (fr k ps cs) (bodyPost P fn R) .ret L M:=fun a w ha hw=>by
 refine⟨ha.1,v,?_,h w hw⟩;simp_all[wc,oH]
def dX{k:Nat}{ps:List Nat}{cs:List (Nat×Nat)}{fn:Func}{R:Ending->World->Prop}{M:World->Prop}{r r':ResultVar}{v':Value}(hr:fn.results= #[r,r'])(h1:oH P (fr k ps cs) L M r v)(h2:oH P (fr k ps cs) L M r' v')(h:∀ w,M w->R (.returned (.tuple #[v,v'])) w):XE (fr k ps cs) (bodyPost P fn R) .ret L M:=fun a w ha hw=>by
 refine⟨ha.1,.tuple #[v,v'],?_,h w hw⟩;simp_all[wc,oH]
def aG(v:Value):Nat->Value:=cellsOf #[v]
def aG.ld(v:Value):0<1/\aG v 0=v:=⟨og,rfl⟩
theorem aG.st(u v:Value):0<1/\dE (aG u) 0 v=aG v:=⟨og,by
 funext i
 cases i with
 | zero=>rfl
 | succ i=>simp[dE,aG,cellsOf]⟩
def GR{f:Int->Bool}{m:Nat}{z:Int}(h:0<=z/\z<m:=by omega):(Bf f m)[z.toNat]? =some (.bool (f z)):=by
 grind [Bf]
end
section
variable {P:Program} {Q:Exit->Act->World->Prop} {L:PF} {n:Fr} {M:World->Prop} {ty:TypeId} {pos:String} {af:Array Edge} {d:Nat} {ops:Md} {bU:List Oper}
def YieldAt.weak{F:Fence}{m:Nat}{l:Nat}{args:Array Value}{w:World}{R R':Ending->World->Prop}(h:YieldAt F m P l args w R)(hr:∀ e w',R e w'->R' e w'):YieldAt F m P l args w R':=by
 obtain⟨fn,tmps,assign,body,h1,h2⟩:=h;exact⟨fn,tmps,assign,body,h1,h2.mono hr⟩
def mW{g:FuncId}(hc:cV P g=true):∀ args w,(callFunc g args).run P w= .ok (.enter g args) w:=fun args w=>by
 unfold cV at hc;cases hf:P.funcs[g]? with
 | none=>simp[hf]at hc
 | some fn=>
  simp only[hf,Bool.and_eq_true]at hc;obtain⟨h1,h2⟩:=hc;have h3:¬fn.name= "runtime.NumGoroutine" :=by simpa using h1
  have h4:¬fn.body=none:=by cases hb:fn.body<;>simp_all
  simp[callFunc,run_program,hf,h3,h4]
theorem WU{w:World}{a:Addr}(h:w.cell? a=some v):a.block<w.heap.size:=by
 unfold World.cell? at h;grind
end
end Go.X

namespace Go.X
open Go
def iS(p:Nat->Bool)(i:Nat):Nat->Bool:=fun j=>p j&& !Nat.beq j i
def Bg(p:Nat->Bool)(i:Nat):Nat->Bool:=fun j=>p j||Nat.beq j i
def xe(r:Nat->pQ)(i:Nat)(x:pQ):Nat->pQ:=fun j=>bif Nat.beq j i then x else r j
theorem WV{i j:Nat}(h:¬i=j):Nat.beq i j=false:=by
 grind [Nat.eq_of_beq_eq_true]
def uB(p:Nat->Bool)(i:Nat):iS p i i=false:=by simp[iS]
theorem jl{p:Nat->Bool}{i j:Nat} :iS p i j=true↔p j=true/\j≠i:=by
 simp only[iS,Bool.and_eq_true,Bool.not_eq_true',ne_eq];constructor
 ·rintro⟨h1,h2⟩;exact⟨h1,fun e=>by subst e;simp at h2⟩
 grind [WV]
theorem jA{p:Nat->Bool}{i j:Nat} :Bg p i j=true↔p j=true\/j=i:=by
 simp_all[Bg]
theorem pt(r:Nat->pQ)(i:Nat)(x:pQ):xe r i x i=x:=by simp[xe]
theorem lE(r:Nat->pQ){i j:Nat}(x:pQ)(h:j≠i):xe r i x j=r j:=by
 simp[xe,WV h]
theorem Fb{p:Nat->Bool}{i:Nat}(h:p i=true):Bg (iS p i) i=p:=by
 grind [jA,Bg,iS]
abbrev pQ.Ce(x:pQ):aK:=.row x.v x.e x.sz x.k x.xs
section
variable {W w:World} {S:Nat->Nat->Prop} {H:List aK}
def oe{p:Nat->Bool}{r:Nat->pQ}(i:Nat)(hp:p i=true)(h:XM W S (.aV p r::H) w):XM W S ((r i).Ce:: .aV (iS p i) r::H) w:=by
 obtain⟨⟨hh,nS⟩,hk,hm⟩:=h;rw[List.pairwise_cons]at nS;have hf:(aK.aV p r).holds w:=hh _ sq;have ha1:∀ b o,((r i).Ce).fT b o->(aK.aV p r).fT b o:=fun b o hb=>⟨i,hp,hb⟩;have ha2:∀ b o,(aK.aV (iS p i) r).fT b o->(aK.aV p r).fT b o:=fun b o ⟨j,hj,hb⟩=>⟨j,(jl.1 hj).1,hb⟩;refine⟨⟨fun e he=> ?_,List.pairwise_cons.2 ⟨fun e he _ b o h1 h2=> ?_,List.pairwise_cons.2 ⟨fun e he hw b o h1 h2=>nS.1 e he (by simp[aK.wr]) b o (ha2 b o h1) h2,nS.2⟩⟩⟩,hk,fun e he hw b o hb=> ?_⟩
 ·rcases List.mem_cons.1 he with rfl | he
  ·exact hf.1 i hp
  ·rcases List.mem_cons.1 he with rfl | he
   ·exact⟨fun j hj=>hf.1 j (jl.1 hj).1,fun j k b hj hk=>hf.2 j k b (jl.1 hj).1 (jl.1 hk).1⟩
   simp_all
 ·rcases List.mem_cons.1 he with rfl | he
  ·obtain⟨j,hj,hb⟩:=h2;have Lt:=jl.1 hj;exact hf.2 i j b hp Lt.1 (Ne.symm Lt.2) h1 hb
  ·exact nS.1 e he (by simp[aK.wr]) b o (ha1 b o h1) h2
 ·rcases List.mem_cons.1 he with rfl | he
  ·exact hm _ sq rfl b o (ha1 b o hb)
  ·rcases List.mem_cons.1 he with rfl | he
   ·exact hm _ sq rfl b o (ha2 b o hb)
   grind
def qk{p:Nat->Bool}{r:Nat->pQ}(i:Nat){x:pQ}(hp:p i=false)(h:XM W S (x.Ce:: .aV p r::H) w):XM W S (.aV (Bg p i) (xe r i x)::H) w:=by
 obtain⟨⟨hh,nS⟩,hk,hm⟩:=h;rw[List.pairwise_cons,List.pairwise_cons]at nS;obtain⟨hx,RF,Pc⟩:=nS;have hf:(aK.aV p r).holds w:=hh _ sq;have gK:∀ j,p j=true->j≠i:=fun j hj e=>by subst e;rw[hp]at hj;cases hj
 have har:∀ b o,(aK.aV (Bg p i) (xe r i x)).fT b o->x.Ce.fT b o\/(aK.aV p r).fT b o:=fun b o ⟨j,hj,hb⟩=>by
  rcases jA.1 hj with h1 | rfl
  ·rw[lE _ _ (gK j h1)]at hb;exact .inr ⟨j,h1,hb⟩
  ·rw[pt]at hb;exact .inl hb
 refine⟨⟨fun e he=> ?_,List.pairwise_cons.2 ⟨fun e he _ b o h1 h2=> ?_,Pc⟩⟩,hk,fun e he hw b o hb=> ?_⟩
 ·rcases List.mem_cons.1 he with rfl | he
  ·refine⟨fun j hj=> ?_,fun j k b hj Eg hjk h1 h2=> ?_⟩
   ·rcases jA.1 hj with h1 | rfl
    ·rw[lE _ _ (gK j h1)];exact hf.1 j h1
    ·rw[pt];exact hh x.Ce sq
   ·have hxf:∀ l,p l=true->x.v.ownBlock=some b->(r l).v.ownBlock=some b->False:=fun l hl e1 e2=>hx (.aV p r) sq (by simp[aK.wr]) b 0 e1 ⟨l,hl,e2⟩;rcases jA.1 hj with q1 | rfl
    ·rw[lE _ _ (gK j q1)]at h1;rcases jA.1 Eg with q2 | rfl
     ·rw[lE _ _ (gK k q2)]at h2;exact hf.2 j k b q1 q2 hjk h1 h2
     grind [Bg,xe]
    grind [jA,lE,Bg,xe]
  simp_all
 ·rcases har b o h1 with h3 | h3
  ·exact hx e (by simp[he]) (by simp[aK.wr]) b o h3 h2
  ·exact RF e he (by simp[aK.wr]) b o h3 h2
 ·rcases List.mem_cons.1 he with rfl | he
  ·rcases har b o hb with h3 | h3
   ·exact hm x.Ce sq rfl b o h3
   ·exact hm _ sq rfl b o h3
  grind
theorem XM.part{b o n off m:Nat}{C:Nat->Value}(hn:off+m<=n)(h:XM W S (.cells b o n C::H) w):XM W S (.cells b (o+off) m (fun i=>C (off+i)):: .cells b o off C:: .cells b (o+off+m) (n-off-m) (fun i=>C (off+m+i))::H) w:=by
 obtain⟨⟨hh,nS⟩,hk,hm⟩:=h;rw[List.pairwise_cons]at nS;obtain⟨A,t,lo,hi,h1,h2⟩:=hh (.cells b o n C) sq;have sub:∀ (o' n':Nat) (C':Nat->Value),o<=o'->o'+n'<=o+n->∀ b' i,(aK.cells b o' n' C').fT b' i->(aK.cells b o n C).fT b' i:=fun o' n' C' h3 h4 b' i ⟨e1,e2,e3⟩=>⟨e1,og,og⟩;have s1:=sub (o+off) m (fun i=>C (off+i)) og og;have s2:=sub o off C og og;have s3:=sub (o+off+m) (n-off-m) (fun i=>C (off+m+i)) og og;refine⟨⟨fun e he=> ?_,?_⟩,hk,fun e he hw b' i hb=> ?_⟩
 ·simp only[List.mem_cons]at he;rcases he with rfl | rfl | rfl | he
  ·refine⟨A,t,lo,hi,h1,fun i Ik=> ?_⟩;grind
  ·exact⟨A,t,lo,hi,h1,fun i Ik=>h2 i og⟩
  ·refine⟨A,t,lo,hi,h1,fun i Ik=> ?_⟩;grind
  simp_all
 ·refine List.pairwise_cons.2 ⟨fun e he _ b' i h3 h4=> ?_,List.pairwise_cons.2 ⟨fun e he _ b' i h3 h4=> ?_,List.pairwise_cons.2 ⟨fun e he _ b' i h3 h4=>nS.1 e he (by simp[aK.wr]) b' i (s3 b' i h3) h4,nS.2⟩⟩⟩
  ·simp only[List.mem_cons]at he;rcases he with rfl | rfl | he
   ·obtain⟨_,a1,a2⟩:=h3;obtain⟨_,a3,a4⟩:=h4;omega
   ·obtain⟨_,a1,a2⟩:=h3;obtain⟨_,a3,a4⟩:=h4;omega
   ·exact nS.1 e he (by simp[aK.wr]) b' i (s1 b' i h3) h4
  ·simp only[List.mem_cons]at he;rcases he with rfl | he
   ·obtain⟨_,a1,a2⟩:=h3;obtain⟨_,a3,a4⟩:=h4;omega
   ·exact nS.1 e he (by simp[aK.wr]) b' i (s2 b' i h3) h4
 ·simp only[List.mem_cons]at he;rcases he with rfl | rfl | rfl | he
  ·exact hm (.cells b o n C) sq rfl b' i (s1 b' i hb)
  ·exact hm (.cells b o n C) sq rfl b' i (s2 b' i hb)
  ·exact hm (.cells b o n C) sq rfl b' i (s3 b' i hb)
  grind
def XM.IM{b o n off m:Nat}{C C1 C2 C3:Nat->Value}(hn:off+m<=n)(e1:∀ i,i<off->C i=C1 i)(e2:∀ i,i<m->C (off+i)=C2 i)(e3:∀ i,i<n-off-m->C (off+m+i)=C3 i)(h:XM W S (.cells b (o+off) m C2:: .cells b o off C1:: .cells b (o+off+m) (n-off-m) C3::H) w)(hm0:0<m):XM W S (.cells b o n C::H) w:=by
 obtain⟨⟨hh,nS⟩,hk,hm⟩:=h;simp only[List.pairwise_cons]at nS;obtain⟨p1,p2,p3,p4⟩:=nS;obtain⟨A,t,lo,hi,h1,h2⟩:=hh (.cells b (o+off) m C2) sq;obtain⟨A',t',lo',Ik,h1',h2'⟩:=hh (.cells b o off C1) sq;obtain⟨A'',t'',akc,akd,aaR,agR⟩:=hh (.cells b (o+off+m) (n-off-m) C3) sq;rw[h1]at h1' aaR;simp only[Option.some.injEq,Obj.cells.injEq,Prod.mk.injEq]at h1' aaR;obtain⟨rfl,rfl,rfl,rfl⟩:=h1';obtain⟨rfl,rfl,rfl,rfl⟩:=aaR;have cut:∀ b' i,(aK.cells b o n C).fT b' i->(aK.cells b (o+off) m C2).fT b' i\/(aK.cells b o off C1).fT b' i\/(aK.cells b (o+off+m) (n-off-m) C3).fT b' i:=fun b' i ⟨q1,q2,q3⟩=>by
  by_cases c1:i<o+off
  ·exact .inr (.inl ⟨q1,q2,c1⟩)
  ·by_cases c2:i<o+off+m
   ·exact .inl ⟨q1,og,c2⟩
   ·exact .inr (.inr ⟨q1,og,og⟩)
 refine⟨⟨fun e he=> ?_,List.pairwise_cons.2 ⟨fun e he _ b' i h3 h4=> ?_,p4⟩⟩,hk,fun e he hw b' i hb=> ?_⟩
 ·rcases List.mem_cons.1 he with rfl | he
  ·refine⟨A,t,lo,hi,h1,fun i Pr=> ?_⟩;by_cases c1:i<off
   ·simp_all
   ·by_cases c2:i<off+m
    ·have:=h2 (i-off) og;grind
    ·have:=agR (i-off-m) og;grind
  simp_all
 ·rcases cut b' i h3 with h | h | h
  ·exact p1 e (by simp[he]) (by simp[aK.wr]) b' i h h4
  ·exact p2 e (by simp[he]) (by simp[aK.wr]) b' i h h4
  ·exact p3 e he (by simp[aK.wr]) b' i h h4
 ·rcases List.mem_cons.1 he with rfl | he
  ·rcases cut b' i hb with h | h | h
   ·exact hm _ sq rfl b' i h
   ·exact hm (.cells b o off C1) sq rfl b' i h
   ·exact hm (.cells b (o+off+m) (n-off-m) C3) sq rfl b' i h
  grind
def IP(C:Nat->Nat->Value)(i:Nat)(x:Nat->Value):Nat->Nat->Value:=fun j=>bif Nat.beq j i then x else C j
def Ep(g:Nat->Nat)(i b:Nat):Nat->Nat:=fun j=>bif Nat.beq j i then b else g j
theorem GS(C:Nat->Nat->Value)(i:Nat)(x:Nat->Value):IP C i x i=x:=by simp[IP]
theorem GU(C:Nat->Nat->Value){i j:Nat}(x:Nat->Value)(h:j≠i):IP C i x j=C j:=by simp[IP,WV h]
theorem Bx(g:Nat->Nat)(i b:Nat):Ep g i b i=b:=by simp[Ep]
theorem rj(g:Nat->Nat){i j:Nat}(b:Nat)(h:j≠i):Ep g i b j=g j:=by simp[Ep,WV h]
def Cf{p:Nat->Bool}{g:Nat->Nat}{n:Nat}{C:Nat->Nat->Value}(i:Nat)(hp:p i=true)(h:XM W S (.dN p g n C::H) w):XM W S (.cells (g i) 0 n (C i):: .dN (iS p i) g n C::H) w:=by
 obtain⟨⟨hh,nS⟩,hk,hm⟩:=h;rw[List.pairwise_cons]at nS;have hf:(aK.dN p g n C).holds w:=hh _ sq;have ha1:∀ b o,(aK.cells (g i) 0 n (C i)).fT b o->(aK.dN p g n C).fT b o:=fun b o ⟨e1,e2,e3⟩=>⟨i,hp,e1,og⟩;have ha2:∀ b o,(aK.dN (iS p i) g n C).fT b o->(aK.dN p g n C).fT b o:=fun b o ⟨j,hj,hb⟩=>⟨j,(jl.1 hj).1,hb⟩;refine⟨⟨fun e he=> ?_,List.pairwise_cons.2 ⟨fun e he _ b o h1 h2=> ?_,List.pairwise_cons.2 ⟨fun e he hw b o h1 h2=>nS.1 e he (by simp[aK.wr]) b o (ha2 b o h1) h2,nS.2⟩⟩⟩,hk,fun e he hw b o hb=> ?_⟩
 ·rcases List.mem_cons.1 he with rfl | he
  ·obtain⟨A,t,lo,hi,h1,h2⟩:=hf.1 i hp;exact⟨A,t,lo,hi,h1,fun j hj=>by rw[Nat.zero_add];exact h2 j hj⟩
  ·rcases List.mem_cons.1 he with rfl | he
   ·exact⟨fun j hj=>hf.1 j (jl.1 hj).1,fun j k hj hk=>hf.2 j k (jl.1 hj).1 (jl.1 hk).1⟩
   simp_all
 ·rcases List.mem_cons.1 he with rfl | he
  ·obtain⟨j,hj,hb,_⟩:=h2;have Lt:=jl.1 hj;exact hf.2 i j hp Lt.1 (Ne.symm Lt.2) (h1.1.symm.trans hb)
  ·exact nS.1 e he (by simp[aK.wr]) b o (ha1 b o h1) h2
 ·rcases List.mem_cons.1 he with rfl | he
  ·exact hm _ sq rfl b o (ha1 b o hb)
  ·rcases List.mem_cons.1 he with rfl | he
   ·exact hm (.dN p g n C) sq rfl b o (ha2 b o hb)
   grind
def Fc{p:Nat->Bool}{g:Nat->Nat}{n b0:Nat}{C:Nat->Nat->Value}{x:Nat->Value}(i:Nat)(hn:0<n)(hp:p i=false)(h:XM W S (.cells b0 0 n x:: .dN p g n C::H) w):XM W S (.dN (Bg p i) (Ep g i b0) n (IP C i x)::H) w:=by
 obtain⟨⟨hh,nS⟩,hk,hm⟩:=h;rw[List.pairwise_cons,List.pairwise_cons]at nS;obtain⟨hx,RF,Pc⟩:=nS;have hf:(aK.dN p g n C).holds w:=hh _ sq;have hc:(aK.cells b0 0 n x).holds w:=hh _ sq;have gK:∀ j,p j=true->j≠i:=fun j hj e=>by subst e;rw[hp]at hj;cases hj
 have hxb:∀ j,p j=true->g j≠b0:=fun j hj e=>hx (.dN p g n C) sq (by simp[aK.wr]) b0 0 ⟨rfl,og,og⟩ ⟨j,hj,e.symm,hn⟩;have har:∀ b o,(aK.dN (Bg p i) (Ep g i b0) n (IP C i x)).fT b o->(aK.cells b0 0 n x).fT b o\/(aK.dN p g n C).fT b o:=fun b o ⟨j,hj,hb,ho⟩=>by
  rcases jA.1 hj with h1 | rfl
  ·rw[rj _ _ (gK j h1)]at hb;exact .inr ⟨j,h1,hb,ho⟩
  ·rw[Bx]at hb;exact .inl ⟨hb,og,og⟩
 refine⟨⟨fun e he=> ?_,List.pairwise_cons.2 ⟨fun e he _ b o h1 h2=> ?_,Pc⟩⟩,hk,fun e he hw b o hb=> ?_⟩
 ·rcases List.mem_cons.1 he with rfl | he
  ·refine⟨fun j hj=> ?_,fun j k hj Eg hjk=> ?_⟩
   ·rcases jA.1 hj with h1 | rfl
    ·rw[rj _ _ (gK j h1),GU _ _ (gK j h1)];exact hf.1 j h1
    ·rw[Bx,GS];obtain⟨A,t,lo,hi,h1,h2⟩:=hc;grind
   ·rcases jA.1 hj with q1 | rfl
    ·rw[rj _ _ (gK j q1)];rcases jA.1 Eg with q2 | rfl
     ·rw[rj _ _ (gK k q2)];exact hf.2 j k q1 q2 hjk
     grind [Bg,Ep]
    grind [jA,rj,Bg,Ep]
  simp_all
 ·rcases har b o h1 with h3 | h3
  ·exact hx e (by simp[he]) (by simp[aK.wr]) b o h3 h2
  ·exact RF e he (by simp[aK.wr]) b o h3 h2
 ·rcases List.mem_cons.1 he with rfl | he
  ·rcases har b o hb with h3 | h3
   ·exact hm (.cells b0 0 n x) sq rfl b o h3
   ·exact hm _ sq rfl b o h3
  grind
def Cg{g:Nat->Nat}{n:Nat}{C:Nat->Nat->Value}(h:XM W S H w):XM W S (.dN (fun _=>false) g n C::H) w:=by
 obtain⟨⟨hh,nS⟩,hk,hm⟩:=h;refine⟨⟨fun e he=> ?_,List.pairwise_cons.2 ⟨fun e _ _ b o h1 _=> ?_,nS⟩⟩,hk,fun e he hw b o hb=> ?_⟩
 ·rcases List.mem_cons.1 he with rfl | he
  ·exact⟨fun i hi=>(by cases hi),fun i j hi=>(by cases hi)⟩
  simp_all
 ·obtain⟨i,hi,_⟩:=h1;cases hi
 ·rcases List.mem_cons.1 he with rfl | he
  ·obtain⟨i,hi,_⟩:=hb;cases hi
  grind
def Fe{r:Nat->pQ}(h:XM W S H w):XM W S (.aV (fun _=>false) r::H) w:=by
 obtain⟨⟨hh,nS⟩,hk,hm⟩:=h;refine⟨⟨fun e he=> ?_,List.pairwise_cons.2 ⟨fun e _ _ b o h1 _=> ?_,nS⟩⟩,hk,fun e he hw b o hb=> ?_⟩
 ·rcases List.mem_cons.1 he with rfl | he
  ·exact⟨fun i hi=>(by cases hi),fun i j b hi=>(by cases hi)⟩
  simp_all
 ·obtain⟨i,hi,_⟩:=h1;cases hi
 ·rcases List.mem_cons.1 he with rfl | he
  ·obtain⟨i,hi,_⟩:=hb;cases hi
  grind
end
end Go.X
