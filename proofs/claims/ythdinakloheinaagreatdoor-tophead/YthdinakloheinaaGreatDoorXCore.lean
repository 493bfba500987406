import Derived.KernelRfl
import Derived.WalkKit
import Derived.Deep.LoopGhost
import Derived.Orders
set_option linter.all false
namespace Go.X
variable{t:Bool}{c x y:Code}{fn:Func}{d i j k:Nat}{v:Value}
abbrev qT:Bool:=true
abbrev qF:Bool:=false
open Go
theorem og{p:Prop}(h:p:=by omega):p:=h
theorem sq{p:Prop}(h:p:=by simp):p:=h
theorem aq{p:Prop}(h:p:=by assumption):p:=h
def kq{p:Prop}(h:p:=by kernel_rfl):p:=h
theorem dq{p:Prop}(h:p:=by decide):p:=h
theorem dk{p:Prop}(h:p:=by decide+kernel):p:=h
abbrev PF:=List (Nat×Value)
def lk:PF->Nat->Option Value
 | [],_=>none
 | (i,v)::r,j=>bif Nat.beq i j then some v else lk r j
theorem Bh(i:Nat)(v:Value)(L:PF)(j:Nat):lk ((i,v)::L) j=if i=j then some v else lk L j:=by
 by_cases h:i=j
 ·subst h;simp[lk]
 ·have:Nat.beq i j=false:=by cases hb:Nat.beq i j with | false=>rfl | true=>exact absurd (Nat.eq_of_beq_eq_true hb) h
  simp[lk,this,h]
structure Fr where
 sz:Nat
 ds:List Deferred
 ps:List Nat
 cs:List (Nat×Nat)
abbrev fr(k:Nat)(ps:List Nat)(cs:List (Nat×Nat)):Fr:=⟨k,[],ps,cs⟩
def pd(n:Fr)(L:PF)(a:Act):Prop:=a.defers=n.ds/\a.tmps.size=n.sz/\∀ i v,lk L i=some v->a.tmps.getD i undef=v
def ev(L:PF):Operand->Option Value
 | .tmp t=>lk L t
 | .const v=>some v
 | .global g=>some (.pointer (some ⟨g,0,none⟩))
 | .func f=>some (.func (.func f) #[] #[])
theorem au{n:Fr}{L:PF}{a:Act}{x:Operand}(h:pd n L a)(hx:ev L x=some v):a.eval x=v:=by
 cases x with
 | tmp t=>exact h.2.2 t v hx
 | const c=>simpa [ev,Act.eval]using hx
 | global g=>simpa [ev,Act.eval]using hx
 | func f=>simpa [ev,Act.eval]using hx
theorem pd.put{n:Fr}{L:PF}{a:Act}{d:Nat}(h:pd n L a)(hd:Nat.blt d n.sz=true)(v:Value):pd n ((d,v)::L) (a.put (some d) v):=by
 have hd':d<n.sz:=by simpa using hd
 obtain⟨h1,h2,h3⟩:=h;refine⟨h1,by simpa [Act.put]using h2,fun i u hi=> ?_⟩;rw[Bh]at hi;by_cases hid:d=i
 ·subst hid;simp at hi;subst hi;simp[Act.put,h2,hd']
 ·simp only[hid,if_false]at hi;have:=h3 i u hi;simp only[Act.put,Array.getD_eq_getD_getElem?]at*;rw[Array.getElem?_setIfInBounds_ne hid];exact this
def Sub(L L':PF):Prop:=∀ i v,lk L' i=some v->lk L i=some v
def Sub.Wf{n:Fr}{L L':PF}{a:Act}(h:Sub L L')(hs:pd n L a):pd n L' a:=
 ⟨hs.1,hs.2.1,fun i v hi=>hs.2.2 i v (h i v hi)⟩
theorem Sub.nil(L:PF):Sub L []:=fun i v h=>by simp[lk]at h
def Sub.cons{L L':PF}(h:lk L i=some v)(hs:Sub L L'):Sub L ((i,v)::L'):=fun j u hj=>by
 rw[Bh]at hj;by_cases HW:i=j
 ·subst HW;simp at hj;subst hj;exact h
 ·simp only[HW,if_false]at hj;exact hs j u hj
section
variable {P:Program} {n:Fr} {Q:Exit->Act->World->Prop} {L L':PF} {M M':World->Prop}
def XC(P:Program)(n:Fr)(c:Code)(Q:Exit->Act->World->Prop)(L:PF)(M:World->Prop):Prop:=
 ∀ a w,pd n L a->M w->c.wp P Q a w
def XE(n:Fr)(Q:Exit->Act->World->Prop)(e:Exit)(L:PF)(M:World->Prop):Prop:=
 ∀ a w,pd n L a->M w->Q e a w
theorem XC.eG(L':PF)(hs:Sub L L')(h:XC P n c Q L' M):XC P n c Q L M:=fun a w ha hw=>h a w (hs.Wf ha) hw
theorem XC.mono(hm:∀ w,M w->M' w)(h:XC P n c Q L M'):XC P n c Q L M:=fun a w ha hw=>h a w ha (hm w hw)
theorem XE.mono{e:Exit}(hm:∀ w,M w->M' w)(h:XE n Q e L M'):XE n Q e L M:=fun a w ha hw=>h a w ha (hm w hw)
def XC.seq{x y:Code}(h:XC P n x (Exit.then (y.wp P Q) Q) L M):XC P n (.seq x y) Q L M:=fun a w ha hw=>wp_seq (h a w ha hw)
def XE.next{Q':Exit->Act->World->Prop}(h:XC P n y Q L M):XE n (Exit.then (y.wp P Q) Q') .normal L M:=h
def ra{K:Act->World->Prop}(h:XE n Q .ret L M):XE n (Exit.then K Q) .ret L M:=h
def pj{K:Act->World->Prop}(h:XE n Q (.exit i) L M):XE n (Exit.then K Q) (.exit i) L M:=h
def iH(h:XE n Q .normal L M):XE n (Exit.inBlock i Q) .normal L M:=h
def ll(h:XE n Q .ret L M):XE n (Exit.inBlock i Q) .ret L M:=h
def wI(h:XE n Q .normal L M):XE n (Exit.inBlock i Q) (.exit i) L M:=fun a w ha hw=>by
 simp only[Exit.inBlock,if_true];exact h a w ha hw
def D6(HW:Nat.beq j i=false)(h:XE n Q (.exit j) L M):XE n (Exit.inBlock i Q) (.exit j) L M:=fun a w ha hw=>by
 have:j≠i:=fun e=>by subst e;rw[Nat.beq_refl]at HW;cases HW
 simp only[Exit.inBlock,this,if_false];exact h a w ha hw
def XC.skip(h:XE n Q .normal L M):XC P n .skip Q L M:=fun a w ha hw=>wp_skip (h a w ha hw)
def XC.exit{i:Nat}(h:XE n Q (.exit i) L M):XC P n (.exit i) Q L M:=fun a w ha hw=>wp_exit (h a w ha hw)
def XC.ret(h:XE n Q .ret L M):XC P n .ret Q L M:=fun a w ha hw=>wp_ret (h a w ha hw)
theorem XC.block{i:Nat}{c:Code}(h:XC P n c (Exit.inBlock i Q) L M):XC P n (.block i c) Q L M:=fun a w ha hw=>wp_block (h a w ha hw)
def XC.cond{c:Operand}{x y:Code}{t:Bool}(hc:ev L c=some (.bool t))(ht:t=true->XC P n x Q L M)(hf:t=false->XC P n y Q L M):XC P n (.cond c x y) Q L M:=fun a w ha hw=>
 wp_cond_split (au ha hc) (fun h=>ht h a w ha hw) fun h=>hf h a w ha hw
def XC.MN{c:Operand}{p:Prop}[Decidable p](hc:ev L c=some (.bool (decide p)))(ht:p->XC P n x Q L M)(hf:¬p->XC P n y Q L M):
  XC P n (.cond c x y) Q L M:=XC.cond hc (fun h=>ht (of_decide_eq_true h)) fun h=>hf (of_decide_eq_false h)
def OD{c:Operand}{p:Prop}[Decidable p](hc:ev L c=some (.bool (decide p)))(h:p)(ht:XC P n x Q L M):
  XC P n (.cond c x y) Q L M:=XC.cond hc (fun _=>ht) fun q=>absurd h (of_decide_eq_false q)
def OE{c:Operand}{p:Prop}[Decidable p](hc:ev L c=some (.bool (decide p)))(h:¬p)(hf:XC P n y Q L M):
  XC P n (.cond c x y) Q L M:=XC.cond hc (fun q=>absurd (of_decide_eq_true q) h) fun _=>hf
def BG{c:Operand}(hc:ev L c=some (.bool t))(h:t=true)(ht:XC P n x Q L M):
  XC P n (.cond c x y) Q L M:=fun a w ha hw=>wp_cond (t:=t) (au ha hc) (by subst h;exact ht a w ha hw)
def BH{c:Operand}(hc:ev L c=some (.bool t))(h:t=false)(hf:XC P n y Q L M):
  XC P n (.cond c x y) Q L M:=fun a w ha hw=>wp_cond (t:=t) (au ha hc) (by subst h;exact hf a w ha hw)
theorem XC.loop{σ:Type}{c:Code}(m:σ->Nat)(V:σ->Prop)(I:σ->PF)(J:σ->World->Prop)(x₀:σ)(hv:V x₀)(h₀:Sub L (I x₀))(hj:∀ w,M w->J x₀ w)(round:∀ x,V x->XC P n c (Exit.then (fun a' w'=>∃ x',m x'<m x/\V x'/\pd n (I x') a'/\J x' w') Q) (I x) (J x)):XC P n (.loop c) Q L M:=fun a w ha hw=>by
 refine wp_loop_ghost (fun k a w=>∃ x,m x=k/\V x/\pd n (I x) a/\J x w) (m x₀) ⟨x₀,rfl,hv,h₀.Wf ha,hj w hw⟩ ?_;rintro k a w ⟨x,rfl,hV,hs,hJ⟩;refine wp_mono (round x hV a w hs hJ) ?_;intro e a' w' hq;cases e with
 | normal=>obtain⟨x',h1,h2,h3,h4⟩:=hq;exact⟨m x',h1,x',rfl,h2,h3,h4⟩
 | exit id=>exact hq
 | goto l=>exact hq
 | ret=>exact hq
 | panic ch=>exact hq
 | outgrown=>exact hq
def XE.again{σ:Type}{m:σ->Nat}{V:σ->Prop}{I:σ->PF}{J:σ->World->Prop}{x:σ}(x':σ)(hm:m x'<m x)(hv:V x')(hs:Sub L (I x'))(hj:∀ w,M w->J x' w):
  XE n (Exit.then (fun a' w'=>∃ x',m x'<m x/\V x'/\pd n (I x') a'/\J x' w') Q) .normal L M:=fun _ w ha hw=>⟨x',hm,hv,hs.Wf ha,hj w hw⟩
theorem XC.cut{d:Code}(L':PF)(M':World->Prop)(hc:XC P n c (Exit.then (fun a w=>pd n L' a/\M' w) Q) L M)(hd:XC P n d Q L' M'):XC P n (.seq c d) Q L M:=fun a w ha hw=>by
 refine wp_seq (wp_mono (hc a w ha hw) ?_);intro e a' w' hq;cases e with
 | normal=>exact hd a' w' hq.1 hq.2
 | exit id=>exact hq
 | goto l=>exact hq
 | ret=>exact hq
 | panic ch=>exact hq
 | outgrown=>exact hq
def Wg{K:PF}{M':World->Prop}(hs:Sub L K)(hm:∀ w,M w->M' w):XE n (Exit.then (fun a w=>pd n K a/\M' w) Q) .normal L M:=
 fun _ w ha hw=>⟨hs.Wf ha,hm w hw⟩
def XC.agj{σ:Type}{d:Code}(V:σ->Prop)(I:σ->PF)(J:σ->World->Prop)(hc:XC P n c (Exit.then (fun a w=>∃ x,V x/\pd n (I x) a/\J x w) Q) L M)(hd:∀ x,V x->XC P n d Q (I x) (J x)):XC P n (.seq c d) Q L M:=fun a w ha hw=>by
 refine wp_seq (wp_mono (hc a w ha hw) ?_);intro e a' w' hq;cases e with
 | normal=>obtain⟨x,h1,h2,h3⟩:=hq;exact hd x h1 a' w' h2 h3
 | exit id=>exact hq
 | goto l=>exact hq
 | ret=>exact hq
 | panic ch=>exact hq
 | outgrown=>exact hq
def Rk{σ:Type}{V:σ->Prop}{I:σ->PF}{J:σ->World->Prop}(x:σ)(hv:V x)(hs:Sub L (I x))(hj:∀ w,M w->J x w):
  XE n (Exit.then (fun a w=>∃ x,V x/\pd n (I x) a/\J x w) Q) .normal L M:=fun _ w ha hw=>⟨x,hv,hs.Wf ha,hj w hw⟩
def oD:Nat->List Value->PF
 | _,[]=>[]
 | i,v::r=>(i,v)::oD (i+1) r
def yK:∀ (l:List Value) (k i:Nat) (v:Value),lk (oD k l) i=some v->k<=i/\l[i-k]? =some v
 | [],_,_,_,h=>by simp[oD,lk]at h
 | x::r,k,i,v,h=>by
  simp only[oD]at h;rw[Bh]at h;by_cases hk:k=i
  ·subst hk;simp at h;subst h;simp
  ·simp only[hk,if_false]at h;obtain⟨h1,h2⟩:=yK r (k+1) i v h;refine⟨by omega,?_⟩;have:i-k=(i-(k+1))+1:=by omega
   rw[this];simpa using h2
theorem enter{ps:List Nat}{cs:List (Nat×Nat)}{f:FuncId}{args:List Value}{R:Ending->World->Prop}(hf:P.funcs[f]? =some fn)(hb:fn.body=some c)(hn:Nat.ble args.length fn.ntmps=true)(h:XC P (fr fn.ntmps ps cs) c (bodyPost P fn R) (oD 0 args) M){w:World}(hw:M w):Calls P f args.toArray w R:=by
 refine calls_of_wp hf hb (h _ w ⟨rfl,?_,?_⟩ hw)
 ·have:args.length<=fn.ntmps:=by simpa using hn
  simp;omega
 ·intro i v hi;obtain⟨_,h2⟩:=yK args 0 i v hi;have qi:i<args.length:=by
   rcases Nat.lt_or_ge i args.length with h' | h'
   ·exact h'
   ·rw[List.getElem?_eq_none (by simpa using h')]at h2;simp at h2
  have h3:args[i]? =some v:=by simpa using h2
  simp only[Array.getD_eq_getD_getElem?];rw[Array.getElem?_append_left (by simpa using qi)];simp[h3]
def bh{ps:List Nat}{cs:List (Nat×Nat)}{R:Ending->World->Prop}{t:Nat}(hr:fn.results= #[.tmp t])(hv:lk L t=some v)(h:∀ w,M w->R (.returned v) w):XE (fr k ps cs) (bodyPost P fn R) .ret L M:=fun a w ha hw=>
 ⟨ha.1,v,by rw[results_tmp hr];rw[ha.2.2 t v hv],h w hw⟩
def bC{ps:List Nat}{cs:List (Nat×Nat)}{R:Ending->World->Prop}{t u:Nat}{v':Value}(hr:fn.results= #[.tmp t,.tmp u])(hv:lk L t=some v)(hv':lk L u=some v')(h:∀ w,M w->R (.returned (.tuple #[v,v'])) w):XE (fr k ps cs) (bodyPost P fn R) .ret L M:=fun a w ha hw=>
 ⟨ha.1,.tuple #[v,v'],by rw[results_tmp2 hr];rw[ha.2.2 t v hv,ha.2.2 u v' hv'],h w hw⟩
def wJ{ps:List Nat}{cs:List (Nat×Nat)}{R:Ending->World->Prop}{t1 t2 t3:Nat}{v1 v2 v3:Value}(hr:fn.results= #[.tmp t1,.tmp t2,.tmp t3])(h1:lk L t1=some v1)(h2:lk L t2=some v2)(h3:lk L t3=some v3)(h:∀ w,M w->R (.returned (.tuple #[v1,v2,v3])) w):XE (fr k ps cs) (bodyPost P fn R) .ret L M:=fun a w ha hw=>
 ⟨ha.1,.tuple #[v1,v2,v3],by
  have:(results fn a.tmps).run P w= .ok (.tuple #[a.tmps.getD t1 undef,a.tmps.getD t2 undef,a.tmps.getD t3 undef]) w:=by simp[results,hr]
  rw[this,ha.2.2 _ _ h1,ha.2.2 _ _ h2,ha.2.2 _ _ h3],h w hw⟩
def cS{ps:List Nat}{cs:List (Nat×Nat)}{R:Ending->World->Prop}(hr:fn.results= #[])(h:∀ w,M w->R (.returned (.tuple #[])) w):
  XE (fr k ps cs) (bodyPost P fn R) .normal L M:=fun a w ha hw=>⟨ha.1,.tuple #[],by rw[results_none hr],h w hw⟩
def MO{ps:List Nat}{cs:List (Nat×Nat)}{R:Ending->World->Prop}(hr:fn.results= #[])(h:∀ w,M w->R (.returned (.tuple #[])) w):
  XE (fr k ps cs) (bodyPost P fn R) .ret L M:=fun a w ha hw=>⟨ha.1,.tuple #[],by rw[results_none hr],h w hw⟩
end
def HX(ops:Array Oper)(i:Nat):Nat->Nat->Bool
 | 0,s=>Nat.beq s i
 | k+1,s=>Nat.beq s i||match ops[s]? with
  | some o=>o.after.any fun e=>Region.binds .any e&&HX ops i k e.on
  | none=>false
def KV(l:Array Bool)(i:Nat):Prop:=l.getD i false=true
def nx(ops:Array Oper)(l:Array Bool):Prop:=∀ j o,ops[j]? =some o->KV l j->∀ e∈o.after,Region.binds .any e=true->KV l e.on
def BI{ops:Array Oper}{l:Array Bool}(hc:nx ops l){i:Nat} :∀ (k s:Nat),HX ops i k s=true->KV l s->KV l i
 | 0,s,h,hs=>by simp only[HX]at h;have:=Nat.eq_of_beq_eq_true h;subst this;exact hs
 | k+1,s,h,hs=>by
  simp only[HX,Bool.or_eq_true]at h;rcases h with h | h
  ·have:=Nat.eq_of_beq_eq_true h;subst this;exact hs
  ·cases ho:ops[s]? with
   | none=>simp[ho]at h
   | some o=>
    simp only[ho]at h;obtain⟨e,he,hb⟩:=Array.any_eq_true'.1 h;simp only[Bool.and_eq_true]at hb;exact BI hc k e.on hb.2 (hc s o ho hs e he hb.1)
def jO{ops:Array Oper}{l:Array Bool}(hc:nx ops l)(hi:i∈Region.ready .any ops l):nx ops (l.setIfInBounds i true):=by
 intro j o ho hj e he hb;by_cases Rl:i=j
 ·subst Rl;obtain⟨_,o',ho',KW⟩:=mem_ready.1 hi;rw[ho]at ho';cases ho';exact getD_set_true (KW e he hb)
 ·have:KV l j:=by unfold KV at*;rwa[getD_set_ne false Rl]at hj
  exact getD_set_true (hc j o ho this e he hb)
abbrev Ae:=List (List Nat×(World->Prop))
def JL:Ae->Array Bool->World->Prop
 | [],_,_=>True
 | p::r,l,w=>((∀ s∈p.1,¬KV l s)->p.2 w)/\JL r l w
theorem JL.kh:∀ (B:Ae) {l:Array Bool} {w:World} {i:Nat},JL B l w->JL B (l.setIfInBounds i true) w
 | [],_,_,_,_=>trivial
 | _::r,_,_,_,h=>⟨fun hs=>h.1 fun s hp hl=>hs s hp (getD_set_true hl),JL.kh r h.2⟩
def JL.HY:∀ (B:Ae) {l:Array Bool} {w:World} {i:Nat},(∀ p∈B,i∉p.1)->JL B (l.setIfInBounds i true) w->JL B l w
 | [],_,_,_,_,_=>trivial
 | p::r,l,w,i,hi,h=>⟨fun hs=>h.1 fun s hp hl=>hs s hp (by
   have:i≠s:=fun e=>hi p (by simp) (e▸hp)
   unfold KV at*;rwa[getD_set_ne false this]at hl),JL.HY r (fun q hq=>hi q (by simp[hq])) h.2⟩
section
variable {P:Program} {ops:Array Oper} {Q:Exit->Act->World->Prop}
def MP(Q:Exit->Act->World->Prop):Exit->Act->World->Prop:=fun e a w=>e= .normal/\Q .normal a w
def HM(P:Program)(ops:Array Oper)(Q:Exit->Act->World->Prop)(B:Ae):Nat->Array Bool->Act->World->Prop
 | 0,l,a,w=>JL B l w/\Region.ready .any ops l=[]/\Q .normal a w
 | f+1,l,a,w=>JL B l w/\(Region.ready .any ops l=[]->Q .normal a w)/\∀ i∈Region.ready .any ops l,wpOp P ops (MP Q) i (HM P ops Q B f (l.setIfInBounds i true)) a w
def HM.J{B:Ae} :∀ {f:Nat} {l:Array Bool} {a:Act} {w:World},HM P ops Q B f l a w->JL B l w
 | 0,_,_,_,h=>h.1
 | _+1,_,_,_,h=>h.1
def Af{o:Oper}{a:Act}{w:World}{K:Act->World->Prop}(h:o.wp P a w K (MP Q)):o.wp P a w K Q:=by
  unfold Oper.wp at*
  generalize (execOp a.eval o).run P w=r at*
  cases r with
  | ok n w'=>
    cases n<;>simp only[Oper.upon]at h ⊢ <;>
      first
        | exact h
        | (refine Calls.mono h (fun e w'' he=> ?_)
           cases e with
           | returned v=>exact he
           | panicked c=>exact absurd he.1 (by simp)
           | outgrown=>obtain⟨_,_,he⟩:=he;exact absurd he.1 (by simp))
  | halt x w'=>cases x<;>simp only[Oper.upon]at h ⊢ <;>first | exact h | exact absurd h.1 (by simp)
def Rm{a:Act}{w:World}{K:Act->World->Prop}(h:wpOp P ops (MP Q) i K a w):wpOp P ops Q i K a w:=by
 unfold wpOp at*;split
 ·rename_i ho;simpa [ho]using h
 ·rename_i o ho;simp only[ho]at h;split
  ·rename_i hw;simp only[hw,if_true]at h;rcases h with h | ⟨_,a',w',h⟩
   ·exact .inl (Af h)
   ·exact absurd h.1 (by simp)
  ·rename_i hw;simpa [hw]using h
def re{B:Ae} :∀ (f:Nat) (l:Array Bool) (a:Act) (w:World),HM P ops Q B f l a w->wpAny P .any ops Q f l a w
 | 0,_,_,_,h=>⟨h.2.1,h.2.2⟩
 | f+1,_,_,_,h=>⟨h.2.1,fun i hi=>Rm (wpOp_mono (fun a' w'=>re f _ a' w') (h.2.2 i hi))⟩
def YF(P:Program)(ops:Array Oper)(φ:World->Prop)(o:Oper)(v:Value)(a:Act):Prop:=
 (Region.wanted o (yielded ops a.tmps)=true/\∀ w,φ w->(execOp a.eval o).run P w= .ok (.value v) w)\/
 (Region.wanted o (yielded ops a.tmps)=false/\v=undef)
def YF.wpOp{φ:World->Prop}{i:Nat}{o:Oper}{v:Value}{a:Act}(hi:ops[i]? =some o)(hy:YF P ops φ o v a){K:Act->World->Prop}{w:World}(hw:φ w)(h:K (a.put o.dst v) w):wpOp P ops Q i K a w:=by
 unfold Go.wpOp;simp only[hi];rcases hy with⟨h1,hv⟩ | ⟨h1,rfl⟩
 ·simp only[h1,if_true,Oper.wp,hv w hw,Oper.upon];exact .inl h
 ·simp only[h1,Bool.false_eq_true,if_false];exact h
def YF.MQ{φ:World->Prop}{o:Oper}{a a':Act}(hy:YF P ops φ o v a)(he:execOp a'.eval o=execOp a.eval o)(hw:Region.wanted o (yielded ops a'.tmps)=Region.wanted o (yielded ops a.tmps)):YF P ops φ o v a':=by
 unfold YF at*;rw[he,hw];exact hy
def OF{φ:World->Prop}{oi oj:Oper}(hj:ops[j]? =some oj)(Rn:oi.apart ops oj=true)(hsi:∀ cs b,oi.op≠ .select cs b)(hsj:∀ cs b,oj.op≠ .select cs b){K:Act->World->Prop}{a:Act}{w:World}(hy:YF P ops φ oi v a)(h:wpOp P ops (MP Q) j K (a.put oi.dst v) w):wpOp P ops (MP Q) j (fun a' w'=>YF P ops φ oi v a'/\K (a'.put oi.dst v) w') a w:=by
 obtain⟨h1,h2,h3⟩:=Oper.apart_spec Rn;have eG:∀ (a:Act),YF P ops φ oi v a->∀ u,YF P ops φ oi v (a.put oj.dst u):=fun a hy u=>
  hy.MQ (execOp_put oi hsi a oj.dst u h3) (wanted_put oi a oj.dst u h3)
 have adJ:∀ d,YF P ops φ oi v {a with defers:=d::a.defers} :=fun d=>hy.MQ rfl rfl;unfold wpOp at*;simp only[hj]at*;rw[wanted_put oj a oi.dst v h1]at h;split
 ·rename_i hw;simp only[hw,if_true]at h;rcases h with h | ⟨_,a',w',hq⟩;case inr=>exact absurd hq.1 (by simp)
  refine .inl ?_;unfold Oper.wp at*;rw[execOp_put oj hsj a oi.dst v h1]at h;generalize (execOp a.eval oj).run P w=r at*;cases r with
  | ok n w'=>
   cases n<;>simp only[Oper.upon]at h ⊢;case value u=>exact⟨eG a hy u,by rw[<-Act.put_comm a v u h2];exact h⟩
   case skip=>exact⟨eG a hy _,by rw[<-Act.put_comm a v undef h2];exact h⟩
   case defer d=>
    refine⟨eG _ (adJ d) _,?_⟩;rw[<-Act.put_comm _ v undef h2,<-Act.put_defers];exact h
   case enter f args=>
    refine Calls.mono h fun e w'' he=> ?_;cases e with
    | returned u=>exact⟨eG a hy u,by rw[<-Act.put_comm a v u h2];exact he⟩
    | panicked c=>exact absurd he.1 (by simp)
    | outgrown=>exact he
   case row row args=>exact Rows.mono h fun u w'' he=>⟨eG a hy u,by rw[<-Act.put_comm a v u h2];exact he⟩
  | halt x w'=>
   cases x<;>simp only[Oper.upon]at h ⊢;case panic u=>exact absurd h.1 (by simp)
 ·rename_i hw;simp only[hw]at h;exact⟨eG a hy _,by rw[<-Act.put_comm a v undef h2];exact h⟩
def yL{B:Ae}{φ:World->Prop}{T:List Nat}{oi:Oper}(hi:ops[i]? =some oi)(adK:∀ (j:Nat) (o:Oper) cs b,ops[j]? =some o->o.op≠ .select cs b)(hT:∀ s∈T,∃ k,HX ops i k s=true)(hTi:i∉T)(hB:∀ p∈B,i∉p.1):∀ (fuel:Nat) (l:Array Bool) (a:Act) (w:World),nx ops l->(∀ j oj,ops[j]? =some oj->j≠i->l.getD j true=false->(∀ e∈oj.after,Region.binds .any e=true->e.on≠i)->oi.apart ops oj=true)->i∈Region.ready .any ops l->YF P ops φ oi v a->HM P ops Q ((T,φ)::B) fuel (l.setIfInBounds i true) (a.put oi.dst v) w->HM P ops Q B (fuel+1) l a w:=by
 have drop:∀ (f:Nat) (l:Array Bool) (a:Act) (w:World),HM P ops Q ((T,φ)::B) f l a w->HM P ops Q B f l a w:=by
  intro f;induction f with
  | zero=>intro l a w h;exact⟨h.1.2,h.2.1,h.2.2⟩
  | succ f ih=>intro l a w h;exact⟨h.1.2,h.2.1,fun j hj=>wpOp_mono (fun a' w'=>ih _ a' w') (h.2.2 j hj)⟩
 have ofJ:∀ (l:Array Bool) (w:World),nx ops l->i∈Region.ready .any ops l->JL ((T,φ)::B) (l.setIfInBounds i true) w->φ w/\JL B l w:=by
  intro l w hc hr h;refine⟨h.1 fun s hs hl=> ?_,JL.HY B hB h.2⟩;have hni:¬KV l i:=by
   have h0:=(mem_ready.1 hr).1;unfold KV;intro h1;rcases Nat.lt_or_ge i l.size with h' | h'
   ·simp[h']at h0 h1;rw[h0]at h1;cases h1
   ·simp[Array.getElem?_eq_none h']at h1
  obtain⟨k,hk⟩:=hT s hs;have vH:i≠s:=fun e=>hTi (e▸hs);have:KV l s:=by unfold KV at*;rwa[getD_set_ne false vH]at hl
  exact hni (BI hc k s hk this)
 intro fuel;induction fuel with
 | zero=>
  intro l a w hc _ hr hy H;obtain⟨hφ,hJ⟩:=ofJ l w hc hr H.J;refine⟨hJ,fun h=>(by rw[h]at hr;cases hr),fun j hj=> ?_⟩;by_cases Rl:j=i
  ·subst Rl;exact hy.wpOp hi hφ (drop _ _ _ _ H)
  ·have:=ready_mono hj Rl;rw[H.2.1]at this;cases this
 | succ fuel ih=>
  intro l a w hc Zj hr hy H;obtain⟨hφ,hJ⟩:=ofJ l w hc hr H.J;refine⟨hJ,fun h=>(by rw[h]at hr;cases hr),fun j hj=> ?_⟩;by_cases Rl:j=i
  ·subst Rl;exact hy.wpOp hi hφ (drop _ _ _ _ H)
  ·have h1:=H.2.2 j (ready_mono hj Rl);obtain⟨adL,oj,hoj,KW⟩:=mem_ready.1 hj;have agm:∀ e∈oj.after,Region.binds .any e=true->e.on≠i:=fun e he hb heq=>by
    have h1:=KW e he hb;have h0:=(mem_ready.1 hr).1;rw[heq]at h1;rcases Nat.lt_or_ge i l.size with h' | h'
    ·simp[h']at h0 h1;rw[h0]at h1;cases h1
    ·simp[Array.getElem?_eq_none h']at h1
   have h2:=OF hoj (Zj j oj hoj Rl adL agm) (fun cs b=>adK i oi cs b hi) (fun cs b=>adK j oj cs b hoj) hy h1;have aai:∀ k ok,ops[k]? =some ok->k≠i->(l.setIfInBounds j true).getD k true=false->
     (∀ e∈ok.after,Region.binds .any e=true->e.on≠i)->oi.apart ops ok=true:=fun k ok hk hki Wh wK=>by
    refine Zj k ok hk hki ?_ wK;by_cases Zk:j=k
    ·subst Zk;exact adL
    ·rw[getD_set_ne true Zk]at Wh;exact Wh
   refine wpOp_mono (fun a' w' h3=>ih (l.setIfInBounds j true) a' w' (jO hc hj) aai (ready_mono hr (Ne.symm Rl)) h3.1 ?_) h2;rw[Array.setIfInBounds_comm _ _ Rl];exact h3.2
def sR(ops:Array Oper)(n:Nat):nx ops (Array.replicate n false):=by
 intro j o _ h;unfold KV at h;by_cases hj:j<n
 ·simp[hj]at h
 ·simp[hj]at h
end
def cI:Op->Bool
 | .alloc _=>true
 | .box _ _=>true
 | .buildSlice _ _ _=>true
 | .store _ _ _=>true
 | .insert _ _ _ _=>true
 | .makeMap _ _=>true
 | .makeChan _ _=>true
 | .makeSlice _ _ _=>true
 | .mapUpdate _ _ _ _=>true
 | .mapEntry _ _ _=>true
 | .entryStore _ _ _ _=>true
 | .range _ _=>true
 | .next _ _=>true
 | .entry _=>true
 | .go _=>true
 | .defer _=>true
 | .panic _=>true
 | .send _ _=>true
 | .recv _ _ _=>true
 | .select _ _=>true
 | .ready _=>true
 | .waits _=>true
 | .call ⟨.builtin b,_,_⟩=>match b with
  | .len=>false
  | .cap=>false
  | .min=>false
  | .max=>false
  | _=>true
 | .call _=>true
 | _=>false
def isR:Op->Bool
 | .load _ _=>true
 | .convert _ _ _=>true
 | .lookup _ _ _ _=>true
 | _=>false
def Zl(ops:Array Oper)(i:Nat):Bool:=match ops[i]? with
 | some o=>cI o.op
 | none=>false
def yM(ops:Array Oper)(l:Array Bool)(i:Nat):Bool:=Region.noSelect ops&&Region.free .any ops l i&&(Region.ready .any ops l).contains i
def Wj(ops:Array Oper):Array Bool->List Nat->Bool
 | l,[]=>(Region.ready .any ops l).isEmpty
 | l,i::r=>(match ops[i]? with
  | none=>false
  | some o=>if cI o.op then Region.ready .any ops l==[i]else yM ops l i&&(!isR o.op||r.all fun s=> !Zl ops s||HX ops i ops.size s))&&Wj ops (l.setIfInBounds i true) r
def adM(ops:Array Oper)(a:Act):List Oper->List Nat->Prop
 | [],[]=>True
 | o::l,i::r=>(ops[i]? =some o\/∃ o',ops[i]? =some o'/\o= {o' with guard:=none} /\Region.wanted o' (yielded ops a.tmps)=true)/\l.map some=r.map (ops[·]?)
 | _,_=>False
structure Ro (ops:Array Oper) (B:Ae) (r:List Nat):Prop where
 h1:∀ p∈B,∀ j∈r,Zl ops j=true->j∈p.1
 h2:∀ p∈B,∀ s∈p.1,Zl ops s=true
theorem Ro.tail{ops:Array Oper}{B:Ae}{r:List Nat}(h:Ro ops B (i::r)):Ro ops B r:=⟨fun p hp j hj=>h.h1 p hp j (List.mem_cons_of_mem _ hj),h.h2⟩
def na{ops:Array Oper}(a:Act):∀ {l:List Oper} {r:List Nat},l.map some=r.map (ops[·]?)->adM ops a l r
 | [],[],_=>trivial
 | [],_::_,h=>by simp at h
 | _::_,[],h=>by simp at h
 | o::l,i::r,h=>by
  simp only[List.map_cons,List.cons.injEq]at h;exact⟨.inl h.1.symm,h.2⟩
inductive Md where
 | cl (ops:Array Oper)
 | op (ops:Array Oper)
def Md.a:Md->Array Oper
 | .cl o=>o
 | .op o=>o
def KO(P:Program)(Q:Exit->Act->World->Prop):Md->List Oper->Act->World->Prop
 | .cl ops,l,a,w=>wpList P ops Q l a w
 | .op ops,l,a,w=>∀ (r:List Nat) (s:Array Bool) (B:Ae),adM ops a l r->Wj ops s r=true->nx ops s->Ro ops B r->JL B s w->HM P ops Q B r.length s a w
section
variable {P:Program} {Q:Exit->Act->World->Prop} {md:Md} {bU:List Oper} {a:Act} {w:World}
def HZ{ops:Array Oper}{s:Array Bool}(h:i∈Region.ready .any ops s):i<s.size:=by
 have h0:=(mem_ready.1 h).1;rcases Nat.lt_or_ge i s.size with h' | h'
 ·exact h'
 ·simp[Array.getElem?_eq_none h']at h0
def Wl{s:Array Bool}(h:i<s.size):KV (s.setIfInBounds i true) i:=by
 unfold KV;simp[h]
def EL{ops:Array Oper}{s:Array Bool}{i:Nat}(hs:i<s.size):∀ {B:Ae} (w:World),(∀ p∈B,i∈p.1)->JL B (s.setIfInBounds i true) w
 | [],_,_=>trivial
 | p::r,w,h=>⟨fun hn=>absurd (Wl hs) (hn i (h p (by simp))),EL (ops:=ops) hs w fun q hq=>h q (by simp[hq])⟩
theorem KO.nil(h:Q .normal a w):KO P Q md [] a w:=by
 cases md with
 | cl ops=>exact h
 | op ops=>
  intro r s B hf hz hc hs hJ;cases r with
  | cons _ _=>exact hf.elim
  | nil=>
   simp only[Wj,List.isEmpty_iff]at hz;exact⟨hJ,hz,h⟩
def Rp{o:Oper}{K:Act->World->Prop}(h:Oper.wp P {o with guard:=none} a w K (MP Q)):o.wp P a w K (MP Q):=h
def KO.eff{o:Oper}(he:cI o.op=true)(hg:o.guard=none)(h:o.wp P a w (KO P Q md bU) (MP Q)):KO P Q md (o::bU) a w:=by
 cases md with
 | cl ops=>
  show wpList P ops Q (o::bU) a w;unfold wpList;rw[if_pos (by simp[Region.wanted,hg])];exact .inl (Af h)
 | op ops=>
  intro r s B hf hz hc hs hJ;cases r with
  | nil=>exact hf.elim
  | cons i r=>
   obtain⟨h1,h2⟩:=hf;have ho:∃ o',ops[i]? =some o'/\o'.op=o.op/\(∀ K,o.wp P a w K (MP Q)->o'.wp P a w K (MP Q))/\Region.wanted o' (yielded ops a.tmps)=true:=by
    rcases h1 with h1 | ⟨o',h1,rfl,h3⟩
    ·exact⟨o,h1,rfl,fun _ h=>h,by simp[Region.wanted,hg]⟩
    ·exact⟨o',h1,rfl,fun _ h=>Rp h,h3⟩
   obtain⟨o',ho,hop,hwp,hw⟩:=ho;simp only[Wj,ho,hop,he,if_true,Bool.and_eq_true,beq_iff_eq]at hz;have hr:i∈Region.ready .any ops s:=by rw[hz.1];simp
   have ago:Zl ops i=true:=by simp only[Zl,ho,hop,he]
   refine⟨hJ,fun h0=>(by rw[hz.1]at h0;cases h0),fun j hj=> ?_⟩;rw[hz.1]at hj;have:j=i:=by simpa using hj
   subst this;unfold wpOp;simp only[ho];rw[if_pos hw];refine .inl (Oper.wp_mono (fun a' w' hk=> ?_) (hwp _ h));exact hk r _ B (na a' h2) hz.2 (jO hc hr) hs.tail (EL (ops:=ops) (HZ hr) w' fun p hp=>hs.h1 p hp j (by simp) ago)
def KO.EM{ops:Array Oper}{r:List Nat}{s:Array Bool}{B:Ae}{o:Oper}(φ:World->Prop)(ho:ops[i]? =some o)(va:o.dst=some d)(he:cI o.op=false)(hφ:isR o.op=true\/∀ w,φ w)(hw:φ w)(hm:bU.map some=r.map (ops[·]?))(hz:Wj ops s (i::r)=true)(hc:nx ops s)(hs:Ro ops B (i::r))(hJ:JL B s w)(hv:YF P ops φ o v a)(h:KO P Q (.op ops) bU (a.put (some d) v) w):HM P ops Q B (r.length+1) s a w:=by
 simp only[Wj,ho,he,yM,Bool.and_eq_true,Bool.false_eq_true,if_false]at hz;obtain⟨⟨⟨⟨h1,h2⟩,h3⟩,h4⟩,h5⟩:=hz;have hr:i∈Region.ready .any ops s:=by simpa using h3
 have fM:∀ j,Zl ops j=true->j≠i:=fun j hj e=>by subst e;simp only[Zl,ho,he]at hj;cases hj
 have hBi:∀ p∈B,i∉p.1:=fun p hp hi=>fM i (hs.h2 p hp i hi) rfl;have drop:∀ (φ':World->Prop) (T:List Nat) (f:Nat) (l:Array Bool) (a:Act) (w:World),HM P ops Q B f l a w->(∀ w,φ' w)->HM P ops Q ((T,φ')::B) f l a w:=by
  intro φ' T f;induction f with
  | zero=>intro l a w h hp;exact⟨⟨fun _=>hp w,h.1⟩,h.2.1,h.2.2⟩
  | succ f ih=>intro l a w h hp;exact⟨⟨fun _=>hp w,h.1⟩,h.2.1,fun j hj=>wpOp_mono (fun a' w' hk=>ih _ a' w' hk hp) (h.2.2 j hj)⟩
 rcases hφ with hR | hφ
 ·refine yL (T:=r.filter (Zl ops)) (φ:=φ) ho (Region.noSelect_spec h1) (fun x hx=>⟨ops.size,?_⟩) (fun hi=> ?_) hBi r.length s a w hc (Region.free_spec ho h2) hr hv ?_
  ·simp only[List.mem_filter]at hx;simp only[hR,Bool.not_true,Bool.false_or]at h4;have:=List.all_eq_true.1 h4 x hx.1;simpa [hx.2]using this
  ·simp only[List.mem_filter]at hi;exact fM i hi.2 rfl
  ·rw[va];refine h r _ _ (na _ hm) h5 (jO hc hr) ⟨fun p hp j hj hje=> ?_,fun p hp x hx=> ?_⟩ ⟨fun _=>hw,JL.kh B hJ⟩
   ·rcases List.mem_cons.1 hp with rfl | hp
    ·exact List.mem_filter.2 ⟨hj,hje⟩
    ·exact hs.tail.h1 p hp j hj hje
   ·rcases List.mem_cons.1 hp with rfl | hp
    ·exact(List.mem_filter.1 hx).2
    ·exact hs.h2 p hp x hx
 ·refine yL (T:=[]) (φ:=φ) ho (Region.noSelect_spec h1) (fun x hx=>by cases hx) (by simp) hBi r.length s a w hc (Region.free_spec ho h2) hr hv ?_;rw[va];exact drop φ [] _ _ _ _ (h r _ B (na _ hm) h5 (jO hc hr) hs.tail (JL.kh B hJ)) hφ
theorem KO.val{o:Oper}(φ:World->Prop)(he:cI o.op=false)(hφ:isR o.op=true\/∀ w,φ w)(hg:o.guard=none)(va:o.dst=some d)(hw:φ w)(hv:∀ w,φ w->(execOp a.eval o).run P w= .ok (.value v) w)(h:KO P Q md bU (a.put (some d) v) w):KO P Q md (o::bU) a w:=by
 cases md with
 | cl ops=>
  show wpList P ops Q (o::bU) a w;unfold wpList;rw[if_pos (by simp[Region.wanted,hg])];refine .inl ?_;unfold Oper.wp;rw[hv w hw];rw[<-va]at h;exact h
 | op ops=>
  intro r s B hf hz hc hs hJ;cases r with
  | nil=>exact hf.elim
  | cons i r=>
   obtain⟨h1,h2⟩:=hf;rcases h1 with h1 | ⟨o',h1,rfl,h3⟩
   ·exact KO.EM φ h1 va he hφ hw h2 hz hc hs hJ (.inl ⟨by simp[Region.wanted,hg],hv⟩) h
   ·exact KO.EM φ h1 va he hφ hw h2 hz hc hs hJ (.inl ⟨h3,hv⟩) h
def KO.wL{o:Oper}(hw:Region.wanted o (yielded md.a a.tmps)=true)(h:KO P Q md ({o with guard:=none} ::bU) a w):KO P Q md (o::bU) a w:=by
 cases md with
 | cl ops=>
  have hw:Region.wanted o (yielded ops a.tmps)=true:=hw;have h':wpList P ops Q ({o with guard:=none} ::bU) a w:=h;show wpList P ops Q (o::bU) a w;unfold wpList at h' ⊢;rw[if_pos (by simp[Region.wanted])]at h';rw[if_pos hw];exact h'
 | op ops=>
  intro r s B hf hz hc hs hJ;cases r with
  | nil=>exact hf.elim
  | cons i r=>
   refine h (i::r) s B ⟨?_,hf.2⟩ hz hc hs hJ;rcases hf.1 with h1 | ⟨o',h1,rfl,h3⟩
   ·exact .inr ⟨o,h1,rfl,hw⟩
   ·exact .inr ⟨o',h1,rfl,h3⟩
def KO.qj{o:Oper}(hw:¬Region.wanted o (yielded md.a a.tmps)=true)(va:o.dst=some d)(h:KO P Q md bU (a.put (some d) undef) w):KO P Q md (o::bU) a w:=by
 cases md with
 | cl ops=>
  have hw:¬Region.wanted o (yielded ops a.tmps)=true:=hw;show wpList P ops Q (o::bU) a w;unfold wpList;rw[if_neg hw,va];exact h
 | op ops=>
  have hw:¬Region.wanted o (yielded ops a.tmps)=true:=hw;intro r s B hf hz hc hs hJ;cases r with
  | nil=>exact hf.elim
  | cons i r=>
   have hg:¬o.guard=none:=fun e=>hw (by simp[Region.wanted,e]);have h1:ops[i]? =some o:=by
    rcases hf.1 with h1 | ⟨o',h1,rfl,h3⟩
    ·exact h1
    ·exact absurd rfl hg
   cases he:cI o.op with
   | false=>exact KO.EM (fun _=>True) h1 va he (.inr fun _=>trivial) trivial hf.2 hz hc hs hJ (.inr ⟨by simpa using hw,rfl⟩) h
   | true=>
    simp only[Wj,h1,he,if_true,Bool.and_eq_true,beq_iff_eq]at hz;have hr:i∈Region.ready .any ops s:=by rw[hz.1];simp
    refine⟨hJ,fun h0=>(by rw[hz.1]at h0;cases h0),fun j hj=> ?_⟩;rw[hz.1]at hj;have:j=i:=by simpa using hj
    subst this;unfold wpOp;simp only[h1];rw[if_neg hw,va];exact h r _ B (na _ hf.2) hz.2 (jO hc hr) hs.tail (JL.kh B hJ)
end
section
variable {P:Program} {n:Fr} {Q:Exit->Act->World->Prop} {L L':PF} {M M':World->Prop} {ops:Md} {bU l:List Oper}
def XO(P:Program)(n:Fr)(ops:Md)(Q:Exit->Act->World->Prop)(l:List Oper)(L:PF)(M:World->Prop):Prop:=
 ∀ a w,pd n L a->M w->KO P Q ops l a w
theorem XO.mono(hm:∀ w,M w->M' w)(h:XO P n ops Q l L M'):XO P n ops Q l L M:=fun a w ha hw=>h a w ha (hm w hw)
theorem XO.eG(L':PF)(hs:Sub L L')(h:XO P n ops Q l L' M):XO P n ops Q l L M:=fun a w ha hw=>h a w (hs.Wf ha) hw
def XC.region{i:Nat}{l:List Oper}(h:XO P n (.cl l.toArray) Q l L M):XC P n (.region i l.toArray false) Q L M:=fun a w ha hw=>wp_region_lit (h a w ha hw)
def MR(os:List Oper)(r:List Nat):List Oper:=r.filterMap (os[·]?)
def XC.rq{os:List Oper}(r:List Nat)(hm:P.follows .mixedOrders=true)(hz:(Wj os.toArray (Array.replicate os.length false) r&&Nat.beq r.length os.length&&r.all (Nat.blt · os.length))=true)(hM:∀ w k,M w->M {w with drawn:=w.drawn+k})(h:XO P n (.op os.toArray) Q (MR os r) L M):XC P n (.region i os.toArray true) Q L M:=fun a w ha hw=>by
 simp only[Bool.and_eq_true]at hz;obtain⟨⟨h1,h2⟩,h3⟩:=hz;refine wp_region_any hm ?_;have hf:(MR os r).map some=r.map (os.toArray[·]?):=by
  have h3':∀ x∈r,x<os.length:=fun x hx=>by
   have:=List.all_eq_true.1 h3 x hx;simpa using this
  clear h1 h2 h3 h;unfold MR;induction r with
  | nil=>rfl
  | cons x r ih=>
   have hx:x<os.length:=h3' x (by simp);have e:os[x]? =some os[x]:=List.getElem?_eq_getElem hx;rw[List.filterMap_cons_some e,List.map_cons,List.map_cons,ih fun y hy=>h3' y (by simp[hy])];simp[e]
 have:=re _ _ _ _ (h a _ ha (hM w 1 hw) r _ [] (na a hf) h1 (sR _ _) ⟨by simp,by simp⟩ trivial);have e2:r.length=os.length:=Nat.eq_of_beq_eq_true h2;rw[e2]at this;simpa using this
theorem XO.nil(h:XE n Q .normal L M):XO P n ops Q [] L M:=fun a w ha hw=>KO.nil (h a w ha hw)
def XO.op{o:Oper}(hg:(o.guard.isNone&&cI o.op)=true)(h:∀ a w,pd n L a->M w->o.wp P a w (KO P Q ops bU) (MP Q)):XO P n ops Q (o::bU) L M:=fun a w ha hw=>by
 simp only[Bool.and_eq_true,Option.isNone_iff_eq_none]at hg;exact KO.eff hg.2 hg.1 (h a w ha hw)
def XO.agp{op:Op}{ty:TypeId}{pos:String}{af:Array Edge}(hd:(Nat.blt d n.sz&&(!cI op&&isR op))=true)(hv:∀ a w,pd n L a->M w->(execOp a.eval ⟨some d,op,ty,pos,af,none⟩).run P w= .ok (.value v) w)(h:XO P n ops Q bU ((d,v)::L) M):XO P n ops Q (⟨some d,op,ty,pos,af,none⟩::bU) L M:=fun a w ha hw=>by
 simp only[Bool.and_eq_true,Bool.not_eq_true']at hd;exact KO.val M hd.2.1 (.inl hd.2.2) rfl rfl hw (fun w hw=>hv a w ha hw) (h _ w (ha.put hd.1 v) hw)
theorem XO.val{d:Nat}{op:Op}{ty:TypeId}{pos:String}{af:Array Edge}{v:Value}(hd:(Nat.blt d n.sz&& !cI op)=true)(hv:∀ a w,pd n L a->(execOp a.eval ⟨some d,op,ty,pos,af,none⟩).run P w= .ok (.value v) w)(h:XO P n ops Q bU ((d,v)::L) M):XO P n ops Q (⟨some d,op,ty,pos,af,none⟩::bU) L M:=fun a w ha hw=>by
 simp only[Bool.and_eq_true,Bool.not_eq_true']at hd;exact KO.val (fun _=>True) hd.2 (.inr fun _=>trivial) rfl rfl trivial (fun w _=>hv a w ha) (h _ w (ha.put hd.1 v) hw)
theorem MU{a:Act}{o:Oper}{as:Array Oper}{dj:Nat}{want b:Bool}(hg:o.guard=some (j,want))(hj:(as[j]?).bind (·.dst)=some dj)(ha:pd n L a)(hl:lk L dj=some (.bool b)):Region.wanted o (yielded as a.tmps)=(b==want):=by
 have hy:=ha.2.2 dj _ hl;simp only[Region.wanted,hg,yielded,hj];simp only[Array.getD_eq_getD_getElem?]at hy;cases hx:a.tmps[dj]? with
 | none=>rw[hx]at hy;simp[undef]at hy
 | some u=>rw[hx]at hy;simp at hy;subst hy;cases b<;>cases want<;>simp[hx]
def XO.wL{o:Oper}{j dj:Nat}{want:Bool}(hg:o.guard=some (j,want))(hj:(ops.a[j]?).bind (·.dst)=some dj)(hl:lk L dj=some (.bool want))(h:XO P n ops Q ({o with guard:=none} ::bU) L M):XO P n ops Q (o::bU) L M:=fun a w ha hw=>
 KO.wL (by rw[MU hg hj ha hl];simp) (h a w ha hw)
def XO.qj{o:Oper}{j dj d:Nat}{want:Bool}(hg:o.guard=some (j,want))(va:o.dst=some d)(hd:Nat.blt d n.sz=true)(hj:(ops.a[j]?).bind (·.dst)=some dj)(hl:lk L dj=some (.bool (!want)))(h:XO P n ops Q bU ((d,undef)::L) M):XO P n ops Q (o::bU) L M:=fun a w ha hw=>
 KO.qj (by rw[MU hg hj ha hl];cases want<;>simp) va (h _ w (ha.put hd undef) hw)
def D7{o:Oper}{dj:Nat}{want:Bool}(hg:o.guard=some (j,want))(va:o.dst=some d)(hd:Nat.blt d n.sz=true)(hj:(ops.a[j]?).bind (·.dst)=some dj)(hl:lk L dj=some undef)(h:XO P n ops Q bU ((d,undef)::L) M):XO P n ops Q (o::bU) L M:=fun a w ha hw=>by
 refine KO.qj ?_ va (h _ w (ha.put hd undef) hw);have hy:=ha.2.2 dj _ hl;simp only[Region.wanted,hg,yielded,hj];simp only[Array.getD_eq_getD_getElem?]at hy;cases hx:a.tmps[dj]? with
 | none=>simp[hx]
 | some u=>rw[hx]at hy;simp at hy;subst hy;simp[hx,undef]
theorem XO.split{l:List Oper}(hl:lk L d=some (.bool t))(ht:t=true->XO P n ops Q l ((d,.bool true)::L) M)(hf:t=false->XO P n ops Q l ((d,.bool false)::L) M):XO P n ops Q l L M:=by
 cases t
 ·refine XO.eG _ (Sub.cons hl ?_) (hf rfl);exact fun i v h=>h
 ·refine XO.eG _ (Sub.cons hl ?_) (ht rfl);exact fun i v h=>h
def XO.aaj{l:List Oper}{p:Prop}[Decidable p](hl:lk L d=some (.bool (decide p)))(ht:p->XO P n ops Q l ((d,.bool true)::L) M)
  (hf:¬p->XO P n ops Q l ((d,.bool false)::L) M):XO P n ops Q l L M:=XO.split hl (fun h=>ht (of_decide_eq_true h)) fun h=>hf (of_decide_eq_false h)
def XO.aak{l:List Oper}{p:Prop}[Decidable p](hl:lk L d=some (.bool (decide p)))(h:p)(ht:XO P n ops Q l ((d,.bool true)::L) M):XO P n ops Q l L M:=
 XO.split hl (fun _=>ht) fun q=>absurd h (of_decide_eq_false q)
def XO.aal{l:List Oper}{p:Prop}[Decidable p](hl:lk L d=some (.bool (decide p)))(h:¬p)(hf:XO P n ops Q l ((d,.bool false)::L) M):XO P n ops Q l L M:=
 XO.split hl (fun q=>absurd (of_decide_eq_true q) h) fun _=>hf
end
end Go.X
