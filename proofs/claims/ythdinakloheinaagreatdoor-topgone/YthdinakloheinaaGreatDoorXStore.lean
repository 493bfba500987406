import Derived.KernelRfl
import Derived.WalkKit
import Derived.Deep.LoopGhost
import Derived.Orders
set_option linter.all false
namespace Go.X
variable{t:Bool}{c x y:Code}{fn:Func}{d i j k:Nat}{v:Value}
abbrev qT:Bool:=true
abbrev qF:Bool:=false
open Go
theorem og{p:Prop}(h:p:=by omega):p:=h
theorem sq{p:Prop}(h:p:=by simp):p:=h
theorem aq{p:Prop}(h:p:=by assumption):p:=h
def kq{p:Prop}(h:p:=by kernel_rfl):p:=h
theorem dq{p:Prop}(h:p:=by decide):p:=h
theorem dk{p:Prop}(h:p:=by decide+kernel):p:=h
def cm{p:Prop}(h:p:=by first | (simp;done) | (simp;rfl)):p:=h
theorem dt{p:Prop}(h:p:=by first | assumption | omega | (simp_all;done)):p:=h
theorem eI{p:Prop}(h:p:=by simp;omega):p:=h
def uY{p:Prop}(h:p:=by first | decide | omega):p:=h
def KR{p:Prop}(h:p:=by first | assumption | (simp_all;done)):p:=h
theorem jw{p:Prop}(h:p:=by simp_all):p:=h
abbrev PF:=List (Nat×Value)
def lk:PF->Nat->Option Value
 | [],_=>none
 | (i,v)::r,j=>bif Nat.beq i j then some v else lk r j
theorem IW(i:Nat)(v:Value)(L:PF)(j:Nat):lk ((i,v)::L) j=if i=j then some v else lk L j:=by
 by_cases h:i=j
 ·subst h;simp[lk]
 ·have:Nat.beq i j=false:=by cases hb:Nat.beq i j with | false=>rfl | true=>exact absurd (Nat.eq_of_beq_eq_true hb) h
  simp[lk,this,h]
structure Fr where
 sz:Nat
 ds:List Deferred
 ps:List Nat
 cs:List (Nat×Nat)
abbrev fr(k:Nat)(ps:List Nat)(cs:List (Nat×Nat)):Fr:=⟨k,[],ps,cs⟩
def ra(n:Fr)(L:PF)(a:Act):Prop:=a.defers=n.ds/\a.tmps.size=n.sz/\∀ i v,lk L i=some v->a.tmps.getD i undef=v
def ev(L:PF):Operand->Option Value
 | .tmp t=>lk L t
 | .const v=>some v
 | .global g=>some (.pointer (some ⟨g,0,none⟩))
 | .func f=>some (.func (.func f) #[] #[])
theorem av{n:Fr}{L:PF}{a:Act}{x:Operand}(h:ra n L a)(hx:ev L x=some v):a.eval x=v:=by
 cases x with
 | tmp t=>exact h.2.2 t v hx
 | const c=>simpa [ev,Act.eval]using hx
 | global g=>simpa [ev,Act.eval]using hx
 | func f=>simpa [ev,Act.eval]using hx
theorem ra.put{n:Fr}{L:PF}{a:Act}{d:Nat}(h:ra n L a)(hd:Nat.blt d n.sz=true)(v:Value):ra n ((d,v)::L) (a.put (some d) v):=by
 have hd':d<n.sz:=by simpa using hd
 obtain⟨h1,h2,h3⟩:=h;refine⟨h1,by simpa [Act.put]using h2,fun i u hi=> ?_⟩;rw[IW]at hi;by_cases hid:d=i
 ·subst hid;simp at hi;subst hi;simp[Act.put,h2,hd']
 ·simp only[hid,if_false]at hi;have:=h3 i u hi;simp only[Act.put,Array.getD_eq_getD_getElem?]at*;rw[Array.getElem?_setIfInBounds_ne hid];exact this
def Sub(L L':PF):Prop:=∀ i v,lk L' i=some v->lk L i=some v
def Sub.sat{n:Fr}{L L':PF}{a:Act}(h:Sub L L')(hs:ra n L a):ra n L' a:=
 ⟨hs.1,hs.2.1,fun i v hi=>hs.2.2 i v (h i v hi)⟩
theorem Sub.nil(L:PF):Sub L []:=fun i v h=>by simp[lk]at h
def Sub.cons{L L':PF}(h:lk L i=some v)(hs:Sub L L'):Sub L ((i,v)::L'):=fun j u hj=>by
 rw[IW]at hj;by_cases KS:i=j
 ·subst KS;simp at hj;subst hj;exact h
 ·simp only[KS,if_false]at hj;exact hs j u hj
theorem li{L L':PF}(h:Sub L L':=by (repeat refine Sub.cons rfl ?_);exact Sub.nil _):Sub L L':=h
section
variable{P:Program}{n:Fr}{Q:Exit->Act->World->Prop}{L L':PF}{M M':World->Prop}
def XC(P:Program)(n:Fr)(c:Code)(Q:Exit->Act->World->Prop)(L:PF)(M:World->Prop):Prop:=
 ∀ a w,ra n L a->M w->c.wp P Q a w
def XE(n:Fr)(Q:Exit->Act->World->Prop)(e:Exit)(L:PF)(M:World->Prop):Prop:=
 ∀ a w,ra n L a->M w->Q e a w
theorem XC.fq(L':PF)(hs:Sub L L')(h:XC P n c Q L' M):XC P n c Q L M:=fun a w ha hw=>h a w (hs.sat ha) hw
theorem XC.mono(hm:∀ w,M w->M' w)(h:XC P n c Q L M'):XC P n c Q L M:=fun a w ha hw=>h a w ha (hm w hw)
theorem XE.mono{e:Exit}(hm:∀ w,M w->M' w)(h:XE n Q e L M'):XE n Q e L M:=fun a w ha hw=>h a w ha (hm w hw)
def XC.seq{x y:Code}(h:XC P n x (Exit.then (y.wp P Q) Q) L M):XC P n (.seq x y) Q L M:=fun a w ha hw=>wp_seq (h a w ha hw)
def XE.next{Q':Exit->Act->World->Prop}(h:XC P n y Q L M):XE n (Exit.then (y.wp P Q) Q') .normal L M:=h
def sX{K:Act->World->Prop}(h:XE n Q .ret L M):XE n (Exit.then K Q) .ret L M:=h
def qG{K:Act->World->Prop}(h:XE n Q (.exit i) L M):XE n (Exit.then K Q) (.exit i) L M:=h
def ib(h:XE n Q .normal L M):XE n (Exit.inBlock i Q) .normal L M:=h
def mn(h:XE n Q .ret L M):XE n (Exit.inBlock i Q) .ret L M:=h
def zl(h:XE n Q .normal L M):XE n (Exit.inBlock i Q) (.exit i) L M:=fun a w ha hw=>by
 simp only[Exit.inBlock,if_true];exact h a w ha hw
def Gj(KS:Nat.beq j i=false)(h:XE n Q (.exit j) L M):XE n (Exit.inBlock i Q) (.exit j) L M:=fun a w ha hw=>by
 have:j≠i:=fun e=>by subst e;rw[Nat.beq_refl]at KS;cases KS
 simp only[Exit.inBlock,this,if_false];exact h a w ha hw
def XC.skip(h:XE n Q .normal L M):XC P n .skip Q L M:=fun a w ha hw=>wp_skip (h a w ha hw)
def XC.exit{i:Nat}(h:XE n Q (.exit i) L M):XC P n (.exit i) Q L M:=fun a w ha hw=>wp_exit (h a w ha hw)
def XC.ret(h:XE n Q .ret L M):XC P n .ret Q L M:=fun a w ha hw=>wp_ret (h a w ha hw)
theorem XC.block{i:Nat}{c:Code}(h:XC P n c (Exit.inBlock i Q) L M):XC P n (.block i c) Q L M:=fun a w ha hw=>wp_block (h a w ha hw)
def XC.cond{c:Operand}{x y:Code}{t:Bool}(hc:ev L c=some (.bool t))(ht:t=true->XC P n x Q L M)(hf:t=false->XC P n y Q L M):XC P n (.cond c x y) Q L M:=fun a w ha hw=>
 wp_cond_split (av ha hc) (fun h=>ht h a w ha hw) fun h=>hf h a w ha hw
def XC.Qi{c:Operand}{p:Prop}[Decidable p](hc:ev L c=some (.bool (decide p)))(ht:p->XC P n x Q L M)(hf:¬p->XC P n y Q L M):
  XC P n (.cond c x y) Q L M:=XC.cond hc (fun h=>ht (of_decide_eq_true h)) fun h=>hf (of_decide_eq_false h)
def Sf{c:Operand}{p:Prop}[Decidable p](hc:ev L c=some (.bool (decide p)))(h:p)(ht:XC P n x Q L M):
  XC P n (.cond c x y) Q L M:=XC.cond hc (fun _=>ht) fun q=>absurd h (of_decide_eq_false q)
def Si{c:Operand}{p:Prop}[Decidable p](hc:ev L c=some (.bool (decide p)))(h:¬p)(hf:XC P n y Q L M):
  XC P n (.cond c x y) Q L M:=XC.cond hc (fun q=>absurd (of_decide_eq_true q) h) fun _=>hf
def DP{c:Operand}(hc:ev L c=some (.bool t))(h:t=true)(ht:XC P n x Q L M):
  XC P n (.cond c x y) Q L M:=fun a w ha hw=>wp_cond (t:=t) (av ha hc) (by subst h;exact ht a w ha hw)
def DQ{c:Operand}(hc:ev L c=some (.bool t))(h:t=false)(hf:XC P n y Q L M):
  XC P n (.cond c x y) Q L M:=fun a w ha hw=>wp_cond (t:=t) (av ha hc) (by subst h;exact hf a w ha hw)
theorem XC.loop{σ:Type}{c:Code}(m:σ->Nat)(V:σ->Prop)(I:σ->PF)(J:σ->World->Prop)(x₀:σ)(hv:V x₀)(h₀:Sub L (I x₀))(hj:∀ w,M w->J x₀ w)(round:∀ x,V x->XC P n c (Exit.then (fun a' w'=>∃ x',m x'<m x/\V x'/\ra n (I x') a'/\J x' w') Q) (I x) (J x)):XC P n (.loop c) Q L M:=fun a w ha hw=>by
 refine wp_loop_ghost (fun k a w=>∃ x,m x=k/\V x/\ra n (I x) a/\J x w) (m x₀) ⟨x₀,rfl,hv,h₀.sat ha,hj w hw⟩ ?_;rintro k a w ⟨x,rfl,hV,hs,hJ⟩;refine wp_mono (round x hV a w hs hJ) ?_;intro e a' w' hq;cases e with
 | normal=>obtain⟨x',h1,h2,h3,h4⟩:=hq;exact⟨m x',h1,x',rfl,h2,h3,h4⟩
 | exit id=>exact hq
 | goto l=>exact hq
 | ret=>exact hq
 | panic ch=>exact hq
 | outgrown=>exact hq
def XE.again{σ:Type}{m:σ->Nat}{V:σ->Prop}{I:σ->PF}{J:σ->World->Prop}{x:σ}(x':σ)(hm:m x'<m x)(hv:V x')(hs:Sub L (I x'))(hj:∀ w,M w->J x' w):
  XE n (Exit.then (fun a' w'=>∃ x',m x'<m x/\V x'/\ra n (I x') a'/\J x' w') Q) .normal L M:=fun _ w ha hw=>⟨x',hm,hv,hs.sat ha,hj w hw⟩
theorem XC.cut{d:Code}(L':PF)(M':World->Prop)(hc:XC P n c (Exit.then (fun a w=>ra n L' a/\M' w) Q) L M)(hd:XC P n d Q L' M'):XC P n (.seq c d) Q L M:=fun a w ha hw=>by
 refine wp_seq (wp_mono (hc a w ha hw) ?_);intro e a' w' hq;cases e with
 | normal=>exact hd a' w' hq.1 hq.2
 | exit id=>exact hq
 | goto l=>exact hq
 | ret=>exact hq
 | panic ch=>exact hq
 | outgrown=>exact hq
def aac{K:PF}{M':World->Prop}(hs:Sub L K)(hm:∀ w,M w->M' w):XE n (Exit.then (fun a w=>ra n K a/\M' w) Q) .normal L M:=
 fun _ w ha hw=>⟨hs.sat ha,hm w hw⟩
def XC.akp{σ:Type}{d:Code}(V:σ->Prop)(I:σ->PF)(J:σ->World->Prop)(hc:XC P n c (Exit.then (fun a w=>∃ x,V x/\ra n (I x) a/\J x w) Q) L M)(hd:∀ x,V x->XC P n d Q (I x) (J x)):XC P n (.seq c d) Q L M:=fun a w ha hw=>by
 refine wp_seq (wp_mono (hc a w ha hw) ?_);intro e a' w' hq;cases e with
 | normal=>obtain⟨x,h1,h2,h3⟩:=hq;exact hd x h1 a' w' h2 h3
 | exit id=>exact hq
 | goto l=>exact hq
 | ret=>exact hq
 | panic ch=>exact hq
 | outgrown=>exact hq
def Vi{σ:Type}{V:σ->Prop}{I:σ->PF}{J:σ->World->Prop}(x:σ)(hv:V x)(hs:Sub L (I x))(hj:∀ w,M w->J x w):
  XE n (Exit.then (fun a w=>∃ x,V x/\ra n (I x) a/\J x w) Q) .normal L M:=fun _ w ha hw=>⟨x,hv,hs.sat ha,hj w hw⟩
def pT:Nat->List Value->PF
 | _,[]=>[]
 | i,v::r=>(i,v)::pT (i+1) r
def A5:∀ (l:List Value) (k i:Nat) (v:Value),lk (pT k l) i=some v->k<=i/\l[i-k]? =some v
 | [],_,_,_,h=>by simp[pT,lk]at h
 | x::r,k,i,v,h=>by
  simp only[pT]at h;rw[IW]at h;by_cases hk:k=i
  ·subst hk;simp at h;subst h;simp
  ·simp only[hk,if_false]at h;obtain⟨h1,h2⟩:=A5 r (k+1) i v h;refine⟨by omega,?_⟩;have:i-k=(i-(k+1))+1:=by omega
   rw[this];simpa using h2
theorem enter{ps:List Nat}{cs:List (Nat×Nat)}{f:FuncId}{args:List Value}{R:Ending->World->Prop}(hf:P.funcs[f]? =some fn)(hb:fn.body=some c)(hn:Nat.ble args.length fn.ntmps=true)(h:XC P (fr fn.ntmps ps cs) c (bodyPost P fn R) (pT 0 args) M){w:World}(hw:M w):Calls P f args.toArray w R:=by
 refine calls_of_wp hf hb (h _ w ⟨rfl,?_,?_⟩ hw)
 ·have:args.length<=fn.ntmps:=by simpa using hn
  simp;omega
 ·intro i v hi;obtain⟨_,h2⟩:=A5 args 0 i v hi;have sW:i<args.length:=by
   rcases Nat.lt_or_ge i args.length with h' | h'
   ·exact h'
   ·rw[List.getElem?_eq_none (by simpa using h')]at h2;simp at h2
  have h3:args[i]? =some v:=by simpa using h2
  simp only[Array.getD_eq_getD_getElem?];rw[Array.getElem?_append_left (by simpa using sW)];simp[h3]
def aO{ps:List Nat}{cs:List (Nat×Nat)}{R:Ending->World->Prop}{t:Nat}(hr:fn.results= #[.tmp t])(hv:lk L t=some v)(h:∀ w,M w->R (.returned v) w):XE (fr k ps cs) (bodyPost P fn R) .ret L M:=fun a w ha hw=>
 ⟨ha.1,v,by rw[results_tmp hr];rw[ha.2.2 t v hv],h w hw⟩
def bC{ps:List Nat}{cs:List (Nat×Nat)}{R:Ending->World->Prop}{t u:Nat}{v':Value}(hr:fn.results= #[.tmp t,.tmp u])(hv:lk L t=some v)(hv':lk L u=some v')(h:∀ w,M w->R (.returned (.tuple #[v,v'])) w):XE (fr k ps cs) (bodyPost P fn R) .ret L M:=fun a w ha hw=>
 ⟨ha.1,.tuple #[v,v'],by rw[results_tmp2 hr];rw[ha.2.2 t v hv,ha.2.2 u v' hv'],h w hw⟩
def wy{ps:List Nat}{cs:List (Nat×Nat)}{R:Ending->World->Prop}{t1 t2 t3:Nat}{v1 v2 v3:Value}(hr:fn.results= #[.tmp t1,.tmp t2,.tmp t3])(h1:lk L t1=some v1)(h2:lk L t2=some v2)(h3:lk L t3=some v3)(h:∀ w,M w->R (.returned (.tuple #[v1,v2,v3])) w):XE (fr k ps cs) (bodyPost P fn R) .ret L M:=fun a w ha hw=>
 ⟨ha.1,.tuple #[v1,v2,v3],by
  have:(results fn a.tmps).run P w= .ok (.tuple #[a.tmps.getD t1 undef,a.tmps.getD t2 undef,a.tmps.getD t3 undef]) w:=by simp[results,hr]
  rw[this,ha.2.2 _ _ h1,ha.2.2 _ _ h2,ha.2.2 _ _ h3],h w hw⟩
def dy{ps:List Nat}{cs:List (Nat×Nat)}{R:Ending->World->Prop}(hr:fn.results= #[])(h:∀ w,M w->R (.returned (.tuple #[])) w):
  XE (fr k ps cs) (bodyPost P fn R) .normal L M:=fun a w ha hw=>⟨ha.1,.tuple #[],by rw[results_none hr],h w hw⟩
def Qj{ps:List Nat}{cs:List (Nat×Nat)}{R:Ending->World->Prop}(hr:fn.results= #[])(h:∀ w,M w->R (.returned (.tuple #[])) w):
  XE (fr k ps cs) (bodyPost P fn R) .ret L M:=fun a w ha hw=>⟨ha.1,.tuple #[],by rw[results_none hr],h w hw⟩
end
def KT(ops:Array Oper)(i:Nat):Nat->Nat->Bool
 | 0,s=>Nat.beq s i
 | k+1,s=>Nat.beq s i||match ops[s]? with
  | some o=>o.after.any fun e=>Region.binds .any e&&KT ops i k e.on
  | none=>false
def NR(l:Array Bool)(i:Nat):Prop:=l.getD i false=true
def oK(ops:Array Oper)(l:Array Bool):Prop:=∀ j o,ops[j]? =some o->NR l j->∀ e∈o.after,Region.binds .any e=true->NR l e.on
def DR{ops:Array Oper}{l:Array Bool}(hc:oK ops l){i:Nat} :∀ (k s:Nat),KT ops i k s=true->NR l s->NR l i
 | 0,s,h,hs=>by simp only[KT]at h;have:=Nat.eq_of_beq_eq_true h;subst this;exact hs
 | k+1,s,h,hs=>by
  simp only[KT,Bool.or_eq_true]at h;rcases h with h | h
  ·have:=Nat.eq_of_beq_eq_true h;subst this;exact hs
  ·cases ho:ops[s]? with
   | none=>simp[ho]at h
   | some o=>
    simp only[ho]at h;obtain⟨e,he,hb⟩:=Array.any_eq_true'.1 h;simp only[Bool.and_eq_true]at hb;exact DR hc k e.on hb.2 (hc s o ho hs e he hb.1)
def kM{ops:Array Oper}{l:Array Bool}(hc:oK ops l)(hi:i∈Region.ready .any ops l):oK ops (l.setIfInBounds i true):=by
 intro j o ho hj e he hb;by_cases Vj:i=j
 ·subst Vj;obtain⟨_,o',ho',NS⟩:=mem_ready.1 hi;rw[ho]at ho';cases ho';exact getD_set_true (NS e he hb)
 ·have:NR l j:=by unfold NR at*;rwa[getD_set_ne false Vj]at hj
  exact getD_set_true (hc j o ho this e he hb)
abbrev DS:=List (List Nat×(World->Prop))
def JL:DS->Array Bool->World->Prop
 | [],_,_=>True
 | p::r,l,w=>((∀ s∈p.1,¬NR l s)->p.2 w)/\JL r l w
theorem JL.lq:∀ (B:DS) {l:Array Bool} {w:World} {i:Nat},JL B l w->JL B (l.setIfInBounds i true) w
 | [],_,_,_,_=>trivial
 | _::r,_,_,_,h=>⟨fun hs=>h.1 fun s hp hl=>hs s hp (getD_set_true hl),JL.lq r h.2⟩
def JL.KU:∀ (B:DS) {l:Array Bool} {w:World} {i:Nat},(∀ p∈B,i∉p.1)->JL B (l.setIfInBounds i true) w->JL B l w
 | [],_,_,_,_,_=>trivial
 | p::r,l,w,i,hi,h=>⟨fun hs=>h.1 fun s hp hl=>hs s hp (by
   have:i≠s:=fun e=>hi p (by simp) (e▸hp)
   unfold NR at*;rwa[getD_set_ne false this]at hl),JL.KU r (fun q hq=>hi q (by simp[hq])) h.2⟩
section
variable{P:Program}{ops:Array Oper}{Q:Exit->Act->World->Prop}
def Qk(Q:Exit->Act->World->Prop):Exit->Act->World->Prop:=fun e a w=>e= .normal/\Q .normal a w
def KE(P:Program)(ops:Array Oper)(Q:Exit->Act->World->Prop)(B:DS):Nat->Array Bool->Act->World->Prop
 | 0,l,a,w=>JL B l w/\Region.ready .any ops l=[]/\Q .normal a w
 | f+1,l,a,w=>JL B l w/\(Region.ready .any ops l=[]->Q .normal a w)/\∀ i∈Region.ready .any ops l,wpOp P ops (Qk Q) i (KE P ops Q B f (l.setIfInBounds i true)) a w
theorem KE.J{B:DS} :∀ {f:Nat} {l:Array Bool} {a:Act} {w:World},KE P ops Q B f l a w->JL B l w
 | 0,_,_,_,h=>h.1
 | _+1,_,_,_,h=>h.1
def Cs{o:Oper}{a:Act}{w:World}{K:Act->World->Prop}(h:o.wp P a w K (Qk Q)):o.wp P a w K Q:=by
  unfold Oper.wp at*
  generalize (execOp a.eval o).run P w=r at*
  cases r with
  | ok n w'=>
    cases n<;>simp only[Oper.upon]at h ⊢ <;>
      first
        | exact h
        | (refine Calls.mono h (fun e w'' he=> ?_)
           cases e with
           | returned v=>exact he
           | panicked c=>exact absurd he.1 (by simp)
           | outgrown=>obtain⟨_,_,he⟩:=he;exact absurd he.1 (by simp))
  | halt x w'=>cases x<;>simp only[Oper.upon]at h ⊢ <;>first | exact h | exact absurd h.1 (by simp)
def Vk{a:Act}{w:World}{K:Act->World->Prop}(h:wpOp P ops (Qk Q) i K a w):wpOp P ops Q i K a w:=by
 unfold wpOp at*;split
 ·rename_i ho;simpa [ho]using h
 ·rename_i o ho;simp only[ho]at h;split
  ·rename_i hw;simp only[hw,if_true]at h;rcases h with h | ⟨_,a',w',h⟩
   ·exact .inl (Cs h)
   ·exact absurd h.1 (by simp)
  ·rename_i hw;simpa [hw]using h
def sY{B:DS} :∀ (f:Nat) (l:Array Bool) (a:Act) (w:World),KE P ops Q B f l a w->wpAny P .any ops Q f l a w
 | 0,_,_,_,h=>⟨h.2.1,h.2.2⟩
 | f+1,_,_,_,h=>⟨h.2.1,fun i hi=>Vk (wpOp_mono (fun a' w'=>sY f _ a' w') (h.2.2 i hi))⟩
def YF(P:Program)(ops:Array Oper)(φ:World->Prop)(o:Oper)(v:Value)(a:Act):Prop:=
 (Region.wanted o (yielded ops a.tmps)=true/\∀ w,φ w->(execOp a.eval o).run P w= .ok (.value v) w)\/
 (Region.wanted o (yielded ops a.tmps)=false/\v=undef)
def YF.wpOp{φ:World->Prop}{i:Nat}{o:Oper}{v:Value}{a:Act}(hi:ops[i]? =some o)(hy:YF P ops φ o v a){K:Act->World->Prop}{w:World}(hw:φ w)(h:K (a.put o.dst v) w):wpOp P ops Q i K a w:=by
 unfold Go.wpOp;simp only[hi];rcases hy with⟨h1,hv⟩ | ⟨h1,rfl⟩
 ·simp only[h1,if_true,Oper.wp,hv w hw,Oper.upon];exact .inl h
 ·simp only[h1,Bool.false_eq_true,if_false];exact h
def YF.Ql{φ:World->Prop}{o:Oper}{a a':Act}(hy:YF P ops φ o v a)(he:execOp a'.eval o=execOp a.eval o)(hw:Region.wanted o (yielded ops a'.tmps)=Region.wanted o (yielded ops a.tmps)):YF P ops φ o v a':=by
 unfold YF at*;rw[he,hw];exact hy
def Sj{φ:World->Prop}{oi oj:Oper}(hj:ops[j]? =some oj)(Vl:oi.apart ops oj=true)(hsi:∀ cs b,oi.op≠ .select cs b)(hsj:∀ cs b,oj.op≠ .select cs b){K:Act->World->Prop}{a:Act}{w:World}(hy:YF P ops φ oi v a)(h:wpOp P ops (Qk Q) j K (a.put oi.dst v) w):wpOp P ops (Qk Q) j (fun a' w'=>YF P ops φ oi v a'/\K (a'.put oi.dst v) w') a w:=by
 obtain⟨h1,h2,h3⟩:=Oper.apart_spec Vl;have fq:∀ (a:Act),YF P ops φ oi v a->∀ u,YF P ops φ oi v (a.put oj.dst u):=fun a hy u=>
  hy.Ql (execOp_put oi hsi a oj.dst u h3) (wanted_put oi a oj.dst u h3)
 have ahM:∀ d,YF P ops φ oi v {a with defers:=d::a.defers} :=fun d=>hy.Ql rfl rfl;unfold wpOp at*;simp only[hj]at*;rw[wanted_put oj a oi.dst v h1]at h;split
 ·rename_i hw;simp only[hw,if_true]at h;rcases h with h | ⟨_,a',w',hq⟩;case inr=>exact absurd hq.1 (by simp)
  refine .inl ?_;unfold Oper.wp at*;rw[execOp_put oj hsj a oi.dst v h1]at h;generalize (execOp a.eval oj).run P w=r at*;cases r with
  | ok n w'=>
   cases n<;>simp only[Oper.upon]at h ⊢;case value u=>exact⟨fq a hy u,by rw[<-Act.put_comm a v u h2];exact h⟩
   case skip=>exact⟨fq a hy _,by rw[<-Act.put_comm a v undef h2];exact h⟩
   case defer d=>
    refine⟨fq _ (ahM d) _,?_⟩;rw[<-Act.put_comm _ v undef h2,<-Act.put_defers];exact h
   case enter f args=>
    refine Calls.mono h fun e w'' he=> ?_;cases e with
    | returned u=>exact⟨fq a hy u,by rw[<-Act.put_comm a v u h2];exact he⟩
    | panicked c=>exact absurd he.1 (by simp)
    | outgrown=>exact he
   case row row args=>exact Rows.mono h fun u w'' he=>⟨fq a hy u,by rw[<-Act.put_comm a v u h2];exact he⟩
  | halt x w'=>
   cases x<;>simp only[Oper.upon]at h ⊢;case panic u=>exact absurd h.1 (by simp)
 ·rename_i hw;simp only[hw]at h;exact⟨fq a hy _,by rw[<-Act.put_comm a v undef h2];exact h⟩
def A6{B:DS}{φ:World->Prop}{T:List Nat}{oi:Oper}(hi:ops[i]? =some oi)(ahN:∀ (j:Nat) (o:Oper) cs b,ops[j]? =some o->o.op≠ .select cs b)(hT:∀ s∈T,∃ k,KT ops i k s=true)(hTi:i∉T)(hB:∀ p∈B,i∉p.1):∀ (fuel:Nat) (l:Array Bool) (a:Act) (w:World),oK ops l->(∀ j oj,ops[j]? =some oj->j≠i->l.getD j true=false->(∀ e∈oj.after,Region.binds .any e=true->e.on≠i)->oi.apart ops oj=true)->i∈Region.ready .any ops l->YF P ops φ oi v a->KE P ops Q ((T,φ)::B) fuel (l.setIfInBounds i true) (a.put oi.dst v) w->KE P ops Q B (fuel+1) l a w:=by
 have drop:∀ (f:Nat) (l:Array Bool) (a:Act) (w:World),KE P ops Q ((T,φ)::B) f l a w->KE P ops Q B f l a w:=by
  intro f;induction f with
  | zero=>intro l a w h;exact⟨h.1.2,h.2.1,h.2.2⟩
  | succ f ih=>intro l a w h;exact⟨h.1.2,h.2.1,fun j hj=>wpOp_mono (fun a' w'=>ih _ a' w') (h.2.2 j hj)⟩
 have ofJ:∀ (l:Array Bool) (w:World),oK ops l->i∈Region.ready .any ops l->JL ((T,φ)::B) (l.setIfInBounds i true) w->φ w/\JL B l w:=by
  intro l w hc hr h;refine⟨h.1 fun s hs hl=> ?_,JL.KU B hB h.2⟩;have hni:¬NR l i:=by
   have h0:=(mem_ready.1 hr).1;unfold NR;intro h1;rcases Nat.lt_or_ge i l.size with h' | h'
   ·simp[h']at h0 h1;rw[h0]at h1;cases h1
   ·simp[Array.getElem?_eq_none h']at h1
  obtain⟨k,hk⟩:=hT s hs;have ym:i≠s:=fun e=>hTi (e▸hs);have:NR l s:=by unfold NR at*;rwa[getD_set_ne false ym]at hl
  exact hni (DR hc k s hk this)
 intro fuel;induction fuel with
 | zero=>
  intro l a w hc _ hr hy H;obtain⟨hφ,hJ⟩:=ofJ l w hc hr H.J;refine⟨hJ,fun h=>(by rw[h]at hr;cases hr),fun j hj=> ?_⟩;by_cases Vj:j=i
  ·subst Vj;exact hy.wpOp hi hφ (drop _ _ _ _ H)
  ·have:=ready_mono hj Vj;rw[H.2.1]at this;cases this
 | succ fuel ih=>
  intro l a w hc adf hr hy H;obtain⟨hφ,hJ⟩:=ofJ l w hc hr H.J;refine⟨hJ,fun h=>(by rw[h]at hr;cases hr),fun j hj=> ?_⟩;by_cases Vj:j=i
  ·subst Vj;exact hy.wpOp hi hφ (drop _ _ _ _ H)
  ·have h1:=H.2.2 j (ready_mono hj Vj);obtain⟨ahO,oj,hoj,NS⟩:=mem_ready.1 hj;have aks:∀ e∈oj.after,Region.binds .any e=true->e.on≠i:=fun e he hb heq=>by
    have h1:=NS e he hb;have h0:=(mem_ready.1 hr).1;rw[heq]at h1;rcases Nat.lt_or_ge i l.size with h' | h'
    ·simp[h']at h0 h1;rw[h0]at h1;cases h1
    ·simp[Array.getElem?_eq_none h']at h1
   have h2:=Sj hoj (adf j oj hoj Vj ahO aks) (fun cs b=>ahN i oi cs b hi) (fun cs b=>ahN j oj cs b hoj) hy h1;have aej:∀ k ok,ops[k]? =some ok->k≠i->(l.setIfInBounds j true).getD k true=false->
     (∀ e∈ok.after,Region.binds .any e=true->e.on≠i)->oi.apart ops ok=true:=fun k ok hk hki hun rK=>by
    refine adf k ok hk hki ?_ rK;by_cases hjk:j=k
    ·subst hjk;exact ahO
    ·rw[getD_set_ne true hjk]at hun;exact hun
   refine wpOp_mono (fun a' w' h3=>ih (l.setIfInBounds j true) a' w' (kM hc hj) aej (ready_mono hr (Ne.symm Vj)) h3.1 ?_) h2;rw[Array.setIfInBounds_comm _ _ Vj];exact h3.2
def uZ(ops:Array Oper)(n:Nat):oK ops (Array.replicate n false):=by
 intro j o _ h;unfold NR at h;by_cases hj:j<n
 ·simp[hj]at h
 ·simp[hj]at h
end
def cQ:Op->Bool
 | .alloc _=>true
 | .box _ _=>true
 | .buildSlice _ _ _=>true
 | .store _ _ _=>true
 | .insert _ _ _ _=>true
 | .makeMap _ _=>true
 | .makeChan _ _=>true
 | .makeSlice _ _ _=>true
 | .mapUpdate _ _ _ _=>true
 | .mapEntry _ _ _=>true
 | .entryStore _ _ _ _=>true
 | .range _ _=>true
 | .next _ _=>true
 | .entry _=>true
 | .go _=>true
 | .defer _=>true
 | .panic _=>true
 | .send _ _=>true
 | .recv _ _ _=>true
 | .select _ _=>true
 | .ready _=>true
 | .waits _=>true
 | .call ⟨.builtin b,_,_⟩=>match b with
  | .len=>false
  | .cap=>false
  | .min=>false
  | .max=>false
  | _=>true
 | .call _=>true
 | _=>false
def isR:Op->Bool
 | .load _ _=>true
 | .convert _ _ _=>true
 | .lookup _ _ _ _=>true
 | _=>false
def eAt(ops:Array Oper)(i:Nat):Bool:=match ops[i]? with
 | some o=>cQ o.op
 | none=>false
def A7(ops:Array Oper)(l:Array Bool)(i:Nat):Bool:=Region.noSelect ops&&Region.free .any ops l i&&(Region.ready .any ops l).contains i
def zOk(ops:Array Oper):Array Bool->List Nat->Bool
 | l,[]=>(Region.ready .any ops l).isEmpty
 | l,i::r=>(match ops[i]? with
  | none=>false
  | some o=>if cQ o.op then Region.ready .any ops l==[i]else A7 ops l i&&(!isR o.op||r.all fun s=> !eAt ops s||KT ops i ops.size s))&&zOk ops (l.setIfInBounds i true) r
def ahP(ops:Array Oper)(a:Act):List Oper->List Nat->Prop
 | [],[]=>True
 | o::l,i::r=>(ops[i]? =some o\/∃ o',ops[i]? =some o'/\o= {o' with guard:=none} /\Region.wanted o' (yielded ops a.tmps)=true)/\l.map some=r.map (ops[·]?)
 | _,_=>False
structure Vn(ops:Array Oper)(B:DS)(r:List Nat):Prop where
 h1:∀ p∈B,∀ j∈r,eAt ops j=true->j∈p.1
 h2:∀ p∈B,∀ s∈p.1,eAt ops s=true
theorem Vn.tail{ops:Array Oper}{B:DS}{r:List Nat}(h:Vn ops B (i::r)):Vn ops B r:=⟨fun p hp j hj=>h.h1 p hp j (List.mem_cons_of_mem _ hj),h.h2⟩
def ov{ops:Array Oper}(a:Act):∀ {l:List Oper} {r:List Nat},l.map some=r.map (ops[·]?)->ahP ops a l r
 | [],[],_=>trivial
 | [],_::_,h=>by simp at h
 | _::_,[],h=>by simp at h
 | o::l,i::r,h=>by
  simp only[List.map_cons,List.cons.injEq]at h;exact⟨.inl h.1.symm,h.2⟩
inductive Md where
 | cl (ops:Array Oper)
 | op (ops:Array Oper)
def Md.a:Md->Array Oper
 | .cl o=>o
 | .op o=>o
def KO(P:Program)(Q:Exit->Act->World->Prop):Md->List Oper->Act->World->Prop
 | .cl ops,l,a,w=>wpList P ops Q l a w
 | .op ops,l,a,w=>∀ (r:List Nat) (s:Array Bool) (B:DS),ahP ops a l r->zOk ops s r=true->oK ops s->Vn ops B r->JL B s w->KE P ops Q B r.length s a w
section
variable{P:Program}{Q:Exit->Act->World->Prop}{md:Md}{rest:List Oper}{a:Act}{w:World}
def KV{ops:Array Oper}{s:Array Bool}(h:i∈Region.ready .any ops s):i<s.size:=by
 have h0:=(mem_ready.1 h).1;rcases Nat.lt_or_ge i s.size with h' | h'
 ·exact h'
 ·simp[Array.getElem?_eq_none h']at h0
def aaf{s:Array Bool}(h:i<s.size):NR (s.setIfInBounds i true) i:=by
 unfold NR;simp[h]
def G7{ops:Array Oper}{s:Array Bool}{i:Nat}(hs:i<s.size):∀ {B:DS} (w:World),(∀ p∈B,i∈p.1)->JL B (s.setIfInBounds i true) w
 | [],_,_=>trivial
 | p::r,w,h=>⟨fun hn=>absurd (aaf hs) (hn i (h p (by simp))),G7 (ops:=ops) hs w fun q hq=>h q (by simp[hq])⟩
theorem KO.nil(h:Q .normal a w):KO P Q md [] a w:=by
 cases md with
 | cl ops=>exact h
 | op ops=>
  intro r s B hf hz hc hs hJ;cases r with
  | cons _ _=>exact hf.elim
  | nil=>
   simp only[zOk,List.isEmpty_iff]at hz;exact⟨hJ,hz,h⟩
def Vo{o:Oper}{K:Act->World->Prop}(h:Oper.wp P {o with guard:=none} a w K (Qk Q)):o.wp P a w K (Qk Q):=h
def KO.eff{o:Oper}(he:cQ o.op=true)(hg:o.guard=none)(h:o.wp P a w (KO P Q md rest) (Qk Q)):KO P Q md (o::rest) a w:=by
 cases md with
 | cl ops=>
  show wpList P ops Q (o::rest) a w;unfold wpList;rw[if_pos (by simp[Region.wanted,hg])];exact .inl (Cs h)
 | op ops=>
  intro r s B hf hz hc hs hJ;cases r with
  | nil=>exact hf.elim
  | cons i r=>
   obtain⟨h1,h2⟩:=hf;have ho:∃ o',ops[i]? =some o'/\o'.op=o.op/\(∀ K,o.wp P a w K (Qk Q)->o'.wp P a w K (Qk Q))/\Region.wanted o' (yielded ops a.tmps)=true:=by
    rcases h1 with h1 | ⟨o',h1,rfl,h3⟩
    ·exact⟨o,h1,rfl,fun _ h=>h,by simp[Region.wanted,hg]⟩
    ·exact⟨o',h1,rfl,fun _ h=>Vo h,h3⟩
   obtain⟨o',ho,hop,hwp,hw⟩:=ho;simp only[zOk,ho,hop,he,if_true,Bool.and_eq_true,beq_iff_eq]at hz;have hr:i∈Region.ready .any ops s:=by rw[hz.1];simp
   have aku:eAt ops i=true:=by simp only[eAt,ho,hop,he]
   refine⟨hJ,fun h0=>(by rw[hz.1]at h0;cases h0),fun j hj=> ?_⟩;rw[hz.1]at hj;have:j=i:=by simpa using hj
   subst this;unfold wpOp;simp only[ho];rw[if_pos hw];refine .inl (Oper.wp_mono (fun a' w' hk=> ?_) (hwp _ h));exact hk r _ B (ov a' h2) hz.2 (kM hc hr) hs.tail (G7 (ops:=ops) (KV hr) w' fun p hp=>hs.h1 p hp j (by simp) aku)
def KO.G8{ops:Array Oper}{r:List Nat}{s:Array Bool}{B:DS}{o:Oper}(φ:World->Prop)(ho:ops[i]? =some o)(xF:o.dst=some d)(he:cQ o.op=false)(hφ:isR o.op=true\/∀ w,φ w)(hw:φ w)(hm:rest.map some=r.map (ops[·]?))(hz:zOk ops s (i::r)=true)(hc:oK ops s)(hs:Vn ops B (i::r))(hJ:JL B s w)(hv:YF P ops φ o v a)(h:KO P Q (.op ops) rest (a.put (some d) v) w):KE P ops Q B (r.length+1) s a w:=by
 simp only[zOk,ho,he,A7,Bool.and_eq_true,Bool.false_eq_true,if_false]at hz;obtain⟨⟨⟨⟨h1,h2⟩,h3⟩,h4⟩,h5⟩:=hz;have hr:i∈Region.ready .any ops s:=by simpa using h3
 have gJ:∀ j,eAt ops j=true->j≠i:=fun j hj e=>by subst e;simp only[eAt,ho,he]at hj;cases hj
 have hBi:∀ p∈B,i∉p.1:=fun p hp hi=>gJ i (hs.h2 p hp i hi) rfl;have drop:∀ (φ':World->Prop) (T:List Nat) (f:Nat) (l:Array Bool) (a:Act) (w:World),KE P ops Q B f l a w->(∀ w,φ' w)->KE P ops Q ((T,φ')::B) f l a w:=by
  intro φ' T f;induction f with
  | zero=>intro l a w h hp;exact⟨⟨fun _=>hp w,h.1⟩,h.2.1,h.2.2⟩
  | succ f ih=>intro l a w h hp;exact⟨⟨fun _=>hp w,h.1⟩,h.2.1,fun j hj=>wpOp_mono (fun a' w' hk=>ih _ a' w' hk hp) (h.2.2 j hj)⟩
 rcases hφ with hR | hφ
 ·refine A6 (T:=r.filter (eAt ops)) (φ:=φ) ho (Region.noSelect_spec h1) (fun x hx=>⟨ops.size,?_⟩) (fun hi=> ?_) hBi r.length s a w hc (Region.free_spec ho h2) hr hv ?_
  ·simp only[List.mem_filter]at hx;simp only[hR,Bool.not_true,Bool.false_or]at h4;have:=List.all_eq_true.1 h4 x hx.1;simpa [hx.2]using this
  ·simp only[List.mem_filter]at hi;exact gJ i hi.2 rfl
  ·rw[xF];refine h r _ _ (ov _ hm) h5 (kM hc hr) ⟨fun p hp j hj hje=> ?_,fun p hp x hx=> ?_⟩ ⟨fun _=>hw,JL.lq B hJ⟩
   ·rcases List.mem_cons.1 hp with rfl | hp
    ·exact List.mem_filter.2 ⟨hj,hje⟩
    ·exact hs.tail.h1 p hp j hj hje
   ·rcases List.mem_cons.1 hp with rfl | hp
    ·exact(List.mem_filter.1 hx).2
    ·exact hs.h2 p hp x hx
 ·refine A6 (T:=[]) (φ:=φ) ho (Region.noSelect_spec h1) (fun x hx=>by cases hx) (by simp) hBi r.length s a w hc (Region.free_spec ho h2) hr hv ?_;rw[xF];exact drop φ [] _ _ _ _ (h r _ B (ov _ hm) h5 (kM hc hr) hs.tail (JL.lq B hJ)) hφ
theorem KO.val{o:Oper}(φ:World->Prop)(he:cQ o.op=false)(hφ:isR o.op=true\/∀ w,φ w)(hg:o.guard=none)(xF:o.dst=some d)(hw:φ w)(hv:∀ w,φ w->(execOp a.eval o).run P w= .ok (.value v) w)(h:KO P Q md rest (a.put (some d) v) w):KO P Q md (o::rest) a w:=by
 cases md with
 | cl ops=>
  show wpList P ops Q (o::rest) a w;unfold wpList;rw[if_pos (by simp[Region.wanted,hg])];refine .inl ?_;unfold Oper.wp;rw[hv w hw];rw[<-xF]at h;exact h
 | op ops=>
  intro r s B hf hz hc hs hJ;cases r with
  | nil=>exact hf.elim
  | cons i r=>
   obtain⟨h1,h2⟩:=hf;rcases h1 with h1 | ⟨o',h1,rfl,h3⟩
   ·exact KO.G8 φ h1 xF he hφ hw h2 hz hc hs hJ (.inl ⟨by simp[Region.wanted,hg],hv⟩) h
   ·exact KO.G8 φ h1 xF he hφ hw h2 hz hc hs hJ (.inl ⟨h3,hv⟩) h
def KO.zm{o:Oper}(hw:Region.wanted o (yielded md.a a.tmps)=true)(h:KO P Q md ({o with guard:=none} ::rest) a w):KO P Q md (o::rest) a w:=by
 cases md with
 | cl ops=>
  have hw:Region.wanted o (yielded ops a.tmps)=true:=hw;have h':wpList P ops Q ({o with guard:=none} ::rest) a w:=h;show wpList P ops Q (o::rest) a w;unfold wpList at h' ⊢;rw[if_pos (by simp[Region.wanted])]at h';rw[if_pos hw];exact h'
 | op ops=>
  intro r s B hf hz hc hs hJ;cases r with
  | nil=>exact hf.elim
  | cons i r=>
   refine h (i::r) s B ⟨?_,hf.2⟩ hz hc hs hJ;rcases hf.1 with h1 | ⟨o',h1,rfl,h3⟩
   ·exact .inr ⟨o,h1,rfl,hw⟩
   ·exact .inr ⟨o',h1,rfl,h3⟩
def KO.rL{o:Oper}(hw:¬Region.wanted o (yielded md.a a.tmps)=true)(xF:o.dst=some d)(h:KO P Q md rest (a.put (some d) undef) w):KO P Q md (o::rest) a w:=by
 cases md with
 | cl ops=>
  have hw:¬Region.wanted o (yielded ops a.tmps)=true:=hw;show wpList P ops Q (o::rest) a w;unfold wpList;rw[if_neg hw,xF];exact h
 | op ops=>
  have hw:¬Region.wanted o (yielded ops a.tmps)=true:=hw;intro r s B hf hz hc hs hJ;cases r with
  | nil=>exact hf.elim
  | cons i r=>
   have hg:¬o.guard=none:=fun e=>hw (by simp[Region.wanted,e]);have h1:ops[i]? =some o:=by
    rcases hf.1 with h1 | ⟨o',h1,rfl,h3⟩
    ·exact h1
    ·exact absurd rfl hg
   cases he:cQ o.op with
   | false=>exact KO.G8 (fun _=>True) h1 xF he (.inr fun _=>trivial) trivial hf.2 hz hc hs hJ (.inr ⟨by simpa using hw,rfl⟩) h
   | true=>
    simp only[zOk,h1,he,if_true,Bool.and_eq_true,beq_iff_eq]at hz;have hr:i∈Region.ready .any ops s:=by rw[hz.1];simp
    refine⟨hJ,fun h0=>(by rw[hz.1]at h0;cases h0),fun j hj=> ?_⟩;rw[hz.1]at hj;have:j=i:=by simpa using hj
    subst this;unfold wpOp;simp only[h1];rw[if_neg hw,xF];exact h r _ B (ov _ hf.2) hz.2 (kM hc hr) hs.tail (JL.lq B hJ)
end
section
variable{P:Program}{n:Fr}{Q:Exit->Act->World->Prop}{L L':PF}{M M':World->Prop}{ops:Md}{rest l:List Oper}
def XO(P:Program)(n:Fr)(ops:Md)(Q:Exit->Act->World->Prop)(l:List Oper)(L:PF)(M:World->Prop):Prop:=
 ∀ a w,ra n L a->M w->KO P Q ops l a w
theorem XO.mono(hm:∀ w,M w->M' w)(h:XO P n ops Q l L M'):XO P n ops Q l L M:=fun a w ha hw=>h a w ha (hm w hw)
theorem XO.fq(L':PF)(hs:Sub L L')(h:XO P n ops Q l L' M):XO P n ops Q l L M:=fun a w ha hw=>h a w (hs.sat ha) hw
def XC.region{i:Nat}{l:List Oper}(h:XO P n (.cl l.toArray) Q l L M):XC P n (.region i l.toArray false) Q L M:=fun a w ha hw=>wp_region_lit (h a w ha hw)
def Qm(os:List Oper)(r:List Nat):List Oper:=r.filterMap (os[·]?)
def XC.rq{os:List Oper}(r:List Nat)(hm:P.follows .mixedOrders=true)(hz:(zOk os.toArray (Array.replicate os.length false) r&&Nat.beq r.length os.length&&r.all (Nat.blt · os.length))=true)(hM:∀ w k,M w->M {w with drawn:=w.drawn+k})(h:XO P n (.op os.toArray) Q (Qm os r) L M):XC P n (.region i os.toArray true) Q L M:=fun a w ha hw=>by
 simp only[Bool.and_eq_true]at hz;obtain⟨⟨h1,h2⟩,h3⟩:=hz;refine wp_region_any hm ?_;have hf:(Qm os r).map some=r.map (os.toArray[·]?):=by
  have h3':∀ x∈r,x<os.length:=fun x hx=>by
   have:=List.all_eq_true.1 h3 x hx;simpa using this
  clear h1 h2 h3 h;unfold Qm;induction r with
  | nil=>rfl
  | cons x r ih=>
   have hx:x<os.length:=h3' x (by simp);have e:os[x]? =some os[x]:=List.getElem?_eq_getElem hx;rw[List.filterMap_cons_some e,List.map_cons,List.map_cons,ih fun y hy=>h3' y (by simp[hy])];simp[e]
 have:=sY _ _ _ _ (h a _ ha (hM w 1 hw) r _ [] (ov a hf) h1 (uZ _ _) ⟨by simp,by simp⟩ trivial);have e2:r.length=os.length:=Nat.eq_of_beq_eq_true h2;rw[e2]at this;simpa using this
theorem XO.nil(h:XE n Q .normal L M):XO P n ops Q [] L M:=fun a w ha hw=>KO.nil (h a w ha hw)
def XO.op{o:Oper}(hg:(o.guard.isNone&&cQ o.op)=true)(h:∀ a w,ra n L a->M w->o.wp P a w (KO P Q ops rest) (Qk Q)):XO P n ops Q (o::rest) L M:=fun a w ha hw=>by
 simp only[Bool.and_eq_true,Option.isNone_iff_eq_none]at hg;exact KO.eff hg.2 hg.1 (h a w ha hw)
def XO.akv{op:Op}{ty:TypeId}{pos:String}{af:Array Edge}(hd:(Nat.blt d n.sz&&(!cQ op&&isR op))=true)(hv:∀ a w,ra n L a->M w->(execOp a.eval ⟨some d,op,ty,pos,af,none⟩).run P w= .ok (.value v) w)(h:XO P n ops Q rest ((d,v)::L) M):XO P n ops Q (⟨some d,op,ty,pos,af,none⟩::rest) L M:=fun a w ha hw=>by
 simp only[Bool.and_eq_true,Bool.not_eq_true']at hd;exact KO.val M hd.2.1 (.inl hd.2.2) rfl rfl hw (fun w hw=>hv a w ha hw) (h _ w (ha.put hd.1 v) hw)
theorem XO.val{d:Nat}{op:Op}{ty:TypeId}{pos:String}{af:Array Edge}{v:Value}(hd:(Nat.blt d n.sz&& !cQ op)=true)(hv:∀ a w,ra n L a->(execOp a.eval ⟨some d,op,ty,pos,af,none⟩).run P w= .ok (.value v) w)(h:XO P n ops Q rest ((d,v)::L) M):XO P n ops Q (⟨some d,op,ty,pos,af,none⟩::rest) L M:=fun a w ha hw=>by
 simp only[Bool.and_eq_true,Bool.not_eq_true']at hd;exact KO.val (fun _=>True) hd.2 (.inr fun _=>trivial) rfl rfl trivial (fun w _=>hv a w ha) (h _ w (ha.put hd.1 v) hw)
theorem Qn{a:Act}{o:Oper}{asz:Array Oper}{dj:Nat}{want b:Bool}(hg:o.guard=some (j,want))(hj:(asz[j]?).bind (·.dst)=some dj)(ha:ra n L a)(hl:lk L dj=some (.bool b)):Region.wanted o (yielded asz a.tmps)=(b==want):=by
 have hy:=ha.2.2 dj _ hl;simp only[Region.wanted,hg,yielded,hj];simp only[Array.getD_eq_getD_getElem?]at hy;cases hx:a.tmps[dj]? with
 | none=>rw[hx]at hy;simp[undef]at hy
 | some u=>rw[hx]at hy;simp at hy;subst hy;cases b<;>cases want<;>simp[hx]
def XO.zm{o:Oper}{j dj:Nat}{want:Bool}(hg:o.guard=some (j,want))(hj:(ops.a[j]?).bind (·.dst)=some dj)(hl:lk L dj=some (.bool want))(h:XO P n ops Q ({o with guard:=none} ::rest) L M):XO P n ops Q (o::rest) L M:=fun a w ha hw=>
 KO.zm (by rw[Qn hg hj ha hl];simp) (h a w ha hw)
def XO.rL{o:Oper}{j dj d:Nat}{want:Bool}(hg:o.guard=some (j,want))(xF:o.dst=some d)(hd:Nat.blt d n.sz=true)(hj:(ops.a[j]?).bind (·.dst)=some dj)(hl:lk L dj=some (.bool (!want)))(h:XO P n ops Q rest ((d,undef)::L) M):XO P n ops Q (o::rest) L M:=fun a w ha hw=>
 KO.rL (by rw[Qn hg hj ha hl];cases want<;>simp) xF (h _ w (ha.put hd undef) hw)
def Gk{o:Oper}{dj:Nat}{want:Bool}(hg:o.guard=some (j,want))(xF:o.dst=some d)(hd:Nat.blt d n.sz=true)(hj:(ops.a[j]?).bind (·.dst)=some dj)(hl:lk L dj=some undef)(h:XO P n ops Q rest ((d,undef)::L) M):XO P n ops Q (o::rest) L M:=fun a w ha hw=>by
 refine KO.rL ?_ xF (h _ w (ha.put hd undef) hw);have hy:=ha.2.2 dj _ hl;simp only[Region.wanted,hg,yielded,hj];simp only[Array.getD_eq_getD_getElem?]at hy;cases hx:a.tmps[dj]? with
 | none=>simp[hx]
 | some u=>rw[hx]at hy;simp at hy;subst hy;simp[hx,undef]
theorem XO.split{l:List Oper}(hl:lk L d=some (.bool t))(ht:t=true->XO P n ops Q l ((d,.bool true)::L) M)(hf:t=false->XO P n ops Q l ((d,.bool false)::L) M):XO P n ops Q l L M:=by
 cases t
 ·refine XO.fq _ (Sub.cons hl ?_) (hf rfl);exact fun i v h=>h
 ·refine XO.fq _ (Sub.cons hl ?_) (ht rfl);exact fun i v h=>h
def XO.aek{l:List Oper}{p:Prop}[Decidable p](hl:lk L d=some (.bool (decide p)))(ht:p->XO P n ops Q l ((d,.bool true)::L) M)
  (hf:¬p->XO P n ops Q l ((d,.bool false)::L) M):XO P n ops Q l L M:=XO.split hl (fun h=>ht (of_decide_eq_true h)) fun h=>hf (of_decide_eq_false h)
def XO.ael{l:List Oper}{p:Prop}[Decidable p](hl:lk L d=some (.bool (decide p)))(h:p)(ht:XO P n ops Q l ((d,.bool true)::L) M):XO P n ops Q l L M:=
 XO.split hl (fun _=>ht) fun q=>absurd h (of_decide_eq_false q)
def XO.aem{l:List Oper}{p:Prop}[Decidable p](hl:lk L d=some (.bool (decide p)))(h:¬p)(hf:XO P n ops Q l ((d,.bool false)::L) M):XO P n ops Q l L M:=
 XO.split hl (fun q=>absurd (of_decide_eq_true q) h) fun _=>hf
end
end Go.X

namespace Go.X
variable{op:BinOp}{k:IntKind}{y:Operand}
abbrev iI(z:Int):Value:=.int .i64 z
open Go
structure re where
 v:Value
 e:TypeId
 sz:Nat
 k:Nat
 xs:List Value
inductive aG where
 | cells (b o n:Nat) (C:Nat->Value)
 | ro (b o n:Nat) (C:Nat->Value)
 | row (v:Value) (e:TypeId) (sz k:Nat) (xs:List Value)
 | mark (D:Nat)
 | aV (p:Nat->Bool) (r:Nat->re)
 | eJ (p:Nat->Bool) (b:Nat->Nat) (n:Nat) (C:Nat->Nat->Value)
def aG.wr:aG->Bool
 | .ro .. =>false
 | .mark _=>false
 | _=>true
def aG.gL:aG->Nat->Nat->Prop
 | .cells b o n _,b',i=>b'=b/\o<=i/\i<o+n
 | .ro b o n _,b',i=>b'=b/\o<=i/\i<o+n
 | .row v _ _ _ _,b',_=>v.ownBlock=some b'
 | .mark D,b',_=>b'=D
 | .aV p r,b',_=>∃ i,p i=true/\(r i).v.ownBlock=some b'
 | .eJ p g n _,b',o=>∃ i,p i=true/\b'=g i/\o<n
def aG.holds(w:World):aG->Prop
 | .cells b o n C=>∃ A t lo hi,w.heap[b]? =some (.cells A t (lo,hi))/\∀ i,i<n->A[o+i]? =some (C i)/\¬(lo<=o+i/\o+i<hi)
 | .ro b o n C=>∃ A t fz,w.heap[b]? =some (.cells A t fz)/\∀ i,i<n->A[o+i]? =some (C i)
 | .row v e sz k xs=>w.ownsRow 0 e sz v k xs
 | .mark D=>w.heap[D]? =some (.deferred (some []))
 | .aV p r=>(∀ i,p i=true->w.ownsRow 0 (r i).e (r i).sz (r i).v (r i).k (r i).xs)/\∀ i j b,p i=true->p j=true->i≠j->(r i).v.ownBlock=some b->(r j).v.ownBlock=some b->False
 | .eJ p g n C=>(∀ i,p i=true->∃ A t lo hi,w.heap[g i]? =some (.cells A t (lo,hi))/\∀ j,j<n->A[j]? =some (C i j)/\¬(lo<=j/\j<hi))/\∀ i j,p i=true->p j=true->i≠j->g i≠g j
def DT(e e':aG):Prop:=(e.wr||e'.wr)=true->∀ b o,e.gL b o->e'.gL b o->False
theorem DT.symm{e e':aG}(h:DT e e'):DT e' e:=fun hw b o h1 h2=>h (by rw[Bool.or_comm];exact hw) b o h2 h1
def Good(H:List aG)(w:World):Prop:=(∀ e∈H,e.holds w)/\H.Pairwise DT
structure ix(w w':World)(S:Nat->Nat->Prop):Prop where
 os:w'.os=w.os
 tape:w'.tape=w.tape
 output:w'.output=w.output
 size:w.heap.size<=w'.heap.size
 same:∀ b,b<w.heap.size->(∀ o,¬S b o)->w'.heap[b]? =w.heap[b]?
 part:∀ b A t fz,w.heap[b]? =some (.cells A t fz)->∃ A',w'.heap[b]? =some (.cells A' t fz)/\A'.size=A.size/\∀ o,¬S b o->A'[o]? =A[o]?
theorem ix.refl(w:World)(S:Nat->Nat->Prop):ix w w S:=
 ⟨rfl,rfl,rfl,Nat.le_refl _,fun _ _ _=>rfl,fun _ A _ _ h=>⟨A,h,rfl,fun _ _=>rfl⟩⟩
theorem dV{w:World}{b:Nat}{o:Obj}(h:w.heap[b]? =some o):b<w.heap.size:=(Array.getElem?_eq_some_iff.1 h).1
def ix.trans{a b c:World}{S T U:Nat->Nat->Prop}(h:ix a b S)(k:ix b c T)(hS:∀ x o,S x o->x<a.heap.size->U x o)(hT:∀ x o,T x o->x<a.heap.size->U x o):ix a c U:=
  ⟨k.os.trans h.os,k.tape.trans h.tape,k.output.trans h.output,Nat.le_trans h.size k.size,
   fun x hx hn=>(k.same x (Nat.lt_of_lt_of_le hx h.size) fun o ho=>hn o (hT x o ho hx)).trans (h.same x hx fun o ho=>hn o (hS x o ho hx)),
   fun x A t fz hA=>by
    obtain⟨A',h1,h2,h3⟩:=h.part x A t fz hA
    obtain⟨A'',k1,k2,k3⟩:=k.part x A' t fz h1
    have hx:=dV hA
    exact⟨A'',k1,k2.trans h2,fun o ho=>(k3 o fun q=>ho (hT x o q hx)).trans (h3 o fun q=>ho (hS x o q hx))⟩⟩
def aG.lt{e:aG}{w:World}(h:e.holds w){b o:Nat}(ha:e.gL b o):b<w.heap.size:=by
 cases e with
 | cells b' o' n C=>obtain⟨A,t,lo,hi,h1,_⟩:=h;obtain⟨rfl,_⟩:=ha;exact dV h1
 | ro b' o' n C=>obtain⟨A,t,fz,h1,_⟩:=h;obtain⟨rfl,_⟩:=ha;exact dV h1
 | row v e sz k xs=>exact(World.ownsRow.lt h b ha).2
 | mark D=>obtain rfl:=ha;exact dV h
 | aV p r=>obtain⟨i,hi,hb⟩:=ha;exact(World.ownsRow.lt (h.1 i hi) b hb).2
 | eJ p g n C=>obtain⟨i,hi,rfl,_⟩:=ha;obtain⟨A,t,lo,KF,h1,_⟩:=h.1 i hi;exact dV h1
def IX{w w':World}{S:Nat->Nat->Prop}{v:Value}{e:TypeId}{sz k:Nat}{xs:List Value}(h:w.ownsRow 0 e sz v k xs)(hk:ix w w' S)(ha:∀ b o,v.ownBlock=some b->¬S b o):w'.ownsRow 0 e sz v k xs:=by
 refine⟨h.1,?_⟩;rcases h.2 with hn | ⟨g,cap,cur,rfl,hb,hg,rest⟩
 ·exact .inl hn
 ·refine .inr ⟨g,cap,cur,rfl,hb,?_,rest⟩;rw[hk.same g (dV hg) fun o=>ha g o rfl];exact hg
theorem aG.Sk{e:aG}{w w':World}{S:Nat->Nat->Prop}(h:e.holds w)(hk:ix w w' S)(ha:∀ b o,e.gL b o->¬S b o):e.holds w':=by
 cases e with
 | cells b o n C=>
  obtain⟨A,t,lo,hi,h1,h2⟩:=h;obtain⟨A',k1,k2,k3⟩:=hk.part b A t _ h1;refine⟨A',t,lo,hi,k1,fun i KF=> ?_⟩;obtain⟨h3,h4⟩:=h2 i KF;exact⟨by rw[k3 (o+i) (ha b (o+i) ⟨rfl,og,og⟩)];exact h3,h4⟩
 | ro b o n C=>
  obtain⟨A,t,fz,h1,h2⟩:=h;obtain⟨A',k1,k2,k3⟩:=hk.part b A t _ h1;exact⟨A',t,fz,k1,fun i KF=>by rw[k3 (o+i) (ha b (o+i) ⟨rfl,og,og⟩)];exact h2 i KF⟩
 | row v e sz k xs=>
  refine⟨h.1,?_⟩;rcases h.2 with hn | ⟨g,cap,cur,rfl,hb,hg,rest⟩
  ·exact .inl hn
  ·refine .inr ⟨g,cap,cur,rfl,hb,?_,rest⟩;rw[hk.same g (dV hg) fun o=>ha g o rfl];exact hg
 | mark D=>exact(hk.same D (dV h) fun o=>ha D o rfl).trans h
 | aV p r=>exact⟨fun i hi=>IX (h.1 i hi) hk fun b o hb=>ha b o ⟨i,hi,hb⟩,h.2⟩
 | eJ p g n C=>
  refine⟨fun i hi=> ?_,h.2⟩;obtain⟨A,t,lo,KF,h1,h2⟩:=h.1 i hi;obtain⟨A',k1,k2,k3⟩:=hk.part (g i) A t _ h1;exact⟨A',t,lo,KF,k1,fun j hj=>⟨by rw[k3 j (ha (g i) j ⟨i,hi,rfl,hj⟩)];exact(h2 j hj).1,(h2 j hj).2⟩⟩
structure XM(W:World)(S:Nat->Nat->Prop)(H:List aG)(w:World):Prop where
 fB:Good H w
 fq:ix W w S
 Gl:∀ e∈H,e.wr=true->∀ b o,e.gL b o->W.heap.size<=b\/S b o
def cx(H:List aG)(b o:Nat):Prop:=∃ e∈H,e.wr=true/\e.gL b o
def lK{H:List aG}{w:World}(h:Good H w):XM w (cx H) H w:=
 ⟨h,ix.refl _ _,fun e he hw _ _ ha=>.inr ⟨e,he,hw,ha⟩⟩
def ix.drewN{W w:World}{S:Nat->Nat->Prop}(h:ix W w S)(k:Nat):ix W {w with drawn:=w.drawn+k} S:=
 ⟨h.os,h.tape,h.output,h.size,h.same,h.part⟩
def aG.KW{e:aG}{w:World}(k:Nat)(h:e.holds w):e.holds {w with drawn:=k} :=by
 cases e with
 | cells b o n C=>exact h
 | ro b o n C=>exact h
 | row v e sz k xs=>exact h
 | mark D=>exact h
 | aV p r=>exact h
 | eJ p g n C=>exact h
def XM.drawn{W w:World}{S:Nat->Nat->Prop}{H:List aG}(h:XM W S H w)(k:Nat):XM W S H {w with drawn:=w.drawn+k} :=
 ⟨⟨fun e he=>aG.KW _ (h.fB.1 e he),h.fB.2⟩,h.fq.drewN k,h.Gl⟩
inductive lR:List aG->aG->Prop where
 | aa {e H} :lR (e::H) e
 | ao {x e H} :lR H e->lR (x::H) e
theorem lR.mem{H:List aG}{e:aG}(h:lR H e):e∈H:=by
 induction h with
 | aa=>simp
 | ao _ ih=>exact List.mem_cons_of_mem _ ih
inductive ox:List aG->aG->List aG->Prop where
 | aa {e H} :ox (e::H) e H
 | ao {x e H H'} :ox H e H'->ox (x::H) e (x::H')
def ox.cG{H H':List aG}{e:aG}(h:ox H e H'):H.Perm (e::H'):=by
 induction h with
 | aa=>exact .refl _
 | ao _ ih=>exact(List.Perm.cons _ ih).trans (List.Perm.swap _ _ _)
inductive cX:List aG->List aG->List aG->Prop where
 | nil {H} :cX H [] H
 | cons {e es H H' F} :ox H e H'->cX H' es F->cX H (e::es) F
class Dl(n:Nat)(H:List aG)(e:outParam aG)(F:outParam (List aG)):Prop where
 d:ox H e F
instance{e:aG}{H:List aG}:Dl 0 (e::H) e H:=⟨.aa⟩
instance{n:Nat}{e x:aG}{H F:List aG}[i:Dl n H e F]:Dl (n+1) (x::H) e (x::F):=⟨.ao i.d⟩
instance{n:Nat}{e x y z v:aG}{H F:List aG}[i:Dl n H e F]:Dl (n+4) (x::y::z::v::H) e (x::y::z::v::F):=⟨.ao (.ao (.ao (.ao i.d)))⟩
instance{n:Nat}{e x:aG}{A B F:List aG}[i:Dl n (x::(A++B)) e F]:Dl n (x::A++B) e F:=⟨i.d⟩
instance{n:Nat}{e:aG}{B F:List aG}[i:Dl n B e F]:Dl n ([]++B) e F:=⟨i.d⟩
instance{n:Nat}{e:aG}{A B F:List aG}[i:Dl n (A++B) e F]:Dl n (A.append B) e F:=⟨i.d⟩
instance{n:Nat}{e:aG}{A B C F:List aG}[i:Dl n (A++(B++C)) e F]:Dl n (A++B++C) e F:=⟨by have:=i.d;rwa[<-List.append_assoc]at this⟩
instance{n:Nat}{e:aG}{A B F:List aG}[i:Dl n (A++B) e F]:Dl n (A.drop 0++B) e F:=⟨i.d⟩
instance{n k:Nat}{e x:aG}{A B F:List aG}[i:Dl n (A.drop k++B) e F]:Dl n ((x::A).drop (k+1)++B) e F:=⟨i.d⟩
class Pk(l:List Nat)(H:List aG)(E F:outParam (List aG)):Prop where
 d:cX H E F
instance{H:List aG}:Pk [] H [] H:=⟨.nil⟩
instance{n:Nat}{l:List Nat}{e:aG}{H G E F:List aG}[i:Dl n H e G][j:Pk l G E F]:Pk (n::l) H (e::E) F:=⟨.cons i.d j.d⟩
def rr(_ _:Nat)(l:List Nat):List Nat:=l
instance{n:Nat}{l:List Nat}{H E F:List aG}[i:Pk l H E F]:Pk (rr 0 n l) H E F:=⟨i.d⟩
instance{k n:Nat}{l:List Nat}{H E F:List aG}[i:Pk (n::rr k n l) H E F]:Pk (rr (k+1) n l) H E F:=⟨i.d⟩
def pk(l:List Nat){H E F:List aG}[i:Pk l H E F]:cX H E F:=i.d
class Pz(n:Nat)(H:List aG)(E F:outParam (List aG)):Prop where
 d:cX H E F
instance{H:List aG}:Pz 0 H [] H:=⟨.nil⟩
instance{n:Nat}{e:aG}{H E F:List aG}[i:Pz n H E F]:Pz (n+1) (e::H) (e::E) F:=⟨.cons .aa i.d⟩
instance{n:Nat}{x:aG}{A B E F:List aG}[i:Pz (n+1) (x::(A++B)) E F]:Pz (n+1) (x::A++B) E F:=⟨i.d⟩
instance{n:Nat}{B E F:List aG}[i:Pz (n+1) B E F]:Pz (n+1) ([]++B) E F:=⟨i.d⟩
instance{n:Nat}{A B E F:List aG}[i:Pz (n+1) (A++B) E F]:Pz (n+1) (A.append B) E F:=⟨i.d⟩
instance{n:Nat}{A B E F:List aG}[i:Pz (n+1) (A++B) E F]:Pz (n+1) (A.drop 0++B) E F:=⟨i.d⟩
instance{n k:Nat}{x:aG}{A B E F:List aG}[i:Pz (n+1) (A.drop k++B) E F]:Pz (n+1) ((x::A).drop (k+1)++B) E F:=⟨i.d⟩
def pz(n:Nat){H E F:List aG}[i:Pz n H E F]:cX H E F:=i.d
def cX.cG{H E F:List aG}(h:cX H E F):H.Perm (E++F):=by
 induction h with
 | nil=>exact .refl _
 | cons d _ ih=>exact d.cG.trans (List.Perm.cons _ ih)
def Gm{H H':List aG}(hp:H.Perm H')(h:H.Pairwise DT):H'.Pairwise DT:=
 (hp.pairwise_iff fun h=>DT.symm h).1 h
def Good.cG{H H':List aG}{w:World}(hp:H.Perm H')(h:Good H w):Good H' w:=
 ⟨fun e he=>h.1 e (hp.mem_iff.2 he),Gm hp h.2⟩
def XM.cG{W w:World}{S:Nat->Nat->Prop}{H H':List aG}(hp:H.Perm H')(h:XM W S H w):XM W S H' w:=
 ⟨h.fB.cG hp,h.fq,fun e he=>h.Gl e (hp.mem_iff.2 he)⟩
theorem XM.left{W w:World}{S:Nat->Nat->Prop}{E F:List aG}(h:XM W S (E++F) w):XM W S E w:=
 ⟨⟨fun e he=>h.fB.1 e (List.mem_append.2 (.inl he)),(List.pairwise_append.1 h.fB.2).1⟩,h.fq,fun e he=>h.Gl e (List.mem_append.2 (.inl he))⟩
theorem XM.pick{W w:World}{S:Nat->Nat->Prop}{H E F:List aG}(hp:cX H E F)(h:XM W S H w):XM W S E w:=(h.cG hp.cG).left
theorem XM.cC{W w w':World}{S:Nat->Nat->Prop}{H H':List aG}{e e':aG}(h:XM W S H w)(hd:ox H e H')(hw:e.wr=true)(ha:∀ b o,e'.gL b o->e.gL b o\/w.heap.size<=b)(hk:ix w w' fun b o=>e.gL b o)(Vp:e'.holds w'):XM W S (e'::H') w':=by
 have h1:=h.cG hd.cG;obtain⟨⟨hh,pe⟩,xM,ur⟩:=h1;rw[List.pairwise_cons]at pe;obtain⟨Vl,akw⟩:=pe;have mI:∀ x∈H',x.holds w':=fun x hx=>aG.Sk (hh x (List.mem_cons_of_mem _ hx)) hk fun b o Vq Vr=>Vl x hx (by simp[hw]) b o Vr Vq;refine⟨⟨?_,?_⟩,?_,?_⟩
 ·intro x hx;rcases List.mem_cons.1 hx with rfl | hx
  ·exact Vp
  ·exact mI x hx
 ·refine List.pairwise_cons.2 ⟨fun x hx _ b o h1 h2=> ?_,akw⟩;rcases ha b o h1 with h3 | h3
  ·exact Vl x hx (by simp[hw]) b o h3 h2
  ·have:=aG.lt (hh x (List.mem_cons_of_mem _ hx)) h2;omega
 ·refine xM.trans hk (fun x o hs _=>hs) (fun x o hs hx=> ?_);rcases ur e sq hw x o hs with h3 | h3
  ·omega
  ·exact h3
 ·intro x hx KG b o hb;rcases List.mem_cons.1 hx with rfl | hx
  ·rcases ha b o hb with h3 | h3
   ·exact ur e sq hw b o h3
   ·have:=xM.size;exact .inl og
  ·exact ur x (List.mem_cons_of_mem _ hx) KG b o hb
def XM.fresh{W w w':World}{S:Nat->Nat->Prop}{H:List aG}{e':aG}(h:XM W S H w)(ha:∀ b o,e'.gL b o->w.heap.size<=b)(hk:ix w w' fun _ _=>False)(Vp:e'.holds w'):XM W S (e'::H) w':=by
 obtain⟨⟨hh,pe⟩,xM,ur⟩:=h;refine⟨⟨?_,?_⟩,?_,?_⟩
 ·intro x hx;rcases List.mem_cons.1 hx with rfl | hx
  ·exact Vp
  ·exact aG.Sk (hh x hx) hk fun _ _ _ q=>q
 ·refine List.pairwise_cons.2 ⟨fun x hx _ b o h1 h2=> ?_,pe⟩;have:=aG.lt (hh x hx) h2;have:=ha b o h1;omega
 ·exact xM.trans hk (fun x o hs _=>hs) fun x o hs hx=>hs.elim
 ·intro x hx KG b o hb;rcases List.mem_cons.1 hx with rfl | hx
  ·have:=ha b o hb;have:=xM.size;exact .inl og
  ·exact ur x hx KG b o hb
abbrev ap(x:Value)(H:List aG)(v:Value)(H1:List aG):Prop:=v=x/\H1=H
attribute [simp] ap
def Spec(P:Program)(f:FuncId)(args:List Value)(pre:List aG)(post:Value->List aG->Prop):Prop:=
 ∀ w,Good pre w->Calls P f args.toArray w fun e w'=>∃ v H',e= .returned v/\post v H'/\H'.all aG.wr=true/\XM w (cx pre) H' w'
def XM.A8{W w w':World}{S:Nat->Nat->Prop}{H pre F H':List aG}(h:XM W S H w)(hp:cX H pre F)(hc:XM w (cx pre) H' w')(Sl:∀ e∈H',e.wr=true):XM W S (H'++F) w':=by
 have h1:=h.cG hp.cG;obtain⟨⟨hh,pe⟩,xM,ur⟩:=h1;obtain⟨ahQ,Sm,Vl⟩:=List.pairwise_append.1 pe;have hF:∀ x∈F,x.holds w':=fun x hx=>aG.Sk (hh x (List.mem_append.2 (.inr hx))) hc.fq fun b o Vq ⟨e,he,Qo,Vr⟩=>Vl e he x hx (by simp[Qo]) b o Vr Vq;refine⟨⟨?_,?_⟩,?_,?_⟩
 ·intro x hx;rcases List.mem_append.1 hx with hx | hx
  ·exact hc.fB.1 x hx
  ·exact hF x hx
 ·refine List.pairwise_append.2 ⟨hc.fB.2,Sm,fun e he x hx _ b o h1 h2=> ?_⟩;rcases hc.Gl e he (Sl e he) b o h1 with h3 | ⟨e',Vp,Qo,Vr⟩
  ·have:=aG.lt (hh x (List.mem_append.2 (.inr hx))) h2;omega
  ·exact Vl e' Vp x hx (by simp[Qo]) b o Vr h2
 ·refine xM.trans hc.fq (fun x o hs _=>hs) (fun x o ⟨e,he,Qo,Vr⟩ hx=> ?_);rcases ur e (List.mem_append.2 (.inl he)) Qo x o Vr with h3 | h3
  ·omega
  ·exact h3
 ·intro x hx KG b o hb;rcases List.mem_append.1 hx with hx | hx
  ·rcases hc.Gl x hx KG b o hb with h3 | ⟨e,he,Qo,Vr⟩
   ·have:=xM.size;exact .inl og
   ·exact ur e (List.mem_append.2 (.inl he)) Qo b o Vr
  ·exact ur x (List.mem_append.2 (.inr hx)) KG b o hb
def XM.aag{W w w':World}{S:Nat->Nat->Prop}{H E R F H':List aG}(h:XM W S H w)(hp:cX H (E++R) F)(hR:∀ e∈R,e.wr=false)(hc:XM w (cx (E++R)) H' w')(Sl:∀ e∈H',e.wr=true):XM W S (H'++(R++F)) w':=by
 have h1:=h.cG hp.cG;have rK:∀ x∈R,∀ b o,x.gL b o->¬cx (E++R) b o:=fun x hx b o Vq ⟨e,he,Qo,Vr⟩=>by
  have pe:=h1.fB.2;rw[List.append_assoc]at pe;obtain⟨_,_,Vl⟩:=List.pairwise_append.1 pe;rcases List.mem_append.1 he with Vp | Vp
  ·exact Vl e Vp x (List.mem_append.2 (.inl hx)) (by simp[Qo]) b o Vr Vq
  ·rw[hR e Vp]at Qo;cases Qo
 have h2:=h.A8 hp hc Sl;obtain⟨⟨hh,pe⟩,xM,ur⟩:=h2;obtain⟨ahQ,Sm,Vl⟩:=List.pairwise_append.1 pe;have hR':∀ x∈R,x.holds w':=fun x hx=>aG.Sk (h1.fB.1 x (by simp[hx])) hc.fq (rK x hx);refine⟨⟨?_,?_⟩,xM,?_⟩
 ·intro x hx;rcases List.mem_append.1 hx with hx | hx
  ·exact hh x (by simp[hx])
  ·rcases List.mem_append.1 hx with hx | hx
   ·exact hR' x hx
   ·exact hh x (by simp[hx])
 ·have ahR:=h1.fB.2;rw[List.append_assoc]at ahR;obtain⟨_,hrf,_⟩:=List.pairwise_append.1 ahR;refine List.pairwise_append.2 ⟨ahQ,hrf,fun e he x hx _ b o h3 h4=> ?_⟩;rcases List.mem_append.1 hx with hx | hx
  ·rcases hc.Gl e he (Sl e he) b o h3 with h5 | h5
   ·have:=aG.lt (h1.fB.1 x (by simp[hx])) h4;omega
   ·exact rK x hx b o h4 h5
  ·exact Vl e he x hx (by simp[Sl e he]) b o h3 h4
 ·intro x hx KG b o hb;rcases List.mem_append.1 hx with hx | hx
  ·exact ur x (by simp[hx]) KG b o hb
  ·rcases List.mem_append.1 hx with hx | hx
   ·rw[hR x hx]at KG;cases KG
   ·exact ur x (by simp[hx]) KG b o hb
def ay(b o i:Nat):Value:=.pointer (some ⟨b,o+i,none⟩)
def one:Value->Bool
 | .agg _=>false
 | .tuple _=>false
 | _=>true
theorem A9{v:Value}(h:one v=true):v.cells= #[v]:=by cases v<;>simp_all[one,Value.cells]
def ep(C:Nat->Value)(i:Nat)(v:Value):Nat->Value:=fun j=>if j=i then v else C j
def dB(C:Nat->Value)(i n:Nat):Value:=.agg ((List.range n).map fun j=>C (i+j)).toArray
def NT:List Value->Nat->Option Value
 | [],_=>none
 | v::_,0=>some v
 | _::r,k+1=>NT r k
def G9:∀ {l:List Value} {k:Nat} {v:Value},NT l k=some v->l[k]? =some v
 | [],_,_,h=>by simp[NT]at h
 | u::_,0,_,h=>by simpa [NT]using h
 | _::r,k+1,_,h=>by simpa using G9 (l:=r) h
def Vs{vs:Array Value}{k:Nat}{v:Value}(h:NT vs.toList k=some v):vs[k]? =some v:=by simpa using G9 h
def jL(P:Program)(t:TypeId):Bool:=match P.underlying t with
 | some (.struct _)=>false
 | some (.array _ _)=>false
 | some _=>true
 | none=>false
def oM(P:Program)(t:TypeId):Bool:=match P.underlying t with
 | some (.struct _)=>true
 | some (.array _ _)=>true
 | _=>false
def fE(P:Program)(t:TypeId):Option Nat:=(P.info? t).map (·.size)
def ey(P:Program)(s:TypeId)(f:Nat):Option Nat:=match P.underlying s with
 | some (.struct fs)=>match fs[f]? with
  | some fld=>match fE P fld.type with
   | some 0=>none
   | some _=>some fld.offset
   | none=>none
  | none=>none
 | _=>none
def xN(P:Program)(t:TypeId):Option (Nat×Nat):=match P.underlying t with
 | some (.array n e)=>(fE P e).map fun s=>(n,s)
 | _=>none
def wz(P:Program)(t:TypeId):Option (TypeId×Nat):=match P.underlying t with
 | some (.slice e)=>(fE P e).map fun s=>(e,s)
 | _=>none
def DU(P:Program)(t:TypeId):Option Value:=(P.info? t).bind (·.zero)
def dg(P:Program)(f:FuncId):Bool:=match P.funcs[f]? with
 | some fn=>fn.name != "runtime.NumGoroutine" &&fn.body.isSome
 | none=>false
section
variable{P:Program}{w:World}
theorem kN{t:TypeId}(h:jL P t=true):(isAgg t).run P w= .ok false w:=by
 unfold jL at h;cases hu:P.underlying t with
 | none=>simp[hu]at h
 | some d=>simp only[hu]at h;simp only[isAgg,Sem.run_bind,run_underlying hu,Result.andThen_ok];cases d<;>simp_all
theorem xO{t:TypeId}(h:oM P t=true):(isAgg t).run P w= .ok true w:=by
 unfold oM at h;cases hu:P.underlying t with
 | none=>simp[hu]at h
 | some d=>simp only[hu]at h;simp only[isAgg,Sem.run_bind,run_underlying hu,Result.andThen_ok];cases d<;>simp_all
theorem run_sizeOf{t n:Nat}(h:fE P t=some n):(sizeOf t).run P w= .ok n w:=by
 unfold fE at h;cases hi:P.info? t with
 | none=>simp[hi]at h
 | some i=>simp[hi]at h;simp[sizeOf,typeInfo,hi,h]
theorem run_typeInfo{t:Nat}{i:TypeInfo}(h:P.info? t=some i):(typeInfo t).run P w= .ok i w:=by simp[typeInfo,h]
theorem rh{t:Nat}{v:Value}(h:DU P t=some v):(zeroValue t).run P w= .ok v w:=by
 unfold DU at h;cases hi:P.info? t with
 | none=>simp[hi]at h
 | some i=>simp[hi]at h;simp[zeroValue,typeInfo,hi,h]
theorem pU(b o i k:Nat):(⟨b,o+i,none⟩:Addr).add k=⟨b,o+(i+k),none⟩:=by
 unfold Addr.add;split
 ·subst_vars;rfl
 ·simp only[Nat.add_assoc]
end
section
variable{P:Program}{w:World}
def run_equalIn_bool(k:Nat){t:TypeId}(a b:Bool)(ht:P.underlying t=some .bool):(Op.equalIn (k+1) t (.bool a) (.bool b)).run P w= .ok (a==b) w:=by
 simp only[Op.equalIn,Sem.run_bind,run_underlying ht,Result.andThen_ok,Sem.run_pure]
def run_equal_bool{t:TypeId}(a b:Bool)(ht:P.underlying t=some .bool):(Op.equal t (.bool a) (.bool b)).run P w= .ok (a==b) w:=
 run_equalIn_bool 9999 a b ht
end
def bj(P:Program)(n:Fr)(L:PF)(φ:World->Prop)(o:Oper)(v:Value):Prop:=
 ∀ a w,ra n L a->φ w->(execOp a.eval o).run P w= .ok (.value v) w
section
variable{P:Program}{n:Fr}{Q:Exit->Act->World->Prop}{L:PF}{ops:Md}{rest:List Oper}{ty:TypeId}{pos:String}{af:Array Edge}{d:Nat}{φ:World->Prop}{gd:Option (Nat×Bool)}
def V.move{x:Operand}{v:Value}(hx:ev L x=some v):bj P n L φ (⟨some d,.move x,ty,pos,af,gd⟩) (v):=
   (fun a w ha _=>by simp[execOp,av ha hx])
def V.assign{x:Operand}{v:Value}(hx:ev L x=some v):bj P n L φ (⟨some d,.assign x,ty,pos,af,gd⟩) (v):=
   (fun a w ha _=>by simp[execOp,av ha hx])
theorem V.pick{c x y:Operand}{t:Bool}{u v r:Value}(hc:ev L c=some (.bool t))(hx:ev L x=some u)(hy:ev L y=some v)(hr:(bif t then u else v)=r):bj P n L φ (⟨some d,.pick c x y,ty,pos,af,gd⟩) (r):=
   (fun a w ha _=>by subst hr;cases t<;>simp[execOp,av ha hx,av ha hy,av ha hc,asBool])
def aX{x:Operand}{b o i:Nat}(hx:ev L x=some (ay b o i)):bj P n L φ (⟨some d,.nilCheck x,ty,pos,af,gd⟩) (ay b o i):=
   (fun a w ha _=>by simp[execOp,av ha hx,ay])
theorem V.extract{x:Operand}{vs:Array Value}{k:Nat}{v:Value}(hx:ev L x=some (.tuple vs))(hk':NT vs.toList k=some v):bj P n L φ (⟨some d,.extract x k,ty,pos,af,gd⟩) (v):=
   (fun a w ha _=>by have hk:=Vs hk';simp[execOp,av ha hx,Instr.extract,hk])
def V.fieldAddr{s:TypeId}{x:Operand}{f b o i k:Nat}(hx:ev L x=some (ay b o i))(hf:ey P s f=some k):bj P n L φ (⟨some d,.fieldAddr s x f,ty,pos,af,gd⟩) (ay b o (i+k)):=
   (fun a w ha _=>by
    unfold ey at hf
    cases hu:P.underlying s with
    | none=>simp[hu]at hf
    | some ds=>
      simp only[hu]at hf
      cases ds<;>simp only[]at hf<;>try cases hf
      rename_i fs
      cases hfl:fs[f]? with
      | none=>simp[hfl]at hf
      | some fld=>
        simp only[hfl]at hf
        cases hs:fE P fld.type with
        | none=>simp[hs]at hf
        | some z=>
          cases z with
          | zero=>simp[hs]at hf
          | succ z=>
            simp only[hs,Option.some.injEq]at hf
            subst hf
            simp[execOp,av ha hx,Instr.fieldAt,run_underlying hu,hfl,Instr.sureAddr,ay,fieldPlace,run_sizeOf hs,pU])
def jR{t:TypeId}{x:Operand}{b o i m sz:Nat}{z:Int}(hx:ev L x=some (ay b o i))(hy:ev L y=some (.int k z))(ht:xN P t=some (m,sz))(hz:0<=z/\z<m):bj P n L φ (⟨some d,.indexAddr t x y,ty,pos,af,gd⟩) (ay b o (i+z.toNat*sz)):=
   (fun a w ha _=>by
    unfold xN at ht
    cases hu:P.underlying t with
    | none=>simp[hu]at ht
    | some ds=>
      simp only[hu]at ht
      cases ds<;>simp only[]at ht<;>try cases ht
      rename_i m' e
      cases hs:fE P e with
      | none=>simp[hs]at ht
      | some s=>
        simp only[hs,Option.map_some,Option.some.injEq,Prod.mk.injEq]at ht
        obtain⟨rfl,rfl⟩:=ht
        simp[execOp,av ha hx,av ha hy,Instr.indexAt,asIntOf,run_underlying hu,Instr.sureAddr,ay,hz,run_sizeOf hs,pU])
def Ha{t e:TypeId}{x:Operand}{b o sz len cap:Nat}{z:Int}(hx:ev L x=some (.slice (some ⟨b,o,none⟩) len cap))(hy:ev L y=some (.int k z))(ht:wz P t=some (e,sz))(hz:0<=z/\z<len):bj P n L φ (⟨some d,.indexAddr t x y,ty,pos,af,gd⟩) (ay b o (0+z.toNat*sz)):=
   (fun a w ha _=>by
    unfold wz at ht
    cases hu:P.underlying t with
    | none=>simp[hu]at ht
    | some ds=>
      simp only[hu]at ht
      cases ds<;>simp only[]at ht<;>try cases ht
      rename_i e'
      cases hs:fE P e' with
      | none=>simp[hs]at ht
      | some s=>
        simp only[hs,Option.map_some,Option.some.injEq,Prod.mk.injEq]at ht
        obtain⟨rfl,rfl⟩:=ht
        have:=pU b o 0 (z.toNat*s)
        simp only[Nat.add_zero]at this
        simp[execOp,av ha hx,av ha hy,Instr.indexAt,asIntOf,run_underlying hu,ay,hz,run_sizeOf hs,this])
def rM{t t':TypeId}{x:Operand}{u v r:Value}(hx:ev L x=some u)(hy:ev L y=some v)(hr:∀ (w:World) (a:Act),a.eval x=u->a.eval y=v->(execOp a.eval ⟨some d,.binOp op t x y t',ty,pos,af,gd⟩).run P w= .ok (.value r) w):bj P n L φ (⟨some d,.binOp op t x y t',ty,pos,af,gd⟩) r:=
 fun a w ha _=>hr w a (av ha hx) (av ha hy)
theorem V.add{t t':TypeId}{x y:Operand}{k:IntKind}{a b:Int}(hx:ev L x=some (.int k a))(hy:ev L y=some (.int k b))(r:Int)(hw:k.wrap (a+b)=r):bj P n L φ (⟨some d,.binOp .add t x y t',ty,pos,af,gd⟩) (.int k r):=
 rM hx hy fun w A hx hy=>by simp[execOp,eqGuard,hx,hy,binOp,Op.intArith,hw]
theorem V.sub{t t':TypeId}{x y:Operand}{k:IntKind}{a b:Int}(hx:ev L x=some (.int k a))(hy:ev L y=some (.int k b))(r:Int)(hw:k.wrap (a-b)=r):bj P n L φ (⟨some d,.binOp .sub t x y t',ty,pos,af,gd⟩) (.int k r):=
 rM hx hy fun w A hx hy=>by simp[execOp,eqGuard,hx,hy,binOp,Op.intArith,hw]
def V.mul{t t':TypeId}{x y:Operand}{k:IntKind}{a b:Int}(hx:ev L x=some (.int k a))(hy:ev L y=some (.int k b))(r:Int)(hw:k.wrap (a*b)=r):bj P n L φ (⟨some d,.binOp .mul t x y t',ty,pos,af,gd⟩) (.int k r):=
 rM hx hy fun w A hx hy=>by simp[execOp,eqGuard,hx,hy,binOp,Op.intArith,hw]
theorem aah(a b:Int):(a==b)=decide (a=b):=rfl
theorem aai(a b:Int):(a != b)= !decide (a=b):=rfl
def Vt{t t':TypeId}{x:Operand}{a b:Int}{r:Bool}(hx:ev L x=some (.int k a))(hy:ev L y=some (.int k b))(hr:(match op with | .eql=>some (decide (a=b)) | .neq=>some (decide (a≠b)) | .lss=>some (decide (a<b)) | .leq=>some (decide (a<=b)) | .gtr=>some (decide (a>b)) | .geq=>some (decide (a>=b)) | _=>none)=some r):bj P n L φ (⟨some d,.binOp op t x y t',ty,pos,af,gd⟩) (.bool r):=
 rM hx hy (fun w A hx hy=>by
  cases op<;>simp only[Option.some.injEq]at hr<;>(try cases hr)<;>
   simp[execOp,eqGuard,hx,hy,binOp,Op.intCmp,aah,aai])
def V.not{t:TypeId}{x:Operand}{b:Bool}(hx:ev L x=some (.bool b)):bj P n L φ (⟨some d,.unOp .not t x,ty,pos,af,gd⟩) (.bool (!b)):=
   (fun a w ha _=>by simp[execOp,av ha hx,Op.unary])
def aen{t:TypeId}{x:Operand}{p:Prop}[Decidable p](hx:ev L x=some (.bool (decide p))):bj P n L φ (⟨some d,.unOp .not t x,ty,pos,af,gd⟩) (.bool (decide (¬p))):=
   (fun a w ha _=>by simp[execOp,av ha hx,Op.unary])
def V.neg{t:TypeId}{x:Operand}{k:IntKind}{a:Int}(hx:ev L x=some (.int k a))(r:Int)(hw:k.wrap (0-a)=r):bj P n L φ (⟨some d,.unOp .neg t x,ty,pos,af,gd⟩) (.int k r):=
   (fun A w ha _=>by
    have er:k.wrap (-a)=r:=by rw[<-hw];congr 1;omega
    simp[execOp,av ha hx,Op.unary,Op.intArith,er])
def Vu{t t':TypeId}{x:Operand}{a b r:Bool}(hx:ev L x=some (.bool a))(hy:ev L y=some (.bool b))(ht:P.underlying t=some .bool)(hr:(match op with | .eql=>some (a==b) | .neq=>some (!(a==b)) | _=>none)=some r):bj P n L φ (⟨some d,.binOp op t x y t',ty,pos,af,gd⟩) (.bool r):=
 rM hx hy (fun w A hx hy=>by
  have he:=run_equal_bool (P:=P) (w:=w) a b ht
  cases op<;>simp only[Option.some.injEq]at hr<;>(try cases hr)<;>
   simp[execOp,eqGuard,hx,hy,binOp,he])
def Ct{t:TypeId}{x:Operand}{v:Value}{ds:TypeDesc}(hx:ev L x=some v)(ht:P.underlying t=some ds)(hn:∀ ms,ds≠ .interface ms):bj P n L φ (⟨some d,.makeInterface t x,ty,pos,af,gd⟩) (.iface t v):=
   (fun a w ha _=>by
    simp only[execOp,av ha hx,Instr.makeInterface,Sem.run_bind,run_underlying ht,Result.andThen_ok]
    cases ds<;>simp_all)
variable{W:World}{S:Nat->Nat->Prop}{H H':List aG}
theorem eS{w:World}{b o m i:Nat}{C:Nat->Value}(h:(aG.cells b o m C).holds w)(hi:i<m:=by omega):w.cell? ⟨b,o+i,none⟩=some (C i):=by
 obtain⟨A,t,lo,KF,h1,h2⟩:=h;simp[World.cell?,h1,(h2 i hi).1]
def DV{w:World}{b o m i:Nat}{C:Nat->Value}(h:(aG.ro b o m C).holds w)(hi:i<m):w.cell? ⟨b,o+i,none⟩=some (C i):=by
 obtain⟨A,t,fz,h1,h2⟩:=h;simp[World.cell?,h1,h2 i hi]
theorem gZ{w:World}{t:TypeId}{a:Addr}{v:Value}(ht:jL P t=true)(hc:w.cell? a=some v):(loadVar t a).run P w= .ok v w:=by
 simp[loadVar,kN ht,run_load,hc]
def fp{W:World}{S:Nat->Nat->Prop}{H:List aG}{e:aG}(hH:lR H e)(w:World)(h:XM W S H w):e.holds w:=h.fB.1 _ hH.mem
def eA{e:aG}(w:World)(h:e.holds w):e.holds w:=h
theorem V.load{t:TypeId}{x:Operand}{b o i m:Nat}{C:Nat->Value}{v:Value}(hx:ev L x=some (ay b o i))(hH:∀ w,φ w->(aG.cells b o m C).holds w)(hv:i<m/\C i=v)(ht:jL P t=true):bj P n L φ (⟨some d,.load t x,ty,pos,af,gd⟩) v:=fun a w ha hw=>by
 have hc:=eS (hH w hw) hv.1;rw[hv.2]at hc;simp[execOp,av ha hx,Instr.loadAt,Instr.sureAddr,ay,gZ ht hc]
def Vv{t:TypeId}{x:Operand}{b o i m:Nat}{C:Nat->Value}{v:Value}(hx:ev L x=some (ay b o i))(hH:∀ w,φ w->(aG.ro b o m C).holds w)(hv:i<m/\C i=v)(ht:jL P t=true):bj P n L φ (⟨some d,.load t x,ty,pos,af,gd⟩) v:=fun a w ha hw=>by
 have hc:=DV (hH w hw) hv.1;rw[hv.2]at hc;simp[execOp,av ha hx,Instr.loadAt,Instr.sureAddr,ay,gZ ht hc]
theorem run_loadCellsFrom(b o i:Nat)(C:Nat->Value){w:World} :∀ (k j:Nat) (jM:Array Value),(∀ l,j<=l->l<j+k->w.cell? ⟨b,o+(i+l),none⟩=some (C (i+l)))->
  (loadCellsFrom ⟨b,o+i,none⟩ j k jM).run P w= .ok (jM++((List.range' j k).map fun l=>C (i+l)).toArray) w
 | 0,j,jM,_=>by simp[loadCellsFrom]
 | k+1,j,jM,h=>by
  simp only[loadCellsFrom,Sem.run_bind,pU,run_load,h j (Nat.le_refl _) og,Result.andThen_ok];rw[run_loadCellsFrom b o i C k (j+1) _ fun l h1 h2=>h l og og];simp[List.range'_succ]
def ke{w:World}{t:TypeId}{b o i sz:Nat}{C:Nat->Value}(ht:oM P t=true)(hs:fE P t=some sz)(hc:∀ l,l<sz->w.cell? ⟨b,o+(i+l),none⟩=some (C (i+l))):(loadVar t ⟨b,o+i,none⟩).run P w= .ok (dB C i sz) w:=by
 simp only[loadVar,Sem.run_bind,xO ht,Result.andThen_ok,run_sizeOf hs,if_true,loadCells];rw[run_loadCellsFrom b o i C sz 0 #[] fun l _ h2=>hc l og];simp[dB,List.range_eq_range']
def fj{t:TypeId}{x:Operand}{b o i m sz:Nat}{C:Nat->Value}{v:Value}(hx:ev L x=some (ay b o i))(hH:∀ w,φ w->(aG.cells b o m C).holds w)(hv:i+sz<=m/\dB C i sz=v)(ht:oM P t=true)(hs:fE P t=some sz):bj P n L φ (⟨some d,.load t x,ty,pos,af,gd⟩) v:=fun a w ha hw=>by
 have hr:=ke (P:=P) (w:=w) (b:=b) (o:=o) (i:=i) (C:=C) ht hs fun l hl=>eS (hH w hw);rw[hv.2]at hr;simp[execOp,av ha hx,Instr.loadAt,Instr.sureAddr,ay,hr]
def KX{t:TypeId}{x:Operand}{b o i m sz:Nat}{C:Nat->Value}{v:Value}(hx:ev L x=some (ay b o i))(hH:∀ w,φ w->(aG.ro b o m C).holds w)(hv:i+sz<=m/\dB C i sz=v)(ht:oM P t=true)(hs:fE P t=some sz):bj P n L φ (⟨some d,.load t x,ty,pos,af,gd⟩) v:=fun a w ha hw=>by
 have hr:=ke (P:=P) (w:=w) (b:=b) (o:=o) (i:=i) (C:=C) ht hs fun l hl=>DV (hH w hw) og;rw[hv.2]at hr;simp[execOp,av ha hx,Instr.loadAt,Instr.sureAddr,ay,hr]
theorem XO.v{ops:Md}{rest:List Oper}{M:World->Prop}{op:Op}{v:Value}(hv:bj P n L (fun _=>True) ⟨some d,op,ty,pos,af,none⟩ v)(hd:(Nat.blt d n.sz&& !cQ op)=true)
  (h:XO P n ops Q rest ((d,v)::L) M):XO P n ops Q (⟨some d,op,ty,pos,af,none⟩::rest) L M:=XO.val hd (fun a w ha=>hv a w ha trivial) h
theorem XO.l{ops:Md}{rest:List Oper}{M:World->Prop}{op:Op}{v:Value}(hv:bj P n L M ⟨some d,op,ty,pos,af,none⟩ v)(hd:(Nat.blt d n.sz&&(!cQ op&&isR op))=true)
  (h:XO P n ops Q rest ((d,v)::L) M):XO P n ops Q (⟨some d,op,ty,pos,af,none⟩::rest) L M:=XO.akv hd hv h
end
end Go.X

namespace Go.X
open Go
variable{f:FuncId}{v:Value}
inductive o5:List aG->aG->aG->List aG->Prop where
 | aa {e e' H} :o5 (e::H) e e' (e'::H)
 | ao {x e e' H H'} :o5 H e e' H'->o5 (x::H) e e' (x::H')
def o5.del{H H2:List aG}{e e':aG}(h:o5 H e e' H2):∃ H',ox H e H'/\(e'::H').Perm H2:=by
 induction h with
 | aa=>exact⟨_,.aa,.refl _⟩
 | ao _ ih=>obtain⟨H',h1,h2⟩:=ih;exact⟨_,.ao h1,(List.Perm.swap _ _ _).trans (List.Perm.cons _ h2)⟩
def cY(C:Nat->Value)(i:Nat):List Value->Nat->Value
 | []=>C
 | v::r=>cY (ep C i v) (i+1) r
theorem pV(h:one v=true):v.oneCell'=true:=by cases v<;>simp_all[one,Value.oneCell']
theorem ix.setCell{w:World}{b o i:Nat}{A:Array Value}{t:TypeId}{fz:Nat×Nat}(h:w.heap[b]? =some (.cells A t fz))(v:Value){S:Nat->Nat->Prop}(hS:S b (o+i)):ix w (w.setCell ⟨b,o+i,none⟩ v) S:=by
 refine⟨rfl,rfl,rfl,by simp[World.setCell],fun x hx hn=> ?_,fun x A' t' fz' hA=> ?_⟩
 ·have:x≠b:=fun e=>by subst e;exact hn _ hS
  simp only[World.setCell,Array.getElem?_modify];rw[if_neg fun e=>this e.symm]
 ·by_cases hx:x=b
  ·subst hx;rw[h]at hA;simp only[Option.some.injEq,Obj.cells.injEq]at hA;obtain⟨rfl,rfl,rfl⟩:=hA;refine⟨A.setIfInBounds (o+i) v,?_,sq,fun j hj=> ?_⟩
   ·simp[World.setCell,Array.getElem?_modify,h]
   ·have:o+i≠j:=fun e=>by subst e;exact hj hS
    rw[Array.getElem?_setIfInBounds_ne this]
  ·refine⟨A',?_,rfl,fun _ _=>rfl⟩;simp only[World.setCell,Array.getElem?_modify];rw[if_neg fun e=>hx e.symm];exact hA
theorem XM.setCell{W w:World}{S:Nat->Nat->Prop}{H H':List aG}{b o m i:Nat}{C:Nat->Value}(h:XM W S H w)(hd:ox H (.cells b o m C) H')(hi:i<m)(v:Value):XM W S (.cells b o m (ep C i v)::H') (w.setCell ⟨b,o+i,none⟩ v):=by
 have hh:(aG.cells b o m C).holds w:=h.fB.1 _ (hd.cG.mem_iff.2 sq);obtain⟨A,t,lo,KF,h1,h2⟩:=hh;refine h.cC (e':=.cells b o m (ep C i v)) hd rfl (fun b' o' ha=>.inl ha) (ix.setCell h1 v ⟨rfl,og,og⟩) ?_;refine⟨A.setIfInBounds (o+i) v,t,lo,KF,by simp[World.setCell,Array.getElem?_modify,h1],fun j hj=>⟨?_,(h2 j hj).2⟩⟩;have ND:o+i<A.size:=(Array.getElem?_eq_some_iff.1 (h2 i hi).1).1;by_cases KS:j=i
 ·subst KS;simp[ep,ND]
 ·rw[Array.getElem?_setIfInBounds_ne og];simp[ep,KS,(h2 j hj).1]
section
variable{P:Program}{n:Fr}{Q:Exit->Act->World->Prop}{L:PF}{ops:Md}{rest:List Oper}{ty:TypeId}{pos:String}{af:Array Edge}{d:Nat}
variable{W:World}{S:Nat->Nat->Prop}{H H':List aG}
theorem oN{w:World}{b o m i:Nat}{C:Nat->Value}(h:(aG.cells b o m C).holds w)(hi:i<m)(hv:one v=true):(store ⟨b,o+i,none⟩ v).run P w= .ok () (w.setCell ⟨b,o+i,none⟩ v):=by
 rw[run_store P w _ v .plain (pV hv),eS h hi];obtain⟨A,t,lo,KF,h1,h2⟩:=h;have:w.frozen? ⟨b,o+i,none⟩=false:=by
  have:=(h2 i hi).2;simp only[World.frozen?,h1];simp;omega
 simp[this]
def mL{b o m:Nat} :∀ (vs:List Value) (i j:Nat) (C:Nat->Value) (w:World),XM W S (.cells b o m C::H) w->i+j+vs.length<=m->vs.all one=true->
  ∃ w',(storeCells ⟨b,o+i,none⟩ vs j).run P w= .ok () w'/\XM W S (.cells b o m (cY C (i+j) vs)::H) w'
 | [],i,j,C,w,h,_,_=>⟨w,by simp[storeCells],h⟩
 | v::r,i,j,C,w,h,hl,h1=>by
  simp only[List.all_cons,Bool.and_eq_true]at h1;simp only[List.length_cons]at hl;have h2:=h.setCell .aa (i:=i+j) og v;obtain⟨w',hr,hx⟩:=mL r i (j+1) _ _ h2 og h1.2;refine⟨w',?_,by simpa only[cY,Nat.add_assoc]using hx⟩;simp only[storeCells,Sem.run_bind,pU];rw[oN (show(aG.cells b o m C).holds w from h.fB.1 _ sq) og h1.1];exact hr
theorem XO.store{t:TypeId}{x y:Operand}{b o i m:Nat}{C C':Nat->Value}{v:Value}(hx:ev L x=some (ay b o i))(hy:ev L y=some v)(hH:o5 H (.cells b o m C) (.cells b o m C') H')(hi:i<m/\ep C i v=C')(hv:one v=true)(hs:fE P t=some 1)(h:XO P n ops Q rest L (XM W S H')):XO P n ops Q (⟨none,.store t x y,ty,pos,af,none⟩::rest) L (XM W S H):=
 XO.op rfl fun a w ha hw=>by
  obtain⟨H1,hd,hp⟩:=hH.del;have h2:=hw.setCell hd hi.1 v;rw[hi.2]at h2;have er:=hw.cG hd.cG;have hr:=oN (P:=P) (show(aG.cells b o m C).holds w from er.fB.1 _ sq) hi.1 hv;unfold Oper.wp;have:(execOp a.eval ⟨none,.store t x y,ty,pos,af,none⟩).run P w= .ok .skip (w.setCell ⟨b,o+i,none⟩ v):=by
   have hz:(⟨b,o+i,none⟩:Addr).add 0=⟨b,o+i,none⟩:=rfl;simp[execOp,av ha hx,av ha hy,Instr.storeAt,Instr.sureAddr,ay,storeVar,A9 hv,run_sizeOf hs,storeCells,hz,hr]
  rw[this];exact h _ _ ha (h2.cG hp)
def XO.gz{t:TypeId}{x y:Operand}{b o i m sz:Nat}{C C':Nat->Value}{cs:Array Value}(hx:ev L x=some (ay b o i))(hy:ev L y=some (.agg cs))(hH:o5 H (.cells b o m C) (.cells b o m C') H')(hi:i+sz<=m/\cY C i cs.toList=C')(hv:cs.toList.all one=true/\cs.size=sz)(hs:fE P t=some sz)(h:XO P n ops Q rest L (XM W S H')):XO P n ops Q (⟨none,.store t x y,ty,pos,af,none⟩::rest) L (XM W S H):=
 XO.op rfl fun a w ha hw=>by
  obtain⟨H1,hd,hp⟩:=hH.del;obtain⟨w',hr,nH⟩:=mL (P:=P) cs.toList i 0 C w (hw.cG hd.cG) eI hv.1;simp only[Nat.add_zero]at nH;rw[hi.2]at nH;unfold Oper.wp;have:(execOp a.eval ⟨none,.store t x y,ty,pos,af,none⟩).run P w= .ok .skip w':=by
   simp[execOp,av ha hx,av ha hy,Instr.storeAt,Instr.sureAddr,ay,storeVar,Value.cells,run_sizeOf hs,hv.2,hr]
  rw[this];exact h _ _ ha (nH.cG hp)
theorem XM.alloc{w:World}(h:XM W S H w)(A:Array Value)(t:TypeId)(C:Nat->Value)(hC:∀ i,i<A.size->A[i]? =some (C i)):XM W S (.cells w.heap.size 0 A.size C::H) (w.alloc (.cells A t)):=by
 refine h.fresh (fun b o hb=>by obtain⟨rfl,_⟩:=hb;exact Nat.le_refl _) ?_ ?_
 ·refine⟨rfl,rfl,rfl,sq,fun b hb _=>heap_alloc_old w _ hb,fun b A' t' fz hA=>⟨A',?_,rfl,fun _ _=>rfl⟩⟩;rw[heap_alloc_old w _ (dV hA)];exact hA
 ·exact⟨A,t,0,0,heap_alloc_new w _,fun i hi=>⟨by simpa using hC i hi,og⟩⟩
def cellsOf(A:Array Value):Nat->Value:=fun i=>A.getD i undef
theorem iJ(A:Array Value)(i:Nat)(h:i<A.size):A[i]? =some (cellsOf A i):=by simp[cellsOf,h]
def XO.bP{t:TypeId}{z:Value}{m:Nat}{C:Nat->Value}(hC:∀ i,i<m->cellsOf z.cells i=C i)(h:∀ b,XO P n ops Q rest ((d,ay b 0 0)::L) (XM W S (.cells b 0 m C::H)))(hz:DU P t=some z:=by kernel_rfl)(hm:z.cells.size=m:=by exact rfl)(hd:Nat.blt d n.sz=true:=by exact rfl):XO P n ops Q (⟨some d,.alloc t,ty,pos,af,none⟩::rest) L (XM W S H):=
 XO.op rfl fun a w ha hw=>by
  have hx:=hw.alloc z.cells t C fun i hi=>by rw[iJ _ _ hi,hC i (hm▸hi)]
  rw[hm]at hx;unfold Oper.wp;have:(execOp a.eval ⟨some d,.alloc t,ty,pos,af,none⟩).run P w= .ok (.value (ay w.heap.size 0 0)) (w.alloc (.cells z.cells t)):=by
   simp[execOp,Instr.alloc,rh hz,newVar,newRow,newObj,Sem.run,ay]
  rw[this];exact h _ _ _ (ha.put hd _) hx
theorem XO.box{t:TypeId}{x:Operand}{v:Value}{m:Nat}{C:Nat->Value}(hx:ev L x=some v)(hm:v.cells.size=m)(hC:∀ i,i<m->cellsOf v.cells i=C i)(hd:Nat.blt d n.sz=true)(h:∀ b,XO P n ops Q rest ((d,ay b 0 0)::L) (XM W S (.cells b 0 m C::H))):XO P n ops Q (⟨some d,.box t x,ty,pos,af,none⟩::rest) L (XM W S H):=
 XO.op rfl fun a w ha hw=>by
  have nH:=hw.alloc v.cells t C fun i hi=>by rw[iJ _ _ hi,hC i (hm▸hi)]
  rw[hm]at nH;unfold Oper.wp;have:(execOp a.eval ⟨some d,.box t x,ty,pos,af,none⟩).run P w= .ok (.value (ay w.heap.size 0 0)) (w.alloc (.cells v.cells t)):=by
   simp[execOp,av ha hx,Instr.box,newVar,newRow,newObj,Sem.run,ay]
  rw[this];exact h _ _ _ (ha.put hd _) nH
def V.build{t:TypeId}{parts:Array (Nat×Operand)}{vs:Array (Nat×Value)}{v:Value}(hp:parts.toList.mapM (fun x=>(ev L x.2).map fun u=>(x.1,u))=some vs.toList)(hb:∀ w,(Instr.build t vs).run P w= .ok v w){φ:World->Prop}{gd:Option (Nat×Bool)} :bj P n L φ ⟨some d,.build t parts,ty,pos,af,gd⟩ v:=fun a w ha _=>by
  have:parts.map (fun x=>(x.1,a.eval x.2))=vs:=by
   apply Array.toList_inj.1;rw[Array.toList_map];generalize parts.toList=l at hp;generalize vs.toList=us at hp ⊢;clear hb;induction l generalizing us with
   | nil=>simp at hp;subst hp;rfl
   | cons x r ih=>
    simp only[List.mapM_cons,Option.bind_eq_bind]at hp;cases he:ev L x.2 with
    | none=>simp[he]at hp
    | some u=>
     simp only[he,Option.map_some,Option.bind_some]at hp;cases hr:r.mapM (fun x=>(ev L x.2).map fun u=>(x.1,u))with
     | none=>simp[hr]at hp
     | some us'=>
      simp[hr]at hp;subst hp;simp only[List.map_cons];rw[ih us' hr,av ha he]
  have h2:(execOp a.eval ⟨some d,.build t parts,ty,pos,af,gd⟩).run P w= .ok (.value v) w:=by
   have:parts.map (fun (i,x)=>(i,a.eval x))=vs:=this;simp[execOp,this,hb]
  exact h2
def Sn(L:PF):List Operand->Option (List Value)
 | []=>some []
 | x::r=>match ev L x,Sn L r with
  | some v,some vs=>some (v::vs)
  | _,_=>none
theorem rO{a:Act}(ha:ra n L a):∀ (xs:List Operand) (vs:List Value),Sn L xs=some vs->xs.map a.eval=vs
 | [],vs,h=>by simp[Sn]at h;subst h;rfl
 | x::r,vs,h=>by
  simp only[Sn]at h;cases hx:ev L x with
  | none=>simp[hx]at h
  | some v=>
   cases hr:Sn L r with
   | none=>simp[hx,hr]at h
   | some us=>
    simp[hx,hr]at h;subst h;simp only[List.map_cons,av ha hx,rO ha r us hr]
theorem zo{w:World}{a:Act}{xs:List Operand}{vs:List Value}{pG:Array TypeId}{dst:Option Nat}(hc:dg P f=true)(he:xs.map a.eval=vs):(execOp a.eval ⟨dst,.call ⟨.value (.func f),xs.toArray,pG⟩,ty,pos,af,none⟩).run P w= .ok (.enter f vs.toArray) w:=by
 unfold dg at hc;cases hf:P.funcs[f]? with
 | none=>simp[hf]at hc
 | some fn=>
  simp only[hf,Bool.and_eq_true]at hc;obtain⟨h1,h2⟩:=hc;have h3:¬fn.name= "runtime.NumGoroutine" :=by simpa using h1
  have h4:¬fn.body=none:=by cases hb:fn.body<;>simp_all
  have h5:xs.toArray.map a.eval=vs.toArray:=by rw[<-he];simp
  simp[execOp,resolve,Act.eval,Deferred.ofValue,invoke,callFunc,run_program,hf,h3,h4,he]
def XO.call{f:FuncId}{xs:List Operand}{vs:List Value}{pG:Array TypeId}{pre F:List aG}{post:Value->List aG->Prop}(he:Sn L xs=some vs)(hs:Spec P f vs pre post)(hp:cX H pre F)(hc:dg P f=true)(hd:Nat.blt d n.sz=true)(h:∀ v H1,post v H1->XO P n ops Q rest ((d,v)::L) (XM W S (H1++F))):XO P n ops Q (⟨some d,.call ⟨.value (.func f),xs.toArray,pG⟩,ty,pos,af,none⟩::rest) L (XM W S H):=
 XO.op rfl fun a w ha hw=>by
  unfold Oper.wp;rw[zo hc (rO ha xs vs he)];show Calls P f vs.toArray w _;refine(hs w (hw.pick hp).fB).mono ?_;rintro e w' ⟨v,H1,rfl,u5,NF,hx⟩;exact h v H1 u5 _ _ (ha.put hd v) (hw.A8 hp hx fun e he=>List.all_eq_true.1 NF e he)
def XO.ahT{xs:List Operand}{vs:List Value}{pG:Array TypeId}{pre F:List aG}{post:Value->List aG->Prop}(k:Nat)(he:Sn L xs=some vs)(hs:Spec P f vs pre post)(hp:cX H pre F)(hR:(pre.drop k).all (fun e=> !e.wr)=true)(hc:dg P f=true)(hd:Nat.blt d n.sz=true)(h:∀ v H1,post v H1->XO P n ops Q rest ((d,v)::L) (XM W S (H1++(pre.drop k++F)))):XO P n ops Q (⟨some d,.call ⟨.value (.func f),xs.toArray,pG⟩,ty,pos,af,none⟩::rest) L (XM W S H):=
 XO.op rfl fun a w ha hw=>by
  unfold Oper.wp;rw[zo hc (rO ha xs vs he)];show Calls P f vs.toArray w _;refine(hs w (hw.pick hp).fB).mono ?_;rintro e w' ⟨v,H1,rfl,u5,NF,hx⟩;have ahU:pre=pre.take k++pre.drop k:=(List.take_append_drop k pre).symm;have hR':∀ e∈pre.drop k,e.wr=false:=fun e he=>by
   have:=List.all_eq_true.1 hR e he;simpa using this
  have hp':cX H (pre.take k++pre.drop k) F:=by rw[<-ahU];exact hp
  have nH:XM w (cx (pre.take k++pre.drop k)) H1 w':=by rw[<-ahU];exact hx
  exact h v H1 u5 _ _ (ha.put hd v) (hw.aag hp' hR' nH fun e he=>List.all_eq_true.1 NF e he)
def Spec.Vw{args:List Value}{pre:List aG}{post adj:Value->List aG->Prop}(h:Spec P f args pre post)(hp:∀ v H1,post v H1->adj v H1):Spec P f args pre adj:=
 fun w hg=>(h w hg).mono fun _ _ ⟨v,H1,he,hq,hr⟩=>⟨v,H1,he,hp v H1 hq,hr⟩
def ai{post:Value->List aG->Prop}{H1 F:List aG}(hp:cX H H1 F)(KY:H1.all aG.wr=true)(h:post v H1):
  ∀ w,XM W S H w->∃ v' H',Ending.returned v= .returned v'/\post v' H'/\H'.all aG.wr=true/\XM W S H' w:=fun _ hw=>⟨v,H1,rfl,h,KY,hw.pick hp⟩
end
end Go.X
