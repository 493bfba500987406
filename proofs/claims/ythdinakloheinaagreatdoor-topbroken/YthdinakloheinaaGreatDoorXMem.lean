import Derived.WalkKit
import Derived.Deep.LoopGhost
import Derived.Orders
namespace Go.X
open Go
abbrev PF:=List (Nat×Value)
def lk:PF→Nat→Option Value
 | [],_=>none
 | (i,v)::r,j=>bif Nat.beq i j then some v else lk r j
theorem qn(i:Nat)(v:Value)(L:PF)(j:Nat):lk ((i,v)::L) j=if i=j then some v else lk L j:=by
 by_cases h:i=j
 ·subst h;simp[lk]
 ·have:Nat.beq i j=false:=by cases hb:Nat.beq i j with | false=>rfl | true=>exact absurd (Nat.eq_of_beq_eq_true hb) h
  simp[lk,this,h]
structure Fr where
 sz:Nat
 ds:List Deferred
 ps:List Nat
 cs:List (Nat×Nat)
abbrev fr(k:Nat)(ps:List Nat)(cs:List (Nat×Nat)):Fr:=⟨k,[],ps,cs⟩
def Sat(n:Fr)(L:PF)(a:Act):Prop:=a.defers=n.ds∧a.tmps.size=n.sz∧∀ i v,lk L i=some v→a.tmps.getD i undef=v
def ev(L:PF):Operand→Option Value
 | .tmp t=>lk L t
 | .const v=>some v
 | .global g=>some (.pointer (some ⟨g,0,none⟩))
 | .func f=>some (.func (.func f) #[] #[])
theorem az{n:Fr}{L:PF}{a:Act}{x:Operand}{v:Value}(h:Sat n L a)(hx:ev L x=some v):a.eval x=v:=by
 cases x with
 | tmp t=>exact h.2.2 t v hx
 | const c=>simpa [ev,Act.eval]using hx
 | global g=>simpa [ev,Act.eval]using hx
 | func f=>simpa [ev,Act.eval]using hx
theorem Sat.put{n:Fr}{L:PF}{a:Act}{d:Nat}(h:Sat n L a)(hd:Nat.blt d n.sz=true)(v:Value):Sat n ((d,v)::L) (a.put (some d) v):=by
 have hd':d<n.sz:=by simpa using hd
 obtain⟨h1,h2,h3⟩:=h
 refine⟨h1,by simpa [Act.put]using h2,fun i u hi=> ?_⟩
 rw[qn]at hi
 by_cases hid:d=i
 ·subst hid
  simp at hi
  subst hi
  simp[Act.put,h2,hd']
 ·simp only[hid,if_false]at hi
  have:=h3 i u hi
  simp only[Act.put,Array.getD_eq_getD_getElem?]at*
  rw[Array.getElem?_setIfInBounds_ne hid]
  exact this
def Sub(L L':PF):Prop:=∀ i v,lk L' i=some v→lk L i=some v
theorem Sub.sat{n:Fr}{L L':PF}{a:Act}(h:Sub L L')(hs:Sat n L a):Sat n L' a:=
 ⟨hs.1,hs.2.1,fun i v hi=>hs.2.2 i v (h i v hi)⟩
theorem Sub.nil(L:PF):Sub L []:=fun i v h=>by simp[lk]at h
theorem Sub.cons{L L':PF}{i:Nat}{v:Value}(h:lk L i=some v)(hs:Sub L L'):Sub L ((i,v)::L'):=fun j u hj=>by
 rw[qn]at hj
 by_cases hij:i=j
 ·subst hij;simp at hj;subst hj;exact h
 ·simp only[hij,if_false]at hj;exact hs j u hj
section
variable {P:Program} {n:Fr} {Q:Exit→Act→World→Prop} {L L':PF} {M M':World→Prop}
def XC(P:Program)(n:Fr)(c:Code)(Q:Exit→Act→World→Prop)(L:PF)(M:World→Prop):Prop:=
 ∀ a w,Sat n L a→M w→c.wp P Q a w
def XE(n:Fr)(Q:Exit→Act→World→Prop)(e:Exit)(L:PF)(M:World→Prop):Prop:=
 ∀ a w,Sat n L a→M w→Q e a w
theorem XC.keep{c:Code}(L':PF)(hs:Sub L L')(h:XC P n c Q L' M):XC P n c Q L M:=fun a w ha hw=>h a w (hs.sat ha) hw
theorem XC.mono{c:Code}(hm:∀ w,M w→M' w)(h:XC P n c Q L M'):XC P n c Q L M:=fun a w ha hw=>h a w ha (hm w hw)
theorem XE.mono{e:Exit}(hm:∀ w,M w→M' w)(h:XE n Q e L M'):XE n Q e L M:=fun a w ha hw=>h a w ha (hm w hw)
theorem XC.seq{x y:Code}(h:XC P n x (Exit.then (y.wp P Q) Q) L M):XC P n (.seq x y) Q L M:=fun a w ha hw=>wp_seq (h a w ha hw)
theorem XE.next{y:Code}{Q':Exit→Act→World→Prop}(h:XC P n y Q L M):XE n (Exit.then (y.wp P Q) Q') .normal L M:=h
theorem XE.qe{K:Act→World→Prop}(h:XE n Q .ret L M):XE n (Exit.then K Q) .ret L M:=h
theorem XE.nW{K:Act→World→Prop}{i:Nat}(h:XE n Q (.exit i) L M):XE n (Exit.then K Q) (.exit i) L M:=h
theorem XE.jc{i:Nat}(h:XE n Q .normal L M):XE n (Exit.inBlock i Q) .normal L M:=h
theorem XE.nZ{i:Nat}(h:XE n Q .ret L M):XE n (Exit.inBlock i Q) .ret L M:=h
theorem XE.uk{i:Nat}(h:XE n Q .normal L M):XE n (Exit.inBlock i Q) (.exit i) L M:=fun a w ha hw=>by
 simp only[Exit.inBlock,if_true];exact h a w ha hw
theorem XE.zC{i j:Nat}(hij:Nat.beq j i=false)(h:XE n Q (.exit j) L M):XE n (Exit.inBlock i Q) (.exit j) L M:=fun a w ha hw=>by
 have:j≠i:=fun e=>by subst e;rw[Nat.beq_refl]at hij;cases hij
 simp only[Exit.inBlock,this,if_false];exact h a w ha hw
theorem XC.skip(h:XE n Q .normal L M):XC P n .skip Q L M:=fun a w ha hw=>wp_skip (h a w ha hw)
theorem XC.exit{i:Nat}(h:XE n Q (.exit i) L M):XC P n (.exit i) Q L M:=fun a w ha hw=>wp_exit (h a w ha hw)
theorem XC.ret(h:XE n Q .ret L M):XC P n .ret Q L M:=fun a w ha hw=>wp_ret (h a w ha hw)
theorem XC.block{i:Nat}{c:Code}(h:XC P n c (Exit.inBlock i Q) L M):XC P n (.block i c) Q L M:=fun a w ha hw=>wp_block (h a w ha hw)
theorem XC.cond{c:Operand}{x y:Code}{t:Bool}(hc:ev L c=some (.bool t))(ht:t=true→XC P n x Q L M)(hf:t=false→XC P n y Q L M):XC P n (.cond c x y) Q L M:=fun a w ha hw=>
 wp_cond_split (az ha hc) (fun h=>ht h a w ha hw) (fun h=>hf h a w ha hw)
theorem XC.JY{c:Operand}{x y:Code}{p:Prop}[Decidable p](hc:ev L c=some (.bool (decide p)))(ht:p→XC P n x Q L M)(hf:¬p→XC P n y Q L M):
  XC P n (.cond c x y) Q L M:=XC.cond hc (fun h=>ht (of_decide_eq_true h)) (fun h=>hf (of_decide_eq_false h))
theorem XC.LA{c:Operand}{x y:Code}{p:Prop}[Decidable p](hc:ev L c=some (.bool (decide p)))(h:p)(ht:XC P n x Q L M):
  XC P n (.cond c x y) Q L M:=XC.cond hc (fun _=>ht) (fun q=>absurd h (of_decide_eq_false q))
theorem XC.LL{c:Operand}{x y:Code}{p:Prop}[Decidable p](hc:ev L c=some (.bool (decide p)))(h:¬p)(hf:XC P n y Q L M):
  XC P n (.cond c x y) Q L M:=XC.cond hc (fun q=>absurd (of_decide_eq_true q) h) (fun _=>hf)
theorem XC.JS{c:Operand}{x y:Code}{t:Bool}(hc:ev L c=some (.bool t))(h:t=true)(ht:XC P n x Q L M):
  XC P n (.cond c x y) Q L M:=fun a w ha hw=>wp_cond (t:=t) (az ha hc) (by subst h;exact ht a w ha hw)
theorem XC.JJ{c:Operand}{x y:Code}{t:Bool}(hc:ev L c=some (.bool t))(h:t=false)(hf:XC P n y Q L M):
  XC P n (.cond c x y) Q L M:=fun a w ha hw=>wp_cond (t:=t) (az ha hc) (by subst h;exact hf a w ha hw)
theorem XC.loop{σ:Type}{c:Code}(m:σ→Nat)(V:σ→Prop)(I:σ→PF)(J:σ→World→Prop)(x₀:σ)(hv:V x₀)(h₀:Sub L (I x₀))(hj:∀ w,M w→J x₀ w)(round:∀ x,V x→XC P n c (Exit.then (fun a' w'=>∃ x',m x'<m x∧V x'∧Sat n (I x') a'∧J x' w') Q) (I x) (J x)):XC P n (.loop c) Q L M:=fun a w ha hw=>by
 refine wp_loop_ghost (fun k a w=>∃ x,m x=k∧V x∧Sat n (I x) a∧J x w) (m x₀) ⟨x₀,rfl,hv,h₀.sat ha,hj w hw⟩ ?_
 rintro k a w ⟨x,rfl,hV,hs,hJ⟩
 refine wp_mono (round x hV a w hs hJ) ?_
 intro e a' w' hq
 cases e with
 | normal=>obtain⟨x',h1,h2,h3,h4⟩:=hq;exact⟨m x',h1,x',rfl,h2,h3,h4⟩
 | exit id=>exact hq
 | goto l=>exact hq
 | ret=>exact hq
 | panic ch=>exact hq
 | outgrown=>exact hq
theorem XE.again{σ:Type}{m:σ→Nat}{V:σ→Prop}{I:σ→PF}{J:σ→World→Prop}{x:σ}(x':σ)(hm:m x'<m x)(hv:V x')(hs:Sub L (I x'))(hj:∀ w,M w→J x' w):
  XE n (Exit.then (fun a' w'=>∃ x',m x'<m x∧V x'∧Sat n (I x') a'∧J x' w') Q) .normal L M:=fun _ w ha hw=>⟨x',hm,hv,hs.sat ha,hj w hw⟩
theorem XC.cut{c d:Code}(L':PF)(M':World→Prop)(hc:XC P n c (Exit.then (fun a w=>Sat n L' a∧M' w) Q) L M)(hd:XC P n d Q L' M'):XC P n (.seq c d) Q L M:=fun a w ha hw=>by
 refine wp_seq (wp_mono (hc a w ha hw) ?_)
 intro e a' w' hq
 cases e with
 | normal=>exact hd a' w' hq.1 hq.2
 | exit id=>exact hq
 | goto l=>exact hq
 | ret=>exact hq
 | panic ch=>exact hq
 | outgrown=>exact hq
theorem XE.meet{K:PF}{M':World→Prop}(hs:Sub L K)(hm:∀ w,M w→M' w):XE n (Exit.then (fun a w=>Sat n K a∧M' w) Q) .normal L M:=
 fun _ w ha hw=>⟨hs.sat ha,hm w hw⟩
theorem XC.NQ{σ:Type}{c d:Code}(V:σ→Prop)(I:σ→PF)(J:σ→World→Prop)(hc:XC P n c (Exit.then (fun a w=>∃ x,V x∧Sat n (I x) a∧J x w) Q) L M)(hd:∀ x,V x→XC P n d Q (I x) (J x)):XC P n (.seq c d) Q L M:=fun a w ha hw=>by
 refine wp_seq (wp_mono (hc a w ha hw) ?_)
 intro e a' w' hq
 cases e with
 | normal=>obtain⟨x,h1,h2,h3⟩:=hq;exact hd x h1 a' w' h2 h3
 | exit id=>exact hq
 | goto l=>exact hq
 | ret=>exact hq
 | panic ch=>exact hq
 | outgrown=>exact hq
theorem XE.Nv{σ:Type}{V:σ→Prop}{I:σ→PF}{J:σ→World→Prop}(x:σ)(hv:V x)(hs:Sub L (I x))(hj:∀ w,M w→J x w):
  XE n (Exit.then (fun a w=>∃ x,V x∧Sat n (I x) a∧J x w) Q) .normal L M:=fun _ w ha hw=>⟨x,hv,hs.sat ha,hj w hw⟩
def ic:Nat→List Value→PF
 | _,[]=>[]
 | i,v::r=>(i,v)::ic (i+1) r
theorem o5:∀ (l:List Value) (k i:Nat) (v:Value),lk (ic k l) i=some v→k≤i∧l[i-k]? =some v
 | [],_,_,_,h=>by simp[ic,lk]at h
 | x::r,k,i,v,h=>by
  simp only[ic]at h
  rw[qn]at h
  by_cases hk:k=i
  ·subst hk;simp at h;subst h;simp
  ·simp only[hk,if_false]at h
   obtain⟨h1,h2⟩:=o5 r (k+1) i v h
   refine⟨by omega,?_⟩
   have:i-k=(i-(k+1))+1:=by omega
   rw[this];simpa using h2
theorem enter{ps:List Nat}{cs:List (Nat×Nat)}{f:FuncId}{fn:Func}{c:Code}{args:List Value}{R:Ending→World→Prop}(hf:P.funcs[f]? =some fn)(hb:fn.body=some c)(hn:Nat.ble args.length fn.ntmps=true)(h:XC P (fr fn.ntmps ps cs) c (bodyPost P fn R) (ic 0 args) M){w:World}(hw:M w):Calls P f args.toArray w R:=by
 refine calls_of_wp hf hb (h _ w ⟨rfl,?_,?_⟩ hw)
 ·have:args.length≤fn.ntmps:=by simpa using hn
  simp;omega
 ·intro i v hi
  obtain⟨_,h2⟩:=o5 args 0 i v hi
  have hlt:i<args.length:=by
   rcases Nat.lt_or_ge i args.length with h' | h'
   ·exact h'
   ·rw[List.getElem?_eq_none (by simpa using h')]at h2;simp at h2
  have h3:args[i]? =some v:=by simpa using h2
  simp only[Array.getD_eq_getD_getElem?]
  rw[Array.getElem?_append_left (by simpa using hlt)]
  simp[h3]
theorem XE.aV{k:Nat}{ps:List Nat}{cs:List (Nat×Nat)}{fn:Func}{R:Ending→World→Prop}{t:Nat}{v:Value}(hr:fn.results= #[.tmp t])(hv:lk L t=some v)(h:∀ w,M w→R (.returned v) w):XE (fr k ps cs) (bodyPost P fn R) .ret L M:=fun a w ha hw=>
 ⟨ha.1,v,by rw[results_tmp hr];rw[ha.2.2 t v hv],h w hw⟩
theorem XE.bC{k:Nat}{ps:List Nat}{cs:List (Nat×Nat)}{fn:Func}{R:Ending→World→Prop}{t u:Nat}{v v':Value}(hr:fn.results= #[.tmp t,.tmp u])(hv:lk L t=some v)(hv':lk L u=some v')(h:∀ w,M w→R (.returned (.tuple #[v,v'])) w):XE (fr k ps cs) (bodyPost P fn R) .ret L M:=fun a w ha hw=>
 ⟨ha.1,.tuple #[v,v'],by rw[results_tmp2 hr];rw[ha.2.2 t v hv,ha.2.2 u v' hv'],h w hw⟩
theorem XE.s9{k:Nat}{ps:List Nat}{cs:List (Nat×Nat)}{fn:Func}{R:Ending→World→Prop}{t1 t2 t3:Nat}{v1 v2 v3:Value}(hr:fn.results= #[.tmp t1,.tmp t2,.tmp t3])(h1:lk L t1=some v1)(h2:lk L t2=some v2)(h3:lk L t3=some v3)(h:∀ w,M w→R (.returned (.tuple #[v1,v2,v3])) w):XE (fr k ps cs) (bodyPost P fn R) .ret L M:=fun a w ha hw=>
 ⟨ha.1,.tuple #[v1,v2,v3],by
  have:(results fn a.tmps).run P w= .ok (.tuple #[a.tmps.getD t1 undef,a.tmps.getD t2 undef,a.tmps.getD t3 undef]) w:=by simp[results,hr]
  rw[this,ha.2.2 _ _ h1,ha.2.2 _ _ h2,ha.2.2 _ _ h3],h w hw⟩
theorem XE.fD{k:Nat}{ps:List Nat}{cs:List (Nat×Nat)}{fn:Func}{R:Ending→World→Prop}(hr:fn.results= #[])(h:∀ w,M w→R (.returned (.tuple #[])) w):
  XE (fr k ps cs) (bodyPost P fn R) .normal L M:=fun a w ha hw=>⟨ha.1,.tuple #[],by rw[results_none hr],h w hw⟩
theorem XE.K8{k:Nat}{ps:List Nat}{cs:List (Nat×Nat)}{fn:Func}{R:Ending→World→Prop}(hr:fn.results= #[])(h:∀ w,M w→R (.returned (.tuple #[])) w):
  XE (fr k ps cs) (bodyPost P fn R) .ret L M:=fun a w ha hw=>⟨ha.1,.tuple #[],by rw[results_none hr],h w hw⟩
end
def wM(ops:Array Oper)(i:Nat):Nat→Nat→Bool
 | 0,s=>Nat.beq s i
 | k+1,s=>Nat.beq s i||match ops[s]? with
  | some o=>o.after.any fun e=>Region.binds .any e&&wM ops i k e.on
  | none=>false
def yT(l:Array Bool)(i:Nat):Prop:=l.getD i false=true
def ig(ops:Array Oper)(l:Array Bool):Prop:=∀ j o,ops[j]? =some o→yT l j→∀ e∈o.after,Region.binds .any e=true→yT l e.on
theorem rZ{ops:Array Oper}{l:Array Bool}(hc:ig ops l){i:Nat} :∀ (k s:Nat),wM ops i k s=true→yT l s→yT l i
 | 0,s,h,hs=>by simp only[wM]at h;have:=Nat.eq_of_beq_eq_true h;subst this;exact hs
 | k+1,s,h,hs=>by
  simp only[wM,Bool.or_eq_true]at h
  rcases h with h | h
  ·have:=Nat.eq_of_beq_eq_true h;subst this;exact hs
  ·cases ho:ops[s]? with
   | none=>simp[ho]at h
   | some o=>
    simp only[ho]at h
    obtain⟨e,he,hb⟩:=Array.any_eq_true'.1 h
    simp only[Bool.and_eq_true]at hb
    exact rZ hc k e.on hb.2 (hc s o ho hs e he hb.1)
theorem e6{ops:Array Oper}{l:Array Bool}(hc:ig ops l){i:Nat}(hi:i∈Region.ready .any ops l):ig ops (l.setIfInBounds i true):=by
 intro j o ho hj e he hb
 by_cases hji:i=j
 ·subst hji
  obtain⟨_,o',ho',hall⟩:=mem_ready.1 hi
  rw[ho]at ho';cases ho'
  exact getD_set_true (hall e he hb)
 ·have:yT l j:=by unfold yT at*;rwa[getD_set_ne false hji]at hj
  exact getD_set_true (hc j o ho this e he hb)
abbrev pD:=List (List Nat×(World→Prop))
def JL:pD→Array Bool→World→Prop
 | [],_,_=>True
 | p::r,l,w=>((∀ s∈p.1,¬yT l s)→p.2 w)∧JL r l w
theorem JL.more:∀ (B:pD) {l:Array Bool} {w:World} {i:Nat},JL B l w→JL B (l.setIfInBounds i true) w
 | [],_,_,_,_=>trivial
 | _::r,_,_,_,h=>⟨fun hs=>h.1 fun s hp hl=>hs s hp (getD_set_true hl),JL.more r h.2⟩
theorem JL.less:∀ (B:pD) {l:Array Bool} {w:World} {i:Nat},(∀ p∈B,i∉p.1)→JL B (l.setIfInBounds i true) w→JL B l w
 | [],_,_,_,_,_=>trivial
 | p::r,l,w,i,hi,h=>⟨fun hs=>h.1 fun s hp hl=>hs s hp (by
   have:i≠s:=fun e=>hi p (by simp) (e▸hp)
   unfold yT at*;rwa[getD_set_ne false this]at hl),JL.less r (fun q hq=>hi q (by simp[hq])) h.2⟩
section
variable {P:Program} {ops:Array Oper} {Q:Exit→Act→World→Prop}
def Bo(Q:Exit→Act→World→Prop):Exit→Act→World→Prop:=fun e a w=>e= .normal∧Q .normal a w
def sL(P:Program)(ops:Array Oper)(Q:Exit→Act→World→Prop)(B:pD):Nat→Array Bool→Act→World→Prop
 | 0,l,a,w=>JL B l w∧Region.ready .any ops l=[]∧Q .normal a w
 | f+1,l,a,w=>JL B l w∧(Region.ready .any ops l=[]→Q .normal a w)∧∀ i∈Region.ready .any ops l,wpOp P ops (Bo Q) i (sL P ops Q B f (l.setIfInBounds i true)) a w
theorem sL.J{B:pD} :∀ {f:Nat} {l:Array Bool} {a:Act} {w:World},sL P ops Q B f l a w→JL B l w
 | 0,_,_,_,h=>h.1
 | _+1,_,_,_,h=>h.1
theorem Oper.Fy{o:Oper}{a:Act}{w:World}{K:Act→World→Prop}(h:o.wp P a w K (Bo Q)):o.wp P a w K Q:=by
  unfold Oper.wp at*
  generalize (execOp a.eval o).run P w=r at*
  cases r with
  | ok n w'=>
    cases n<;>simp only[Oper.upon]at h ⊢ <;>
      first
        | exact h
        | (refine Calls.mono h (fun e w'' he=> ?_)
           cases e with
           | returned v=>exact he
           | panicked c=>exact absurd he.1 (by simp)
           | outgrown=>obtain⟨_,_,he⟩:=he;exact absurd he.1 (by simp))
  | halt x w'=>cases x<;>simp only[Oper.upon]at h ⊢ <;>first | exact h | exact absurd h.1 (by simp)
theorem Fc{i:Nat}{a:Act}{w:World}{K:Act→World→Prop}(h:wpOp P ops (Bo Q) i K a w):wpOp P ops Q i K a w:=by
 unfold wpOp at*
 split
 ·rename_i ho;simpa [ho]using h
 ·rename_i o ho
  simp only[ho]at h
  split
  ·rename_i hw
   simp only[hw,if_true]at h
   rcases h with h | ⟨_,a',w',h⟩
   ·exact .inl (Oper.Fy h)
   ·exact absurd h.1 (by simp)
  ·rename_i hw;simpa [hw]using h
theorem ka{B:pD} :∀ (f:Nat) (l:Array Bool) (a:Act) (w:World),sL P ops Q B f l a w→wpAny P .any ops Q f l a w
 | 0,_,_,_,h=>⟨h.2.1,h.2.2⟩
 | f+1,_,_,_,h=>⟨h.2.1,fun i hi=>Fc (wpOp_mono (fun a' w'=>ka f _ a' w') (h.2.2 i hi))⟩
def YF(P:Program)(ops:Array Oper)(φ:World→Prop)(o:Oper)(v:Value)(a:Act):Prop:=
 (Region.wanted o (yielded ops a.tmps)=true∧∀ w,φ w→(execOp a.eval o).run P w= .ok (.value v) w)∨
 (Region.wanted o (yielded ops a.tmps)=false∧v=undef)
theorem YF.wpOp{φ:World→Prop}{i:Nat}{o:Oper}{v:Value}{a:Act}(hi:ops[i]? =some o)(hy:YF P ops φ o v a){K:Act→World→Prop}{w:World}(hw:φ w)(h:K (a.put o.dst v) w):wpOp P ops Q i K a w:=by
 unfold Go.wpOp
 simp only[hi]
 rcases hy with⟨h1,hv⟩ | ⟨h1,rfl⟩
 ·simp only[h1,if_true,Oper.wp,hv w hw,Oper.upon];exact .inl h
 ·simp only[h1,Bool.false_eq_true,if_false];exact h
theorem YF.of_same{φ:World→Prop}{o:Oper}{v:Value}{a a':Act}(hy:YF P ops φ o v a)(he:execOp a'.eval o=execOp a.eval o)(hw:Region.wanted o (yielded ops a'.tmps)=Region.wanted o (yielded ops a.tmps)):YF P ops φ o v a':=by
 unfold YF at*;rw[he,hw];exact hy
theorem CK{φ:World→Prop}{j:Nat}{oi oj:Oper}{v:Value}(hj:ops[j]? =some oj)(hap:oi.apart ops oj=true)(hsi:∀ cs b,oi.op≠ .select cs b)(hsj:∀ cs b,oj.op≠ .select cs b){K:Act→World→Prop}{a:Act}{w:World}(hy:YF P ops φ oi v a)(h:wpOp P ops (Bo Q) j K (a.put oi.dst v) w):wpOp P ops (Bo Q) j (fun a' w'=>YF P ops φ oi v a'∧K (a'.put oi.dst v) w') a w:=by
 obtain⟨h1,h2,h3⟩:=Oper.apart_spec hap
 have keep:∀ (a:Act),YF P ops φ oi v a→∀ u,YF P ops φ oi v (a.put oj.dst u):=fun a hy u=>
  hy.of_same (execOp_put oi hsi a oj.dst u h3) (wanted_put oi a oj.dst u h3)
 have keepD:∀ d,YF P ops φ oi v {a with defers:=d::a.defers} :=fun d=>hy.of_same rfl rfl
 unfold wpOp at*
 simp only[hj]at*
 rw[wanted_put oj a oi.dst v h1]at h
 split
 ·rename_i hw
  simp only[hw,if_true]at h
  rcases h with h | ⟨_,a',w',hq⟩
  case inr=>exact absurd hq.1 (by simp)
  refine .inl ?_
  unfold Oper.wp at*
  rw[execOp_put oj hsj a oi.dst v h1]at h
  generalize (execOp a.eval oj).run P w=r at*
  cases r with
  | ok n w'=>
   cases n<;>simp only[Oper.upon]at h ⊢
   case value u=>exact⟨keep a hy u,by rw[←Act.put_comm a v u h2];exact h⟩
   case skip=>exact⟨keep a hy _,by rw[←Act.put_comm a v undef h2];exact h⟩
   case defer d=>
    refine⟨keep _ (keepD d) _,?_⟩
    rw[←Act.put_comm _ v undef h2,←Act.put_defers]
    exact h
   case enter f args=>
    refine Calls.mono h fun e w'' he=> ?_
    cases e with
    | returned u=>exact⟨keep a hy u,by rw[←Act.put_comm a v u h2];exact he⟩
    | panicked c=>exact absurd he.1 (by simp)
    | outgrown=>exact he
   case row row args=>exact Rows.mono h fun u w'' he=>⟨keep a hy u,by rw[←Act.put_comm a v u h2];exact he⟩
  | halt x w'=>
   cases x<;>simp only[Oper.upon]at h ⊢
   case panic u=>exact absurd h.1 (by simp)
 ·rename_i hw
  simp only[hw]at h
  exact⟨keep a hy _,by rw[←Act.put_comm a v undef h2];exact h⟩
theorem oG{B:pD}{φ:World→Prop}{T:List Nat}{i:Nat}{oi:Oper}{v:Value}(hi:ops[i]? =some oi)(hsel:∀ (j:Nat) (o:Oper) cs b,ops[j]? =some o→o.op≠ .select cs b)(hT:∀ s∈T,∃ k,wM ops i k s=true)(hTi:i∉T)(hB:∀ p∈B,i∉p.1):∀ (fuel:Nat) (l:Array Bool) (a:Act) (w:World),ig ops l→(∀ j oj,ops[j]? =some oj→j≠i→l.getD j true=false→(∀ e∈oj.after,Region.binds .any e=true→e.on≠i)→oi.apart ops oj=true)→i∈Region.ready .any ops l→YF P ops φ oi v a→sL P ops Q ((T,φ)::B) fuel (l.setIfInBounds i true) (a.put oi.dst v) w→sL P ops Q B (fuel+1) l a w:=by
 have drop:∀ (f:Nat) (l:Array Bool) (a:Act) (w:World),sL P ops Q ((T,φ)::B) f l a w→sL P ops Q B f l a w:=by
  intro f
  induction f with
  | zero=>intro l a w h;exact⟨h.1.2,h.2.1,h.2.2⟩
  | succ f ih=>intro l a w h;exact⟨h.1.2,h.2.1,fun j hj=>wpOp_mono (fun a' w'=>ih _ a' w') (h.2.2 j hj)⟩
 have ofJ:∀ (l:Array Bool) (w:World),ig ops l→i∈Region.ready .any ops l→JL ((T,φ)::B) (l.setIfInBounds i true) w→φ w∧JL B l w:=by
  intro l w hc hr h
  refine⟨h.1 fun s hs hl=> ?_,JL.less B hB h.2⟩
  have hni:¬yT l i:=by
   have h0:=(mem_ready.1 hr).1
   unfold yT
   intro h1
   rcases Nat.lt_or_ge i l.size with h' | h'
   ·simp[h']at h0 h1;rw[h0]at h1;cases h1
   ·simp[Array.getElem?_eq_none h']at h1
  obtain⟨k,hk⟩:=hT s hs
  have his:i≠s:=fun e=>hTi (e▸hs)
  have:yT l s:=by unfold yT at*;rwa[getD_set_ne false his]at hl
  exact hni (rZ hc k s hk this)
 intro fuel
 induction fuel with
 | zero=>
  intro l a w hc _ hr hy H
  obtain⟨hφ,hJ⟩:=ofJ l w hc hr H.J
  refine⟨hJ,fun h=>(by rw[h]at hr;cases hr),fun j hj=> ?_⟩
  by_cases hji:j=i
  ·subst hji;exact hy.wpOp hi hφ (drop _ _ _ _ H)
  ·have:=ready_mono hj hji
   rw[H.2.1]at this
   cases this
 | succ fuel ih=>
  intro l a w hc hfree hr hy H
  obtain⟨hφ,hJ⟩:=ofJ l w hc hr H.J
  refine⟨hJ,fun h=>(by rw[h]at hr;cases hr),fun j hj=> ?_⟩
  by_cases hji:j=i
  ·subst hji;exact hy.wpOp hi hφ (drop _ _ _ _ H)
  ·have h1:=H.2.2 j (ready_mono hj hji)
   obtain⟨hjun,oj,hoj,hall⟩:=mem_ready.1 hj
   have hnot:∀ e∈oj.after,Region.binds .any e=true→e.on≠i:=fun e he hb heq=>by
    have h1:=hall e he hb
    have h0:=(mem_ready.1 hr).1
    rw[heq]at h1
    rcases Nat.lt_or_ge i l.size with h' | h'
    ·simp[h']at h0 h1;rw[h0]at h1;cases h1
    ·simp[Array.getElem?_eq_none h']at h1
   have h2:=CK hoj (hfree j oj hoj hji hjun hnot) (fun cs b=>hsel i oi cs b hi) (fun cs b=>hsel j oj cs b hoj) hy h1
   have hfree':∀ k ok,ops[k]? =some ok→k≠i→(l.setIfInBounds j true).getD k true=false→
     (∀ e∈ok.after,Region.binds .any e=true→e.on≠i)→oi.apart ops ok=true:=fun k ok hk hki hun hno=>by
    refine hfree k ok hk hki ?_ hno
    by_cases hjk:j=k
    ·subst hjk;exact hjun
    ·rw[getD_set_ne true hjk]at hun;exact hun
   refine wpOp_mono (fun a' w' h3=>ih (l.setIfInBounds j true) a' w' (e6 hc hj) hfree' (ready_mono hr (Ne.symm hji)) h3.1 ?_) h2
   rw[Array.setIfInBounds_comm _ _ hji]
   exact h3.2
theorem lB(ops:Array Oper)(n:Nat):ig ops (Array.replicate n false):=by
 intro j o _ h
 unfold yT at h
 by_cases hj:j<n
 ·simp[hj]at h
 ·simp[hj]at h
end
def cI:Op→Bool
 | .alloc _=>true
 | .box _ _=>true
 | .buildSlice _ _ _=>true
 | .store _ _ _=>true
 | .insert _ _ _ _=>true
 | .makeMap _ _=>true
 | .makeChan _ _=>true
 | .makeSlice _ _ _=>true
 | .mapUpdate _ _ _ _=>true
 | .mapEntry _ _ _=>true
 | .entryStore _ _ _ _=>true
 | .range _ _=>true
 | .next _ _=>true
 | .entry _=>true
 | .go _=>true
 | .defer _=>true
 | .panic _=>true
 | .send _ _=>true
 | .recv _ _ _=>true
 | .select _ _=>true
 | .ready _=>true
 | .waits _=>true
 | .call ⟨.builtin b,_,_⟩=>match b with
  | .len=>false
  | .cap=>false
  | .min=>false
  | .max=>false
  | _=>true
 | .call _=>true
 | _=>false
def Mi:Op→Bool
 | .load _ _=>true
 | .convert _ _ _=>true
 | .lookup _ _ _ _=>true
 | _=>false
def JD(ops:Array Oper)(i:Nat):Bool:=match ops[i]? with
 | some o=>cI o.op
 | none=>false
def mX(ops:Array Oper)(l:Array Bool)(i:Nat):Bool:=Region.noSelect ops&&Region.free .any ops l i&&(Region.ready .any ops l).contains i
def Im(ops:Array Oper):Array Bool→List Nat→Bool
 | l,[]=>(Region.ready .any ops l).isEmpty
 | l,i::r=>(match ops[i]? with
  | none=>false
  | some o=>if cI o.op then Region.ready .any ops l==[i]else mX ops l i&&(!Mi o.op||r.all fun s=> !JD ops s||wM ops i ops.size s))&&Im ops (l.setIfInBounds i true) r
def Fits(ops:Array Oper)(a:Act):List Oper→List Nat→Prop
 | [],[]=>True
 | o::l,i::r=>(ops[i]? =some o∨∃ o',ops[i]? =some o'∧o= {o' with guard:=none} ∧Region.wanted o' (yielded ops a.tmps)=true)∧l.map some=r.map (ops[·]?)
 | _,_=>False
structure GB (ops:Array Oper) (B:pD) (r:List Nat):Prop where
 h1:∀ p∈B,∀ j∈r,JD ops j=true→j∈p.1
 h2:∀ p∈B,∀ s∈p.1,JD ops s=true
theorem GB.tail{ops:Array Oper}{B:pD}{i:Nat}{r:List Nat}(h:GB ops B (i::r)):GB ops B r:=⟨fun p hp j hj=>h.h1 p hp j (List.mem_cons_of_mem _ hj),h.h2⟩
theorem Fits.of_map{ops:Array Oper}(a:Act):∀ {l:List Oper} {r:List Nat},l.map some=r.map (ops[·]?)→Fits ops a l r
 | [],[],_=>trivial
 | [],_::_,h=>by simp at h
 | _::_,[],h=>by simp at h
 | o::l,i::r,h=>by
  simp only[List.map_cons,List.cons.injEq]at h
  exact⟨.inl h.1.symm,h.2⟩
inductive Md where
 | cl (ops:Array Oper)
 | op (ops:Array Oper)
def Md.a:Md→Array Oper
 | .cl o=>o
 | .op o=>o
def KO(P:Program)(Q:Exit→Act→World→Prop):Md→List Oper→Act→World→Prop
 | .cl ops,l,a,w=>wpList P ops Q l a w
 | .op ops,l,a,w=>∀ (r:List Nat) (s:Array Bool) (B:pD),Fits ops a l r→Im ops s r=true→ig ops s→GB ops B r→JL B s w→sL P ops Q B r.length s a w
section
variable {P:Program} {Q:Exit→Act→World→Prop} {md:Md} {rest:List Oper} {a:Act} {w:World}
theorem xW{ops:Array Oper}{s:Array Bool}{i:Nat}(h:i∈Region.ready .any ops s):i<s.size:=by
 have h0:=(mem_ready.1 h).1
 rcases Nat.lt_or_ge i s.size with h' | h'
 ·exact h'
 ·simp[Array.getElem?_eq_none h']at h0
theorem IM{s:Array Bool}{i:Nat}(h:i<s.size):yT (s.setIfInBounds i true) i:=by
 unfold yT;simp[h]
theorem tM{ops:Array Oper}{s:Array Bool}{i:Nat}(hs:i<s.size):∀ {B:pD} (w:World),(∀ p∈B,i∈p.1)→JL B (s.setIfInBounds i true) w
 | [],_,_=>trivial
 | p::r,w,h=>⟨fun hn=>absurd (IM hs) (hn i (h p (by simp))),tM (ops:=ops) hs w (fun q hq=>h q (by simp[hq]))⟩
theorem KO.nil(h:Q .normal a w):KO P Q md [] a w:=by
 cases md with
 | cl ops=>exact h
 | op ops=>
  intro r s B hf hz hc hs hJ
  cases r with
  | cons _ _=>exact hf.elim
  | nil=>
   simp only[Im,List.isEmpty_iff]at hz
   exact⟨hJ,hz,h⟩
theorem DC{o:Oper}{K:Act→World→Prop}(h:Oper.wp P {o with guard:=none} a w K (Bo Q)):o.wp P a w K (Bo Q):=h
theorem KO.Ol{o:Oper}(he:cI o.op=true)(hg:o.guard=none)(h:o.wp P a w (KO P Q md rest) (Bo Q)):KO P Q md (o::rest) a w:=by
 cases md with
 | cl ops=>
  show wpList P ops Q (o::rest) a w
  unfold wpList
  rw[if_pos (by simp[Region.wanted,hg])]
  exact .inl (Oper.Fy h)
 | op ops=>
  intro r s B hf hz hc hs hJ
  cases r with
  | nil=>exact hf.elim
  | cons i r=>
   obtain⟨h1,h2⟩:=hf
   have ho:∃ o',ops[i]? =some o'∧o'.op=o.op∧(∀ K,o.wp P a w K (Bo Q)→o'.wp P a w K (Bo Q))∧Region.wanted o' (yielded ops a.tmps)=true:=by
    rcases h1 with h1 | ⟨o',h1,rfl,h3⟩
    ·exact⟨o,h1,rfl,fun _ h=>h,by simp[Region.wanted,hg]⟩
    ·exact⟨o',h1,rfl,fun _ h=>DC h,h3⟩
   obtain⟨o',ho,hop,hwp,hw⟩:=ho
   simp only[Im,ho,hop,he,if_true,Bool.and_eq_true,beq_iff_eq]at hz
   have hr:i∈Region.ready .any ops s:=by rw[hz.1];simp
   have heat:JD ops i=true:=by simp only[JD,ho,hop,he]
   refine⟨hJ,fun h0=>(by rw[hz.1]at h0;cases h0),fun j hj=> ?_⟩
   rw[hz.1]at hj
   have:j=i:=by simpa using hj
   subst this
   unfold wpOp
   simp only[ho]
   rw[if_pos hw]
   refine .inl (Oper.wp_mono (fun a' w' hk=> ?_) (hwp _ h))
   exact hk r _ B (Fits.of_map a' h2) hz.2 (e6 hc hr) hs.tail (tM (ops:=ops) (xW hr) w' (fun p hp=>hs.h1 p hp j (by simp) heat))
theorem KO.hoist{ops:Array Oper}{i d:Nat}{r:List Nat}{s:Array Bool}{B:pD}{o:Oper}{v:Value}(φ:World→Prop)(ho:ops[i]? =some o)(hdst:o.dst=some d)(he:cI o.op=false)(hφ:Mi o.op=true∨∀ w,φ w)(hw:φ w)(hm:rest.map some=r.map (ops[·]?))(hz:Im ops s (i::r)=true)(hc:ig ops s)(hs:GB ops B (i::r))(hJ:JL B s w)(hv:YF P ops φ o v a)(h:KO P Q (.op ops) rest (a.put (some d) v) w):sL P ops Q B (r.length+1) s a w:=by
 simp only[Im,ho,he,mX,Bool.and_eq_true,Bool.false_eq_true,if_false]at hz
 obtain⟨⟨⟨⟨h1,h2⟩,h3⟩,h4⟩,h5⟩:=hz
 have hr:i∈Region.ready .any ops s:=by simpa using h3
 have hne:∀ j,JD ops j=true→j≠i:=fun j hj e=>by subst e;simp only[JD,ho,he]at hj;cases hj
 have hBi:∀ p∈B,i∉p.1:=fun p hp hi=>hne i (hs.h2 p hp i hi) rfl
 have drop:∀ (φ':World→Prop) (T:List Nat) (f:Nat) (l:Array Bool) (a:Act) (w:World),sL P ops Q B f l a w→(∀ w,φ' w)→sL P ops Q ((T,φ')::B) f l a w:=by
  intro φ' T f
  induction f with
  | zero=>intro l a w h hp;exact⟨⟨fun _=>hp w,h.1⟩,h.2.1,h.2.2⟩
  | succ f ih=>intro l a w h hp;exact⟨⟨fun _=>hp w,h.1⟩,h.2.1,fun j hj=>wpOp_mono (fun a' w' hk=>ih _ a' w' hk hp) (h.2.2 j hj)⟩
 rcases hφ with hR | hφ
 ·refine oG (T:=r.filter (JD ops)) (φ:=φ) ho (Region.noSelect_spec h1) (fun x hx=>⟨ops.size,?_⟩) (fun hi=> ?_) hBi r.length s a w hc (Region.free_spec ho h2) hr hv ?_
  ·simp only[List.mem_filter]at hx
   simp only[hR,Bool.not_true,Bool.false_or]at h4
   have:=List.all_eq_true.1 h4 x hx.1
   simpa [hx.2]using this
  ·simp only[List.mem_filter]at hi;exact hne i hi.2 rfl
  ·rw[hdst]
   refine h r _ _ (Fits.of_map _ hm) h5 (e6 hc hr) ⟨fun p hp j hj hje=> ?_,fun p hp x hx=> ?_⟩ ⟨fun _=>hw,JL.more B hJ⟩
   ·rcases List.mem_cons.1 hp with rfl | hp
    ·exact List.mem_filter.2 ⟨hj,hje⟩
    ·exact hs.tail.h1 p hp j hj hje
   ·rcases List.mem_cons.1 hp with rfl | hp
    ·exact(List.mem_filter.1 hx).2
    ·exact hs.h2 p hp x hx
 ·refine oG (T:=[]) (φ:=φ) ho (Region.noSelect_spec h1) (fun x hx=>by cases hx) (by simp) hBi r.length s a w hc (Region.free_spec ho h2) hr hv ?_
  rw[hdst]
  exact drop φ [] _ _ _ _ (h r _ B (Fits.of_map _ hm) h5 (e6 hc hr) hs.tail (JL.more B hJ)) hφ
theorem KO.val{o:Oper}{d:Nat}{v:Value}(φ:World→Prop)(he:cI o.op=false)(hφ:Mi o.op=true∨∀ w,φ w)(hg:o.guard=none)(hdst:o.dst=some d)(hw:φ w)(hv:∀ w,φ w→(execOp a.eval o).run P w= .ok (.value v) w)(h:KO P Q md rest (a.put (some d) v) w):KO P Q md (o::rest) a w:=by
 cases md with
 | cl ops=>
  show wpList P ops Q (o::rest) a w
  unfold wpList
  rw[if_pos (by simp[Region.wanted,hg])]
  refine .inl ?_
  unfold Oper.wp
  rw[hv w hw]
  rw[←hdst]at h
  exact h
 | op ops=>
  intro r s B hf hz hc hs hJ
  cases r with
  | nil=>exact hf.elim
  | cons i r=>
   obtain⟨h1,h2⟩:=hf
   rcases h1 with h1 | ⟨o',h1,rfl,h3⟩
   ·exact KO.hoist φ h1 hdst he hφ hw h2 hz hc hs hJ (.inl ⟨by simp[Region.wanted,hg],hv⟩) h
   ·exact KO.hoist φ h1 hdst he hφ hw h2 hz hc hs hJ (.inl ⟨h3,hv⟩) h
theorem KO.nv{o:Oper}(hw:Region.wanted o (yielded md.a a.tmps)=true)(h:KO P Q md ({o with guard:=none} ::rest) a w):KO P Q md (o::rest) a w:=by
 cases md with
 | cl ops=>
  have hw:Region.wanted o (yielded ops a.tmps)=true:=hw
  have h':wpList P ops Q ({o with guard:=none} ::rest) a w:=h
  show wpList P ops Q (o::rest) a w
  unfold wpList at h' ⊢
  rw[if_pos (by simp[Region.wanted])]at h'
  rw[if_pos hw]
  exact h'
 | op ops=>
  intro r s B hf hz hc hs hJ
  cases r with
  | nil=>exact hf.elim
  | cons i r=>
   refine h (i::r) s B ⟨?_,hf.2⟩ hz hc hs hJ
   rcases hf.1 with h1 | ⟨o',h1,rfl,h3⟩
   ·exact .inr ⟨o,h1,rfl,hw⟩
   ·exact .inr ⟨o',h1,rfl,h3⟩
theorem KO.jC{o:Oper}{d:Nat}(hw:¬Region.wanted o (yielded md.a a.tmps)=true)(hdst:o.dst=some d)(h:KO P Q md rest (a.put (some d) undef) w):KO P Q md (o::rest) a w:=by
 cases md with
 | cl ops=>
  have hw:¬Region.wanted o (yielded ops a.tmps)=true:=hw
  show wpList P ops Q (o::rest) a w
  unfold wpList
  rw[if_neg hw,hdst]
  exact h
 | op ops=>
  have hw:¬Region.wanted o (yielded ops a.tmps)=true:=hw
  intro r s B hf hz hc hs hJ
  cases r with
  | nil=>exact hf.elim
  | cons i r=>
   have hg:¬o.guard=none:=fun e=>hw (by simp[Region.wanted,e])
   have h1:ops[i]? =some o:=by
    rcases hf.1 with h1 | ⟨o',h1,rfl,h3⟩
    ·exact h1
    ·exact absurd rfl hg
   cases he:cI o.op with
   | false=>exact KO.hoist (fun _=>True) h1 hdst he (.inr fun _=>trivial) trivial hf.2 hz hc hs hJ (.inr ⟨by simpa using hw,rfl⟩) h
   | true=>
    simp only[Im,h1,he,if_true,Bool.and_eq_true,beq_iff_eq]at hz
    have hr:i∈Region.ready .any ops s:=by rw[hz.1];simp
    refine⟨hJ,fun h0=>(by rw[hz.1]at h0;cases h0),fun j hj=> ?_⟩
    rw[hz.1]at hj
    have:j=i:=by simpa using hj
    subst this
    unfold wpOp
    simp only[h1]
    rw[if_neg hw,hdst]
    exact h r _ B (Fits.of_map _ hf.2) hz.2 (e6 hc hr) hs.tail (JL.more B hJ)
end
section
variable {P:Program} {n:Fr} {Q:Exit→Act→World→Prop} {L L':PF} {M M':World→Prop} {ops:Md} {rest l:List Oper}
def XO(P:Program)(n:Fr)(ops:Md)(Q:Exit→Act→World→Prop)(l:List Oper)(L:PF)(M:World→Prop):Prop:=
 ∀ a w,Sat n L a→M w→KO P Q ops l a w
theorem XO.mono(hm:∀ w,M w→M' w)(h:XO P n ops Q l L M'):XO P n ops Q l L M:=fun a w ha hw=>h a w ha (hm w hw)
theorem XO.keep(L':PF)(hs:Sub L L')(h:XO P n ops Q l L' M):XO P n ops Q l L M:=fun a w ha hw=>h a w (hs.sat ha) hw
theorem XC.region{i:Nat}{l:List Oper}(h:XO P n (.cl l.toArray) Q l L M):XC P n (.region i l.toArray false) Q L M:=fun a w ha hw=>wp_region_lit (h a w ha hw)
def An(os:List Oper)(r:List Nat):List Oper:=r.filterMap (os[·]?)
theorem XC.rq{i:Nat}{os:List Oper}(r:List Nat)(hm:P.follows .mixedOrders=true)(hz:(Im os.toArray (Array.replicate os.length false) r&&Nat.beq r.length os.length&&r.all (Nat.blt · os.length))=true)(hM:∀ w k,M w→M {w with drawn:=w.drawn+k})(h:XO P n (.op os.toArray) Q (An os r) L M):XC P n (.region i os.toArray true) Q L M:=fun a w ha hw=>by
 simp only[Bool.and_eq_true]at hz
 obtain⟨⟨h1,h2⟩,h3⟩:=hz
 refine wp_region_any hm ?_
 have hf:(An os r).map some=r.map (os.toArray[·]?):=by
  have h3':∀ x∈r,x<os.length:=fun x hx=>by
   have:=List.all_eq_true.1 h3 x hx
   simpa using this
  clear h1 h2 h3 h
  unfold An
  induction r with
  | nil=>rfl
  | cons x r ih=>
   have hx:x<os.length:=h3' x (by simp)
   have e:os[x]? =some os[x]:=List.getElem?_eq_getElem hx
   rw[List.filterMap_cons_some e,List.map_cons,List.map_cons,ih (fun y hy=>h3' y (by simp[hy]))]
   simp[e]
 have:=ka _ _ _ _ (h a _ ha (hM w 1 hw) r _ [] (Fits.of_map a hf) h1 (lB _ _) ⟨by simp,by simp⟩ trivial)
 have e2:r.length=os.length:=Nat.eq_of_beq_eq_true h2
 rw[e2]at this
 simpa using this
theorem XO.nil(h:XE n Q .normal L M):XO P n ops Q [] L M:=fun a w ha hw=>KO.nil (h a w ha hw)
theorem XO.op{o:Oper}(hg:(o.guard.isNone&&cI o.op)=true)(h:∀ a w,Sat n L a→M w→o.wp P a w (KO P Q ops rest) (Bo Q)):XO P n ops Q (o::rest) L M:=fun a w ha hw=>by
 simp only[Bool.and_eq_true,Option.isNone_iff_eq_none]at hg
 exact KO.Ol hg.2 hg.1 (h a w ha hw)
theorem XO.NM{d:Nat}{op:Op}{ty:TypeId}{pos:String}{af:Array Edge}{v:Value}(hd:(Nat.blt d n.sz&&(!cI op&&Mi op))=true)(hv:∀ a w,Sat n L a→M w→(execOp a.eval ⟨some d,op,ty,pos,af,none⟩).run P w= .ok (.value v) w)(h:XO P n ops Q rest ((d,v)::L) M):XO P n ops Q (⟨some d,op,ty,pos,af,none⟩::rest) L M:=fun a w ha hw=>by
 simp only[Bool.and_eq_true,Bool.not_eq_true']at hd
 exact KO.val M hd.2.1 (.inl hd.2.2) rfl rfl hw (fun w hw=>hv a w ha hw) (h _ w (ha.put hd.1 v) hw)
theorem XO.val{d:Nat}{op:Op}{ty:TypeId}{pos:String}{af:Array Edge}{v:Value}(hd:(Nat.blt d n.sz&& !cI op)=true)(hv:∀ a w,Sat n L a→(execOp a.eval ⟨some d,op,ty,pos,af,none⟩).run P w= .ok (.value v) w)(h:XO P n ops Q rest ((d,v)::L) M):XO P n ops Q (⟨some d,op,ty,pos,af,none⟩::rest) L M:=fun a w ha hw=>by
 simp only[Bool.and_eq_true,Bool.not_eq_true']at hd
 exact KO.val (fun _=>True) hd.2 (.inr fun _=>trivial) rfl rfl trivial (fun w _=>hv a w ha) (h _ w (ha.put hd.1 v) hw)
theorem Ac{a:Act}{o:Oper}{as:Array Oper}{j dj:Nat}{want b:Bool}(hg:o.guard=some (j,want))(hj:(as[j]?).bind (·.dst)=some dj)(ha:Sat n L a)(hl:lk L dj=some (.bool b)):Region.wanted o (yielded as a.tmps)=(b==want):=by
 have hy:=ha.2.2 dj _ hl
 simp only[Region.wanted,hg,yielded,hj]
 simp only[Array.getD_eq_getD_getElem?]at hy
 cases hx:a.tmps[dj]? with
 | none=>rw[hx]at hy;simp[undef]at hy
 | some u=>rw[hx]at hy;simp at hy;subst hy;cases b<;>cases want<;>simp[hx]
theorem XO.nv{o:Oper}{j dj:Nat}{want:Bool}(hg:o.guard=some (j,want))(hj:(ops.a[j]?).bind (·.dst)=some dj)(hl:lk L dj=some (.bool want))(h:XO P n ops Q ({o with guard:=none} ::rest) L M):XO P n ops Q (o::rest) L M:=fun a w ha hw=>
 KO.nv (by rw[Ac hg hj ha hl];simp) (h a w ha hw)
theorem XO.jC{o:Oper}{j dj d:Nat}{want:Bool}(hg:o.guard=some (j,want))(hdst:o.dst=some d)(hd:Nat.blt d n.sz=true)(hj:(ops.a[j]?).bind (·.dst)=some dj)(hl:lk L dj=some (.bool (!want)))(h:XO P n ops Q rest ((d,undef)::L) M):XO P n ops Q (o::rest) L M:=fun a w ha hw=>
 KO.jC (by rw[Ac hg hj ha hl];cases want<;>simp) hdst (h _ w (ha.put hd undef) hw)
theorem XO.yA{o:Oper}{j dj d:Nat}{want:Bool}(hg:o.guard=some (j,want))(hdst:o.dst=some d)(hd:Nat.blt d n.sz=true)(hj:(ops.a[j]?).bind (·.dst)=some dj)(hl:lk L dj=some undef)(h:XO P n ops Q rest ((d,undef)::L) M):XO P n ops Q (o::rest) L M:=fun a w ha hw=>by
 refine KO.jC ?_ hdst (h _ w (ha.put hd undef) hw)
 have hy:=ha.2.2 dj _ hl
 simp only[Region.wanted,hg,yielded,hj]
 simp only[Array.getD_eq_getD_getElem?]at hy
 cases hx:a.tmps[dj]? with
 | none=>simp[hx]
 | some u=>rw[hx]at hy;simp at hy;subst hy;simp[hx,undef]
theorem XO.split{d:Nat}{l:List Oper}{t:Bool}(hl:lk L d=some (.bool t))(ht:t=true→XO P n ops Q l ((d,.bool true)::L) M)(hf:t=false→XO P n ops Q l ((d,.bool false)::L) M):XO P n ops Q l L M:=by
 cases t
 ·refine XO.keep _ (Sub.cons hl ?_) (hf rfl)
  exact fun i v h=>h
 ·refine XO.keep _ (Sub.cons hl ?_) (ht rfl)
  exact fun i v h=>h
theorem XO.Ld{d:Nat}{l:List Oper}{p:Prop}[Decidable p](hl:lk L d=some (.bool (decide p)))(ht:p→XO P n ops Q l ((d,.bool true)::L) M)
  (hf:¬p→XO P n ops Q l ((d,.bool false)::L) M):XO P n ops Q l L M:=XO.split hl (fun h=>ht (of_decide_eq_true h)) (fun h=>hf (of_decide_eq_false h))
theorem XO.Li{d:Nat}{l:List Oper}{p:Prop}[Decidable p](hl:lk L d=some (.bool (decide p)))(h:p)(ht:XO P n ops Q l ((d,.bool true)::L) M):XO P n ops Q l L M:=
 XO.split hl (fun _=>ht) (fun q=>absurd h (of_decide_eq_false q))
theorem XO.L2{d:Nat}{l:List Oper}{p:Prop}[Decidable p](hl:lk L d=some (.bool (decide p)))(h:¬p)(hf:XO P n ops Q l ((d,.bool false)::L) M):XO P n ops Q l L M:=
 XO.split hl (fun q=>absurd (of_decide_eq_true q) h) (fun _=>hf)
end
end Go.X

namespace Go.X
open Go
structure iu where
 v:Value
 e:TypeId
 sz:Nat
 k:Nat
 xs:List Value
inductive ax where
 | cells (b o n:Nat) (C:Nat→Value)
 | ro (b o n:Nat) (C:Nat→Value)
 | row (v:Value) (e:TypeId) (sz k:Nat) (xs:List Value)
 | mark (D:Nat)
 | fam (p:Nat→Bool) (r:Nat→iu)
 | cfam (p:Nat→Bool) (b:Nat→Nat) (n:Nat) (C:Nat→Nat→Value)
def ax.wr:ax→Bool
 | .ro .. =>false
 | .mark _=>false
 | _=>true
def ax.dG:ax→Nat→Nat→Prop
 | .cells b o n _,b',i=>b'=b∧o≤i∧i<o+n
 | .ro b o n _,b',i=>b'=b∧o≤i∧i<o+n
 | .row v _ _ _ _,b',_=>v.ownBlock=some b'
 | .mark D,b',_=>b'=D
 | .fam p r,b',_=>∃ i,p i=true∧(r i).v.ownBlock=some b'
 | .cfam p g n _,b',o=>∃ i,p i=true∧b'=g i∧o<n
def ax.holds(w:World):ax→Prop
 | .cells b o n C=>∃ A t lo hi,w.heap[b]? =some (.cells A t (lo,hi))∧∀ i,i<n→A[o+i]? =some (C i)∧¬(lo≤o+i∧o+i<hi)
 | .ro b o n C=>∃ A t fz,w.heap[b]? =some (.cells A t fz)∧∀ i,i<n→A[o+i]? =some (C i)
 | .row v e sz k xs=>w.ownsRow 0 e sz v k xs
 | .mark D=>w.heap[D]? =some (.deferred (some []))
 | .fam p r=>(∀ i,p i=true→w.ownsRow 0 (r i).e (r i).sz (r i).v (r i).k (r i).xs)∧∀ i j b,p i=true→p j=true→i≠j→(r i).v.ownBlock=some b→(r j).v.ownBlock=some b→False
 | .cfam p g n C=>(∀ i,p i=true→∃ A t lo hi,w.heap[g i]? =some (.cells A t (lo,hi))∧∀ j,j<n→A[j]? =some (C i j)∧¬(lo≤j∧j<hi))∧∀ i j,p i=true→p j=true→i≠j→g i≠g j
def qD(e e':ax):Prop:=(e.wr||e'.wr)=true→∀ b o,e.dG b o→e'.dG b o→False
theorem qD.symm{e e':ax}(h:qD e e'):qD e' e:=fun hw b o h1 h2=>h (by rw[Bool.or_comm];exact hw) b o h2 h1
def Good(H:List ax)(w:World):Prop:=(∀ e∈H,e.holds w)∧H.Pairwise qD
structure fU (w w':World) (S:Nat→Nat→Prop):Prop where
 os:w'.os=w.os
 tape:w'.tape=w.tape
 output:w'.output=w.output
 size:w.heap.size≤w'.heap.size
 same:∀ b,b<w.heap.size→(∀ o,¬S b o)→w'.heap[b]? =w.heap[b]?
 part:∀ b A t fz,w.heap[b]? =some (.cells A t fz)→∃ A',w'.heap[b]? =some (.cells A' t fz)∧A'.size=A.size∧∀ o,¬S b o→A'[o]? =A[o]?
theorem fU.refl(w:World)(S:Nat→Nat→Prop):fU w w S:=
 ⟨rfl,rfl,rfl,Nat.le_refl _,fun _ _ _=>rfl,fun _ A _ _ h=>⟨A,h,rfl,fun _ _=>rfl⟩⟩
theorem cw{w:World}{b:Nat}{o:Obj}(h:w.heap[b]? =some o):b<w.heap.size:=(Array.getElem?_eq_some_iff.1 h).1
theorem fU.trans{a b c:World}{S T U:Nat→Nat→Prop}(h:fU a b S)(k:fU b c T)(hS:∀ x o,S x o→x<a.heap.size→U x o)(hT:∀ x o,T x o→x<a.heap.size→U x o):fU a c U:=
  ⟨k.os.trans h.os,k.tape.trans h.tape,k.output.trans h.output,Nat.le_trans h.size k.size,
   fun x hx hn=>(k.same x (Nat.lt_of_lt_of_le hx h.size) (fun o ho=>hn o (hT x o ho hx))).trans (h.same x hx (fun o ho=>hn o (hS x o ho hx))),
   fun x A t fz hA=>by
    obtain⟨A',h1,h2,h3⟩:=h.part x A t fz hA
    obtain⟨A'',k1,k2,k3⟩:=k.part x A' t fz h1
    have hx:=cw hA
    exact⟨A'',k1,k2.trans h2,fun o ho=>(k3 o (fun q=>ho (hT x o q hx))).trans (h3 o (fun q=>ho (hS x o q hx)))⟩⟩
theorem ax.lt{e:ax}{w:World}(h:e.holds w){b o:Nat}(ha:e.dG b o):b<w.heap.size:=by
 cases e with
 | cells b' o' n C=>obtain⟨A,t,lo,hi,h1,_⟩:=h;obtain⟨rfl,_⟩:=ha;exact cw h1
 | ro b' o' n C=>obtain⟨A,t,fz,h1,_⟩:=h;obtain⟨rfl,_⟩:=ha;exact cw h1
 | row v e sz k xs=>exact(World.ownsRow.lt h b ha).2
 | mark D=>obtain rfl:=ha;exact cw h
 | fam p r=>obtain⟨i,hi,hb⟩:=ha;exact(World.ownsRow.lt (h.1 i hi) b hb).2
 | cfam p g n C=>obtain⟨i,hi,rfl,_⟩:=ha;obtain⟨A,t,lo,hi',h1,_⟩:=h.1 i hi;exact cw h1
theorem uR{w w':World}{S:Nat→Nat→Prop}{v:Value}{e:TypeId}{sz k:Nat}{xs:List Value}(h:w.ownsRow 0 e sz v k xs)(hk:fU w w' S)(ha:∀ b o,v.ownBlock=some b→¬S b o):w'.ownsRow 0 e sz v k xs:=by
 refine⟨h.1,?_⟩
 rcases h.2 with hn | ⟨g,cap,cur,rfl,hb,hg,rest⟩
 ·exact .inl hn
 ·refine .inr ⟨g,cap,cur,rfl,hb,?_,rest⟩
  rw[hk.same g (cw hg) (fun o=>ha g o rfl)]
  exact hg
theorem ax.kept{e:ax}{w w':World}{S:Nat→Nat→Prop}(h:e.holds w)(hk:fU w w' S)(ha:∀ b o,e.dG b o→¬S b o):e.holds w':=by
 cases e with
 | cells b o n C=>
  obtain⟨A,t,lo,hi,h1,h2⟩:=h
  obtain⟨A',k1,k2,k3⟩:=hk.part b A t _ h1
  refine⟨A',t,lo,hi,k1,fun i hi'=> ?_⟩
  obtain⟨h3,h4⟩:=h2 i hi'
  exact⟨by rw[k3 (o+i) (ha b (o+i) ⟨rfl,by omega,by omega⟩)];exact h3,h4⟩
 | ro b o n C=>
  obtain⟨A,t,fz,h1,h2⟩:=h
  obtain⟨A',k1,k2,k3⟩:=hk.part b A t _ h1
  exact⟨A',t,fz,k1,fun i hi'=>by rw[k3 (o+i) (ha b (o+i) ⟨rfl,by omega,by omega⟩)];exact h2 i hi'⟩
 | row v e sz k xs=>
  refine⟨h.1,?_⟩
  rcases h.2 with hn | ⟨g,cap,cur,rfl,hb,hg,rest⟩
  ·exact .inl hn
  ·refine .inr ⟨g,cap,cur,rfl,hb,?_,rest⟩
   rw[hk.same g (cw hg) (fun o=>ha g o rfl)]
   exact hg
 | mark D=>exact(hk.same D (cw h) (fun o=>ha D o rfl)).trans h
 | fam p r=>exact⟨fun i hi=>uR (h.1 i hi) hk (fun b o hb=>ha b o ⟨i,hi,hb⟩),h.2⟩
 | cfam p g n C=>
  refine⟨fun i hi=> ?_,h.2⟩
  obtain⟨A,t,lo,hi',h1,h2⟩:=h.1 i hi
  obtain⟨A',k1,k2,k3⟩:=hk.part (g i) A t _ h1
  exact⟨A',t,lo,hi',k1,fun j hj=>⟨by rw[k3 j (ha (g i) j ⟨i,hi,rfl,hj⟩)];exact(h2 j hj).1,(h2 j hj).2⟩⟩
structure XM (W:World) (S:Nat→Nat→Prop) (H:List ax) (w:World):Prop where
 good:Good H w
 keep:fU W w S
 mine:∀ e∈H,e.wr=true→∀ b o,e.dG b o→W.heap.size≤b∨S b o
def bS(H:List ax)(b o:Nat):Prop:=∃ e∈H,e.wr=true∧e.dG b o
theorem XM.start{H:List ax}{w:World}(h:Good H w):XM w (bS H) H w:=
 ⟨h,fU.refl _ _,fun e he hw _ _ ha=>.inr ⟨e,he,hw,ha⟩⟩
theorem fU.drewN{W w:World}{S:Nat→Nat→Prop}(h:fU W w S)(k:Nat):fU W {w with drawn:=w.drawn+k} S:=
 ⟨h.os,h.tape,h.output,h.size,h.same,h.part⟩
theorem ax.xV{e:ax}{w:World}(k:Nat)(h:e.holds w):e.holds {w with drawn:=k} :=by
 cases e with
 | cells b o n C=>exact h
 | ro b o n C=>exact h
 | row v e sz k xs=>exact h
 | mark D=>exact h
 | fam p r=>exact h
 | cfam p g n C=>exact h
theorem XM.drawn{W w:World}{S:Nat→Nat→Prop}{H:List ax}(h:XM W S H w)(k:Nat):XM W S H {w with drawn:=w.drawn+k} :=
 ⟨⟨fun e he=>ax.xV _ (h.good.1 e he),h.good.2⟩,h.keep.drewN k,h.mine⟩
inductive Has:List ax→ax→Prop where
 | here {e H} :Has (e::H) e
 | there {x e H} :Has H e→Has (x::H) e
theorem Has.mem{H:List ax}{e:ax}(h:Has H e):e∈H:=by
 induction h with
 | here=>simp
 | there _ ih=>exact List.mem_cons_of_mem _ ih
inductive dX:List ax→ax→List ax→Prop where
 | here {e H} :dX (e::H) e H
 | there {x e H H'} :dX H e H'→dX (x::H) e (x::H')
theorem dX.perm{H H':List ax}{e:ax}(h:dX H e H'):H.Perm (e::H'):=by
 induction h with
 | here=>exact .refl _
 | there _ ih=>exact(List.Perm.cons _ ih).trans (List.Perm.swap _ _ _)
inductive bF:List ax→List ax→List ax→Prop where
 | nil {H} :bF H [] H
 | cons {e es H H' F} :dX H e H'→bF H' es F→bF H (e::es) F
theorem bF.perm{H E F:List ax}(h:bF H E F):H.Perm (E++F):=by
 induction h with
 | nil=>exact .refl _
 | cons d _ ih=>exact d.perm.trans (List.Perm.cons _ ih)
theorem sP{H H':List ax}(hp:H.Perm H')(h:H.Pairwise qD):H'.Pairwise qD:=
 (hp.pairwise_iff (fun h=>qD.symm h)).1 h
theorem Good.perm{H H':List ax}{w:World}(hp:H.Perm H')(h:Good H w):Good H' w:=
 ⟨fun e he=>h.1 e (hp.mem_iff.2 he),sP hp h.2⟩
theorem XM.perm{W w:World}{S:Nat→Nat→Prop}{H H':List ax}(hp:H.Perm H')(h:XM W S H w):XM W S H' w:=
 ⟨h.good.perm hp,h.keep,fun e he=>h.mine e (hp.mem_iff.2 he)⟩
theorem XM.left{W w:World}{S:Nat→Nat→Prop}{E F:List ax}(h:XM W S (E++F) w):XM W S E w:=
 ⟨⟨fun e he=>h.good.1 e (List.mem_append.2 (.inl he)),(List.pairwise_append.1 h.good.2).1⟩,h.keep,fun e he=>h.mine e (List.mem_append.2 (.inl he))⟩
theorem XM.pick{W w:World}{S:Nat→Nat→Prop}{H E F:List ax}(hp:bF H E F)(h:XM W S H w):XM W S E w:=(h.perm hp.perm).left
theorem XM.write{W w w':World}{S:Nat→Nat→Prop}{H H':List ax}{e e':ax}(h:XM W S H w)(hd:dX H e H')(hw:e.wr=true)(ha:∀ b o,e'.dG b o→e.dG b o∨w.heap.size≤b)(hk:fU w w' (fun b o=>e.dG b o))(he':e'.holds w'):XM W S (e'::H') w':=by
 have h1:=h.perm hd.perm
 obtain⟨⟨hh,hpw⟩,hkeep,hmine⟩:=h1
 rw[List.pairwise_cons]at hpw
 obtain⟨hap,hpw'⟩:=hpw
 have hmem:∀ x∈H',x.holds w':=fun x hx=>ax.kept (hh x (List.mem_cons_of_mem _ hx)) hk (fun b o hxa hea=>hap x hx (by simp[hw]) b o hea hxa)
 refine⟨⟨?_,?_⟩,?_,?_⟩
 ·intro x hx
  rcases List.mem_cons.1 hx with rfl | hx
  ·exact he'
  ·exact hmem x hx
 ·refine List.pairwise_cons.2 ⟨fun x hx _ b o h1 h2=> ?_,hpw'⟩
  rcases ha b o h1 with h3 | h3
  ·exact hap x hx (by simp[hw]) b o h3 h2
  ·have:=ax.lt (hh x (List.mem_cons_of_mem _ hx)) h2
   omega
 ·refine hkeep.trans hk (fun x o hs _=>hs) (fun x o hs hx=> ?_)
  rcases hmine e (by simp) hw x o hs with h3 | h3
  ·omega
  ·exact h3
 ·intro x hx hxw b o hb
  rcases List.mem_cons.1 hx with rfl | hx
  ·rcases ha b o hb with h3 | h3
   ·exact hmine e (by simp) hw b o h3
   ·have:=hkeep.size;exact .inl (by omega)
  ·exact hmine x (List.mem_cons_of_mem _ hx) hxw b o hb
theorem XM.fresh{W w w':World}{S:Nat→Nat→Prop}{H:List ax}{e':ax}(h:XM W S H w)(ha:∀ b o,e'.dG b o→w.heap.size≤b)(hk:fU w w' (fun _ _=>False))(he':e'.holds w'):XM W S (e'::H) w':=by
 obtain⟨⟨hh,hpw⟩,hkeep,hmine⟩:=h
 refine⟨⟨?_,?_⟩,?_,?_⟩
 ·intro x hx
  rcases List.mem_cons.1 hx with rfl | hx
  ·exact he'
  ·exact ax.kept (hh x hx) hk (fun _ _ _ q=>q)
 ·refine List.pairwise_cons.2 ⟨fun x hx _ b o h1 h2=> ?_,hpw⟩
  have:=ax.lt (hh x hx) h2
  have:=ha b o h1
  omega
 ·exact hkeep.trans hk (fun x o hs _=>hs) (fun x o hs hx=>hs.elim)
 ·intro x hx hxw b o hb
  rcases List.mem_cons.1 hx with rfl | hx
  ·have:=ha b o hb;have:=hkeep.size;exact .inl (by omega)
  ·exact hmine x hx hxw b o hb
def Spec(P:Program)(f:FuncId)(args:List Value)(pre:List ax)(post:Value→List ax→Prop):Prop:=
 ∀ w,Good pre w→Calls P f args.toArray w fun e w'=>∃ v H',e= .returned v∧post v H'∧H'.all ax.wr=true∧XM w (bS pre) H' w'
theorem XM.called{W w w':World}{S:Nat→Nat→Prop}{H pre F H':List ax}(h:XM W S H w)(hp:bF H pre F)(hc:XM w (bS pre) H' w')(hro:∀ e∈H',e.wr=true):XM W S (H'++F) w':=by
 have h1:=h.perm hp.perm
 obtain⟨⟨hh,hpw⟩,hkeep,hmine⟩:=h1
 obtain⟨hpw1,hpw2,hap⟩:=List.pairwise_append.1 hpw
 have hF:∀ x∈F,x.holds w':=fun x hx=>ax.kept (hh x (List.mem_append.2 (.inr hx))) hc.keep (fun b o hxa ⟨e,he,hew,hea⟩=>hap e he x hx (by simp[hew]) b o hea hxa)
 refine⟨⟨?_,?_⟩,?_,?_⟩
 ·intro x hx
  rcases List.mem_append.1 hx with hx | hx
  ·exact hc.good.1 x hx
  ·exact hF x hx
 ·refine List.pairwise_append.2 ⟨hc.good.2,hpw2,fun e he x hx _ b o h1 h2=> ?_⟩
  rcases hc.mine e he (hro e he) b o h1 with h3 | ⟨e',he',hew,hea⟩
  ·have:=ax.lt (hh x (List.mem_append.2 (.inr hx))) h2
   omega
  ·exact hap e' he' x hx (by simp[hew]) b o hea h2
 ·refine hkeep.trans hc.keep (fun x o hs _=>hs) (fun x o ⟨e,he,hew,hea⟩ hx=> ?_)
  rcases hmine e (List.mem_append.2 (.inl he)) hew x o hea with h3 | h3
  ·omega
  ·exact h3
 ·intro x hx hxw b o hb
  rcases List.mem_append.1 hx with hx | hx
  ·rcases hc.mine x hx hxw b o hb with h3 | ⟨e,he,hew,hea⟩
   ·have:=hkeep.size;exact .inl (by omega)
   ·exact hmine e (List.mem_append.2 (.inl he)) hew b o hea
  ·exact hmine x (List.mem_append.2 (.inr hx)) hxw b o hb
theorem XM.IL{W w w':World}{S:Nat→Nat→Prop}{H E R F H':List ax}(h:XM W S H w)(hp:bF H (E++R) F)(hR:∀ e∈R,e.wr=false)(hc:XM w (bS (E++R)) H' w')(hro:∀ e∈H',e.wr=true):XM W S (H'++(R++F)) w':=by
 have h1:=h.perm hp.perm
 have hno:∀ x∈R,∀ b o,x.dG b o→¬bS (E++R) b o:=fun x hx b o hxa ⟨e,he,hew,hea⟩=>by
  have hpw:=h1.good.2
  rw[List.append_assoc]at hpw
  obtain⟨_,_,hap⟩:=List.pairwise_append.1 hpw
  rcases List.mem_append.1 he with he' | he'
  ·exact hap e he' x (List.mem_append.2 (.inl hx)) (by simp[hew]) b o hea hxa
  ·rw[hR e he']at hew;cases hew
 have h2:=h.called hp hc hro
 obtain⟨⟨hh,hpw⟩,hkeep,hmine⟩:=h2
 obtain⟨hpw1,hpw2,hap⟩:=List.pairwise_append.1 hpw
 have hR':∀ x∈R,x.holds w':=fun x hx=>ax.kept (h1.good.1 x (by simp[hx])) hc.keep (hno x hx)
 refine⟨⟨?_,?_⟩,hkeep,?_⟩
 ·intro x hx
  rcases List.mem_append.1 hx with hx | hx
  ·exact hh x (by simp[hx])
  ·rcases List.mem_append.1 hx with hx | hx
   ·exact hR' x hx
   ·exact hh x (by simp[hx])
 ·have hpw0:=h1.good.2
  rw[List.append_assoc]at hpw0
  obtain⟨_,hrf,_⟩:=List.pairwise_append.1 hpw0
  refine List.pairwise_append.2 ⟨hpw1,hrf,fun e he x hx _ b o h3 h4=> ?_⟩
  rcases List.mem_append.1 hx with hx | hx
  ·rcases hc.mine e he (hro e he) b o h3 with h5 | h5
   ·have:=ax.lt (h1.good.1 x (by simp[hx])) h4
    omega
   ·exact hno x hx b o h4 h5
  ·exact hap e he x hx (by simp[hro e he]) b o h3 h4
 ·intro x hx hxw b o hb
  rcases List.mem_append.1 hx with hx | hx
  ·exact hmine x (by simp[hx]) hxw b o hb
  ·rcases List.mem_append.1 hx with hx | hx
   ·rw[hR x hx]at hxw;cases hxw
   ·exact hmine x (by simp[hx]) hxw b o hb
end Go.X
