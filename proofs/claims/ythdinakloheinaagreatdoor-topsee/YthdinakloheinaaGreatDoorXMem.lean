import Derived.KernelRfl
import Derived.WalkKit
import Derived.Deep.LoopGhost
import Derived.Orders
set_option linter.all false
namespace Go.X
variable{t:Bool}{c x y:Code}{fn:Func}{d i j k:Nat}{v:Value}
abbrev qT:Bool:=true
abbrev qF:Bool:=false
open Go
theorem og{p:Prop}(h:p:=by omega):p:=h
theorem sq{p:Prop}(h:p:=by simp):p:=h
theorem aq{p:Prop}(h:p:=by assumption):p:=h
def kq{p:Prop}(h:p:=by kernel_rfl):p:=h
theorem dq{p:Prop}(h:p:=by decide):p:=h
theorem dk{p:Prop}(h:p:=by decide+kernel):p:=h
abbrev PF:=List (Nat×Value)
def lk:PF->Nat->Option Value
 | [],_=>none
 | (i,v)::r,j=>bif Nat.beq i j then some v else lk r j
theorem Bv(i:Nat)(v:Value)(L:PF)(j:Nat):lk ((i,v)::L) j=if i=j then some v else lk L j:=by
 simp_all[lk]
structure Fr where
 sz:Nat
 ds:List Deferred
 ps:List Nat
 cs:List (Nat×Nat)
abbrev fr(k:Nat)(ps:List Nat)(cs:List (Nat×Nat)):Fr:=⟨k,[],ps,cs⟩
def nR(n:Fr)(L:PF)(a:Act):Prop:=a.defers=n.ds/\a.tmps.size=n.sz/\∀ i v,lk L i=some v->a.tmps.getD i undef=v
def ev(L:PF):Operand->Option Value
 | .tmp t=>lk L t
 | .const v=>some v
 | .global g=>some (.pointer (some ⟨g,0,none⟩))
 | .func f=>some (.func (.func f) #[] #[])
theorem ay{n:Fr}{L:PF}{a:Act}{x:Operand}(h:nR n L a)(hx:ev L x=some v):a.eval x=v:=by
 cases x with
 | tmp t=>exact h.2.2 t v hx
 | const c=>simpa [ev,Act.eval]using hx
 | global g=>simpa [ev,Act.eval]using hx
 | func f=>simpa [ev,Act.eval]using hx
theorem nR.put{n:Fr}{L:PF}{a:Act}{d:Nat}(h:nR n L a)(hd:Nat.blt d n.sz=true)(v:Value):nR n ((d,v)::L) (a.put (some d) v):=by
 have hd':d<n.sz:=by simpa using hd
 obtain⟨h1,h2,h3⟩:=h;refine⟨h1,by simpa [Act.put]using h2,fun i u hi=> ?_⟩;rw[Bv]at hi;by_cases hid:d=i
 ·subst hid;simp at hi;subst hi;simp[Act.put,h2,hd']
 ·simp only[hid,if_false]at hi;have:=h3 i u hi;simp only[Act.put,Array.getD_eq_getD_getElem?]at*;simp_all
def Sub(L L':PF):Prop:=∀ i v,lk L' i=some v->lk L i=some v
def Sub.WC{n:Fr}{L L':PF}{a:Act}(h:Sub L L')(hs:nR n L a):nR n L' a:=by grind [Sub,nR]
theorem Sub.nil(L:PF):Sub L []:=fun i v h=>by simp[lk]at h
def Sub.cons{L L':PF}(h:lk L i=some v)(hs:Sub L L'):Sub L ((i,v)::L'):=fun j u hj=>by
 grind [Bv,Sub]
section
variable {P:Program} {n:Fr} {Q:Exit->Act->World->Prop} {L L':PF} {M M':World->Prop}
def XC(P:Program)(n:Fr)(c:Code)(Q:Exit->Act->World->Prop)(L:PF)(M:World->Prop):Prop:=
 ∀ a w,nR n L a->M w->c.wp P Q a w
def XE(n:Fr)(Q:Exit->Act->World->Prop)(e:Exit)(L:PF)(M:World->Prop):Prop:=
 ∀ a w,nR n L a->M w->Q e a w
theorem XC.eK(L':PF)(hs:Sub L L')(h:XC P n c Q L' M):XC P n c Q L M:=fun a w ha hw=>h a w (hs.WC ha) hw
theorem XC.mono(hm:∀ w,M w->M' w)(h:XC P n c Q L M'):XC P n c Q L M:=fun a w ha hw=>h a w ha (hm w hw)
theorem XE.mono{e:Exit}(hm:∀ w,M w->M' w)(h:XE n Q e L M'):XE n Q e L M:=fun a w ha hw=>h a w ha (hm w hw)
def XC.seq{x y:Code}(h:XC P n x (Exit.then (y.wp P Q) Q) L M):XC P n (.seq x y) Q L M:=fun a w ha hw=>wp_seq (h a w ha hw)
def XE.next{Q':Exit->Act->World->Prop}(h:XC P n y Q L M):XE n (Exit.then (y.wp P Q) Q') .normal L M:=h
def ra{K:Act->World->Prop}(h:XE n Q .ret L M):XE n (Exit.then K Q) .ret L M:=h
def pj{K:Act->World->Prop}(h:XE n Q (.exit i) L M):XE n (Exit.then K Q) (.exit i) L M:=h
def gn(h:XE n Q .normal L M):XE n (Exit.inBlock i Q) .normal L M:=h
def lj(h:XE n Q .ret L M):XE n (Exit.inBlock i Q) .ret L M:=h
def w6(h:XE n Q .normal L M):XE n (Exit.inBlock i Q) (.exit i) L M:=fun a w ha hw=>by
 simp only[Exit.inBlock,if_true];exact h a w ha hw
def Ek(RO:Nat.beq j i=false)(h:XE n Q (.exit j) L M):XE n (Exit.inBlock i Q) (.exit j) L M:=fun a w ha hw=>by
 have:j≠i:=fun e=>by subst e;rw[Nat.beq_refl]at RO;cases RO
 simp only[Exit.inBlock,this,if_false];exact h a w ha hw
def XC.skip(h:XE n Q .normal L M):XC P n .skip Q L M:=fun a w ha hw=>wp_skip (h a w ha hw)
def XC.exit{i:Nat}(h:XE n Q (.exit i) L M):XC P n (.exit i) Q L M:=fun a w ha hw=>wp_exit (h a w ha hw)
def XC.ret(h:XE n Q .ret L M):XC P n .ret Q L M:=fun a w ha hw=>wp_ret (h a w ha hw)
theorem XC.block{i:Nat}{c:Code}(h:XC P n c (Exit.inBlock i Q) L M):XC P n (.block i c) Q L M:=fun a w ha hw=>wp_block (h a w ha hw)
theorem XC.cond{c:Operand}{x y:Code}{t:Bool}(hc:ev L c=some (.bool t))(ht:t=true->XC P n x Q L M)(hf:t=false->XC P n y Q L M):XC P n (.cond c x y) Q L M:=fun a w ha hw=>
 wp_cond_split (ay ha hc) (fun h=>ht h a w ha hw) fun h=>hf h a w ha hw
def XC.Nl{c:Operand}{p:Prop}[Decidable p](hc:ev L c=some (.bool (decide p)))(ht:p->XC P n x Q L M)(hf:¬p->XC P n y Q L M):
  XC P n (.cond c x y) Q L M:=XC.cond hc (fun h=>ht (of_decide_eq_true h)) fun h=>hf (of_decide_eq_false h)
def O5{c:Operand}{p:Prop}[Decidable p](hc:ev L c=some (.bool (decide p)))(h:p)(ht:XC P n x Q L M):
  XC P n (.cond c x y) Q L M:=XC.cond hc (fun _=>ht) fun q=>absurd h (of_decide_eq_false q)
def O6{c:Operand}{p:Prop}[Decidable p](hc:ev L c=some (.bool (decide p)))(h:¬p)(hf:XC P n y Q L M):
  XC P n (.cond c x y) Q L M:=XC.cond hc (fun q=>absurd (of_decide_eq_true q) h) fun _=>hf
def B1{c:Operand}(hc:ev L c=some (.bool t))(h:t=true)(ht:XC P n x Q L M):
  XC P n (.cond c x y) Q L M:=fun a w ha hw=>wp_cond (t:=t) (ay ha hc) (by subst h;exact ht a w ha hw)
def B2{c:Operand}(hc:ev L c=some (.bool t))(h:t=false)(hf:XC P n y Q L M):
  XC P n (.cond c x y) Q L M:=fun a w ha hw=>wp_cond (t:=t) (ay ha hc) (by subst h;exact hf a w ha hw)
theorem XC.loop{σ:Type}{c:Code}(m:σ->Nat)(V:σ->Prop)(I:σ->PF)(J:σ->World->Prop)(x₀:σ)(hv:V x₀)(h₀:Sub L (I x₀))(hj:∀ w,M w->J x₀ w)(round:∀ x,V x->XC P n c (Exit.then (fun a' w'=>∃ x',m x'<m x/\V x'/\nR n (I x') a'/\J x' w') Q) (I x) (J x)):XC P n (.loop c) Q L M:=fun a w ha hw=>by
 refine wp_loop_ghost (fun k a w=>∃ x,m x=k/\V x/\nR n (I x) a/\J x w) (m x₀) ⟨x₀,rfl,hv,h₀.WC ha,hj w hw⟩ ?_;rintro k a w ⟨x,rfl,hV,hs,hJ⟩;grind [XC]
def XE.again{σ:Type}{m:σ->Nat}{V:σ->Prop}{I:σ->PF}{J:σ->World->Prop}{x:σ}(x':σ)(hm:m x'<m x)(hv:V x')(hs:Sub L (I x'))(hj:∀ w,M w->J x' w):
  XE n (Exit.then (fun a' w'=>∃ x',m x'<m x/\V x'/\nR n (I x') a'/\J x' w') Q) .normal L M:=fun _ w ha hw=>⟨x',hm,hv,hs.WC ha,hj w hw⟩
theorem XC.cut{d:Code}(L':PF)(M':World->Prop)(hc:XC P n c (Exit.then (fun a w=>nR n L' a/\M' w) Q) L M)(hd:XC P n d Q L' M'):XC P n (.seq c d) Q L M:=fun a w ha hw=>by
 refine wp_seq (wp_mono (hc a w ha hw) ?_);intro e a' w' hq;cases e with
 | normal=>exact hd a' w' hq.1 hq.2
 | exit id=>exact hq
 | goto l=>exact hq
 | ret=>exact hq
 | panic ch=>exact hq
 | outgrown=>exact hq
def WD{K:PF}{M':World->Prop}(hs:Sub L K)(hm:∀ w,M w->M' w):XE n (Exit.then (fun a w=>nR n K a/\M' w) Q) .normal L M:=
 fun _ w ha hw=>⟨hs.WC ha,hm w hw⟩
def XC.agA{σ:Type}{d:Code}(V:σ->Prop)(I:σ->PF)(J:σ->World->Prop)(hc:XC P n c (Exit.then (fun a w=>∃ x,V x/\nR n (I x) a/\J x w) Q) L M)(hd:∀ x,V x->XC P n d Q (I x) (J x)):XC P n (.seq c d) Q L M:=fun a w ha hw=>by
 refine wp_seq (wp_mono (hc a w ha hw) ?_);intro e a' w' hq;cases e with
 | normal=>obtain⟨x,h1,h2,h3⟩:=hq;exact hd x h1 a' w' h2 h3
 | exit id=>exact hq
 | goto l=>exact hq
 | ret=>exact hq
 | panic ch=>exact hq
 | outgrown=>exact hq
def RP{σ:Type}{V:σ->Prop}{I:σ->PF}{J:σ->World->Prop}(x:σ)(hv:V x)(hs:Sub L (I x))(hj:∀ w,M w->J x w):
  XE n (Exit.then (fun a w=>∃ x,V x/\nR n (I x) a/\J x w) Q) .normal L M:=fun _ w ha hw=>⟨x,hv,hs.WC ha,hj w hw⟩
def oC:Nat->List Value->PF
 | _,[]=>[]
 | i,v::r=>(i,v)::oC (i+1) r
def y9:∀ (l:List Value) (k i:Nat) (v:Value),lk (oC k l) i=some v->k<=i/\l[i-k]? =some v
 | [],_,_,_,h=>by simp[oC,lk]at h
 | x::r,k,i,v,h=>by
  simp only[oC]at h;rw[Bv]at h;by_cases hk:k=i
  ·subst hk;simp at h;subst h;simp
  ·simp only[hk,if_false]at h;obtain⟨h1,h2⟩:=y9 r (k+1) i v h;refine⟨by omega,?_⟩;have:i-k=(i-(k+1))+1:=by omega
   rw[this];simpa using h2
theorem enter{ps:List Nat}{cs:List (Nat×Nat)}{f:FuncId}{args:List Value}{R:Ending->World->Prop}(hf:P.funcs[f]? =some fn)(hb:fn.body=some c)(hn:Nat.ble args.length fn.ntmps=true)(h:XC P (fr fn.ntmps ps cs) c (bodyPost P fn R) (oC 0 args) M){w:World}(hw:M w):Calls P f args.toArray w R:=by
 refine calls_of_wp hf hb (h _ w ⟨rfl,?_,?_⟩ hw)
 ·simp_all
 ·intro i v hi;obtain⟨_,h2⟩:=y9 args 0 i v hi;have sO:i<args.length:=by
   grind
  simp_all[Array.getElem?_append_left]
def ah{ps:List Nat}{cs:List (Nat×Nat)}{R:Ending->World->Prop}{t:Nat}(hr:fn.results= #[.tmp t])(hv:lk L t=some v)(h:∀ w,M w->R (.returned v) w):XE (fr k ps cs) (bodyPost P fn R) .ret L M:=fun a w ha hw=>
 ⟨ha.1,v,by rw[results_tmp hr];rw[ha.2.2 t v hv],h w hw⟩
def ao{ps:List Nat}{cs:List (Nat×Nat)}{R:Ending->World->Prop}{t u:Nat}{v':Value}(hr:fn.results= #[.tmp t,.tmp u])(hv:lk L t=some v)(hv':lk L u=some v')(h:∀ w,M w->R (.returned (.tuple #[v,v'])) w):XE (fr k ps cs) (bodyPost P fn R) .ret L M:=fun a w ha hw=>
 ⟨ha.1,.tuple #[v,v'],by rw[results_tmp2 hr];rw[ha.2.2 t v hv,ha.2.2 u v' hv'],h w hw⟩
def mL{ps:List Nat}{cs:List (Nat×Nat)}{R:Ending->World->Prop}{t1 t2 t3:Nat}{v1 v2 v3:Value}(hr:fn.results= #[.tmp t1,.tmp t2,.tmp t3])(h1:lk L t1=some v1)(h2:lk L t2=some v2)(h3:lk L t3=some v3)(h:∀ w,M w->R (.returned (.tuple #[v1,v2,v3])) w):XE (fr k ps cs) (bodyPost P fn R) .ret L M:=fun a w ha hw=>
 ⟨ha.1,.tuple #[v1,v2,v3],by
  have:(results fn a.tmps).run P w= .ok (.tuple #[a.tmps.getD t1 undef,a.tmps.getD t2 undef,a.tmps.getD t3 undef]) w:=by simp[results,hr]
  rw[this,ha.2.2 _ _ h1,ha.2.2 _ _ h2,ha.2.2 _ _ h3],h w hw⟩
def cS{ps:List Nat}{cs:List (Nat×Nat)}{R:Ending->World->Prop}(hr:fn.results= #[])(h:∀ w,M w->R (.returned (.tuple #[])) w):
  XE (fr k ps cs) (bodyPost P fn R) .normal L M:=fun a w ha hw=>⟨ha.1,.tuple #[],by rw[results_none hr],h w hw⟩
def GI{ps:List Nat}{cs:List (Nat×Nat)}{R:Ending->World->Prop}(hr:fn.results= #[])(h:∀ w,M w->R (.returned (.tuple #[])) w):
  XE (fr k ps cs) (bodyPost P fn R) .ret L M:=fun a w ha hw=>⟨ha.1,.tuple #[],by rw[results_none hr],h w hw⟩
end
def Iv(ops:Array Oper)(i:Nat):Nat->Nat->Bool
 | 0,s=>Nat.beq s i
 | k+1,s=>Nat.beq s i||match ops[s]? with
  | some o=>o.after.any fun e=>Region.binds .any e&&Iv ops i k e.on
  | none=>false
def Lm(l:Array Bool)(i:Nat):Prop:=l.getD i false=true
def np(ops:Array Oper)(l:Array Bool):Prop:=∀ j o,ops[j]? =some o->Lm l j->∀ e∈o.after,Region.binds .any e=true->Lm l e.on
def B3{ops:Array Oper}{l:Array Bool}(hc:np ops l){i:Nat} :∀ (k s:Nat),Iv ops i k s=true->Lm l s->Lm l i
 | 0,s,h,hs=>by simp only[Iv]at h;have:=Nat.eq_of_beq_eq_true h;subst this;exact hs
 | k+1,s,h,hs=>by
  simp only[Iv,Bool.or_eq_true]at h;rcases h with h | h
  ·simp_all
  ·cases ho:ops[s]? with
   | none=>simp[ho]at h
   | some o=>
    simp only[ho]at h;obtain⟨e,he,hb⟩:=Array.any_eq_true'.1 h;simp only[Bool.and_eq_true]at hb;exact B3 hc k e.on hb.2 (hc s o ho hs e he hb.1)
theorem jJ{ops:Array Oper}{l:Array Bool}(hc:np ops l)(hi:i∈Region.ready .any ops l):np ops (l.setIfInBounds i true):=by
 intro j o ho hj e he hb;by_cases Wi:i=j
 ·subst Wi;obtain⟨_,o',ho',Ln⟩:=mem_ready.1 hi;rw[ho]at ho';cases ho';exact getD_set_true (Ln e he hb)
 ·have:Lm l j:=by unfold Lm at*;rwa[getD_set_ne false Wi]at hj
  exact getD_set_true (hc j o ho this e he hb)
abbrev Ax:=List (List Nat×(World->Prop))
def JL:Ax->Array Bool->World->Prop
 | [],_,_=>True
 | p::r,l,w=>((∀ s∈p.1,¬Lm l s)->p.2 w)/\JL r l w
theorem JL.ka:∀ (B:Ax) {l:Array Bool} {w:World} {i:Nat},JL B l w->JL B (l.setIfInBounds i true) w
 | [],_,_,_,_=>trivial
 | _::r,_,_,_,h=>⟨fun hs=>h.1 fun s hp hl=>hs s hp (getD_set_true hl),JL.ka r h.2⟩
def JL.Iw:∀ (B:Ax) {l:Array Bool} {w:World} {i:Nat},(∀ p∈B,i∉p.1)->JL B (l.setIfInBounds i true) w->JL B l w
 | [],_,_,_,_,_=>trivial
 | p::r,l,w,i,hi,h=>⟨fun hs=>h.1 fun s hp hl=>hs s hp (by
   have:i≠s:=fun e=>hi p (by simp) (e▸hp)
   unfold Lm at*;rwa[getD_set_ne false this]at hl),JL.Iw r (fun q hq=>hi q (by simp[hq])) h.2⟩
section
variable {P:Program} {ops:Array Oper} {Q:Exit->Act->World->Prop}
def Lo(Q:Exit->Act->World->Prop):Exit->Act->World->Prop:=fun e a w=>e= .normal/\Q .normal a w
def GJ(P:Program)(ops:Array Oper)(Q:Exit->Act->World->Prop)(B:Ax):Nat->Array Bool->Act->World->Prop
 | 0,l,a,w=>JL B l w/\Region.ready .any ops l=[]/\Q .normal a w
 | f+1,l,a,w=>JL B l w/\(Region.ready .any ops l=[]->Q .normal a w)/\∀ i∈Region.ready .any ops l,wpOp P ops (Lo Q) i (GJ P ops Q B f (l.setIfInBounds i true)) a w
def GJ.J{B:Ax} :∀ {f:Nat} {l:Array Bool} {a:Act} {w:World},GJ P ops Q B f l a w->JL B l w
 | 0,_,_,_,h=>h.1
 | _+1,_,_,_,h=>h.1
theorem Ay{o:Oper}{a:Act}{w:World}{K:Act->World->Prop}(h:o.wp P a w K (Lo Q)):o.wp P a w K Q:=by
  unfold Oper.wp at*
  generalize (execOp a.eval o).run P w=r at*
  cases r with
  | ok n w'=>
    cases n<;>simp only[Oper.upon]at h ⊢ <;>
      first
        | exact h
        | (refine Calls.mono h (fun e w'' he=> ?_)
           cases e with
           | returned v=>exact he
           | panicked c=>exact absurd he.1 (by simp)
           | outgrown=>obtain⟨_,_,he⟩:=he;exact absurd he.1 (by simp))
  | halt x w'=>cases x<;>simp only[Oper.upon]at h ⊢ <;>first | exact h | exact absurd h.1 (by simp)
def RR{a:Act}{w:World}{K:Act->World->Prop}(h:wpOp P ops (Lo Q) i K a w):wpOp P ops Q i K a w:=by
 unfold wpOp at*;split
 ·simp_all
 ·rename_i o ho;simp only[ho]at h;split
  ·rename_i hw;simp only[hw,if_true]at h;rcases h with h | ⟨_,a',w',h⟩;all_goals grind [Ay,Lo]
  simp_all
def re{B:Ax} :∀ (f:Nat) (l:Array Bool) (a:Act) (w:World),GJ P ops Q B f l a w->wpAny P .any ops Q f l a w
 | 0,_,_,_,h=>⟨h.2.1,h.2.2⟩
 | f+1,_,_,_,h=>⟨h.2.1,fun i hi=>RR (wpOp_mono (fun a' w'=>re f _ a' w') (h.2.2 i hi))⟩
def YF(P:Program)(ops:Array Oper)(φ:World->Prop)(o:Oper)(v:Value)(a:Act):Prop:=
 (Region.wanted o (yielded ops a.tmps)=true/\∀ w,φ w->(execOp a.eval o).run P w= .ok (.value v) w)\/
 (Region.wanted o (yielded ops a.tmps)=false/\v=undef)
def YF.wpOp{φ:World->Prop}{i:Nat}{o:Oper}{v:Value}{a:Act}(hi:ops[i]? =some o)(hy:YF P ops φ o v a){K:Act->World->Prop}{w:World}(hw:φ w)(h:K (a.put o.dst v) w):wpOp P ops Q i K a w:=by
 unfold Go.wpOp;simp only[hi];rcases hy with⟨h1,hv⟩ | ⟨h1,rfl⟩
 ·simp only[h1,if_true,Oper.wp,hv w hw,Oper.upon];exact .inl h
 simp_all
def YF.Nn{φ:World->Prop}{o:Oper}{a a':Act}(hy:YF P ops φ o v a)(he:execOp a'.eval o=execOp a.eval o)(hw:Region.wanted o (yielded ops a'.tmps)=Region.wanted o (yielded ops a.tmps)):YF P ops φ o v a':=by
 grind [YF]
def O7{φ:World->Prop}{oi oj:Oper}(hj:ops[j]? =some oj)(RS:oi.apart ops oj=true)(hsi:∀ cs b,oi.op≠ .select cs b)(hsj:∀ cs b,oj.op≠ .select cs b){K:Act->World->Prop}{a:Act}{w:World}(hy:YF P ops φ oi v a)(h:wpOp P ops (Lo Q) j K (a.put oi.dst v) w):wpOp P ops (Lo Q) j (fun a' w'=>YF P ops φ oi v a'/\K (a'.put oi.dst v) w') a w:=by
 obtain⟨h1,h2,h3⟩:=Oper.apart_spec RS;have eK:∀ (a:Act),YF P ops φ oi v a->∀ u,YF P ops φ oi v (a.put oj.dst u):=fun a hy u=>
  hy.Nn (execOp_put oi hsi a oj.dst u h3) (wanted_put oi a oj.dst u h3)
 have adV:∀ d,YF P ops φ oi v {a with defers:=d::a.defers} :=fun d=>hy.Nn rfl rfl;unfold wpOp at*;simp only[hj]at*;rw[wanted_put oj a oi.dst v h1]at h;split
 ·rename_i hw;simp only[hw,if_true]at h;rcases h with h | ⟨_,a',w',hq⟩;case inr=>exact absurd hq.1 (by simp)
  refine .inl ?_;unfold Oper.wp at*;rw[execOp_put oj hsj a oi.dst v h1]at h;generalize (execOp a.eval oj).run P w=r at*;cases r with
  | ok n w'=>
   cases n<;>simp only[Oper.upon]at h ⊢;case value u=>exact⟨eK a hy u,by rw[<-Act.put_comm a v u h2];exact h⟩
   case skip=>exact⟨eK a hy _,by rw[<-Act.put_comm a v undef h2];exact h⟩
   case defer d=>
    refine⟨eK _ (adV d) _,?_⟩;rw[<-Act.put_comm _ v undef h2,<-Act.put_defers];exact h
   case enter f args=>
    refine Calls.mono h fun e w'' he=> ?_;cases e with
    | returned u=>exact⟨eK a hy u,by rw[<-Act.put_comm a v u h2];exact he⟩
    | panicked c=>exact absurd he.1 (by simp)
    | outgrown=>exact he
   case row row args=>exact Rows.mono h fun u w'' he=>⟨eK a hy u,by rw[<-Act.put_comm a v u h2];exact he⟩
  | halt x w'=>
   cases x<;>simp only[Oper.upon]at h ⊢;case panic u=>exact absurd h.1 (by simp)
 ·rename_i hw;simp only[hw]at h;exact⟨eK a hy _,by rw[<-Act.put_comm a v undef h2];exact h⟩
def za{B:Ax}{φ:World->Prop}{T:List Nat}{oi:Oper}(hi:ops[i]? =some oi)(adW:∀ (j:Nat) (o:Oper) cs b,ops[j]? =some o->o.op≠ .select cs b)(hT:∀ s∈T,∃ k,Iv ops i k s=true)(hTi:i∉T)(hB:∀ p∈B,i∉p.1):∀ (fuel:Nat) (l:Array Bool) (a:Act) (w:World),np ops l->(∀ j oj,ops[j]? =some oj->j≠i->l.getD j true=false->(∀ e∈oj.after,Region.binds .any e=true->e.on≠i)->oi.apart ops oj=true)->i∈Region.ready .any ops l->YF P ops φ oi v a->GJ P ops Q ((T,φ)::B) fuel (l.setIfInBounds i true) (a.put oi.dst v) w->GJ P ops Q B (fuel+1) l a w:=by
 have drop:∀ (f:Nat) (l:Array Bool) (a:Act) (w:World),GJ P ops Q ((T,φ)::B) f l a w->GJ P ops Q B f l a w:=by
  intro f;induction f with
  | zero=>intro l a w h;exact⟨h.1.2,h.2.1,h.2.2⟩
  | succ f ih=>intro l a w h;exact⟨h.1.2,h.2.1,fun j hj=>wpOp_mono (fun a' w'=>ih _ a' w') (h.2.2 j hj)⟩
 have ofJ:∀ (l:Array Bool) (w:World),np ops l->i∈Region.ready .any ops l->JL ((T,φ)::B) (l.setIfInBounds i true) w->φ w/\JL B l w:=by
  intro l w hc hr h;refine⟨h.1 fun s hs hl=> ?_,JL.Iw B hB h.2⟩;have hni:¬Lm l i:=by
   have h0:=(mem_ready.1 hr).1;grind [Lm]
  obtain⟨k,hk⟩:=hT s hs;have vS:i≠s:=fun e=>hTi (e▸hs);have:Lm l s:=by unfold Lm at*;rwa[getD_set_ne false vS]at hl
  exact hni (B3 hc k s hk this)
 intro fuel;induction fuel with
 | zero=>
  intro l a w hc _ hr hy H;obtain⟨hφ,hJ⟩:=ofJ l w hc hr H.J;refine⟨hJ,fun h=>(by rw[h]at hr;cases hr),fun j hj=> ?_⟩;by_cases Wi:j=i
  ·subst Wi;exact hy.wpOp hi hφ (drop _ _ _ _ H)
  ·have:=ready_mono hj Wi;grind [GJ]
 | succ fuel ih=>
  intro l a w hc ZJ hr hy H;obtain⟨hφ,hJ⟩:=ofJ l w hc hr H.J;refine⟨hJ,fun h=>(by rw[h]at hr;cases hr),fun j hj=> ?_⟩;by_cases Wi:j=i
  ·subst Wi;exact hy.wpOp hi hφ (drop _ _ _ _ H)
  ·have h1:=H.2.2 j (ready_mono hj Wi);obtain⟨agC,oj,hoj,Ln⟩:=mem_ready.1 hj;have agE:∀ e∈oj.after,Region.binds .any e=true->e.on≠i:=fun e he hb heq=>by
    have h1:=Ln e he hb;have h0:=(mem_ready.1 hr).1;grind
   have h2:=O7 hoj (ZJ j oj hoj Wi agC agE) (fun cs b=>adW i oi cs b hi) (fun cs b=>adW j oj cs b hoj) hy h1;have aaE:∀ k ok,ops[k]? =some ok->k≠i->(l.setIfInBounds j true).getD k true=false->
     (∀ e∈ok.after,Region.binds .any e=true->e.on≠i)->oi.apart ops ok=true:=fun k ok hk hki hun vt=>by
    refine ZJ k ok hk hki ?_ vt;by_cases hjk:j=k;all_goals simp_all
   refine wpOp_mono (fun a' w' h3=>ih (l.setIfInBounds j true) a' w' (jJ hc hj) aaE (ready_mono hr (Ne.symm Wi)) h3.1 ?_) h2;grind [Array.setIfInBounds_comm]
def sR(ops:Array Oper)(n:Nat):np ops (Array.replicate n false):=by
 intro j o _ h;unfold Lm at h;by_cases hj:j<n;all_goals simp_all
end
def cx:Op->Bool
 | .alloc _=>true
 | .box _ _=>true
 | .buildSlice _ _ _=>true
 | .store _ _ _=>true
 | .insert _ _ _ _=>true
 | .makeMap _ _=>true
 | .makeChan _ _=>true
 | .makeSlice _ _ _=>true
 | .mapUpdate _ _ _ _=>true
 | .mapEntry _ _ _=>true
 | .entryStore _ _ _ _=>true
 | .range _ _=>true
 | .next _ _=>true
 | .entry _=>true
 | .go _=>true
 | .defer _=>true
 | .panic _=>true
 | .send _ _=>true
 | .recv _ _ _=>true
 | .select _ _=>true
 | .ready _=>true
 | .waits _=>true
 | .call ⟨.builtin b,_,_⟩=>match b with
  | .len=>false
  | .cap=>false
  | .min=>false
  | .max=>false
  | _=>true
 | .call _=>true
 | _=>false
def isR:Op->Bool
 | .load _ _=>true
 | .convert _ _ _=>true
 | .lookup _ _ _ _=>true
 | _=>false
def ZK(ops:Array Oper)(i:Nat):Bool:=match ops[i]? with
 | some o=>cx o.op
 | none=>false
def zb(ops:Array Oper)(l:Array Bool)(i:Nat):Bool:=Region.noSelect ops&&Region.free .any ops l i&&(Region.ready .any ops l).contains i
def WE(ops:Array Oper):Array Bool->List Nat->Bool
 | l,[]=>(Region.ready .any ops l).isEmpty
 | l,i::r=>(match ops[i]? with
  | none=>false
  | some o=>if cx o.op then Region.ready .any ops l==[i]else zb ops l i&&(!isR o.op||r.all fun s=> !ZK ops s||Iv ops i ops.size s))&&WE ops (l.setIfInBounds i true) r
def adX(ops:Array Oper)(a:Act):List Oper->List Nat->Prop
 | [],[]=>True
 | o::l,i::r=>(ops[i]? =some o\/∃ o',ops[i]? =some o'/\o= {o' with guard:=none} /\Region.wanted o' (yielded ops a.tmps)=true)/\l.map some=r.map (ops[·]?)
 | _,_=>False
structure O8 (ops:Array Oper) (B:Ax) (r:List Nat):Prop where
 h1:∀ p∈B,∀ j∈r,ZK ops j=true->j∈p.1
 h2:∀ p∈B,∀ s∈p.1,ZK ops s=true
theorem O8.tail{ops:Array Oper}{B:Ax}{r:List Nat}(h:O8 ops B (i::r)):O8 ops B r:=⟨fun p hp j hj=>h.h1 p hp j (List.mem_cons_of_mem _ hj),h.h2⟩
theorem mS{ops:Array Oper}(a:Act):∀ {l:List Oper} {r:List Nat},l.map some=r.map (ops[·]?)->adX ops a l r
 | [],[],_=>trivial
 | [],_::_,h=>by simp at h
 | _::_,[],h=>by simp at h
 | o::l,i::r,h=>by
  simp only[List.map_cons,List.cons.injEq]at h;exact⟨.inl h.1.symm,h.2⟩
inductive Md where
 | cl (ops:Array Oper)
 | op (ops:Array Oper)
def Md.a:Md->Array Oper
 | .cl o=>o
 | .op o=>o
def KO(P:Program)(Q:Exit->Act->World->Prop):Md->List Oper->Act->World->Prop
 | .cl ops,l,a,w=>wpList P ops Q l a w
 | .op ops,l,a,w=>∀ (r:List Nat) (s:Array Bool) (B:Ax),adX ops a l r->WE ops s r=true->np ops s->O8 ops B r->JL B s w->GJ P ops Q B r.length s a w
section
variable {P:Program} {Q:Exit->Act->World->Prop} {md:Md} {bU:List Oper} {a:Act} {w:World}
def Ix{ops:Array Oper}{s:Array Bool}(h:i∈Region.ready .any ops s):i<s.size:=by
 have h0:=(mem_ready.1 h).1;grind
def WG{s:Array Bool}(h:i<s.size):Lm (s.setIfInBounds i true) i:=by
 simp_all[Lm]
def E3{ops:Array Oper}{s:Array Bool}{i:Nat}(hs:i<s.size):∀ {B:Ax} (w:World),(∀ p∈B,i∈p.1)->JL B (s.setIfInBounds i true) w
 | [],_,_=>trivial
 | p::r,w,h=>⟨fun hn=>absurd (WG hs) (hn i (h p (by simp))),E3 (ops:=ops) hs w fun q hq=>h q (by simp[hq])⟩
theorem KO.nil(h:Q .normal a w):KO P Q md [] a w:=by
 cases md with
 | cl ops=>exact h
 | op ops=>
  intro r s B hf hz hc hs hJ;cases r with
  | cons _ _=>exact hf.elim
  | nil=>
   simp only[WE,List.isEmpty_iff]at hz;exact⟨hJ,hz,h⟩
theorem RT{o:Oper}{K:Act->World->Prop}(h:Oper.wp P {o with guard:=none} a w K (Lo Q)):o.wp P a w K (Lo Q):=h
theorem KO.eff{o:Oper}(he:cx o.op=true)(hg:o.guard=none)(h:o.wp P a w (KO P Q md bU) (Lo Q)):KO P Q md (o::bU) a w:=by
 cases md with
 | cl ops=>
  show wpList P ops Q (o::bU) a w;unfold wpList;rw[if_pos (by simp[Region.wanted,hg])];exact .inl (Ay h)
 | op ops=>
  intro r s B hf hz hc hs hJ;cases r with
  | nil=>exact hf.elim
  | cons i r=>
   obtain⟨h1,h2⟩:=hf;have ho:∃ o',ops[i]? =some o'/\o'.op=o.op/\(∀ K,o.wp P a w K (Lo Q)->o'.wp P a w K (Lo Q))/\Region.wanted o' (yielded ops a.tmps)=true:=by
    rcases h1 with h1 | ⟨o',h1,rfl,h3⟩
    ·exact⟨o,h1,rfl,fun _ h=>h,by simp[Region.wanted,hg]⟩
    grind [RT]
   obtain⟨o',ho,hop,hwp,hw⟩:=ho;simp only[WE,ho,hop,he,if_true,Bool.and_eq_true,beq_iff_eq]at hz;have hr:i∈Region.ready .any ops s:=by rw[hz.1];simp
   have agG:ZK ops i=true:=by simp only[ZK,ho,hop,he]
   refine⟨hJ,fun h0=>(by rw[hz.1]at h0;cases h0),fun j hj=> ?_⟩;rw[hz.1]at hj;have:j=i:=by simpa using hj
   subst this;unfold wpOp;simp only[ho];rw[if_pos hw];refine .inl (Oper.wp_mono (fun a' w' hk=> ?_) (hwp _ h));exact hk r _ B (mS a' h2) hz.2 (jJ hc hr) hs.tail (E3 (ops:=ops) (Ix hr) w' fun p hp=>hs.h1 p hp j (by simp) agG)
theorem KO.E4{ops:Array Oper}{r:List Nat}{s:Array Bool}{B:Ax}{o:Oper}(φ:World->Prop)(ho:ops[i]? =some o)(vT:o.dst=some d)(he:cx o.op=false)(hφ:isR o.op=true\/∀ w,φ w)(hw:φ w)(hm:bU.map some=r.map (ops[·]?))(hz:WE ops s (i::r)=true)(hc:np ops s)(hs:O8 ops B (i::r))(hJ:JL B s w)(hv:YF P ops φ o v a)(h:KO P Q (.op ops) bU (a.put (some d) v) w):GJ P ops Q B (r.length+1) s a w:=by
 simp only[WE,ho,he,zb,Bool.and_eq_true,Bool.false_eq_true,if_false]at hz;obtain⟨⟨⟨⟨h1,h2⟩,h3⟩,h4⟩,h5⟩:=hz;have hr:i∈Region.ready .any ops s:=by simpa using h3
 have gK:∀ j,ZK ops j=true->j≠i:=fun j hj e=>by subst e;simp only[ZK,ho,he]at hj;cases hj
 have hBi:∀ p∈B,i∉p.1:=fun p hp hi=>gK i (hs.h2 p hp i hi) rfl;have drop:∀ (φ':World->Prop) (T:List Nat) (f:Nat) (l:Array Bool) (a:Act) (w:World),GJ P ops Q B f l a w->(∀ w,φ' w)->GJ P ops Q ((T,φ')::B) f l a w:=by
  intro φ' T f;induction f with
  | zero=>intro l a w h hp;exact⟨⟨fun _=>hp w,h.1⟩,h.2.1,h.2.2⟩
  | succ f ih=>intro l a w h hp;exact⟨⟨fun _=>hp w,h.1⟩,h.2.1,fun j hj=>wpOp_mono (fun a' w' hk=>ih _ a' w' hk hp) (h.2.2 j hj)⟩
 rcases hφ with hR | hφ
 ·refine za (T:=r.filter (ZK ops)) (φ:=φ) ho (Region.noSelect_spec h1) (fun x hx=>⟨ops.size,?_⟩) (fun hi=> ?_) hBi r.length s a w hc (Region.free_spec ho h2) hr hv ?_
  ·grind
  ·grind
  ·rw[vT];refine h r _ _ (mS _ hm) h5 (jJ hc hr) ⟨fun p hp j hj hje=> ?_,fun p hp x hx=> ?_⟩ ⟨fun _=>hw,JL.ka B hJ⟩
   ·rcases List.mem_cons.1 hp with rfl | hp
    ·simp_all
    ·exact hs.tail.h1 p hp j hj hje
   ·rcases List.mem_cons.1 hp with rfl | hp
    ·simp_all
    ·exact hs.h2 p hp x hx
 ·refine za (T:=[]) (φ:=φ) ho (Region.noSelect_spec h1) (fun x hx=>by cases hx) (by simp) hBi r.length s a w hc (Region.free_spec ho h2) hr hv ?_;grind [mS,jJ,O8.tail,JL.ka,KO]
theorem KO.val{o:Oper}(φ:World->Prop)(he:cx o.op=false)(hφ:isR o.op=true\/∀ w,φ w)(hg:o.guard=none)(vT:o.dst=some d)(hw:φ w)(hv:∀ w,φ w->(execOp a.eval o).run P w= .ok (.value v) w)(h:KO P Q md bU (a.put (some d) v) w):KO P Q md (o::bU) a w:=by
 cases md with
 | cl ops=>
  show wpList P ops Q (o::bU) a w;unfold wpList;rw[if_pos (by simp[Region.wanted,hg])];refine .inl ?_;unfold Oper.wp;rw[hv w hw];rw[<-vT]at h;exact h
 | op ops=>
  intro r s B hf hz hc hs hJ;cases r with
  | nil=>exact hf.elim
  | cons i r=>
   obtain⟨h1,h2⟩:=hf;rcases h1 with h1 | ⟨o',h1,rfl,h3⟩
   ·exact KO.E4 φ h1 vT he hφ hw h2 hz hc hs hJ (.inl ⟨by simp[Region.wanted,hg],hv⟩) h
   ·exact KO.E4 φ h1 vT he hφ hw h2 hz hc hs hJ (.inl ⟨h3,hv⟩) h
def KO.w7{o:Oper}(hw:Region.wanted o (yielded md.a a.tmps)=true)(h:KO P Q md ({o with guard:=none} ::bU) a w):KO P Q md (o::bU) a w:=by
 cases md with
 | cl ops=>
  have hw:Region.wanted o (yielded ops a.tmps)=true:=hw;have h':wpList P ops Q ({o with guard:=none} ::bU) a w:=h;show wpList P ops Q (o::bU) a w;unfold wpList at h' ⊢;rw[if_pos (by simp[Region.wanted])]at h';rw[if_pos hw];exact h'
 | op ops=>
  intro r s B hf hz hc hs hJ;cases r with
  | nil=>exact hf.elim
  | cons i r=>
   refine h (i::r) s B ⟨?_,hf.2⟩ hz hc hs hJ;rcases hf.1 with h1 | ⟨o',h1,rfl,h3⟩
   ·grind [Md.a]
   ·simp_all
def KO.qf{o:Oper}(hw:¬Region.wanted o (yielded md.a a.tmps)=true)(vT:o.dst=some d)(h:KO P Q md bU (a.put (some d) undef) w):KO P Q md (o::bU) a w:=by
 cases md with
 | cl ops=>
  have hw:¬Region.wanted o (yielded ops a.tmps)=true:=hw;show wpList P ops Q (o::bU) a w;unfold wpList;rw[if_neg hw,vT];exact h
 | op ops=>
  have hw:¬Region.wanted o (yielded ops a.tmps)=true:=hw;intro r s B hf hz hc hs hJ;cases r with
  | nil=>exact hf.elim
  | cons i r=>
   have hg:¬o.guard=none:=fun e=>hw (by simp[Region.wanted,e]);have h1:ops[i]? =some o:=by
    rcases hf.1 with h1 | ⟨o',h1,rfl,h3⟩;all_goals simp_all
   cases he:cx o.op with
   | false=>exact KO.E4 (fun _=>True) h1 vT he (.inr fun _=>trivial) trivial hf.2 hz hc hs hJ (.inr ⟨by simpa using hw,rfl⟩) h
   | true=>
    simp only[WE,h1,he,if_true,Bool.and_eq_true,beq_iff_eq]at hz;have hr:i∈Region.ready .any ops s:=by rw[hz.1];simp
    refine⟨hJ,fun h0=>(by rw[hz.1]at h0;cases h0),fun j hj=> ?_⟩;rw[hz.1]at hj;have:j=i:=by simpa using hj
    subst this;unfold wpOp;simp only[h1];rw[if_neg hw,vT];exact h r _ B (mS _ hf.2) hz.2 (jJ hc hr) hs.tail (JL.ka B hJ)
end
section
variable {P:Program} {n:Fr} {Q:Exit->Act->World->Prop} {L L':PF} {M M':World->Prop} {ops:Md} {bU l:List Oper}
def XO(P:Program)(n:Fr)(ops:Md)(Q:Exit->Act->World->Prop)(l:List Oper)(L:PF)(M:World->Prop):Prop:=
 ∀ a w,nR n L a->M w->KO P Q ops l a w
theorem XO.mono(hm:∀ w,M w->M' w)(h:XO P n ops Q l L M'):XO P n ops Q l L M:=fun a w ha hw=>h a w ha (hm w hw)
theorem XO.eK(L':PF)(hs:Sub L L')(h:XO P n ops Q l L' M):XO P n ops Q l L M:=fun a w ha hw=>h a w (hs.WC ha) hw
def XC.region{i:Nat}{l:List Oper}(h:XO P n (.cl l.toArray) Q l L M):XC P n (.region i l.toArray false) Q L M:=fun a w ha hw=>wp_region_lit (h a w ha hw)
def No(os:List Oper)(r:List Nat):List Oper:=r.filterMap (os[·]?)
def XC.rq{os:List Oper}(r:List Nat)(hm:P.follows .mixedOrders=true)(hz:(WE os.toArray (Array.replicate os.length false) r&&Nat.beq r.length os.length&&r.all (Nat.blt · os.length))=true)(hM:∀ w k,M w->M {w with drawn:=w.drawn+k})(h:XO P n (.op os.toArray) Q (No os r) L M):XC P n (.region i os.toArray true) Q L M:=fun a w ha hw=>by
 simp only[Bool.and_eq_true]at hz;obtain⟨⟨h1,h2⟩,h3⟩:=hz;refine wp_region_any hm ?_;have hf:(No os r).map some=r.map (os.toArray[·]?):=by
  have h3':∀ x∈r,x<os.length:=fun x hx=>by
   simp_all
  clear h1 h2 h3 h;unfold No;induction r with
  | nil=>rfl
  | cons x r ih=>
   have hx:x<os.length:=h3' x (by simp);have e:os[x]? =some os[x]:=List.getElem?_eq_getElem hx;rw[List.filterMap_cons_some e,List.map_cons,List.map_cons,ih fun y hy=>h3' y (by simp[hy])];simp[e]
 have:=re _ _ _ _ (h a _ ha (hM w 1 hw) r _ [] (mS a hf) h1 (sR _ _) ⟨by simp,by simp⟩ trivial);simp_all
theorem XO.nil(h:XE n Q .normal L M):XO P n ops Q [] L M:=fun a w ha hw=>KO.nil (h a w ha hw)
def XO.op{o:Oper}(hg:(o.guard.isNone&&cx o.op)=true)(h:∀ a w,nR n L a->M w->o.wp P a w (KO P Q ops bU) (Lo Q)):XO P n ops Q (o::bU) L M:=fun a w ha hw=>by
 grind [Option.isNone_iff_eq_none,KO.eff]
def XO.agH{op:Op}{ty:TypeId}{pos:String}{af:Array Edge}(hd:(Nat.blt d n.sz&&(!cx op&&isR op))=true)(hv:∀ a w,nR n L a->M w->(execOp a.eval ⟨some d,op,ty,pos,af,none⟩).run P w= .ok (.value v) w)(h:XO P n ops Q bU ((d,v)::L) M):XO P n ops Q (⟨some d,op,ty,pos,af,none⟩::bU) L M:=fun a w ha hw=>by
 simp only[Bool.and_eq_true,Bool.not_eq_true']at hd;exact KO.val M hd.2.1 (.inl hd.2.2) rfl rfl hw (fun w hw=>hv a w ha hw) (h _ w (ha.put hd.1 v) hw)
theorem XO.val{d:Nat}{op:Op}{ty:TypeId}{pos:String}{af:Array Edge}{v:Value}(hd:(Nat.blt d n.sz&& !cx op)=true)(hv:∀ a w,nR n L a->(execOp a.eval ⟨some d,op,ty,pos,af,none⟩).run P w= .ok (.value v) w)(h:XO P n ops Q bU ((d,v)::L) M):XO P n ops Q (⟨some d,op,ty,pos,af,none⟩::bU) L M:=fun a w ha hw=>by
 simp only[Bool.and_eq_true,Bool.not_eq_true']at hd;exact KO.val (fun _=>True) hd.2 (.inr fun _=>trivial) rfl rfl trivial (fun w _=>hv a w ha) (h _ w (ha.put hd.1 v) hw)
theorem Np{a:Act}{o:Oper}{as:Array Oper}{dj:Nat}{want b:Bool}(hg:o.guard=some (j,want))(hj:(as[j]?).bind (·.dst)=some dj)(ha:nR n L a)(hl:lk L dj=some (.bool b)):Region.wanted o (yielded as a.tmps)=(b==want):=by
 have hy:=ha.2.2 dj _ hl;simp only[Region.wanted,hg,yielded,hj];simp only[Array.getD_eq_getD_getElem?]at hy;cases hx:a.tmps[dj]? with
 | none=>rw[hx]at hy;simp[undef]at hy
 | some u=>rw[hx]at hy;simp at hy;subst hy;cases b<;>cases want<;>simp[hx]
def XO.w7{o:Oper}{j dj:Nat}{want:Bool}(hg:o.guard=some (j,want))(hj:(ops.a[j]?).bind (·.dst)=some dj)(hl:lk L dj=some (.bool want))(h:XO P n ops Q ({o with guard:=none} ::bU) L M):XO P n ops Q (o::bU) L M:=fun a w ha hw=>
 KO.w7 (by rw[Np hg hj ha hl];simp) (h a w ha hw)
def XO.qf{o:Oper}{j dj d:Nat}{want:Bool}(hg:o.guard=some (j,want))(vT:o.dst=some d)(hd:Nat.blt d n.sz=true)(hj:(ops.a[j]?).bind (·.dst)=some dj)(hl:lk L dj=some (.bool (!want)))(h:XO P n ops Q bU ((d,undef)::L) M):XO P n ops Q (o::bU) L M:=fun a w ha hw=>
 KO.qf (by rw[Np hg hj ha hl];cases want<;>simp) vT (h _ w (ha.put hd undef) hw)
def El{o:Oper}{dj:Nat}{want:Bool}(hg:o.guard=some (j,want))(vT:o.dst=some d)(hd:Nat.blt d n.sz=true)(hj:(ops.a[j]?).bind (·.dst)=some dj)(hl:lk L dj=some undef)(h:XO P n ops Q bU ((d,undef)::L) M):XO P n ops Q (o::bU) L M:=fun a w ha hw=>by
 refine KO.qf ?_ vT (h _ w (ha.put hd undef) hw);have hy:=ha.2.2 dj _ hl;simp only[Region.wanted,hg,yielded,hj];simp only[Array.getD_eq_getD_getElem?]at hy;cases hx:a.tmps[dj]? with
 | none=>simp[hx]
 | some u=>rw[hx]at hy;simp at hy;subst hy;simp[hx,undef]
theorem XO.split{l:List Oper}(hl:lk L d=some (.bool t))(ht:t=true->XO P n ops Q l ((d,.bool true)::L) M)(hf:t=false->XO P n ops Q l ((d,.bool false)::L) M):XO P n ops Q l L M:=by
 cases t
 ·refine XO.eK _ (Sub.cons hl ?_) (hf rfl);exact fun i v h=>h
 ·refine XO.eK _ (Sub.cons hl ?_) (ht rfl);exact fun i v h=>h
def XO.aaG{l:List Oper}{p:Prop}[Decidable p](hl:lk L d=some (.bool (decide p)))(ht:p->XO P n ops Q l ((d,.bool true)::L) M)
  (hf:¬p->XO P n ops Q l ((d,.bool false)::L) M):XO P n ops Q l L M:=XO.split hl (fun h=>ht (of_decide_eq_true h)) fun h=>hf (of_decide_eq_false h)
def XO.aaH{l:List Oper}{p:Prop}[Decidable p](hl:lk L d=some (.bool (decide p)))(h:p)(ht:XO P n ops Q l ((d,.bool true)::L) M):XO P n ops Q l L M:=
 XO.split hl (fun _=>ht) fun q=>absurd h (of_decide_eq_false q)
def XO.aaI{l:List Oper}{p:Prop}[Decidable p](hl:lk L d=some (.bool (decide p)))(h:¬p)(hf:XO P n ops Q l ((d,.bool false)::L) M):XO P n ops Q l L M:=
 XO.split hl (fun q=>absurd (of_decide_eq_true q) h) fun _=>hf
end
end Go.X

namespace Go.X
variable{S:Nat->Nat->Prop}{W w w':World}
abbrev iI(z:Int):Value:=.int .i64 z
open Go
structure pQ where
 v:Value
 e:TypeId
 sz:Nat
 k:Nat
 xs:List Value
inductive aK where
 | cells (b o n:Nat) (C:Nat->Value)
 | ro (b o n:Nat) (C:Nat->Value)
 | row (v:Value) (e:TypeId) (sz k:Nat) (xs:List Value)
 | mark (D:Nat)
 | aV (p:Nat->Bool) (r:Nat->pQ)
 | dN (p:Nat->Bool) (b:Nat->Nat) (n:Nat) (C:Nat->Nat->Value)
def aK.wr:aK->Bool
 | .ro .. =>false
 | .mark _=>false
 | _=>true
def aK.fT:aK->Nat->Nat->Prop
 | .cells b o n _,b',i=>b'=b/\o<=i/\i<o+n
 | .ro b o n _,b',i=>b'=b/\o<=i/\i<o+n
 | .row v _ _ _ _,b',_=>v.ownBlock=some b'
 | .mark D,b',_=>b'=D
 | .aV p r,b',_=>∃ i,p i=true/\(r i).v.ownBlock=some b'
 | .dN p g n _,b',o=>∃ i,p i=true/\b'=g i/\o<n
def aK.holds(w:World):aK->Prop
 | .cells b o n C=>∃ A t lo hi,w.heap[b]? =some (.cells A t (lo,hi))/\∀ i,i<n->A[o+i]? =some (C i)/\¬(lo<=o+i/\o+i<hi)
 | .ro b o n C=>∃ A t fz,w.heap[b]? =some (.cells A t fz)/\∀ i,i<n->A[o+i]? =some (C i)
 | .row v e sz k xs=>w.ownsRow 0 e sz v k xs
 | .mark D=>w.heap[D]? =some (.deferred (some []))
 | .aV p r=>(∀ i,p i=true->w.ownsRow 0 (r i).e (r i).sz (r i).v (r i).k (r i).xs)/\∀ i j b,p i=true->p j=true->i≠j->(r i).v.ownBlock=some b->(r j).v.ownBlock=some b->False
 | .dN p g n C=>(∀ i,p i=true->∃ A t lo hi,w.heap[g i]? =some (.cells A t (lo,hi))/\∀ j,j<n->A[j]? =some (C i j)/\¬(lo<=j/\j<hi))/\∀ i j,p i=true->p j=true->i≠j->g i≠g j
def B4(e e':aK):Prop:=(e.wr||e'.wr)=true->∀ b o,e.fT b o->e'.fT b o->False
theorem B4.symm{e e':aK}(h:B4 e e'):B4 e' e:=fun hw b o h1 h2=>h (by rw[Bool.or_comm];exact hw) b o h2 h1
def Good(H:List aK)(w:World):Prop:=(∀ e∈H,e.holds w)/\H.Pairwise B4
structure gH (w w':World) (S:Nat->Nat->Prop):Prop where
 os:w'.os=w.os
 tape:w'.tape=w.tape
 output:w'.output=w.output
 size:w.heap.size<=w'.heap.size
 same:∀ b,b<w.heap.size->(∀ o,¬S b o)->w'.heap[b]? =w.heap[b]?
 part:∀ b A t fz,w.heap[b]? =some (.cells A t fz)->∃ A',w'.heap[b]? =some (.cells A' t fz)/\A'.size=A.size/\∀ o,¬S b o->A'[o]? =A[o]?
theorem gH.refl(w:World)(S:Nat->Nat->Prop):gH w w S:=
 ⟨rfl,rfl,rfl,Nat.le_refl _,fun _ _ _=>rfl,fun _ A _ _ h=>⟨A,h,rfl,fun _ _=>rfl⟩⟩
theorem eh{b:Nat}{o:Obj}(h:w.heap[b]? =some o):b<w.heap.size:=(Array.getElem?_eq_some_iff.1 h).1
def gH.trans{a b c:World}{S T U:Nat->Nat->Prop}(h:gH a b S)(k:gH b c T)(hS:∀ x o,S x o->x<a.heap.size->U x o)(hT:∀ x o,T x o->x<a.heap.size->U x o):gH a c U:=
  ⟨k.os.trans h.os,k.tape.trans h.tape,k.output.trans h.output,Nat.le_trans h.size k.size,
   fun x hx hn=>(k.same x (Nat.lt_of_lt_of_le hx h.size) fun o ho=>hn o (hT x o ho hx)).trans (h.same x hx fun o ho=>hn o (hS x o ho hx)),
   fun x A t fz hA=>by
    obtain⟨A',h1,h2,h3⟩:=h.part x A t fz hA
    obtain⟨A'',k1,k2,k3⟩:=k.part x A' t fz h1
    have hx:=eh hA
    exact⟨A'',k1,k2.trans h2,fun o ho=>(k3 o fun q=>ho (hT x o q hx)).trans (h3 o fun q=>ho (hS x o q hx))⟩⟩
def aK.lt{e:aK}{w:World}(h:e.holds w){b o:Nat}(ha:e.fT b o):b<w.heap.size:=by
 cases e with
 | cells b' o' n C=>obtain⟨A,t,lo,hi,h1,_⟩:=h;obtain⟨rfl,_⟩:=ha;exact eh h1
 | ro b' o' n C=>obtain⟨A,t,fz,h1,_⟩:=h;obtain⟨rfl,_⟩:=ha;exact eh h1
 | row v e sz k xs=>exact(World.ownsRow.lt h b ha).2
 | mark D=>obtain rfl:=ha;exact eh h
 | aV p r=>obtain⟨i,hi,hb⟩:=ha;exact(World.ownsRow.lt (h.1 i hi) b hb).2
 | dN p g n C=>obtain⟨i,hi,rfl,_⟩:=ha;obtain⟨A,t,lo,Ik,h1,_⟩:=h.1 i hi;exact eh h1
def GK{v:Value}{e:TypeId}{sz k:Nat}{xs:List Value}(h:w.ownsRow 0 e sz v k xs)(hk:gH w w' S)(ha:∀ b o,v.ownBlock=some b->¬S b o):w'.ownsRow 0 e sz v k xs:=by
 refine⟨h.1,?_⟩;rcases h.2 with hn | ⟨g,cap,cur,rfl,hb,hg,bU⟩
 ·simp_all
 ·refine .inr ⟨g,cap,cur,rfl,hb,?_,bU⟩;rw[hk.same g (eh hg) fun o=>ha g o rfl];omega
theorem aK.O9{e:aK}(h:e.holds w)(hk:gH w w' S)(ha:∀ b o,e.fT b o->¬S b o):e.holds w':=by
 cases e with
 | cells b o n C=>
  obtain⟨A,t,lo,hi,h1,h2⟩:=h;obtain⟨A',k1,k2,k3⟩:=hk.part b A t _ h1;refine⟨A',t,lo,hi,k1,fun i Ik=> ?_⟩;obtain⟨h3,h4⟩:=h2 i Ik;exact⟨by rw[k3 (o+i) (ha b (o+i) ⟨rfl,og,og⟩)];exact h3,h4⟩
 | ro b o n C=>
  obtain⟨A,t,fz,h1,h2⟩:=h;obtain⟨A',k1,k2,k3⟩:=hk.part b A t _ h1;exact⟨A',t,fz,k1,fun i Ik=>by rw[k3 (o+i) (ha b (o+i) ⟨rfl,og,og⟩)];exact h2 i Ik⟩
 | row v e sz k xs=>
  refine⟨h.1,?_⟩;rcases h.2 with hn | ⟨g,cap,cur,rfl,hb,hg,bU⟩
  ·simp_all
  ·refine .inr ⟨g,cap,cur,rfl,hb,?_,bU⟩;rw[hk.same g (eh hg) fun o=>ha g o rfl];omega
 | mark D=>exact(hk.same D (eh h) fun o=>ha D o rfl).trans h
 | aV p r=>exact⟨fun i hi=>GK (h.1 i hi) hk fun b o hb=>ha b o ⟨i,hi,hb⟩,h.2⟩
 | dN p g n C=>
  refine⟨fun i hi=> ?_,h.2⟩;obtain⟨A,t,lo,Ik,h1,h2⟩:=h.1 i hi;obtain⟨A',k1,k2,k3⟩:=hk.part (g i) A t _ h1;exact⟨A',t,lo,Ik,k1,fun j hj=>⟨by rw[k3 j (ha (g i) j ⟨i,hi,rfl,hj⟩)];exact(h2 j hj).1,(h2 j hj).2⟩⟩
structure XM (W:World) (S:Nat->Nat->Prop) (H:List aK) (w:World):Prop where
 eT:Good H w
 eK:gH W w S
 Em:∀ e∈H,e.wr=true->∀ b o,e.fT b o->W.heap.size<=b\/S b o
def bZ(H:List aK)(b o:Nat):Prop:=∃ e∈H,e.wr=true/\e.fT b o
theorem kH{H:List aK}(h:Good H w):XM w (bZ H) H w:=
 ⟨h,gH.refl _ _,fun e he hw _ _ ha=>.inr ⟨e,he,hw,ha⟩⟩
def gH.drewN(h:gH W w S)(k:Nat):gH W {w with drawn:=w.drawn+k} S:=
 ⟨h.os,h.tape,h.output,h.size,h.same,h.part⟩
def aK.Iy{e:aK}(k:Nat)(h:e.holds w):e.holds {w with drawn:=k} :=by
 cases e with
 | cells b o n C=>exact h
 | ro b o n C=>exact h
 | row v e sz k xs=>exact h
 | mark D=>exact h
 | aV p r=>exact h
 | dN p g n C=>exact h
def XM.drawn{W w:World}{S:Nat->Nat->Prop}{H:List aK}(h:XM W S H w)(k:Nat):XM W S H {w with drawn:=w.drawn+k} :=
 ⟨⟨fun e he=>aK.Iy _ (h.eT.1 e he),h.eT.2⟩,h.eK.drewN k,h.Em⟩
inductive kR:List aK->aK->Prop where
 | aa {e H} :kR (e::H) e
 | av {x e H} :kR H e->kR (x::H) e
theorem kR.mem{H:List aK}{e:aK}(h:kR H e):e∈H:=by
 induction h with
 | aa=>simp
 | av _ ih=>exact List.mem_cons_of_mem _ ih
inductive mT:List aK->aK->List aK->Prop where
 | aa {e H} :mT (e::H) e H
 | av {x e H H'} :mT H e H'->mT (x::H) e (x::H')
def mT.b8{H H':List aK}{e:aK}(h:mT H e H'):H.Perm (e::H'):=by
 induction h with
 | aa=>exact .refl _
 | av _ ih=>exact(List.Perm.cons _ ih).trans (List.Perm.swap _ _ _)
inductive cI:List aK->List aK->List aK->Prop where
 | nil {H} :cI H [] H
 | cons {e es H H' F} :mT H e H'->cI H' es F->cI H (e::es) F
class Dl (n:Nat) (H:List aK) (e:outParam aK) (F:outParam (List aK)):Prop where
 d:mT H e F
instance {e:aK} {H:List aK} :Dl 0 (e::H) e H:=⟨.aa⟩
instance {n:Nat} {e x:aK} {H F:List aK} [i:Dl n H e F]:Dl (n+1) (x::H) e (x::F):=⟨.av i.d⟩
instance {n:Nat} {e x y z v:aK} {H F:List aK} [i:Dl n H e F]:Dl (n+4) (x::y::z::v::H) e (x::y::z::v::F):=⟨.av (.av (.av (.av i.d)))⟩
instance {n:Nat} {e x:aK} {A B F:List aK} [i:Dl n (x::(A++B)) e F]:Dl n (x::A++B) e F:=⟨i.d⟩
instance {n:Nat} {e:aK} {B F:List aK} [i:Dl n B e F]:Dl n ([]++B) e F:=⟨i.d⟩
instance {n:Nat} {e:aK} {A B F:List aK} [i:Dl n (A++B) e F]:Dl n (A.append B) e F:=⟨i.d⟩
instance {n:Nat} {e:aK} {A B C F:List aK} [i:Dl n (A++(B++C)) e F]:Dl n (A++B++C) e F:=⟨by have:=i.d;rwa[<-List.append_assoc]at this⟩
instance {n:Nat} {e:aK} {A B F:List aK} [i:Dl n (A++B) e F]:Dl n (A.drop 0++B) e F:=⟨i.d⟩
instance {n k:Nat} {e x:aK} {A B F:List aK} [i:Dl n (A.drop k++B) e F]:Dl n ((x::A).drop (k+1)++B) e F:=⟨i.d⟩
class Pk (l:List Nat) (H:List aK) (E F:outParam (List aK)):Prop where
 d:cI H E F
instance {H:List aK} :Pk [] H [] H:=⟨.nil⟩
instance {n:Nat} {l:List Nat} {e:aK} {H G E F:List aK} [i:Dl n H e G] [j:Pk l G E F]:Pk (n::l) H (e::E) F:=⟨.cons i.d j.d⟩
def pk(l:List Nat){H E F:List aK}[i:Pk l H E F]:cI H E F:=i.d
class Pz (n:Nat) (H:List aK) (E F:outParam (List aK)):Prop where
 d:cI H E F
instance {H:List aK} :Pz 0 H [] H:=⟨.nil⟩
instance {n:Nat} {e:aK} {H E F:List aK} [i:Pz n H E F]:Pz (n+1) (e::H) (e::E) F:=⟨.cons .aa i.d⟩
instance {n:Nat} {x:aK} {A B E F:List aK} [i:Pz (n+1) (x::(A++B)) E F]:Pz (n+1) (x::A++B) E F:=⟨i.d⟩
instance {n:Nat} {B E F:List aK} [i:Pz (n+1) B E F]:Pz (n+1) ([]++B) E F:=⟨i.d⟩
instance {n:Nat} {A B E F:List aK} [i:Pz (n+1) (A++B) E F]:Pz (n+1) (A.append B) E F:=⟨i.d⟩
instance {n:Nat} {A B E F:List aK} [i:Pz (n+1) (A++B) E F]:Pz (n+1) (A.drop 0++B) E F:=⟨i.d⟩
instance {n k:Nat} {x:aK} {A B E F:List aK} [i:Pz (n+1) (A.drop k++B) E F]:Pz (n+1) ((x::A).drop (k+1)++B) E F:=⟨i.d⟩
def pz(n:Nat){H E F:List aK}[i:Pz n H E F]:cI H E F:=i.d
def cI.b8{H E F:List aK}(h:cI H E F):H.Perm (E++F):=by
 induction h with
 | nil=>exact .refl _
 | cons d _ ih=>exact d.b8.trans (List.Perm.cons _ ih)
theorem En{H H':List aK}(hp:H.Perm H')(h:H.Pairwise B4):H'.Pairwise B4:=
 (hp.pairwise_iff fun h=>B4.symm h).1 h
def Good.b8{H H':List aK}(hp:H.Perm H')(h:Good H w):Good H' w:=by grind [En,Good]
def XM.b8{W w:World}{S:Nat->Nat->Prop}{H H':List aK}(hp:H.Perm H')(h:XM W S H w):XM W S H' w:=
 ⟨h.eT.b8 hp,h.eK,fun e he=>h.Em e (hp.mem_iff.2 he)⟩
theorem XM.left{E F:List aK}(h:XM W S (E++F) w):XM W S E w:=
 ⟨⟨fun e he=>h.eT.1 e (List.mem_append.2 (.inl he)),(List.pairwise_append.1 h.eT.2).1⟩,h.eK,fun e he=>h.Em e (List.mem_append.2 (.inl he))⟩
theorem XM.pick{H E F:List aK}(hp:cI H E F)(h:XM W S H w):XM W S E w:=(h.b8 hp.b8).left
theorem XM.cg{H H':List aK}{e e':aK}(h:XM W S H w)(hd:mT H e H')(hw:e.wr=true)(ha:∀ b o,e'.fT b o->e.fT b o\/w.heap.size<=b)(hk:gH w w' fun b o=>e.fT b o)(ZL:e'.holds w'):XM W S (e'::H') w':=by
 have h1:=h.b8 hd.b8;obtain⟨⟨hh,nS⟩,vu,RU⟩:=h1;rw[List.pairwise_cons]at nS;obtain⟨RS,agI⟩:=nS;have lB:∀ x∈H',x.holds w':=fun x hx=>aK.O9 (hh x (List.mem_cons_of_mem _ hx)) hk fun b o RW WJ=>RS x hx (by simp[hw]) b o WJ RW;refine⟨⟨?_,?_⟩,?_,?_⟩
 ·simp_all
 ·refine List.pairwise_cons.2 ⟨fun x hx _ b o h1 h2=> ?_,agI⟩;rcases ha b o h1 with h3 | h3
  ·exact RS x hx (by simp[hw]) b o h3 h2
  ·have:=aK.lt (hh x (List.mem_cons_of_mem _ hx)) h2;omega
 ·refine vu.trans hk (fun x o hs _=>hs) (fun x o hs hx=> ?_);grind
 ·intro x hx Wj b o hb;rcases List.mem_cons.1 hx with rfl | hx
  ·rcases ha b o hb with h3 | h3
   ·simp_all
   ·have:=vu.size;exact .inl og
  grind
def XM.fresh{H:List aK}{e':aK}(h:XM W S H w)(ha:∀ b o,e'.fT b o->w.heap.size<=b)(hk:gH w w' fun _ _=>False)(ZL:e'.holds w'):XM W S (e'::H) w':=by
 obtain⟨⟨hh,nS⟩,vu,RU⟩:=h;refine⟨⟨?_,?_⟩,?_,?_⟩
 ·grind [aK.O9]
 ·refine List.pairwise_cons.2 ⟨fun x hx _ b o h1 h2=> ?_,nS⟩;have:=aK.lt (hh x hx) h2;grind
 ·exact vu.trans hk (fun x o hs _=>hs) fun x o hs hx=>hs.elim
 ·intro x hx Wj b o hb;rcases List.mem_cons.1 hx with rfl | hx
  ·have:=ha b o hb;have:=vu.size;exact .inl og
  grind
def Spec(P:Program)(f:FuncId)(args:List Value)(pre:List aK)(post:Value->List aK->Prop):Prop:=
 ∀ w,Good pre w->Calls P f args.toArray w fun e w'=>∃ v H',e= .returned v/\post v H'/\H'.all aK.wr=true/\XM w (bZ pre) H' w'
def XM.zc{H pre F H':List aK}(h:XM W S H w)(hp:cI H pre F)(hc:XM w (bZ pre) H' w')(Pb:∀ e∈H',e.wr=true):XM W S (H'++F) w':=by
 have h1:=h.b8 hp.b8;obtain⟨⟨hh,nS⟩,vu,RU⟩:=h1;obtain⟨adZ,Pc,RS⟩:=List.pairwise_append.1 nS;have hF:∀ x∈F,x.holds w':=fun x hx=>aK.O9 (hh x (List.mem_append.2 (.inr hx))) hc.eK fun b o RW ⟨e,he,Wl,WJ⟩=>RS e he x hx (by simp[Wl]) b o WJ RW;refine⟨⟨?_,?_⟩,?_,?_⟩
 ·intro x hx;rcases List.mem_append.1 hx with hx | hx
  ·exact hc.eT.1 x hx
  simp_all
 ·refine List.pairwise_append.2 ⟨hc.eT.2,Pc,fun e he x hx _ b o h1 h2=> ?_⟩;rcases hc.Em e he (Pb e he) b o h1 with h3 | ⟨e',ZL,Wl,WJ⟩
  ·have:=aK.lt (hh x (List.mem_append.2 (.inr hx))) h2;omega
  ·exact RS e' ZL x hx (by simp[Wl]) b o WJ h2
 ·refine vu.trans hc.eK (fun x o hs _=>hs) (fun x o ⟨e,he,Wl,WJ⟩ hx=> ?_);grind
 ·intro x hx Wj b o hb;rcases List.mem_append.1 hx with hx | hx
  ·rcases hc.Em x hx Wj b o hb with h3 | ⟨e,he,Wl,WJ⟩
   ·have:=vu.size;exact .inl og
   grind
  grind
def XM.WK{H E R F H':List aK}(h:XM W S H w)(hp:cI H (E++R) F)(hR:∀ e∈R,e.wr=false)(hc:XM w (bZ (E++R)) H' w')(Pb:∀ e∈H',e.wr=true):XM W S (H'++(R++F)) w':=by
 have h1:=h.b8 hp.b8;have vt:∀ x∈R,∀ b o,x.fT b o->¬bZ (E++R) b o:=fun x hx b o RW ⟨e,he,Wl,WJ⟩=>by
  have nS:=h1.eT.2;rw[List.append_assoc]at nS;obtain⟨_,_,RS⟩:=List.pairwise_append.1 nS;rcases List.mem_append.1 he with ZL | ZL
  ·exact RS e ZL x (List.mem_append.2 (.inl hx)) (by simp[Wl]) b o WJ RW
  simp_all
 have h2:=h.zc hp hc Pb;obtain⟨⟨hh,nS⟩,vu,RU⟩:=h2;obtain⟨adZ,Pc,RS⟩:=List.pairwise_append.1 nS;have hR':∀ x∈R,x.holds w':=fun x hx=>aK.O9 (h1.eT.1 x (by simp[hx])) hc.eK (vt x hx);refine⟨⟨?_,?_⟩,vu,?_⟩
 ·grind
 ·have ad0:=h1.eT.2;rw[List.append_assoc]at ad0;obtain⟨_,hrf,_⟩:=List.pairwise_append.1 ad0;refine List.pairwise_append.2 ⟨adZ,hrf,fun e he x hx _ b o h3 h4=> ?_⟩;rcases List.mem_append.1 hx with hx | hx
  ·rcases hc.Em e he (Pb e he) b o h3 with h5 | h5
   ·have:=aK.lt (h1.eT.1 x (by simp[hx])) h4;omega
   grind
  ·exact RS e he x hx (by simp[Pb e he]) b o h3 h4
 grind
end Go.X
