import Derived.Test.YthdinakloheinaaGreatDoorXMem
set_option linter.all false
namespace Go.X
open Go
variable{op:BinOp}{k:IntKind}{x y:Operand}
def aC(b o i:Nat):Value:=.pointer (some ⟨b,o+i,none⟩)
def one:Value->Bool
 | .agg _=>false
 | .tuple _=>false
 | _=>true
theorem zd{v:Value}(h:one v=true):v.cells= #[v]:=by cases v<;>simp_all[one,Value.cells]
def dE(C:Nat->Value)(i:Nat)(v:Value):Nat->Value:=fun j=>if j=i then v else C j
def dc(C:Nat->Value)(i n:Nat):Value:=.agg ((List.range n).map fun j=>C (i+j)).toArray
def Lp:List Value->Nat->Option Value
 | [],_=>none
 | v::_,0=>some v
 | _::r,k+1=>Lp r k
def E5:∀ {l:List Value} {k:Nat} {v:Value},Lp l k=some v->l[k]? =some v
 | [],_,_,h=>by simp[Lp]at h
 | u::_,0,_,h=>by simpa [Lp]using h
 | _::r,k+1,_,h=>by simpa using E5 (l:=r) h
def RX{vs:Array Value}{k:Nat}{v:Value}(h:Lp vs.toList k=some v):vs[k]? =some v:=by simpa using E5 h
def jw(P:Program)(t:TypeId):Bool:=match P.underlying t with
 | some (.struct _)=>false
 | some (.array _ _)=>false
 | some _=>true
 | none=>false
def nq(P:Program)(t:TypeId):Bool:=match P.underlying t with
 | some (.struct _)=>true
 | some (.array _ _)=>true
 | _=>false
def fk(P:Program)(t:TypeId):Option Nat:=(P.info? t).map (·.size)
def eC(P:Program)(s:TypeId)(f:Nat):Option Nat:=match P.underlying s with
 | some (.struct fs)=>match fs[f]? with
  | some fld=>match fk P fld.type with
   | some 0=>none
   | some _=>some fld.offset
   | none=>none
  | none=>none
 | _=>none
def vv(P:Program)(t:TypeId):Option (Nat×Nat):=match P.underlying t with
 | some (.array n e)=>(fk P e).map fun s=>(n,s)
 | _=>none
def w8(P:Program)(t:TypeId):Option (TypeId×Nat):=match P.underlying t with
 | some (.slice e)=>(fk P e).map fun s=>(e,s)
 | _=>none
def B5(P:Program)(t:TypeId):Option Value:=(P.info? t).bind (·.zero)
def cV(P:Program)(f:FuncId):Bool:=match P.funcs[f]? with
 | some fn=>fn.name != "runtime.NumGoroutine" &&fn.body.isSome
 | none=>false
section
variable {P:Program} {w:World}
theorem jK{t:TypeId}(h:jw P t=true):(isAgg t).run P w= .ok false w:=by
 unfold jw at h;cases hu:P.underlying t with
 | none=>simp[hu]at h
 | some d=>simp only[hu]at h;simp only[isAgg,Sem.run_bind,run_underlying hu,Result.andThen_ok];cases d<;>simp_all
theorem vw{t:TypeId}(h:nq P t=true):(isAgg t).run P w= .ok true w:=by
 unfold nq at h;cases hu:P.underlying t with
 | none=>simp[hu]at h
 | some d=>simp only[hu]at h;simp only[isAgg,Sem.run_bind,run_underlying hu,Result.andThen_ok];cases d<;>simp_all
theorem run_sizeOf{t n:Nat}(h:fk P t=some n):(sizeOf t).run P w= .ok n w:=by
 unfold fk at h;cases hi:P.info? t with
 | none=>simp[hi]at h
 | some i=>simp[hi]at h;simp[sizeOf,typeInfo,hi,h]
theorem run_typeInfo{t:Nat}{i:TypeInfo}(h:P.info? t=some i):(typeInfo t).run P w= .ok i w:=by simp[typeInfo,h]
theorem pR{t:Nat}{v:Value}(h:B5 P t=some v):(zeroValue t).run P w= .ok v w:=by
 unfold B5 at h;cases hi:P.info? t with
 | none=>simp[hi]at h
 | some i=>simp[hi]at h;simp[zeroValue,typeInfo,hi,h]
theorem oD(b o i k:Nat):(⟨b,o+i,none⟩:Addr).add k=⟨b,o+(i+k),none⟩:=by
 unfold Addr.add;split;all_goals grind
end
section
variable {P:Program} {w:World}
def run_equalIn_bool(k:Nat){t:TypeId}(a b:Bool)(ht:P.underlying t=some .bool):(Op.equalIn (k+1) t (.bool a) (.bool b)).run P w= .ok (a==b) w:=by
 simp only[Op.equalIn,Sem.run_bind,run_underlying ht,Result.andThen_ok,Sem.run_pure]
def run_equal_bool{t:TypeId}(a b:Bool)(ht:P.underlying t=some .bool):(Op.equal t (.bool a) (.bool b)).run P w= .ok (a==b) w:=
 run_equalIn_bool 9999 a b ht
end
def bd(P:Program)(n:Fr)(L:PF)(φ:World->Prop)(o:Oper)(v:Value):Prop:=
 ∀ a w,nR n L a->φ w->(execOp a.eval o).run P w= .ok (.value v) w
section
variable {P:Program} {n:Fr} {Q:Exit->Act->World->Prop} {L:PF} {ops:Md} {bU:List Oper} {ty:TypeId} {pos:String} {af:Array Edge} {d:Nat} {φ:World->Prop} {gd:Option (Nat×Bool)}
theorem V.move{x:Operand}{v:Value}(hx:ev L x=some v):bd P n L φ (⟨some d,.move x,ty,pos,af,gd⟩) (v):=
   (fun a w ha _=>by simp[execOp,ay ha hx])
theorem V.assign{x:Operand}{v:Value}(hx:ev L x=some v):bd P n L φ (⟨some d,.assign x,ty,pos,af,gd⟩) (v):=
   (fun a w ha _=>by simp[execOp,ay ha hx])
theorem V.pick{c x y:Operand}{t:Bool}{u v r:Value}(hc:ev L c=some (.bool t))(hx:ev L x=some u)(hy:ev L y=some v)(hr:(bif t then u else v)=r):bd P n L φ (⟨some d,.pick c x y,ty,pos,af,gd⟩) (r):=
   (fun a w ha _=>by subst hr;cases t<;>simp[execOp,ay ha hx,ay ha hy,ay ha hc,asBool])
theorem aW{b o i:Nat}(hx:ev L x=some (aC b o i)):bd P n L φ (⟨some d,.nilCheck x,ty,pos,af,gd⟩) (aC b o i):=
   (fun a w ha _=>by simp[execOp,ay ha hx,aC])
theorem V.extract{x:Operand}{vs:Array Value}{k:Nat}{v:Value}(hx:ev L x=some (.tuple vs))(hk':Lp vs.toList k=some v):bd P n L φ (⟨some d,.extract x k,ty,pos,af,gd⟩) (v):=
   (fun a w ha _=>by have hk:=RX hk';simp[execOp,ay ha hx,Instr.extract,hk])
def V.fieldAddr{s:TypeId}{x:Operand}{f b o i k:Nat}(hx:ev L x=some (aC b o i))(hf:eC P s f=some k):bd P n L φ (⟨some d,.fieldAddr s x f,ty,pos,af,gd⟩) (aC b o (i+k)):=
   (fun a w ha _=>by
    unfold eC at hf
    cases hu:P.underlying s with
    | none=>simp[hu]at hf
    | some ds=>
      simp only[hu]at hf
      cases ds<;>simp only[]at hf<;>try cases hf
      rename_i fs
      cases hfl:fs[f]? with
      | none=>simp[hfl]at hf
      | some fld=>
        simp only[hfl]at hf
        cases hs:fk P fld.type with
        | none=>simp[hs]at hf
        | some z=>
          cases z with
          | zero=>simp[hs]at hf
          | succ z=>
            simp only[hs,Option.some.injEq]at hf
            subst hf
            simp[execOp,ay ha hx,Instr.fieldAt,run_underlying hu,hfl,Instr.sureAddr,aC,fieldPlace,run_sizeOf hs,oD])
def iW{t:TypeId}{b o i m sz:Nat}{z:Int}(hx:ev L x=some (aC b o i))(hy:ev L y=some (.int k z))(ht:vv P t=some (m,sz))(hz:0<=z/\z<m):bd P n L φ (⟨some d,.indexAddr t x y,ty,pos,af,gd⟩) (aC b o (i+z.toNat*sz)):=
   (fun a w ha _=>by
    unfold vv at ht
    cases hu:P.underlying t with
    | none=>simp[hu]at ht
    | some ds=>
      simp only[hu]at ht
      cases ds<;>simp only[]at ht<;>try cases ht
      rename_i m' e
      cases hs:fk P e with
      | none=>simp[hs]at ht
      | some s=>
        simp only[hs,Option.map_some,Option.some.injEq,Prod.mk.injEq]at ht
        obtain⟨rfl,rfl⟩:=ht
        simp[execOp,ay ha hx,ay ha hy,Instr.indexAt,asIntOf,run_underlying hu,Instr.sureAddr,aC,hz,run_sizeOf hs,oD])
def E6{t e:TypeId}{b o sz len cap:Nat}{z:Int}(hx:ev L x=some (.slice (some ⟨b,o,none⟩) len cap))(hy:ev L y=some (.int k z))(ht:w8 P t=some (e,sz))(hz:0<=z/\z<len):bd P n L φ (⟨some d,.indexAddr t x y,ty,pos,af,gd⟩) (aC b o (0+z.toNat*sz)):=
   (fun a w ha _=>by
    unfold w8 at ht
    cases hu:P.underlying t with
    | none=>simp[hu]at ht
    | some ds=>
      simp only[hu]at ht
      cases ds<;>simp only[]at ht<;>try cases ht
      rename_i e'
      cases hs:fk P e' with
      | none=>simp[hs]at ht
      | some s=>
        simp only[hs,Option.map_some,Option.some.injEq,Prod.mk.injEq]at ht
        obtain⟨rfl,rfl⟩:=ht
        have:=oD b o 0 (z.toNat*s)
        simp only[Nat.add_zero]at this
        simp[execOp,ay ha hx,ay ha hy,Instr.indexAt,asIntOf,run_underlying hu,aC,hz,run_sizeOf hs,this])
def qg{t t':TypeId}{u v r:Value}(hx:ev L x=some u)(hy:ev L y=some v)(hr:∀ (w:World) (a:Act),a.eval x=u->a.eval y=v->(execOp a.eval ⟨some d,.binOp op t x y t',ty,pos,af,gd⟩).run P w= .ok (.value r) w):bd P n L φ (⟨some d,.binOp op t x y t',ty,pos,af,gd⟩) r:=
 fun a w ha _=>hr w a (ay ha hx) (ay ha hy)
theorem V.add{t t':TypeId}{x y:Operand}{k:IntKind}{a b:Int}(hx:ev L x=some (.int k a))(hy:ev L y=some (.int k b))(r:Int)(hw:k.wrap (a+b)=r):bd P n L φ (⟨some d,.binOp .add t x y t',ty,pos,af,gd⟩) (.int k r):=
 qg hx hy fun w A hx hy=>by simp[execOp,eqGuard,hx,hy,binOp,Op.intArith,hw]
theorem V.sub{t t':TypeId}{x y:Operand}{k:IntKind}{a b:Int}(hx:ev L x=some (.int k a))(hy:ev L y=some (.int k b))(r:Int)(hw:k.wrap (a-b)=r):bd P n L φ (⟨some d,.binOp .sub t x y t',ty,pos,af,gd⟩) (.int k r):=
 qg hx hy fun w A hx hy=>by simp[execOp,eqGuard,hx,hy,binOp,Op.intArith,hw]
def V.mul{t t':TypeId}{x y:Operand}{k:IntKind}{a b:Int}(hx:ev L x=some (.int k a))(hy:ev L y=some (.int k b))(r:Int)(hw:k.wrap (a*b)=r):bd P n L φ (⟨some d,.binOp .mul t x y t',ty,pos,af,gd⟩) (.int k r):=
 qg hx hy fun w A hx hy=>by simp[execOp,eqGuard,hx,hy,binOp,Op.intArith,hw]
theorem WL(a b:Int):(a==b)=decide (a=b):=rfl
theorem WM(a b:Int):(a != b)= !decide (a=b):=rfl
def RY{t t':TypeId}{a b:Int}{r:Bool}(hx:ev L x=some (.int k a))(hy:ev L y=some (.int k b))(hr:(match op with | .eql=>some (decide (a=b)) | .neq=>some (decide (a≠b)) | .lss=>some (decide (a<b)) | .leq=>some (decide (a<=b)) | .gtr=>some (decide (a>b)) | .geq=>some (decide (a>=b)) | _=>none)=some r):bd P n L φ (⟨some d,.binOp op t x y t',ty,pos,af,gd⟩) (.bool r):=
 qg hx hy (fun w A hx hy=>by
  cases op<;>simp only[Option.some.injEq]at hr<;>(try cases hr)<;>
   simp[execOp,eqGuard,hx,hy,binOp,Op.intCmp,WL,WM])
def V.not{t:TypeId}{x:Operand}{b:Bool}(hx:ev L x=some (.bool b)):bd P n L φ (⟨some d,.unOp .not t x,ty,pos,af,gd⟩) (.bool (!b)):=
   (fun a w ha _=>by simp[execOp,ay ha hx,Op.unary])
def aaJ{t:TypeId}{p:Prop}[Decidable p](hx:ev L x=some (.bool (decide p))):bd P n L φ (⟨some d,.unOp .not t x,ty,pos,af,gd⟩) (.bool (decide (¬p))):=
   (fun a w ha _=>by simp[execOp,ay ha hx,Op.unary])
def V.neg{t:TypeId}{x:Operand}{k:IntKind}{a:Int}(hx:ev L x=some (.int k a))(r:Int)(hw:k.wrap (0-a)=r):bd P n L φ (⟨some d,.unOp .neg t x,ty,pos,af,gd⟩) (.int k r):=
   (fun A w ha _=>by
    have dG:k.wrap (-a)=r:=by rw[<-hw];congr 1;omega
    simp[execOp,ay ha hx,Op.unary,Op.intArith,dG])
def RZ{t t':TypeId}{a b r:Bool}(hx:ev L x=some (.bool a))(hy:ev L y=some (.bool b))(ht:P.underlying t=some .bool)(hr:(match op with | .eql=>some (a==b) | .neq=>some (!(a==b)) | _=>none)=some r):bd P n L φ (⟨some d,.binOp op t x y t',ty,pos,af,gd⟩) (.bool r):=
 qg hx hy (fun w A hx hy=>by
  have he:=run_equal_bool (P:=P) (w:=w) a b ht
  cases op<;>simp only[Option.some.injEq]at hr<;>(try cases hr)<;>
   simp[execOp,eqGuard,hx,hy,binOp,he])
def Az{t:TypeId}{v:Value}{ds:TypeDesc}(hx:ev L x=some v)(ht:P.underlying t=some ds)(hn:∀ ms,ds≠ .interface ms):bd P n L φ (⟨some d,.makeInterface t x,ty,pos,af,gd⟩) (.iface t v):=
   (fun a w ha _=>by
    simp only[execOp,ay ha hx,Instr.makeInterface,Sem.run_bind,run_underlying ht,Result.andThen_ok]
    cases ds<;>simp_all)
variable {W:World} {S:Nat->Nat->Prop} {H H':List aK}
theorem ec{w:World}{b o m i:Nat}{C:Nat->Value}(h:(aK.cells b o m C).holds w)(hi:i<m:=by omega):w.cell? ⟨b,o+i,none⟩=some (C i):=by
 obtain⟨A,t,lo,Ik,h1,h2⟩:=h;simp[World.cell?,h1,(h2 i hi).1]
def B6{w:World}{b o m i:Nat}{C:Nat->Value}(h:(aK.ro b o m C).holds w)(hi:i<m):w.cell? ⟨b,o+i,none⟩=some (C i):=by
 obtain⟨A,t,fz,h1,h2⟩:=h;simp[World.cell?,h1,h2 i hi]
theorem gi{w:World}{t:TypeId}{a:Addr}{v:Value}(ht:jw P t=true)(hc:w.cell? a=some v):(loadVar t a).run P w= .ok v w:=by
 simp[loadVar,jK ht,run_load,hc]
theorem eD{W:World}{S:Nat->Nat->Prop}{H:List aK}{e:aK}(hH:kR H e)(w:World)(h:XM W S H w):e.holds w:=h.eT.1 _ hH.mem
def dJ{e:aK}(w:World)(h:e.holds w):e.holds w:=h
theorem V.load{t:TypeId}{x:Operand}{b o i m:Nat}{C:Nat->Value}{v:Value}(hx:ev L x=some (aC b o i))(hH:∀ w,φ w->(aK.cells b o m C).holds w)(hv:i<m/\C i=v)(ht:jw P t=true):bd P n L φ (⟨some d,.load t x,ty,pos,af,gd⟩) v:=fun a w ha hw=>by
 have hc:=ec (hH w hw) hv.1;rw[hv.2]at hc;simp[execOp,ay ha hx,Instr.loadAt,Instr.sureAddr,aC,gi ht hc]
def R1{t:TypeId}{b o i m:Nat}{C:Nat->Value}{v:Value}(hx:ev L x=some (aC b o i))(hH:∀ w,φ w->(aK.ro b o m C).holds w)(hv:i<m/\C i=v)(ht:jw P t=true):bd P n L φ (⟨some d,.load t x,ty,pos,af,gd⟩) v:=fun a w ha hw=>by
 have hc:=B6 (hH w hw) hv.1;rw[hv.2]at hc;simp[execOp,ay ha hx,Instr.loadAt,Instr.sureAddr,aC,gi ht hc]
theorem run_loadCellsFrom(b o i:Nat)(C:Nat->Value){w:World} :∀ (k j:Nat) (jI:Array Value),(∀ l,j<=l->l<j+k->w.cell? ⟨b,o+(i+l),none⟩=some (C (i+l)))->
  (loadCellsFrom ⟨b,o+i,none⟩ j k jI).run P w= .ok (jI++((List.range' j k).map fun l=>C (i+l)).toArray) w
 | 0,j,jI,_=>by simp[loadCellsFrom]
 | k+1,j,jI,h=>by
  simp only[loadCellsFrom,Sem.run_bind,oD,run_load,h j (Nat.le_refl _) og,Result.andThen_ok];rw[run_loadCellsFrom b o i C k (j+1) _ fun l h1 h2=>h l og og];simp[List.range'_succ]
def ji{w:World}{t:TypeId}{b o i sz:Nat}{C:Nat->Value}(ht:nq P t=true)(hs:fk P t=some sz)(hc:∀ l,l<sz->w.cell? ⟨b,o+(i+l),none⟩=some (C (i+l))):(loadVar t ⟨b,o+i,none⟩).run P w= .ok (dc C i sz) w:=by
 simp only[loadVar,Sem.run_bind,vw ht,Result.andThen_ok,run_sizeOf hs,if_true,loadCells];simp_all[run_loadCellsFrom,dc,List.range_eq_range']
theorem eB{t:TypeId}{b o i m sz:Nat}{C:Nat->Value}{v:Value}(hx:ev L x=some (aC b o i))(hH:∀ w,φ w->(aK.cells b o m C).holds w)(hv:i+sz<=m/\dc C i sz=v)(ht:nq P t=true)(hs:fk P t=some sz):bd P n L φ (⟨some d,.load t x,ty,pos,af,gd⟩) v:=fun a w ha hw=>by
 have hr:=ji (P:=P) (w:=w) (b:=b) (o:=o) (i:=i) (C:=C) ht hs fun l hl=>ec (hH w hw);rw[hv.2]at hr;simp[execOp,ay ha hx,Instr.loadAt,Instr.sureAddr,aC,hr]
theorem Iz{t:TypeId}{b o i m sz:Nat}{C:Nat->Value}{v:Value}(hx:ev L x=some (aC b o i))(hH:∀ w,φ w->(aK.ro b o m C).holds w)(hv:i+sz<=m/\dc C i sz=v)(ht:nq P t=true)(hs:fk P t=some sz):bd P n L φ (⟨some d,.load t x,ty,pos,af,gd⟩) v:=fun a w ha hw=>by
 have hr:=ji (P:=P) (w:=w) (b:=b) (o:=o) (i:=i) (C:=C) ht hs fun l hl=>B6 (hH w hw) og;rw[hv.2]at hr;simp[execOp,ay ha hx,Instr.loadAt,Instr.sureAddr,aC,hr]
theorem XO.v{ops:Md}{bU:List Oper}{M:World->Prop}{op:Op}{v:Value}(hv:bd P n L (fun _=>True) ⟨some d,op,ty,pos,af,none⟩ v)(hd:(Nat.blt d n.sz&& !cx op)=true)
  (h:XO P n ops Q bU ((d,v)::L) M):XO P n ops Q (⟨some d,op,ty,pos,af,none⟩::bU) L M:=XO.val hd (fun a w ha=>hv a w ha trivial) h
theorem XO.l{ops:Md}{bU:List Oper}{M:World->Prop}{op:Op}{v:Value}(hv:bd P n L M ⟨some d,op,ty,pos,af,none⟩ v)(hd:(Nat.blt d n.sz&&(!cx op&&isR op))=true)
  (h:XO P n ops Q bU ((d,v)::L) M):XO P n ops Q (⟨some d,op,ty,pos,af,none⟩::bU) L M:=XO.agH hd hv h
end
end Go.X

namespace Go.X
open Go
variable{f:FuncId}{v:Value}
inductive nK:List aK->aK->aK->List aK->Prop where
 | aa {e e' H} :nK (e::H) e e' (e'::H)
 | av {x e e' H H'} :nK H e e' H'->nK (x::H) e e' (x::H')
def nK.ZM{H H2:List aK}{e e':aK}(h:nK H e e' H2):∃ H',mT H e H'/\(e'::H').Perm H2:=by
 induction h with
 | aa=>exact⟨_,.aa,.refl _⟩
 | av _ ih=>obtain⟨H',h1,h2⟩:=ih;exact⟨_,.av h1,(List.Perm.swap _ _ _).trans (List.Perm.cons _ h2)⟩
def cB(C:Nat->Value)(i:Nat):List Value->Nat->Value
 | []=>C
 | v::r=>cB (dE C i v) (i+1) r
theorem oE(h:one v=true):v.oneCell'=true:=by cases v<;>simp_all[one,Value.oneCell']
theorem gH.setCell{w:World}{b o i:Nat}{A:Array Value}{t:TypeId}{fz:Nat×Nat}(h:w.heap[b]? =some (.cells A t fz))(v:Value){S:Nat->Nat->Prop}(hS:S b (o+i)):gH w (w.setCell ⟨b,o+i,none⟩ v) S:=by
 refine⟨rfl,rfl,rfl,by simp[World.setCell],fun x hx hn=> ?_,fun x A' t' fz' hA=> ?_⟩
 ·have:x≠b:=fun e=>by subst e;exact hn _ hS
  simp only[World.setCell,Array.getElem?_modify];grind
 ·by_cases hx:x=b
  ·subst hx;rw[h]at hA;simp only[Option.some.injEq,Obj.cells.injEq]at hA;obtain⟨rfl,rfl,rfl⟩:=hA;refine⟨A.setIfInBounds (o+i) v,?_,sq,fun j hj=> ?_⟩
   ·simp[World.setCell,Array.getElem?_modify,h]
   grind
  ·refine⟨A',?_,rfl,fun _ _=>rfl⟩;simp only[World.setCell,Array.getElem?_modify];grind
theorem XM.setCell{W w:World}{S:Nat->Nat->Prop}{H H':List aK}{b o m i:Nat}{C:Nat->Value}(h:XM W S H w)(hd:mT H (.cells b o m C) H')(hi:i<m)(v:Value):XM W S (.cells b o m (dE C i v)::H') (w.setCell ⟨b,o+i,none⟩ v):=by
 have hh:(aK.cells b o m C).holds w:=h.eT.1 _ (hd.b8.mem_iff.2 sq);obtain⟨A,t,lo,Ik,h1,h2⟩:=hh;refine h.cg (e':=.cells b o m (dE C i v)) hd rfl (fun b' o' ha=>.inl ha) (gH.setCell h1 v ⟨rfl,og,og⟩) ?_;refine⟨A.setIfInBounds (o+i) v,t,lo,Ik,by simp[World.setCell,Array.getElem?_modify,h1],fun j hj=>⟨?_,(h2 j hj).2⟩⟩;grind [dE]
section
variable {P:Program} {n:Fr} {Q:Exit->Act->World->Prop} {L:PF} {ops:Md} {bU:List Oper} {ty:TypeId} {pos:String} {af:Array Edge} {d:Nat}
variable {W:World} {S:Nat->Nat->Prop} {H H':List aK}
theorem nr{w:World}{b o m i:Nat}{C:Nat->Value}(h:(aK.cells b o m C).holds w)(hi:i<m)(hv:one v=true):(store ⟨b,o+i,none⟩ v).run P w= .ok () (w.setCell ⟨b,o+i,none⟩ v):=by
 rw[run_store P w _ v .plain (oE hv),ec h hi];obtain⟨A,t,lo,Ik,h1,h2⟩:=h;have:w.frozen? ⟨b,o+i,none⟩=false:=by
  have:=(h2 i hi).2;simp only[World.frozen?,h1];simp_all
 simp_all
def lC{b o m:Nat} :∀ (vs:List Value) (i j:Nat) (C:Nat->Value) (w:World),XM W S (.cells b o m C::H) w->i+j+vs.length<=m->vs.all one=true->
  ∃ w',(storeCells ⟨b,o+i,none⟩ vs j).run P w= .ok () w'/\XM W S (.cells b o m (cB C (i+j) vs)::H) w'
 | [],i,j,C,w,h,_,_=>⟨w,by simp[storeCells],h⟩
 | v::r,i,j,C,w,h,hl,h1=>by
  simp only[List.all_cons,Bool.and_eq_true]at h1;simp only[List.length_cons]at hl;have h2:=h.setCell .aa (i:=i+j) og v;obtain⟨w',hr,hx⟩:=lC r i (j+1) _ _ h2 og h1.2;refine⟨w',?_,by simpa only[cB,Nat.add_assoc]using hx⟩;simp only[storeCells,Sem.run_bind,oD];rw[nr (show(aK.cells b o m C).holds w from h.eT.1 _ sq) og h1.1];exact hr
theorem XO.store{t:TypeId}{x y:Operand}{b o i m:Nat}{C C':Nat->Value}{v:Value}(hx:ev L x=some (aC b o i))(hy:ev L y=some v)(hH:nK H (.cells b o m C) (.cells b o m C') H')(hi:i<m/\dE C i v=C')(hv:one v=true)(hs:fk P t=some 1)(h:XO P n ops Q bU L (XM W S H')):XO P n ops Q (⟨none,.store t x y,ty,pos,af,none⟩::bU) L (XM W S H):=
 XO.op rfl fun a w ha hw=>by
  obtain⟨H1,hd,hp⟩:=hH.ZM;have h2:=hw.setCell hd hi.1 v;rw[hi.2]at h2;have dG:=hw.b8 hd.b8;have hr:=nr (P:=P) (show(aK.cells b o m C).holds w from dG.eT.1 _ sq) hi.1 hv;unfold Oper.wp;have:(execOp a.eval ⟨none,.store t x y,ty,pos,af,none⟩).run P w= .ok .skip (w.setCell ⟨b,o+i,none⟩ v):=by
   have hz:(⟨b,o+i,none⟩:Addr).add 0=⟨b,o+i,none⟩:=rfl;simp[execOp,ay ha hx,ay ha hy,Instr.storeAt,Instr.sureAddr,aC,storeVar,zd hv,run_sizeOf hs,storeCells,hz,hr]
  rw[this];exact h _ _ ha (h2.b8 hp)
def XO.fP{t:TypeId}{x y:Operand}{b o i m sz:Nat}{C C':Nat->Value}{cs:Array Value}(hx:ev L x=some (aC b o i))(hy:ev L y=some (.agg cs))(hH:nK H (.cells b o m C) (.cells b o m C') H')(hi:i+sz<=m/\cB C i cs.toList=C')(hv:cs.toList.all one=true/\cs.size=sz)(hs:fk P t=some sz)(h:XO P n ops Q bU L (XM W S H')):XO P n ops Q (⟨none,.store t x y,ty,pos,af,none⟩::bU) L (XM W S H):=
 XO.op rfl fun a w ha hw=>by
  obtain⟨H1,hd,hp⟩:=hH.ZM;obtain⟨w',hr,nL⟩:=lC (P:=P) cs.toList i 0 C w (hw.b8 hd.b8) (by simp;omega) hv.1;simp only[Nat.add_zero]at nL;rw[hi.2]at nL;unfold Oper.wp;have:(execOp a.eval ⟨none,.store t x y,ty,pos,af,none⟩).run P w= .ok .skip w':=by
   simp[execOp,ay ha hx,ay ha hy,Instr.storeAt,Instr.sureAddr,aC,storeVar,Value.cells,run_sizeOf hs,hv.2,hr]
  rw[this];exact h _ _ ha (nL.b8 hp)
theorem XM.alloc{w:World}(h:XM W S H w)(A:Array Value)(t:TypeId)(C:Nat->Value)(hC:∀ i,i<A.size->A[i]? =some (C i)):XM W S (.cells w.heap.size 0 A.size C::H) (w.alloc (.cells A t)):=by
 refine h.fresh (fun b o hb=>by obtain⟨rfl,_⟩:=hb;exact Nat.le_refl _) ?_ ?_
 ·refine⟨rfl,rfl,rfl,sq,fun b hb _=>heap_alloc_old w _ hb,fun b A' t' fz hA=>⟨A',?_,rfl,fun _ _=>rfl⟩⟩;rw[heap_alloc_old w _ (eh hA)];exact hA
 ·exact⟨A,t,0,0,heap_alloc_new w _,fun i hi=>⟨by simpa using hC i hi,og⟩⟩
def cellsOf(A:Array Value):Nat->Value:=fun i=>A.getD i undef
theorem gV(A:Array Value)(i:Nat)(h:i<A.size):A[i]? =some (cellsOf A i):=by simp[cellsOf,h]
def XO.bN{t:TypeId}{z:Value}{m:Nat}{C:Nat->Value}(hz:B5 P t=some z)(hm:z.cells.size=m)(hC:∀ i,i<m->cellsOf z.cells i=C i)(hd:Nat.blt d n.sz=true)(h:∀ b,XO P n ops Q bU ((d,aC b 0 0)::L) (XM W S (.cells b 0 m C::H))):XO P n ops Q (⟨some d,.alloc t,ty,pos,af,none⟩::bU) L (XM W S H):=
 XO.op rfl fun a w ha hw=>by
  have hx:=hw.alloc z.cells t C fun i hi=>by rw[gV _ _ hi,hC i (hm▸hi)]
  rw[hm]at hx;unfold Oper.wp;have:(execOp a.eval ⟨some d,.alloc t,ty,pos,af,none⟩).run P w= .ok (.value (aC w.heap.size 0 0)) (w.alloc (.cells z.cells t)):=by
   simp[execOp,Instr.alloc,pR hz,newVar,newRow,newObj,Sem.run,aC]
  rw[this];exact h _ _ _ (ha.put hd _) hx
theorem XO.box{t:TypeId}{x:Operand}{v:Value}{m:Nat}{C:Nat->Value}(hx:ev L x=some v)(hm:v.cells.size=m)(hC:∀ i,i<m->cellsOf v.cells i=C i)(hd:Nat.blt d n.sz=true)(h:∀ b,XO P n ops Q bU ((d,aC b 0 0)::L) (XM W S (.cells b 0 m C::H))):XO P n ops Q (⟨some d,.box t x,ty,pos,af,none⟩::bU) L (XM W S H):=
 XO.op rfl fun a w ha hw=>by
  have nL:=hw.alloc v.cells t C fun i hi=>by rw[gV _ _ hi,hC i (hm▸hi)]
  rw[hm]at nL;unfold Oper.wp;have:(execOp a.eval ⟨some d,.box t x,ty,pos,af,none⟩).run P w= .ok (.value (aC w.heap.size 0 0)) (w.alloc (.cells v.cells t)):=by
   simp[execOp,ay ha hx,Instr.box,newVar,newRow,newObj,Sem.run,aC]
  rw[this];exact h _ _ _ (ha.put hd _) nL
def V.build{t:TypeId}{parts:Array (Nat×Operand)}{vs:Array (Nat×Value)}{v:Value}(hp:parts.toList.mapM (fun x=>(ev L x.2).map fun u=>(x.1,u))=some vs.toList)(hb:∀ w,(Instr.build t vs).run P w= .ok v w){φ:World->Prop}{gd:Option (Nat×Bool)} :bd P n L φ ⟨some d,.build t parts,ty,pos,af,gd⟩ v:=fun a w ha _=>by
  have:parts.map (fun x=>(x.1,a.eval x.2))=vs:=by
   apply Array.toList_inj.1;rw[Array.toList_map];generalize parts.toList=l at hp;generalize vs.toList=us at hp ⊢;clear hb;induction l generalizing us with
   | nil=>simp at hp;subst hp;rfl
   | cons x r ih=>
    simp only[List.mapM_cons,Option.bind_eq_bind]at hp;cases he:ev L x.2 with
    | none=>simp[he]at hp
    | some u=>
     simp only[he,Option.map_some,Option.bind_some]at hp;cases hr:r.mapM (fun x=>(ev L x.2).map fun u=>(x.1,u))with
     | none=>simp[hr]at hp
     | some us'=>
      simp[hr]at hp;subst hp;simp only[List.map_cons];rw[ih us' hr,ay ha he]
  have h2:(execOp a.eval ⟨some d,.build t parts,ty,pos,af,gd⟩).run P w= .ok (.value v) w:=by
   have:parts.map (fun (i,x)=>(i,a.eval x))=vs:=this;simp[execOp,this,hb]
  omega
def Pd(L:PF):List Operand->Option (List Value)
 | []=>some []
 | x::r=>match ev L x,Pd L r with
  | some v,some vs=>some (v::vs)
  | _,_=>none
theorem qh{a:Act}(ha:nR n L a):∀ (xs:List Operand) (vs:List Value),Pd L xs=some vs->xs.map a.eval=vs
 | [],vs,h=>by simp[Pd]at h;subst h;rfl
 | x::r,vs,h=>by
  simp only[Pd]at h;cases hx:ev L x with
  | none=>simp[hx]at h
  | some v=>
   cases hr:Pd L r with
   | none=>simp[hx,hr]at h
   | some us=>
    simp[hx,hr]at h;subst h;simp only[List.map_cons,ay ha hx,qh ha r us hr]
theorem xa{w:World}{a:Act}{xs:List Operand}{vs:List Value}{n9:Array TypeId}{dst:Option Nat}(hc:cV P f=true)(he:xs.map a.eval=vs):(execOp a.eval ⟨dst,.call ⟨.value (.func f),xs.toArray,n9⟩,ty,pos,af,none⟩).run P w= .ok (.enter f vs.toArray) w:=by
 unfold cV at hc;cases hf:P.funcs[f]? with
 | none=>simp[hf]at hc
 | some fn=>
  simp only[hf,Bool.and_eq_true]at hc;obtain⟨h1,h2⟩:=hc;have h3:¬fn.name= "runtime.NumGoroutine" :=by simpa using h1
  have h4:¬fn.body=none:=by cases hb:fn.body<;>simp_all
  have h5:xs.toArray.map a.eval=vs.toArray:=by rw[<-he];simp
  simp[execOp,resolve,Act.eval,Deferred.ofValue,invoke,callFunc,run_program,hf,h3,h4,he]
def XO.call{f:FuncId}{xs:List Operand}{vs:List Value}{n9:Array TypeId}{pre F:List aK}{post:Value->List aK->Prop}(he:Pd L xs=some vs)(hs:Spec P f vs pre post)(hp:cI H pre F)(hc:cV P f=true)(hd:Nat.blt d n.sz=true)(h:∀ v H1,post v H1->XO P n ops Q bU ((d,v)::L) (XM W S (H1++F))):XO P n ops Q (⟨some d,.call ⟨.value (.func f),xs.toArray,n9⟩,ty,pos,af,none⟩::bU) L (XM W S H):=
 XO.op rfl fun a w ha hw=>by
  unfold Oper.wp;rw[xa hc (qh ha xs vs he)];show Calls P f vs.toArray w _;refine(hs w (hw.pick hp).eT).mono ?_;rintro e w' ⟨v,H1,rfl,sS,Lb,hx⟩;exact h v H1 sS _ _ (ha.put hd v) (hw.zc hp hx fun e he=>List.all_eq_true.1 Lb e he)
def XO.ad2{xs:List Operand}{vs:List Value}{n9:Array TypeId}{pre F:List aK}{post:Value->List aK->Prop}(k:Nat)(he:Pd L xs=some vs)(hs:Spec P f vs pre post)(hp:cI H pre F)(hR:(pre.drop k).all (fun e=> !e.wr)=true)(hc:cV P f=true)(hd:Nat.blt d n.sz=true)(h:∀ v H1,post v H1->XO P n ops Q bU ((d,v)::L) (XM W S (H1++(pre.drop k++F)))):XO P n ops Q (⟨some d,.call ⟨.value (.func f),xs.toArray,n9⟩,ty,pos,af,none⟩::bU) L (XM W S H):=
 XO.op rfl fun a w ha hw=>by
  unfold Oper.wp;rw[xa hc (qh ha xs vs he)];show Calls P f vs.toArray w _;refine(hs w (hw.pick hp).eT).mono ?_;rintro e w' ⟨v,H1,rfl,sS,Lb,hx⟩;have ad3:pre=pre.take k++pre.drop k:=(List.take_append_drop k pre).symm;have hR':∀ e∈pre.drop k,e.wr=false:=fun e he=>by
   have:=List.all_eq_true.1 hR e he;simpa using this
  have hp':cI H (pre.take k++pre.drop k) F:=by rw[<-ad3];exact hp
  have nL:XM w (bZ (pre.take k++pre.drop k)) H1 w':=by rw[<-ad3];exact hx
  exact h v H1 sS _ _ (ha.put hd v) (hw.WK hp' hR' nL fun e he=>List.all_eq_true.1 Lb e he)
def Spec.R2{args:List Value}{pre:List aK}{post ZN:Value->List aK->Prop}(h:Spec P f args pre post)(hp:∀ v H1,post v H1->ZN v H1):Spec P f args pre ZN:=
 fun w hg=>(h w hg).mono fun _ _ ⟨v,H1,he,hq,hr⟩=>⟨v,H1,he,hp v H1 hq,hr⟩
def ad{post:Value->List aK->Prop}{H1 F:List aK}(hp:cI H H1 F)(IA:H1.all aK.wr=true)(h:post v H1):
  ∀ w,XM W S H w->∃ v' H',Ending.returned v= .returned v'/\post v' H'/\H'.all aK.wr=true/\XM W S H' w:=fun _ hw=>⟨v,H1,rfl,h,IA,hw.pick hp⟩
end
end Go.X

namespace Go.X
open Go
variable{op:BinOp}{a b s:ByteArray}{z:Int}{k:IntKind}{x y:Operand}{v:Value}
section
variable {P:Program} {n:Fr} {L:PF} {ty:TypeId} {pos:String} {af:Array Edge} {d:Nat} {φ:World->Prop} {gd:Option (Nat×Bool)}
def R3{t:TypeId}(hx:ev L x=some (.string s))(ht:P.underlying t=some .string):bd P n L φ ⟨some d,.call ⟨.builtin .len,#[x],#[t]⟩,ty,pos,af,gd⟩ (.int .i64 s.size):=fun a w ha _=>by
 simp[execOp,resolve,invoke,builtin,Builtin.len_,ay ha hx,run_underlying ht,goInt]
def WN{t e:TypeId}{p:Option Addr}{l c:Nat}(hx:ev L x=some (.slice p l c))(ht:P.underlying t=some (.slice e)):bd P n L φ ⟨some d,.call ⟨.builtin .len,#[x],#[t]⟩,ty,pos,af,gd⟩ (.int .i64 l):=fun a w ha _=>by
 simp[execOp,resolve,invoke,builtin,Builtin.len_,ay ha hx,run_underlying ht,goInt]
theorem toList_beq(a b:ByteArray):(a.toList==b.toList)=decide (a=b):=by
 grind [ByteArray.toList_eq,ByteArray.ext,Array.toList_inj]
def Pe(t:ByteArray):t=⟨#[]⟩↔t.size=0:=by
 constructor
 ·intro h;rw[h];rfl
 ·intro h;apply ByteArray.ext;simp_all
def R4{t t':TypeId}{r:Bool}(hx:ev L x=some (.string a))(hy:ev L y=some (.string b))(hr:(match op with | .eql=>some (decide (a=b)) | .neq=>some (decide (a≠b)) | .lss=>some (Op.bytesLess a.toList b.toList) | .leq=>some (Op.bytesLess a.toList b.toList||decide (a=b)) | .gtr=>some (!(Op.bytesLess a.toList b.toList||decide (a=b))) | .geq=>some (!Op.bytesLess a.toList b.toList) | _=>none)=some r):bd P n L φ ⟨some d,.binOp op t x y t',ty,pos,af,gd⟩ (.bool r):=
 qg hx hy (fun w A hx hy=>by
  cases op<;>simp only[Option.some.injEq]at hr<;>(try cases hr)<;>
   simp only[execOp,eqGuard,hx,hy,binOp,Op.stringOp,toList_beq]<;>simp)
def R5{t t':TypeId}(hx:ev L x=some (.string a))(hy:ev L y=some (.string b))(hs:a.size+b.size<=9223372036854775807):bd P n L φ ⟨some d,.binOp .add t x y t',ty,pos,af,gd⟩ (.string (a++b)):=
 qg hx hy (fun w A hx hy=>by
  have h:¬((a.size+b.size:Nat):Int)>IntKind.i64.max:=by simp[IntKind.max,IntKind.signed,IntKind.bits];omega
  simp only[execOp,eqGuard,hx,hy,binOp,Op.stringOp]
  rw[if_neg h]
  simp)
def Pf{t:TypeId}(hx:ev L x=some (.string s))(hy:ev L y=some (.int k z))(ht:P.underlying t=some .string)(hz:0<=z/\z<=s.size):bd P n L φ ⟨some d,.slice t x none (some y) none,ty,pos,af,gd⟩ (.string (s.extract 0 z.toNat)):=fun a w ha _=>by
 simp[execOp,ay ha hx,ay ha hy,Instr.sliceAt,run_underlying ht,Instr.slice,Instr.sliceBounds,Instr.sliceBound,asIntOf,hz]
def IB{t:TypeId}(hx:ev L x=some (.string s))(hy:ev L y=some (.int k z))(ht:P.underlying t=some .string)(hz:0<=z/\z<=s.size):bd P n L φ ⟨some d,.slice t x (some y) none none,ty,pos,af,gd⟩ (.string (s.extract z.toNat s.size)):=fun a w ha _=>by
 simp[execOp,ay ha hx,ay ha hy,Instr.sliceAt,run_underlying ht,Instr.slice,Instr.sliceBounds,Instr.sliceBound,asIntOf,hz]
def R6{t:TypeId}{u:Operand}{k':IntKind}{z':Int}(hx:ev L x=some (.string s))(hy:ev L y=some (.int k z))(hu:ev L u=some (.int k' z'))(ht:P.underlying t=some .string)(hz:0<=z/\z<=z'/\z'<=s.size):bd P n L φ ⟨some d,.slice t x (some y) (some u) none,ty,pos,af,gd⟩ (.string (s.extract z.toNat z'.toNat)):=fun a w ha _=>by
 have h1:0<=z'/\z'<=s.size:=og;have h2:0<=z/\z<=(z'.toNat:Int):=og;have h3:max z' 0=z':=og;have h4:¬z'<z:=og;simp[execOp,ay ha hx,ay ha hy,ay ha hu,Instr.sliceAt,run_underlying ht,Instr.slice,Instr.sliceBounds,Instr.sliceBound,asIntOf,h1,h2,h3,h4]
def gp{t:TypeId}{u:UInt8}(hx:ev L x=some (.string s))(hy:ev L y=some (.int k z))(ht:P.underlying t=some .string)(hz:0<=z)(hu:s[z.toNat]? =some u):bd P n L φ ⟨some d,.index t x y,ty,pos,af,gd⟩ (.int .u8 u.toNat):=fun a w ha _=>by
 simp[execOp,ay ha hx,ay ha hy,Instr.index,run_underlying ht,asIntOf,hz,hu]
def az(T:TypeId)(e:Int):Value:=if e=0 then .nilIface else .iface T (.int .i64 e)
theorem aQ(T:TypeId){e:Int}(h:e≠0):az T e= .iface T (.int .i64 e):=by simp[az,h]
def Be(k:Nat){t:TypeId}{w:World}{ms:Array (String×TypeId)}(ht:P.underlying t=some (.interface ms)):(Op.equalIn (k+1) t .nilIface .nilIface).run P w= .ok true w:=by
 simp only[Op.equalIn,Sem.run_bind,run_underlying ht,Result.andThen_ok,Sem.run_pure]
def sE(k:Nat){t T:TypeId}{w:World}{ms:Array (String×TypeId)}(ht:P.underlying t=some (.interface ms)):(Op.equalIn (k+1) t (.iface T v) .nilIface).run P w= .ok false w:=by
 simp only[Op.equalIn,Sem.run_bind,run_underlying ht,Result.andThen_ok,Sem.run_pure]
theorem IC{t t':TypeId}{ms:Array (String×TypeId)}{r:Bool}(hx:ev L x=some .nilIface)(ht:P.underlying t=some (.interface ms))(hr:(match op with | .eql=>some true | .neq=>some false | _=>none)=some r):bd P n L φ ⟨some d,.binOp op t x (.const .nilIface) t',ty,pos,af,gd⟩ (.bool r):=fun a w ha _=>by
 have he:(Op.equal t .nilIface .nilIface).run P w= .ok true w:=Be 9999 ht;have hy:a.eval (.const .nilIface)= .nilIface:=rfl;cases op<;>simp only[Option.some.injEq]at hr<;>(try cases hr)<;>
  simp[execOp,eqGuard,ay ha hx,hy,binOp,he]
theorem B7{t t' T:TypeId}{ms:Array (String×TypeId)}{r:Bool}(hx:ev L x=some (.iface T v))(ht:P.underlying t=some (.interface ms))(hr:(match op with | .eql=>some false | .neq=>some true | _=>none)=some r):bd P n L φ ⟨some d,.binOp op t x (.const .nilIface) t',ty,pos,af,gd⟩ (.bool r):=fun a w ha _=>by
 have he:(Op.equal t (.iface T v) .nilIface).run P w= .ok false w:=sE 9999 ht;have hy:a.eval (.const .nilIface)= .nilIface:=rfl;cases op<;>simp only[Option.some.injEq]at hr<;>(try cases hr)<;>
  simp[execOp,eqGuard,ay ha hx,hy,binOp,he]
def R7{t t' T:TypeId}{e:Int}{ms:Array (String×TypeId)}{r:Bool}(hx:ev L x=some (az T e))(ht:P.underlying t=some (.interface ms))(hr:(match op with | .eql=>some (decide (e=0)) | .neq=>some (decide (e≠0)) | _=>none)=some r):bd P n L φ ⟨some d,.binOp op t x (.const .nilIface) t',ty,pos,af,gd⟩ (.bool r):=by
 grind [IC,B7,az]
def vl(k:Nat){t e:TypeId}{w:World}{p:Addr}(ht:P.underlying t=some (.pointer e)):(Op.equalIn (k+1) t (.pointer (some p)) (.pointer none)).run P w= .ok false w:=by
 simp only[Op.equalIn,Sem.run_bind,run_underlying ht,Result.andThen_ok,Sem.run_pure]
def run_equalIn_nil_nil(k:Nat){t e:TypeId}{w:World}(ht:P.underlying t=some (.pointer e)):(Op.equalIn (k+1) t (.pointer none) (.pointer none)).run P w= .ok true w:=by
 simp only[Op.equalIn,Sem.run_bind,run_underlying ht,Result.andThen_ok,Sem.run_pure,Option.isNone]
def R8{t t' e:TypeId}{p:Addr}{r:Bool}(hx:ev L x=some (.pointer (some p)))(ht:P.underlying t=some (.pointer e))(hr:(match op with | .eql=>some false | .neq=>some true | _=>none)=some r):bd P n L φ ⟨some d,.binOp op t x (.const (.pointer none)) t',ty,pos,af,gd⟩ (.bool r):=fun a w ha _=>by
 have he:(Op.equal t (.pointer (some p)) (.pointer none)).run P w= .ok false w:=by
  exact vl 9999 ht
 have hy:a.eval (.const (.pointer none))= .pointer none:=rfl;have b1:binOp .eql t (.pointer (some p)) (.pointer none)=(do pure (.bool (<-Op.equal t (.pointer (some p)) (.pointer none)))):=rfl;have b2:binOp .neq t (.pointer (some p)) (.pointer none)=(do pure (.bool (!(<-Op.equal t (.pointer (some p)) (.pointer none))))):=rfl;have g1:eqGuard .eql t x (.const (.pointer none)) (.pointer (some p)) (.pointer none)=pure ():=rfl;have g2:eqGuard .neq t x (.const (.pointer none)) (.pointer (some p)) (.pointer none)=pure ():=rfl;cases op<;>simp only[Option.some.injEq]at hr<;>(try cases hr)<;>
  simp only[execOp,ay ha hx,hy,b1,b2,g1,g2]<;>simp[he]
def Pg{t t' e:TypeId}{b o i:Nat}{r:Bool}(hx:ev L x=some (aC b o i))(ht:P.underlying t=some (.pointer e))
  (hr:(match op with | .eql=>some false | .neq=>some true | _=>none)=some r):
  bd P n L φ ⟨some d,.binOp op t x (.const (.pointer none)) t',ty,pos,af,gd⟩ (.bool r):=R8 hx ht hr
def Ph{t t' e:TypeId}{r:Bool}(hx:ev L x=some (.pointer none))(ht:P.underlying t=some (.pointer e))(hr:(match op with | .eql=>some true | .neq=>some false | _=>none)=some r):bd P n L φ ⟨some d,.binOp op t x (.const (.pointer none)) t',ty,pos,af,gd⟩ (.bool r):=fun a w ha _=>by
 have he:(Op.equal t (.pointer none) (.pointer none)).run P w= .ok true w:=by
  exact run_equalIn_nil_nil 9999 ht
 have hy:a.eval (.const (.pointer none))= .pointer none:=rfl;have b1:binOp .eql t (.pointer none) (.pointer none)=(do pure (.bool (<-Op.equal t (.pointer none) (.pointer none)))):=rfl;have b2:binOp .neq t (.pointer none) (.pointer none)=(do pure (.bool (!(<-Op.equal t (.pointer none) (.pointer none))))):=rfl;have g1:eqGuard .eql t x (.const (.pointer none)) (.pointer none) (.pointer none)=pure ():=rfl;have g2:eqGuard .neq t x (.const (.pointer none)) (.pointer none) (.pointer none)=pure ():=rfl;cases op<;>simp only[Option.some.injEq]at hr<;>(try cases hr)<;>
  simp only[execOp,ay ha hx,hy,b1,b2,g1,g2]<;>simp[he]
def Lq{t T:TypeId}{ds:TypeDesc}(hx:ev L x=some (.iface T v))(ht:P.underlying T=some ds)(hn:∀ ms,ds≠ .interface ms):bd P n L φ ⟨some d,.typeAssert x t T true,ty,pos,af,gd⟩ (.tuple #[v,.bool true]):=fun a w ha _=>by
 simp only[execOp,ay ha hx,Instr.typeAssert,Sem.run_bind,run_underlying ht,Result.andThen_ok];rfl
theorem V.min2{x y:Operand}{t t':TypeId}{k:IntKind}{a b:Int}(hx:ev L x=some (.int k a))(hy:ev L y=some (.int k b)):bd P n L φ ⟨some d,.call ⟨.builtin .min,#[x,y],#[t,t']⟩,ty,pos,af,gd⟩ (.int k (min a b)):=fun A w ha _=>by
 have:(if b<a then b else a)=min a b:=by rw[Int.min_def];split<;>split<;>omega
 simp[execOp,resolve,invoke,builtin,Builtin.min_,Builtin.min2,ay ha hx,ay ha hy,this]
theorem V.max2{x y:Operand}{t t':TypeId}{k:IntKind}{a b:Int}(hx:ev L x=some (.int k a))(hy:ev L y=some (.int k b)):bd P n L φ ⟨some d,.call ⟨.builtin .max,#[x,y],#[t,t']⟩,ty,pos,af,gd⟩ (.int k (max a b)):=fun A w ha _=>by
 have:(if b>a then b else a)=max a b:=by rw[Int.max_def];split<;>split<;>omega
 simp[execOp,resolve,invoke,builtin,Builtin.max_,Builtin.max2,ay ha hx,ay ha hy,this]
def oc{s t:TypeId}{k':IntKind}{a:Int}(hx:ev L x=some (.int k a))(hs:P.underlying s=some (.int k))(ht:P.underlying t=some (.int k'))(r:Int)(hr:k'.wrap a=r):bd P n L φ ⟨some d,.convert s t x,ty,pos,af,gd⟩ (.int k' r):=fun A w ha _=>by
 subst hr;simp[execOp,ay ha hx,convert,run_underlying hs,run_underlying ht,Conv.intToInt]
end
def Lr{a b:Int}(h:a=b:=by omega):some (Value.int k a)=some (.int k b):=by rw[h]
def eqs(h:a=b):some (Value.string a)=some (.string b):=by rw[h]
def dv(p:Int->Bool)(m:Nat):Option Nat:=(List.range m).find? fun k=>p k
theorem dW{p:Int->Bool}{m:Nat}{k:Int}(h0:0<=k)(hk:k<m)(hp:p k=true)(hn:∀ j:Int,0<=j->j<k->p j=false):dv p m=some k.toNat:=by
 grind [dv,List.find?_range_eq_some]
theorem dL{p:Int->Bool}{m:Nat}(hn:∀ j:Int,0<=j->j<m->p j=false):dv p m=none:=by
 grind [dv]
theorem sb:(∀ {p:Prop} [Decidable p],(decide p=true)=p)/\(∀ {p:Prop} [Decidable p],(decide p=false)=¬p)/\(∀ b:Bool,((!b)=true)=(b=false))/\(∀ b:Bool,((!b)=false)=(b=true))/\(∀ {a b:Bool},((!a)=b)=(a= !b))/\((!true)=false)/\((!false)=true)/\(∀ {α:Type} [BEq α] [LawfulBEq α] {a b:α},((a==b)=true)=(a=b))/\(∀ {α:Type} [BEq α] [LawfulBEq α] {a b:α},((a != b)=true)=(a≠b))/\(∀ {α:Type} {a b:α},(a≠b)=¬a=b)/\(∀ {α:Type} [BEq α] [LawfulBEq α] {a b:α},((a==b)=false)=(¬a=b))/\(∀ {α:Type} [BEq α] [LawfulBEq α] {a b:α},((a != b)=false)=(a=b))/\(∀ {a b:Int},(¬a<b)=(b<=a))/\(∀ {a b:Int},(¬a<=b)=(b<a))/\(∀ {a b:Int},(a>b)=(b<a))/\(∀ {a b:Int},(a>=b)=(b<=a))/\(∀ a b:Bool,((a&&b)=true)=(a=true/\b=true))/\(∀ a b:Bool,((a||b)=true)=(a=true\/b=true))/\(∀ a b:Bool,((a&&b)=false)=(a=false\/b=false))/\(∀ a b:Bool,((a||b)=false)=(a=false/\b=false))/\(∀ {p:Prop} [Decidable p],(¬ ¬p)=p):=by
 simp_all
end Go.X

namespace Go.X
open Go
def gW{c:Prop}[Decidable c]{α:Type}{a a' b b':α}(h1:c->a=a')(h2:¬c->b=b'):(if c then a else b)=(if c then a' else b'):=by
 simp_all
def ae{α:Type}(f:Int->α)(i:Int)(v:α):Int->α:=fun j=>if j=i then v else f j
theorem ai{α:Type}(f:Int->α){i:Int}(v:α){j:Int}(h:¬j=i):ae f i v j=f j:=by simp[ae,h]
def cr{α:Type}(f:Int->Int->α)(i k:Int)(v:α):Int->Int->α:=fun j l=>if j=i/\l=k then v else f j l
theorem cy{α:Type}(f:Int->α){i:Int}{v:α}(h:f i=v):ae f i v=f:=by
 grind [ae]
theorem au{α:Type}(f:Int->α)(i:Int)(v:α):ae f i v i=v:=by simp[ae]
end Go.X
