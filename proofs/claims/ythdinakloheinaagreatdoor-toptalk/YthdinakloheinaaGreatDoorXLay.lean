import Derived.Test.YthdinakloheinaaGreatDoorXMem
namespace Go.X
open Go
def ptr(b o i:Nat):Value:=.pointer (some ⟨b,o+i,none⟩)
def one:Value→Bool
 | .agg _=>false
 | .tuple _=>false
 | _=>true
theorem o8{v:Value}(h:one v=true):v.cells= #[v]:=by cases v<;>simp_all[one,Value.cells]
def cH(C:Nat→Value)(i:Nat)(v:Value):Nat→Value:=fun j=>if j=i then v else C j
def bW(C:Nat→Value)(i n:Nat):Value:=.agg ((List.range n).map fun j=>C (i+j)).toArray
def yv:List Value→Nat→Option Value
 | [],_=>none
 | v::_,0=>some v
 | _::r,k+1=>yv r k
theorem tC:∀ {l:List Value} {k:Nat} {v:Value},yv l k=some v→l[k]? =some v
 | [],_,_,h=>by simp[yv]at h
 | u::_,0,_,h=>by simpa [yv]using h
 | _::r,k+1,_,h=>by simpa using tC (l:=r) h
theorem Ed{vs:Array Value}{k:Nat}{v:Value}(h:yv vs.toList k=some v):vs[k]? =some v:=by simpa using tC h
def fY(P:Program)(t:TypeId):Bool:=match P.underlying t with
 | some (.struct _)=>false
 | some (.array _ _)=>false
 | some _=>true
 | none=>false
def jF(P:Program)(t:TypeId):Bool:=match P.underlying t with
 | some (.struct _)=>true
 | some (.array _ _)=>true
 | _=>false
def de(P:Program)(t:TypeId):Option Nat:=(P.info? t).map (·.size)
def cO(P:Program)(s:TypeId)(f:Nat):Option Nat:=match P.underlying s with
 | some (.struct fs)=>match fs[f]? with
  | some fld=>match de P fld.type with
   | some 0=>none
   | some _=>some fld.offset
   | none=>none
  | none=>none
 | _=>none
def nv(P:Program)(t:TypeId):Option (Nat×Nat):=match P.underlying t with
 | some (.array n e)=>(de P e).map fun s=>(n,s)
 | _=>none
def ny(P:Program)(t:TypeId):Option (TypeId×Nat):=match P.underlying t with
 | some (.slice e)=>(de P e).map fun s=>(e,s)
 | _=>none
def zeroOf(P:Program)(t:TypeId):Option Value:=(P.info? t).bind (·.zero)
def cR(P:Program)(f:FuncId):Bool:=match P.funcs[f]? with
 | some fn=>fn.name != "runtime.NumGoroutine" &&fn.body.isSome
 | none=>false
section
variable {P:Program} {w:World}
theorem iJ{t:TypeId}(h:fY P t=true):(isAgg t).run P w= .ok false w:=by
 unfold fY at h
 cases hu:P.underlying t with
 | none=>simp[hu]at h
 | some d=>simp only[hu]at h;simp only[isAgg,Sem.run_bind,run_underlying hu,Result.andThen_ok];cases d<;>simp_all
theorem mv{t:TypeId}(h:jF P t=true):(isAgg t).run P w= .ok true w:=by
 unfold jF at h
 cases hu:P.underlying t with
 | none=>simp[hu]at h
 | some d=>simp only[hu]at h;simp only[isAgg,Sem.run_bind,run_underlying hu,Result.andThen_ok];cases d<;>simp_all
theorem run_sizeOf{t n:Nat}(h:de P t=some n):(sizeOf t).run P w= .ok n w:=by
 unfold de at h
 cases hi:P.info? t with
 | none=>simp[hi]at h
 | some i=>simp[hi]at h;simp[sizeOf,typeInfo,hi,h]
theorem run_typeInfo{t:Nat}{i:TypeInfo}(h:P.info? t=some i):(typeInfo t).run P w= .ok i w:=by simp[typeInfo,h]
theorem jz{t:Nat}{v:Value}(h:zeroOf P t=some v):(zeroValue t).run P w= .ok v w:=by
 unfold zeroOf at h
 cases hi:P.info? t with
 | none=>simp[hi]at h
 | some i=>simp[hi]at h;simp[zeroValue,typeInfo,hi,h]
theorem iP(b o i k:Nat):(⟨b,o+i,none⟩:Addr).add k=⟨b,o+(i+k),none⟩:=by
 unfold Addr.add;split
 ·subst_vars;rfl
 ·simp only[Nat.add_assoc]
end
section
variable {P:Program} {w:World}
theorem run_equalIn_bool(k:Nat){t:TypeId}(a b:Bool)(ht:P.underlying t=some .bool):(Op.equalIn (k+1) t (.bool a) (.bool b)).run P w= .ok (a==b) w:=by
 simp only[Op.equalIn,Sem.run_bind,run_underlying ht,Result.andThen_ok,Sem.run_pure]
theorem run_equal_bool{t:TypeId}(a b:Bool)(ht:P.underlying t=some .bool):(Op.equal t (.bool a) (.bool b)).run P w= .ok (a==b) w:=
 run_equalIn_bool 9999 a b ht
end
def aM(P:Program)(n:Fr)(L:PF)(φ:World→Prop)(o:Oper)(v:Value):Prop:=
 ∀ a w,Sat n L a→φ w→(execOp a.eval o).run P w= .ok (.value v) w
section
variable {P:Program} {n:Fr} {Q:Exit→Act→World→Prop} {L:PF} {ops:Md} {rest:List Oper} {ty:TypeId} {pos:String} {af:Array Edge} {d:Nat} {φ:World→Prop} {gd:Option (Nat×Bool)}
theorem V.move{x:Operand}{v:Value}(hx:ev L x=some v):aM P n L φ (⟨some d,.move x,ty,pos,af,gd⟩) (v):=
   (fun a w ha _=>by simp[execOp,av ha hx])
theorem V.assign{x:Operand}{v:Value}(hx:ev L x=some v):aM P n L φ (⟨some d,.assign x,ty,pos,af,gd⟩) (v):=
   (fun a w ha _=>by simp[execOp,av ha hx])
theorem V.pick{c x y:Operand}{t:Bool}{u v r:Value}(hc:ev L c=some (.bool t))(hx:ev L x=some u)(hy:ev L y=some v)(hr:(bif t then u else v)=r):aM P n L φ (⟨some d,.pick c x y,ty,pos,af,gd⟩) (r):=
   (fun a w ha _=>by subst hr;cases t<;>simp[execOp,av ha hx,av ha hy,av ha hc,asBool])
theorem V.bI{x:Operand}{b o i:Nat}(hx:ev L x=some (ptr b o i)):aM P n L φ (⟨some d,.nilCheck x,ty,pos,af,gd⟩) (ptr b o i):=
   (fun a w ha _=>by simp[execOp,av ha hx,ptr])
theorem V.extract{x:Operand}{vs:Array Value}{k:Nat}{v:Value}(hx:ev L x=some (.tuple vs))(hk':yv vs.toList k=some v):aM P n L φ (⟨some d,.extract x k,ty,pos,af,gd⟩) (v):=
   (fun a w ha _=>by have hk:=Ed hk';simp[execOp,av ha hx,Instr.extract,hk])
theorem V.fieldAddr{s:TypeId}{x:Operand}{f b o i k:Nat}(hx:ev L x=some (ptr b o i))(hf:cO P s f=some k):aM P n L φ (⟨some d,.fieldAddr s x f,ty,pos,af,gd⟩) (ptr b o (i+k)):=
   (fun a w ha _=>by
    unfold cO at hf
    cases hu:P.underlying s with
    | none=>simp[hu]at hf
    | some ds=>
      simp only[hu]at hf
      cases ds<;>simp only[]at hf<;>try cases hf
      rename_i fs
      cases hfl:fs[f]? with
      | none=>simp[hfl]at hf
      | some fld=>
        simp only[hfl]at hf
        cases hs:de P fld.type with
        | none=>simp[hs]at hf
        | some z=>
          cases z with
          | zero=>simp[hs]at hf
          | succ z=>
            simp only[hs,Option.some.injEq]at hf
            subst hf
            simp[execOp,av ha hx,Instr.fieldAt,run_underlying hu,hfl,Instr.sureAddr,ptr,fieldPlace,run_sizeOf hs,iP])
theorem V.hG{t:TypeId}{x y:Operand}{b o i m sz:Nat}{k:IntKind}{z:Int}(hx:ev L x=some (ptr b o i))(hy:ev L y=some (.int k z))(ht:nv P t=some (m,sz))(hz:0≤z∧z<m):aM P n L φ (⟨some d,.indexAddr t x y,ty,pos,af,gd⟩) (ptr b o (i+z.toNat*sz)):=
   (fun a w ha _=>by
    unfold nv at ht
    cases hu:P.underlying t with
    | none=>simp[hu]at ht
    | some ds=>
      simp only[hu]at ht
      cases ds<;>simp only[]at ht<;>try cases ht
      rename_i m' e
      cases hs:de P e with
      | none=>simp[hs]at ht
      | some s=>
        simp only[hs,Option.map_some,Option.some.injEq,Prod.mk.injEq]at ht
        obtain⟨rfl,rfl⟩:=ht
        simp[execOp,av ha hx,av ha hy,Instr.indexAt,asIntOf,run_underlying hu,Instr.sureAddr,ptr,hz,run_sizeOf hs,iP])
theorem V.G3{t e:TypeId}{x y:Operand}{b o sz len cap:Nat}{k:IntKind}{z:Int}(hx:ev L x=some (.slice (some ⟨b,o,none⟩) len cap))(hy:ev L y=some (.int k z))(ht:ny P t=some (e,sz))(hz:0≤z∧z<len):aM P n L φ (⟨some d,.indexAddr t x y,ty,pos,af,gd⟩) (ptr b o (0+z.toNat*sz)):=
   (fun a w ha _=>by
    unfold ny at ht
    cases hu:P.underlying t with
    | none=>simp[hu]at ht
    | some ds=>
      simp only[hu]at ht
      cases ds<;>simp only[]at ht<;>try cases ht
      rename_i e'
      cases hs:de P e' with
      | none=>simp[hs]at ht
      | some s=>
        simp only[hs,Option.map_some,Option.some.injEq,Prod.mk.injEq]at ht
        obtain⟨rfl,rfl⟩:=ht
        have:=iP b o 0 (z.toNat*s)
        simp only[Nat.add_zero]at this
        simp[execOp,av ha hx,av ha hy,Instr.indexAt,asIntOf,run_underlying hu,ptr,hz,run_sizeOf hs,this])
theorem V.bin{op:BinOp}{t t':TypeId}{x y:Operand}{u v r:Value}(hx:ev L x=some u)(hy:ev L y=some v)(hr:∀ (w:World) (a:Act),a.eval x=u→a.eval y=v→(execOp a.eval ⟨some d,.binOp op t x y t',ty,pos,af,gd⟩).run P w= .ok (.value r) w):aM P n L φ (⟨some d,.binOp op t x y t',ty,pos,af,gd⟩) r:=
 fun a w ha _=>hr w a (av ha hx) (av ha hy)
theorem V.add{t t':TypeId}{x y:Operand}{k:IntKind}{a b:Int}(hx:ev L x=some (.int k a))(hy:ev L y=some (.int k b))(r:Int)(hw:k.wrap (a+b)=r):aM P n L φ (⟨some d,.binOp .add t x y t',ty,pos,af,gd⟩) (.int k r):=
 V.bin hx hy (fun w A hx hy=>by simp[execOp,eqGuard,hx,hy,binOp,Op.intArith,hw])
theorem V.sub{t t':TypeId}{x y:Operand}{k:IntKind}{a b:Int}(hx:ev L x=some (.int k a))(hy:ev L y=some (.int k b))(r:Int)(hw:k.wrap (a-b)=r):aM P n L φ (⟨some d,.binOp .sub t x y t',ty,pos,af,gd⟩) (.int k r):=
 V.bin hx hy (fun w A hx hy=>by simp[execOp,eqGuard,hx,hy,binOp,Op.intArith,hw])
theorem V.mul{t t':TypeId}{x y:Operand}{k:IntKind}{a b:Int}(hx:ev L x=some (.int k a))(hy:ev L y=some (.int k b))(r:Int)(hw:k.wrap (a*b)=r):aM P n L φ (⟨some d,.binOp .mul t x y t',ty,pos,af,gd⟩) (.int k r):=
 V.bin hx hy (fun w A hx hy=>by simp[execOp,eqGuard,hx,hy,binOp,Op.intArith,hw])
theorem Hv(a b:Int):(a==b)=decide (a=b):=rfl
theorem Hs(a b:Int):(a != b)= !decide (a=b):=rfl
theorem V.cmp{op:BinOp}{t t':TypeId}{x y:Operand}{k:IntKind}{a b:Int}{r:Bool}(hx:ev L x=some (.int k a))(hy:ev L y=some (.int k b))(hr:(match op with | .eql=>some (decide (a=b)) | .neq=>some (decide (a≠b)) | .lss=>some (decide (a<b)) | .leq=>some (decide (a≤b)) | .gtr=>some (decide (a>b)) | .geq=>some (decide (a≥b)) | _=>none)=some r):aM P n L φ (⟨some d,.binOp op t x y t',ty,pos,af,gd⟩) (.bool r):=
 V.bin hx hy (fun w A hx hy=>by
  cases op<;>simp only[Option.some.injEq]at hr<;>(try cases hr)<;>
   simp[execOp,eqGuard,hx,hy,binOp,Op.intCmp,Hv,Hs])
theorem V.not{t:TypeId}{x:Operand}{b:Bool}(hx:ev L x=some (.bool b)):aM P n L φ (⟨some d,.unOp .not t x,ty,pos,af,gd⟩) (.bool (!b)):=
   (fun a w ha _=>by simp[execOp,av ha hx,Op.unary])
theorem V.NJ{t:TypeId}{x:Operand}{p:Prop}[Decidable p](hx:ev L x=some (.bool (decide p))):aM P n L φ (⟨some d,.unOp .not t x,ty,pos,af,gd⟩) (.bool (decide (¬p))):=
   (fun a w ha _=>by simp[execOp,av ha hx,Op.unary])
theorem V.neg{t:TypeId}{x:Operand}{k:IntKind}{a:Int}(hx:ev L x=some (.int k a))(r:Int)(hw:k.wrap (0-a)=r):aM P n L φ (⟨some d,.unOp .neg t x,ty,pos,af,gd⟩) (.int k r):=
   (fun A w ha _=>by
    have hw':k.wrap (-a)=r:=by rw[←hw];congr 1;omega
    simp[execOp,av ha hx,Op.unary,Op.intArith,hw'])
theorem V.KH{op:BinOp}{t t':TypeId}{x y:Operand}{a b r:Bool}(hx:ev L x=some (.bool a))(hy:ev L y=some (.bool b))(ht:P.underlying t=some .bool)(hr:(match op with | .eql=>some (a==b) | .neq=>some (!(a==b)) | _=>none)=some r):aM P n L φ (⟨some d,.binOp op t x y t',ty,pos,af,gd⟩) (.bool r):=
 V.bin hx hy (fun w A hx hy=>by
  have he:=run_equal_bool (P:=P) (w:=w) a b ht
  cases op<;>simp only[Option.some.injEq]at hr<;>(try cases hr)<;>
   simp[execOp,eqGuard,hx,hy,binOp,he])
theorem V.tz{t:TypeId}{x:Operand}{v:Value}{ds:TypeDesc}(hx:ev L x=some v)(ht:P.underlying t=some ds)(hn:∀ ms,ds≠ .interface ms):aM P n L φ (⟨some d,.makeInterface t x,ty,pos,af,gd⟩) (.iface t v):=
   (fun a w ha _=>by
    simp only[execOp,av ha hx,Instr.makeInterface,Sem.run_bind,run_underlying ht,Result.andThen_ok]
    cases ds<;>simp_all)
variable {W:World} {S:Nat→Nat→Prop} {H H':List ax}
theorem cw{w:World}{b o m i:Nat}{C:Nat→Value}(h:(ax.cells b o m C).holds w)(hi:i<m):w.cell? ⟨b,o+i,none⟩=some (C i):=by
 obtain⟨A,t,lo,hi',h1,h2⟩:=h
 simp[World.cell?,h1,(h2 i hi).1]
theorem rF{w:World}{b o m i:Nat}{C:Nat→Value}(h:(ax.ro b o m C).holds w)(hi:i<m):w.cell? ⟨b,o+i,none⟩=some (C i):=by
 obtain⟨A,t,fz,h1,h2⟩:=h
 simp[World.cell?,h1,h2 i hi]
theorem dp{w:World}{t:TypeId}{a:Addr}{v:Value}(ht:fY P t=true)(hc:w.cell? a=some v):(loadVar t a).run P w= .ok v w:=by
 simp[loadVar,iJ ht,run_load,hc]
theorem dm{W:World}{S:Nat→Nat→Prop}{H:List ax}{e:ax}(hH:Has H e)(w:World)(h:XM W S H w):e.holds w:=h.good.1 _ hH.mem
theorem ea{e:ax}(w:World)(h:e.holds w):e.holds w:=h
theorem V.load{t:TypeId}{x:Operand}{b o i m:Nat}{C:Nat→Value}{v:Value}(hx:ev L x=some (ptr b o i))(hH:∀ w,φ w→(ax.cells b o m C).holds w)(hv:i<m∧C i=v)(ht:fY P t=true):aM P n L φ (⟨some d,.load t x,ty,pos,af,gd⟩) v:=fun a w ha hw=>by
 have hc:=cw (hH w hw) hv.1
 rw[hv.2]at hc
 simp[execOp,av ha hx,Instr.loadAt,Instr.sureAddr,ptr,dp ht hc]
theorem V.KN{t:TypeId}{x:Operand}{b o i m:Nat}{C:Nat→Value}{v:Value}(hx:ev L x=some (ptr b o i))(hH:∀ w,φ w→(ax.ro b o m C).holds w)(hv:i<m∧C i=v)(ht:fY P t=true):aM P n L φ (⟨some d,.load t x,ty,pos,af,gd⟩) v:=fun a w ha hw=>by
 have hc:=rF (hH w hw) hv.1
 rw[hv.2]at hc
 simp[execOp,av ha hx,Instr.loadAt,Instr.sureAddr,ptr,dp ht hc]
theorem run_loadCellsFrom(b o i:Nat)(C:Nat→Value){w:World} :∀ (k j:Nat) (acc:Array Value),(∀ l,j≤l→l<j+k→w.cell? ⟨b,o+(i+l),none⟩=some (C (i+l)))→
  (loadCellsFrom ⟨b,o+i,none⟩ j k acc).run P w= .ok (acc++((List.range' j k).map fun l=>C (i+l)).toArray) w
 | 0,j,acc,_=>by simp[loadCellsFrom]
 | k+1,j,acc,h=>by
  simp only[loadCellsFrom,Sem.run_bind,iP,run_load,h j (Nat.le_refl _) (by omega),Result.andThen_ok]
  rw[run_loadCellsFrom b o i C k (j+1) _ (fun l h1 h2=>h l (by omega) (by omega))]
  simp[List.range'_succ]
theorem eC{w:World}{t:TypeId}{b o i sz:Nat}{C:Nat→Value}(ht:jF P t=true)(hs:de P t=some sz)(hc:∀ l,l<sz→w.cell? ⟨b,o+(i+l),none⟩=some (C (i+l))):(loadVar t ⟨b,o+i,none⟩).run P w= .ok (bW C i sz) w:=by
 simp only[loadVar,Sem.run_bind,mv ht,Result.andThen_ok,run_sizeOf hs,if_true,loadCells]
 rw[run_loadCellsFrom b o i C sz 0 #[] (fun l _ h2=>hc l (by omega))]
 simp[bW,List.range_eq_range']
theorem V.gu{t:TypeId}{x:Operand}{b o i m sz:Nat}{C:Nat→Value}{v:Value}(hx:ev L x=some (ptr b o i))(hH:∀ w,φ w→(ax.cells b o m C).holds w)(hv:i+sz≤m∧bW C i sz=v)(ht:jF P t=true)(hs:de P t=some sz):aM P n L φ (⟨some d,.load t x,ty,pos,af,gd⟩) v:=fun a w ha hw=>by
 have hr:=eC (P:=P) (w:=w) (b:=b) (o:=o) (i:=i) (C:=C) ht hs (fun l hl=>cw (hH w hw) (by omega))
 rw[hv.2]at hr
 simp[execOp,av ha hx,Instr.loadAt,Instr.sureAddr,ptr,hr]
theorem V.CW{t:TypeId}{x:Operand}{b o i m sz:Nat}{C:Nat→Value}{v:Value}(hx:ev L x=some (ptr b o i))(hH:∀ w,φ w→(ax.ro b o m C).holds w)(hv:i+sz≤m∧bW C i sz=v)(ht:jF P t=true)(hs:de P t=some sz):aM P n L φ (⟨some d,.load t x,ty,pos,af,gd⟩) v:=fun a w ha hw=>by
 have hr:=eC (P:=P) (w:=w) (b:=b) (o:=o) (i:=i) (C:=C) ht hs (fun l hl=>rF (hH w hw) (by omega))
 rw[hv.2]at hr
 simp[execOp,av ha hx,Instr.loadAt,Instr.sureAddr,ptr,hr]
theorem XO.v{ops:Md}{rest:List Oper}{M:World→Prop}{op:Op}{v:Value}(hv:aM P n L (fun _=>True) ⟨some d,op,ty,pos,af,none⟩ v)(hd:(Nat.blt d n.sz&& !cx op)=true)
  (h:XO P n ops Q rest ((d,v)::L) M):XO P n ops Q (⟨some d,op,ty,pos,af,none⟩::rest) L M:=XO.val hd (fun a w ha=>hv a w ha trivial) h
theorem XO.l{ops:Md}{rest:List Oper}{M:World→Prop}{op:Op}{v:Value}(hv:aM P n L M ⟨some d,op,ty,pos,af,none⟩ v)(hd:(Nat.blt d n.sz&&(!cx op&&L7 op))=true)
  (h:XO P n ops Q rest ((d,v)::L) M):XO P n ops Q (⟨some d,op,ty,pos,af,none⟩::rest) L M:=XO.N8 hd hv h
end
end Go.X

namespace Go.X
open Go
inductive dZ:List ax→ax→ax→List ax→Prop where
 | here {e e' H} :dZ (e::H) e e' (e'::H)
 | there {x e e' H H'} :dZ H e e' H'→dZ (x::H) e e' (x::H')
theorem dZ.del{H H2:List ax}{e e':ax}(h:dZ H e e' H2):∃ H',dS H e H'∧(e'::H').Perm H2:=by
 induction h with
 | here=>exact⟨_,.here,.refl _⟩
 | there _ ih=>obtain⟨H',h1,h2⟩:=ih;exact⟨_,.there h1,(List.Perm.swap _ _ _).trans (List.Perm.cons _ h2)⟩
def bL(C:Nat→Value)(i:Nat):List Value→Nat→Value
 | []=>C
 | v::r=>bL (cH C i v) (i+1) r
theorem iT{v:Value}(h:one v=true):v.oneCell'=true:=by cases v<;>simp_all[one,Value.oneCell']
theorem fZ.setCell{w:World}{b o i:Nat}{A:Array Value}{t:TypeId}{fz:Nat×Nat}(h:w.heap[b]? =some (.cells A t fz))(v:Value){S:Nat→Nat→Prop}(hS:S b (o+i)):fZ w (w.setCell ⟨b,o+i,none⟩ v) S:=by
 refine⟨rfl,rfl,rfl,by simp[World.setCell],fun x hx hn=> ?_,fun x A' t' fz' hA=> ?_⟩
 ·have:x≠b:=fun e=>by subst e;exact hn _ hS
  simp only[World.setCell,Array.getElem?_modify]
  rw[if_neg (fun e=>this e.symm)]
 ·by_cases hx:x=b
  ·subst hx
   rw[h]at hA
   simp only[Option.some.injEq,Obj.cells.injEq]at hA
   obtain⟨rfl,rfl,rfl⟩:=hA
   refine⟨A.setIfInBounds (o+i) v,?_,by simp,fun j hj=> ?_⟩
   ·simp[World.setCell,Array.getElem?_modify,h]
   ·have:o+i≠j:=fun e=>by subst e;exact hj hS
    rw[Array.getElem?_setIfInBounds_ne this]
  ·refine⟨A',?_,rfl,fun _ _=>rfl⟩
   simp only[World.setCell,Array.getElem?_modify]
   rw[if_neg (fun e=>hx e.symm)]
   exact hA
theorem XM.setCell{W w:World}{S:Nat→Nat→Prop}{H H':List ax}{b o m i:Nat}{C:Nat→Value}(h:XM W S H w)(hd:dS H (.cells b o m C) H')(hi:i<m)(v:Value):XM W S (.cells b o m (cH C i v)::H') (w.setCell ⟨b,o+i,none⟩ v):=by
 have hh:(ax.cells b o m C).holds w:=h.good.1 _ (hd.perm.mem_iff.2 (by simp))
 obtain⟨A,t,lo,hi',h1,h2⟩:=hh
 refine h.write (e':=.cells b o m (cH C i v)) hd rfl (fun b' o' ha=>.inl ha) (fZ.setCell h1 v ⟨rfl,by omega,by omega⟩) ?_
 refine⟨A.setIfInBounds (o+i) v,t,lo,hi',by simp[World.setCell,Array.getElem?_modify,h1],fun j hj=>⟨?_,(h2 j hj).2⟩⟩
 have hsz:o+i<A.size:=(Array.getElem?_eq_some_iff.1 (h2 i hi).1).1
 by_cases hij:j=i
 ·subst hij;simp[cH,hsz]
 ·rw[Array.getElem?_setIfInBounds_ne (by omega)]
  simp[cH,hij,(h2 j hj).1]
section
variable {P:Program} {n:Fr} {Q:Exit→Act→World→Prop} {L:PF} {ops:Md} {rest:List Oper} {ty:TypeId} {pos:String} {af:Array Edge} {d:Nat}
variable {W:World} {S:Nat→Nat→Prop} {H H':List ax}
theorem ic{w:World}{b o m i:Nat}{C:Nat→Value}(h:(ax.cells b o m C).holds w)(hi:i<m){v:Value}(hv:one v=true):(store ⟨b,o+i,none⟩ v).run P w= .ok () (w.setCell ⟨b,o+i,none⟩ v):=by
 rw[run_store P w _ v .plain (iT hv),cw h hi]
 obtain⟨A,t,lo,hi',h1,h2⟩:=h
 have:w.frozen? ⟨b,o+i,none⟩=false:=by
  have:=(h2 i hi).2
  simp only[World.frozen?,h1]
  simp;omega
 simp[this]
theorem gn{b o m:Nat} :∀ (vs:List Value) (i j:Nat) (C:Nat→Value) (w:World),XM W S (.cells b o m C::H) w→i+j+vs.length≤m→vs.all one=true→
  ∃ w',(storeCells ⟨b,o+i,none⟩ vs j).run P w= .ok () w'∧XM W S (.cells b o m (bL C (i+j) vs)::H) w'
 | [],i,j,C,w,h,_,_=>⟨w,by simp[storeCells],h⟩
 | v::r,i,j,C,w,h,hl,h1=>by
  simp only[List.all_cons,Bool.and_eq_true]at h1
  simp only[List.length_cons]at hl
  have h2:=h.setCell .here (i:=i+j) (by omega) v
  obtain⟨w',hr,hx⟩:=gn r i (j+1) _ _ h2 (by omega) h1.2
  refine⟨w',?_,by simpa only[bL,Nat.add_assoc]using hx⟩
  simp only[storeCells,Sem.run_bind,iP]
  rw[ic (show(ax.cells b o m C).holds w from h.good.1 _ (by simp)) (by omega) h1.1]
  exact hr
theorem XO.store{t:TypeId}{x y:Operand}{b o i m:Nat}{C C':Nat→Value}{v:Value}(hx:ev L x=some (ptr b o i))(hy:ev L y=some v)(hH:dZ H (.cells b o m C) (.cells b o m C') H')(hi:i<m∧cH C i v=C')(hv:one v=true)(hs:de P t=some 1)(h:XO P n ops Q rest L (XM W S H')):XO P n ops Q (⟨none,.store t x y,ty,pos,af,none⟩::rest) L (XM W S H):=
 XO.op rfl fun a w ha hw=>by
  obtain⟨H1,hd,hp⟩:=hH.del
  have h2:=hw.setCell hd hi.1 v
  rw[hi.2]at h2
  have hw':=hw.perm hd.perm
  have hr:=ic (P:=P) (show(ax.cells b o m C).holds w from hw'.good.1 _ (by simp)) hi.1 hv
  unfold Oper.wp
  have:(execOp a.eval ⟨none,.store t x y,ty,pos,af,none⟩).run P w= .ok .skip (w.setCell ⟨b,o+i,none⟩ v):=by
   have hz:(⟨b,o+i,none⟩:Addr).add 0=⟨b,o+i,none⟩:=rfl
   simp[execOp,av ha hx,av ha hy,Instr.storeAt,Instr.sureAddr,ptr,storeVar,o8 hv,run_sizeOf hs,storeCells,hz,hr]
  rw[this]
  exact h _ _ ha (h2.perm hp)
theorem XO.eZ{t:TypeId}{x y:Operand}{b o i m sz:Nat}{C C':Nat→Value}{cs:Array Value}(hx:ev L x=some (ptr b o i))(hy:ev L y=some (.agg cs))(hH:dZ H (.cells b o m C) (.cells b o m C') H')(hi:i+sz≤m∧bL C i cs.toList=C')(hv:cs.toList.all one=true∧cs.size=sz)(hs:de P t=some sz)(h:XO P n ops Q rest L (XM W S H')):XO P n ops Q (⟨none,.store t x y,ty,pos,af,none⟩::rest) L (XM W S H):=
 XO.op rfl fun a w ha hw=>by
  obtain⟨H1,hd,hp⟩:=hH.del
  obtain⟨w',hr,hx'⟩:=gn (P:=P) cs.toList i 0 C w (hw.perm hd.perm) (by simp;omega) hv.1
  simp only[Nat.add_zero]at hx'
  rw[hi.2]at hx'
  unfold Oper.wp
  have:(execOp a.eval ⟨none,.store t x y,ty,pos,af,none⟩).run P w= .ok .skip w':=by
   simp[execOp,av ha hx,av ha hy,Instr.storeAt,Instr.sureAddr,ptr,storeVar,Value.cells,run_sizeOf hs,hv.2,hr]
  rw[this]
  exact h _ _ ha (hx'.perm hp)
theorem XM.alloc{w:World}(h:XM W S H w)(A:Array Value)(t:TypeId)(C:Nat→Value)(hC:∀ i,i<A.size→A[i]? =some (C i)):XM W S (.cells w.heap.size 0 A.size C::H) (w.alloc (.cells A t)):=by
 refine h.fresh (fun b o hb=>by obtain⟨rfl,_⟩:=hb;exact Nat.le_refl _) ?_ ?_
 ·refine⟨rfl,rfl,rfl,by simp,fun b hb _=>heap_alloc_old w _ hb,fun b A' t' fz hA=>⟨A',?_,rfl,fun _ _=>rfl⟩⟩
  rw[heap_alloc_old w _ (ck hA)];exact hA
 ·exact⟨A,t,0,0,heap_alloc_new w _,fun i hi=>⟨by simpa using hC i hi,by omega⟩⟩
def cellsOf(A:Array Value):Nat→Value:=fun i=>A.getD i undef
theorem dQ(A:Array Value)(i:Nat)(h:i<A.size):A[i]? =some (cellsOf A i):=by simp[cellsOf,h]
theorem XO.cY{t:TypeId}{z:Value}{m:Nat}{C:Nat→Value}(hz:zeroOf P t=some z)(hm:z.cells.size=m)(hC:∀ i,i<m→cellsOf z.cells i=C i)(hd:Nat.blt d n.sz=true)(h:∀ b,XO P n ops Q rest ((d,ptr b 0 0)::L) (XM W S (.cells b 0 m C::H))):XO P n ops Q (⟨some d,.alloc t,ty,pos,af,none⟩::rest) L (XM W S H):=
 XO.op rfl fun a w ha hw=>by
  have hx:=hw.alloc z.cells t C (fun i hi=>by rw[dQ _ _ hi,hC i (hm▸hi)])
  rw[hm]at hx
  unfold Oper.wp
  have:(execOp a.eval ⟨some d,.alloc t,ty,pos,af,none⟩).run P w= .ok (.value (ptr w.heap.size 0 0)) (w.alloc (.cells z.cells t)):=by
   simp[execOp,Instr.alloc,jz hz,newVar,newRow,newObj,Sem.run,ptr]
  rw[this]
  exact h _ _ _ (ha.put hd _) hx
theorem XO.box{t:TypeId}{x:Operand}{v:Value}{m:Nat}{C:Nat→Value}(hx:ev L x=some v)(hm:v.cells.size=m)(hC:∀ i,i<m→cellsOf v.cells i=C i)(hd:Nat.blt d n.sz=true)(h:∀ b,XO P n ops Q rest ((d,ptr b 0 0)::L) (XM W S (.cells b 0 m C::H))):XO P n ops Q (⟨some d,.box t x,ty,pos,af,none⟩::rest) L (XM W S H):=
 XO.op rfl fun a w ha hw=>by
  have hx':=hw.alloc v.cells t C (fun i hi=>by rw[dQ _ _ hi,hC i (hm▸hi)])
  rw[hm]at hx'
  unfold Oper.wp
  have:(execOp a.eval ⟨some d,.box t x,ty,pos,af,none⟩).run P w= .ok (.value (ptr w.heap.size 0 0)) (w.alloc (.cells v.cells t)):=by
   simp[execOp,av ha hx,Instr.box,newVar,newRow,newObj,Sem.run,ptr]
  rw[this]
  exact h _ _ _ (ha.put hd _) hx'
theorem V.build{t:TypeId}{parts:Array (Nat×Operand)}{vs:Array (Nat×Value)}{v:Value}(hp:parts.toList.mapM (fun x=>(ev L x.2).map fun u=>(x.1,u))=some vs.toList)(hb:∀ w,(Instr.build t vs).run P w= .ok v w){φ:World→Prop}{gd:Option (Nat×Bool)} :aM P n L φ ⟨some d,.build t parts,ty,pos,af,gd⟩ v:=fun a w ha _=>by
  have:parts.map (fun x=>(x.1,a.eval x.2))=vs:=by
   apply Array.toList_inj.1
   rw[Array.toList_map]
   generalize parts.toList=l at hp
   generalize vs.toList=us at hp ⊢
   clear hb
   induction l generalizing us with
   | nil=>simp at hp;subst hp;rfl
   | cons x r ih=>
    simp only[List.mapM_cons,Option.bind_eq_bind]at hp
    cases he:ev L x.2 with
    | none=>simp[he]at hp
    | some u=>
     simp only[he,Option.map_some,Option.bind_some]at hp
     cases hr:r.mapM (fun x=>(ev L x.2).map fun u=>(x.1,u))with
     | none=>simp[hr]at hp
     | some us'=>
      simp[hr]at hp
      subst hp
      simp only[List.map_cons]
      rw[ih us' hr,av ha he]
  have h2:(execOp a.eval ⟨some d,.build t parts,ty,pos,af,gd⟩).run P w= .ok (.value v) w:=by
   have:parts.map (fun (i,x)=>(i,a.eval x))=vs:=this
   simp[execOp,this,hb]
  exact h2
def Dh(L:PF):List Operand→Option (List Value)
 | []=>some []
 | x::r=>match ev L x,Dh L r with
  | some v,some vs=>some (v::vs)
  | _,_=>none
theorem lE{a:Act}(ha:Sat n L a):∀ (xs:List Operand) (vs:List Value),Dh L xs=some vs→xs.map a.eval=vs
 | [],vs,h=>by simp[Dh]at h;subst h;rfl
 | x::r,vs,h=>by
  simp only[Dh]at h
  cases hx:ev L x with
  | none=>simp[hx]at h
  | some v=>
   cases hr:Dh L r with
   | none=>simp[hx,hr]at h
   | some us=>
    simp[hx,hr]at h
    subst h
    simp only[List.map_cons,av ha hx,lE ha r us hr]
theorem nf{w:World}{a:Act}{f:FuncId}{xs:List Operand}{vs:List Value}{jf:Array TypeId}{dst:Option Nat}(hc:cR P f=true)(he:xs.map a.eval=vs):(execOp a.eval ⟨dst,.call ⟨.value (.func f),xs.toArray,jf⟩,ty,pos,af,none⟩).run P w= .ok (.enter f vs.toArray) w:=by
 unfold cR at hc
 cases hf:P.funcs[f]? with
 | none=>simp[hf]at hc
 | some fn=>
  simp only[hf,Bool.and_eq_true]at hc
  obtain⟨h1,h2⟩:=hc
  have h3:¬fn.name= "runtime.NumGoroutine" :=by simpa using h1
  have h4:¬fn.body=none:=by cases hb:fn.body<;>simp_all
  have h5:xs.toArray.map a.eval=vs.toArray:=by rw[←he];simp
  simp[execOp,resolve,Act.eval,Deferred.ofValue,invoke,callFunc,run_program,hf,h3,h4,he]
theorem XO.call{f:FuncId}{xs:List Operand}{vs:List Value}{jf:Array TypeId}{pre F:List ax}{post:Value→List ax→Prop}(he:Dh L xs=some vs)(hs:Spec P f vs pre post)(hp:bB H pre F)(hc:cR P f=true)(hd:Nat.blt d n.sz=true)(h:∀ v H1,post v H1→XO P n ops Q rest ((d,v)::L) (XM W S (H1++F))):XO P n ops Q (⟨some d,.call ⟨.value (.func f),xs.toArray,jf⟩,ty,pos,af,none⟩::rest) L (XM W S H):=
 XO.op rfl fun a w ha hw=>by
  unfold Oper.wp
  rw[nf hc (lE ha xs vs he)]
  show Calls P f vs.toArray w _
  refine(hs w (hw.pick hp).good).mono ?_
  rintro e w' ⟨v,H1,rfl,hpost,hwr,hx⟩
  exact h v H1 hpost _ _ (ha.put hd v) (hw.called hp hx (fun e he=>List.all_eq_true.1 hwr e he))
theorem XO.Nb{f:FuncId}{xs:List Operand}{vs:List Value}{jf:Array TypeId}{pre F:List ax}{post:Value→List ax→Prop}(k:Nat)(he:Dh L xs=some vs)(hs:Spec P f vs pre post)(hp:bB H pre F)(hR:(pre.drop k).all (fun e=> !e.wr)=true)(hc:cR P f=true)(hd:Nat.blt d n.sz=true)(h:∀ v H1,post v H1→XO P n ops Q rest ((d,v)::L) (XM W S (H1++(pre.drop k++F)))):XO P n ops Q (⟨some d,.call ⟨.value (.func f),xs.toArray,jf⟩,ty,pos,af,none⟩::rest) L (XM W S H):=
 XO.op rfl fun a w ha hw=>by
  unfold Oper.wp
  rw[nf hc (lE ha xs vs he)]
  show Calls P f vs.toArray w _
  refine(hs w (hw.pick hp).good).mono ?_
  rintro e w' ⟨v,H1,rfl,hpost,hwr,hx⟩
  have hpre:pre=pre.take k++pre.drop k:=(List.take_append_drop k pre).symm
  have hR':∀ e∈pre.drop k,e.wr=false:=fun e he=>by
   have:=List.all_eq_true.1 hR e he
   simpa using this
  have hp':bB H (pre.take k++pre.drop k) F:=by rw[←hpre];exact hp
  have hx':XM w (bR (pre.take k++pre.drop k)) H1 w':=by rw[←hpre];exact hx
  exact h v H1 hpost _ _ (ha.put hd v) (hw.HC hp' hR' hx' (fun e he=>List.all_eq_true.1 hwr e he))
theorem Spec.intro{f:FuncId}{fn:Func}{c:Code}{args:List Value}{pre:List ax}{post:Value→List ax→Prop}(hf:P.funcs[f]? =some fn)(hb:fn.body=some c)(hn:Nat.ble args.length fn.ntmps=true)(h:∀ W,XC P (fr fn.ntmps [] []) c (bodyPost P fn fun e w'=>∃ v H',e= .returned v∧post v H'∧H'.all ax.wr=true∧XM W (bR pre) H' w') (ib 0 args) (XM W (bR pre) pre)):Spec P f args pre post:=
 fun w hg=>enter hf hb hn (h w) (XM.start hg)
theorem ab{post:Value→List ax→Prop}{H1 F:List ax}{v:Value}(hp:bB H H1 F)(hw1:H1.all ax.wr=true)(h:post v H1):
  ∀ w,XM W S H w→∃ v' H',Ending.returned v= .returned v'∧post v' H'∧H'.all ax.wr=true∧XM W S H' w:=fun _ hw=>⟨v,H1,rfl,h,hw1,hw.pick hp⟩
end
end Go.X

namespace Go.X
open Go
section
variable {P:Program} {n:Fr} {L:PF} {ty:TypeId} {pos:String} {af:Array Edge} {d:Nat} {φ:World→Prop} {gd:Option (Nat×Bool)}
theorem V.Ls{t:TypeId}{x:Operand}{s:ByteArray}(hx:ev L x=some (.string s))(ht:P.underlying t=some .string):aM P n L φ ⟨some d,.call ⟨.builtin .len,#[x],#[t]⟩,ty,pos,af,gd⟩ (.int .i64 s.size):=fun a w ha _=>by
 simp[execOp,resolve,invoke,builtin,Builtin.len_,av ha hx,run_underlying ht,goInt]
theorem V.M0{t e:TypeId}{x:Operand}{p:Option Addr}{l c:Nat}(hx:ev L x=some (.slice p l c))(ht:P.underlying t=some (.slice e)):aM P n L φ ⟨some d,.call ⟨.builtin .len,#[x],#[t]⟩,ty,pos,af,gd⟩ (.int .i64 l):=fun a w ha _=>by
 simp[execOp,resolve,invoke,builtin,Builtin.len_,av ha hx,run_underlying ht,goInt]
theorem q7(a b:ByteArray):(a.toList==b.toList)=decide (a=b):=by
 rw[Bool.eq_iff_iff]
 simp only[beq_iff_eq,decide_eq_true_eq]
 constructor
 ·intro h
  rw[ByteArray.toList_eq,ByteArray.toList_eq]at h
  exact ByteArray.ext (Array.toList_inj.1 h)
 ·intro h;rw[h]
theorem tO(t:ByteArray):t=⟨#[]⟩↔t.size=0:=by
 constructor
 ·intro h;rw[h];rfl
 ·intro h
  apply ByteArray.ext
  exact Array.eq_empty_of_size_eq_zero h
theorem V.J2{op:BinOp}{t t':TypeId}{x y:Operand}{a b:ByteArray}{r:Bool}(hx:ev L x=some (.string a))(hy:ev L y=some (.string b))(hr:(match op with | .eql=>some (decide (a=b)) | .neq=>some (decide (a≠b)) | .lss=>some (Op.bytesLess a.toList b.toList) | .leq=>some (Op.bytesLess a.toList b.toList||decide (a=b)) | .gtr=>some (!(Op.bytesLess a.toList b.toList||decide (a=b))) | .geq=>some (!Op.bytesLess a.toList b.toList) | _=>none)=some r):aM P n L φ ⟨some d,.binOp op t x y t',ty,pos,af,gd⟩ (.bool r):=
 V.bin hx hy (fun w A hx hy=>by
  cases op<;>simp only[Option.some.injEq]at hr<;>(try cases hr)<;>
   simp only[execOp,eqGuard,hx,hy,binOp,Op.stringOp,q7]<;>simp)
theorem V.concat{t t':TypeId}{x y:Operand}{a b:ByteArray}(hx:ev L x=some (.string a))(hy:ev L y=some (.string b))(hs:a.size+b.size≤9223372036854775807):aM P n L φ ⟨some d,.binOp .add t x y t',ty,pos,af,gd⟩ (.string (a++b)):=
 V.bin hx hy (fun w A hx hy=>by
  have h:¬((a.size+b.size:Nat):Int)>IntKind.i64.max:=by simp[IntKind.max,IntKind.signed,IntKind.bits];omega
  simp only[execOp,eqGuard,hx,hy,binOp,Op.stringOp]
  rw[if_neg h]
  simp)
theorem V.sliceTo{t:TypeId}{x y:Operand}{s:ByteArray}{k:IntKind}{z:Int}(hx:ev L x=some (.string s))(hy:ev L y=some (.int k z))(ht:P.underlying t=some .string)(hz:0≤z∧z≤s.size):aM P n L φ ⟨some d,.slice t x none (some y) none,ty,pos,af,gd⟩ (.string (s.extract 0 z.toNat)):=fun a w ha _=>by
 simp[execOp,av ha hx,av ha hy,Instr.sliceAt,run_underlying ht,Instr.slice,Instr.sliceBounds,Instr.sliceBound,asIntOf,hz]
theorem V.sliceFrom{t:TypeId}{x y:Operand}{s:ByteArray}{k:IntKind}{z:Int}(hx:ev L x=some (.string s))(hy:ev L y=some (.int k z))(ht:P.underlying t=some .string)(hz:0≤z∧z≤s.size):aM P n L φ ⟨some d,.slice t x (some y) none none,ty,pos,af,gd⟩ (.string (s.extract z.toNat s.size)):=fun a w ha _=>by
 simp[execOp,av ha hx,av ha hy,Instr.sliceAt,run_underlying ht,Instr.slice,Instr.sliceBounds,Instr.sliceBound,asIntOf,hz]
theorem V.Kj{t:TypeId}{x y u:Operand}{s:ByteArray}{k k':IntKind}{z z':Int}(hx:ev L x=some (.string s))(hy:ev L y=some (.int k z))(hu:ev L u=some (.int k' z'))(ht:P.underlying t=some .string)(hz:0≤z∧z≤z'∧z'≤s.size):aM P n L φ ⟨some d,.slice t x (some y) (some u) none,ty,pos,af,gd⟩ (.string (s.extract z.toNat z'.toNat)):=fun a w ha _=>by
 have h1:0≤z'∧z'≤s.size:=by omega
 have h2:0≤z∧z≤(z'.toNat:Int):=by omega
 have h3:max z' 0=z':=by omega
 have h4:¬z'<z:=by omega
 simp[execOp,av ha hx,av ha hy,av ha hu,Instr.sliceAt,run_underlying ht,Instr.slice,Instr.sliceBounds,Instr.sliceBound,asIntOf,h1,h2,h3,h4]
def bH(T:TypeId)(e:Int):Value:=if e=0 then .nilIface else .iface T (.int .i64 e)
theorem aJ(T:TypeId){e:Int}(h:e≠0):bH T e= .iface T (.int .i64 e):=by simp[bH,h]
theorem pO(k:Nat){t:TypeId}{w:World}{ms:Array (String×TypeId)}(ht:P.underlying t=some (.interface ms)):(Op.equalIn (k+1) t .nilIface .nilIface).run P w= .ok true w:=by
 simp only[Op.equalIn,Sem.run_bind,run_underlying ht,Result.andThen_ok,Sem.run_pure]
theorem kT(k:Nat){t T:TypeId}{w:World}{v:Value}{ms:Array (String×TypeId)}(ht:P.underlying t=some (.interface ms)):(Op.equalIn (k+1) t (.iface T v) .nilIface).run P w= .ok false w:=by
 simp only[Op.equalIn,Sem.run_bind,run_underlying ht,Result.andThen_ok,Sem.run_pure]
theorem V.Ga{op:BinOp}{t t':TypeId}{x:Operand}{ms:Array (String×TypeId)}{r:Bool}(hx:ev L x=some .nilIface)(ht:P.underlying t=some (.interface ms))(hr:(match op with | .eql=>some true | .neq=>some false | _=>none)=some r):aM P n L φ ⟨some d,.binOp op t x (.const .nilIface) t',ty,pos,af,gd⟩ (.bool r):=fun a w ha _=>by
 have he:(Op.equal t .nilIface .nilIface).run P w= .ok true w:=pO 9999 ht
 have hy:a.eval (.const .nilIface)= .nilIface:=rfl
 cases op<;>simp only[Option.some.injEq]at hr<;>(try cases hr)<;>
  simp[execOp,eqGuard,av ha hx,hy,binOp,he]
theorem V.xf{op:BinOp}{t t' T:TypeId}{x:Operand}{v:Value}{ms:Array (String×TypeId)}{r:Bool}(hx:ev L x=some (.iface T v))(ht:P.underlying t=some (.interface ms))(hr:(match op with | .eql=>some false | .neq=>some true | _=>none)=some r):aM P n L φ ⟨some d,.binOp op t x (.const .nilIface) t',ty,pos,af,gd⟩ (.bool r):=fun a w ha _=>by
 have he:(Op.equal t (.iface T v) .nilIface).run P w= .ok false w:=kT 9999 ht
 have hy:a.eval (.const .nilIface)= .nilIface:=rfl
 cases op<;>simp only[Option.some.injEq]at hr<;>(try cases hr)<;>
  simp[execOp,eqGuard,av ha hx,hy,binOp,he]
theorem V.Ke{op:BinOp}{t t' T:TypeId}{x:Operand}{e:Int}{ms:Array (String×TypeId)}{r:Bool}(hx:ev L x=some (bH T e))(ht:P.underlying t=some (.interface ms))(hr:(match op with | .eql=>some (decide (e=0)) | .neq=>some (decide (e≠0)) | _=>none)=some r):aM P n L φ ⟨some d,.binOp op t x (.const .nilIface) t',ty,pos,af,gd⟩ (.bool r):=by
 by_cases h:e=0
 ·subst h
  refine V.Ga hx ht ?_
  cases op<;>simp_all
 ·rw[aJ T h]at hx
  refine V.xf hx ht ?_
  cases op<;>simp_all
theorem mh(k:Nat){t e:TypeId}{w:World}{p:Addr}(ht:P.underlying t=some (.pointer e)):(Op.equalIn (k+1) t (.pointer (some p)) (.pointer none)).run P w= .ok false w:=by
 simp only[Op.equalIn,Sem.run_bind,run_underlying ht,Result.andThen_ok,Sem.run_pure]
theorem run_equalIn_nil_nil(k:Nat){t e:TypeId}{w:World}(ht:P.underlying t=some (.pointer e)):(Op.equalIn (k+1) t (.pointer none) (.pointer none)).run P w= .ok true w:=by
 simp only[Op.equalIn,Sem.run_bind,run_underlying ht,Result.andThen_ok,Sem.run_pure,Option.isNone]
theorem V.Kb{op:BinOp}{t t' e:TypeId}{x:Operand}{p:Addr}{r:Bool}(hx:ev L x=some (.pointer (some p)))(ht:P.underlying t=some (.pointer e))(hr:(match op with | .eql=>some false | .neq=>some true | _=>none)=some r):aM P n L φ ⟨some d,.binOp op t x (.const (.pointer none)) t',ty,pos,af,gd⟩ (.bool r):=fun a w ha _=>by
 have he:(Op.equal t (.pointer (some p)) (.pointer none)).run P w= .ok false w:=by
  exact mh 9999 ht
 have hy:a.eval (.const (.pointer none))= .pointer none:=rfl
 have b1:binOp .eql t (.pointer (some p)) (.pointer none)=(do pure (.bool (←Op.equal t (.pointer (some p)) (.pointer none)))):=rfl
 have b2:binOp .neq t (.pointer (some p)) (.pointer none)=(do pure (.bool (!(←Op.equal t (.pointer (some p)) (.pointer none))))):=rfl
 have g1:eqGuard .eql t x (.const (.pointer none)) (.pointer (some p)) (.pointer none)=pure ():=rfl
 have g2:eqGuard .neq t x (.const (.pointer none)) (.pointer (some p)) (.pointer none)=pure ():=rfl
 cases op<;>simp only[Option.some.injEq]at hr<;>(try cases hr)<;>
  simp only[execOp,av ha hx,hy,b1,b2,g1,g2]<;>simp[he]
theorem V.HO{op:BinOp}{t t' e:TypeId}{x:Operand}{b o i:Nat}{r:Bool}(hx:ev L x=some (ptr b o i))(ht:P.underlying t=some (.pointer e))
  (hr:(match op with | .eql=>some false | .neq=>some true | _=>none)=some r):
  aM P n L φ ⟨some d,.binOp op t x (.const (.pointer none)) t',ty,pos,af,gd⟩ (.bool r):=V.Kb hx ht hr
theorem V.H4{op:BinOp}{t t' e:TypeId}{x:Operand}{r:Bool}(hx:ev L x=some (.pointer none))(ht:P.underlying t=some (.pointer e))(hr:(match op with | .eql=>some true | .neq=>some false | _=>none)=some r):aM P n L φ ⟨some d,.binOp op t x (.const (.pointer none)) t',ty,pos,af,gd⟩ (.bool r):=fun a w ha _=>by
 have he:(Op.equal t (.pointer none) (.pointer none)).run P w= .ok true w:=by
  exact run_equalIn_nil_nil 9999 ht
 have hy:a.eval (.const (.pointer none))= .pointer none:=rfl
 have b1:binOp .eql t (.pointer none) (.pointer none)=(do pure (.bool (←Op.equal t (.pointer none) (.pointer none)))):=rfl
 have b2:binOp .neq t (.pointer none) (.pointer none)=(do pure (.bool (!(←Op.equal t (.pointer none) (.pointer none))))):=rfl
 have g1:eqGuard .eql t x (.const (.pointer none)) (.pointer none) (.pointer none)=pure ():=rfl
 have g2:eqGuard .neq t x (.const (.pointer none)) (.pointer none) (.pointer none)=pure ():=rfl
 cases op<;>simp only[Option.some.injEq]at hr<;>(try cases hr)<;>
  simp only[execOp,av ha hx,hy,b1,b2,g1,g2]<;>simp[he]
theorem V.min2{x y:Operand}{t t':TypeId}{k:IntKind}{a b:Int}(hx:ev L x=some (.int k a))(hy:ev L y=some (.int k b)):aM P n L φ ⟨some d,.call ⟨.builtin .min,#[x,y],#[t,t']⟩,ty,pos,af,gd⟩ (.int k (min a b)):=fun A w ha _=>by
 have:(if b<a then b else a)=min a b:=by rw[Int.min_def];split<;>split<;>omega
 simp[execOp,resolve,invoke,builtin,Builtin.min_,Builtin.min2,av ha hx,av ha hy,this]
theorem V.max2{x y:Operand}{t t':TypeId}{k:IntKind}{a b:Int}(hx:ev L x=some (.int k a))(hy:ev L y=some (.int k b)):aM P n L φ ⟨some d,.call ⟨.builtin .max,#[x,y],#[t,t']⟩,ty,pos,af,gd⟩ (.int k (max a b)):=fun A w ha _=>by
 have:(if b>a then b else a)=max a b:=by rw[Int.max_def];split<;>split<;>omega
 simp[execOp,resolve,invoke,builtin,Builtin.max_,Builtin.max2,av ha hx,av ha hy,this]
theorem V.vC{s t:TypeId}{x:Operand}{k k':IntKind}{a:Int}(hx:ev L x=some (.int k a))(hs:P.underlying s=some (.int k))(ht:P.underlying t=some (.int k'))(r:Int)(hr:k'.wrap a=r):aM P n L φ ⟨some d,.convert s t x,ty,pos,af,gd⟩ (.int k' r):=fun A w ha _=>by
 subst hr
 simp[execOp,av ha hx,convert,run_underlying hs,run_underlying ht,Conv.intToInt]
end
theorem Cu{k:IntKind}{a b:Int}(h:a=b):some (Value.int k a)=some (.int k b):=by rw[h]
theorem eqs{a b:ByteArray}(h:a=b):some (Value.string a)=some (.string b):=by rw[h]
def b6(p:Int→Bool)(m:Nat):Option Nat:=(List.range m).find? fun k=>p k
theorem cP{p:Int→Bool}{m:Nat}{k:Int}(h0:0≤k)(hk:k<m)(hp:p k=true)(hn:∀ j:Int,0≤j→j<k→p j=false):b6 p m=some k.toNat:=by
 unfold b6
 rw[List.find?_range_eq_some]
 refine⟨by rw[show((k.toNat:Nat):Int)=k from by omega];exact hp,by simp;omega,fun j hj=> ?_⟩
 have:=hn j (by omega) (by omega)
 simp[this]
theorem cC{p:Int→Bool}{m:Nat}(hn:∀ j:Int,0≤j→j<m→p j=false):b6 p m=none:=by
 unfold b6
 rw[List.find?_range_eq_none]
 intro j hj
 have:=hn j (by omega) (by omega)
 simp[this]
theorem sb:(∀ {p:Prop} [Decidable p],(decide p=true)=p)∧(∀ {p:Prop} [Decidable p],(decide p=false)=¬p)∧(∀ b:Bool,((!b)=true)=(b=false))∧(∀ b:Bool,((!b)=false)=(b=true))∧(∀ {a b:Bool},((!a)=b)=(a= !b))∧((!true)=false)∧((!false)=true)∧(∀ {α:Type} [BEq α] [LawfulBEq α] {a b:α},((a==b)=true)=(a=b))∧(∀ {α:Type} [BEq α] [LawfulBEq α] {a b:α},((a != b)=true)=(a≠b))∧(∀ {α:Type} {a b:α},(a≠b)=¬a=b)∧(∀ {α:Type} [BEq α] [LawfulBEq α] {a b:α},((a==b)=false)=(¬a=b))∧(∀ {α:Type} [BEq α] [LawfulBEq α] {a b:α},((a != b)=false)=(a=b))∧(∀ {a b:Int},(¬a<b)=(b≤a))∧(∀ {a b:Int},(¬a≤b)=(b<a))∧(∀ {a b:Int},(a>b)=(b<a))∧(∀ {a b:Int},(a≥b)=(b≤a))∧(∀ a b:Bool,((a&&b)=true)=(a=true∧b=true))∧(∀ a b:Bool,((a||b)=true)=(a=true∨b=true))∧(∀ a b:Bool,((a&&b)=false)=(a=false∨b=false))∧(∀ a b:Bool,((a||b)=false)=(a=false∧b=false))∧(∀ {p:Prop} [Decidable p],(¬ ¬p)=p):=by
 refine⟨?_,?_,?_,?_,?_,rfl,rfl,?_,?_,?_,?_,?_,?_,?_,?_,?_,?_,?_,?_,?_,?_⟩
 ·intro p _;simp
 ·intro p _;simp
 ·intro b;simp
 ·intro b;simp
 ·intro a b;cases a<;>cases b<;>simp
 ·intro α _ _ a b;simp
 ·intro α _ _ a b;simp
 ·intro α a b;rfl
 ·intro α _ _ a b;simp
 ·intro α _ _ a b;simp
 ·intro a b;simp
 ·intro a b;simp
 ·intro a b;rfl
 ·intro a b;rfl
 ·intro a b;simp
 ·intro a b;simp
 ·intro a b;cases a<;>cases b<;>simp
 ·intro a b;cases a<;>cases b<;>simp
 ·intro p _;simp
end Go.X

namespace Go.X
open Go
theorem ao{c:Prop}[Decidable c]{α:Type}{a a' b b':α}(h1:c→a=a')(h2:¬c→b=b'):(if c then a else b)=(if c then a' else b'):=by
 by_cases h:c
 ·rw[if_pos h,if_pos h];exact h1 h
 ·rw[if_neg h,if_neg h];exact h2 h
def aa{α:Type}(f:Int→α)(i:Int)(v:α):Int→α:=fun j=>if j=i then v else f j
theorem ad{α:Type}(f:Int→α){i:Int}(v:α){j:Int}(h:¬j=i):aa f i v j=f j:=by simp[aa,h]
def aI{α:Type}(f:Int→Int→α)(i k:Int)(v:α):Int→Int→α:=fun j l=>if j=i∧l=k then v else f j l
theorem so{α:Type}(f:Int→Int→α){i k:Int}{v:α}(h:f i k=v):aI f i k v=f:=by
 funext j l;unfold aI;split
 ·rename_i h2;rw[h2.1,h2.2,h]
 ·rfl
theorem cq{α:Type}(f:Int→α){i:Int}{v:α}(h:f i=v):aa f i v=f:=by
 funext j;unfold aa;split
 ·rename_i h2;rw[h2,h]
 ·rfl
theorem ae{α:Type}(f:Int→α)(i:Int)(v:α):aa f i v i=v:=by simp[aa]
end Go.X
