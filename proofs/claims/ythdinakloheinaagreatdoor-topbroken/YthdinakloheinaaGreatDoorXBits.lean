import Derived.Test.YthdinakloheinaaGreatDoorXMem
namespace Go.X
open Go
def ptr(b o i:Nat):Value:=.pointer (some ⟨b,o+i,none⟩)
def one:Value→Bool
 | .agg _=>false
 | .tuple _=>false
 | _=>true
theorem o8{v:Value}(h:one v=true):v.cells= #[v]:=by cases v<;>simp_all[one,Value.cells]
def cH(C:Nat→Value)(i:Nat)(v:Value):Nat→Value:=fun j=>if j=i then v else C j
def cq(C:Nat→Value)(i n:Nat):Value:=.agg ((List.range n).map fun j=>C (i+j)).toArray
def yO:List Value→Nat→Option Value
 | [],_=>none
 | v::_,0=>some v
 | _::r,k+1=>yO r k
theorem tZ:∀ {l:List Value} {k:Nat} {v:Value},yO l k=some v→l[k]? =some v
 | [],_,_,h=>by simp[yO]at h
 | u::_,0,_,h=>by simpa [yO]using h
 | _::r,k+1,_,h=>by simpa using tZ (l:=r) h
theorem EJ{vs:Array Value}{k:Nat}{v:Value}(h:yO vs.toList k=some v):vs[k]? =some v:=by simpa using tZ h
def fT(P:Program)(t:TypeId):Bool:=match P.underlying t with
 | some (.struct _)=>false
 | some (.array _ _)=>false
 | some _=>true
 | none=>false
def jW(P:Program)(t:TypeId):Bool:=match P.underlying t with
 | some (.struct _)=>true
 | some (.array _ _)=>true
 | _=>false
def dx(P:Program)(t:TypeId):Option Nat:=(P.info? t).map (·.size)
def cR(P:Program)(s:TypeId)(f:Nat):Option Nat:=match P.underlying s with
 | some (.struct fs)=>match fs[f]? with
  | some fld=>match dx P fld.type with
   | some 0=>none
   | some _=>some fld.offset
   | none=>none
  | none=>none
 | _=>none
def n5(P:Program)(t:TypeId):Option (Nat×Nat):=match P.underlying t with
 | some (.array n e)=>(dx P e).map fun s=>(n,s)
 | _=>none
def nV(P:Program)(t:TypeId):Option (TypeId×Nat):=match P.underlying t with
 | some (.slice e)=>(dx P e).map fun s=>(e,s)
 | _=>none
def zeroOf(P:Program)(t:TypeId):Option Value:=(P.info? t).bind (·.zero)
def cX(P:Program)(f:FuncId):Bool:=match P.funcs[f]? with
 | some fn=>fn.name != "runtime.NumGoroutine" &&fn.body.isSome
 | none=>false
section
variable {P:Program} {w:World}
theorem iS{t:TypeId}(h:fT P t=true):(isAgg t).run P w= .ok false w:=by
 unfold fT at h
 cases hu:P.underlying t with
 | none=>simp[hu]at h
 | some d=>simp only[hu]at h;simp only[isAgg,Sem.run_bind,run_underlying hu,Result.andThen_ok];cases d<;>simp_all
theorem mE{t:TypeId}(h:jW P t=true):(isAgg t).run P w= .ok true w:=by
 unfold jW at h
 cases hu:P.underlying t with
 | none=>simp[hu]at h
 | some d=>simp only[hu]at h;simp only[isAgg,Sem.run_bind,run_underlying hu,Result.andThen_ok];cases d<;>simp_all
theorem run_sizeOf{t n:Nat}(h:dx P t=some n):(sizeOf t).run P w= .ok n w:=by
 unfold dx at h
 cases hi:P.info? t with
 | none=>simp[hi]at h
 | some i=>simp[hi]at h;simp[sizeOf,typeInfo,hi,h]
theorem run_typeInfo{t:Nat}{i:TypeInfo}(h:P.info? t=some i):(typeInfo t).run P w= .ok i w:=by simp[typeInfo,h]
theorem jq{t:Nat}{v:Value}(h:zeroOf P t=some v):(zeroValue t).run P w= .ok v w:=by
 unfold zeroOf at h
 cases hi:P.info? t with
 | none=>simp[hi]at h
 | some i=>simp[hi]at h;simp[zeroValue,typeInfo,hi,h]
theorem iI(b o i k:Nat):(⟨b,o+i,none⟩:Addr).add k=⟨b,o+(i+k),none⟩:=by
 unfold Addr.add;split
 ·subst_vars;rfl
 ·simp only[Nat.add_assoc]
end
section
variable {P:Program} {w:World}
theorem run_equalIn_bool(k:Nat){t:TypeId}(a b:Bool)(ht:P.underlying t=some .bool):(Op.equalIn (k+1) t (.bool a) (.bool b)).run P w= .ok (a==b) w:=by
 simp only[Op.equalIn,Sem.run_bind,run_underlying ht,Result.andThen_ok,Sem.run_pure]
theorem run_equal_bool{t:TypeId}(a b:Bool)(ht:P.underlying t=some .bool):(Op.equal t (.bool a) (.bool b)).run P w= .ok (a==b) w:=
 run_equalIn_bool 9999 a b ht
end
def bh(P:Program)(n:Fr)(L:PF)(φ:World→Prop)(o:Oper)(v:Value):Prop:=
 ∀ a w,Sat n L a→φ w→(execOp a.eval o).run P w= .ok (.value v) w
section
variable {P:Program} {n:Fr} {Q:Exit→Act→World→Prop} {L:PF} {ops:Md} {rest:List Oper} {ty:TypeId} {pos:String} {af:Array Edge} {d:Nat} {φ:World→Prop} {gd:Option (Nat×Bool)}
theorem V.move{x:Operand}{v:Value}(hx:ev L x=some v):bh P n L φ (⟨some d,.move x,ty,pos,af,gd⟩) (v):=
   (fun a w ha _=>by simp[execOp,az ha hx])
theorem V.assign{x:Operand}{v:Value}(hx:ev L x=some v):bh P n L φ (⟨some d,.assign x,ty,pos,af,gd⟩) (v):=
   (fun a w ha _=>by simp[execOp,az ha hx])
theorem V.pick{c x y:Operand}{t:Bool}{u v r:Value}(hc:ev L c=some (.bool t))(hx:ev L x=some u)(hy:ev L y=some v)(hr:(bif t then u else v)=r):bh P n L φ (⟨some d,.pick c x y,ty,pos,af,gd⟩) (r):=
   (fun a w ha _=>by subst hr;cases t<;>simp[execOp,az ha hx,az ha hy,az ha hc,asBool])
theorem V.bL{x:Operand}{b o i:Nat}(hx:ev L x=some (ptr b o i)):bh P n L φ (⟨some d,.nilCheck x,ty,pos,af,gd⟩) (ptr b o i):=
   (fun a w ha _=>by simp[execOp,az ha hx,ptr])
theorem V.extract{x:Operand}{vs:Array Value}{k:Nat}{v:Value}(hx:ev L x=some (.tuple vs))(hk':yO vs.toList k=some v):bh P n L φ (⟨some d,.extract x k,ty,pos,af,gd⟩) (v):=
   (fun a w ha _=>by have hk:=EJ hk';simp[execOp,az ha hx,Instr.extract,hk])
theorem V.fieldAddr{s:TypeId}{x:Operand}{f b o i k:Nat}(hx:ev L x=some (ptr b o i))(hf:cR P s f=some k):bh P n L φ (⟨some d,.fieldAddr s x f,ty,pos,af,gd⟩) (ptr b o (i+k)):=
   (fun a w ha _=>by
    unfold cR at hf
    cases hu:P.underlying s with
    | none=>simp[hu]at hf
    | some ds=>
      simp only[hu]at hf
      cases ds<;>simp only[]at hf<;>try cases hf
      rename_i fs
      cases hfl:fs[f]? with
      | none=>simp[hfl]at hf
      | some fld=>
        simp only[hfl]at hf
        cases hs:dx P fld.type with
        | none=>simp[hs]at hf
        | some z=>
          cases z with
          | zero=>simp[hs]at hf
          | succ z=>
            simp only[hs,Option.some.injEq]at hf
            subst hf
            simp[execOp,az ha hx,Instr.fieldAt,run_underlying hu,hfl,Instr.sureAddr,ptr,fieldPlace,run_sizeOf hs,iI])
theorem V.gT{t:TypeId}{x y:Operand}{b o i m sz:Nat}{k:IntKind}{z:Int}(hx:ev L x=some (ptr b o i))(hy:ev L y=some (.int k z))(ht:n5 P t=some (m,sz))(hz:0≤z∧z<m):bh P n L φ (⟨some d,.indexAddr t x y,ty,pos,af,gd⟩) (ptr b o (i+z.toNat*sz)):=
   (fun a w ha _=>by
    unfold n5 at ht
    cases hu:P.underlying t with
    | none=>simp[hu]at ht
    | some ds=>
      simp only[hu]at ht
      cases ds<;>simp only[]at ht<;>try cases ht
      rename_i m' e
      cases hs:dx P e with
      | none=>simp[hs]at ht
      | some s=>
        simp only[hs,Option.map_some,Option.some.injEq,Prod.mk.injEq]at ht
        obtain⟨rfl,rfl⟩:=ht
        simp[execOp,az ha hx,az ha hy,Instr.indexAt,asIntOf,run_underlying hu,Instr.sureAddr,ptr,hz,run_sizeOf hs,iI])
theorem V.HA{t e:TypeId}{x y:Operand}{b o sz len cap:Nat}{k:IntKind}{z:Int}(hx:ev L x=some (.slice (some ⟨b,o,none⟩) len cap))(hy:ev L y=some (.int k z))(ht:nV P t=some (e,sz))(hz:0≤z∧z<len):bh P n L φ (⟨some d,.indexAddr t x y,ty,pos,af,gd⟩) (ptr b o (0+z.toNat*sz)):=
   (fun a w ha _=>by
    unfold nV at ht
    cases hu:P.underlying t with
    | none=>simp[hu]at ht
    | some ds=>
      simp only[hu]at ht
      cases ds<;>simp only[]at ht<;>try cases ht
      rename_i e'
      cases hs:dx P e' with
      | none=>simp[hs]at ht
      | some s=>
        simp only[hs,Option.map_some,Option.some.injEq,Prod.mk.injEq]at ht
        obtain⟨rfl,rfl⟩:=ht
        have:=iI b o 0 (z.toNat*s)
        simp only[Nat.add_zero]at this
        simp[execOp,az ha hx,az ha hy,Instr.indexAt,asIntOf,run_underlying hu,ptr,hz,run_sizeOf hs,this])
theorem V.bin{op:BinOp}{t t':TypeId}{x y:Operand}{u v r:Value}(hx:ev L x=some u)(hy:ev L y=some v)(hr:∀ (w:World) (a:Act),a.eval x=u→a.eval y=v→(execOp a.eval ⟨some d,.binOp op t x y t',ty,pos,af,gd⟩).run P w= .ok (.value r) w):bh P n L φ (⟨some d,.binOp op t x y t',ty,pos,af,gd⟩) r:=
 fun a w ha _=>hr w a (az ha hx) (az ha hy)
theorem V.add{t t':TypeId}{x y:Operand}{k:IntKind}{a b:Int}(hx:ev L x=some (.int k a))(hy:ev L y=some (.int k b))(r:Int)(hw:k.wrap (a+b)=r):bh P n L φ (⟨some d,.binOp .add t x y t',ty,pos,af,gd⟩) (.int k r):=
 V.bin hx hy (fun w A hx hy=>by simp[execOp,eqGuard,hx,hy,binOp,Op.intArith,hw])
theorem V.sub{t t':TypeId}{x y:Operand}{k:IntKind}{a b:Int}(hx:ev L x=some (.int k a))(hy:ev L y=some (.int k b))(r:Int)(hw:k.wrap (a-b)=r):bh P n L φ (⟨some d,.binOp .sub t x y t',ty,pos,af,gd⟩) (.int k r):=
 V.bin hx hy (fun w A hx hy=>by simp[execOp,eqGuard,hx,hy,binOp,Op.intArith,hw])
theorem V.mul{t t':TypeId}{x y:Operand}{k:IntKind}{a b:Int}(hx:ev L x=some (.int k a))(hy:ev L y=some (.int k b))(r:Int)(hw:k.wrap (a*b)=r):bh P n L φ (⟨some d,.binOp .mul t x y t',ty,pos,af,gd⟩) (.int k r):=
 V.bin hx hy (fun w A hx hy=>by simp[execOp,eqGuard,hx,hy,binOp,Op.intArith,hw])
theorem Ie(a b:Int):(a==b)=decide (a=b):=rfl
theorem Hp(a b:Int):(a != b)= !decide (a=b):=rfl
theorem V.cmp{op:BinOp}{t t':TypeId}{x y:Operand}{k:IntKind}{a b:Int}{r:Bool}(hx:ev L x=some (.int k a))(hy:ev L y=some (.int k b))(hr:(match op with | .eql=>some (decide (a=b)) | .neq=>some (decide (a≠b)) | .lss=>some (decide (a<b)) | .leq=>some (decide (a≤b)) | .gtr=>some (decide (a>b)) | .geq=>some (decide (a≥b)) | _=>none)=some r):bh P n L φ (⟨some d,.binOp op t x y t',ty,pos,af,gd⟩) (.bool r):=
 V.bin hx hy (fun w A hx hy=>by
  cases op<;>simp only[Option.some.injEq]at hr<;>(try cases hr)<;>
   simp[execOp,eqGuard,hx,hy,binOp,Op.intCmp,Ie,Hp])
theorem V.not{t:TypeId}{x:Operand}{b:Bool}(hx:ev L x=some (.bool b)):bh P n L φ (⟨some d,.unOp .not t x,ty,pos,af,gd⟩) (.bool (!b)):=
   (fun a w ha _=>by simp[execOp,az ha hx,Op.unary])
theorem V.NY{t:TypeId}{x:Operand}{p:Prop}[Decidable p](hx:ev L x=some (.bool (decide p))):bh P n L φ (⟨some d,.unOp .not t x,ty,pos,af,gd⟩) (.bool (decide (¬p))):=
   (fun a w ha _=>by simp[execOp,az ha hx,Op.unary])
theorem V.neg{t:TypeId}{x:Operand}{k:IntKind}{a:Int}(hx:ev L x=some (.int k a))(r:Int)(hw:k.wrap (0-a)=r):bh P n L φ (⟨some d,.unOp .neg t x,ty,pos,af,gd⟩) (.int k r):=
   (fun A w ha _=>by
    have hw':k.wrap (-a)=r:=by rw[←hw];congr 1;omega
    simp[execOp,az ha hx,Op.unary,Op.intArith,hw'])
theorem V.gw{op:BinOp}{t t':TypeId}{x y:Operand}{a b r:Bool}(hx:ev L x=some (.bool a))(hy:ev L y=some (.bool b))(ht:P.underlying t=some .bool)(hr:(match op with | .eql=>some (a==b) | .neq=>some (!(a==b)) | _=>none)=some r):bh P n L φ (⟨some d,.binOp op t x y t',ty,pos,af,gd⟩) (.bool r):=
 V.bin hx hy (fun w A hx hy=>by
  have he:=run_equal_bool (P:=P) (w:=w) a b ht
  cases op<;>simp only[Option.some.injEq]at hr<;>(try cases hr)<;>
   simp[execOp,eqGuard,hx,hy,binOp,he])
theorem V.ud{t:TypeId}{x:Operand}{v:Value}{ds:TypeDesc}(hx:ev L x=some v)(ht:P.underlying t=some ds)(hn:∀ ms,ds≠ .interface ms):bh P n L φ (⟨some d,.makeInterface t x,ty,pos,af,gd⟩) (.iface t v):=
   (fun a w ha _=>by
    simp only[execOp,az ha hx,Instr.makeInterface,Sem.run_bind,run_underlying ht,Result.andThen_ok]
    cases ds<;>simp_all)
variable {W:World} {S:Nat→Nat→Prop} {H H':List ax}
theorem cB{w:World}{b o m i:Nat}{C:Nat→Value}(h:(ax.cells b o m C).holds w)(hi:i<m):w.cell? ⟨b,o+i,none⟩=some (C i):=by
 obtain⟨A,t,lo,hi',h1,h2⟩:=h
 simp[World.cell?,h1,(h2 i hi).1]
theorem y7{w:World}{b o m i:Nat}{C:Nat→Value}(h:(ax.ro b o m C).holds w)(hi:i<m):w.cell? ⟨b,o+i,none⟩=some (C i):=by
 obtain⟨A,t,fz,h1,h2⟩:=h
 simp[World.cell?,h1,h2 i hi]
theorem dw{w:World}{t:TypeId}{a:Addr}{v:Value}(ht:fT P t=true)(hc:w.cell? a=some v):(loadVar t a).run P w= .ok v w:=by
 simp[loadVar,iS ht,run_load,hc]
theorem dm{W:World}{S:Nat→Nat→Prop}{H:List ax}{e:ax}(hH:Has H e)(w:World)(h:XM W S H w):e.holds w:=h.good.1 _ hH.mem
theorem dJ{e:ax}(w:World)(h:e.holds w):e.holds w:=h
theorem V.load{t:TypeId}{x:Operand}{b o i m:Nat}{C:Nat→Value}{v:Value}(hx:ev L x=some (ptr b o i))(hH:∀ w,φ w→(ax.cells b o m C).holds w)(hv:i<m∧C i=v)(ht:fT P t=true):bh P n L φ (⟨some d,.load t x,ty,pos,af,gd⟩) v:=fun a w ha hw=>by
 have hc:=cB (hH w hw) hv.1
 rw[hv.2]at hc
 simp[execOp,az ha hx,Instr.loadAt,Instr.sureAddr,ptr,dw ht hc]
theorem V.La{t:TypeId}{x:Operand}{b o i m:Nat}{C:Nat→Value}{v:Value}(hx:ev L x=some (ptr b o i))(hH:∀ w,φ w→(ax.ro b o m C).holds w)(hv:i<m∧C i=v)(ht:fT P t=true):bh P n L φ (⟨some d,.load t x,ty,pos,af,gd⟩) v:=fun a w ha hw=>by
 have hc:=y7 (hH w hw) hv.1
 rw[hv.2]at hc
 simp[execOp,az ha hx,Instr.loadAt,Instr.sureAddr,ptr,dw ht hc]
theorem run_loadCellsFrom(b o i:Nat)(C:Nat→Value){w:World} :∀ (k j:Nat) (acc:Array Value),(∀ l,j≤l→l<j+k→w.cell? ⟨b,o+(i+l),none⟩=some (C (i+l)))→
  (loadCellsFrom ⟨b,o+i,none⟩ j k acc).run P w= .ok (acc++((List.range' j k).map fun l=>C (i+l)).toArray) w
 | 0,j,acc,_=>by simp[loadCellsFrom]
 | k+1,j,acc,h=>by
  simp only[loadCellsFrom,Sem.run_bind,iI,run_load,h j (Nat.le_refl _) (by omega),Result.andThen_ok]
  rw[run_loadCellsFrom b o i C k (j+1) _ (fun l h1 h2=>h l (by omega) (by omega))]
  simp[List.range'_succ]
theorem fI{w:World}{t:TypeId}{b o i sz:Nat}{C:Nat→Value}(ht:jW P t=true)(hs:dx P t=some sz)(hc:∀ l,l<sz→w.cell? ⟨b,o+(i+l),none⟩=some (C (i+l))):(loadVar t ⟨b,o+i,none⟩).run P w= .ok (cq C i sz) w:=by
 simp only[loadVar,Sem.run_bind,mE ht,Result.andThen_ok,run_sizeOf hs,if_true,loadCells]
 rw[run_loadCellsFrom b o i C sz 0 #[] (fun l _ h2=>hc l (by omega))]
 simp[cq,List.range_eq_range']
theorem V.fW{t:TypeId}{x:Operand}{b o i m sz:Nat}{C:Nat→Value}{v:Value}(hx:ev L x=some (ptr b o i))(hH:∀ w,φ w→(ax.cells b o m C).holds w)(hv:i+sz≤m∧cq C i sz=v)(ht:jW P t=true)(hs:dx P t=some sz):bh P n L φ (⟨some d,.load t x,ty,pos,af,gd⟩) v:=fun a w ha hw=>by
 have hr:=fI (P:=P) (w:=w) (b:=b) (o:=o) (i:=i) (C:=C) ht hs (fun l hl=>cB (hH w hw) (by omega))
 rw[hv.2]at hr
 simp[execOp,az ha hx,Instr.loadAt,Instr.sureAddr,ptr,hr]
theorem XO.v{ops:Md}{rest:List Oper}{M:World→Prop}{op:Op}{v:Value}(hv:bh P n L (fun _=>True) ⟨some d,op,ty,pos,af,none⟩ v)(hd:(Nat.blt d n.sz&& !cI op)=true)
  (h:XO P n ops Q rest ((d,v)::L) M):XO P n ops Q (⟨some d,op,ty,pos,af,none⟩::rest) L M:=XO.val hd (fun a w ha=>hv a w ha trivial) h
theorem XO.l{ops:Md}{rest:List Oper}{M:World→Prop}{op:Op}{v:Value}(hv:bh P n L M ⟨some d,op,ty,pos,af,none⟩ v)(hd:(Nat.blt d n.sz&&(!cI op&&Mi op))=true)
  (h:XO P n ops Q rest ((d,v)::L) M):XO P n ops Q (⟨some d,op,ty,pos,af,none⟩::rest) L M:=XO.NM hd hv h
end
end Go.X

namespace Go.X
open Go
inductive ed:List ax→ax→ax→List ax→Prop where
 | here {e e' H} :ed (e::H) e e' (e'::H)
 | there {x e e' H H'} :ed H e e' H'→ed (x::H) e e' (x::H')
theorem ed.del{H H2:List ax}{e e':ax}(h:ed H e e' H2):∃ H',dX H e H'∧(e'::H').Perm H2:=by
 induction h with
 | here=>exact⟨_,.here,.refl _⟩
 | there _ ih=>obtain⟨H',h1,h2⟩:=ih;exact⟨_,.there h1,(List.Perm.swap _ _ _).trans (List.Perm.cons _ h2)⟩
def bQ(C:Nat→Value)(i:Nat):List Value→Nat→Value
 | []=>C
 | v::r=>bQ (cH C i v) (i+1) r
theorem iP{v:Value}(h:one v=true):v.oneCell'=true:=by cases v<;>simp_all[one,Value.oneCell']
theorem fU.setCell{w:World}{b o i:Nat}{A:Array Value}{t:TypeId}{fz:Nat×Nat}(h:w.heap[b]? =some (.cells A t fz))(v:Value){S:Nat→Nat→Prop}(hS:S b (o+i)):fU w (w.setCell ⟨b,o+i,none⟩ v) S:=by
 refine⟨rfl,rfl,rfl,by simp[World.setCell],fun x hx hn=> ?_,fun x A' t' fz' hA=> ?_⟩
 ·have:x≠b:=fun e=>by subst e;exact hn _ hS
  simp only[World.setCell,Array.getElem?_modify]
  rw[if_neg (fun e=>this e.symm)]
 ·by_cases hx:x=b
  ·subst hx
   rw[h]at hA
   simp only[Option.some.injEq,Obj.cells.injEq]at hA
   obtain⟨rfl,rfl,rfl⟩:=hA
   refine⟨A.setIfInBounds (o+i) v,?_,by simp,fun j hj=> ?_⟩
   ·simp[World.setCell,Array.getElem?_modify,h]
   ·have:o+i≠j:=fun e=>by subst e;exact hj hS
    rw[Array.getElem?_setIfInBounds_ne this]
  ·refine⟨A',?_,rfl,fun _ _=>rfl⟩
   simp only[World.setCell,Array.getElem?_modify]
   rw[if_neg (fun e=>hx e.symm)]
   exact hA
theorem XM.setCell{W w:World}{S:Nat→Nat→Prop}{H H':List ax}{b o m i:Nat}{C:Nat→Value}(h:XM W S H w)(hd:dX H (.cells b o m C) H')(hi:i<m)(v:Value):XM W S (.cells b o m (cH C i v)::H') (w.setCell ⟨b,o+i,none⟩ v):=by
 have hh:(ax.cells b o m C).holds w:=h.good.1 _ (hd.perm.mem_iff.2 (by simp))
 obtain⟨A,t,lo,hi',h1,h2⟩:=hh
 refine h.write (e':=.cells b o m (cH C i v)) hd rfl (fun b' o' ha=>.inl ha) (fU.setCell h1 v ⟨rfl,by omega,by omega⟩) ?_
 refine⟨A.setIfInBounds (o+i) v,t,lo,hi',by simp[World.setCell,Array.getElem?_modify,h1],fun j hj=>⟨?_,(h2 j hj).2⟩⟩
 have hsz:o+i<A.size:=(Array.getElem?_eq_some_iff.1 (h2 i hi).1).1
 by_cases hij:j=i
 ·subst hij;simp[cH,hsz]
 ·rw[Array.getElem?_setIfInBounds_ne (by omega)]
  simp[cH,hij,(h2 j hj).1]
section
variable {P:Program} {n:Fr} {Q:Exit→Act→World→Prop} {L:PF} {ops:Md} {rest:List Oper} {ty:TypeId} {pos:String} {af:Array Edge} {d:Nat}
variable {W:World} {S:Nat→Nat→Prop} {H H':List ax}
theorem il{w:World}{b o m i:Nat}{C:Nat→Value}(h:(ax.cells b o m C).holds w)(hi:i<m){v:Value}(hv:one v=true):(store ⟨b,o+i,none⟩ v).run P w= .ok () (w.setCell ⟨b,o+i,none⟩ v):=by
 rw[run_store P w _ v .plain (iP hv),cB h hi]
 obtain⟨A,t,lo,hi',h1,h2⟩:=h
 have:w.frozen? ⟨b,o+i,none⟩=false:=by
  have:=(h2 i hi).2
  simp only[World.frozen?,h1]
  simp;omega
 simp[this]
theorem gh{b o m:Nat} :∀ (vs:List Value) (i j:Nat) (C:Nat→Value) (w:World),XM W S (.cells b o m C::H) w→i+j+vs.length≤m→vs.all one=true→
  ∃ w',(storeCells ⟨b,o+i,none⟩ vs j).run P w= .ok () w'∧XM W S (.cells b o m (bQ C (i+j) vs)::H) w'
 | [],i,j,C,w,h,_,_=>⟨w,by simp[storeCells],h⟩
 | v::r,i,j,C,w,h,hl,h1=>by
  simp only[List.all_cons,Bool.and_eq_true]at h1
  simp only[List.length_cons]at hl
  have h2:=h.setCell .here (i:=i+j) (by omega) v
  obtain⟨w',hr,hx⟩:=gh r i (j+1) _ _ h2 (by omega) h1.2
  refine⟨w',?_,by simpa only[bQ,Nat.add_assoc]using hx⟩
  simp only[storeCells,Sem.run_bind,iI]
  rw[il (show(ax.cells b o m C).holds w from h.good.1 _ (by simp)) (by omega) h1.1]
  exact hr
theorem XO.store{t:TypeId}{x y:Operand}{b o i m:Nat}{C C':Nat→Value}{v:Value}(hx:ev L x=some (ptr b o i))(hy:ev L y=some v)(hH:ed H (.cells b o m C) (.cells b o m C') H')(hi:i<m∧cH C i v=C')(hv:one v=true)(hs:dx P t=some 1)(h:XO P n ops Q rest L (XM W S H')):XO P n ops Q (⟨none,.store t x y,ty,pos,af,none⟩::rest) L (XM W S H):=
 XO.op rfl fun a w ha hw=>by
  obtain⟨H1,hd,hp⟩:=hH.del
  have h2:=hw.setCell hd hi.1 v
  rw[hi.2]at h2
  have hw':=hw.perm hd.perm
  have hr:=il (P:=P) (show(ax.cells b o m C).holds w from hw'.good.1 _ (by simp)) hi.1 hv
  unfold Oper.wp
  have:(execOp a.eval ⟨none,.store t x y,ty,pos,af,none⟩).run P w= .ok .skip (w.setCell ⟨b,o+i,none⟩ v):=by
   have hz:(⟨b,o+i,none⟩:Addr).add 0=⟨b,o+i,none⟩:=rfl
   simp[execOp,az ha hx,az ha hy,Instr.storeAt,Instr.sureAddr,ptr,storeVar,o8 hv,run_sizeOf hs,storeCells,hz,hr]
  rw[this]
  exact h _ _ ha (h2.perm hp)
theorem XO.eX{t:TypeId}{x y:Operand}{b o i m sz:Nat}{C C':Nat→Value}{cs:Array Value}(hx:ev L x=some (ptr b o i))(hy:ev L y=some (.agg cs))(hH:ed H (.cells b o m C) (.cells b o m C') H')(hi:i+sz≤m∧bQ C i cs.toList=C')(hv:cs.toList.all one=true∧cs.size=sz)(hs:dx P t=some sz)(h:XO P n ops Q rest L (XM W S H')):XO P n ops Q (⟨none,.store t x y,ty,pos,af,none⟩::rest) L (XM W S H):=
 XO.op rfl fun a w ha hw=>by
  obtain⟨H1,hd,hp⟩:=hH.del
  obtain⟨w',hr,hx'⟩:=gh (P:=P) cs.toList i 0 C w (hw.perm hd.perm) (by simp;omega) hv.1
  simp only[Nat.add_zero]at hx'
  rw[hi.2]at hx'
  unfold Oper.wp
  have:(execOp a.eval ⟨none,.store t x y,ty,pos,af,none⟩).run P w= .ok .skip w':=by
   simp[execOp,az ha hx,az ha hy,Instr.storeAt,Instr.sureAddr,ptr,storeVar,Value.cells,run_sizeOf hs,hv.2,hr]
  rw[this]
  exact h _ _ ha (hx'.perm hp)
theorem XM.alloc{w:World}(h:XM W S H w)(A:Array Value)(t:TypeId)(C:Nat→Value)(hC:∀ i,i<A.size→A[i]? =some (C i)):XM W S (.cells w.heap.size 0 A.size C::H) (w.alloc (.cells A t)):=by
 refine h.fresh (fun b o hb=>by obtain⟨rfl,_⟩:=hb;exact Nat.le_refl _) ?_ ?_
 ·refine⟨rfl,rfl,rfl,by simp,fun b hb _=>heap_alloc_old w _ hb,fun b A' t' fz hA=>⟨A',?_,rfl,fun _ _=>rfl⟩⟩
  rw[heap_alloc_old w _ (cw hA)];exact hA
 ·exact⟨A,t,0,0,heap_alloc_new w _,fun i hi=>⟨by simpa using hC i hi,by omega⟩⟩
def cellsOf(A:Array Value):Nat→Value:=fun i=>A.getD i undef
theorem dW(A:Array Value)(i:Nat)(h:i<A.size):A[i]? =some (cellsOf A i):=by simp[cellsOf,h]
theorem XO.cY{t:TypeId}{z:Value}{m:Nat}{C:Nat→Value}(hz:zeroOf P t=some z)(hm:z.cells.size=m)(hC:∀ i,i<m→cellsOf z.cells i=C i)(hd:Nat.blt d n.sz=true)(h:∀ b,XO P n ops Q rest ((d,ptr b 0 0)::L) (XM W S (.cells b 0 m C::H))):XO P n ops Q (⟨some d,.alloc t,ty,pos,af,none⟩::rest) L (XM W S H):=
 XO.op rfl fun a w ha hw=>by
  have hx:=hw.alloc z.cells t C (fun i hi=>by rw[dW _ _ hi,hC i (hm▸hi)])
  rw[hm]at hx
  unfold Oper.wp
  have:(execOp a.eval ⟨some d,.alloc t,ty,pos,af,none⟩).run P w= .ok (.value (ptr w.heap.size 0 0)) (w.alloc (.cells z.cells t)):=by
   simp[execOp,Instr.alloc,jq hz,newVar,newRow,newObj,Sem.run,ptr]
  rw[this]
  exact h _ _ _ (ha.put hd _) hx
theorem XO.box{t:TypeId}{x:Operand}{v:Value}{m:Nat}{C:Nat→Value}(hx:ev L x=some v)(hm:v.cells.size=m)(hC:∀ i,i<m→cellsOf v.cells i=C i)(hd:Nat.blt d n.sz=true)(h:∀ b,XO P n ops Q rest ((d,ptr b 0 0)::L) (XM W S (.cells b 0 m C::H))):XO P n ops Q (⟨some d,.box t x,ty,pos,af,none⟩::rest) L (XM W S H):=
 XO.op rfl fun a w ha hw=>by
  have hx':=hw.alloc v.cells t C (fun i hi=>by rw[dW _ _ hi,hC i (hm▸hi)])
  rw[hm]at hx'
  unfold Oper.wp
  have:(execOp a.eval ⟨some d,.box t x,ty,pos,af,none⟩).run P w= .ok (.value (ptr w.heap.size 0 0)) (w.alloc (.cells v.cells t)):=by
   simp[execOp,az ha hx,Instr.box,newVar,newRow,newObj,Sem.run,ptr]
  rw[this]
  exact h _ _ _ (ha.put hd _) hx'
theorem V.build{t:TypeId}{parts:Array (Nat×Operand)}{vs:Array (Nat×Value)}{v:Value}(hp:parts.toList.mapM (fun x=>(ev L x.2).map fun u=>(x.1,u))=some vs.toList)(hb:∀ w,(Instr.build t vs).run P w= .ok v w){φ:World→Prop}{gd:Option (Nat×Bool)} :bh P n L φ ⟨some d,.build t parts,ty,pos,af,gd⟩ v:=fun a w ha _=>by
  have:parts.map (fun x=>(x.1,a.eval x.2))=vs:=by
   apply Array.toList_inj.1
   rw[Array.toList_map]
   generalize parts.toList=l at hp
   generalize vs.toList=us at hp ⊢
   clear hb
   induction l generalizing us with
   | nil=>simp at hp;subst hp;rfl
   | cons x r ih=>
    simp only[List.mapM_cons,Option.bind_eq_bind]at hp
    cases he:ev L x.2 with
    | none=>simp[he]at hp
    | some u=>
     simp only[he,Option.map_some,Option.bind_some]at hp
     cases hr:r.mapM (fun x=>(ev L x.2).map fun u=>(x.1,u))with
     | none=>simp[hr]at hp
     | some us'=>
      simp[hr]at hp
      subst hp
      simp only[List.map_cons]
      rw[ih us' hr,az ha he]
  have h2:(execOp a.eval ⟨some d,.build t parts,ty,pos,af,gd⟩).run P w= .ok (.value v) w:=by
   have:parts.map (fun (i,x)=>(i,a.eval x))=vs:=this
   simp[execOp,this,hb]
  exact h2
def Dt(L:PF):List Operand→Option (List Value)
 | []=>some []
 | x::r=>match ev L x,Dt L r with
  | some v,some vs=>some (v::vs)
  | _,_=>none
theorem lD{a:Act}(ha:Sat n L a):∀ (xs:List Operand) (vs:List Value),Dt L xs=some vs→xs.map a.eval=vs
 | [],vs,h=>by simp[Dt]at h;subst h;rfl
 | x::r,vs,h=>by
  simp only[Dt]at h
  cases hx:ev L x with
  | none=>simp[hx]at h
  | some v=>
   cases hr:Dt L r with
   | none=>simp[hx,hr]at h
   | some us=>
    simp[hx,hr]at h
    subst h
    simp only[List.map_cons,az ha hx,lD ha r us hr]
theorem oc{w:World}{a:Act}{f:FuncId}{xs:List Operand}{vs:List Value}{ji:Array TypeId}{dst:Option Nat}(hc:cX P f=true)(he:xs.map a.eval=vs):(execOp a.eval ⟨dst,.call ⟨.value (.func f),xs.toArray,ji⟩,ty,pos,af,none⟩).run P w= .ok (.enter f vs.toArray) w:=by
 unfold cX at hc
 cases hf:P.funcs[f]? with
 | none=>simp[hf]at hc
 | some fn=>
  simp only[hf,Bool.and_eq_true]at hc
  obtain⟨h1,h2⟩:=hc
  have h3:¬fn.name= "runtime.NumGoroutine" :=by simpa using h1
  have h4:¬fn.body=none:=by cases hb:fn.body<;>simp_all
  have h5:xs.toArray.map a.eval=vs.toArray:=by rw[←he];simp
  simp[execOp,resolve,Act.eval,Deferred.ofValue,invoke,callFunc,run_program,hf,h3,h4,he]
theorem XO.call{f:FuncId}{xs:List Operand}{vs:List Value}{ji:Array TypeId}{pre F:List ax}{post:Value→List ax→Prop}(he:Dt L xs=some vs)(hs:Spec P f vs pre post)(hp:bF H pre F)(hc:cX P f=true)(hd:Nat.blt d n.sz=true)(h:∀ v H1,post v H1→XO P n ops Q rest ((d,v)::L) (XM W S (H1++F))):XO P n ops Q (⟨some d,.call ⟨.value (.func f),xs.toArray,ji⟩,ty,pos,af,none⟩::rest) L (XM W S H):=
 XO.op rfl fun a w ha hw=>by
  unfold Oper.wp
  rw[oc hc (lD ha xs vs he)]
  show Calls P f vs.toArray w _
  refine(hs w (hw.pick hp).good).mono ?_
  rintro e w' ⟨v,H1,rfl,hpost,hwr,hx⟩
  exact h v H1 hpost _ _ (ha.put hd v) (hw.called hp hx (fun e he=>List.all_eq_true.1 hwr e he))
theorem XO.Nj{f:FuncId}{xs:List Operand}{vs:List Value}{ji:Array TypeId}{pre F:List ax}{post:Value→List ax→Prop}(k:Nat)(he:Dt L xs=some vs)(hs:Spec P f vs pre post)(hp:bF H pre F)(hR:(pre.drop k).all (fun e=> !e.wr)=true)(hc:cX P f=true)(hd:Nat.blt d n.sz=true)(h:∀ v H1,post v H1→XO P n ops Q rest ((d,v)::L) (XM W S (H1++(pre.drop k++F)))):XO P n ops Q (⟨some d,.call ⟨.value (.func f),xs.toArray,ji⟩,ty,pos,af,none⟩::rest) L (XM W S H):=
 XO.op rfl fun a w ha hw=>by
  unfold Oper.wp
  rw[oc hc (lD ha xs vs he)]
  show Calls P f vs.toArray w _
  refine(hs w (hw.pick hp).good).mono ?_
  rintro e w' ⟨v,H1,rfl,hpost,hwr,hx⟩
  have hpre:pre=pre.take k++pre.drop k:=(List.take_append_drop k pre).symm
  have hR':∀ e∈pre.drop k,e.wr=false:=fun e he=>by
   have:=List.all_eq_true.1 hR e he
   simpa using this
  have hp':bF H (pre.take k++pre.drop k) F:=by rw[←hpre];exact hp
  have hx':XM w (bS (pre.take k++pre.drop k)) H1 w':=by rw[←hpre];exact hx
  exact h v H1 hpost _ _ (ha.put hd v) (hw.IL hp' hR' hx' (fun e he=>List.all_eq_true.1 hwr e he))
theorem Spec.intro{f:FuncId}{fn:Func}{c:Code}{args:List Value}{pre:List ax}{post:Value→List ax→Prop}(hf:P.funcs[f]? =some fn)(hb:fn.body=some c)(hn:Nat.ble args.length fn.ntmps=true)(h:∀ W,XC P (fr fn.ntmps [] []) c (bodyPost P fn fun e w'=>∃ v H',e= .returned v∧post v H'∧H'.all ax.wr=true∧XM W (bS pre) H' w') (ic 0 args) (XM W (bS pre) pre)):Spec P f args pre post:=
 fun w hg=>enter hf hb hn (h w) (XM.start hg)
theorem ab{post:Value→List ax→Prop}{H1 F:List ax}{v:Value}(hp:bF H H1 F)(hw1:H1.all ax.wr=true)(h:post v H1):
  ∀ w,XM W S H w→∃ v' H',Ending.returned v= .returned v'∧post v' H'∧H'.all ax.wr=true∧XM W S H' w:=fun _ hw=>⟨v,H1,rfl,h,hw1,hw.pick hp⟩
end
end Go.X

namespace Go.X
open Go
section
variable {P:Program} {n:Fr} {L:PF} {ty:TypeId} {pos:String} {af:Array Edge} {d:Nat} {φ:World→Prop} {gd:Option (Nat×Bool)}
theorem V.Ly{t:TypeId}{x:Operand}{s:ByteArray}(hx:ev L x=some (.string s))(ht:P.underlying t=some .string):bh P n L φ ⟨some d,.call ⟨.builtin .len,#[x],#[t]⟩,ty,pos,af,gd⟩ (.int .i64 s.size):=fun a w ha _=>by
 simp[execOp,resolve,invoke,builtin,Builtin.len_,az ha hx,run_underlying ht,goInt]
theorem V.Nt{t e:TypeId}{x:Operand}{p:Option Addr}{l c:Nat}(hx:ev L x=some (.slice p l c))(ht:P.underlying t=some (.slice e)):bh P n L φ ⟨some d,.call ⟨.builtin .len,#[x],#[t]⟩,ty,pos,af,gd⟩ (.int .i64 l):=fun a w ha _=>by
 simp[execOp,resolve,invoke,builtin,Builtin.len_,az ha hx,run_underlying ht,goInt]
theorem sc(a b:ByteArray):(a.toList==b.toList)=decide (a=b):=by
 rw[Bool.eq_iff_iff]
 simp only[beq_iff_eq,decide_eq_true_eq]
 constructor
 ·intro h
  rw[ByteArray.toList_eq,ByteArray.toList_eq]at h
  exact ByteArray.ext (Array.toList_inj.1 h)
 ·intro h;rw[h]
theorem CC(t:ByteArray):t=⟨#[]⟩↔t.size=0:=by
 constructor
 ·intro h;rw[h];rfl
 ·intro h
  apply ByteArray.ext
  exact Array.eq_empty_of_size_eq_zero h
theorem V.Ma{op:BinOp}{t t':TypeId}{x y:Operand}{a b:ByteArray}{r:Bool}(hx:ev L x=some (.string a))(hy:ev L y=some (.string b))(hr:(match op with | .eql=>some (decide (a=b)) | .neq=>some (decide (a≠b)) | .lss=>some (Op.bytesLess a.toList b.toList) | .leq=>some (Op.bytesLess a.toList b.toList||decide (a=b)) | .gtr=>some (!(Op.bytesLess a.toList b.toList||decide (a=b))) | .geq=>some (!Op.bytesLess a.toList b.toList) | _=>none)=some r):bh P n L φ ⟨some d,.binOp op t x y t',ty,pos,af,gd⟩ (.bool r):=
 V.bin hx hy (fun w A hx hy=>by
  cases op<;>simp only[Option.some.injEq]at hr<;>(try cases hr)<;>
   simp only[execOp,eqGuard,hx,hy,binOp,Op.stringOp,sc]<;>simp)
theorem V.concat{t t':TypeId}{x y:Operand}{a b:ByteArray}(hx:ev L x=some (.string a))(hy:ev L y=some (.string b))(hs:a.size+b.size≤9223372036854775807):bh P n L φ ⟨some d,.binOp .add t x y t',ty,pos,af,gd⟩ (.string (a++b)):=
 V.bin hx hy (fun w A hx hy=>by
  have h:¬((a.size+b.size:Nat):Int)>IntKind.i64.max:=by simp[IntKind.max,IntKind.signed,IntKind.bits];omega
  simp only[execOp,eqGuard,hx,hy,binOp,Op.stringOp]
  rw[if_neg h]
  simp)
theorem V.sliceTo{t:TypeId}{x y:Operand}{s:ByteArray}{k:IntKind}{z:Int}(hx:ev L x=some (.string s))(hy:ev L y=some (.int k z))(ht:P.underlying t=some .string)(hz:0≤z∧z≤s.size):bh P n L φ ⟨some d,.slice t x none (some y) none,ty,pos,af,gd⟩ (.string (s.extract 0 z.toNat)):=fun a w ha _=>by
 simp[execOp,az ha hx,az ha hy,Instr.sliceAt,run_underlying ht,Instr.slice,Instr.sliceBounds,Instr.sliceBound,asIntOf,hz]
theorem V.sliceFrom{t:TypeId}{x y:Operand}{s:ByteArray}{k:IntKind}{z:Int}(hx:ev L x=some (.string s))(hy:ev L y=some (.int k z))(ht:P.underlying t=some .string)(hz:0≤z∧z≤s.size):bh P n L φ ⟨some d,.slice t x (some y) none none,ty,pos,af,gd⟩ (.string (s.extract z.toNat s.size)):=fun a w ha _=>by
 simp[execOp,az ha hx,az ha hy,Instr.sliceAt,run_underlying ht,Instr.slice,Instr.sliceBounds,Instr.sliceBound,asIntOf,hz]
theorem V.K0{t:TypeId}{x y u:Operand}{s:ByteArray}{k k':IntKind}{z z':Int}(hx:ev L x=some (.string s))(hy:ev L y=some (.int k z))(hu:ev L u=some (.int k' z'))(ht:P.underlying t=some .string)(hz:0≤z∧z≤z'∧z'≤s.size):bh P n L φ ⟨some d,.slice t x (some y) (some u) none,ty,pos,af,gd⟩ (.string (s.extract z.toNat z'.toNat)):=fun a w ha _=>by
 have h1:0≤z'∧z'≤s.size:=by omega
 have h2:0≤z∧z≤(z'.toNat:Int):=by omega
 have h3:max z' 0=z':=by omega
 have h4:¬z'<z:=by omega
 simp[execOp,az ha hx,az ha hy,az ha hu,Instr.sliceAt,run_underlying ht,Instr.slice,Instr.sliceBounds,Instr.sliceBound,asIntOf,h1,h2,h3,h4]
def bM(T:TypeId)(e:Int):Value:=if e=0 then .nilIface else .iface T (.int .i64 e)
theorem aW(T:TypeId){e:Int}(h:e≠0):bM T e= .iface T (.int .i64 e):=by simp[bM,h]
theorem pT(k:Nat){t:TypeId}{w:World}{ms:Array (String×TypeId)}(ht:P.underlying t=some (.interface ms)):(Op.equalIn (k+1) t .nilIface .nilIface).run P w= .ok true w:=by
 simp only[Op.equalIn,Sem.run_bind,run_underlying ht,Result.andThen_ok,Sem.run_pure]
theorem kT(k:Nat){t T:TypeId}{w:World}{v:Value}{ms:Array (String×TypeId)}(ht:P.underlying t=some (.interface ms)):(Op.equalIn (k+1) t (.iface T v) .nilIface).run P w= .ok false w:=by
 simp only[Op.equalIn,Sem.run_bind,run_underlying ht,Result.andThen_ok,Sem.run_pure]
theorem V.EP{op:BinOp}{t t':TypeId}{x:Operand}{ms:Array (String×TypeId)}{r:Bool}(hx:ev L x=some .nilIface)(ht:P.underlying t=some (.interface ms))(hr:(match op with | .eql=>some true | .neq=>some false | _=>none)=some r):bh P n L φ ⟨some d,.binOp op t x (.const .nilIface) t',ty,pos,af,gd⟩ (.bool r):=fun a w ha _=>by
 have he:(Op.equal t .nilIface .nilIface).run P w= .ok true w:=pT 9999 ht
 have hy:a.eval (.const .nilIface)= .nilIface:=rfl
 cases op<;>simp only[Option.some.injEq]at hr<;>(try cases hr)<;>
  simp[execOp,eqGuard,az ha hx,hy,binOp,he]
theorem V.xx{op:BinOp}{t t' T:TypeId}{x:Operand}{v:Value}{ms:Array (String×TypeId)}{r:Bool}(hx:ev L x=some (.iface T v))(ht:P.underlying t=some (.interface ms))(hr:(match op with | .eql=>some false | .neq=>some true | _=>none)=some r):bh P n L φ ⟨some d,.binOp op t x (.const .nilIface) t',ty,pos,af,gd⟩ (.bool r):=fun a w ha _=>by
 have he:(Op.equal t (.iface T v) .nilIface).run P w= .ok false w:=kT 9999 ht
 have hy:a.eval (.const .nilIface)= .nilIface:=rfl
 cases op<;>simp only[Option.some.injEq]at hr<;>(try cases hr)<;>
  simp[execOp,eqGuard,az ha hx,hy,binOp,he]
theorem V.K4{op:BinOp}{t t' T:TypeId}{x:Operand}{e:Int}{ms:Array (String×TypeId)}{r:Bool}(hx:ev L x=some (bM T e))(ht:P.underlying t=some (.interface ms))(hr:(match op with | .eql=>some (decide (e=0)) | .neq=>some (decide (e≠0)) | _=>none)=some r):bh P n L φ ⟨some d,.binOp op t x (.const .nilIface) t',ty,pos,af,gd⟩ (.bool r):=by
 by_cases h:e=0
 ·subst h
  refine V.EP hx ht ?_
  cases op<;>simp_all
 ·rw[aW T h]at hx
  refine V.xx hx ht ?_
  cases op<;>simp_all
theorem mn(k:Nat){t e:TypeId}{w:World}{p:Addr}(ht:P.underlying t=some (.pointer e)):(Op.equalIn (k+1) t (.pointer (some p)) (.pointer none)).run P w= .ok false w:=by
 simp only[Op.equalIn,Sem.run_bind,run_underlying ht,Result.andThen_ok,Sem.run_pure]
theorem run_equalIn_nil_nil(k:Nat){t e:TypeId}{w:World}(ht:P.underlying t=some (.pointer e)):(Op.equalIn (k+1) t (.pointer none) (.pointer none)).run P w= .ok true w:=by
 simp only[Op.equalIn,Sem.run_bind,run_underlying ht,Result.andThen_ok,Sem.run_pure,Option.isNone]
theorem V.Ll{op:BinOp}{t t' e:TypeId}{x:Operand}{p:Addr}{r:Bool}(hx:ev L x=some (.pointer (some p)))(ht:P.underlying t=some (.pointer e))(hr:(match op with | .eql=>some false | .neq=>some true | _=>none)=some r):bh P n L φ ⟨some d,.binOp op t x (.const (.pointer none)) t',ty,pos,af,gd⟩ (.bool r):=fun a w ha _=>by
 have he:(Op.equal t (.pointer (some p)) (.pointer none)).run P w= .ok false w:=by
  exact mn 9999 ht
 have hy:a.eval (.const (.pointer none))= .pointer none:=rfl
 have b1:binOp .eql t (.pointer (some p)) (.pointer none)=(do pure (.bool (←Op.equal t (.pointer (some p)) (.pointer none)))):=rfl
 have b2:binOp .neq t (.pointer (some p)) (.pointer none)=(do pure (.bool (!(←Op.equal t (.pointer (some p)) (.pointer none))))):=rfl
 have g1:eqGuard .eql t x (.const (.pointer none)) (.pointer (some p)) (.pointer none)=pure ():=rfl
 have g2:eqGuard .neq t x (.const (.pointer none)) (.pointer (some p)) (.pointer none)=pure ():=rfl
 cases op<;>simp only[Option.some.injEq]at hr<;>(try cases hr)<;>
  simp only[execOp,az ha hx,hy,b1,b2,g1,g2]<;>simp[he]
theorem V.I7{op:BinOp}{t t' e:TypeId}{x:Operand}{b o i:Nat}{r:Bool}(hx:ev L x=some (ptr b o i))(ht:P.underlying t=some (.pointer e))
  (hr:(match op with | .eql=>some false | .neq=>some true | _=>none)=some r):
  bh P n L φ ⟨some d,.binOp op t x (.const (.pointer none)) t',ty,pos,af,gd⟩ (.bool r):=V.Ll hx ht hr
theorem V.Ig{op:BinOp}{t t' e:TypeId}{x:Operand}{r:Bool}(hx:ev L x=some (.pointer none))(ht:P.underlying t=some (.pointer e))(hr:(match op with | .eql=>some true | .neq=>some false | _=>none)=some r):bh P n L φ ⟨some d,.binOp op t x (.const (.pointer none)) t',ty,pos,af,gd⟩ (.bool r):=fun a w ha _=>by
 have he:(Op.equal t (.pointer none) (.pointer none)).run P w= .ok true w:=by
  exact run_equalIn_nil_nil 9999 ht
 have hy:a.eval (.const (.pointer none))= .pointer none:=rfl
 have b1:binOp .eql t (.pointer none) (.pointer none)=(do pure (.bool (←Op.equal t (.pointer none) (.pointer none)))):=rfl
 have b2:binOp .neq t (.pointer none) (.pointer none)=(do pure (.bool (!(←Op.equal t (.pointer none) (.pointer none))))):=rfl
 have g1:eqGuard .eql t x (.const (.pointer none)) (.pointer none) (.pointer none)=pure ():=rfl
 have g2:eqGuard .neq t x (.const (.pointer none)) (.pointer none) (.pointer none)=pure ():=rfl
 cases op<;>simp only[Option.some.injEq]at hr<;>(try cases hr)<;>
  simp only[execOp,az ha hx,hy,b1,b2,g1,g2]<;>simp[he]
theorem V.GO{x:Operand}{t T:TypeId}{v:Value}{ds:TypeDesc}(hx:ev L x=some (.iface T v))(ht:P.underlying T=some ds)(hn:∀ ms,ds≠ .interface ms):bh P n L φ ⟨some d,.typeAssert x t T true,ty,pos,af,gd⟩ (.tuple #[v,.bool true]):=fun a w ha _=>by
 simp only[execOp,az ha hx,Instr.typeAssert,Sem.run_bind,run_underlying ht,Result.andThen_ok]
 cases ds<;>simp_all
theorem V.min2{x y:Operand}{t t':TypeId}{k:IntKind}{a b:Int}(hx:ev L x=some (.int k a))(hy:ev L y=some (.int k b)):bh P n L φ ⟨some d,.call ⟨.builtin .min,#[x,y],#[t,t']⟩,ty,pos,af,gd⟩ (.int k (min a b)):=fun A w ha _=>by
 have:(if b<a then b else a)=min a b:=by rw[Int.min_def];split<;>split<;>omega
 simp[execOp,resolve,invoke,builtin,Builtin.min_,Builtin.min2,az ha hx,az ha hy,this]
theorem V.max2{x y:Operand}{t t':TypeId}{k:IntKind}{a b:Int}(hx:ev L x=some (.int k a))(hy:ev L y=some (.int k b)):bh P n L φ ⟨some d,.call ⟨.builtin .max,#[x,y],#[t,t']⟩,ty,pos,af,gd⟩ (.int k (max a b)):=fun A w ha _=>by
 have:(if b>a then b else a)=max a b:=by rw[Int.max_def];split<;>split<;>omega
 simp[execOp,resolve,invoke,builtin,Builtin.max_,Builtin.max2,az ha hx,az ha hy,this]
theorem V.vx{s t:TypeId}{x:Operand}{k k':IntKind}{a:Int}(hx:ev L x=some (.int k a))(hs:P.underlying s=some (.int k))(ht:P.underlying t=some (.int k'))(r:Int)(hr:k'.wrap a=r):bh P n L φ ⟨some d,.convert s t x,ty,pos,af,gd⟩ (.int k' r):=fun A w ha _=>by
 subst hr
 simp[execOp,az ha hx,convert,run_underlying hs,run_underlying ht,Conv.intToInt]
end
theorem sV{k:IntKind}{a b:Int}(h:a=b):some (Value.int k a)=some (.int k b):=by rw[h]
theorem eqs{a b:ByteArray}(h:a=b):some (Value.string a)=some (.string b):=by rw[h]
def ck(p:Int→Bool)(m:Nat):Option Nat:=(List.range m).find? fun k=>p k
theorem cU{p:Int→Bool}{m:Nat}{k:Int}(h0:0≤k)(hk:k<m)(hp:p k=true)(hn:∀ j:Int,0≤j→j<k→p j=false):ck p m=some k.toNat:=by
 unfold ck
 rw[List.find?_range_eq_some]
 refine⟨by rw[show((k.toNat:Nat):Int)=k from by omega];exact hp,by simp;omega,fun j hj=> ?_⟩
 have:=hn j (by omega) (by omega)
 simp[this]
theorem cF{p:Int→Bool}{m:Nat}(hn:∀ j:Int,0≤j→j<m→p j=false):ck p m=none:=by
 unfold ck
 rw[List.find?_range_eq_none]
 intro j hj
 have:=hn j (by omega) (by omega)
 simp[this]
theorem sb:(∀ {p:Prop} [Decidable p],(decide p=true)=p)∧(∀ {p:Prop} [Decidable p],(decide p=false)=¬p)∧(∀ b:Bool,((!b)=true)=(b=false))∧(∀ b:Bool,((!b)=false)=(b=true))∧(∀ {a b:Bool},((!a)=b)=(a= !b))∧((!true)=false)∧((!false)=true)∧(∀ {α:Type} [BEq α] [LawfulBEq α] {a b:α},((a==b)=true)=(a=b))∧(∀ {α:Type} [BEq α] [LawfulBEq α] {a b:α},((a != b)=true)=(a≠b))∧(∀ {α:Type} {a b:α},(a≠b)=¬a=b)∧(∀ {α:Type} [BEq α] [LawfulBEq α] {a b:α},((a==b)=false)=(¬a=b))∧(∀ {α:Type} [BEq α] [LawfulBEq α] {a b:α},((a != b)=false)=(a=b))∧(∀ {a b:Int},(¬a<b)=(b≤a))∧(∀ {a b:Int},(¬a≤b)=(b<a))∧(∀ {a b:Int},(a>b)=(b<a))∧(∀ {a b:Int},(a≥b)=(b≤a))∧(∀ a b:Bool,((a&&b)=true)=(a=true∧b=true))∧(∀ a b:Bool,((a||b)=true)=(a=true∨b=true))∧(∀ a b:Bool,((a&&b)=false)=(a=false∨b=false))∧(∀ a b:Bool,((a||b)=false)=(a=false∧b=false))∧(∀ {p:Prop} [Decidable p],(¬ ¬p)=p):=by
 refine⟨?_,?_,?_,?_,?_,rfl,rfl,?_,?_,?_,?_,?_,?_,?_,?_,?_,?_,?_,?_,?_,?_⟩
 ·intro p _;simp
 ·intro p _;simp
 ·intro b;simp
 ·intro b;simp
 ·intro a b;cases a<;>cases b<;>simp
 ·intro α _ _ a b;simp
 ·intro α _ _ a b;simp
 ·intro α a b;rfl
 ·intro α _ _ a b;simp
 ·intro α _ _ a b;simp
 ·intro a b;simp
 ·intro a b;simp
 ·intro a b;rfl
 ·intro a b;rfl
 ·intro a b;simp
 ·intro a b;simp
 ·intro a b;cases a<;>cases b<;>simp
 ·intro a b;cases a<;>cases b<;>simp
 ·intro p _;simp
end Go.X

namespace Go.X
open Go
theorem au{c:Prop}[Decidable c]{α:Type}{a a' b b':α}(h1:c→a=a')(h2:¬c→b=b'):(if c then a else b)=(if c then a' else b'):=by
 by_cases h:c
 ·rw[if_pos h,if_pos h];exact h1 h
 ·rw[if_neg h,if_neg h];exact h2 h
def aa{α:Type}(f:Int→α)(i:Int)(v:α):Int→α:=fun j=>if j=i then v else f j
theorem ad{α:Type}(f:Int→α){i:Int}(v:α){j:Int}(h:¬j=i):aa f i v j=f j:=by simp[aa,h]
def aX{α:Type}(f:Int→Int→α)(i k:Int)(v:α):Int→Int→α:=fun j l=>if j=i∧l=k then v else f j l
theorem rJ{α:Type}(f:Int→Int→α){i k:Int}{v:α}(h:f i k=v):aX f i k v=f:=by
 funext j l;unfold aX;split
 ·rename_i h2;rw[h2.1,h2.2,h]
 ·rfl
theorem cn{α:Type}(f:Int→α){i:Int}{v:α}(h:f i=v):aa f i v=f:=by
 funext j;unfold aa;split
 ·rename_i h2;rw[h2,h]
 ·rfl
theorem ae{α:Type}(f:Int→α)(i:Int)(v:α):aa f i v i=v:=by simp[aa]
end Go.X

namespace Go.X
open Go
theorem yf{x t:Nat}(ht:x.testBit t=true)(hl:∀ j,j<t→x.testBit j=false):x%2^(t+1)=2^t:=by
 apply Nat.eq_of_testBit_eq
 intro i
 rw[Nat.testBit_mod_two_pow,Nat.testBit_two_pow]
 by_cases h:i=t
 ·subst h;simp[ht]
 ·by_cases h2:i<t
  ·simp[hl i h2];omega
  ·have:¬i<t+1:=by omega
   simp[this];omega
theorem yK{x:Nat}(hx:x≠0):∃ t,x.testBit t=true∧∀ j,j<t→x.testBit j=false:=by
 obtain⟨i,hi⟩:=Nat.exists_testBit_of_ne_zero hx
 obtain⟨t,h1,h2⟩:=exists_least (p:=fun i=>x.testBit i=true) ⟨i,hi⟩
 refine⟨t,h1,fun j hj=> ?_⟩
 cases hb:x.testBit j with
 | false=>rfl
 | true=>have:=h2 j hb;omega
theorem BY{x t:Nat}(ht:x.testBit t=true)(hl:∀ j,j<t→x.testBit j=false)(j:Nat):(x&&&(x-1)).testBit j=(x.testBit j&& !decide (j=t)):=by
 have hm:=yf ht hl
 have hd:=Nat.div_add_mod x (2^(t+1))
 rw[hm]at hd
 have hp:0<2^t:=Nat.two_pow_pos t
 have hx1:x-1=2^(t+1)*(x/2^(t+1))+(2^t-1):=by omega
 have hlt:2^t<2^(t+1):=Nat.pow_lt_pow_right (by omega) (by omega)
 rw[Nat.testBit_and]
 by_cases h1:j<t
 ·simp[hl j h1]
 ·by_cases h2:j=t
  ·subst h2
   rw[hx1,Nat.testBit_two_pow_mul_add _ (by omega)]
   simp
  ·have h3:¬j<t+1:=by omega
   have e1:(x-1).testBit j=x.testBit j:=by
    rw[hx1,Nat.testBit_two_pow_mul_add _ (by omega)]
    conv=>rhs;rw[←hd,Nat.testBit_two_pow_mul_add _ hlt]
    simp[h3]
   rw[e1];simp[h2]
theorem H3{x t w:Nat}(ht:x.testBit t=true)(hl:∀ j,j<t→x.testBit j=false)(hx:x<2^w)(hw:t<w):x&&&(2^w-x)=2^t:=by
 have hm:=yf ht hl
 have hd:=Nat.div_add_mod x (2^(t+1))
 rw[hm]at hd
 have hp:0<2^t:=Nat.two_pow_pos t
 have hlt:2^t<2^(t+1):=Nat.pow_lt_pow_right (by omega) (by omega)
 have hsucc:2^(t+1)=2*2^t:=by rw[Nat.pow_succ];omega
 have hw2:2^w=2^(t+1)*2^(w-(t+1)):=by rw[←Nat.pow_add];congr 1;omega
 have hq:x/2^(t+1)<2^(w-(t+1)):=by
  rw[Nat.div_lt_iff_lt_mul (Nat.two_pow_pos _),Nat.mul_comm,←hw2];exact hx
 have hx1:2^w-x=2^(t+1)*(2^(w-(t+1))-(x/2^(t+1)+1))+2^t:=by
  have e:2^(t+1)*(2^(w-(t+1))-(x/2^(t+1)+1))=2^w-(2^(t+1)*(x/2^(t+1))+2^(t+1)):=by
   rw[Nat.mul_sub,←hw2,Nat.mul_add,Nat.mul_one]
  have hle:2^(t+1)*(x/2^(t+1))+2^(t+1)≤2^w:=by
   rw[hw2,←Nat.mul_succ];exact Nat.mul_le_mul_left _ hq
  omega
 apply Nat.eq_of_testBit_eq
 intro j
 rw[Nat.testBit_and,hx1,Nat.testBit_two_pow_mul_add _ hlt,Nat.testBit_two_pow]
 by_cases h1:j<t+1
 ·rw[if_pos h1]
  by_cases h2:t=j
  ·subst h2;simp[ht]
  ·simp[h2]
 ·rw[if_neg h1,Nat.testBit_two_pow_sub_succ hq]
  have e1:x.testBit j=(x/2^(t+1)).testBit (j-(t+1)):=by
   conv=>lhs;rw[←hd,Nat.testBit_two_pow_mul_add _ hlt]
   simp[h1]
  rw[e1]
  have:¬t=j:=by omega
  simp[this];try exact fun h _=>h
def iq(a b:Nat):Nat:=a&&&(a^^^b)
theorem fH(a b j:Nat):(iq a b).testBit j=(a.testBit j&& !b.testBit j):=by
 simp only[iq,Nat.testBit_and,Nat.testBit_xor]
 cases a.testBit j<;>cases b.testBit j<;>rfl
theorem EW(a b:Nat):iq a b≤a:=Nat.and_le_left
def Av:IntKind→Bool
 | .u8 | .u16 | .u32 | .u64=>true
 | _=>false
theorem wF{k:IntKind}(hk:Av k=true){a:Nat}(h:a<2^k.bits):k.wrap (a:Int)=a:=by
 have hs:k.signed=false:=by cases k<;>simp_all[Av,IntKind.signed]
 have:((a:Int)%(2^k.bits:Int))=a:=Int.emod_eq_of_lt (by omega) (by exact_mod_cast h)
 simp[IntKind.wrap,hs,this]
section
variable {P:Program} {n:Fr} {L:PF} {ty:TypeId} {pos:String} {af:Array Edge} {d:Nat} {φ:World→Prop} {gd:Option (Nat×Bool)}
theorem E7{w:World}{op:BinOp}{k:IntKind}{a b r:Nat}(hk:Av k=true)(ha:a<2^k.bits)(hb:b<2^k.bits)(hr:(match op with | .and=>some (a&&&b) | .or=>some (a|||b) | .xor=>some (a^^^b) | .andNot=>some (iq a b) | _=>none)=some r):(Op.intBits op k (a:Int) (b:Int)).run P w= .ok (.int k r) w:=by
 have e1:(BitVec.ofInt k.bits (a:Int))=BitVec.ofNat k.bits a:=BitVec.ofInt_natCast _ _
 have e2:(BitVec.ofInt k.bits (b:Int))=BitVec.ofNat k.bits b:=BitVec.ofInt_natCast _ _
 have n1:(BitVec.ofNat k.bits a).toNat=a:=by simp[Nat.mod_eq_of_lt ha]
 have n2:(BitVec.ofNat k.bits b).toNat=b:=by simp[Nat.mod_eq_of_lt hb]
 have key:∀ (v:BitVec k.bits),k.wrap (v.toNat:Int)=v.toNat:=fun v=>wF hk v.isLt
 cases op<;>simp only[Option.some.injEq]at hr<;>(try cases hr)<;>
  simp only[Op.intBits,e1,e2,Sem.run_pure,key]
 ·rw[BitVec.toNat_and,n1,n2]
 ·rw[BitVec.toNat_or,n1,n2]
 ·rw[BitVec.toNat_xor,n1,n2]
 ·have:(BitVec.ofNat k.bits a&&& ~~~BitVec.ofNat k.bits b).toNat=iq a b:=by
   apply Nat.eq_of_testBit_eq
   intro j
   rw[fH,BitVec.testBit_toNat,BitVec.getLsbD_and,BitVec.getLsbD_not,BitVec.getLsbD_ofNat,BitVec.getLsbD_ofNat]
   by_cases hj:j<k.bits
   ·simp[hj]
   ·have:a.testBit j=false:=Nat.testBit_lt_two_pow (Nat.lt_of_lt_of_le ha (Nat.pow_le_pow_right (by omega) (by omega)))
    simp[hj,this]
  rw[this]
theorem V.bits{op:BinOp}{t t':TypeId}{x y:Operand}{k:IntKind}{a b r:Nat}(hx:ev L x=some (.int k a))(hy:ev L y=some (.int k b))(hk:Av k=true)(ha:a<2^k.bits)(hb:b<2^k.bits)(hr:(match op with | .and=>some (a&&&b) | .or=>some (a|||b) | .xor=>some (a^^^b) | .andNot=>some (iq a b) | _=>none)=some r):bh P n L φ ⟨some d,.binOp op t x y t',ty,pos,af,gd⟩ (.int k r):=
 V.bin hx hy (fun w A hx hy=>by
  have he:=E7 (P:=P) (w:=w) hk ha hb hr
  cases op<;>simp only[Option.some.injEq]at hr<;>(try cases hr)<;>
   simp[execOp,eqGuard,hx,hy,binOp,he])
theorem V.shl{t t':TypeId}{x y:Operand}{k k':IntKind}{a z:Int}(hx:ev L x=some (.int k a))(hy:ev L y=some (.int k' z))(hz:0≤z)(r:Int)(hr:k.wrap (a*2^(min z.toNat k.bits))=r):bh P n L φ ⟨some d,.binOp .shl t x y t',ty,pos,af,gd⟩ (.int k r):=
 V.bin hx hy (fun w A hx hy=>by
  have h:¬z<0:=by omega
  simp[execOp,eqGuard,hx,hy,binOp,Op.shift,h,hr])
theorem V.shr{t t':TypeId}{x y:Operand}{k k':IntKind}{a z:Int}(hx:ev L x=some (.int k a))(hy:ev L y=some (.int k' z))(hz:0≤z)(r:Int)(hr:a.fdiv (2^(min z.toNat k.bits))=r):bh P n L φ ⟨some d,.binOp .shr t x y t',ty,pos,af,gd⟩ (.int k r):=
 V.bin hx hy (fun w A hx hy=>by
  have h:¬z<0:=by omega
  simp[execOp,eqGuard,hx,hy,binOp,Op.shift,h,hr])
theorem V.I0{t:TypeId}{x y:Operand}{g m sz:Nat}{k:IntKind}{z:Int}(hx:ev L x=some (.pointer (some ⟨g,0,none⟩)))(hy:ev L y=some (.int k z))(ht:n5 P t=some (m,sz))(hz:0≤z∧z<m):bh P n L φ (⟨some d,.indexAddr t x y,ty,pos,af,gd⟩) (ptr g 0 (0+z.toNat*sz)):=
 V.gT (b:=g) (o:=0) (i:=0) hx hy ht hz
theorem BO{w:World}{op:BinOp}{k:IntKind}{a b r:Nat}(hw:k.wrap (r:Int)=r)(ha:a<2^k.bits)(hb:b<2^k.bits)(hr:(match op with | .and=>some (a&&&b) | .or=>some (a|||b) | .xor=>some (a^^^b) | .andNot=>some (iq a b) | _=>none)=some r):(Op.intBits op k (a:Int) (b:Int)).run P w= .ok (.int k r) w:=by
 have e1:(BitVec.ofInt k.bits (a:Int))=BitVec.ofNat k.bits a:=BitVec.ofInt_natCast _ _
 have e2:(BitVec.ofInt k.bits (b:Int))=BitVec.ofNat k.bits b:=BitVec.ofInt_natCast _ _
 have n1:(BitVec.ofNat k.bits a).toNat=a:=by simp[Nat.mod_eq_of_lt ha]
 have n2:(BitVec.ofNat k.bits b).toNat=b:=by simp[Nat.mod_eq_of_lt hb]
 cases op<;>simp only[Option.some.injEq]at hr<;>(try cases hr)<;>
  simp only[Op.intBits,e1,e2,Sem.run_pure]
 ·rw[BitVec.toNat_and,n1,n2,hw]
 ·rw[BitVec.toNat_or,n1,n2,hw]
 ·rw[BitVec.toNat_xor,n1,n2,hw]
 ·have:(BitVec.ofNat k.bits a&&& ~~~BitVec.ofNat k.bits b).toNat=iq a b:=by
   apply Nat.eq_of_testBit_eq
   intro j
   rw[fH,BitVec.testBit_toNat,BitVec.getLsbD_and,BitVec.getLsbD_not,BitVec.getLsbD_ofNat,BitVec.getLsbD_ofNat]
   by_cases hj:j<k.bits
   ·simp[hj]
   ·have:a.testBit j=false:=Nat.testBit_lt_two_pow (Nat.lt_of_lt_of_le ha (Nat.pow_le_pow_right (by omega) (by omega)))
    simp[hj,this]
  rw[this,hw]
theorem V.Nu{op:BinOp}{t t':TypeId}{x y:Operand}{a b r:Nat}(hx:ev L x=some (.int .i64 a))(hy:ev L y=some (.int .i64 b))(ha:a<9223372036854775808)(hb:b<9223372036854775808)(hw:r<9223372036854775808)(hr:(match op with | .and=>some (a&&&b) | .or=>some (a|||b) | .xor=>some (a^^^b) | .andNot=>some (iq a b) | _=>none)=some r):bh P n L φ ⟨some d,.binOp op t x y t',ty,pos,af,gd⟩ (.int .i64 r):=
 V.bin hx hy (fun w A hx hy=>by
  have he:=BO (P:=P) (w:=w) (k:=.i64) (IntWalk.i64_in _ (by omega)) (Nat.lt_of_lt_of_le ha (by decide)) (Nat.lt_of_lt_of_le hb (by decide)) hr
  cases op<;>simp only[Option.some.injEq]at hr<;>(try cases hr)<;>
   simp[execOp,eqGuard,hx,hy,binOp,he])
theorem V.J0{op:BinOp}{t t':TypeId}{x y:Operand}{a b z:Int}{r:Nat}(hx:ev L x=some (.int .i64 a))(hy:ev L y=some (.int .i64 b))(ha:0≤a∧a<9223372036854775808)(hb:0≤b∧b<9223372036854775808)(hz:0≤z∧z<9223372036854775808)(hr:(match op with | .and=>some (a.toNat&&&b.toNat) | .or=>some (a.toNat|||b.toNat) | .xor=>some (a.toNat^^^b.toNat) | .andNot=>some (iq a.toNat b.toNat) | _=>none)=some r)(he:(r:Int)=z):bh P n L φ ⟨some d,.binOp op t x y t',ty,pos,af,gd⟩ (.int .i64 z):=by
 subst he
 have hx2:ev L x=some (.int .i64 ((a.toNat:Nat):Int)):=by rw[show((a.toNat:Nat):Int)=a from by omega];exact hx
 have hy2:ev L y=some (.int .i64 ((b.toNat:Nat):Int)):=by rw[show((b.toNat:Nat):Int)=b from by omega];exact hy
 exact V.Nu hx2 hy2 (by omega) (by omega) (by omega) hr
theorem V.rem{t t':TypeId}{x y:Operand}{k:IntKind}{a b:Int}(hx:ev L x=some (.int k a))(hy:ev L y=some (.int k b))(hb:b≠0)(r:Int)(hr:a.tmod b=r):bh P n L φ ⟨some d,.binOp .rem t x y t',ty,pos,af,gd⟩ (.int k r):=
 V.bin hx hy (fun w A hx hy=>by simp[execOp,eqGuard,hx,hy,binOp,Op.intDiv,hb,hr])
theorem V.quo{t t':TypeId}{x y:Operand}{k:IntKind}{a b:Int}(hx:ev L x=some (.int k a))(hy:ev L y=some (.int k b))(hb:b≠0)(r:Int)(hr:k.wrap (a.tdiv b)=r):bh P n L φ ⟨some d,.binOp .quo t x y t',ty,pos,af,gd⟩ (.int k r):=
 V.bin hx hy (fun w A hx hy=>by simp[execOp,eqGuard,hx,hy,binOp,Op.intDiv,hb,hr])
theorem vJ{a b:Int}(ha:0≤a)(hb:0<b)(h:a≤9223372036854775807):IntKind.i64.wrap (a.tdiv b)=a/b:=by
 rw[Int.tdiv_eq_ediv_of_nonneg ha]
 have h1:0≤a/b:=Int.ediv_nonneg ha (by omega)
 have h2:a/b≤a:=Int.ediv_le_self b ha
 exact IntWalk.i64_in _ (by omega)
end
end Go.X
