import Derived.Test.YthdinakloheinaaGreatDoorXStore
import Derived.Laws.AppendOwn
import Derived.RangeFuncNested
import Derived.RangeFuncBound
import Derived.RangeFuncCalls
import Derived.RangeFuncLeaves
import Derived.RangeFuncFrom
import Derived.Shelf.Abstract
import Derived.TacticsInMore
import Derived.OrdersIn
set_option linter.all false
namespace Go.X
open Go
variable{op:BinOp}{s:ByteArray}{z:Int}{k:IntKind}{x y:Operand}{v:Value}
section
variable {P:Program} {n:Fr} {L:PF} {ty:TypeId} {pos:String} {af:Array Edge} {d:Nat} {φ:World->Prop} {gd:Option (Nat×Bool)}
def SP{t:TypeId}(hx:ev L x=some (.string s))(ht:P.underlying t=some .string):bd P n L φ ⟨some d,.call ⟨.builtin .len,#[x],#[t]⟩,ty,pos,af,gd⟩ (.int .i64 s.size):=fun a w ha _=>by
 simp[execOp,resolve,invoke,builtin,Builtin.len_,av ha hx,run_underlying ht,goInt]
def Xo{t e:TypeId}{p:Option Addr}{l c:Nat}(hx:ev L x=some (.slice p l c))(ht:P.underlying t=some (.slice e)):bd P n L φ ⟨some d,.call ⟨.builtin .len,#[x],#[t]⟩,ty,pos,af,gd⟩ (.int .i64 l):=fun a w ha _=>by
 simp[execOp,resolve,invoke,builtin,Builtin.len_,av ha hx,run_underlying ht,goInt]
theorem toList_beq(a b:ByteArray):(a.toList==b.toList)=decide (a=b):=by
 rw[Bool.eq_iff_iff];simp only[beq_iff_eq,decide_eq_true_eq];constructor
 ·intro h;rw[ByteArray.toList_eq,ByteArray.toList_eq]at h;exact ByteArray.ext (Array.toList_inj.1 h)
 ·intro h;rw[h]
def PQ(t:ByteArray):t=⟨#[]⟩↔t.size=0:=by
 constructor
 ·intro h;rw[h];rfl
 ·intro h;apply ByteArray.ext;exact Array.eq_empty_of_size_eq_zero h
def SQ{t t':TypeId}{a b:ByteArray}{r:Bool}(hx:ev L x=some (.string a))(hy:ev L y=some (.string b))(hr:(match op with | .eql=>some (decide (a=b)) | .neq=>some (decide (a≠b)) | .lss=>some (Op.bytesLess a.toList b.toList) | .leq=>some (Op.bytesLess a.toList b.toList||decide (a=b)) | .gtr=>some (!(Op.bytesLess a.toList b.toList||decide (a=b))) | .geq=>some (!Op.bytesLess a.toList b.toList) | _=>none)=some r):bd P n L φ ⟨some d,.binOp op t x y t',ty,pos,af,gd⟩ (.bool r):=
 qB hx hy (fun w A hx hy=>by
  cases op<;>simp only[Option.some.injEq]at hr<;>(try cases hr)<;>
   simp only[execOp,eqGuard,hx,hy,binOp,Op.stringOp,toList_beq]<;>simp)
def SR{t t':TypeId}{a b:ByteArray}(hx:ev L x=some (.string a))(hy:ev L y=some (.string b))(hs:a.size+b.size<=9223372036854775807):bd P n L φ ⟨some d,.binOp .add t x y t',ty,pos,af,gd⟩ (.string (a++b)):=
 qB hx hy (fun w A hx hy=>by
  have h:¬((a.size+b.size:Nat):Int)>IntKind.i64.max:=by simp[IntKind.max,IntKind.signed,IntKind.bits];omega
  simp only[execOp,eqGuard,hx,hy,binOp,Op.stringOp]
  rw[if_neg h]
  simp)
def PR{t:TypeId}(hx:ev L x=some (.string s))(hy:ev L y=some (.int k z))(ht:P.underlying t=some .string)(hz:0<=z/\z<=s.size):bd P n L φ ⟨some d,.slice t x none (some y) none,ty,pos,af,gd⟩ (.string (s.extract 0 z.toNat)):=fun a w ha _=>by
 simp[execOp,av ha hx,av ha hy,Instr.sliceAt,run_underlying ht,Instr.slice,Instr.sliceBounds,Instr.sliceBound,asIntOf,hz]
def IV{t:TypeId}(hx:ev L x=some (.string s))(hy:ev L y=some (.int k z))(ht:P.underlying t=some .string)(hz:0<=z/\z<=s.size):bd P n L φ ⟨some d,.slice t x (some y) none none,ty,pos,af,gd⟩ (.string (s.extract z.toNat s.size)):=fun a w ha _=>by
 simp[execOp,av ha hx,av ha hy,Instr.sliceAt,run_underlying ht,Instr.slice,Instr.sliceBounds,Instr.sliceBound,asIntOf,hz]
def SU{t:TypeId}{u:Operand}{k':IntKind}{z':Int}(hx:ev L x=some (.string s))(hy:ev L y=some (.int k z))(hu:ev L u=some (.int k' z'))(ht:P.underlying t=some .string)(hz:0<=z/\z<=z'/\z'<=s.size):bd P n L φ ⟨some d,.slice t x (some y) (some u) none,ty,pos,af,gd⟩ (.string (s.extract z.toNat z'.toNat)):=fun a w ha _=>by
 have h1:0<=z'/\z'<=s.size:=og;have h2:0<=z/\z<=(z'.toNat:Int):=og;have h3:max z' 0=z':=og;have h4:¬z'<z:=og;simp[execOp,av ha hx,av ha hy,av ha hu,Instr.sliceAt,run_underlying ht,Instr.slice,Instr.sliceBounds,Instr.sliceBound,asIntOf,h1,h2,h3,h4]
def gH{t:TypeId}{u:UInt8}(hx:ev L x=some (.string s))(hy:ev L y=some (.int k z))(ht:P.underlying t=some .string)(hz:0<=z)(hu:s[z.toNat]? =some u):bd P n L φ ⟨some d,.index t x y,ty,pos,af,gd⟩ (.int .u8 u.toNat):=fun a w ha _=>by
 simp[execOp,av ha hx,av ha hy,Instr.index,run_underlying ht,asIntOf,hz,hu]
def ax(T:TypeId)(e:Int):Value:=if e=0 then .nilIface else .iface T (.int .i64 e)
theorem aJ(T:TypeId){e:Int}(h:e≠0):ax T e= .iface T (.int .i64 e):=by simp[ax,h]
def BD(k:Nat){t:TypeId}{w:World}{ms:Array (String×TypeId)}(ht:P.underlying t=some (.interface ms)):(Op.equalIn (k+1) t .nilIface .nilIface).run P w= .ok true w:=by
 simp only[Op.equalIn,Sem.run_bind,run_underlying ht,Result.andThen_ok,Sem.run_pure]
def s5(k:Nat){t T:TypeId}{w:World}{ms:Array (String×TypeId)}(ht:P.underlying t=some (.interface ms)):(Op.equalIn (k+1) t (.iface T v) .nilIface).run P w= .ok false w:=by
 simp only[Op.equalIn,Sem.run_bind,run_underlying ht,Result.andThen_ok,Sem.run_pure]
def IW{t t':TypeId}{ms:Array (String×TypeId)}{r:Bool}(hx:ev L x=some .nilIface)(ht:P.underlying t=some (.interface ms))(hr:(match op with | .eql=>some true | .neq=>some false | _=>none)=some r):bd P n L φ ⟨some d,.binOp op t x (.const .nilIface) t',ty,pos,af,gd⟩ (.bool r):=fun a w ha _=>by
 have he:(Op.equal t .nilIface .nilIface).run P w= .ok true w:=BD 9999 ht;have hy:a.eval (.const .nilIface)= .nilIface:=rfl;cases op<;>simp only[Option.some.injEq]at hr<;>(try cases hr)<;>
  simp[execOp,eqGuard,av ha hx,hy,binOp,he]
def Ct{t t' T:TypeId}{ms:Array (String×TypeId)}{r:Bool}(hx:ev L x=some (.iface T v))(ht:P.underlying t=some (.interface ms))(hr:(match op with | .eql=>some false | .neq=>some true | _=>none)=some r):bd P n L φ ⟨some d,.binOp op t x (.const .nilIface) t',ty,pos,af,gd⟩ (.bool r):=fun a w ha _=>by
 have he:(Op.equal t (.iface T v) .nilIface).run P w= .ok false w:=s5 9999 ht;have hy:a.eval (.const .nilIface)= .nilIface:=rfl;cases op<;>simp only[Option.some.injEq]at hr<;>(try cases hr)<;>
  simp[execOp,eqGuard,av ha hx,hy,binOp,he]
def SX{t t' T:TypeId}{e:Int}{ms:Array (String×TypeId)}{r:Bool}(hx:ev L x=some (ax T e))(ht:P.underlying t=some (.interface ms))(hr:(match op with | .eql=>some (decide (e=0)) | .neq=>some (decide (e≠0)) | _=>none)=some r):bd P n L φ ⟨some d,.binOp op t x (.const .nilIface) t',ty,pos,af,gd⟩ (.bool r):=by
 by_cases h:e=0
 ·subst h;refine IW hx ht ?_;cases op<;>simp_all
 ·rw[aJ T h]at hx;refine Ct hx ht ?_;cases op<;>simp_all
def vJ(k:Nat){t e:TypeId}{w:World}{p:Addr}(ht:P.underlying t=some (.pointer e)):(Op.equalIn (k+1) t (.pointer (some p)) (.pointer none)).run P w= .ok false w:=by
 simp only[Op.equalIn,Sem.run_bind,run_underlying ht,Result.andThen_ok,Sem.run_pure]
def run_equalIn_nil_nil(k:Nat){t e:TypeId}{w:World}(ht:P.underlying t=some (.pointer e)):(Op.equalIn (k+1) t (.pointer none) (.pointer none)).run P w= .ok true w:=by
 simp only[Op.equalIn,Sem.run_bind,run_underlying ht,Result.andThen_ok,Sem.run_pure,Option.isNone]
def SY{t t' e:TypeId}{p:Addr}{r:Bool}(hx:ev L x=some (.pointer (some p)))(ht:P.underlying t=some (.pointer e))(hr:(match op with | .eql=>some false | .neq=>some true | _=>none)=some r):bd P n L φ ⟨some d,.binOp op t x (.const (.pointer none)) t',ty,pos,af,gd⟩ (.bool r):=fun a w ha _=>by
 have he:(Op.equal t (.pointer (some p)) (.pointer none)).run P w= .ok false w:=by
  exact vJ 9999 ht
 have hy:a.eval (.const (.pointer none))= .pointer none:=rfl;have b1:binOp .eql t (.pointer (some p)) (.pointer none)=(do pure (.bool (<-Op.equal t (.pointer (some p)) (.pointer none)))):=rfl;have b2:binOp .neq t (.pointer (some p)) (.pointer none)=(do pure (.bool (!(<-Op.equal t (.pointer (some p)) (.pointer none))))):=rfl;have g1:eqGuard .eql t x (.const (.pointer none)) (.pointer (some p)) (.pointer none)=pure ():=rfl;have g2:eqGuard .neq t x (.const (.pointer none)) (.pointer (some p)) (.pointer none)=pure ():=rfl;cases op<;>simp only[Option.some.injEq]at hr<;>(try cases hr)<;>
  simp only[execOp,av ha hx,hy,b1,b2,g1,g2]<;>simp[he]
def PT{t t' e:TypeId}{b o i:Nat}{r:Bool}(hx:ev L x=some (ay b o i))(ht:P.underlying t=some (.pointer e))
  (hr:(match op with | .eql=>some false | .neq=>some true | _=>none)=some r):
  bd P n L φ ⟨some d,.binOp op t x (.const (.pointer none)) t',ty,pos,af,gd⟩ (.bool r):=SY hx ht hr
def PV{t t' e:TypeId}{r:Bool}(hx:ev L x=some (.pointer none))(ht:P.underlying t=some (.pointer e))(hr:(match op with | .eql=>some true | .neq=>some false | _=>none)=some r):bd P n L φ ⟨some d,.binOp op t x (.const (.pointer none)) t',ty,pos,af,gd⟩ (.bool r):=fun a w ha _=>by
 have he:(Op.equal t (.pointer none) (.pointer none)).run P w= .ok true w:=by
  exact run_equalIn_nil_nil 9999 ht
 have hy:a.eval (.const (.pointer none))= .pointer none:=rfl;have b1:binOp .eql t (.pointer none) (.pointer none)=(do pure (.bool (<-Op.equal t (.pointer none) (.pointer none)))):=rfl;have b2:binOp .neq t (.pointer none) (.pointer none)=(do pure (.bool (!(<-Op.equal t (.pointer none) (.pointer none))))):=rfl;have g1:eqGuard .eql t x (.const (.pointer none)) (.pointer none) (.pointer none)=pure ():=rfl;have g2:eqGuard .neq t x (.const (.pointer none)) (.pointer none) (.pointer none)=pure ():=rfl;cases op<;>simp only[Option.some.injEq]at hr<;>(try cases hr)<;>
  simp only[execOp,av ha hx,hy,b1,b2,g1,g2]<;>simp[he]
def LI{t T:TypeId}{ds:TypeDesc}(hx:ev L x=some (.iface T v))(ht:P.underlying T=some ds)(hn:∀ ms,ds≠ .interface ms):bd P n L φ ⟨some d,.typeAssert x t T true,ty,pos,af,gd⟩ (.tuple #[v,.bool true]):=fun a w ha _=>by
 simp only[execOp,av ha hx,Instr.typeAssert,Sem.run_bind,run_underlying ht,Result.andThen_ok];cases ds<;>simp_all
theorem V.min2{x y:Operand}{t t':TypeId}{k:IntKind}{a b:Int}(hx:ev L x=some (.int k a))(hy:ev L y=some (.int k b)):bd P n L φ ⟨some d,.call ⟨.builtin .min,#[x,y],#[t,t']⟩,ty,pos,af,gd⟩ (.int k (min a b)):=fun A w ha _=>by
 have:(if b<a then b else a)=min a b:=by rw[Int.min_def];split<;>split<;>omega
 simp[execOp,resolve,invoke,builtin,Builtin.min_,Builtin.min2,av ha hx,av ha hy,this]
theorem V.max2{x y:Operand}{t t':TypeId}{k:IntKind}{a b:Int}(hx:ev L x=some (.int k a))(hy:ev L y=some (.int k b)):bd P n L φ ⟨some d,.call ⟨.builtin .max,#[x,y],#[t,t']⟩,ty,pos,af,gd⟩ (.int k (max a b)):=fun A w ha _=>by
 have:(if b>a then b else a)=max a b:=by rw[Int.max_def];split<;>split<;>omega
 simp[execOp,resolve,invoke,builtin,Builtin.max_,Builtin.max2,av ha hx,av ha hy,this]
def oI{s t:TypeId}{k':IntKind}{a:Int}(hx:ev L x=some (.int k a))(hs:P.underlying s=some (.int k))(ht:P.underlying t=some (.int k'))(r:Int)(hr:k'.wrap a=r):bd P n L φ ⟨some d,.convert s t x,ty,pos,af,gd⟩ (.int k' r):=fun A w ha _=>by
 subst hr;simp[execOp,av ha hx,convert,run_underlying hs,run_underlying ht,Conv.intToInt]
end
def LJ{a b:Int}(h:a=b:=by omega):some (Value.int k a)=some (.int k b):=by rw[h]
def dW(p:Int->Bool)(m:Nat):Option Nat:=(List.range m).find? fun k=>p k
theorem fx{p:Int->Bool}{m:Nat}{k:Int}(h0:0<=k)(hk:k<m)(hp:p k=true)(hn:∀ j:Int,0<=j->j<k->p j=false):dW p m=some k.toNat:=by
 unfold dW;rw[List.find?_range_eq_some];refine⟨by rw[show((k.toNat:Nat):Int)=k from og];exact hp,eW,fun j hj=> ?_⟩;have:=hn j og og;simp[this]
theorem fy{p:Int->Bool}{m:Nat}(hn:∀ j:Int,0<=j->j<m->p j=false):dW p m=none:=by
 unfold dW;rw[List.find?_range_eq_none];intro j hj;have:=hn j og og;simp[this]
theorem sb:(∀ {p:Prop} [Decidable p],(decide p=true)=p)/\(∀ {p:Prop} [Decidable p],(decide p=false)=¬p)/\(∀ b:Bool,((!b)=true)=(b=false))/\(∀ b:Bool,((!b)=false)=(b=true))/\(∀ {a b:Bool},((!a)=b)=(a= !b))/\((!true)=false)/\((!false)=true)/\(∀ {α:Type} [BEq α] [LawfulBEq α] {a b:α},((a==b)=true)=(a=b))/\(∀ {α:Type} [BEq α] [LawfulBEq α] {a b:α},((a != b)=true)=(a≠b))/\(∀ {α:Type} {a b:α},(a≠b)=¬a=b)/\(∀ {α:Type} [BEq α] [LawfulBEq α] {a b:α},((a==b)=false)=(¬a=b))/\(∀ {α:Type} [BEq α] [LawfulBEq α] {a b:α},((a != b)=false)=(a=b))/\(∀ {a b:Int},(¬a<b)=(b<=a))/\(∀ {a b:Int},(¬a<=b)=(b<a))/\(∀ {a b:Int},(a>b)=(b<a))/\(∀ {a b:Int},(a>=b)=(b<=a))/\(∀ a b:Bool,((a&&b)=true)=(a=true/\b=true))/\(∀ a b:Bool,((a||b)=true)=(a=true\/b=true))/\(∀ a b:Bool,((a&&b)=false)=(a=false\/b=false))/\(∀ a b:Bool,((a||b)=false)=(a=false/\b=false))/\(∀ {p:Prop} [Decidable p],(¬ ¬p)=p):=by
 refine⟨?_,?_,?_,?_,?_,rfl,rfl,?_,?_,?_,?_,?_,?_,?_,?_,?_,?_,?_,?_,?_,?_⟩
 ·intro p _;simp
 ·intro p _;simp
 ·intro b;simp
 ·intro b;simp
 ·intro a b;cases a<;>cases b<;>simp
 ·intro α _ _ a b;simp
 ·intro α _ _ a b;simp
 ·intro α a b;rfl
 ·intro α _ _ a b;simp
 ·intro α _ _ a b;simp
 ·intro a b;simp
 ·intro a b;simp
 ·intro a b;rfl
 ·intro a b;rfl
 ·intro a b;simp
 ·intro a b;simp
 ·intro a b;cases a<;>cases b<;>simp
 ·intro a b;cases a<;>cases b<;>simp
 ·intro p _;simp
end Go.X

namespace Go.X
open Go
variable{z:Int}{x y:Operand}{v:Value}
def gj{c:Prop}[Decidable c]{α:Type}{a a' b b':α}(h1:c->a=a')(h2:¬c->b=b'):(if c then a else b)=(if c then a' else b'):=by
 by_cases h:c
 ·rw[if_pos h,if_pos h];exact h1 h
 ·rw[if_neg h,if_neg h];exact h2 h
def ad{α:Type}(f:Int->α)(i:Int)(v:α):Int->α:=fun j=>if j=i then v else f j
theorem ae{α:Type}(f:Int->α){i:Int}(v:α){j:Int}(h:¬j=i):ad f i v j=f j:=by simp[ad,h]
def cL{α:Type}(f:Int->Int->α)(i k:Int)(v:α):Int->Int->α:=fun j l=>if j=i/\l=k then v else f j l
theorem cH{α:Type}(f:Int->α){i:Int}{v:α}(h:f i=v):ad f i v=f:=by
 funext j;unfold ad;split
 ·rename_i h2;rw[h2,h]
 ·rfl
theorem aj{α:Type}(f:Int->α)(i:Int)(v:α):ad f i v i=v:=by simp[ad]
def rL(P:Program)(e:TypeId)(sz:Nat):Bool:=match P.info? e with
 | some i=>Nat.beq i.size sz&&Nat.ble i.bytes 1000&&Nat.blt 0 sz&&(match i.zero with
  | some z=>Nat.beq z.cells.size sz
  | none=>false)
 | none=>false
def qD{P:Program}{e:TypeId}{sz:Nat}(h:rL P e sz=true):∃ i z,P.info? e=some i/\i.zero=some z/\i.size=sz/\i.bytes<=1000/\z.cells.size=sz/\0<sz:=by
 unfold rL at h;cases hi:P.info? e with
 | none=>simp[hi]at h
 | some i=>
  simp only[hi]at h;cases hz:i.zero with
  | none=>simp[hz]at h
  | some z=>
   simp only[hz,Bool.and_eq_true,Nat.beq_eq]at h;obtain⟨⟨⟨h1,h2⟩,h3⟩,h4⟩:=h;exact⟨i,z,rfl,hz,h1,Nat.le_of_ble_eq_true h2,h4,by simpa using h3⟩
def bZ(C:Nat->Value)(m:Nat):List Value:=(List.range m).map C
def XM.fH{W w:World}{S:Nat->Nat->Prop}{H:List aG}(h:XM W S H w)(e:TypeId)(sz:Nat):XM W S (.row (.slice none 0 0) e sz 0 []::H) w:=
 h.fresh (fun b o hb=>by simp[aG.gp,Value.ownBlock]at hb) (gW.refl _ _) (World.ownsRow_nil w 0 e sz)
def j8(w:World)(o:Obj)(S:Nat->Nat->Prop):gW w (w.alloc o) S:=
 ⟨rfl,rfl,rfl,sq,fun b hb _=>heap_alloc_old w _ hb,fun b A' t' fz hA=>⟨A',by rw[heap_alloc_old w _ (dH hA)];exact hA,rfl,fun _ _=>rfl⟩⟩
def uX{w w':World}{S:Nat->Nat->Prop}(h:gW w.drew w' S):gW w w' S:=⟨h.os,h.tape,h.output,h.size,h.same,h.part⟩
def IX{w:World}{g:Nat}{G5 cs:Array Value}{t:TypeId}{fz:Nat×Nat}(hg:w.heap[g]? =some (.cells G5 t fz))(hs:cs.size=G5.size){S:Nat->Nat->Prop}(hS:∀ o,S g o):gW w (w.setRow g cs) S:=by
 refine⟨rfl,rfl,rfl,sq,fun k hk hn=>setRow_other w g k _ fun e=>hn 0 (e▸hS 0),fun k A' t' fz' hA=> ?_⟩;by_cases hk:k=g
 ·subst hk;rw[hg]at hA;simp only[Option.some.injEq,Obj.cells.injEq]at hA;obtain⟨rfl,rfl,rfl⟩:=hA;exact⟨cs,setRow_heap w k G5 cs _ _ hg,hs,fun o ho=>absurd (hS o) ho⟩
 ·exact⟨A',by rw[setRow_other w g k _ hk];exact hA,rfl,fun _ _=>rfl⟩
def oZ{P:Program}{w:World}{t ty e:TypeId}{p:Option Addr}{k cap m c sz b:Nat}{xs news:List Value}(ht:P.underlying t=some (.slice e))(hr:rL P e sz=true)(ib:(aG.row (.slice p k cap) e sz k xs).holds w)(hm:0<m)(hl:news.length=m*sz)(SZ:∀ j u,news[j]? =some u->w.cell? ((⟨b,0,none⟩:Addr).add j)=some u)(h1:∀ u∈news,u.oneCell'=true)(hk:k+m<=100000000000):∃ p' cU w',(Builtin.append_ #[t,t] ty #[.slice p k cap,.slice (some ⟨b,0,none⟩) m c]).run P w= .ok (.slice p' (k+m) cU) w'/\(aG.row (.slice p' (k+m) cU) e sz (k+m) (xs++news)).holds w'/\gW w w' (fun b o=>(aG.row (.slice p k cap) e sz k xs).gp b o)/\(∀ b o,(aG.row (.slice p' (k+m) cU) e sz (k+m) (xs++news)).gp b o->(aG.row (.slice p k cap) e sz k xs).gp b o\/w.heap.size<=b):=by
 obtain⟨i,z,hi,hz,pR,hby,W0,Sm⟩:=qD hr;subst pR;have wA:k+m<=maxLen:=by simp only[maxLen];omega
 have hlen:(xs++news).length=(k+m)*i.size:=by rw[List.length_append,ib.1,hl,Nat.add_mul]
 have wB:(k+m)*i.bytes<=140737488355328:=Nat.le_trans (Nat.mul_le_mul hk hby) og;have grown:∀ (G5:Nat),
   (aG.row (.slice (some ⟨w.heap.size,0,none⟩) (k+m) (grownCap w (k+m) G5 e)) e i.size (k+m) (xs++news)).holds (w.drew.alloc (.cells (xs.toArray++news.toArray++Builtin.zeroCells z.cells (grownCap w (k+m) G5 e-(k+m))) e)):=by
  intro G5;have LK:=grownCap_ge w (k+m) G5 e;have PW:grownCap w (k+m) G5 e<=maxLen:=grownCap_le_maxLen w (k+m) G5 e wA;refine⟨hlen,.inr ⟨w.heap.size,_,_,rfl,Nat.zero_le _,heap_alloc_new w.drew _,LK,PW,?_,?_⟩⟩
  ·simp only[Array.size_append,List.size_toArray,size_zeroCells,W0,ib.1,hl,<-Nat.add_mul];congr 1;omega
  ·simp only[Array.toList_append,List.append_assoc];rw[<-List.append_assoc,<-hlen];exact List.take_left
 have aag:∀ (o:Obj) S,gW w (w.drew.alloc o) S:=fun o S=>uX (j8 w.drew o S);have aah:=ib;rcases ib.2 with⟨hv,rfl⟩ | ⟨g,wD,cur,hv,_,hg,hnc,PW,BU,aeE⟩
 ·simp only[Value.slice.injEq]at hv;obtain⟨rfl,_,rfl⟩:=hv;have hx:xs=[]:=List.eq_nil_of_length_eq_zero (by simpa using ib.1);subst hx;have hr:=run_append_nil (P:=P) w t ty e i z ht hi hz ⟨b,0,none⟩ m c news hl SZ hm (by simp only[maxLen]at wA;omega) (by simp only[Nat.zero_add]at wB;omega);have hgr:=grown 0;simp only[Nat.zero_add,List.nil_append,Array.empty_append]at hgr ⊢;exact⟨_,_,_,hr,hgr,aag _ _,fun b' o hb=>.inr (by simp only[aG.gp,Value.ownBlock,Option.some.injEq]at hb;omega)⟩
 ·simp only[Value.slice.injEq,true_and]at hv;obtain⟨rfl,rfl⟩:=hv;by_cases lT:k+m<=cap
  ·have aeF:k*i.size+news.length<=cur.size:=by rw[hl,BU,<-Nat.add_mul];exact Nat.mul_le_mul_right _ lT
   have hr:=run_append_room (P:=P) w t ty e i ht hi g k cap cur hg ⟨b,0,none⟩ m c news hl SZ h1 lT aeF;have aeG:(cur.toList.take (k*i.size)++news++cur.toList.drop (k*i.size+news.length)).toArray.size=cur.size:=by
    simp only[List.size_toArray,List.length_append,List.length_take,List.length_drop,Array.length_toList];omega
   refine⟨_,_,_,hr,⟨hlen,.inr ⟨g,cap,_,rfl,Nat.zero_le _,setRow_heap w g cur _ e _ hg,lT,PW,aeG.trans BU,?_⟩⟩,IX hg aeG fun _=>rfl,fun b' o hb=>.inl hb⟩;rw[aeE,<-hlen];exact List.take_left
  ·have holds:∀ j u,xs[j]? =some u->w.cell? ((⟨g,0,none⟩:Addr).add j)=some u:=World.ownsRow.cells aah (g:=g) rfl;have hr:=run_append_grow (P:=P) w t ty e i z ht hi hz ⟨g,0,none⟩ k cap xs aah.1 holds ⟨b,0,none⟩ m c news hl SZ og (by simp only[maxLen]at wA;omega) (growslice_fits og wB);exact⟨_,_,_,hr,grown cap,aag _ _,fun b' o hb=>.inr (by simp only[aG.gp,Value.ownBlock,Option.some.injEq]at hb;omega)⟩
section
variable {P:Program} {n:Fr} {Q:Exit->Act->World->Prop} {L:PF} {ops:Md} {rest:List Oper} {ty:TypeId} {pos:String} {af:Array Edge} {d:Nat}
variable {W:World} {S:Nat->Nat->Prop} {H H':List aG}
theorem rM{a:Act}(ha:qg n L a):∀ (l:List (Nat×Operand)) (us:List (Nat×Value)),l.mapM (fun x=>(ev L x.2).map fun u=>(x.1,u))=some us->l.map (fun x=>(x.1,a.eval x.2))=us
 | [],us,h=>by simp at h;subst h;rfl
 | x::r,us,h=>by
  simp only[List.mapM_cons,Option.bind_eq_bind]at h;cases he:ev L x.2 with
  | none=>simp[he]at h
  | some u=>
   simp only[he,Option.map_some,Option.bind_some]at h;cases hr:r.mapM (fun x=>(ev L x.2).map fun u=>(x.1,u))with
   | none=>simp[hr]at h
   | some us'=>
    simp[hr]at h;subst h;simp only[List.map_cons];rw[rM ha r us' hr,av ha he]
def XO.buildSlice{t e:TypeId}{parts:Array (Nat×Operand)}{vs:Array (Nat×Value)}{k m:Nat}{A:Array Value}(hp:parts.toList.mapM (fun x=>(ev L x.2).map fun u=>(x.1,u))=some vs.toList)(hb:∀ w,(Instr.buildSlice t k vs).run P w= .ok (.slice (some ⟨w.heap.size,0,none⟩) k k) (w.alloc (.cells A e)))(hA:A.size=m)(hd:Nat.blt d n.sz=true)(h:∀ b,XO P n ops Q rest ((d,.slice (some ⟨b,0,none⟩) k k)::L) (XM W S (.cells b 0 m (cellsOf A)::H))):XO P n ops Q (⟨some d,.buildSlice t k parts,ty,pos,af,none⟩::rest) L (XM W S H):=
 XO.op rfl fun a w ha hw=>by
  have mK:=hw.alloc A e (cellsOf A) fun i hi=>il _ _ hi;rw[hA]at mK;unfold Oper.wp;have hv:parts.map (fun (i,x)=>(i,a.eval x))=vs:=by
   apply Array.toList_inj.1;rw[Array.toList_map];exact rM ha _ _ hp
  have:(execOp a.eval ⟨some d,.buildSlice t k parts,ty,pos,af,none⟩).run P w= .ok (.value (.slice (some ⟨w.heap.size,0,none⟩) k k)) (w.alloc (.cells A e)):=by
   simp only[execOp,hv,Sem.run_bind,hb,Result.andThen_ok,Sem.run_pure]
  rw[this];exact h _ _ _ (ha.put hd _) mK
def XO.append{t e:TypeId}{x y:Operand}{p:Option Addr}{k cap m c sz b N:Nat}{xs:List Value}{C:Nat->Value}(hx:ev L x=some (.slice p k cap))(hy:ev L y=some (.slice (some ⟨b,0,none⟩) m c))(ht:P.underlying t=some (.slice e))(hr:rL P e sz=true)(hH:nr H (.row (.slice p k cap) e sz k xs) H')(hN:lu H (.cells b 0 N C))(Xp:N=m*sz)(h1:(bZ C N).all one=true)(hm:0<m)(hk:k+m<=100000000000)(hd:Nat.blt d n.sz=true)(h:∀ p' cU,XO P n ops Q rest ((d,.slice p' (k+m) cU)::L) (XM W S (.row (.slice p' (k+m) cU) e sz (k+m) (xs++bZ C N)::H'))):XO P n ops Q (⟨some d,.call ⟨.builtin .append,#[x,y],#[t,t]⟩,ty,pos,af,none⟩::rest) L (XM W S H):=
 XO.op rfl fun a w ha hw=>by
  have hc:(aG.cells b 0 N C).holds w:=hw.fa.1 _ hN.mem;have ib:(aG.row (.slice p k cap) e sz k xs).holds w:=hw.fa.1 _ (hH.cb.mem_iff.2 sq);obtain⟨p',cU,w',h3,h4,h5,h6⟩:=oZ (ty:=ty) (c:=c) (b:=b) (news:=bZ C N) ht hr ib hm (by simp[bZ,Xp]) (fun j u hj=>by
    simp only[bZ,List.getElem?_map,Option.map_eq_some_iff]at hj
    obtain⟨j',hj1,rfl⟩:=hj
    have IY:j<N:=by
     have:=(List.getElem?_eq_some_iff.1 hj1).1
     simpa using this
    have hj3:j'=j:=by
     have:=(List.getElem?_eq_some_iff.1 hj1).2
     simpa using this.symm
    subst hj3
    have hcc:=ef hc IY
    have e0:(⟨b,0,none⟩:Addr).add j'=⟨b,0+j',none⟩:=by
     cases j'<;>simp[Addr.add]
    rw[e0];exact hcc) (fun u hu=>oY (List.all_eq_true.1 h1 u hu)) hk
  have wE:=hw.cm hH rfl h6 h5 h4;unfold Oper.wp;have:(execOp a.eval ⟨some d,.call ⟨.builtin .append,#[x,y],#[t,t]⟩,ty,pos,af,none⟩).run P w= .ok (.value (.slice p' (k+m) cU)) w':=by
   simp[execOp,resolve,invoke,builtin,av ha hx,av ha hy,h3]
  rw[this];exact h _ _ _ _ (ha.put hd _) wE
def nt{t e:TypeId}{parts:Array (Nat×Operand)}{vs:Array (Nat×Value)}{k sz:Nat}{A:Array Value}(hp:parts.toList.mapM (fun x=>(ev L x.2).map fun u=>(x.1,u))=some vs.toList)(hb:∀ w,(Instr.buildSlice t k vs).run P w= .ok (.slice (some ⟨w.heap.size,0,none⟩) k k) (w.alloc (.cells A e)))(hA:A.size=k*sz)(hk:k<=1000000)(hd:Nat.blt d n.sz=true)(h:∀ b,XO P n ops Q rest ((d,.slice (some ⟨b,0,none⟩) k k)::L) (XM W S (.row (.slice (some ⟨b,0,none⟩) k k) e sz k A.toList::H))):XO P n ops Q (⟨some d,.buildSlice t k parts,ty,pos,af,none⟩::rest) L (XM W S H):=
 XO.op rfl fun a w ha hw=>by
  have mK:XM W S (.row (.slice (some ⟨w.heap.size,0,none⟩) k k) e sz k A.toList::H) (w.alloc (.cells A e)):=by
   refine hw.fresh (fun b o hb=>by simp only[aG.gp,Value.ownBlock,Option.some.injEq]at hb;omega) (j8 w _ _) ⟨by simp[hA],.inr ⟨w.heap.size,k,A,rfl,Nat.zero_le _,heap_alloc_new w _,Nat.le_refl _,by simp only[maxLen];omega,hA,?_⟩⟩;rw[<-hA,<-Array.length_toList,List.take_length]
  unfold Oper.wp;have hv:parts.map (fun (i,x)=>(i,a.eval x))=vs:=by
   apply Array.toList_inj.1;rw[Array.toList_map];exact rM ha _ _ hp
  have:(execOp a.eval ⟨some d,.buildSlice t k parts,ty,pos,af,none⟩).run P w= .ok (.value (.slice (some ⟨w.heap.size,0,none⟩) k k)) (w.alloc (.cells A e)):=by
   simp only[execOp,hv,Sem.run_bind,hb,Result.andThen_ok,Sem.run_pure]
  rw[this];exact h _ _ _ (ha.put hd _) mK
def cell_of_row{w:World}{g k cap sz j:Nat}{e:TypeId}{xs:List Value}(h:(aG.row (.slice (some ⟨g,0,none⟩) k cap) e sz k xs).holds w)(hj:xs[j]? =some v):w.cell? ⟨g,0+j,none⟩=some v:=by
 have:=World.ownsRow.cells h (g:=g) rfl j v hj;have e0:(⟨g,0,none⟩:Addr).add j=⟨g,0+j,none⟩:=by cases j<;>simp[Addr.add]
 rw[e0]at this;exact this
def zx{t:TypeId}{g i k cap sz:Nat}{e:TypeId}{xs:List Value}{φ:World->Prop}{gd:Option (Nat×Bool)}(hx:ev L x=some (ay g 0 i))(hH:∀ w,φ w->(aG.row (.slice (some ⟨g,0,none⟩) k cap) e sz k xs).holds w)(hv:xs[i]? =some v)(ht:jU P t=true):bd P n L φ (⟨some d,.load t x,ty,pos,af,gd⟩) v:=fun a w ha hw=>by
 have hc:w.cell? ⟨g,i,none⟩=some v:=by
  have:=cell_of_row (hH w hw) hv;rwa[Nat.zero_add]at this
 simp[execOp,av ha hx,Instr.loadAt,Instr.sureAddr,ay,gD ht hc]
end
def fS(zs:List Int):List Value:=zs.map (Value.int .i64)
def gh(zs:List Int)(z:Int):Int:=zs.getD z.toNat 0
def ints_at{zs:List Int}(h:0<=z/\z<zs.length:=by omega):(fS zs)[0+z.toNat*1]? =some (.int .i64 (gh zs z)):=by
 have h2:z.toNat<zs.length:=og;simp[fS,gh,List.getD,h2]
abbrev dy(p:Option Addr)(cap:Nat)(e:TypeId)(zs:List Int):aG:=.row (.slice p zs.length cap) e 1 zs.length (fS zs)
def IZ(zs:List Int)(z:Int):fS zs++[.int .i64 z]=fS (zs++[z]):=by simp[fS]
section
variable {P:Program} {n:Fr} {Q:Exit->Act->World->Prop} {L:PF} {ops:Md} {rest:List Oper} {ty:TypeId} {pos:String} {af:Array Edge} {d:Nat}
variable {W:World} {S:Nat->Nat->Prop} {H H':List aG}
def lB{t e:TypeId}{p:Option Addr}{cap c b:Nat}{zs:List Int}(hx:ev L x=some (.slice p zs.length cap))(hy:ev L y=some (.slice (some ⟨b,0,none⟩) 1 c))(ht:P.underlying t=some (.slice e))(hr:rL P e 1=true)(hH:nr H (dy p cap e zs) H')(hN:lu H (.cells b 0 1 (cellsOf #[.int .i64 z])))(hk:zs.length+1<=100000000000)(hd:Nat.blt d n.sz=true)(h:∀ p' cU,XO P n ops Q rest ((d,.slice p' (zs++[z]).length cU)::L) (XM W S (dy p' cU e (zs++[z])::H'))):XO P n ops Q (⟨some d,.call ⟨.builtin .append,#[x,y],#[t,t]⟩,ty,pos,af,none⟩::rest) L (XM W S H):=
 XO.append hx hy ht hr hH hN rfl rfl og hk hd (fun p' cU=>by
  have e1:zs.length+1=(zs++[z]).length:=sq
  have e2:fS zs++bZ (cellsOf #[.int .i64 z]) 1=fS (zs++[z]):=IZ zs z
  rw[e1,e2]
  exact h p' cU)
def Xq{k:Nat}{ps:List Nat}{cs:List (Nat×Nat)}{fn:Func}{R:Ending->World->Prop}{a b o i m sz:Nat}{t:TypeId}{C:Nat->Value}(hr:fn.results= #[.cell a t])(hv:lk L a=some (ay b o i))(hH:lu H (.cells b o m C))(hC:i+sz<=m/\dv C i sz=v)(ht:nT P t=true)(hs:fp P t=some sz)(h:∀ w,XM W S H w->R (.returned v) w):XE (fr k ps cs) (bodyPost P fn R) .ret L (XM W S H):=fun x w ha hw=>
 ⟨ha.1,v,by
  have hc:(aG.cells b o m C).holds w:=hw.fa.1 _ hH.mem
  have hl:=jy (P:=P) (w:=w) (b:=b) (o:=o) (i:=i) (C:=C) ht hs fun l hl=>ef hc
  rw[hC.2]at hl
  have he:x.tmps.getD a undef= .pointer (some ⟨b,o+i,none⟩):=ha.2.2 a _ hv
  have he2:x.tmps[a]?.getD undef= .pointer (some ⟨b,o+i,none⟩):=by simpa using he
  simp[results,hr,he2,asAddr,hl],h w hw⟩
def wF(f:Int->Int)(m:Nat):Array Value:=((List.range m).map fun (j:Nat)=>Value.int .i64 (f (j:Int))).toArray
def lJ{t e:TypeId}{f:Int->Int}{m:Nat}{k:IntKind}{φ:World->Prop}{gd:Option (Nat×Bool)}(hx:ev L x=some (.agg (wF f m)))(hy:ev L y=some (.int k z))(ht:P.underlying t=some (.array m e))(hs:fp P e=some 1)(he:jU P e=true)(hz:0<=z/\z<m:=by omega):bd P n L φ ⟨some d,.index t x y,ty,pos,af,gd⟩ (.int .i64 (f z)):=fun a w ha _=>by
 have h2:z.toNat<m:=og;have h3:((z.toNat:Nat):Int)=z:=og;have hp:(part e (wF f m) (z.toNat*1)).run P w= .ok (.int .i64 (f z)) w:=by
  simp[part,j7 he,wF,h2,h3]
 simp only[execOp,av ha hx,av ha hy,Instr.index,asIntOf,Sem.run_bind,Sem.run_pure,Result.andThen_ok,run_underlying ht,hz,run_sizeOf hs];simp only[Sem.run_bind,run_sizeOf hs,Result.andThen_ok,hp,true_and,and_self,if_true]
def wG{t e:TypeId}{A:Array Value}{m:Nat}{k:IntKind}{φ:World->Prop}{gd:Option (Nat×Bool)}(hx:ev L x=some (.agg A))(hy:ev L y=some (.int k z))(ht:P.underlying t=some (.array m e))(hs:fp P e=some 1)(he:jU P e=true)(hz:0<=z/\z<m)(hv:A[z.toNat]? =some v):bd P n L φ ⟨some d,.index t x y,ty,pos,af,gd⟩ v:=fun a w ha _=>by
 have hp:(part e A (z.toNat*1)).run P w= .ok v w:=by
  simp[part,j7 he,hv]
 simp only[execOp,av ha hx,av ha hy,Instr.index,asIntOf,Sem.run_bind,Sem.run_pure,Result.andThen_ok,run_underlying ht,hz,run_sizeOf hs];simp only[Sem.run_bind,run_sizeOf hs,Result.andThen_ok,hp,true_and,and_self,if_true]
end
def encI(f:Int->Int)(m:Nat):Nat->Value:=fun i=>if i<m then .int .i64 (f i)else undef
def PX(f:Int->Bool)(m:Nat):Array Value:=((List.range m).map fun (j:Nat)=>Value.bool (f (j:Int))).toArray
def encI.ld(f:Int->Int)(m:Nat)(z:Int)(h:0<=z/\z<m):0+z.toNat*1<m/\encI f m (0+z.toNat*1)= .int .i64 (f z):=by
 have h1:0+z.toNat*1<m:=og;refine⟨h1,?_⟩;unfold encI;rw[if_pos h1,show((0+z.toNat*1:Nat):Int)=z from og]
theorem encI.st(f:Int->Int)(m:Nat)(z v:Int)(h:0<=z/\z<m):0+z.toNat*1<m/\dP (encI f m) (0+z.toNat*1) (.int .i64 v)=encI (ad f z v) m:=by
 have h1:0+z.toNat*1<m:=og;refine⟨h1,?_⟩;funext i;unfold dP encI ad;by_cases h2:i=0+z.toNat*1
 ·have h3:(i:Int)=z:=og;have h4:i<m:=og;simp only[if_pos h2,if_pos h3,if_pos h4]
 ·have h3:i<m->¬(i:Int)=z:=og;simp only[if_neg h2];by_cases h4:i<m
  ·simp only[if_pos h4,if_neg (h3 h4)]
  ·simp only[if_neg h4]
def Fv(f:Int->Int)(m:Nat):(wF f m).size=m:=by simp[wF]
theorem encI.box(f:Int->Int)(m:Nat):∀ i,i<m->cellsOf (wF f m) i=encI f m i:=fun i hi=>by simp[cellsOf,wF,encI,hi]
end Go.X

namespace Go.X
open Go
variable{x y:Operand}{p:Option Addr}{v:Value}
abbrev aL(p:Option Addr)(cap:Nat)(e:TypeId)(sz k:Nat)(C:Nat->Value):aG:=.row (.slice p k cap) e sz k (bZ C (k*sz))
theorem ej{C:Nat->Value}{m i:Nat}(h:i<m:=by omega):(bZ C m)[i]? =some (C i):=by simp[bZ,h]
theorem aU(C:Nat->Value)(m:Nat):(bZ C m).length=m:=by simp[bZ]
theorem LL(C:Nat->Value)(m i:Nat)(v:Value):(bZ C m).set i v=bZ (dP C i v) m:=by
 apply List.ext_getElem?;intro j;by_cases hj:j<m
 ·rw[ej hj,List.getElem?_set,aU];by_cases h:i=j
  ·subst h;simp[dP,hj]
  ·have h2:¬j=i:=fun e=>h e.symm;rw[if_neg h,ej hj];simp[dP,h2]
 ·rw[List.getElem?_eq_none (by simp[aU];omega),List.getElem?_eq_none (by simp[aU];omega)]
theorem zy{w:World}{g cap sz k i:Nat}{e:TypeId}{C:Nat->Value}(h:(aL (some ⟨g,0,none⟩) cap e sz k C).holds w)(hi:i<k*sz:=by omega):w.cell? ⟨g,i,none⟩=some (C i):=by
 have:=cell_of_row h (ej hi);rwa[Nat.zero_add]at this
def oJ{w:World}{g cap sz k:Nat}{e:TypeId}{xs:List Value}(h:(aG.row (.slice (some ⟨g,0,none⟩) k cap) e sz k xs).holds w):∃ cur,w.heap[g]? =some (.cells cur e (0,0))/\k<=cap/\cap<=maxLen/\cur.size=cap*sz/\cur.toList.take (k*sz)=xs:=by
 rcases h.2 with⟨hv,_⟩ | ⟨g',cU,cur,hv,_,h1,h2,h3,h4,h5⟩
 ·cases hv
 ·simp only[Value.slice.injEq,Option.some.injEq,Addr.mk.injEq,and_true,true_and]at hv;obtain⟨rfl,rfl⟩:=hv;exact⟨cur,h1,h2,h3,h4,h5⟩
def XM.NT{W w:World}{S:Nat->Nat->Prop}{H H':List aG}{g cap sz k i:Nat}{e:TypeId}{C:Nat->Value}(h:XM W S H w)(hd:nr H (aL (some ⟨g,0,none⟩) cap e sz k C) H')(hi:i<k*sz)(v:Value):XM W S (aL (some ⟨g,0,none⟩) cap e sz k (dP C i v)::H') (w.setCell ⟨g,i,none⟩ v):=by
 have hh:(aL (some ⟨g,0,none⟩) cap e sz k C).holds w:=h.fa.1 _ (hd.cb.mem_iff.2 sq);obtain⟨cur,h1,h2,h3,h4,h5⟩:=oJ hh;have hS:(aL (some ⟨g,0,none⟩) cap e sz k C).gp g (0+i):=rfl;have hk:gW w (w.setCell ⟨g,i,none⟩ v) (fun b o=>(aL (some ⟨g,0,none⟩) cap e sz k C).gp b o):=by
  have:=gW.setCell h1 v hS;rwa[Nat.zero_add]at this
 refine h.cm (e':=aL (some ⟨g,0,none⟩) cap e sz k (dP C i v)) hd rfl (fun b' o' ha=>.inl ha) hk ?_;refine⟨by rw[aU],.inr ⟨g,cap,cur.setIfInBounds i v,rfl,Nat.zero_le _,by simp[World.setCell,Array.getElem?_modify,h1],h2,h3,by simpa using h4,?_⟩⟩;rw[Array.toList_setIfInBounds,List.take_set,h5,LL]
section
variable {P:Program} {n:Fr} {Q:Exit->Act->World->Prop} {L:PF} {ops:Md} {rest:List Oper} {ty:TypeId} {pos:String} {af:Array Edge} {d:Nat}
variable {W:World} {S:Nat->Nat->Prop} {H H':List aG}
def tF{w:World}{g cap sz k i:Nat}{e:TypeId}{C:Nat->Value}(h:(aL (some ⟨g,0,none⟩) cap e sz k C).holds w)(hi:i<k*sz)(hv:one v=true):(store ⟨g,i,none⟩ v).run P w= .ok () (w.setCell ⟨g,i,none⟩ v):=by
 rw[run_store P w _ v .plain (oY hv),zy h hi];obtain⟨cur,h1,h2,h3,h4,h5⟩:=oJ h;have:w.frozen? ⟨g,i,none⟩=false:=by
  simp only[World.frozen?,h1];simp
 simp[this]
def vR{g cap sz k:Nat}{e:TypeId} :∀ (vs:List Value) (i j:Nat) (C:Nat->Value) (w:World),XM W S (aL (some ⟨g,0,none⟩) cap e sz k C::H) w->i+j+vs.length<=k*sz->vs.all one=true->
  ∃ w',(storeCells ⟨g,i,none⟩ vs j).run P w= .ok () w'/\XM W S (aL (some ⟨g,0,none⟩) cap e sz k (cD C (i+j) vs)::H) w'
 | [],i,j,C,w,h,_,_=>⟨w,by simp[storeCells],h⟩
 | v::r,i,j,C,w,h,hl,h1=>by
  simp only[List.all_cons,Bool.and_eq_true]at h1;simp only[List.length_cons]at hl;have h2:=h.NT .aa (i:=i+j) og v;obtain⟨w',hr,hx⟩:=vR r i (j+1) _ _ h2 og h1.2;refine⟨w',?_,by simpa only[cD,Nat.add_assoc]using hx⟩;simp only[storeCells,Sem.run_bind,oX];rw[show(⟨g,i,none⟩:Addr).add j=⟨g,i+j,none⟩from by
   have:=oX g 0 i j
   simpa only[Nat.zero_add]using this,tF (show(aL (some ⟨g,0,none⟩) cap e sz k C).holds w from h.fa.1 _ sq) og h1.1]
  exact hr
def Cu{t:TypeId}{g cap sz k i m:Nat}{e:TypeId}{C:Nat->Value}{cs:Array Value}{a:Act}{w:World}(ha:qg n L a)(hx:ev L x=some (ay g 0 i))(hy:ev L y=some (.agg cs))(hw:XM W S (aL (some ⟨g,0,none⟩) cap e sz k C::H) w)(hi:i+m<=k*sz)(hv:cs.toList.all one=true/\cs.size=m)(hs:fp P t=some m):∃ w',(execOp a.eval ⟨none,.store t x y,ty,pos,af,none⟩).run P w= .ok .skip w'/\XM W S (aL (some ⟨g,0,none⟩) cap e sz k (cD C i cs.toList)::H) w':=by
 obtain⟨w',hr,mK⟩:=vR (P:=P) cs.toList i 0 C w hw eW hv.1;simp only[Nat.add_zero]at mK;exact⟨w',by simp[execOp,av ha hx,av ha hy,Instr.storeAt,Instr.sureAddr,ay,storeVar,Value.cells,run_sizeOf hs,hv.2,hr],mK⟩
def XO.Xr{t:TypeId}{g cap sz k i m:Nat}{e:TypeId}{C C':Nat->Value}{cs:Array Value}(hx:ev L x=some (ay g 0 i))(hy:ev L y=some (.agg cs))(hH:ou H (aL (some ⟨g,0,none⟩) cap e sz k C) (aL (some ⟨g,0,none⟩) cap e sz k C') H')(hi:i+m<=k*sz/\cD C i cs.toList=C')(hv:cs.toList.all one=true/\cs.size=m)(hs:fp P t=some m)(h:XO P n ops Q rest L (XM W S H')):XO P n ops Q (⟨none,.store t x y,ty,pos,af,none⟩::rest) L (XM W S H):=
 XO.op rfl fun a w ha hw=>by
  obtain⟨H1,hd,hp⟩:=hH.del;obtain⟨w',hr,mK⟩:=Cu (ty:=ty) (pos:=pos) (af:=af) ha hx hy (hw.cb hd.cb) hi.1 hv hs;rw[hi.2]at mK;unfold Oper.wp;rw[hr];exact h _ _ ha (mK.cb hp)
def Xs{t:TypeId}{g i k cap sz:Nat}{e:TypeId}{C:Nat->Value}{φ:World->Prop}{gd:Option (Nat×Bool)}(hx:ev L x=some (ay g 0 i))(hH:∀ w,φ w->(aL (some ⟨g,0,none⟩) cap e sz k C).holds w)(hv:i<k*sz/\C i=v)(ht:jU P t=true):
  bd P n L φ (⟨some d,.load t x,ty,pos,af,gd⟩) v:=zx hx hH (by rw[ej hv.1,hv.2]) ht
def S7{t:TypeId}{g i k cap sz m:Nat}{e:TypeId}{C:Nat->Value}{φ:World->Prop}{gd:Option (Nat×Bool)}(hx:ev L x=some (ay g 0 i))(hH:∀ w,φ w->(aL (some ⟨g,0,none⟩) cap e sz k C).holds w)(hv:i+m<=k*sz/\dv C i m=v)(ht:nT P t=true)(hs:fp P t=some m):bd P n L φ (⟨some d,.load t x,ty,pos,af,gd⟩) v:=fun a w ha hw=>by
 have hr:=jy (P:=P) (w:=w) (b:=g) (o:=0) (i:=i) (C:=C) ht hs (fun l hl=>by
  have:=zy (hH w hw) (i:=i+l)
  rwa[Nat.zero_add])
 rw[hv.2]at hr;simp only[Nat.zero_add]at hr;simp[execOp,av ha hx,Instr.loadAt,Instr.sureAddr,ay,hr]
def XO.S8{t e0:TypeId}{k k2 cap sz:Nat}{kk:IntKind}{z:Int}{e:TypeId}{C C':Nat->Value}(hx:ev L x=some (.slice p k cap))(hy:ev L y=some (.int kk z))(ht:P.underlying t=some (.slice e0))(hs:fp P e0=some sz)(hz:z=(k2:Int))(BV:k2<=k)(hk:k<=cap)(hC:∀ i,i<k2*sz->C' i=C i)(hH:ou H (aL p cap e sz k C) (aL p cap e sz k2 C') H')(hd:Nat.blt d n.sz=true)(h:XO P n ops Q rest ((d,.slice p k2 cap)::L) (XM W S H')):XO P n ops Q (⟨some d,.slice t x none (some y) none,ty,pos,af,none⟩::rest) L (XM W S H):=
 XO.mono (M':=XM W S H') (fun w hw=>by
  obtain⟨H1,aeH,hp⟩:=hH.del
  have ib:(aL p cap e sz k C).holds w:=hw.fa.1 _ (aeH.cb.mem_iff.2 sq)
  have ag5:(aL p cap e sz k2 C').holds w:=by
   refine⟨by rw[aU],?_⟩
   rcases ib.2 with⟨hv,hk0⟩ | ⟨g,cU,cur,hv,h0,h1,h2,h3,h4,h5⟩
   ·simp only[Value.slice.injEq]at hv
    obtain⟨rfl,rfl,rfl⟩:=hv
    have:k2=0:=og
    subst this;exact .inl ⟨rfl,rfl⟩
   ·simp only[Value.slice.injEq,true_and]at hv
    obtain⟨rfl,rfl⟩:=hv
    refine .inr ⟨g,cap,cur,rfl,h0,h1,og,h3,h4,?_⟩
    have hle:k2*sz<=k*sz:=Nat.mul_le_mul_right _ BV
    have:=congrArg (List.take (k2*sz)) h5
    rw[List.take_take,Nat.min_eq_left hle]at this
    rw[this]
    apply List.ext_getElem?
    intro j
    by_cases hj:j<k2*sz
    ·rw[List.getElem?_take_of_lt hj,ej,ej hj,hC j hj]
    ·rw[List.getElem?_eq_none (by rw[List.length_take,aU];exact Nat.le_trans (Nat.min_le_left _ _) og),List.getElem?_eq_none (by rw[aU];omega)]
  have wE:=hw.cm (e':=aL p cap e sz k2 C') aeH rfl (fun b o hb=>.inl (by cases p<;>exact hb)) (gW.refl _ _) ag5
  exact wE.cb hp) (XO.v (fun a w ha _=>by
  subst hz
  have hzc:(k2:Int)<=(cap:Int):=og
  have:(execOp a.eval ⟨some d,.slice t x none (some y) none,ty,pos,af,none⟩).run P w= .ok (.value (.slice p k2 cap)) w:=by
   have IC:(if cap=0 then p else p.map fun x=>x.add (0*sz))=p:=by
    split
    ·rfl
    ·cases p with
     | none=>rfl
     | some a=>simp[Addr.add]
   have hk3:k2<=cap:=og
   simp[execOp,av ha hx,av ha hy,Instr.sliceAt,run_underlying ht,Instr.slice,Instr.sliceBounds,Instr.sliceBound,asIntOf,hk3,run_sizeOf hs]
   simpa using IC
  exact this) (by simp[hd,cC]) h)
def Cv{w:World}{k cap sz:Nat}{e:TypeId}{xs:List Value}(h:(aG.row (.slice p k cap) e sz k xs).holds w):k<=cap:=by
 rcases h.2 with⟨hv,h0⟩ | ⟨g,cU,cur,hv,_,_,h2,_⟩
 ·omega
 ·simp only[Value.slice.injEq,true_and]at hv;omega
def wH{t e:TypeId}{k cap m c sz b N:Nat}{C C1 C2:Nat->Value}(hx:ev L x=some (.slice p k cap))(hy:ev L y=some (.slice (some ⟨b,0,none⟩) m c))(ht:P.underlying t=some (.slice e))(hr:rL P e sz=true)(hH:nr H (aL p cap e sz k C) H')(hN:lu H (.cells b 0 N C1))(Xp:N=m*sz)(h1:(bZ C1 N).all one=true)(hm:0<m)(hk:k+m<=100000000000)(hC:∀ i,i<(k+m)*sz->C2 i=if i<k*sz then C i else C1 (i-k*sz))(hd:Nat.blt d n.sz=true)(h:∀ p' cU,XO P n ops Q rest ((d,.slice p' (k+m) cU)::L) (XM W S (aL p' cU e sz (k+m) C2::H'))):XO P n ops Q (⟨some d,.call ⟨.builtin .append,#[x,y],#[t,t]⟩,ty,pos,af,none⟩::rest) L (XM W S H):=
 XO.append hx hy ht hr hH hN Xp h1 hm hk hd (fun p' cU=>by
  have e2:bZ C (k*sz)++bZ C1 N=bZ C2 ((k+m)*sz):=by
   apply List.ext_getElem?
   intro j
   have hl:(k+m)*sz=k*sz+N:=by rw[Xp,Nat.add_mul]
   by_cases hj:j<k*sz
   ·rw[List.getElem?_append_left (by rw[aU];exact hj),ej hj,ej,hC j og,if_pos hj]
   ·by_cases IY:j<(k+m)*sz
    ·rw[List.getElem?_append_right (by rw[aU];omega),aU,ej,ej IY,hC j IY,if_neg hj]
    ·rw[List.getElem?_eq_none (by simp[aU];omega),List.getElem?_eq_none (by simp[aU];omega)]
  rw[e2]
  exact h p' cU)
end
end Go.X

namespace Go.X
open Go
variable{op:BinOp}{k:IntKind}{x y:Operand}
def I0{x t:Nat}(ht:x.testBit t=true)(hl:∀ j,j<t->x.testBit j=false):x%2^(t+1)=2^t:=by
 apply Nat.eq_of_testBit_eq;intro i;rw[Nat.testBit_mod_two_pow,Nat.testBit_two_pow];by_cases h:i=t
 ·subst h;simp[ht]
 ·by_cases h2:i<t
  ·simp[hl i h2];omega
  ·have:¬i<t+1:=og;simp[this];omega
def Cw{x:Nat}(hx:x≠0):∃ t,x.testBit t=true/\∀ j,j<t->x.testBit j=false:=by
 obtain⟨i,hi⟩:=Nat.exists_testBit_of_ne_zero hx;obtain⟨t,h1,h2⟩:=exists_least (p:=fun i=>x.testBit i=true) ⟨i,hi⟩;refine⟨t,h1,fun j hj=> ?_⟩;cases hb:x.testBit j with
 | false=>rfl
 | true=>have:=h2 j hb;omega
theorem PY{x t:Nat}(ht:x.testBit t=true)(hl:∀ j,j<t->x.testBit j=false)(j:Nat):(x&&&(x-1)).testBit j=(x.testBit j&& !decide (j=t)):=by
 have hm:=I0 ht hl;have hd:=Nat.div_add_mod x (2^(t+1));rw[hm]at hd;have hp:0<2^t:=Nat.two_pow_pos t;have ID:x-1=2^(t+1)*(x/2^(t+1))+(2^t-1):=og;have rH:2^t<2^(t+1):=Nat.pow_lt_pow_right og og;rw[Nat.testBit_and];by_cases h1:j<t
 ·simp[hl j h1]
 ·by_cases h2:j=t
  ·subst h2;rw[ID,Nat.testBit_two_pow_mul_add _ og];simp
  ·have h3:¬j<t+1:=og;have e1:(x-1).testBit j=x.testBit j:=by
    rw[ID,Nat.testBit_two_pow_mul_add _ og];conv=>rhs;rw[<-hd,Nat.testBit_two_pow_mul_add _ rH]
    simp[h3]
   rw[e1];simp[h2]
def NU{x t w:Nat}(ht:x.testBit t=true)(hl:∀ j,j<t->x.testBit j=false)(hx:x<2^w)(hw:t<w):x&&&(2^w-x)=2^t:=by
 have hm:=I0 ht hl;have hd:=Nat.div_add_mod x (2^(t+1));rw[hm]at hd;have hp:0<2^t:=Nat.two_pow_pos t;have rH:2^t<2^(t+1):=Nat.pow_lt_pow_right og og;have ai8:2^(t+1)=2*2^t:=by rw[Nat.pow_succ];omega
 have mw:2^w=2^(t+1)*2^(w-(t+1)):=by rw[<-Nat.pow_add];congr 1;omega
 have hq:x/2^(t+1)<2^(w-(t+1)):=by
  rw[Nat.div_lt_iff_lt_mul (Nat.two_pow_pos _),Nat.mul_comm,<-mw];exact hx
 have ID:2^w-x=2^(t+1)*(2^(w-(t+1))-(x/2^(t+1)+1))+2^t:=by
  have e:2^(t+1)*(2^(w-(t+1))-(x/2^(t+1)+1))=2^w-(2^(t+1)*(x/2^(t+1))+2^(t+1)):=by
   rw[Nat.mul_sub,<-mw,Nat.mul_add,Nat.mul_one]
  have hle:2^(t+1)*(x/2^(t+1))+2^(t+1)<=2^w:=by
   rw[mw,<-Nat.mul_succ];exact Nat.mul_le_mul_left _ hq
  omega
 apply Nat.eq_of_testBit_eq;intro j;rw[Nat.testBit_and,ID,Nat.testBit_two_pow_mul_add _ rH,Nat.testBit_two_pow];by_cases h1:j<t+1
 ·rw[if_pos h1];by_cases h2:t=j
  ·subst h2;simp[ht]
  ·simp[h2]
 ·rw[if_neg h1,Nat.testBit_two_pow_sub_succ hq];have e1:x.testBit j=(x/2^(t+1)).testBit (j-(t+1)):=by
   conv=>lhs;rw[<-hd,Nat.testBit_two_pow_mul_add _ rH]
   simp[h1]
  rw[e1];have:¬t=j:=og;simp[this];try exact fun h _=>h
def lU(a b:Nat):Nat:=a&&&(a^^^b)
theorem qj(a b j:Nat):(lU a b).testBit j=(a.testBit j&& !b.testBit j):=by
 simp only[lU,Nat.testBit_and,Nat.testBit_xor];cases a.testBit j<;>cases b.testBit j<;>rfl
theorem S9(a b:Nat):lU a b<=a:=Nat.and_le_left
def NW:IntKind->Bool
 | .u8 | .u16 | .u32 | .u64=>true
 | _=>false
def I1(hk:NW k=true){a:Nat}(h:a<2^k.bits):k.wrap (a:Int)=a:=by
 have hs:k.signed=false:=by cases k<;>simp_all[NW,IntKind.signed]
 have:((a:Int)%(2^k.bits:Int))=a:=Int.emod_eq_of_lt og (by exact_mod_cast h);simp[IntKind.wrap,hs,this]
section
variable {P:Program} {n:Fr} {L:PF} {ty:TypeId} {pos:String} {af:Array Edge} {d:Nat} {φ:World->Prop} {gd:Option (Nat×Bool)}
def Ta{w:World}{a b r:Nat}(hk:NW k=true)(ha:a<2^k.bits)(hb:b<2^k.bits)(hr:(match op with | .and=>some (a&&&b) | .or=>some (a|||b) | .xor=>some (a^^^b) | .andNot=>some (lU a b) | _=>none)=some r):(Op.intBits op k (a:Int) (b:Int)).run P w= .ok (.int k r) w:=by
 have e1:(BitVec.ofInt k.bits (a:Int))=BitVec.ofNat k.bits a:=BitVec.ofInt_natCast _ _;have e2:(BitVec.ofInt k.bits (b:Int))=BitVec.ofNat k.bits b:=BitVec.ofInt_natCast _ _;have n1:(BitVec.ofNat k.bits a).toNat=a:=by simp[Nat.mod_eq_of_lt ha]
 have n2:(BitVec.ofNat k.bits b).toNat=b:=by simp[Nat.mod_eq_of_lt hb]
 have ig:∀ (v:BitVec k.bits),k.wrap (v.toNat:Int)=v.toNat:=fun v=>I1 hk v.isLt;cases op<;>simp only[Option.some.injEq]at hr<;>(try cases hr)<;>
  simp only[Op.intBits,e1,e2,Sem.run_pure,ig]
 ·rw[BitVec.toNat_and,n1,n2]
 ·rw[BitVec.toNat_or,n1,n2]
 ·rw[BitVec.toNat_xor,n1,n2]
 ·have:(BitVec.ofNat k.bits a&&& ~~~BitVec.ofNat k.bits b).toNat=lU a b:=by
   apply Nat.eq_of_testBit_eq;intro j;rw[qj,BitVec.testBit_toNat,BitVec.getLsbD_and,BitVec.getLsbD_not,BitVec.getLsbD_ofNat,BitVec.getLsbD_ofNat];by_cases hj:j<k.bits
   ·simp[hj]
   ·have:a.testBit j=false:=Nat.testBit_lt_two_pow (Nat.lt_of_lt_of_le ha (Nat.pow_le_pow_right og og));simp[hj,this]
  rw[this]
theorem V.bits{t t':TypeId}{a b r:Nat}(hx:ev L x=some (.int k a))(hy:ev L y=some (.int k b))(hk:NW k=true)(ha:a<2^k.bits)(hb:b<2^k.bits)(hr:(match op with | .and=>some (a&&&b) | .or=>some (a|||b) | .xor=>some (a^^^b) | .andNot=>some (lU a b) | _=>none)=some r):bd P n L φ ⟨some d,.binOp op t x y t',ty,pos,af,gd⟩ (.int k r):=
 qB hx hy (fun w A hx hy=>by
  have he:=Ta (P:=P) (w:=w) hk ha hb hr
  cases op<;>simp only[Option.some.injEq]at hr<;>(try cases hr)<;>
   simp[execOp,eqGuard,hx,hy,binOp,he])
def V.shl{t t':TypeId}{x y:Operand}{k k':IntKind}{a z:Int}(hx:ev L x=some (.int k a))(hy:ev L y=some (.int k' z))(hz:0<=z)(r:Int)(hr:k.wrap (a*2^(min z.toNat k.bits))=r):bd P n L φ ⟨some d,.binOp .shl t x y t',ty,pos,af,gd⟩ (.int k r):=
 qB hx hy (fun w A hx hy=>by
  have h:¬z<0:=og
  simp[execOp,eqGuard,hx,hy,binOp,Op.shift,h,hr])
def V.shr{t t':TypeId}{x y:Operand}{k k':IntKind}{a z:Int}(hx:ev L x=some (.int k a))(hy:ev L y=some (.int k' z))(hz:0<=z)(r:Int)(hr:a.fdiv (2^(min z.toNat k.bits))=r):bd P n L φ ⟨some d,.binOp .shr t x y t',ty,pos,af,gd⟩ (.int k r):=
 qB hx hy (fun w A hx hy=>by
  have h:¬z<0:=og
  simp[execOp,eqGuard,hx,hy,binOp,Op.shift,h,hr])
def Fw{t:TypeId}{g m sz:Nat}{z:Int}(hx:ev L x=some (.pointer (some ⟨g,0,none⟩)))(hy:ev L y=some (.int k z))(ht:vP P t=some (m,sz))(hz:0<=z/\z<m):bd P n L φ (⟨some d,.indexAddr t x y,ty,pos,af,gd⟩) (ay g 0 (0+z.toNat*sz)):=
 jh (b:=g) (o:=0) (i:=0) hx hy ht hz
def PZ{w:World}{a b r:Nat}(hw:k.wrap (r:Int)=r)(ha:a<2^k.bits)(hb:b<2^k.bits)(hr:(match op with | .and=>some (a&&&b) | .or=>some (a|||b) | .xor=>some (a^^^b) | .andNot=>some (lU a b) | _=>none)=some r):(Op.intBits op k (a:Int) (b:Int)).run P w= .ok (.int k r) w:=by
 have e1:(BitVec.ofInt k.bits (a:Int))=BitVec.ofNat k.bits a:=BitVec.ofInt_natCast _ _;have e2:(BitVec.ofInt k.bits (b:Int))=BitVec.ofNat k.bits b:=BitVec.ofInt_natCast _ _;have n1:(BitVec.ofNat k.bits a).toNat=a:=by simp[Nat.mod_eq_of_lt ha]
 have n2:(BitVec.ofNat k.bits b).toNat=b:=by simp[Nat.mod_eq_of_lt hb]
 cases op<;>simp only[Option.some.injEq]at hr<;>(try cases hr)<;>
  simp only[Op.intBits,e1,e2,Sem.run_pure]
 ·rw[BitVec.toNat_and,n1,n2,hw]
 ·rw[BitVec.toNat_or,n1,n2,hw]
 ·rw[BitVec.toNat_xor,n1,n2,hw]
 ·have:(BitVec.ofNat k.bits a&&& ~~~BitVec.ofNat k.bits b).toNat=lU a b:=by
   apply Nat.eq_of_testBit_eq;intro j;rw[qj,BitVec.testBit_toNat,BitVec.getLsbD_and,BitVec.getLsbD_not,BitVec.getLsbD_ofNat,BitVec.getLsbD_ofNat];by_cases hj:j<k.bits
   ·simp[hj]
   ·have:a.testBit j=false:=Nat.testBit_lt_two_pow (Nat.lt_of_lt_of_le ha (Nat.pow_le_pow_right og og));simp[hj,this]
  rw[this,hw]
def Xt{t t':TypeId}{a b r:Nat}(hx:ev L x=some (.int .i64 a))(hy:ev L y=some (.int .i64 b))(ha:a<9223372036854775808)(hb:b<9223372036854775808)(hw:r<9223372036854775808)(hr:(match op with | .and=>some (a&&&b) | .or=>some (a|||b) | .xor=>some (a^^^b) | .andNot=>some (lU a b) | _=>none)=some r):bd P n L φ ⟨some d,.binOp op t x y t',ty,pos,af,gd⟩ (.int .i64 r):=
 qB hx hy (fun w A hx hy=>by
  have he:=PZ (P:=P) (w:=w) (k:=.i64) (IntWalk.i64_in _ og) (Nat.lt_of_lt_of_le ha dq) (Nat.lt_of_lt_of_le hb dq) hr
  cases op<;>simp only[Option.some.injEq]at hr<;>(try cases hr)<;>
   simp[execOp,eqGuard,hx,hy,binOp,he])
def NX{t t':TypeId}{a b z:Int}{r:Nat}(hx:ev L x=some (.int .i64 a))(hy:ev L y=some (.int .i64 b))(ha:0<=a/\a<9223372036854775808)(hb:0<=b/\b<9223372036854775808)(hz:0<=z/\z<9223372036854775808)(hr:(match op with | .and=>some (a.toNat&&&b.toNat) | .or=>some (a.toNat|||b.toNat) | .xor=>some (a.toNat^^^b.toNat) | .andNot=>some (lU a.toNat b.toNat) | _=>none)=some r)(he:(r:Int)=z):bd P n L φ ⟨some d,.binOp op t x y t',ty,pos,af,gd⟩ (.int .i64 z):=by
 subst he;have wE:ev L x=some (.int .i64 ((a.toNat:Nat):Int)):=by rw[show((a.toNat:Nat):Int)=a from og];exact hx
 have hy2:ev L y=some (.int .i64 ((b.toNat:Nat):Int)):=by rw[show((b.toNat:Nat):Int)=b from og];exact hy
 exact Xt wE hy2 og og og hr
def V.rem{t t':TypeId}{x y:Operand}{k:IntKind}{a b:Int}(hx:ev L x=some (.int k a))(hy:ev L y=some (.int k b))(hb:b≠0)(r:Int)(hr:a.tmod b=r):bd P n L φ ⟨some d,.binOp .rem t x y t',ty,pos,af,gd⟩ (.int k r):=
 qB hx hy fun w A hx hy=>by simp[execOp,eqGuard,hx,hy,binOp,Op.intDiv,hb,hr]
theorem V.quo{t t':TypeId}{x y:Operand}{k:IntKind}{a b:Int}(hx:ev L x=some (.int k a))(hy:ev L y=some (.int k b))(hb:b≠0)(r:Int)(hr:k.wrap (a.tdiv b)=r):bd P n L φ ⟨some d,.binOp .quo t x y t',ty,pos,af,gd⟩ (.int k r):=
 qB hx hy fun w A hx hy=>by simp[execOp,eqGuard,hx,hy,binOp,Op.intDiv,hb,hr]
def tG{a b:Int}(ha:0<=a:=by omega)(hb:0<b:=by omega)(h:a<=9223372036854775807:=by omega):IntKind.i64.wrap (a.tdiv b)=a/b:=by
 rw[Int.tdiv_eq_ediv_of_nonneg ha];have h1:0<=a/b:=Int.ediv_nonneg ha og;have h2:a/b<=a:=Int.ediv_le_self b ha;exact IntWalk.i64_in _ og
end
end Go.X

namespace Go.X
open Go
variable{x:Operand}{p:Option Addr}
section
variable {P:Program} {n:Fr} {Q:Exit->Act->World->Prop} {L:PF} {ops:Md} {rest:List Oper} {ty:TypeId} {pos:String} {af:Array Edge} {d:Nat}
variable {W:World} {S:Nat->Nat->Prop} {H H':List aG}
def XO.abg{t:TypeId}{y:Operand}{g cap sz k i:Nat}{e:TypeId}{C C':Nat->Value}{v:Value}(hx:ev L x=some (ay g 0 i))(hy:ev L y=some v)(hH:ou H (aL (some ⟨g,0,none⟩) cap e sz k C) (aL (some ⟨g,0,none⟩) cap e sz k C') H')(hi:i<k*sz/\dP C i v=C')(hv:one v=true)(hs:fp P t=some 1)(h:XO P n ops Q rest L (XM W S H')):XO P n ops Q (⟨none,.store t x y,ty,pos,af,none⟩::rest) L (XM W S H):=
 XO.op rfl fun a w ha hw=>by
  obtain⟨H1,hd,hp⟩:=hH.del;have IU:=hw.cb hd.cb;have hr:=tF (P:=P) (show(aL (some ⟨g,0,none⟩) cap e sz k C).holds w from IU.fa.1 _ sq) hi.1 hv;have mK:=IU.NT .aa hi.1 v;rw[hi.2]at mK;have s8:(execOp a.eval ⟨none,.store t x y,ty,pos,af,none⟩).run P w= .ok .skip (w.setCell ⟨g,i,none⟩ v):=by
   have h0:(⟨g,i,none⟩:Addr).add 0=⟨g,i,none⟩:=rfl;simp[execOp,av ha hx,av ha hy,Instr.storeAt,Instr.sureAddr,ay,storeVar,zw hv,run_sizeOf hs,storeCells,h0,hr]
  unfold Oper.wp;rw[s8];exact h _ _ ha (mK.cb hp)
def XO.P0{t e:TypeId}{y:Operand}{k cap m c sz g:Nat}{xs ys:List Value}(hx:ev L x=some (.slice p k cap))(hy:ev L y=some (.slice (some ⟨g,0,none⟩) m c))(ht:P.underlying t=some (.slice e))(hr:rL P e sz=true)(hH:nr H (.row (.slice p k cap) e sz k xs) H')(hN:lu H (.row (.slice (some ⟨g,0,none⟩) m c) e sz m ys))(h1:ys.all one=true)(hk:k+m<=100000000000)(hd:Nat.blt d n.sz=true)(h:∀ p' cU,XO P n ops Q rest ((d,.slice p' (k+m) cU)::L) (XM W S (.row (.slice p' (k+m) cU) e sz (k+m) (xs++ys)::H'))):XO P n ops Q (⟨some d,.call ⟨.builtin .append,#[x,y],#[t,t]⟩,ty,pos,af,none⟩::rest) L (XM W S H):=
 XO.op rfl fun a w ha hw=>by
  have abh:(aG.row (.slice (some ⟨g,0,none⟩) m c) e sz m ys).holds w:=hw.fa.1 _ hN.mem;have ib:(aG.row (.slice p k cap) e sz k xs).holds w:=hw.fa.1 _ (hH.cb.mem_iff.2 sq);by_cases hm:0<m
  ·obtain⟨p',cU,w',h3,h4,h5,h6⟩:=oZ (ty:=ty) (c:=c) (b:=g) (news:=ys) ht hr ib hm abh.1 (World.ownsRow.cells abh (g:=g) rfl) (fun u hu=>oY (List.all_eq_true.1 h1 u hu)) hk;have wE:=hw.cm hH rfl h6 h5 h4;unfold Oper.wp;have:(execOp a.eval ⟨some d,.call ⟨.builtin .append,#[x,y],#[t,t]⟩,ty,pos,af,none⟩).run P w= .ok (.value (.slice p' (k+m) cU)) w':=by
    simp[execOp,resolve,invoke,builtin,av ha hx,av ha hy,h3]
   rw[this];exact h _ _ _ _ (ha.put hd _) wE
  ·have hm0:m=0:=og;subst hm0;have hys:ys=[]:=List.eq_nil_of_length_eq_zero (by simpa using abh.1);subst hys;have hkc:k<=cap:=Cv ib;obtain⟨i,z,hi,hz,pR,hby,W0,Sm⟩:=qD hr;have h3:(Builtin.append_ #[t,t] ty #[.slice p k cap,.slice (some ⟨g,0,none⟩) 0 c]).run P w= .ok (.slice p (k+0) cap) w:=by
    cases p with
    | none=>simp[Builtin.append_,run_underlying ht,Builtin.lenOf,Builtin.firstCells,loadCells,loadCellsFrom,hkc,sizeOf,run_typeInfo hi,hi]
    | some q=>simp[Builtin.append_,run_underlying ht,Builtin.lenOf,Builtin.firstCells,loadCells,loadCellsFrom,storeCells,hkc,sizeOf,run_typeInfo hi,hi]
   have wE:XM W S (.row (.slice p (k+0) cap) e sz (k+0) (xs++[])::H') w:=by
    simpa using hw.cb hH.cb
   unfold Oper.wp;have:(execOp a.eval ⟨some d,.call ⟨.builtin .append,#[x,y],#[t,t]⟩,ty,pos,af,none⟩).run P w= .ok (.value (.slice p (k+0) cap)) w:=by
    simp only[Nat.add_zero]at h3 ⊢;simp[execOp,resolve,invoke,builtin,av ha hx,av ha hy,h3]
   rw[this];exact h _ _ _ _ (ha.put hd _) wE
def wI(k:Nat){t e:TypeId}{w:World}{l c:Nat}(ht:P.underlying t=some (.slice e)):(Op.equalIn (k+1) t (.slice p l c) (.slice none 0 0)).run P w= .ok p.isNone w:=by
 cases p<;>simp only[Op.equalIn,Sem.run_bind,run_underlying ht,Result.andThen_ok,Sem.run_pure,Option.isNone]
def lC{op:BinOp}{t t' e:TypeId}{l c:Nat}{r:Bool}{φ:World->Prop}{gd:Option (Nat×Bool)}(hx:ev L x=some (.slice p l c))(ht:P.underlying t=some (.slice e))(hr:(match op with | .eql=>some (decide (p=none)) | .neq=>some (decide (p≠none)) | _=>none)=some r):bd P n L φ ⟨some d,.binOp op t x (.const (.slice none 0 0)) t',ty,pos,af,gd⟩ (.bool r):=fun a w ha _=>by
 have he:(Op.equal t (.slice p l c) (.slice none 0 0)).run P w= .ok p.isNone w:=wI 9999 ht;have hy:a.eval (.const (.slice none 0 0))= .slice none 0 0:=rfl;have b1:binOp .eql t (.slice p l c) (.slice none 0 0)=(do pure (.bool (<-Op.equal t (.slice p l c) (.slice none 0 0)))):=rfl;have b2:binOp .neq t (.slice p l c) (.slice none 0 0)=(do pure (.bool (!(<-Op.equal t (.slice p l c) (.slice none 0 0))))):=rfl;have g1:eqGuard .eql t x (.const (.slice none 0 0)) (.slice p l c) (.slice none 0 0)=pure ():=rfl;have g2:eqGuard .neq t x (.const (.slice none 0 0)) (.slice p l c) (.slice none 0 0)=pure ():=rfl;cases op<;>simp only[Option.some.injEq]at hr<;>(try cases hr)<;>
  simp only[execOp,av ha hx,hy,b1,b2,g1,g2]<;>cases p<;>simp[he]
end
end Go.X

namespace Go.X
open Go Go.RowKit Go.Proofs
variable{body:Code}{fn:Func}{g x:Operand}
def AY(l:List Oper):Bool:=l.all fun o=>match o.op with | .defer _=>false | _=>true
def Tc{l:List Oper}(h:AY l=true){i:Nat}{o:Oper}(hi:l[i]? =some o):∀ c,o.op≠ .defer c:=fun c hc=>by
 have:=List.all_eq_true.1 h o (List.mem_of_getElem? hi);rw[hc]at this;cases this
def W1(P:Program):Code->(Exit->Act->World->Prop)->Act->World->Prop
 | .skip,Q,a,w=>Q .normal a w
 | .exit i,Q,a,w=>Q (.exit i) a w
 | .ret,Q,a,w=>Q .ret a w
 | .seq x y,Q,a,w=>W1 P x (Exit.then (W1 P y Q) Q) a w
 | .block i c,Q,a,w=>W1 P c (Exit.inBlock i Q) a w
 | .cond c x y,Q,a,w=>∃ t,a.eval c= .bool t/\(t=true->W1 P x Q a w)/\(t=false->W1 P y Q a w)
 | .region _ ops false,Q,a,w=>AY ops.toList=true/\wpList P ops Q ops.toList a w
 | .region _ ops true,Q,a,w=>AY ops.toList=true/\P.follows .mixedOrders=true/\wpAny P .any ops Q ops.size (Array.replicate ops.size false) a {w with drawn:=w.drawn+1}
 | _,_,_,_=>False
section
variable {P:Program} {Q:Exit->Act->World->Prop} {l:Nat} {n:Nat}
abbrev inR(l:Nat):Fence:=Fence.wide.inRound l
def NY{o:Oper}{a:Act}{w:World}{K:Act->World->Prop}(hd:∀ c,o.op≠ .defer c)(hq:∀ a w,¬Q .outgrown a w)(h:o.wp P a w K Q):o.wpIn (inR l) n P a w K Q:=by
 refine⟨fun _ _=>trivial,?_⟩;rw[Oper.semAt_eq _ _ _ hd];unfold Oper.wp at h;generalize (execOp a.eval o).run P w=r at*;cases r with
 | ok x w'=>
  have aeI:(inR l).depth.isSome=true->1<=n:=fun q=>by cases q
  cases x<;>simp only[Oper.upon,Oper.uponIn]at h ⊢;case value=>exact h
  case skip=>exact h
  case defer=>exact h
  case enter=>
   refine⟨aeI,CallsIn.inRound l (callsIn_wide.2 (h.mono fun e w'' he=> ?_))⟩;cases e with
   | returned v=>exact he
   | panicked c=>exact he
   | outgrown=>obtain⟨_,_,he⟩:=he;exact absurd he (hq _ _)
  case row=>
   refine⟨aeI,fun c cs _=> ?_⟩;obtain⟨v,w2,hr,hs⟩:=h c cs;exact⟨v,w2,hr,stepsIn_wide.2 hs⟩
  all_goals exact h.elim
 | halt x w'=>cases x<;>simp only[Oper.upon,Oper.uponIn]at h ⊢ <;>exact h
def G6{ops:Array Oper}(hq:∀ a w,¬Q .outgrown a w):∀ (rest:List Oper) (a:Act) (w:World),AY rest=true->wpList P ops Q rest a w->wpListIn (inR l) n P ops Q rest a w
 | [],_,_,_,h=>h
 | o::rest,a,w,hn,h=>by
  simp only[AY,List.all_cons,Bool.and_eq_true]at hn;unfold wpList at h;unfold wpListIn;split
  ·rename_i hw;rw[if_pos hw]at h;rcases h with h | ⟨_,a',w',h⟩
   ·refine NY (fun c hc=> ?_) hq (Oper.wp_mono (fun a' w'=>G6 hq rest a' w' hn.2) h);have:=hn.1;rw[hc]at this;cases this
   ·exact absurd h (hq _ _)
  ·rename_i hw;rw[if_neg hw]at h;exact⟨fun _ _=>trivial,G6 hq rest _ _ hn.2 h⟩
def G7{ops:Array Oper}(hq:∀ a w,¬Q .outgrown a w)(hn:AY ops.toList=true):∀ (f:Nat) (ls:Array Bool) (a:Act) (w:World),wpAny P .any ops Q f ls a w->wpAnyIn (inR l) n P .any ops Q f ls a w
 | 0,_,_,_,h=>h
 | f+1,ls,a,w,h=>⟨h.1,fun i hi=>by
  have h2:=h.2 i hi
  unfold wpOp at h2
  unfold wpOpIn
  cases ho:ops[i]? with
  | none=>rw[ho]at h2;exact G7 hq hn f _ _ _ h2
  | some o=>
   rw[ho]at h2
   simp only at h2 ⊢
   split
   ·rename_i hw
    rw[if_pos hw]at h2
    rcases h2 with h2 | ⟨_,a',w',h2⟩
    ·exact NY (Tc hn (i:=i) (by rw[Array.getElem?_toList];exact ho)) hq (Oper.wp_mono (fun a' w'=>G7 hq hn f _ a' w') h2)
    ·exact absurd h2 (hq _ _)
   ·rename_i hw
    rw[if_neg hw]at h2
    exact⟨fun _ _=>trivial,G7 hq hn f _ _ _ h2⟩⟩
def wJ:∀ (c:Code) (Q:Exit->Act->World->Prop) (a:Act) (w:World),(∀ a w,¬Q .outgrown a w)->W1 P c Q a w->c.wpIn (inR l) n P Q a w
 | .skip,_,_,_,_,h=>wpIn_skip h
 | .exit _,_,_,_,_,h=>wpIn_exit h
 | .ret,_,_,_,_,h=>wpIn_ret h
 | .seq x y,Q,a,w,hq,h=>wpIn_seq (wpIn_mono (wJ x (Exit.then (W1 P y Q) Q) a w (fun a w=>hq a w) h) (fun e a w q=>by
   cases e with
   | normal=>exact wJ y Q a w hq q
   | exit i=>exact q
   | goto i=>exact q
   | ret=>exact q
   | panic i=>exact q
   | outgrown=>exact q))
 | .block i c,Q,a,w,hq,h=>wpIn_block (wJ c (Exit.inBlock _ Q) a w (fun a w=>hq a w) h)
 | .cond c x y,Q,a,w,hq,⟨_,h1,h2,h3⟩=>wpIn_cond_split h1 (fun ht=>wJ x Q a w hq (h2 ht)) fun ht=>wJ y Q a w hq (h3 ht)
 | .region _ ops false,_,a,w,hq,h=>wpIn_region_list (G6 hq _ a w h.1 h.2)
 | .region _ _ true,_,a,w,hq,h=>wpIn_region_any h.2.1 (G7 hq h.1 _ _ a _ h.2.2)
 | .loop _,_,_,_,_,k=>k.elim
 | .rangeFunc ..,_,_,_,_,k=>k.elim
 | .scope _,_,_,_,_,k=>k.elim
 | .label _,_,_,_,_,k=>k.elim
 | .goto _,_,_,_,_,k=>k.elim
end
section
variable {P:Program} {n:Fr} {Q:Exit->Act->World->Prop} {L L':PF} {M M':World->Prop}
def XB(P:Program)(n:Fr)(c:Code)(Q:Exit->Act->World->Prop)(L:PF)(M:World->Prop):Prop:=
 ∀ a w,qg n L a->M w->W1 P c Q a w
theorem XB.fE{c:Code}(L':PF)(hs:Sub L L')(h:XB P n c Q L' M):XB P n c Q L M:=fun a w ha hw=>h a w (hs.sat ha) hw
def XB.seq{x y:Code}(h:XB P n x (Exit.then (W1 P y Q) Q) L M):XB P n (.seq x y) Q L M:=h
def o3{y:Code}{Q':Exit->Act->World->Prop}(h:XB P n y Q L M):XE n (Exit.then (W1 P y Q) Q') .normal L M:=h
def XB.skip(h:XE n Q .normal L M):XB P n .skip Q L M:=h
def XB.ret(h:XE n Q .ret L M):XB P n .ret Q L M:=h
theorem XB.block{i:Nat}{c:Code}(h:XB P n c (Exit.inBlock i Q) L M):XB P n (.block i c) Q L M:=h
def XB.cond{c:Operand}{x y:Code}{t:Bool}(hc:ev L c=some (.bool t))(ht:t=true->XB P n x Q L M)(hf:t=false->XB P n y Q L M):XB P n (.cond c x y) Q L M:=
 fun a w ha hw=>⟨t,av ha hc,fun h=>ht h a w ha hw,fun h=>hf h a w ha hw⟩
def XB.NM{c:Operand}{x y:Code}{p:Prop}[Decidable p](hc:ev L c=some (.bool (decide p)))(ht:p->XB P n x Q L M)(hf:¬p->XB P n y Q L M):
  XB P n (.cond c x y) Q L M:=XB.cond hc (fun h=>ht (of_decide_eq_true h)) fun h=>hf (of_decide_eq_false h)
def XB.region{i:Nat}{l:List Oper}(h:XO P n (.cl l.toArray) Q l L M)(hn:AY l=true:=by rfl):XB P n (.region i l.toArray false) Q L M:=fun a w ha hw=>by
 refine⟨by simpa using hn,?_⟩;have:wpList P l.toArray Q l a w:=h a w ha hw;simpa using this
end
def mkD(D:Nat):Deferred:= {target:=.collected D,args:= #[]}
def aG.zz:aG->Bool
 | .mark _=>false
 | _=>true
def Cx{e:aG}{w:World}(h:e.holds w)(hm:e.zz=true){b o:Nat}(ha:e.gp b o):∃ A t fz,w.heap[b]? =some (.cells A t fz):=by
 cases e with
 | cells b' o' n C=>obtain⟨A,t,lo,hi,h1,_⟩:=h;obtain⟨rfl,_⟩:=ha;exact⟨_,_,_,h1⟩
 | ro b' o' n C=>obtain⟨A,t,fz,h1,_⟩:=h;obtain⟨rfl,_⟩:=ha;exact⟨_,_,_,h1⟩
 | row v e sz k xs=>
  rcases h.2 with⟨rfl,_⟩ | ⟨g,cap,cur,rfl,_,hb,_⟩
  ·cases ha
  ·have:b=g:=by simp only[aG.gp,Value.ownBlock,Option.some.injEq]at ha;exact ha.symm
   subst this;exact⟨_,_,_,hb⟩
 | mark D=>cases hm
 | aQ p r=>
  obtain⟨i,hi,hb⟩:=ha;rcases(h.1 i hi).2 with⟨hv,_⟩ | ⟨g,cap,cur,hv,hb',hg,_⟩
  ·rw[hv]at hb;cases hb
  ·rw[hv]at hb;simp only[Value.ownBlock,Option.some.injEq]at hb;subst hb;exact⟨_,_,_,hg⟩
 | dG p g n C=>obtain⟨i,hi,rfl,_⟩:=ha;obtain⟨A,t,lo,IA,h1,_⟩:=h.1 i hi;exact⟨_,_,_,h1⟩
def zA{e:aG}(h:e.wr=true):e.zz=true:=by cases e<;>first | rfl | cases h
def aG.LN{e:aG}{w w':World}{D:Nat}(hb:∀ b,b<w.heap.size->¬b=D->w'.heap[b]? =w.heap[b]?)(hD:∀ o,w.heap[D]? =some o->o.isCells=false)(hm:e.zz=true)(h:e.holds w):e.holds w':=by
 have ne:∀ (b:Nat) (A:Array Value) (t:TypeId) (fz:Nat×Nat),w.heap[b]? =some (.cells A t fz)->w'.heap[b]? =some (.cells A t fz):=fun b A t fz hA=>by
  rw[hb b (dH hA) fun q=>by subst q;have:=hD _ hA;cases this];exact hA
 cases e with
 | cells b o n C=>obtain⟨A,t,lo,hi,h1,h2⟩:=h;exact⟨A,t,lo,hi,ne _ _ _ _ h1,h2⟩
 | ro b o n C=>obtain⟨A,t,fz,h1,h2⟩:=h;exact⟨A,t,fz,ne _ _ _ _ h1,h2⟩
 | row v e sz k xs=>
  refine⟨h.1,?_⟩;rcases h.2 with hn | ⟨g,cap,cur,rfl,hb',hg,rest⟩
  ·exact .inl hn
  ·exact .inr ⟨g,cap,cur,rfl,hb',ne _ _ _ _ hg,rest⟩
 | mark D=>cases hm
 | aQ p r=>
  refine⟨fun i hi=> ?_,h.2⟩;have hr:=h.1 i hi;refine⟨hr.1,?_⟩;rcases hr.2 with hn | ⟨g,cap,cur,hv,hb',hg,rest⟩
  ·exact .inl hn
  ·exact .inr ⟨g,cap,cur,hv,hb',ne _ _ _ _ hg,rest⟩
 | dG p g n C=>
  refine⟨fun i hi=> ?_,h.2⟩;obtain⟨A,t,lo,IA,h1,h2⟩:=h.1 i hi;exact⟨A,t,lo,IA,ne _ _ _ _ h1,h2⟩
theorem XM.mL{W w w':World}{S:Nat->Nat->Prop}{H:List aG}{D:Nat}(h:XM W S H w)(hm:H.all aG.zz=true)(hDW:W.heap.size<=D)(hos:w'.os=w.os)(ht:w'.tape=w.tape)(I2:w'.output=w.output)(Sm:w.heap.size<=w'.heap.size)(hb:∀ b,b<w.heap.size->¬b=D->w'.heap[b]? =w.heap[b]?)(hD:∀ o,w.heap[D]? =some o->o.isCells=false):XM W S H w':=by
 refine⟨⟨fun e he=>aG.LN hb hD (List.all_eq_true.1 hm e he) (h.fa.1 e he),h.fa.2⟩,⟨hos.trans h.fE.os,ht.trans h.fE.tape,I2.trans h.fE.output,Nat.le_trans h.fE.size Sm,fun b Cy hn=> ?_,fun b A t fz hA=> ?_⟩,h.EP⟩
 ·rw[hb b (Nat.lt_of_lt_of_le Cy h.fE.size) og];exact h.fE.same b Cy hn
 ·obtain⟨A',h1,h2,h3⟩:=h.fE.part b A t fz hA;have:=dH hA;exact⟨A',by rw[hb b (Nat.lt_of_lt_of_le this h.fE.size) og];exact h1,h2,h3⟩
section
variable {P:Program} {L:PF} {W:World} {S:Nat->Nat->Prop} {H H':List aG}
def qE{k m:Nat}{kp:List Nat}{cs:List (Nat×Nat)}{R:Ending->World->Prop}{e:Exit}{M:World->Prop}(he:e= .normal\/e= .ret)(h:XE (fr k kp cs) (bodyPost P fn R) e L M):XE (fr k kp cs) (bodyPostM Fence.wide m P fn R) e L M:=fun a w ha hw=>by
 have h1:=h a w ha hw;rcases he with rfl | rfl
 ·obtain⟨hd,v,h2,h3⟩:=h1;show LeavesInM _ _ _ _ a.tmps R a.defers .returning w;rw[hd];exact⟨v,h2,h3⟩
 ·obtain⟨hd,v,h2,h3⟩:=h1;show LeavesInM _ _ _ _ a.tmps R a.defers .returning w;rw[hd];exact⟨v,h2,h3⟩
def nu{k m D:Nat}{kp:List Nat}{cs:List (Nat×Nat)}{R:Ending->World->Prop}{e:Exit}(he:e= .normal\/e= .ret)(hH:nr H (.mark D) H')(hm:H'.all aG.zz=true)(hD:W.heap.size<=D)(h:XE (fr k kp cs) (bodyPost P fn R) e L (XM W S H')):XE ⟨k,[mkD D],kp,cs⟩ (bodyPostM Fence.wide m P fn R) e L (XM W S H):=fun a w ha hw=>by
 have IU:=hw.cb hH.cb;have Fx:w.heap[D]? =some (.deferred (some [])):=IU.fa.1 (.mark D) sq;have mw:XM W S H' w:=XM.left (E:=H') (F:=[.mark D]) (IU.cb (by
  have:=List.perm_append_comm (l₁:=[aG.mark D]) (l₂:=H')
  simpa using this))
 have bJ:XM W S H' (w.putObj D (.deferred none)):=mw.mL (D:=D) hm hD rfl rfl rfl sq (fun b _ gY=>World.putObj_heap_other gY) fun o ho=>by rw[Fx]at ho;cases ho;rfl
 have h1:=h {a with defers:=[]} _ ⟨rfl,ha.2.1,ha.2.2⟩ bJ;have hd:a.defers=[mkD D]:=ha.1;rcases he with rfl | rfl
 ·obtain⟨_,v,h2,h3⟩:=h1;show LeavesInM _ _ _ _ a.tmps R a.defers .returning w;rw[hd];exact⟨sq,.inl ⟨_,_,rfl,run_takeDeferred Fx,v,h2,h3⟩⟩
 ·obtain⟨_,v,h2,h3⟩:=h1;show LeavesInM _ _ _ _ a.tmps R a.defers .returning w;rw[hd];exact⟨sq,.inl ⟨_,_,rfl,run_takeDeferred Fx,v,h2,h3⟩⟩
def I3{kp:List Nat}{cs:List (Nat×Nat)}{f:FuncId}{c:Code}{args:List Value}{pre:List aG}{post:Value->List aG->Prop}(hf:P.funcs[f]? =some fn)(hb:fn.body=some c)(hn:Nat.ble args.length fn.ntmps=true)(h:∀ W,XC P (fr fn.ntmps kp cs) c (bodyPostM Fence.wide 3 P fn fun e w'=>∃ v H',e= .returned v/\post v H'/\H'.all aG.wr=true/\XM W (bX pre) H' w') (oW 0 args) (XM W (bX pre) pre)):Spec P f args pre post:=by
 intro w hw;refine(callsIn_wide (n:=3)).1 (callsIn_of_wp_marks hf hb trivial (wpIn_wide.2 (h w _ w ⟨rfl,?_,?_⟩ (kW hw))))
 ·have:args.length<=fn.ntmps:=by simpa using hn
  simp;omega
 ·intro i v hi;obtain⟨_,h2⟩:=zq args 0 i v hi;have rH:i<args.length:=by
   rcases Nat.lt_or_ge i args.length with h' | h'
   ·exact h'
   ·rw[List.getElem?_eq_none (by simpa using h')]at h2;simp at h2
  have h3:args[i]? =some v:=by simpa using h2
  simp only[Array.getD_eq_getD_getElem?];rw[Array.getElem?_append_left (by simpa using rH)];simp[h3]
end
def Sn(R:List (Addr×Value))(A B:World):Prop:=∀ x∈R,A.cell? x.1=some x.2->B.cell? x.1=some x.2
def Sn.trans{R:List (Addr×Value)}{A B C:World}(h:Sn R A B)(k:Sn R B C):Sn R A C:=fun x hx ha=>k x hx (h x hx ha)
def Td{W:World}{l:Nat}{o o':Obj}(hl:W.heap[l]? =some o)(ho:o.isCells=false){a:Addr}{v:Value}(h:W.cell? a=some v):(W.putObj l o').cell? a=some v:=by
 have gY:¬a.block=l:=fun e=>by
  subst e;simp only[World.cell?,hl]at h;cases o<;>first | (cases ho;done) | (simp at h;done)
 rw[World.cell?_of_block (World.putObj_heap_other gY)];exact h
theorem Sn.put{R:List (Addr×Value)}(W:World)(l:Nat)(o o':Obj)(hl:W.heap[l]? =some o)(ho:o.isCells=false):Sn R W (W.putObj l o'):=fun _ _ h=>Td hl ho h
theorem cG.refl:∀ (H:List aG),cG H H []
 | []=>.nil
 | _::H=>.cons .aa (cG.refl H)
theorem XM.then{W w w':World}{S:Nat->Nat->Prop}{H H':List aG}(h:XM W S H w)(hc:XM w (bX H) H' w')(PM:H'.all aG.wr=true):XM W S H' w':=by
 have:=h.zv (cG.refl H) hc fun e he=>List.all_eq_true.1 PM e he;simpa using this
def LO{H:List aG}{w:World}(h:Good H w){b o:Nat}(hf:bX H b o):∃ A t fz,w.heap[b]? =some (.cells A t fz):=by
 obtain⟨e,he,hw,ha⟩:=hf;exact Cx (h.1 e he) (zA hw) ha
def XM.Te{w w':World}{H H':List aG}(hg:Good H w)(hc:XM w (bX H) H' w'):KeepsOthers w w':=by
 refine⟨hc.fE.size,fun b o hb ho=> ?_⟩;rw[hc.fE.same b (dH hb) fun off hf=> ?_]
 ·exact hb
 ·obtain⟨A,t,fz,h1⟩:=LO hg hf;rw[hb]at h1;cases h1;cases ho
section
variable {P:Program} {Q:Exit->Act->World->Prop} {L:PF} {W:World} {S:Nat->Nat->Prop} {H:List aG} {α:Type}
def RI(W:World)(S:Nat->Nat->Prop)(V:List α->Prop)(J:List α->List aG)(pre:List α)(w:World):Prop:=V pre/\XM W S (J pre) w
theorem RI.bH{V:List α->Prop}{J:List α->List aG}{B:Nat}(hJ:∀ pre,(J pre).all aG.wr=true)(hB:W.heap.size<=B):OwnFrom B (RI W S V J):=fun pre w w' row ⟨hv,hx⟩ hg hr=>by
 have hm:(J pre).all aG.zz=true:=List.all_eq_true.2 fun e he=>zA (List.all_eq_true.1 (hJ pre) e he);refine⟨hv,?_⟩;cases row with
 | none=>exact hx.mL (D:=w.heap.size) hm hx.fE.size hg.os hg.tape hg.output hg.size (fun b hb _=>hg.block b hb sq) fun o ho=>by have:=dH ho;omega
 | some r=>
  obtain⟨h1,o,h2,h3⟩:=hr r rfl;exact hx.mL (D:=r) hm og hg.os hg.tape hg.output hg.size (fun b hb gY=>hg.block b hb fun e=>by cases e;exact gY rfl) fun o' ho=>by rw[h2]at ho;cases ho;exact h3
abbrev Cz(W:World)(S:Nat->Nat->Prop)(V Vx:List α->Prop)(J Jx:List α->List aG)(R:List (Addr×Value))(pre:List α)(x:α)(w:World):Exit->Act->World->Prop:=
 ownPostK (Sn R) (RI W S V J) (fun c ys w'=>c= .ret/\RI W S Vx Jx ys w') (pre++[x]) w
def xF{n:Fr}{V Vx:List α->Prop}{J Jx:List α->List aG}{R:List (Addr×Value)}{pre:List α}{x:α}{w:World}{H':List aG}(h:XM W S (J pre) w)(hV:V (pre++[x]))(Lt:(J (pre++[x])).all aG.wr=true)(hR:∀ w',Go.X.Good (J (pre++[x])) w'->∀ y∈R,w'.cell? y.1=some y.2)(hp:∀ w',XM w (bX (J pre)) H' w'->XM w (bX (J pre)) (J (pre++[x])) w'):XE n (Cz W S V Vx J Jx R pre x w) .normal L (XM w (bX (J pre)) H'):=fun _ w' _ hw=>by
 have h1:=hp w' hw;exact⟨h1.Te h.fa,fun y hy _=>hR w' h1.fa y hy,hV,h.then h1 Lt⟩
theorem XE.gx{n:Fr}{V Vx:List α->Prop}{J Jx:List α->List aG}{R:List (Addr×Value)}{pre:List α}{x:α}{w:World}{H':List aG}(h:XM W S (J pre) w)(hV:Vx (pre++[x]))(Lt:(Jx (pre++[x])).all aG.wr=true)(hp:∀ w',XM w (bX (J pre)) H' w'->XM w (bX (J pre)) (Jx (pre++[x])) w'):XE n (Cz W S V Vx J Jx R pre x w) .ret L (XM w (bX (J pre)) H'):=fun _ w' _ hw=>by
 have h1:=hp w' hw;exact⟨h1.Te h.fa,rfl,hV,h.then h1 Lt⟩
def Fy{k:Nat}{kp:List Nat}{cs:List (Nat×Nat)}{ps:Array Tmp}{assign:Code}{gf:Nat}{lb:Array Value}{abk:α->Array Value}{R:List (Addr×Value)}{xs:List α}(V Vx:List α->Prop)(J Jx:List α->List aG)(L1:α->PF)(asg:α->Array Value->Act)(hg:ev L g=some (.func (.func gf) #[] lb))(eg:∀ args w,(callFunc gf args).run P w= .ok (.enter gf args) w)(hps:∀ x,(abk x).size=ps.size)(Tf:∀ w,XM W S H w->SeqStopsK Fence.wide 2 P gf lb abk (Sn R) (· =xs) (· <+:xs) xs.length w)(hV0:V [])(hJ0:∀ w,XM W S H w->XM W S (J []) w)(hJ:∀ pre,(J pre).all aG.wr=true)(hJx:∀ pre,(Jx pre).all aG.wr=true)(Xu:∀ (l:Nat) (x:α) (tmps:Array Value) (w:World) (K:Act->World->Prop),K (asg x tmps) w->assign.wpIn (inR l) 1 P (Exit.then K fun _ _ _=>False) {tmps:=(ps.zip (abk x)).foldl (fun t (p,v)=>t.setIfInBounds p v) tmps,defers:=[]} w)(ag9:∀ x a,qg (fr k kp cs) L a->qg (fr k kp cs) (L1 x) (asg x a.tmps))(I4:∀ pre x w,V pre->pre.length<xs.length->XM W S (J pre) w->XB P (fr k kp cs) body (Cz W S V Vx J Jx R pre x w) (L1 x) (XM w (bX (J pre)) (J pre)))(I5:V xs->∀ D,W.heap.size<=D->XE ⟨k,[mkD D],kp,cs⟩ Q .normal L (XM W S (.mark D::J xs)))(I6:∀ pre,pre<+:xs->Vx pre->∀ D,W.heap.size<=D->XE ⟨k,[mkD D],kp,cs⟩ Q .ret L (XM W S (.mark D::Jx pre))):XC P (fr k kp cs) (.rangeFunc g ps assign body) Q L (XM W S H):=fun a w ha hw=>by
 have Fx:∀ (D:Nat) (E:List aG) (w':World),E.all aG.wr=true->W.heap.size<=D->XM W S E w'->w'.heap[D]? =some (.deferred (some []))->XM W S (.mark D::E) w':=fun D E w' hE hD hx hh=>by
  refine⟨⟨fun e he=> ?_,List.pairwise_cons.2 ⟨fun e he _ b o h1 h2=> ?_,hx.fa.2⟩⟩,hx.fE,fun e he Lt b o hb=> ?_⟩
  ·rcases List.mem_cons.1 he with rfl | he
   ·exact hh
   ·exact hx.fa.1 e he
  ·obtain rfl:b=D:=h1;obtain⟨A,t,fz,h3⟩:=Cx (hx.fa.1 e he) (zA (List.all_eq_true.1 hE e he)) h2;rw[hh]at h3;cases h3
  ·rcases List.mem_cons.1 he with rfl | he
   ·cases Lt
   ·exact hx.EP e he Lt b o hb
 refine(wpIn_wide (n:=3)).1 ?_;refine wpIn_rangeFunc_ownF (F:=Fence.wide) (w0:=w) rfl og (av ha hg) trivial eg (Tf w hw) (fun h k=>h.trans k) (fun W l o o' _ hl ho _=>Sn.put W l o o' hl ho) (Below.refl _ _) hps
  (RI W S V J) (fun c ys w'=>c= .ret/\RI W S Vx Jx ys w') (RI.bH hJ hw.fE.size) (fun c=>fun pre A B row ⟨hc,hi⟩ hgr hr=>⟨hc,RI.bH hJx hw.fE.size pre A B row hi hgr hr⟩) ⟨hV0,hJ0 w hw⟩ (fun x=>asg x a.tmps) ?_ ?_ ?_ ?_
 ·exact fun l x W' K hK=>Xu l x a.tmps W' K hK
 ·rintro l pre x w1 ⟨hv,hx⟩ hlen;refine wJ body _ _ w1 (fun _ _ q=>q) ?_;exact I4 pre x w1 hv hlen hx _ w1 (ag9 x a ha) (kW hx.fa)
 ·rintro D ys w1 hD rfl ⟨hv,hx⟩ hh;have hD2:W.heap.size<=D:=Nat.le_trans hw.fE.size hD;have hd:a.defers=[]:=ha.1;refine I5 hv D hD2 _ w1 ⟨?_,ha.2.1,ha.2.2⟩ (Fx D _ w1 (hJ _) hD2 hx hh);show _::a.defers=_;rw[hd];rfl
 ·rintro D c pre w1 hD hp ⟨rfl,hv,hx⟩ hh;have hD2:W.heap.size<=D:=Nat.le_trans hw.fE.size hD;have hd:a.defers=[]:=ha.1;refine wpIn_ret (I6 pre hp hv D hD2 _ w1 ⟨?_,ha.2.1,ha.2.2⟩ (Fx D _ w1 (hJx _) hD2 hx hh));show _::a.defers=_;rw[hd];rfl
end
section
variable {P:Program} {Q:Exit->Act->World->Prop} {L:PF} {n:Fr} {M:World->Prop} {ty:TypeId} {pos:String} {af:Array Edge} {d:Nat} {ops:Array Oper} {rest:List Oper}
def XI(P:Program)(n:Fr)(ops:Array Oper)(Q:Exit->Act->World->Prop)(l:List Oper)(L:PF)(M:World->Prop):Prop:=
 ∀ a w,qg n L a->M w->wpListIn Fence.wide 2 P ops Q l a w
def LP{i:Nat}{l:List Oper}(h:XI P n l.toArray Q l L M):XC P n (.region i l.toArray false) Q L M:=fun a w ha hw=>wpIn_wide.1 (wpIn_region_lit (h a w ha hw))
theorem XI.nil(h:XE n Q .normal L M):XI P n ops Q [] L M:=h
theorem XI.v{op:Op}{v:Value}(hv:bd P n L M ⟨some d,op,ty,pos,af,none⟩ v)(hd:Nat.blt d n.sz=true)(h:XI P n ops Q rest ((d,v)::L) M):XI P n ops Q (⟨some d,op,ty,pos,af,none⟩::rest) L M:=fun a w ha hw=>by
 unfold wpListIn;rw[if_pos (by simp[Region.wanted])];refine⟨fun _ _=>trivial,?_⟩;have h0:Fence.wide.round=none:=rfl;rw[h0,Oper.semAt_none,hv a w ha hw];exact h _ w (ha.put hd v) hw
def XI.yield{y:Operand}{l:Nat}{v:Value}{R:Ending->World->Prop}{t:Array TypeId}(hx:ev L x=some (.func (.yield l) #[] #[]))(hy:ev L y=some v)(hY:∀ w,M w->YieldAt Fence.wide 1 P l #[v] w R)(hd:Nat.blt d n.sz=true)(h:∀ e w,R e w->∃ b,e= .returned (.bool b)/\XI P n ops Q rest ((d,.bool b)::L) fun w'=>R (.returned (.bool b)) w'):XI P n ops Q (⟨some d,.call ⟨.value x,#[y],t⟩,ty,pos,af,none⟩::rest) L M:=fun a w ha hw=>by
 obtain⟨fn,tmps,assign,body,h1,h2⟩:=hY w hw;unfold wpListIn;rw[if_pos (by simp[Region.wanted])];refine⟨fun _ _=>trivial,?_⟩;have h0:Fence.wide.round=none:=rfl;have aha:(execOp a.eval ⟨some d,.call ⟨.value x,#[y],t⟩,ty,pos,af,none⟩).run P w= .ok (.round l fn tmps assign body) w:=by
  simp[execOp,resolve,invoke,Deferred.ofValue,av ha hx,av ha hy,h1]
 rw[h0,Oper.semAt_none,aha];refine⟨fun q=>(by cases q),h2.mono fun e w' hr=> ?_⟩;obtain⟨b,rfl,wE⟩:=h e w' hr;exact wE _ w' (ha.put hd _) hr
def wK{t:TypeId}{b o:Nat}{v:Value}{φ:World->Prop}{gd:Option (Nat×Bool)}(hx:ev L x=some (.pointer (some ⟨b,o,none⟩)))(hc:∀ w,φ w->w.cell? ⟨b,o,none⟩=some v)(ht:jU P t=true):bd P n L φ (⟨some d,.load t x,ty,pos,af,gd⟩) v:=fun a w ha hw=>by
 simp[execOp,av ha hx,Instr.loadAt,Instr.sureAddr,gD ht (hc w hw)]
def pS{f:FuncId}{y:Operand}{u v:Value}{φ:World->Prop}{gd:Option (Nat×Bool)}(hx:ev L x=some u)(hy:ev L y=some v):bd P n L φ (⟨some d,.makeFunc (.func f) #[] #[x,y],ty,pos,af,gd⟩) (.func (.func f) #[] #[u,v]):=fun a w ha hw=>by
 simp[execOp,av ha hx,av ha hy,Instr.makeFunc]
end
section
variable {P:Program} {Q:Exit->Act->World->Prop} {L:PF} {W:World} {S:Nat->Nat->Prop} {H:List aG} {α:Type}
theorem aak(tmps:Array Value)(p:Tmp)(v:Value):(#[p].zip #[v]).foldl (fun t (p,v)=>t.setIfInBounds p v) tmps=tmps.setIfInBounds p v:=sq
def P1{k:Nat}{kp:List Nat}{cs:List (Nat×Nat)}{p:Nat}{gf:Nat}{lb:Array Value}{R:List (Addr×Value)}{xs:List α}(enc:α->Value)(V Vx:List α->Prop)(J Jx:List α->List aG)(hg:ev L g=some (.func (.func gf) #[] lb))(eg:∀ args w,(callFunc gf args).run P w= .ok (.enter gf args) w)(hp:Nat.blt p k=true)(Tf:∀ w,XM W S H w->SeqStopsK Fence.wide 2 P gf lb (fun x=> #[enc x]) (Sn R) (· =xs) (· <+:xs) xs.length w)(hV0:V [])(hJ0:∀ w,XM W S H w->XM W S (J []) w)(hJ:∀ pre,(J pre).all aG.wr=true)(hJx:∀ pre,(Jx pre).all aG.wr=true)(I4:∀ pre x w,V pre->pre.length<xs.length->XM W S (J pre) w->XB P (fr k kp cs) body (Cz W S V Vx J Jx R pre x w) ((p,enc x)::L) (XM w (bX (J pre)) (J pre)))(I5:V xs->∀ D,W.heap.size<=D->XE ⟨k,[mkD D],kp,cs⟩ Q .normal L (XM W S (.mark D::J xs)))(I6:∀ pre,pre<+:xs->Vx pre->∀ D,W.heap.size<=D->XE ⟨k,[mkD D],kp,cs⟩ Q .ret L (XM W S (.mark D::Jx pre))):XC P (fr k kp cs) (.rangeFunc g #[p] .skip body) Q L (XM W S H):=
 Fy V Vx J Jx (fun x=>(p,enc x)::L) (fun x tmps=> {tmps:=tmps.setIfInBounds p (enc x),defers:=[]}) hg eg (fun _=>rfl) Tf hV0 hJ0 hJ hJx
  (fun l x tmps w K hK=>by rw[aak];exact wpIn_skip hK) (fun x a ha=>by
   have:=ha.put (n:=fr k kp cs) hp (enc x)
   have hd:a.defers=[]:=ha.1
   simpa only[Act.put,hd]using this) I4 I5 I6
def P2{l i q p:Nat}{ty:TypeId}{pos:String}{a:Act}{w:World}{K:Act->World->Prop}(h:K (a.put (some q) (a.eval (.tmp p))) w):(Code.region i #[⟨some q,.assign (.tmp p),ty,pos,#[],none⟩] false).wpIn (inR l) 1 P (Exit.then K fun _ _ _=>False) a w:=by
 refine wJ _ _ _ w (fun _ _ q=>q) ⟨rfl,?_⟩;show wpList _ _ _ [_] _ _;unfold wpList;rw[if_pos (by simp[Region.wanted])];left;unfold Oper.wp;have:(execOp a.eval ⟨some q,.assign (.tmp p),ty,pos,#[],none⟩).run P w= .ok (.value (a.eval (.tmp p))) w:=by simp[execOp]
 rw[this];exact h
def uY{k:Nat}{kp:List Nat}{cs:List (Nat×Nat)}{p q i:Nat}{ty:TypeId}{pos:String}{gf:Nat}{lb:Array Value}{R:List (Addr×Value)}{xs:List α}(enc:α->Value)(V Vx:List α->Prop)(J Jx:List α->List aG)(hg:ev L g=some (.func (.func gf) #[] lb))(eg:∀ args w,(callFunc gf args).run P w= .ok (.enter gf args) w)(hp:Nat.blt p k=true)(hq:Nat.blt q k=true)(Tf:∀ w,XM W S H w->SeqStopsK Fence.wide 2 P gf lb (fun x=> #[enc x]) (Sn R) (· =xs) (· <+:xs) xs.length w)(hV0:V [])(hJ0:∀ w,XM W S H w->XM W S (J []) w)(hJ:∀ pre,(J pre).all aG.wr=true)(hJx:∀ pre,(Jx pre).all aG.wr=true)(I4:∀ pre x w,V pre->pre.length<xs.length->XM W S (J pre) w->XB P (fr k kp cs) body (Cz W S V Vx J Jx R pre x w) ((q,enc x)::(p,enc x)::L) (XM w (bX (J pre)) (J pre)))(I5:V xs->∀ D,W.heap.size<=D->XE ⟨k,[mkD D],kp,cs⟩ Q .normal L (XM W S (.mark D::J xs)))(I6:∀ pre,pre<+:xs->Vx pre->∀ D,W.heap.size<=D->XE ⟨k,[mkD D],kp,cs⟩ Q .ret L (XM W S (.mark D::Jx pre))):XC P (fr k kp cs) (.rangeFunc g #[p] (.region i #[⟨some q,.assign (.tmp p),ty,pos,#[],none⟩] false) body) Q L (XM W S H):=
 Fy V Vx J Jx (fun x=>(q,enc x)::(p,enc x)::L) (fun x tmps=>(Act.put {tmps:=tmps.setIfInBounds p (enc x),defers:=[]} (some q) (Act.eval {tmps:=tmps.setIfInBounds p (enc x),defers:=[]} (.tmp p)))) hg eg (fun _=>rfl) Tf hV0 hJ0 hJ hJx
  (fun l x tmps w K hK=>by rw[aak];exact P2 hK)
  (fun x a ha=>by
   have h1:=ha.put (n:=fr k kp cs) hp (enc x)
   have hd:a.defers=[]:=ha.1
   have h2:qg (fr k kp cs) ((p,enc x)::L) {tmps:=a.tmps.setIfInBounds p (enc x),defers:=[]} :=by simpa only[Act.put,hd]using h1
   have h3:Act.eval {tmps:=a.tmps.setIfInBounds p (enc x),defers:=[]} (.tmp p)=enc x:=av h2 (by simp[ev,lk])
   have h4:=h2.put (n:=fr k kp cs) hq (enc x)
   rw[h3];exact h4) I4 I5 I6
end
end Go.X
