import Derived.Test.YthdinakloheinaaGreatDoorXStore
import Derived.Laws.AppendOwn
import Derived.RangeFuncNested
import Derived.RangeFuncBound
import Derived.RangeFuncCalls
import Derived.RangeFuncLeaves
import Derived.RangeFuncFrom
import Derived.Shelf.Abstract
import Derived.TacticsInMore
import Derived.OrdersIn
set_option linter.all false
namespace Go.X
open Go
variable{op:BinOp}{s:ByteArray}{z:Int}{k:IntKind}{x y:Operand}{v:Value}
section
variable{P:Program}{n:Fr}{L:PF}{ty:TypeId}{pos:String}{af:Array Edge}{d:Nat}{φ:World->Prop}{gd:Option (Nat×Bool)}
def Vy{t:TypeId}(hx:ev L x=some (.string s))(ht:P.underlying t=some .string):bj P n L φ ⟨some d,.call ⟨.builtin .len,#[x],#[t]⟩,ty,pos,af,gd⟩ (.int .i64 s.size):=fun a w ha _=>by
 simp[execOp,resolve,invoke,builtin,Builtin.len_,av ha hx,run_underlying ht,goInt]
def aaj{t e:TypeId}{p:Option Addr}{l c:Nat}(hx:ev L x=some (.slice p l c))(ht:P.underlying t=some (.slice e)):bj P n L φ ⟨some d,.call ⟨.builtin .len,#[x],#[t]⟩,ty,pos,af,gd⟩ (.int .i64 l):=fun a w ha _=>by
 simp[execOp,resolve,invoke,builtin,Builtin.len_,av ha hx,run_underlying ht,goInt]
theorem toList_beq(a b:ByteArray):(a.toList==b.toList)=decide (a=b):=by
 rw[Bool.eq_iff_iff];simp only[beq_iff_eq,decide_eq_true_eq];constructor
 ·intro h;rw[ByteArray.toList_eq,ByteArray.toList_eq]at h;exact ByteArray.ext (Array.toList_inj.1 h)
 ·intro h;rw[h]
def Sq(t:ByteArray):t=⟨#[]⟩↔t.size=0:=by
 constructor
 ·intro h;rw[h];rfl
 ·intro h;apply ByteArray.ext;exact Array.eq_empty_of_size_eq_zero h
def Vz{t t':TypeId}{a b:ByteArray}{r:Bool}(hx:ev L x=some (.string a))(hy:ev L y=some (.string b))(hr:(match op with | .eql=>some (decide (a=b)) | .neq=>some (decide (a≠b)) | .lss=>some (Op.bytesLess a.toList b.toList) | .leq=>some (Op.bytesLess a.toList b.toList||decide (a=b)) | .gtr=>some (!(Op.bytesLess a.toList b.toList||decide (a=b))) | .geq=>some (!Op.bytesLess a.toList b.toList) | _=>none)=some r):bj P n L φ ⟨some d,.binOp op t x y t',ty,pos,af,gd⟩ (.bool r):=
 rM hx hy (fun w A hx hy=>by
  cases op<;>simp only[Option.some.injEq]at hr<;>(try cases hr)<;>
   simp only[execOp,eqGuard,hx,hy,binOp,Op.stringOp,toList_beq]<;>simp)
def VA{t t':TypeId}{a b:ByteArray}(hx:ev L x=some (.string a))(hy:ev L y=some (.string b))(hs:a.size+b.size<=9223372036854775807):bj P n L φ ⟨some d,.binOp .add t x y t',ty,pos,af,gd⟩ (.string (a++b)):=
 rM hx hy (fun w A hx hy=>by
  have h:¬((a.size+b.size:Nat):Int)>IntKind.i64.max:=by simp[IntKind.max,IntKind.signed,IntKind.bits];omega
  simp only[execOp,eqGuard,hx,hy,binOp,Op.stringOp]
  rw[if_neg h]
  simp)
def Sr{t:TypeId}(hx:ev L x=some (.string s))(hy:ev L y=some (.int k z))(ht:P.underlying t=some .string)(hz:0<=z/\z<=s.size):bj P n L φ ⟨some d,.slice t x none (some y) none,ty,pos,af,gd⟩ (.string (s.extract 0 z.toNat)):=fun a w ha _=>by
 simp[execOp,av ha hx,av ha hy,Instr.sliceAt,run_underlying ht,Instr.slice,Instr.sliceBounds,Instr.sliceBound,asIntOf,hz]
def K0{t:TypeId}(hx:ev L x=some (.string s))(hy:ev L y=some (.int k z))(ht:P.underlying t=some .string)(hz:0<=z/\z<=s.size):bj P n L φ ⟨some d,.slice t x (some y) none none,ty,pos,af,gd⟩ (.string (s.extract z.toNat s.size)):=fun a w ha _=>by
 simp[execOp,av ha hx,av ha hy,Instr.sliceAt,run_underlying ht,Instr.slice,Instr.sliceBounds,Instr.sliceBound,asIntOf,hz]
def VC{t:TypeId}{u:Operand}{k':IntKind}{z':Int}(hx:ev L x=some (.string s))(hy:ev L y=some (.int k z))(hu:ev L u=some (.int k' z'))(ht:P.underlying t=some .string)(hz:0<=z/\z<=z'/\z'<=s.size):bj P n L φ ⟨some d,.slice t x (some y) (some u) none,ty,pos,af,gd⟩ (.string (s.extract z.toNat z'.toNat)):=fun a w ha _=>by
 have h1:0<=z'/\z'<=s.size:=og;have h2:0<=z/\z<=(z'.toNat:Int):=og;have h3:max z' 0=z':=og;have h4:¬z'<z:=og;simp[execOp,av ha hx,av ha hy,av ha hu,Instr.sliceAt,run_underlying ht,Instr.slice,Instr.sliceBounds,Instr.sliceBound,asIntOf,h1,h2,h3,h4]
def ic{t:TypeId}{u:UInt8}(hx:ev L x=some (.string s))(hy:ev L y=some (.int k z))(ht:P.underlying t=some .string)(hz:0<=z)(hu:s[z.toNat]? =some u):bj P n L φ ⟨some d,.index t x y,ty,pos,af,gd⟩ (.int .u8 u.toNat):=fun a w ha _=>by
 simp[execOp,av ha hx,av ha hy,Instr.index,run_underlying ht,asIntOf,hz,hu]
def ax(T:TypeId)(e:Int):Value:=if e=0 then .nilIface else .iface T (.int .i64 e)
theorem aL(T:TypeId){e:Int}(h:e≠0):ax T e= .iface T (.int .i64 e):=by simp[ax,h]
def C9(k:Nat){t:TypeId}{w:World}{ms:Array (String×TypeId)}(ht:P.underlying t=some (.interface ms)):(Op.equalIn (k+1) t .nilIface .nilIface).run P w= .ok true w:=by
 simp only[Op.equalIn,Sem.run_bind,run_underlying ht,Result.andThen_ok,Sem.run_pure]
def uJ(k:Nat){t T:TypeId}{w:World}{ms:Array (String×TypeId)}(ht:P.underlying t=some (.interface ms)):(Op.equalIn (k+1) t (.iface T v) .nilIface).run P w= .ok false w:=by
 simp only[Op.equalIn,Sem.run_bind,run_underlying ht,Result.andThen_ok,Sem.run_pure]
def K1{t t':TypeId}{ms:Array (String×TypeId)}{r:Bool}(hx:ev L x=some .nilIface)(ht:P.underlying t=some (.interface ms))(hr:(match op with | .eql=>some true | .neq=>some false | _=>none)=some r):bj P n L φ ⟨some d,.binOp op t x (.const .nilIface) t',ty,pos,af,gd⟩ (.bool r):=fun a w ha _=>by
 have he:(Op.equal t .nilIface .nilIface).run P w= .ok true w:=C9 9999 ht;have hy:a.eval (.const .nilIface)= .nilIface:=rfl;cases op<;>simp only[Option.some.injEq]at hr<;>(try cases hr)<;>
  simp[execOp,eqGuard,av ha hx,hy,binOp,he]
def DW{t t' T:TypeId}{ms:Array (String×TypeId)}{r:Bool}(hx:ev L x=some (.iface T v))(ht:P.underlying t=some (.interface ms))(hr:(match op with | .eql=>some false | .neq=>some true | _=>none)=some r):bj P n L φ ⟨some d,.binOp op t x (.const .nilIface) t',ty,pos,af,gd⟩ (.bool r):=fun a w ha _=>by
 have he:(Op.equal t (.iface T v) .nilIface).run P w= .ok false w:=uJ 9999 ht;have hy:a.eval (.const .nilIface)= .nilIface:=rfl;cases op<;>simp only[Option.some.injEq]at hr<;>(try cases hr)<;>
  simp[execOp,eqGuard,av ha hx,hy,binOp,he]
def VD{t t' T:TypeId}{e:Int}{ms:Array (String×TypeId)}{r:Bool}(hx:ev L x=some (ax T e))(ht:P.underlying t=some (.interface ms))(hr:(match op with | .eql=>some (decide (e=0)) | .neq=>some (decide (e≠0)) | _=>none)=some r):bj P n L φ ⟨some d,.binOp op t x (.const .nilIface) t',ty,pos,af,gd⟩ (.bool r):=by
 by_cases h:e=0
 ·subst h;refine K1 hx ht ?_;cases op<;>simp_all
 ·rw[aL T h]at hx;refine DW hx ht ?_;cases op<;>simp_all
def xG(k:Nat){t e:TypeId}{w:World}{p:Addr}(ht:P.underlying t=some (.pointer e)):(Op.equalIn (k+1) t (.pointer (some p)) (.pointer none)).run P w= .ok false w:=by
 simp only[Op.equalIn,Sem.run_bind,run_underlying ht,Result.andThen_ok,Sem.run_pure]
def run_equalIn_nil_nil(k:Nat){t e:TypeId}{w:World}(ht:P.underlying t=some (.pointer e)):(Op.equalIn (k+1) t (.pointer none) (.pointer none)).run P w= .ok true w:=by
 simp only[Op.equalIn,Sem.run_bind,run_underlying ht,Result.andThen_ok,Sem.run_pure,Option.isNone]
def VE{t t' e:TypeId}{p:Addr}{r:Bool}(hx:ev L x=some (.pointer (some p)))(ht:P.underlying t=some (.pointer e))(hr:(match op with | .eql=>some false | .neq=>some true | _=>none)=some r):bj P n L φ ⟨some d,.binOp op t x (.const (.pointer none)) t',ty,pos,af,gd⟩ (.bool r):=fun a w ha _=>by
 have he:(Op.equal t (.pointer (some p)) (.pointer none)).run P w= .ok false w:=by
  exact xG 9999 ht
 have hy:a.eval (.const (.pointer none))= .pointer none:=rfl;have b1:binOp .eql t (.pointer (some p)) (.pointer none)=(do pure (.bool (<-Op.equal t (.pointer (some p)) (.pointer none)))):=rfl;have b2:binOp .neq t (.pointer (some p)) (.pointer none)=(do pure (.bool (!(<-Op.equal t (.pointer (some p)) (.pointer none))))):=rfl;have g1:eqGuard .eql t x (.const (.pointer none)) (.pointer (some p)) (.pointer none)=pure ():=rfl;have g2:eqGuard .neq t x (.const (.pointer none)) (.pointer (some p)) (.pointer none)=pure ():=rfl;cases op<;>simp only[Option.some.injEq]at hr<;>(try cases hr)<;>
  simp only[execOp,av ha hx,hy,b1,b2,g1,g2]<;>simp[he]
def Ss{t t' e:TypeId}{b o i:Nat}{r:Bool}(hx:ev L x=some (ay b o i))(ht:P.underlying t=some (.pointer e))
  (hr:(match op with | .eql=>some false | .neq=>some true | _=>none)=some r):
  bj P n L φ ⟨some d,.binOp op t x (.const (.pointer none)) t',ty,pos,af,gd⟩ (.bool r):=VE hx ht hr
def Su{t t' e:TypeId}{r:Bool}(hx:ev L x=some (.pointer none))(ht:P.underlying t=some (.pointer e))(hr:(match op with | .eql=>some true | .neq=>some false | _=>none)=some r):bj P n L φ ⟨some d,.binOp op t x (.const (.pointer none)) t',ty,pos,af,gd⟩ (.bool r):=fun a w ha _=>by
 have he:(Op.equal t (.pointer none) (.pointer none)).run P w= .ok true w:=by
  exact run_equalIn_nil_nil 9999 ht
 have hy:a.eval (.const (.pointer none))= .pointer none:=rfl;have b1:binOp .eql t (.pointer none) (.pointer none)=(do pure (.bool (<-Op.equal t (.pointer none) (.pointer none)))):=rfl;have b2:binOp .neq t (.pointer none) (.pointer none)=(do pure (.bool (!(<-Op.equal t (.pointer none) (.pointer none))))):=rfl;have g1:eqGuard .eql t x (.const (.pointer none)) (.pointer none) (.pointer none)=pure ():=rfl;have g2:eqGuard .neq t x (.const (.pointer none)) (.pointer none) (.pointer none)=pure ():=rfl;cases op<;>simp only[Option.some.injEq]at hr<;>(try cases hr)<;>
  simp only[execOp,av ha hx,hy,b1,b2,g1,g2]<;>simp[he]
def NU{t T:TypeId}{ds:TypeDesc}(hx:ev L x=some (.iface T v))(ht:P.underlying T=some ds)(hn:∀ ms,ds≠ .interface ms):bj P n L φ ⟨some d,.typeAssert x t T true,ty,pos,af,gd⟩ (.tuple #[v,.bool true]):=fun a w ha _=>by
 simp only[execOp,av ha hx,Instr.typeAssert,Sem.run_bind,run_underlying ht,Result.andThen_ok];cases ds<;>simp_all
theorem V.min2{x y:Operand}{t t':TypeId}{k:IntKind}{a b:Int}(hx:ev L x=some (.int k a))(hy:ev L y=some (.int k b)):bj P n L φ ⟨some d,.call ⟨.builtin .min,#[x,y],#[t,t']⟩,ty,pos,af,gd⟩ (.int k (min a b)):=fun A w ha _=>by
 have:(if b<a then b else a)=min a b:=by rw[Int.min_def];split<;>split<;>omega
 simp[execOp,resolve,invoke,builtin,Builtin.min_,Builtin.min2,av ha hx,av ha hy,this]
theorem V.max2{x y:Operand}{t t':TypeId}{k:IntKind}{a b:Int}(hx:ev L x=some (.int k a))(hy:ev L y=some (.int k b)):bj P n L φ ⟨some d,.call ⟨.builtin .max,#[x,y],#[t,t']⟩,ty,pos,af,gd⟩ (.int k (max a b)):=fun A w ha _=>by
 have:(if b>a then b else a)=max a b:=by rw[Int.max_def];split<;>split<;>omega
 simp[execOp,resolve,invoke,builtin,Builtin.max_,Builtin.max2,av ha hx,av ha hy,this]
def nI{s t:TypeId}{k':IntKind}{a:Int}(hx:ev L x=some (.int k a))(hs:P.underlying s=some (.int k))(ht:P.underlying t=some (.int k'))(r:Int)(hr:k'.wrap a=r):bj P n L φ ⟨some d,.convert s t x,ty,pos,af,gd⟩ (.int k' r):=fun A w ha _=>by
 subst hr;simp[execOp,av ha hx,convert,run_underlying hs,run_underlying ht,Conv.intToInt]
end
def Gn{a b:Int}(h:a=b:=by omega):some (Value.int k a)=some (.int k b):=by rw[h]
def dW(p:Int->Bool)(m:Nat):Option Nat:=(List.range m).find? fun k=>p k
theorem fw{p:Int->Bool}{m:Nat}{k:Int}(h0:0<=k)(hk:k<m)(hp:p k=true)(hn:∀ j:Int,0<=j->j<k->p j=false):dW p m=some k.toNat:=by
 unfold dW;rw[List.find?_range_eq_some];refine⟨by rw[show((k.toNat:Nat):Int)=k from og];exact hp,eI,fun j hj=> ?_⟩;have:=hn j og og;simp[this]
theorem fx{p:Int->Bool}{m:Nat}(hn:∀ j:Int,0<=j->j<m->p j=false):dW p m=none:=by
 unfold dW;rw[List.find?_range_eq_none];intro j hj;have:=hn j og og;simp[this]
theorem sb:(∀ {p:Prop} [Decidable p],(decide p=true)=p)/\(∀ {p:Prop} [Decidable p],(decide p=false)=¬p)/\(∀ b:Bool,((!b)=true)=(b=false))/\(∀ b:Bool,((!b)=false)=(b=true))/\(∀ {a b:Bool},((!a)=b)=(a= !b))/\((!true)=false)/\((!false)=true)/\(∀ {α:Type} [BEq α] [LawfulBEq α] {a b:α},((a==b)=true)=(a=b))/\(∀ {α:Type} [BEq α] [LawfulBEq α] {a b:α},((a != b)=true)=(a≠b))/\(∀ {α:Type} {a b:α},(a≠b)=¬a=b)/\(∀ {α:Type} [BEq α] [LawfulBEq α] {a b:α},((a==b)=false)=(¬a=b))/\(∀ {α:Type} [BEq α] [LawfulBEq α] {a b:α},((a != b)=false)=(a=b))/\(∀ {a b:Int},(¬a<b)=(b<=a))/\(∀ {a b:Int},(¬a<=b)=(b<a))/\(∀ {a b:Int},(a>b)=(b<a))/\(∀ {a b:Int},(a>=b)=(b<=a))/\(∀ a b:Bool,((a&&b)=true)=(a=true/\b=true))/\(∀ a b:Bool,((a||b)=true)=(a=true\/b=true))/\(∀ a b:Bool,((a&&b)=false)=(a=false\/b=false))/\(∀ a b:Bool,((a||b)=false)=(a=false/\b=false))/\(∀ {p:Prop} [Decidable p],(¬ ¬p)=p):=by
 refine⟨?_,?_,?_,?_,?_,rfl,rfl,?_,?_,?_,?_,?_,?_,?_,?_,?_,?_,?_,?_,?_,?_⟩
 ·intro p _;simp
 ·intro p _;simp
 ·intro b;simp
 ·intro b;simp
 ·intro a b;cases a<;>cases b<;>simp
 ·intro α _ _ a b;simp
 ·intro α _ _ a b;simp
 ·intro α a b;rfl
 ·intro α _ _ a b;simp
 ·intro α _ _ a b;simp
 ·intro a b;simp
 ·intro a b;simp
 ·intro a b;rfl
 ·intro a b;rfl
 ·intro a b;simp
 ·intro a b;simp
 ·intro a b;cases a<;>cases b<;>simp
 ·intro a b;cases a<;>cases b<;>simp
 ·intro p _;simp
end Go.X

namespace Go.X
open Go
variable{z:Int}{x y:Operand}{v:Value}
def iK{c:Prop}[Decidable c]{α:Type}{a a' b b':α}(h1:c->a=a')(h2:¬c->b=b'):(if c then a else b)=(if c then a' else b'):=by
 by_cases h:c
 ·rw[if_pos h,if_pos h];exact h1 h
 ·rw[if_neg h,if_neg h];exact h2 h
def ad{α:Type}(f:Int->α)(i:Int)(v:α):Int->α:=fun j=>if j=i then v else f j
theorem ae{α:Type}(f:Int->α){i:Int}(v:α){j:Int}(h:¬j=i):ad f i v j=f j:=by simp[ad,h]
def bW{α:Type}(f:Int->Int->α)(i k:Int)(v:α):Int->Int->α:=fun j l=>if j=i/\l=k then v else f j l
theorem da{α:Type}(f:Int->α){i:Int}{v:α}(h:f i=v):ad f i v=f:=by
 funext j;unfold ad;split
 ·rename_i h2;rw[h2,h]
 ·rfl
theorem ah{α:Type}(f:Int->α)(i:Int)(v:α):ad f i v i=v:=by simp[ad]
def sZ(P:Program)(e:TypeId)(sz:Nat):Bool:=match P.info? e with
 | some i=>Nat.beq i.size sz&&Nat.ble i.bytes 1000&&Nat.blt 0 sz&&(match i.zero with
  | some z=>Nat.beq z.cells.size sz
  | none=>false)
 | none=>false
def rQ{P:Program}{e:TypeId}{sz:Nat}(h:sZ P e sz=true):∃ i z,P.info? e=some i/\i.zero=some z/\i.size=sz/\i.bytes<=1000/\z.cells.size=sz/\0<sz:=by
 unfold sZ at h;cases hi:P.info? e with
 | none=>simp[hi]at h
 | some i=>
  simp only[hi]at h;cases hz:i.zero with
  | none=>simp[hz]at h
  | some z=>
   simp only[hz,Bool.and_eq_true,Nat.beq_eq]at h;obtain⟨⟨⟨h1,h2⟩,h3⟩,h4⟩:=h;exact⟨i,z,rfl,hz,h1,Nat.le_of_ble_eq_true h2,h4,by simpa using h3⟩
def cE(C:Nat->Value)(m:Nat):List Value:=(List.range m).map C
def XM.fU{W w:World}{S:Nat->Nat->Prop}{H:List aG}(h:XM W S H w)(e:TypeId)(sz:Nat):XM W S (.row (.slice none 0 0) e sz 0 []::H) w:=
 h.fresh (fun b o hb=>by simp[aG.gL,Value.ownBlock]at hb) (ix.refl _ _) (World.ownsRow_nil w 0 e sz)
def kO(w:World)(o:Obj)(S:Nat->Nat->Prop):ix w (w.alloc o) S:=
 ⟨rfl,rfl,rfl,sq,fun b hb _=>heap_alloc_old w _ hb,fun b A' t' fz hA=>⟨A',by rw[heap_alloc_old w _ (dV hA)];exact hA,rfl,fun _ _=>rfl⟩⟩
def wA{w w':World}{S:Nat->Nat->Prop}(h:ix w.drew w' S):ix w w' S:=⟨h.os,h.tape,h.output,h.size,h.same,h.part⟩
def K2{w:World}{g:Nat}{IY cs:Array Value}{t:TypeId}{fz:Nat×Nat}(hg:w.heap[g]? =some (.cells IY t fz))(hs:cs.size=IY.size){S:Nat->Nat->Prop}(hS:∀ o,S g o):ix w (w.setRow g cs) S:=by
 refine⟨rfl,rfl,rfl,sq,fun k hk hn=>setRow_other w g k _ fun e=>hn 0 (e▸hS 0),fun k A' t' fz' hA=> ?_⟩;by_cases hk:k=g
 ·subst hk;rw[hg]at hA;simp only[Option.some.injEq,Obj.cells.injEq]at hA;obtain⟨rfl,rfl,rfl⟩:=hA;exact⟨cs,setRow_heap w k IY cs _ _ hg,hs,fun o ho=>absurd (hS o) ho⟩
 ·exact⟨A',by rw[setRow_other w g k _ hk];exact hA,rfl,fun _ _=>rfl⟩
def pW{P:Program}{w:World}{t ty e:TypeId}{p:Option Addr}{k cap m c sz b:Nat}{xs news:List Value}(ht:P.underlying t=some (.slice e))(hr:sZ P e sz=true)(iA:(aG.row (.slice p k cap) e sz k xs).holds w)(hm:0<m)(hl:news.length=m*sz)(VF:∀ j u,news[j]? =some u->w.cell? ((⟨b,0,none⟩:Addr).add j)=some u)(h1:∀ u∈news,u.oneCell'=true)(hk:k+m<=100000000000):∃ p' dv w',(Builtin.append_ #[t,t] ty #[.slice p k cap,.slice (some ⟨b,0,none⟩) m c]).run P w= .ok (.slice p' (k+m) dv) w'/\(aG.row (.slice p' (k+m) dv) e sz (k+m) (xs++news)).holds w'/\ix w w' (fun b o=>(aG.row (.slice p k cap) e sz k xs).gL b o)/\(∀ b o,(aG.row (.slice p' (k+m) dv) e sz (k+m) (xs++news)).gL b o->(aG.row (.slice p k cap) e sz k xs).gL b o\/w.heap.size<=b):=by
 obtain⟨i,z,hi,hz,qH,hby,ZS,ND⟩:=rQ hr;subst qH;have uK:k+m<=maxLen:=by simp only[maxLen];omega
 have hlen:(xs++news).length=(k+m)*i.size:=by rw[List.length_append,iA.1,hl,Nat.add_mul]
 have yo:(k+m)*i.bytes<=140737488355328:=Nat.le_trans (Nat.mul_le_mul hk hby) og;have grown:∀ (IY:Nat),
   (aG.row (.slice (some ⟨w.heap.size,0,none⟩) (k+m) (grownCap w (k+m) IY e)) e i.size (k+m) (xs++news)).holds (w.drew.alloc (.cells (xs.toArray++news.toArray++Builtin.zeroCells z.cells (grownCap w (k+m) IY e-(k+m))) e)):=by
  intro IY;have NW:=grownCap_ge w (k+m) IY e;have Sv:grownCap w (k+m) IY e<=maxLen:=grownCap_le_maxLen w (k+m) IY e uK;refine⟨hlen,.inr ⟨w.heap.size,_,_,rfl,Nat.zero_le _,heap_alloc_new w.drew _,NW,Sv,?_,?_⟩⟩
  ·simp only[Array.size_append,List.size_toArray,size_zeroCells,ZS,iA.1,hl,<-Nat.add_mul];congr 1;omega
  ·simp only[Array.toList_append,List.append_assoc];rw[<-List.append_assoc,<-hlen];exact List.take_left
 have adl:∀ (o:Obj) S,ix w (w.drew.alloc o) S:=fun o S=>wA (kO w.drew o S);have adm:=iA;rcases iA.2 with⟨hv,rfl⟩ | ⟨g,qx,cur,hv,_,hg,hnc,Sv,Dq,ahV⟩
 ·simp only[Value.slice.injEq]at hv;obtain⟨rfl,_,rfl⟩:=hv;have hx:xs=[]:=List.eq_nil_of_length_eq_zero (by simpa using iA.1);subst hx;have hr:=run_append_nil (P:=P) w t ty e i z ht hi hz ⟨b,0,none⟩ m c news hl VF hm (by simp only[maxLen]at uK;omega) (by simp only[Nat.zero_add]at yo;omega);have hgr:=grown 0;simp only[Nat.zero_add,List.nil_append,Array.empty_append]at hgr ⊢;exact⟨_,_,_,hr,hgr,adl _ _,fun b' o hb=>.inr (by simp only[aG.gL,Value.ownBlock,Option.some.injEq]at hb;omega)⟩
 ·simp only[Value.slice.injEq,true_and]at hv;obtain⟨rfl,rfl⟩:=hv;by_cases mM:k+m<=cap
  ·have ahW:k*i.size+news.length<=cur.size:=by rw[hl,Dq,<-Nat.add_mul];exact Nat.mul_le_mul_right _ mM
   have hr:=run_append_room (P:=P) w t ty e i ht hi g k cap cur hg ⟨b,0,none⟩ m c news hl VF h1 mM ahW;have ahX:(cur.toList.take (k*i.size)++news++cur.toList.drop (k*i.size+news.length)).toArray.size=cur.size:=by
    simp only[List.size_toArray,List.length_append,List.length_take,List.length_drop,Array.length_toList];omega
   refine⟨_,_,_,hr,⟨hlen,.inr ⟨g,cap,_,rfl,Nat.zero_le _,setRow_heap w g cur _ e _ hg,mM,Sv,ahX.trans Dq,?_⟩⟩,K2 hg ahX fun _=>rfl,fun b' o hb=>.inl hb⟩;rw[ahV,<-hlen];exact List.take_left
  ·have holds:∀ j u,xs[j]? =some u->w.cell? ((⟨g,0,none⟩:Addr).add j)=some u:=World.ownsRow.cells adm (g:=g) rfl;have hr:=run_append_grow (P:=P) w t ty e i z ht hi hz ⟨g,0,none⟩ k cap xs adm.1 holds ⟨b,0,none⟩ m c news hl VF og (by simp only[maxLen]at uK;omega) (growslice_fits og yo);exact⟨_,_,_,hr,grown cap,adl _ _,fun b' o hb=>.inr (by simp only[aG.gL,Value.ownBlock,Option.some.injEq]at hb;omega)⟩
section
variable{P:Program}{n:Fr}{Q:Exit->Act->World->Prop}{L:PF}{ops:Md}{rest:List Oper}{ty:TypeId}{pos:String}{af:Array Edge}{d:Nat}
variable{W:World}{S:Nat->Nat->Prop}{H H':List aG}
theorem s5{a:Act}(ha:ra n L a):∀ (l:List (Nat×Operand)) (us:List (Nat×Value)),l.mapM (fun x=>(ev L x.2).map fun u=>(x.1,u))=some us->l.map (fun x=>(x.1,a.eval x.2))=us
 | [],us,h=>by simp at h;subst h;rfl
 | x::r,us,h=>by
  simp only[List.mapM_cons,Option.bind_eq_bind]at h;cases he:ev L x.2 with
  | none=>simp[he]at h
  | some u=>
   simp only[he,Option.map_some,Option.bind_some]at h;cases hr:r.mapM (fun x=>(ev L x.2).map fun u=>(x.1,u))with
   | none=>simp[hr]at h
   | some us'=>
    simp[hr]at h;subst h;simp only[List.map_cons];rw[s5 ha r us' hr,av ha he]
def XO.buildSlice{t e:TypeId}{parts:Array (Nat×Operand)}{vs:Array (Nat×Value)}{k m:Nat}{A:Array Value}(hp:parts.toList.mapM (fun x=>(ev L x.2).map fun u=>(x.1,u))=some vs.toList)(hb:∀ w,(Instr.buildSlice t k vs).run P w= .ok (.slice (some ⟨w.heap.size,0,none⟩) k k) (w.alloc (.cells A e)))(hA:A.size=m)(hd:Nat.blt d n.sz=true)(h:∀ b,XO P n ops Q rest ((d,.slice (some ⟨b,0,none⟩) k k)::L) (XM W S (.cells b 0 m (cellsOf A)::H))):XO P n ops Q (⟨some d,.buildSlice t k parts,ty,pos,af,none⟩::rest) L (XM W S H):=
 XO.op rfl fun a w ha hw=>by
  have nH:=hw.alloc A e (cellsOf A) fun i hi=>iJ _ _ hi;rw[hA]at nH;unfold Oper.wp;have hv:parts.map (fun (i,x)=>(i,a.eval x))=vs:=by
   apply Array.toList_inj.1;rw[Array.toList_map];exact s5 ha _ _ hp
  have:(execOp a.eval ⟨some d,.buildSlice t k parts,ty,pos,af,none⟩).run P w= .ok (.value (.slice (some ⟨w.heap.size,0,none⟩) k k)) (w.alloc (.cells A e)):=by
   simp only[execOp,hv,Sem.run_bind,hb,Result.andThen_ok,Sem.run_pure]
  rw[this];exact h _ _ _ (ha.put hd _) nH
def XO.append{t e:TypeId}{x y:Operand}{p:Option Addr}{k cap m c sz b N:Nat}{xs:List Value}{C:Nat->Value}(hx:ev L x=some (.slice p k cap))(hy:ev L y=some (.slice (some ⟨b,0,none⟩) m c))(ht:P.underlying t=some (.slice e))(hr:sZ P e sz=true)(hH:ox H (.row (.slice p k cap) e sz k xs) H')(hN:lR H (.cells b 0 N C))(hNm:N=m*sz)(h1:(cE C N).all one=true)(hm:0<m)(hk:k+m<=100000000000)(hd:Nat.blt d n.sz=true)(h:∀ p' dv,XO P n ops Q rest ((d,.slice p' (k+m) dv)::L) (XM W S (.row (.slice p' (k+m) dv) e sz (k+m) (xs++cE C N)::H'))):XO P n ops Q (⟨some d,.call ⟨.builtin .append,#[x,y],#[t,t]⟩,ty,pos,af,none⟩::rest) L (XM W S H):=
 XO.op rfl fun a w ha hw=>by
  have hc:(aG.cells b 0 N C).holds w:=hw.fB.1 _ hN.mem;have iA:(aG.row (.slice p k cap) e sz k xs).holds w:=hw.fB.1 _ (hH.cG.mem_iff.2 sq);obtain⟨p',dv,w',h3,h4,h5,h6⟩:=pW (ty:=ty) (c:=c) (b:=b) (news:=cE C N) ht hr iA hm (by simp[cE,hNm]) (fun j u hj=>by
    simp only[cE,List.getElem?_map,Option.map_eq_some_iff]at hj
    obtain⟨j',hj1,rfl⟩:=hj
    have K3:j<N:=by
     have:=(List.getElem?_eq_some_iff.1 hj1).1
     simpa using this
    have hj3:j'=j:=by
     have:=(List.getElem?_eq_some_iff.1 hj1).2
     simpa using this.symm
    subst hj3
    have hcc:=eS hc K3
    have e0:(⟨b,0,none⟩:Addr).add j'=⟨b,0+j',none⟩:=by
     cases j'<;>simp[Addr.add]
    rw[e0];exact hcc) (fun u hu=>pV (List.all_eq_true.1 h1 u hu)) hk
  have yp:=hw.cC hH rfl h6 h5 h4;unfold Oper.wp;have:(execOp a.eval ⟨some d,.call ⟨.builtin .append,#[x,y],#[t,t]⟩,ty,pos,af,none⟩).run P w= .ok (.value (.slice p' (k+m) dv)) w':=by
   simp[execOp,resolve,invoke,builtin,av ha hx,av ha hy,h3]
  rw[this];exact h _ _ _ _ (ha.put hd _) yp
def iL{t e:TypeId}{parts:Array (Nat×Operand)}{vs:Array (Nat×Value)}{k sz:Nat}{A:Array Value}(hp:parts.toList.mapM (fun x=>(ev L x.2).map fun u=>(x.1,u))=some vs.toList)(hb:∀ w,(Instr.buildSlice t k vs).run P w= .ok (.slice (some ⟨w.heap.size,0,none⟩) k k) (w.alloc (.cells A e)))(hA:A.size=k*sz)(hk:k<=1000000)(hd:Nat.blt d n.sz=true)(h:∀ b,XO P n ops Q rest ((d,.slice (some ⟨b,0,none⟩) k k)::L) (XM W S (.row (.slice (some ⟨b,0,none⟩) k k) e sz k A.toList::H))):XO P n ops Q (⟨some d,.buildSlice t k parts,ty,pos,af,none⟩::rest) L (XM W S H):=
 XO.op rfl fun a w ha hw=>by
  have nH:XM W S (.row (.slice (some ⟨w.heap.size,0,none⟩) k k) e sz k A.toList::H) (w.alloc (.cells A e)):=by
   refine hw.fresh (fun b o hb=>by simp only[aG.gL,Value.ownBlock,Option.some.injEq]at hb;omega) (kO w _ _) ⟨by simp[hA],.inr ⟨w.heap.size,k,A,rfl,Nat.zero_le _,heap_alloc_new w _,Nat.le_refl _,by simp only[maxLen];omega,hA,?_⟩⟩;rw[<-hA,<-Array.length_toList,List.take_length]
  unfold Oper.wp;have hv:parts.map (fun (i,x)=>(i,a.eval x))=vs:=by
   apply Array.toList_inj.1;rw[Array.toList_map];exact s5 ha _ _ hp
  have:(execOp a.eval ⟨some d,.buildSlice t k parts,ty,pos,af,none⟩).run P w= .ok (.value (.slice (some ⟨w.heap.size,0,none⟩) k k)) (w.alloc (.cells A e)):=by
   simp only[execOp,hv,Sem.run_bind,hb,Result.andThen_ok,Sem.run_pure]
  rw[this];exact h _ _ _ (ha.put hd _) nH
def cell_of_row{w:World}{g k cap sz j:Nat}{e:TypeId}{xs:List Value}(h:(aG.row (.slice (some ⟨g,0,none⟩) k cap) e sz k xs).holds w)(hj:xs[j]? =some v):w.cell? ⟨g,0+j,none⟩=some v:=by
 have:=World.ownsRow.cells h (g:=g) rfl j v hj;have e0:(⟨g,0,none⟩:Addr).add j=⟨g,0+j,none⟩:=by cases j<;>simp[Addr.add]
 rw[e0]at this;exact this
def Ba{t:TypeId}{g i k cap sz:Nat}{e:TypeId}{xs:List Value}{φ:World->Prop}{gd:Option (Nat×Bool)}(hx:ev L x=some (ay g 0 i))(hH:∀ w,φ w->(aG.row (.slice (some ⟨g,0,none⟩) k cap) e sz k xs).holds w)(hv:xs[i]? =some v)(ht:jL P t=true):bj P n L φ (⟨some d,.load t x,ty,pos,af,gd⟩) v:=fun a w ha hw=>by
 have hc:w.cell? ⟨g,i,none⟩=some v:=by
  have:=cell_of_row (hH w hw) hv;rwa[Nat.zero_add]at this
 simp[execOp,av ha hx,Instr.loadAt,Instr.sureAddr,ay,gZ ht hc]
end
def gi(zs:List Int):List Value:=zs.map (Value.int .i64)
def jK(zs:List Int)(z:Int):Int:=zs.getD z.toNat 0
def ints_at{zs:List Int}(h:0<=z/\z<zs.length:=by omega):(gi zs)[0+z.toNat*1]? =some (.int .i64 (jK zs z)):=by
 have h2:z.toNat<zs.length:=og;simp[gi,jK,List.getD,h2]
def aal{zs ws:List Int}(hl:zs.length=ws.length)(h:∀ z:Int,0<=z->z<zs.length->jK zs z=jK ws z):zs=ws:=by
 apply List.ext_getElem hl;intro i h1 h2;have:=h i og og;simpa [jK,List.getD,h1,h2]using this
abbrev dH(p:Option Addr)(cap:Nat)(e:TypeId)(zs:List Int):aG:=.row (.slice p zs.length cap) e 1 zs.length (gi zs)
def K4(zs:List Int)(z:Int):gi zs++[.int .i64 z]=gi (zs++[z]):=by simp[gi]
section
variable{P:Program}{n:Fr}{Q:Exit->Act->World->Prop}{L:PF}{ops:Md}{rest:List Oper}{ty:TypeId}{pos:String}{af:Array Edge}{d:Nat}
variable{W:World}{S:Nat->Nat->Prop}{H H':List aG}
def lY{t e:TypeId}{p:Option Addr}{cap c b:Nat}{zs:List Int}(hx:ev L x=some (.slice p zs.length cap))(hy:ev L y=some (.slice (some ⟨b,0,none⟩) 1 c))(ht:P.underlying t=some (.slice e))(hr:sZ P e 1=true)(hH:ox H (dH p cap e zs) H')(hN:lR H (.cells b 0 1 (cellsOf #[.int .i64 z])))(hk:zs.length+1<=100000000000)(hd:Nat.blt d n.sz=true)(h:∀ p' dv,XO P n ops Q rest ((d,.slice p' (zs++[z]).length dv)::L) (XM W S (dH p' dv e (zs++[z])::H'))):XO P n ops Q (⟨some d,.call ⟨.builtin .append,#[x,y],#[t,t]⟩,ty,pos,af,none⟩::rest) L (XM W S H):=
 XO.append hx hy ht hr hH hN rfl rfl og hk hd (fun p' dv=>by
  have e1:zs.length+1=(zs++[z]).length:=sq
  have e2:gi zs++cE (cellsOf #[.int .i64 z]) 1=gi (zs++[z]):=K4 zs z
  rw[e1,e2]
  exact h p' dv)
def aam{k:Nat}{ps:List Nat}{cs:List (Nat×Nat)}{fn:Func}{R:Ending->World->Prop}{a b o i m sz:Nat}{t:TypeId}{C:Nat->Value}(hr:fn.results= #[.cell a t])(hv:lk L a=some (ay b o i))(hH:lR H (.cells b o m C))(hC:i+sz<=m/\dB C i sz=v)(ht:oM P t=true)(hs:fE P t=some sz)(h:∀ w,XM W S H w->R (.returned v) w):XE (fr k ps cs) (bodyPost P fn R) .ret L (XM W S H):=fun x w ha hw=>
 ⟨ha.1,v,by
  have hc:(aG.cells b o m C).holds w:=hw.fB.1 _ hH.mem
  have hl:=ke (P:=P) (w:=w) (b:=b) (o:=o) (i:=i) (C:=C) ht hs fun l hl=>eS hc
  rw[hC.2]at hl
  have he:x.tmps.getD a undef= .pointer (some ⟨b,o+i,none⟩):=ha.2.2 a _ hv
  have he2:x.tmps[a]?.getD undef= .pointer (some ⟨b,o+i,none⟩):=by simpa using he
  simp[results,hr,he2,asAddr,hl],h w hw⟩
def IZ(f:Int->Int)(m:Nat):Array Value:=((List.range m).map fun (j:Nat)=>Value.int .i64 (f (j:Int))).toArray
def mu{t e:TypeId}{f:Int->Int}{m:Nat}{k:IntKind}{φ:World->Prop}{gd:Option (Nat×Bool)}(hx:ev L x=some (.agg (IZ f m)))(hy:ev L y=some (.int k z))(ht:P.underlying t=some (.array m e))(hs:fE P e=some 1)(he:jL P e=true)(hz:0<=z/\z<m:=by omega):bj P n L φ ⟨some d,.index t x y,ty,pos,af,gd⟩ (.int .i64 (f z)):=fun a w ha _=>by
 have h2:z.toNat<m:=og;have h3:((z.toNat:Nat):Int)=z:=og;have hp:(part e (IZ f m) (z.toNat*1)).run P w= .ok (.int .i64 (f z)) w:=by
  simp[part,kN he,IZ,h2,h3]
 simp only[execOp,av ha hx,av ha hy,Instr.index,asIntOf,Sem.run_bind,Sem.run_pure,Result.andThen_ok,run_underlying ht,hz,run_sizeOf hs];simp only[Sem.run_bind,run_sizeOf hs,Result.andThen_ok,hp,true_and,and_self,if_true]
def s8{t e:TypeId}{A:Array Value}{m:Nat}{k:IntKind}{φ:World->Prop}{gd:Option (Nat×Bool)}(hx:ev L x=some (.agg A))(hy:ev L y=some (.int k z))(ht:P.underlying t=some (.array m e))(hs:fE P e=some 1)(he:jL P e=true)(hz:0<=z/\z<m)(hv:A[z.toNat]? =some v):bj P n L φ ⟨some d,.index t x y,ty,pos,af,gd⟩ v:=fun a w ha _=>by
 have hp:(part e A (z.toNat*1)).run P w= .ok v w:=by
  simp[part,kN he,hv]
 simp only[execOp,av ha hx,av ha hy,Instr.index,asIntOf,Sem.run_bind,Sem.run_pure,Result.andThen_ok,run_underlying ht,hz,run_sizeOf hs];simp only[Sem.run_bind,run_sizeOf hs,Result.andThen_ok,hp,true_and,and_self,if_true]
end
def Sw(f:Int->Bool)(m:Nat):Array Value:=((List.range m).map fun (j:Nat)=>Value.bool (f (j:Int))).toArray
end Go.X

namespace Go.X
open Go
variable{x y:Operand}{p:Option Addr}{v:Value}
abbrev aN(p:Option Addr)(cap:Nat)(e:TypeId)(sz k:Nat)(C:Nat->Value):aG:=.row (.slice p k cap) e sz k (cE C (k*sz))
theorem eW{C:Nat->Value}{m i:Nat}(h:i<m:=by omega):(cE C m)[i]? =some (C i):=by simp[cE,h]
theorem aS(C:Nat->Value)(m:Nat):(cE C m).length=m:=by simp[cE]
theorem NX(C:Nat->Value)(m i:Nat)(v:Value):(cE C m).set i v=cE (ep C i v) m:=by
 apply List.ext_getElem?;intro j;by_cases hj:j<m
 ·rw[eW hj,List.getElem?_set,aS];by_cases h:i=j
  ·subst h;simp[ep,hj]
  ·have h2:¬j=i:=fun e=>h e.symm;rw[if_neg h,eW hj];simp[ep,h2]
 ·rw[List.getElem?_eq_none (by simp[aS];omega),List.getElem?_eq_none (by simp[aS];omega)]
theorem Bb{w:World}{g cap sz k i:Nat}{e:TypeId}{C:Nat->Value}(h:(aN (some ⟨g,0,none⟩) cap e sz k C).holds w)(hi:i<k*sz:=by omega):w.cell? ⟨g,i,none⟩=some (C i):=by
 have:=cell_of_row h (eW hi);rwa[Nat.zero_add]at this
def pH{w:World}{g cap sz k:Nat}{e:TypeId}{xs:List Value}(h:(aG.row (.slice (some ⟨g,0,none⟩) k cap) e sz k xs).holds w):∃ cur,w.heap[g]? =some (.cells cur e (0,0))/\k<=cap/\cap<=maxLen/\cur.size=cap*sz/\cur.toList.take (k*sz)=xs:=by
 rcases h.2 with⟨hv,_⟩ | ⟨g',dv,cur,hv,_,h1,h2,h3,h4,h5⟩
 ·cases hv
 ·simp only[Value.slice.injEq,Option.some.injEq,Addr.mk.injEq,and_true,true_and]at hv;obtain⟨rfl,rfl⟩:=hv;exact⟨cur,h1,h2,h3,h4,h5⟩
def XM.Qp{W w:World}{S:Nat->Nat->Prop}{H H':List aG}{g cap sz k i:Nat}{e:TypeId}{C:Nat->Value}(h:XM W S H w)(hd:ox H (aN (some ⟨g,0,none⟩) cap e sz k C) H')(hi:i<k*sz)(v:Value):XM W S (aN (some ⟨g,0,none⟩) cap e sz k (ep C i v)::H') (w.setCell ⟨g,i,none⟩ v):=by
 have hh:(aN (some ⟨g,0,none⟩) cap e sz k C).holds w:=h.fB.1 _ (hd.cG.mem_iff.2 sq);obtain⟨cur,h1,h2,h3,h4,h5⟩:=pH hh;have hS:(aN (some ⟨g,0,none⟩) cap e sz k C).gL g (0+i):=rfl;have hk:ix w (w.setCell ⟨g,i,none⟩ v) (fun b o=>(aN (some ⟨g,0,none⟩) cap e sz k C).gL b o):=by
  have:=ix.setCell h1 v hS;rwa[Nat.zero_add]at this
 refine h.cC (e':=aN (some ⟨g,0,none⟩) cap e sz k (ep C i v)) hd rfl (fun b' o' ha=>.inl ha) hk ?_;refine⟨by rw[aS],.inr ⟨g,cap,cur.setIfInBounds i v,rfl,Nat.zero_le _,by simp[World.setCell,Array.getElem?_modify,h1],h2,h3,by simpa using h4,?_⟩⟩;rw[Array.toList_setIfInBounds,List.take_set,h5,NX]
section
variable{P:Program}{n:Fr}{Q:Exit->Act->World->Prop}{L:PF}{ops:Md}{rest:List Oper}{ty:TypeId}{pos:String}{af:Array Edge}{d:Nat}
variable{W:World}{S:Nat->Nat->Prop}{H H':List aG}
def u6{w:World}{g cap sz k i:Nat}{e:TypeId}{C:Nat->Value}(h:(aN (some ⟨g,0,none⟩) cap e sz k C).holds w)(hi:i<k*sz)(hv:one v=true):(store ⟨g,i,none⟩ v).run P w= .ok () (w.setCell ⟨g,i,none⟩ v):=by
 rw[run_store P w _ v .plain (pV hv),Bb h hi];obtain⟨cur,h1,h2,h3,h4,h5⟩:=pH h;have:w.frozen? ⟨g,i,none⟩=false:=by
  simp only[World.frozen?,h1];simp
 simp[this]
def xP{g cap sz k:Nat}{e:TypeId} :∀ (vs:List Value) (i j:Nat) (C:Nat->Value) (w:World),XM W S (aN (some ⟨g,0,none⟩) cap e sz k C::H) w->i+j+vs.length<=k*sz->vs.all one=true->
  ∃ w',(storeCells ⟨g,i,none⟩ vs j).run P w= .ok () w'/\XM W S (aN (some ⟨g,0,none⟩) cap e sz k (cY C (i+j) vs)::H) w'
 | [],i,j,C,w,h,_,_=>⟨w,by simp[storeCells],h⟩
 | v::r,i,j,C,w,h,hl,h1=>by
  simp only[List.all_cons,Bool.and_eq_true]at h1;simp only[List.length_cons]at hl;have h2:=h.Qp .aa (i:=i+j) og v;obtain⟨w',hr,hx⟩:=xP r i (j+1) _ _ h2 og h1.2;refine⟨w',?_,by simpa only[cY,Nat.add_assoc]using hx⟩;simp only[storeCells,Sem.run_bind,pU];rw[show(⟨g,i,none⟩:Addr).add j=⟨g,i+j,none⟩from by
   have:=pU g 0 i j
   simpa only[Nat.zero_add]using this,u6 (show(aN (some ⟨g,0,none⟩) cap e sz k C).holds w from h.fB.1 _ sq) og h1.1]
  exact hr
def DX{t:TypeId}{g cap sz k i m:Nat}{e:TypeId}{C:Nat->Value}{cs:Array Value}{a:Act}{w:World}(ha:ra n L a)(hx:ev L x=some (ay g 0 i))(hy:ev L y=some (.agg cs))(hw:XM W S (aN (some ⟨g,0,none⟩) cap e sz k C::H) w)(hi:i+m<=k*sz)(hv:cs.toList.all one=true/\cs.size=m)(hs:fE P t=some m):∃ w',(execOp a.eval ⟨none,.store t x y,ty,pos,af,none⟩).run P w= .ok .skip w'/\XM W S (aN (some ⟨g,0,none⟩) cap e sz k (cY C i cs.toList)::H) w':=by
 obtain⟨w',hr,nH⟩:=xP (P:=P) cs.toList i 0 C w hw eI hv.1;simp only[Nat.add_zero]at nH;exact⟨w',by simp[execOp,av ha hx,av ha hy,Instr.storeAt,Instr.sureAddr,ay,storeVar,Value.cells,run_sizeOf hs,hv.2,hr],nH⟩
def XO.aan{t:TypeId}{g cap sz k i m:Nat}{e:TypeId}{C C':Nat->Value}{cs:Array Value}(hx:ev L x=some (ay g 0 i))(hy:ev L y=some (.agg cs))(hH:o5 H (aN (some ⟨g,0,none⟩) cap e sz k C) (aN (some ⟨g,0,none⟩) cap e sz k C') H')(hi:i+m<=k*sz/\cY C i cs.toList=C')(hv:cs.toList.all one=true/\cs.size=m)(hs:fE P t=some m)(h:XO P n ops Q rest L (XM W S H')):XO P n ops Q (⟨none,.store t x y,ty,pos,af,none⟩::rest) L (XM W S H):=
 XO.op rfl fun a w ha hw=>by
  obtain⟨H1,hd,hp⟩:=hH.del;obtain⟨w',hr,nH⟩:=DX (ty:=ty) (pos:=pos) (af:=af) ha hx hy (hw.cG hd.cG) hi.1 hv hs;rw[hi.2]at nH;unfold Oper.wp;rw[hr];exact h _ _ ha (nH.cG hp)
def aao{t:TypeId}{g i k cap sz:Nat}{e:TypeId}{C:Nat->Value}{φ:World->Prop}{gd:Option (Nat×Bool)}(hx:ev L x=some (ay g 0 i))(hH:∀ w,φ w->(aN (some ⟨g,0,none⟩) cap e sz k C).holds w)(hv:i<k*sz/\C i=v)(ht:jL P t=true):
  bj P n L φ (⟨some d,.load t x,ty,pos,af,gd⟩) v:=Ba hx hH (by rw[eW hv.1,hv.2]) ht
def VG{t:TypeId}{g i k cap sz m:Nat}{e:TypeId}{C:Nat->Value}{φ:World->Prop}{gd:Option (Nat×Bool)}(hx:ev L x=some (ay g 0 i))(hH:∀ w,φ w->(aN (some ⟨g,0,none⟩) cap e sz k C).holds w)(hv:i+m<=k*sz/\dB C i m=v)(ht:oM P t=true)(hs:fE P t=some m):bj P n L φ (⟨some d,.load t x,ty,pos,af,gd⟩) v:=fun a w ha hw=>by
 have hr:=ke (P:=P) (w:=w) (b:=g) (o:=0) (i:=i) (C:=C) ht hs (fun l hl=>by
  have:=Bb (hH w hw) (i:=i+l)
  rwa[Nat.zero_add])
 rw[hv.2]at hr;simp only[Nat.zero_add]at hr;simp[execOp,av ha hx,Instr.loadAt,Instr.sureAddr,ay,hr]
def XO.VH{t e0:TypeId}{k k2 cap sz:Nat}{kk:IntKind}{z:Int}{e:TypeId}{C C':Nat->Value}(hx:ev L x=some (.slice p k cap))(hy:ev L y=some (.int kk z))(ht:P.underlying t=some (.slice e0))(hs:fE P e0=some sz)(hz:z=(k2:Int))(Dr:k2<=k)(hk:k<=cap)(hC:∀ i,i<k2*sz->C' i=C i)(hH:o5 H (aN p cap e sz k C) (aN p cap e sz k2 C') H')(hd:Nat.blt d n.sz=true)(h:XO P n ops Q rest ((d,.slice p k2 cap)::L) (XM W S H')):XO P n ops Q (⟨some d,.slice t x none (some y) none,ty,pos,af,none⟩::rest) L (XM W S H):=
 XO.mono (M':=XM W S H') (fun w hw=>by
  obtain⟨H1,ahY,hp⟩:=hH.del
  have iA:(aN p cap e sz k C).holds w:=hw.fB.1 _ (ahY.cG.mem_iff.2 sq)
  have akz:(aN p cap e sz k2 C').holds w:=by
   refine⟨by rw[aS],?_⟩
   rcases iA.2 with⟨hv,hk0⟩ | ⟨g,dv,cur,hv,h0,h1,h2,h3,h4,h5⟩
   ·simp only[Value.slice.injEq]at hv
    obtain⟨rfl,rfl,rfl⟩:=hv
    have:k2=0:=og
    subst this;exact .inl ⟨rfl,rfl⟩
   ·simp only[Value.slice.injEq,true_and]at hv
    obtain⟨rfl,rfl⟩:=hv
    refine .inr ⟨g,cap,cur,rfl,h0,h1,og,h3,h4,?_⟩
    have hle:k2*sz<=k*sz:=Nat.mul_le_mul_right _ Dr
    have:=congrArg (List.take (k2*sz)) h5
    rw[List.take_take,Nat.min_eq_left hle]at this
    rw[this]
    apply List.ext_getElem?
    intro j
    by_cases hj:j<k2*sz
    ·rw[List.getElem?_take_of_lt hj,eW,eW hj,hC j hj]
    ·rw[List.getElem?_eq_none (by rw[List.length_take,aS];exact Nat.le_trans (Nat.min_le_left _ _) og),List.getElem?_eq_none (by rw[aS];omega)]
  have yp:=hw.cC (e':=aN p cap e sz k2 C') ahY rfl (fun b o hb=>.inl (by cases p<;>exact hb)) (ix.refl _ _) akz
  exact yp.cG hp) (XO.v (fun a w ha _=>by
  subst hz
  have hzc:(k2:Int)<=(cap:Int):=og
  have:(execOp a.eval ⟨some d,.slice t x none (some y) none,ty,pos,af,none⟩).run P w= .ok (.value (.slice p k2 cap)) w:=by
   have KH:(if cap=0 then p else p.map fun x=>x.add (0*sz))=p:=by
    split
    ·rfl
    ·cases p with
     | none=>rfl
     | some a=>simp[Addr.add]
   have hk3:k2<=cap:=og
   simp[execOp,av ha hx,av ha hy,Instr.sliceAt,run_underlying ht,Instr.slice,Instr.sliceBounds,Instr.sliceBound,asIntOf,hk3,run_sizeOf hs]
   simpa using KH
  exact this) (by simp[hd,cQ]) h)
def DY{w:World}{k cap sz:Nat}{e:TypeId}{xs:List Value}(h:(aG.row (.slice p k cap) e sz k xs).holds w):k<=cap:=by
 rcases h.2 with⟨hv,h0⟩ | ⟨g,dv,cur,hv,_,_,h2,_⟩
 ·omega
 ·simp only[Value.slice.injEq,true_and]at hv;omega
def yq{t e:TypeId}{k cap m c sz b N:Nat}{C C1 C2:Nat->Value}(hx:ev L x=some (.slice p k cap))(hy:ev L y=some (.slice (some ⟨b,0,none⟩) m c))(ht:P.underlying t=some (.slice e))(hr:sZ P e sz=true)(hH:ox H (aN p cap e sz k C) H')(hN:lR H (.cells b 0 N C1))(hNm:N=m*sz)(h1:(cE C1 N).all one=true)(hm:0<m)(hk:k+m<=100000000000)(hC:∀ i,i<(k+m)*sz->C2 i=if i<k*sz then C i else C1 (i-k*sz))(hd:Nat.blt d n.sz=true)(h:∀ p' dv,XO P n ops Q rest ((d,.slice p' (k+m) dv)::L) (XM W S (aN p' dv e sz (k+m) C2::H'))):XO P n ops Q (⟨some d,.call ⟨.builtin .append,#[x,y],#[t,t]⟩,ty,pos,af,none⟩::rest) L (XM W S H):=
 XO.append hx hy ht hr hH hN hNm h1 hm hk hd (fun p' dv=>by
  have e2:cE C (k*sz)++cE C1 N=cE C2 ((k+m)*sz):=by
   apply List.ext_getElem?
   intro j
   have hl:(k+m)*sz=k*sz+N:=by rw[hNm,Nat.add_mul]
   by_cases hj:j<k*sz
   ·rw[List.getElem?_append_left (by rw[aS];exact hj),eW hj,eW,hC j og,if_pos hj]
   ·by_cases K3:j<(k+m)*sz
    ·rw[List.getElem?_append_right (by rw[aS];omega),aS,eW,eW K3,hC j K3,if_neg hj]
    ·rw[List.getElem?_eq_none (by simp[aS];omega),List.getElem?_eq_none (by simp[aS];omega)]
  rw[e2]
  exact h p' dv)
end
end Go.X

namespace Go.X
open Go
variable{op:BinOp}{k:IntKind}{x y:Operand}
def K5{x t:Nat}(ht:x.testBit t=true)(hl:∀ j,j<t->x.testBit j=false):x%2^(t+1)=2^t:=by
 apply Nat.eq_of_testBit_eq;intro i;rw[Nat.testBit_mod_two_pow,Nat.testBit_two_pow];by_cases h:i=t
 ·subst h;simp[ht]
 ·by_cases h2:i<t
  ·simp[hl i h2];omega
  ·have:¬i<t+1:=og;simp[this];omega
def DZ{x:Nat}(hx:x≠0):∃ t,x.testBit t=true/\∀ j,j<t->x.testBit j=false:=by
 obtain⟨i,hi⟩:=Nat.exists_testBit_of_ne_zero hx;obtain⟨t,h1,h2⟩:=exists_least (p:=fun i=>x.testBit i=true) ⟨i,hi⟩;refine⟨t,h1,fun j hj=> ?_⟩;cases hb:x.testBit j with
 | false=>rfl
 | true=>have:=h2 j hb;omega
theorem Sx{x t:Nat}(ht:x.testBit t=true)(hl:∀ j,j<t->x.testBit j=false)(j:Nat):(x&&&(x-1)).testBit j=(x.testBit j&& !decide (j=t)):=by
 have hm:=K5 ht hl;have hd:=Nat.div_add_mod x (2^(t+1));rw[hm]at hd;have hp:0<2^t:=Nat.two_pow_pos t;have KI:x-1=2^(t+1)*(x/2^(t+1))+(2^t-1):=og;have sW:2^t<2^(t+1):=Nat.pow_lt_pow_right og og;rw[Nat.testBit_and];by_cases h1:j<t
 ·simp[hl j h1]
 ·by_cases h2:j=t
  ·subst h2;rw[KI,Nat.testBit_two_pow_mul_add _ og];simp
  ·have h3:¬j<t+1:=og;have e1:(x-1).testBit j=x.testBit j:=by
    rw[KI,Nat.testBit_two_pow_mul_add _ og];conv=>rhs;rw[<-hd,Nat.testBit_two_pow_mul_add _ sW]
    simp[h3]
   rw[e1];simp[h2]
def Qq{x t w:Nat}(ht:x.testBit t=true)(hl:∀ j,j<t->x.testBit j=false)(hx:x<2^w)(hw:t<w):x&&&(2^w-x)=2^t:=by
 have hm:=K5 ht hl;have hd:=Nat.div_add_mod x (2^(t+1));rw[hm]at hd;have hp:0<2^t:=Nat.two_pow_pos t;have sW:2^t<2^(t+1):=Nat.pow_lt_pow_right og og;have amE:2^(t+1)=2*2^t:=by rw[Nat.pow_succ];omega
 have mK:2^w=2^(t+1)*2^(w-(t+1)):=by rw[<-Nat.pow_add];congr 1;omega
 have hq:x/2^(t+1)<2^(w-(t+1)):=by
  rw[Nat.div_lt_iff_lt_mul (Nat.two_pow_pos _),Nat.mul_comm,<-mK];exact hx
 have KI:2^w-x=2^(t+1)*(2^(w-(t+1))-(x/2^(t+1)+1))+2^t:=by
  have e:2^(t+1)*(2^(w-(t+1))-(x/2^(t+1)+1))=2^w-(2^(t+1)*(x/2^(t+1))+2^(t+1)):=by
   rw[Nat.mul_sub,<-mK,Nat.mul_add,Nat.mul_one]
  have hle:2^(t+1)*(x/2^(t+1))+2^(t+1)<=2^w:=by
   rw[mK,<-Nat.mul_succ];exact Nat.mul_le_mul_left _ hq
  omega
 apply Nat.eq_of_testBit_eq;intro j;rw[Nat.testBit_and,KI,Nat.testBit_two_pow_mul_add _ sW,Nat.testBit_two_pow];by_cases h1:j<t+1
 ·rw[if_pos h1];by_cases h2:t=j
  ·subst h2;simp[ht]
  ·simp[h2]
 ·rw[if_neg h1,Nat.testBit_two_pow_sub_succ hq];have e1:x.testBit j=(x/2^(t+1)).testBit (j-(t+1)):=by
   conv=>lhs;rw[<-hd,Nat.testBit_two_pow_mul_add _ sW]
   simp[h1]
  rw[e1];have:¬t=j:=og;simp[this];try exact fun h _=>h
def mN(a b:Nat):Nat:=a&&&(a^^^b)
theorem ri(a b j:Nat):(mN a b).testBit j=(a.testBit j&& !b.testBit j):=by
 simp only[mN,Nat.testBit_and,Nat.testBit_xor];cases a.testBit j<;>cases b.testBit j<;>rfl
theorem VI(a b:Nat):mN a b<=a:=Nat.and_le_left
def Qr:IntKind->Bool
 | .u8 | .u16 | .u32 | .u64=>true
 | _=>false
def oy(hk:Qr k=true){a:Nat}(h:a<2^k.bits):k.wrap (a:Int)=a:=by
 have hs:k.signed=false:=by cases k<;>simp_all[Qr,IntKind.signed]
 have:((a:Int)%(2^k.bits:Int))=a:=Int.emod_eq_of_lt og (by exact_mod_cast h);simp[IntKind.wrap,hs,this]
section
variable{P:Program}{n:Fr}{L:PF}{ty:TypeId}{pos:String}{af:Array Edge}{d:Nat}{φ:World->Prop}{gd:Option (Nat×Bool)}
def VJ{w:World}{a b r:Nat}(hk:Qr k=true)(ha:a<2^k.bits)(hb:b<2^k.bits)(hr:(match op with | .and=>some (a&&&b) | .or=>some (a|||b) | .xor=>some (a^^^b) | .andNot=>some (mN a b) | _=>none)=some r):(Op.intBits op k (a:Int) (b:Int)).run P w= .ok (.int k r) w:=by
 have e1:(BitVec.ofInt k.bits (a:Int))=BitVec.ofNat k.bits a:=BitVec.ofInt_natCast _ _;have e2:(BitVec.ofInt k.bits (b:Int))=BitVec.ofNat k.bits b:=BitVec.ofInt_natCast _ _;have n1:(BitVec.ofNat k.bits a).toNat=a:=by simp[Nat.mod_eq_of_lt ha]
 have n2:(BitVec.ofNat k.bits b).toNat=b:=by simp[Nat.mod_eq_of_lt hb]
 have iZ:∀ (v:BitVec k.bits),k.wrap (v.toNat:Int)=v.toNat:=fun v=>oy hk v.isLt;cases op<;>simp only[Option.some.injEq]at hr<;>(try cases hr)<;>
  simp only[Op.intBits,e1,e2,Sem.run_pure,iZ]
 ·rw[BitVec.toNat_and,n1,n2]
 ·rw[BitVec.toNat_or,n1,n2]
 ·rw[BitVec.toNat_xor,n1,n2]
 ·have:(BitVec.ofNat k.bits a&&& ~~~BitVec.ofNat k.bits b).toNat=mN a b:=by
   apply Nat.eq_of_testBit_eq;intro j;rw[ri,BitVec.testBit_toNat,BitVec.getLsbD_and,BitVec.getLsbD_not,BitVec.getLsbD_ofNat,BitVec.getLsbD_ofNat];by_cases hj:j<k.bits
   ·simp[hj]
   ·have:a.testBit j=false:=Nat.testBit_lt_two_pow (Nat.lt_of_lt_of_le ha (Nat.pow_le_pow_right og og));simp[hj,this]
  rw[this]
theorem V.bits{t t':TypeId}{a b r:Nat}(hx:ev L x=some (.int k a))(hy:ev L y=some (.int k b))(hk:Qr k=true)(ha:a<2^k.bits)(hb:b<2^k.bits)(hr:(match op with | .and=>some (a&&&b) | .or=>some (a|||b) | .xor=>some (a^^^b) | .andNot=>some (mN a b) | _=>none)=some r):bj P n L φ ⟨some d,.binOp op t x y t',ty,pos,af,gd⟩ (.int k r):=
 rM hx hy (fun w A hx hy=>by
  have he:=VJ (P:=P) (w:=w) hk ha hb hr
  cases op<;>simp only[Option.some.injEq]at hr<;>(try cases hr)<;>
   simp[execOp,eqGuard,hx,hy,binOp,he])
def V.shl{t t':TypeId}{x y:Operand}{k k':IntKind}{a z:Int}(hx:ev L x=some (.int k a))(hy:ev L y=some (.int k' z))(hz:0<=z)(r:Int)(hr:k.wrap (a*2^(min z.toNat k.bits))=r):bj P n L φ ⟨some d,.binOp .shl t x y t',ty,pos,af,gd⟩ (.int k r):=
 rM hx hy (fun w A hx hy=>by
  have h:¬z<0:=og
  simp[execOp,eqGuard,hx,hy,binOp,Op.shift,h,hr])
def V.shr{t t':TypeId}{x y:Operand}{k k':IntKind}{a z:Int}(hx:ev L x=some (.int k a))(hy:ev L y=some (.int k' z))(hz:0<=z)(r:Int)(hr:a.fdiv (2^(min z.toNat k.bits))=r):bj P n L φ ⟨some d,.binOp .shr t x y t',ty,pos,af,gd⟩ (.int k r):=
 rM hx hy (fun w A hx hy=>by
  have h:¬z<0:=og
  simp[execOp,eqGuard,hx,hy,binOp,Op.shift,h,hr])
def Hb{t:TypeId}{g m sz:Nat}{z:Int}(hx:ev L x=some (.pointer (some ⟨g,0,none⟩)))(hy:ev L y=some (.int k z))(ht:xN P t=some (m,sz))(hz:0<=z/\z<m):bj P n L φ (⟨some d,.indexAddr t x y,ty,pos,af,gd⟩) (ay g 0 (0+z.toNat*sz)):=
 jR (b:=g) (o:=0) (i:=0) hx hy ht hz
def Sy{w:World}{a b r:Nat}(hw:k.wrap (r:Int)=r)(ha:a<2^k.bits)(hb:b<2^k.bits)(hr:(match op with | .and=>some (a&&&b) | .or=>some (a|||b) | .xor=>some (a^^^b) | .andNot=>some (mN a b) | _=>none)=some r):(Op.intBits op k (a:Int) (b:Int)).run P w= .ok (.int k r) w:=by
 have e1:(BitVec.ofInt k.bits (a:Int))=BitVec.ofNat k.bits a:=BitVec.ofInt_natCast _ _;have e2:(BitVec.ofInt k.bits (b:Int))=BitVec.ofNat k.bits b:=BitVec.ofInt_natCast _ _;have n1:(BitVec.ofNat k.bits a).toNat=a:=by simp[Nat.mod_eq_of_lt ha]
 have n2:(BitVec.ofNat k.bits b).toNat=b:=by simp[Nat.mod_eq_of_lt hb]
 cases op<;>simp only[Option.some.injEq]at hr<;>(try cases hr)<;>
  simp only[Op.intBits,e1,e2,Sem.run_pure]
 ·rw[BitVec.toNat_and,n1,n2,hw]
 ·rw[BitVec.toNat_or,n1,n2,hw]
 ·rw[BitVec.toNat_xor,n1,n2,hw]
 ·have:(BitVec.ofNat k.bits a&&& ~~~BitVec.ofNat k.bits b).toNat=mN a b:=by
   apply Nat.eq_of_testBit_eq;intro j;rw[ri,BitVec.testBit_toNat,BitVec.getLsbD_and,BitVec.getLsbD_not,BitVec.getLsbD_ofNat,BitVec.getLsbD_ofNat];by_cases hj:j<k.bits
   ·simp[hj]
   ·have:a.testBit j=false:=Nat.testBit_lt_two_pow (Nat.lt_of_lt_of_le ha (Nat.pow_le_pow_right og og));simp[hj,this]
  rw[this,hw]
def Qs{t t':TypeId}{a b r:Nat}(hx:ev L x=some (.int .i64 a))(hy:ev L y=some (.int .i64 b))(ha:a<9223372036854775808)(hb:b<9223372036854775808)(hw:r<9223372036854775808)(hr:(match op with | .and=>some (a&&&b) | .or=>some (a|||b) | .xor=>some (a^^^b) | .andNot=>some (mN a b) | _=>none)=some r):bj P n L φ ⟨some d,.binOp op t x y t',ty,pos,af,gd⟩ (.int .i64 r):=
 rM hx hy (fun w A hx hy=>by
  have he:=Sy (P:=P) (w:=w) (k:=.i64) (IntWalk.i64_in _ og) (Nat.lt_of_lt_of_le ha dq) (Nat.lt_of_lt_of_le hb dq) hr
  cases op<;>simp only[Option.some.injEq]at hr<;>(try cases hr)<;>
   simp[execOp,eqGuard,hx,hy,binOp,he])
def Qt{t t':TypeId}{a b z:Int}{r:Nat}(hx:ev L x=some (.int .i64 a))(hy:ev L y=some (.int .i64 b))(ha:0<=a/\a<9223372036854775808)(hb:0<=b/\b<9223372036854775808)(hz:0<=z/\z<9223372036854775808)(hr:(match op with | .and=>some (a.toNat&&&b.toNat) | .or=>some (a.toNat|||b.toNat) | .xor=>some (a.toNat^^^b.toNat) | .andNot=>some (mN a.toNat b.toNat) | _=>none)=some r)(he:(r:Int)=z):bj P n L φ ⟨some d,.binOp op t x y t',ty,pos,af,gd⟩ (.int .i64 z):=by
 subst he;have yp:ev L x=some (.int .i64 ((a.toNat:Nat):Int)):=by rw[show((a.toNat:Nat):Int)=a from og];exact hx
 have hy2:ev L y=some (.int .i64 ((b.toNat:Nat):Int)):=by rw[show((b.toNat:Nat):Int)=b from og];exact hy
 exact Qs yp hy2 og og og hr
def V.rem{t t':TypeId}{x y:Operand}{k:IntKind}{a b:Int}(hx:ev L x=some (.int k a))(hy:ev L y=some (.int k b))(hb:b≠0)(r:Int)(hr:a.tmod b=r):bj P n L φ ⟨some d,.binOp .rem t x y t',ty,pos,af,gd⟩ (.int k r):=
 rM hx hy fun w A hx hy=>by simp[execOp,eqGuard,hx,hy,binOp,Op.intDiv,hb,hr]
theorem V.quo{t t':TypeId}{x y:Operand}{k:IntKind}{a b:Int}(hx:ev L x=some (.int k a))(hy:ev L y=some (.int k b))(hb:b≠0)(r:Int)(hr:k.wrap (a.tdiv b)=r):bj P n L φ ⟨some d,.binOp .quo t x y t',ty,pos,af,gd⟩ (.int k r):=
 rM hx hy fun w A hx hy=>by simp[execOp,eqGuard,hx,hy,binOp,Op.intDiv,hb,hr]
def u7{a b:Int}(ha:0<=a:=by omega)(hb:0<b:=by omega)(h:a<=9223372036854775807:=by omega):IntKind.i64.wrap (a.tdiv b)=a/b:=by
 rw[Int.tdiv_eq_ediv_of_nonneg ha];have h1:0<=a/b:=Int.ediv_nonneg ha og;have h2:a/b<=a:=Int.ediv_le_self b ha;exact IntWalk.i64_in _ og
end
end Go.X

namespace Go.X
open Go
variable{x:Operand}{p:Option Addr}
section
variable{P:Program}{n:Fr}{Q:Exit->Act->World->Prop}{L:PF}{ops:Md}{rest:List Oper}{ty:TypeId}{pos:String}{af:Array Edge}{d:Nat}
variable{W:World}{S:Nat->Nat->Prop}{H H':List aG}
def XO.aeo{t:TypeId}{y:Operand}{g cap sz k i:Nat}{e:TypeId}{C C':Nat->Value}{v:Value}(hx:ev L x=some (ay g 0 i))(hy:ev L y=some v)(hH:o5 H (aN (some ⟨g,0,none⟩) cap e sz k C) (aN (some ⟨g,0,none⟩) cap e sz k C') H')(hi:i<k*sz/\ep C i v=C')(hv:one v=true)(hs:fE P t=some 1)(h:XO P n ops Q rest L (XM W S H')):XO P n ops Q (⟨none,.store t x y,ty,pos,af,none⟩::rest) L (XM W S H):=
 XO.op rfl fun a w ha hw=>by
  obtain⟨H1,hd,hp⟩:=hH.del;have KY:=hw.cG hd.cG;have hr:=u6 (P:=P) (show(aN (some ⟨g,0,none⟩) cap e sz k C).holds w from KY.fB.1 _ sq) hi.1 hv;have nH:=KY.Qp .aa hi.1 v;rw[hi.2]at nH;have pf:(execOp a.eval ⟨none,.store t x y,ty,pos,af,none⟩).run P w= .ok .skip (w.setCell ⟨g,i,none⟩ v):=by
   have h0:(⟨g,i,none⟩:Addr).add 0=⟨g,i,none⟩:=rfl;simp[execOp,av ha hx,av ha hy,Instr.storeAt,Instr.sureAddr,ay,storeVar,A9 hv,run_sizeOf hs,storeCells,h0,hr]
  unfold Oper.wp;rw[pf];exact h _ _ ha (nH.cG hp)
def XO.Sz{t e:TypeId}{y:Operand}{k cap m c sz g:Nat}{xs ys:List Value}(hx:ev L x=some (.slice p k cap))(hy:ev L y=some (.slice (some ⟨g,0,none⟩) m c))(ht:P.underlying t=some (.slice e))(hr:sZ P e sz=true)(hH:ox H (.row (.slice p k cap) e sz k xs) H')(hN:lR H (.row (.slice (some ⟨g,0,none⟩) m c) e sz m ys))(h1:ys.all one=true)(hk:k+m<=100000000000)(hd:Nat.blt d n.sz=true)(h:∀ p' dv,XO P n ops Q rest ((d,.slice p' (k+m) dv)::L) (XM W S (.row (.slice p' (k+m) dv) e sz (k+m) (xs++ys)::H'))):XO P n ops Q (⟨some d,.call ⟨.builtin .append,#[x,y],#[t,t]⟩,ty,pos,af,none⟩::rest) L (XM W S H):=
 XO.op rfl fun a w ha hw=>by
  have aep:(aG.row (.slice (some ⟨g,0,none⟩) m c) e sz m ys).holds w:=hw.fB.1 _ hN.mem;have iA:(aG.row (.slice p k cap) e sz k xs).holds w:=hw.fB.1 _ (hH.cG.mem_iff.2 sq);by_cases hm:0<m
  ·obtain⟨p',dv,w',h3,h4,h5,h6⟩:=pW (ty:=ty) (c:=c) (b:=g) (news:=ys) ht hr iA hm aep.1 (World.ownsRow.cells aep (g:=g) rfl) (fun u hu=>pV (List.all_eq_true.1 h1 u hu)) hk;have yp:=hw.cC hH rfl h6 h5 h4;unfold Oper.wp;have:(execOp a.eval ⟨some d,.call ⟨.builtin .append,#[x,y],#[t,t]⟩,ty,pos,af,none⟩).run P w= .ok (.value (.slice p' (k+m) dv)) w':=by
    simp[execOp,resolve,invoke,builtin,av ha hx,av ha hy,h3]
   rw[this];exact h _ _ _ _ (ha.put hd _) yp
  ·have hm0:m=0:=og;subst hm0;have hys:ys=[]:=List.eq_nil_of_length_eq_zero (by simpa using aep.1);subst hys;have hkc:k<=cap:=DY iA;obtain⟨i,z,hi,hz,qH,hby,ZS,ND⟩:=rQ hr;have h3:(Builtin.append_ #[t,t] ty #[.slice p k cap,.slice (some ⟨g,0,none⟩) 0 c]).run P w= .ok (.slice p (k+0) cap) w:=by
    cases p with
    | none=>simp[Builtin.append_,run_underlying ht,Builtin.lenOf,Builtin.firstCells,loadCells,loadCellsFrom,hkc,sizeOf,run_typeInfo hi,hi]
    | some q=>simp[Builtin.append_,run_underlying ht,Builtin.lenOf,Builtin.firstCells,loadCells,loadCellsFrom,storeCells,hkc,sizeOf,run_typeInfo hi,hi]
   have yp:XM W S (.row (.slice p (k+0) cap) e sz (k+0) (xs++[])::H') w:=by
    simpa using hw.cG hH.cG
   unfold Oper.wp;have:(execOp a.eval ⟨some d,.call ⟨.builtin .append,#[x,y],#[t,t]⟩,ty,pos,af,none⟩).run P w= .ok (.value (.slice p (k+0) cap)) w:=by
    simp only[Nat.add_zero]at h3 ⊢;simp[execOp,resolve,invoke,builtin,av ha hx,av ha hy,h3]
   rw[this];exact h _ _ _ _ (ha.put hd _) yp
def yr(k:Nat){t e:TypeId}{w:World}{l c:Nat}(ht:P.underlying t=some (.slice e)):(Op.equalIn (k+1) t (.slice p l c) (.slice none 0 0)).run P w= .ok p.isNone w:=by
 cases p<;>simp only[Op.equalIn,Sem.run_bind,run_underlying ht,Result.andThen_ok,Sem.run_pure,Option.isNone]
def lZ{op:BinOp}{t t' e:TypeId}{l c:Nat}{r:Bool}{φ:World->Prop}{gd:Option (Nat×Bool)}(hx:ev L x=some (.slice p l c))(ht:P.underlying t=some (.slice e))(hr:(match op with | .eql=>some (decide (p=none)) | .neq=>some (decide (p≠none)) | _=>none)=some r):bj P n L φ ⟨some d,.binOp op t x (.const (.slice none 0 0)) t',ty,pos,af,gd⟩ (.bool r):=fun a w ha _=>by
 have he:(Op.equal t (.slice p l c) (.slice none 0 0)).run P w= .ok p.isNone w:=yr 9999 ht;have hy:a.eval (.const (.slice none 0 0))= .slice none 0 0:=rfl;have b1:binOp .eql t (.slice p l c) (.slice none 0 0)=(do pure (.bool (<-Op.equal t (.slice p l c) (.slice none 0 0)))):=rfl;have b2:binOp .neq t (.slice p l c) (.slice none 0 0)=(do pure (.bool (!(<-Op.equal t (.slice p l c) (.slice none 0 0))))):=rfl;have g1:eqGuard .eql t x (.const (.slice none 0 0)) (.slice p l c) (.slice none 0 0)=pure ():=rfl;have g2:eqGuard .neq t x (.const (.slice none 0 0)) (.slice p l c) (.slice none 0 0)=pure ():=rfl;cases op<;>simp only[Option.some.injEq]at hr<;>(try cases hr)<;>
  simp only[execOp,av ha hx,hy,b1,b2,g1,g2]<;>cases p<;>simp[he]
end
end Go.X

namespace Go.X
open Go Go.RowKit Go.Proofs
variable{body:Code}{fn:Func}{g x:Operand}
def Cu(l:List Oper):Bool:=l.all fun o=>match o.op with | .defer _=>false | _=>true
def VK{l:List Oper}(h:Cu l=true){i:Nat}{o:Oper}(hi:l[i]? =some o):∀ c,o.op≠ .defer c:=fun c hc=>by
 have:=List.all_eq_true.1 h o (List.mem_of_getElem? hi);rw[hc]at this;cases this
def ZT(P:Program):Code->(Exit->Act->World->Prop)->Act->World->Prop
 | .skip,Q,a,w=>Q .normal a w
 | .exit i,Q,a,w=>Q (.exit i) a w
 | .ret,Q,a,w=>Q .ret a w
 | .seq x y,Q,a,w=>ZT P x (Exit.then (ZT P y Q) Q) a w
 | .block i c,Q,a,w=>ZT P c (Exit.inBlock i Q) a w
 | .cond c x y,Q,a,w=>∃ t,a.eval c= .bool t/\(t=true->ZT P x Q a w)/\(t=false->ZT P y Q a w)
 | .region _ ops false,Q,a,w=>Cu ops.toList=true/\wpList P ops Q ops.toList a w
 | .region _ ops true,Q,a,w=>Cu ops.toList=true/\P.follows .mixedOrders=true/\wpAny P .any ops Q ops.size (Array.replicate ops.size false) a {w with drawn:=w.drawn+1}
 | _,_,_,_=>False
section
variable{P:Program}{Q:Exit->Act->World->Prop}{l:Nat}{n:Nat}
abbrev inR(l:Nat):Fence:=Fence.wide.inRound l
def Qu{o:Oper}{a:Act}{w:World}{K:Act->World->Prop}(hd:∀ c,o.op≠ .defer c)(hq:∀ a w,¬Q .outgrown a w)(h:o.wp P a w K Q):o.wpIn (inR l) n P a w K Q:=by
 refine⟨fun _ _=>trivial,?_⟩;rw[Oper.semAt_eq _ _ _ hd];unfold Oper.wp at h;generalize (execOp a.eval o).run P w=r at*;cases r with
 | ok x w'=>
  have ahZ:(inR l).depth.isSome=true->1<=n:=fun q=>by cases q
  cases x<;>simp only[Oper.upon,Oper.uponIn]at h ⊢;case value=>exact h
  case skip=>exact h
  case defer=>exact h
  case enter=>
   refine⟨ahZ,CallsIn.inRound l (callsIn_wide.2 (h.mono fun e w'' he=> ?_))⟩;cases e with
   | returned v=>exact he
   | panicked c=>exact he
   | outgrown=>obtain⟨_,_,he⟩:=he;exact absurd he (hq _ _)
  case row=>
   refine⟨ahZ,fun c cs _=> ?_⟩;obtain⟨v,w2,hr,hs⟩:=h c cs;exact⟨v,w2,hr,stepsIn_wide.2 hs⟩
  all_goals exact h.elim
 | halt x w'=>cases x<;>simp only[Oper.upon,Oper.uponIn]at h ⊢ <;>exact h
def I0{ops:Array Oper}(hq:∀ a w,¬Q .outgrown a w):∀ (rest:List Oper) (a:Act) (w:World),Cu rest=true->wpList P ops Q rest a w->wpListIn (inR l) n P ops Q rest a w
 | [],_,_,_,h=>h
 | o::rest,a,w,hn,h=>by
  simp only[Cu,List.all_cons,Bool.and_eq_true]at hn;unfold wpList at h;unfold wpListIn;split
  ·rename_i hw;rw[if_pos hw]at h;rcases h with h | ⟨_,a',w',h⟩
   ·refine Qu (fun c hc=> ?_) hq (Oper.wp_mono (fun a' w'=>I0 hq rest a' w' hn.2) h);have:=hn.1;rw[hc]at this;cases this
   ·exact absurd h (hq _ _)
  ·rename_i hw;rw[if_neg hw]at h;exact⟨fun _ _=>trivial,I0 hq rest _ _ hn.2 h⟩
def I1{ops:Array Oper}(hq:∀ a w,¬Q .outgrown a w)(hn:Cu ops.toList=true):∀ (f:Nat) (ls:Array Bool) (a:Act) (w:World),wpAny P .any ops Q f ls a w->wpAnyIn (inR l) n P .any ops Q f ls a w
 | 0,_,_,_,h=>h
 | f+1,ls,a,w,h=>⟨h.1,fun i hi=>by
  have h2:=h.2 i hi
  unfold wpOp at h2
  unfold wpOpIn
  cases ho:ops[i]? with
  | none=>rw[ho]at h2;exact I1 hq hn f _ _ _ h2
  | some o=>
   rw[ho]at h2
   simp only at h2 ⊢
   split
   ·rename_i hw
    rw[if_pos hw]at h2
    rcases h2 with h2 | ⟨_,a',w',h2⟩
    ·exact Qu (VK hn (i:=i) (by rw[Array.getElem?_toList];exact ho)) hq (Oper.wp_mono (fun a' w'=>I1 hq hn f _ a' w') h2)
    ·exact absurd h2 (hq _ _)
   ·rename_i hw
    rw[if_neg hw]at h2
    exact⟨fun _ _=>trivial,I1 hq hn f _ _ _ h2⟩⟩
def yt:∀ (c:Code) (Q:Exit->Act->World->Prop) (a:Act) (w:World),(∀ a w,¬Q .outgrown a w)->ZT P c Q a w->c.wpIn (inR l) n P Q a w
 | .skip,_,_,_,_,h=>wpIn_skip h
 | .exit _,_,_,_,_,h=>wpIn_exit h
 | .ret,_,_,_,_,h=>wpIn_ret h
 | .seq x y,Q,a,w,hq,h=>wpIn_seq (wpIn_mono (yt x (Exit.then (ZT P y Q) Q) a w (fun a w=>hq a w) h) (fun e a w q=>by
   cases e with
   | normal=>exact yt y Q a w hq q
   | exit i=>exact q
   | goto i=>exact q
   | ret=>exact q
   | panic i=>exact q
   | outgrown=>exact q))
 | .block i c,Q,a,w,hq,h=>wpIn_block (yt c (Exit.inBlock _ Q) a w (fun a w=>hq a w) h)
 | .cond c x y,Q,a,w,hq,⟨_,h1,h2,h3⟩=>wpIn_cond_split h1 (fun ht=>yt x Q a w hq (h2 ht)) fun ht=>yt y Q a w hq (h3 ht)
 | .region _ ops false,_,a,w,hq,h=>wpIn_region_list (I0 hq _ a w h.1 h.2)
 | .region _ _ true,_,a,w,hq,h=>wpIn_region_any h.2.1 (I1 hq h.1 _ _ a _ h.2.2)
 | .loop _,_,_,_,_,k=>k.elim
 | .rangeFunc ..,_,_,_,_,k=>k.elim
 | .scope _,_,_,_,_,k=>k.elim
 | .label _,_,_,_,_,k=>k.elim
 | .goto _,_,_,_,_,k=>k.elim
end
section
variable{P:Program}{n:Fr}{Q:Exit->Act->World->Prop}{L L':PF}{M M':World->Prop}
def XB(P:Program)(n:Fr)(c:Code)(Q:Exit->Act->World->Prop)(L:PF)(M:World->Prop):Prop:=
 ∀ a w,ra n L a->M w->ZT P c Q a w
theorem XB.fq{c:Code}(L':PF)(hs:Sub L L')(h:XB P n c Q L' M):XB P n c Q L M:=fun a w ha hw=>h a w (hs.sat ha) hw
def XB.seq{x y:Code}(h:XB P n x (Exit.then (ZT P y Q) Q) L M):XB P n (.seq x y) Q L M:=h
def pX{y:Code}{Q':Exit->Act->World->Prop}(h:XB P n y Q L M):XE n (Exit.then (ZT P y Q) Q') .normal L M:=h
def XB.skip(h:XE n Q .normal L M):XB P n .skip Q L M:=h
def XB.ret(h:XE n Q .ret L M):XB P n .ret Q L M:=h
theorem XB.block{i:Nat}{c:Code}(h:XB P n c (Exit.inBlock i Q) L M):XB P n (.block i c) Q L M:=h
def XB.cond{c:Operand}{x y:Code}{t:Bool}(hc:ev L c=some (.bool t))(ht:t=true->XB P n x Q L M)(hf:t=false->XB P n y Q L M):XB P n (.cond c x y) Q L M:=
 fun a w ha hw=>⟨t,av ha hc,fun h=>ht h a w ha hw,fun h=>hf h a w ha hw⟩
def XB.Qi{c:Operand}{x y:Code}{p:Prop}[Decidable p](hc:ev L c=some (.bool (decide p)))(ht:p->XB P n x Q L M)(hf:¬p->XB P n y Q L M):
  XB P n (.cond c x y) Q L M:=XB.cond hc (fun h=>ht (of_decide_eq_true h)) fun h=>hf (of_decide_eq_false h)
def XB.region{i:Nat}{l:List Oper}(h:XO P n (.cl l.toArray) Q l L M)(hn:Cu l=true:=by rfl):XB P n (.region i l.toArray false) Q L M:=fun a w ha hw=>by
 refine⟨by simpa using hn,?_⟩;have:wpList P l.toArray Q l a w:=h a w ha hw;simpa using this
end
def mkD(D:Nat):Deferred:= {target:=.collected D,args:= #[]}
def aG.Bc:aG->Bool
 | .mark _=>false
 | _=>true
def D0{e:aG}{w:World}(h:e.holds w)(hm:e.Bc=true){b o:Nat}(ha:e.gL b o):∃ A t fz,w.heap[b]? =some (.cells A t fz):=by
 cases e with
 | cells b' o' n C=>obtain⟨A,t,lo,hi,h1,_⟩:=h;obtain⟨rfl,_⟩:=ha;exact⟨_,_,_,h1⟩
 | ro b' o' n C=>obtain⟨A,t,fz,h1,_⟩:=h;obtain⟨rfl,_⟩:=ha;exact⟨_,_,_,h1⟩
 | row v e sz k xs=>
  rcases h.2 with⟨rfl,_⟩ | ⟨g,cap,cur,rfl,_,hb,_⟩
  ·cases ha
  ·have:b=g:=by simp only[aG.gL,Value.ownBlock,Option.some.injEq]at ha;exact ha.symm
   subst this;exact⟨_,_,_,hb⟩
 | mark D=>cases hm
 | aV p r=>
  obtain⟨i,hi,hb⟩:=ha;rcases(h.1 i hi).2 with⟨hv,_⟩ | ⟨g,cap,cur,hv,ZU,hg,_⟩
  ·rw[hv]at hb;cases hb
  ·rw[hv]at hb;simp only[Value.ownBlock,Option.some.injEq]at hb;subst hb;exact⟨_,_,_,hg⟩
 | eJ p g n C=>obtain⟨i,hi,rfl,_⟩:=ha;obtain⟨A,t,lo,KF,h1,_⟩:=h.1 i hi;exact⟨_,_,_,h1⟩
def Be{e:aG}(h:e.wr=true):e.Bc=true:=by cases e<;>first | rfl | cases h
def aG.NY{e:aG}{w w':World}{D:Nat}(hb:∀ b,b<w.heap.size->¬b=D->w'.heap[b]? =w.heap[b]?)(hD:∀ o,w.heap[D]? =some o->o.isCells=false)(hm:e.Bc=true)(h:e.holds w):e.holds w':=by
 have ne:∀ (b:Nat) (A:Array Value) (t:TypeId) (fz:Nat×Nat),w.heap[b]? =some (.cells A t fz)->w'.heap[b]? =some (.cells A t fz):=fun b A t fz hA=>by
  rw[hb b (dV hA) fun q=>by subst q;have:=hD _ hA;cases this];exact hA
 cases e with
 | cells b o n C=>obtain⟨A,t,lo,hi,h1,h2⟩:=h;exact⟨A,t,lo,hi,ne _ _ _ _ h1,h2⟩
 | ro b o n C=>obtain⟨A,t,fz,h1,h2⟩:=h;exact⟨A,t,fz,ne _ _ _ _ h1,h2⟩
 | row v e sz k xs=>
  refine⟨h.1,?_⟩;rcases h.2 with hn | ⟨g,cap,cur,rfl,ZU,hg,rest⟩
  ·exact .inl hn
  ·exact .inr ⟨g,cap,cur,rfl,ZU,ne _ _ _ _ hg,rest⟩
 | mark D=>cases hm
 | aV p r=>
  refine⟨fun i hi=> ?_,h.2⟩;have hr:=h.1 i hi;refine⟨hr.1,?_⟩;rcases hr.2 with hn | ⟨g,cap,cur,hv,ZU,hg,rest⟩
  ·exact .inl hn
  ·exact .inr ⟨g,cap,cur,hv,ZU,ne _ _ _ _ hg,rest⟩
 | eJ p g n C=>
  refine⟨fun i hi=> ?_,h.2⟩;obtain⟨A,t,lo,KF,h1,h2⟩:=h.1 i hi;exact⟨A,t,lo,KF,ne _ _ _ _ h1,h2⟩
theorem XM.l7{W w w':World}{S:Nat->Nat->Prop}{H:List aG}{D:Nat}(h:XM W S H w)(hm:H.all aG.Bc=true)(hDW:W.heap.size<=D)(hos:w'.os=w.os)(ht:w'.tape=w.tape)(K6:w'.output=w.output)(ND:w.heap.size<=w'.heap.size)(hb:∀ b,b<w.heap.size->¬b=D->w'.heap[b]? =w.heap[b]?)(hD:∀ o,w.heap[D]? =some o->o.isCells=false):XM W S H w':=by
 refine⟨⟨fun e he=>aG.NY hb hD (List.all_eq_true.1 hm e he) (h.fB.1 e he),h.fB.2⟩,⟨hos.trans h.fq.os,ht.trans h.fq.tape,K6.trans h.fq.output,Nat.le_trans h.fq.size ND,fun b D1 hn=> ?_,fun b A t fz hA=> ?_⟩,h.Gl⟩
 ·rw[hb b (Nat.lt_of_lt_of_le D1 h.fq.size) og];exact h.fq.same b D1 hn
 ·obtain⟨A',h1,h2,h3⟩:=h.fq.part b A t fz hA;have:=dV hA;exact⟨A',by rw[hb b (Nat.lt_of_lt_of_le this h.fq.size) og];exact h1,h2,h3⟩
section
variable{P:Program}{L:PF}{W:World}{S:Nat->Nat->Prop}{H H':List aG}
def rS{k m:Nat}{kp:List Nat}{cs:List (Nat×Nat)}{R:Ending->World->Prop}{e:Exit}{M:World->Prop}(he:e= .normal\/e= .ret)(h:XE (fr k kp cs) (bodyPost P fn R) e L M):XE (fr k kp cs) (bodyPostM Fence.wide m P fn R) e L M:=fun a w ha hw=>by
 have h1:=h a w ha hw;rcases he with rfl | rfl
 ·obtain⟨hd,v,h2,h3⟩:=h1;show LeavesInM _ _ _ _ a.tmps R a.defers .returning w;rw[hd];exact⟨v,h2,h3⟩
 ·obtain⟨hd,v,h2,h3⟩:=h1;show LeavesInM _ _ _ _ a.tmps R a.defers .returning w;rw[hd];exact⟨v,h2,h3⟩
def oz{k m D:Nat}{kp:List Nat}{cs:List (Nat×Nat)}{R:Ending->World->Prop}{e:Exit}(he:e= .normal\/e= .ret)(hH:ox H (.mark D) H')(hm:H'.all aG.Bc=true)(hD:W.heap.size<=D)(h:XE (fr k kp cs) (bodyPost P fn R) e L (XM W S H')):XE ⟨k,[mkD D],kp,cs⟩ (bodyPostM Fence.wide m P fn R) e L (XM W S H):=fun a w ha hw=>by
 have KY:=hw.cG hH.cG;have Hc:w.heap[D]? =some (.deferred (some [])):=KY.fB.1 (.mark D) sq;have mK:XM W S H' w:=XM.left (E:=H') (F:=[.mark D]) (KY.cG (by
  have:=List.perm_append_comm (l₁:=[aG.mark D]) (l₂:=H')
  simpa using this))
 have bR:XM W S H' (w.putObj D (.deferred none)):=mK.l7 (D:=D) hm hD rfl rfl rfl sq (fun b _ gJ=>World.putObj_heap_other gJ) fun o ho=>by rw[Hc]at ho;cases ho;rfl
 have h1:=h {a with defers:=[]} _ ⟨rfl,ha.2.1,ha.2.2⟩ bR;have hd:a.defers=[mkD D]:=ha.1;rcases he with rfl | rfl
 ·obtain⟨_,v,h2,h3⟩:=h1;show LeavesInM _ _ _ _ a.tmps R a.defers .returning w;rw[hd];exact⟨sq,.inl ⟨_,_,rfl,run_takeDeferred Hc,v,h2,h3⟩⟩
 ·obtain⟨_,v,h2,h3⟩:=h1;show LeavesInM _ _ _ _ a.tmps R a.defers .returning w;rw[hd];exact⟨sq,.inl ⟨_,_,rfl,run_takeDeferred Hc,v,h2,h3⟩⟩
def K7{kp:List Nat}{cs:List (Nat×Nat)}{f:FuncId}{c:Code}{args:List Value}{pre:List aG}{post:Value->List aG->Prop}(hf:P.funcs[f]? =some fn)(hb:fn.body=some c)(hn:Nat.ble args.length fn.ntmps=true)(h:∀ W,XC P (fr fn.ntmps kp cs) c (bodyPostM Fence.wide 3 P fn fun e w'=>∃ v H',e= .returned v/\post v H'/\H'.all aG.wr=true/\XM W (cx pre) H' w') (pT 0 args) (XM W (cx pre) pre)):Spec P f args pre post:=by
 intro w hw;refine(callsIn_wide (n:=3)).1 (callsIn_of_wp_marks hf hb trivial (wpIn_wide.2 (h w _ w ⟨rfl,?_,?_⟩ (lK hw))))
 ·have:args.length<=fn.ntmps:=by simpa using hn
  simp;omega
 ·intro i v hi;obtain⟨_,h2⟩:=A5 args 0 i v hi;have sW:i<args.length:=by
   rcases Nat.lt_or_ge i args.length with h' | h'
   ·exact h'
   ·rw[List.getElem?_eq_none (by simpa using h')]at h2;simp at h2
  have h3:args[i]? =some v:=by simpa using h2
  simp only[Array.getD_eq_getD_getElem?];rw[Array.getElem?_append_left (by simpa using sW)];simp[h3]
end
def U9(R:List (Addr×Value))(A B:World):Prop:=∀ x∈R,A.cell? x.1=some x.2->B.cell? x.1=some x.2
def U9.trans{R:List (Addr×Value)}{A B C:World}(h:U9 R A B)(k:U9 R B C):U9 R A C:=fun x hx ha=>k x hx (h x hx ha)
def VL{W:World}{l:Nat}{o o':Obj}(hl:W.heap[l]? =some o)(ho:o.isCells=false){a:Addr}{v:Value}(h:W.cell? a=some v):(W.putObj l o').cell? a=some v:=by
 have gJ:¬a.block=l:=fun e=>by
  subst e;simp only[World.cell?,hl]at h;cases o<;>first | (cases ho;done) | (simp at h;done)
 rw[World.cell?_of_block (World.putObj_heap_other gJ)];exact h
theorem U9.put{R:List (Addr×Value)}(W:World)(l:Nat)(o o':Obj)(hl:W.heap[l]? =some o)(ho:o.isCells=false):U9 R W (W.putObj l o'):=fun _ _ h=>VL hl ho h
theorem cX.refl:∀ (H:List aG),cX H H []
 | []=>.nil
 | _::H=>.cons .aa (cX.refl H)
theorem XM.then{W w w':World}{S:Nat->Nat->Prop}{H H':List aG}(h:XM W S H w)(hc:XM w (cx H) H' w')(Sl:H'.all aG.wr=true):XM W S H' w':=by
 have:=h.A8 (cX.refl H) hc fun e he=>List.all_eq_true.1 Sl e he;simpa using this
def NZ{H:List aG}{w:World}(h:Good H w){b o:Nat}(hf:cx H b o):∃ A t fz,w.heap[b]? =some (.cells A t fz):=by
 obtain⟨e,he,hw,ha⟩:=hf;exact D0 (h.1 e he) (Be hw) ha
def XM.VM{w w':World}{H H':List aG}(hg:Good H w)(hc:XM w (cx H) H' w'):KeepsOthers w w':=by
 refine⟨hc.fq.size,fun b o hb ho=> ?_⟩;rw[hc.fq.same b (dV hb) fun off hf=> ?_]
 ·exact hb
 ·obtain⟨A,t,fz,h1⟩:=NZ hg hf;rw[hb]at h1;cases h1;cases ho
section
variable{P:Program}{Q:Exit->Act->World->Prop}{L:PF}{W:World}{S:Nat->Nat->Prop}{H:List aG}{α:Type}
def RI(W:World)(S:Nat->Nat->Prop)(V:List α->Prop)(J:List α->List aG)(pre:List α)(w:World):Prop:=V pre/\XM W S (J pre) w
theorem RI.aU{V:List α->Prop}{J:List α->List aG}{B:Nat}(hJ:∀ pre,(J pre).all aG.wr=true)(hB:W.heap.size<=B):OwnFrom B (RI W S V J):=fun pre w w' row ⟨hv,hx⟩ hg hr=>by
 have hm:(J pre).all aG.Bc=true:=List.all_eq_true.2 fun e he=>Be (List.all_eq_true.1 (hJ pre) e he);refine⟨hv,?_⟩;cases row with
 | none=>exact hx.l7 (D:=w.heap.size) hm hx.fq.size hg.os hg.tape hg.output hg.size (fun b hb _=>hg.block b hb sq) fun o ho=>by have:=dV ho;omega
 | some r=>
  obtain⟨h1,o,h2,h3⟩:=hr r rfl;exact hx.l7 (D:=r) hm og hg.os hg.tape hg.output hg.size (fun b hb gJ=>hg.block b hb fun e=>by cases e;exact gJ rfl) fun o' ho=>by rw[h2]at ho;cases ho;exact h3
abbrev D2(W:World)(S:Nat->Nat->Prop)(V Vx:List α->Prop)(J Jx:List α->List aG)(R:List (Addr×Value))(pre:List α)(x:α)(w:World):Exit->Act->World->Prop:=
 ownPostK (U9 R) (RI W S V J) (fun c ys w'=>c= .ret/\RI W S Vx Jx ys w') (pre++[x]) w
def zp{n:Fr}{V Vx:List α->Prop}{J Jx:List α->List aG}{R:List (Addr×Value)}{pre:List α}{x:α}{w:World}{H':List aG}(h:XM W S (J pre) w)(hV:V (pre++[x]))(NF:(J (pre++[x])).all aG.wr=true)(hR:∀ w',Go.X.Good (J (pre++[x])) w'->∀ y∈R,w'.cell? y.1=some y.2)(hp:∀ w',XM w (cx (J pre)) H' w'->XM w (cx (J pre)) (J (pre++[x])) w'):XE n (D2 W S V Vx J Jx R pre x w) .normal L (XM w (cx (J pre)) H'):=fun _ w' _ hw=>by
 have h1:=hp w' hw;exact⟨h1.VM h.fB,fun y hy _=>hR w' h1.fB y hy,hV,h.then h1 NF⟩
theorem XE.fL{n:Fr}{V Vx:List α->Prop}{J Jx:List α->List aG}{R:List (Addr×Value)}{pre:List α}{x:α}{w:World}{H':List aG}(h:XM W S (J pre) w)(hV:Vx (pre++[x]))(NF:(Jx (pre++[x])).all aG.wr=true)(hp:∀ w',XM w (cx (J pre)) H' w'->XM w (cx (J pre)) (Jx (pre++[x])) w'):XE n (D2 W S V Vx J Jx R pre x w) .ret L (XM w (cx (J pre)) H'):=fun _ w' _ hw=>by
 have h1:=hp w' hw;exact⟨h1.VM h.fB,rfl,hV,h.then h1 NF⟩
def Hd{k:Nat}{kp:List Nat}{cs:List (Nat×Nat)}{ps:Array Tmp}{assign:Code}{gf:Nat}{lb:Array Value}{aer:α->Array Value}{R:List (Addr×Value)}{xs:List α}(V Vx:List α->Prop)(J Jx:List α->List aG)(L1:α->PF)(asg:α->Array Value->Act)(hg:ev L g=some (.func (.func gf) #[] lb))(eg:∀ args w,(callFunc gf args).run P w= .ok (.enter gf args) w)(hps:∀ x,(aer x).size=ps.size)(VN:∀ w,XM W S H w->SeqStopsK Fence.wide 2 P gf lb aer (U9 R) (· =xs) (· <+:xs) xs.length w)(hV0:V [])(hJ0:∀ w,XM W S H w->XM W S (J []) w)(hJ:∀ pre,(J pre).all aG.wr=true)(hJx:∀ pre,(Jx pre).all aG.wr=true)(aap:∀ (l:Nat) (x:α) (tmps:Array Value) (w:World) (K:Act->World->Prop),K (asg x tmps) w->assign.wpIn (inR l) 1 P (Exit.then K fun _ _ _=>False) {tmps:=(ps.zip (aer x)).foldl (fun t (p,v)=>t.setIfInBounds p v) tmps,defers:=[]} w)(akE:∀ x a,ra (fr k kp cs) L a->ra (fr k kp cs) (L1 x) (asg x a.tmps))(K8:∀ pre x w,V pre->pre.length<xs.length->XM W S (J pre) w->XB P (fr k kp cs) body (D2 W S V Vx J Jx R pre x w) (L1 x) (XM w (cx (J pre)) (J pre)))(K9:V xs->∀ D,W.heap.size<=D->XE ⟨k,[mkD D],kp,cs⟩ Q .normal L (XM W S (.mark D::J xs)))(La:∀ pre,pre<+:xs->Vx pre->∀ D,W.heap.size<=D->XE ⟨k,[mkD D],kp,cs⟩ Q .ret L (XM W S (.mark D::Jx pre))):XC P (fr k kp cs) (.rangeFunc g ps assign body) Q L (XM W S H):=fun a w ha hw=>by
 have Hc:∀ (D:Nat) (E:List aG) (w':World),E.all aG.wr=true->W.heap.size<=D->XM W S E w'->w'.heap[D]? =some (.deferred (some []))->XM W S (.mark D::E) w':=fun D E w' hE hD hx hh=>by
  refine⟨⟨fun e he=> ?_,List.pairwise_cons.2 ⟨fun e he _ b o h1 h2=> ?_,hx.fB.2⟩⟩,hx.fq,fun e he NF b o hb=> ?_⟩
  ·rcases List.mem_cons.1 he with rfl | he
   ·exact hh
   ·exact hx.fB.1 e he
  ·obtain rfl:b=D:=h1;obtain⟨A,t,fz,h3⟩:=D0 (hx.fB.1 e he) (Be (List.all_eq_true.1 hE e he)) h2;rw[hh]at h3;cases h3
  ·rcases List.mem_cons.1 he with rfl | he
   ·cases NF
   ·exact hx.Gl e he NF b o hb
 refine(wpIn_wide (n:=3)).1 ?_;refine wpIn_rangeFunc_ownF (F:=Fence.wide) (w0:=w) rfl og (av ha hg) trivial eg (VN w hw) (fun h k=>h.trans k) (fun W l o o' _ hl ho _=>U9.put W l o o' hl ho) (Below.refl _ _) hps
  (RI W S V J) (fun c ys w'=>c= .ret/\RI W S Vx Jx ys w') (RI.aU hJ hw.fq.size) (fun c=>fun pre A B row ⟨hc,hi⟩ hgr hr=>⟨hc,RI.aU hJx hw.fq.size pre A B row hi hgr hr⟩) ⟨hV0,hJ0 w hw⟩ (fun x=>asg x a.tmps) ?_ ?_ ?_ ?_
 ·exact fun l x W' K hK=>aap l x a.tmps W' K hK
 ·rintro l pre x w1 ⟨hv,hx⟩ hlen;refine yt body _ _ w1 (fun _ _ q=>q) ?_;exact K8 pre x w1 hv hlen hx _ w1 (akE x a ha) (lK hx.fB)
 ·rintro D ys w1 hD rfl ⟨hv,hx⟩ hh;have hD2:W.heap.size<=D:=Nat.le_trans hw.fq.size hD;have hd:a.defers=[]:=ha.1;refine K9 hv D hD2 _ w1 ⟨?_,ha.2.1,ha.2.2⟩ (Hc D _ w1 (hJ _) hD2 hx hh);show _::a.defers=_;rw[hd];rfl
 ·rintro D c pre w1 hD hp ⟨rfl,hv,hx⟩ hh;have hD2:W.heap.size<=D:=Nat.le_trans hw.fq.size hD;have hd:a.defers=[]:=ha.1;refine wpIn_ret (La pre hp hv D hD2 _ w1 ⟨?_,ha.2.1,ha.2.2⟩ (Hc D _ w1 (hJx _) hD2 hx hh));show _::a.defers=_;rw[hd];rfl
end
section
variable{P:Program}{Q:Exit->Act->World->Prop}{L:PF}{n:Fr}{M:World->Prop}{ty:TypeId}{pos:String}{af:Array Edge}{d:Nat}{ops:Array Oper}{rest:List Oper}
def XI(P:Program)(n:Fr)(ops:Array Oper)(Q:Exit->Act->World->Prop)(l:List Oper)(L:PF)(M:World->Prop):Prop:=
 ∀ a w,ra n L a->M w->wpListIn Fence.wide 2 P ops Q l a w
def N0{i:Nat}{l:List Oper}(h:XI P n l.toArray Q l L M):XC P n (.region i l.toArray false) Q L M:=fun a w ha hw=>wpIn_wide.1 (wpIn_region_lit (h a w ha hw))
theorem XI.nil(h:XE n Q .normal L M):XI P n ops Q [] L M:=h
theorem XI.v{op:Op}{v:Value}(hv:bj P n L M ⟨some d,op,ty,pos,af,none⟩ v)(hd:Nat.blt d n.sz=true)(h:XI P n ops Q rest ((d,v)::L) M):XI P n ops Q (⟨some d,op,ty,pos,af,none⟩::rest) L M:=fun a w ha hw=>by
 unfold wpListIn;rw[if_pos (by simp[Region.wanted])];refine⟨fun _ _=>trivial,?_⟩;have h0:Fence.wide.round=none:=rfl;rw[h0,Oper.semAt_none,hv a w ha hw];exact h _ w (ha.put hd v) hw
def XI.yield{y:Operand}{l:Nat}{v:Value}{R:Ending->World->Prop}{t:Array TypeId}(hx:ev L x=some (.func (.yield l) #[] #[]))(hy:ev L y=some v)(hY:∀ w,M w->YieldAt Fence.wide 1 P l #[v] w R)(hd:Nat.blt d n.sz=true)(h:∀ e w,R e w->∃ b,e= .returned (.bool b)/\XI P n ops Q rest ((d,.bool b)::L) fun w'=>R (.returned (.bool b)) w'):XI P n ops Q (⟨some d,.call ⟨.value x,#[y],t⟩,ty,pos,af,none⟩::rest) L M:=fun a w ha hw=>by
 obtain⟨fn,tmps,assign,body,h1,h2⟩:=hY w hw;unfold wpListIn;rw[if_pos (by simp[Region.wanted])];refine⟨fun _ _=>trivial,?_⟩;have h0:Fence.wide.round=none:=rfl;have akF:(execOp a.eval ⟨some d,.call ⟨.value x,#[y],t⟩,ty,pos,af,none⟩).run P w= .ok (.round l fn tmps assign body) w:=by
  simp[execOp,resolve,invoke,Deferred.ofValue,av ha hx,av ha hy,h1]
 rw[h0,Oper.semAt_none,akF];refine⟨fun q=>(by cases q),h2.mono fun e w' hr=> ?_⟩;obtain⟨b,rfl,yp⟩:=h e w' hr;exact yp _ w' (ha.put hd _) hr
def yv{t:TypeId}{b o:Nat}{v:Value}{φ:World->Prop}{gd:Option (Nat×Bool)}(hx:ev L x=some (.pointer (some ⟨b,o,none⟩)))(hc:∀ w,φ w->w.cell? ⟨b,o,none⟩=some v)(ht:jL P t=true):bj P n L φ (⟨some d,.load t x,ty,pos,af,gd⟩) v:=fun a w ha hw=>by
 simp[execOp,av ha hx,Instr.loadAt,Instr.sureAddr,gZ ht (hc w hw)]
def qI{f:FuncId}{y:Operand}{u v:Value}{φ:World->Prop}{gd:Option (Nat×Bool)}(hx:ev L x=some u)(hy:ev L y=some v):bj P n L φ (⟨some d,.makeFunc (.func f) #[] #[x,y],ty,pos,af,gd⟩) (.func (.func f) #[] #[u,v]):=fun a w ha hw=>by
 simp[execOp,av ha hx,av ha hy,Instr.makeFunc]
end
section
variable{P:Program}{Q:Exit->Act->World->Prop}{L:PF}{W:World}{S:Nat->Nat->Prop}{H:List aG}{α:Type}
theorem adp(tmps:Array Value)(p:Tmp)(v:Value):(#[p].zip #[v]).foldl (fun t (p,v)=>t.setIfInBounds p v) tmps=tmps.setIfInBounds p v:=sq
def SA{k:Nat}{kp:List Nat}{cs:List (Nat×Nat)}{p:Nat}{gf:Nat}{lb:Array Value}{R:List (Addr×Value)}{xs:List α}(enc:α->Value)(V Vx:List α->Prop)(J Jx:List α->List aG)(hg:ev L g=some (.func (.func gf) #[] lb))(eg:∀ args w,(callFunc gf args).run P w= .ok (.enter gf args) w)(hp:Nat.blt p k=true)(VN:∀ w,XM W S H w->SeqStopsK Fence.wide 2 P gf lb (fun x=> #[enc x]) (U9 R) (· =xs) (· <+:xs) xs.length w)(hV0:V [])(hJ0:∀ w,XM W S H w->XM W S (J []) w)(hJ:∀ pre,(J pre).all aG.wr=true)(hJx:∀ pre,(Jx pre).all aG.wr=true)(K8:∀ pre x w,V pre->pre.length<xs.length->XM W S (J pre) w->XB P (fr k kp cs) body (D2 W S V Vx J Jx R pre x w) ((p,enc x)::L) (XM w (cx (J pre)) (J pre)))(K9:V xs->∀ D,W.heap.size<=D->XE ⟨k,[mkD D],kp,cs⟩ Q .normal L (XM W S (.mark D::J xs)))(La:∀ pre,pre<+:xs->Vx pre->∀ D,W.heap.size<=D->XE ⟨k,[mkD D],kp,cs⟩ Q .ret L (XM W S (.mark D::Jx pre))):XC P (fr k kp cs) (.rangeFunc g #[p] .skip body) Q L (XM W S H):=
 Hd V Vx J Jx (fun x=>(p,enc x)::L) (fun x tmps=> {tmps:=tmps.setIfInBounds p (enc x),defers:=[]}) hg eg (fun _=>rfl) VN hV0 hJ0 hJ hJx
  (fun l x tmps w K hK=>by rw[adp];exact wpIn_skip hK) (fun x a ha=>by
   have:=ha.put (n:=fr k kp cs) hp (enc x)
   have hd:a.defers=[]:=ha.1
   simpa only[Act.put,hd]using this) K8 K9 La
def SB{l i q p:Nat}{ty:TypeId}{pos:String}{a:Act}{w:World}{K:Act->World->Prop}(h:K (a.put (some q) (a.eval (.tmp p))) w):(Code.region i #[⟨some q,.assign (.tmp p),ty,pos,#[],none⟩] false).wpIn (inR l) 1 P (Exit.then K fun _ _ _=>False) a w:=by
 refine yt _ _ _ w (fun _ _ q=>q) ⟨rfl,?_⟩;show wpList _ _ _ [_] _ _;unfold wpList;rw[if_pos (by simp[Region.wanted])];left;unfold Oper.wp;have:(execOp a.eval ⟨some q,.assign (.tmp p),ty,pos,#[],none⟩).run P w= .ok (.value (a.eval (.tmp p))) w:=by simp[execOp]
 rw[this];exact h
def wB{k:Nat}{kp:List Nat}{cs:List (Nat×Nat)}{p q i:Nat}{ty:TypeId}{pos:String}{gf:Nat}{lb:Array Value}{R:List (Addr×Value)}{xs:List α}(enc:α->Value)(V Vx:List α->Prop)(J Jx:List α->List aG)(hg:ev L g=some (.func (.func gf) #[] lb))(eg:∀ args w,(callFunc gf args).run P w= .ok (.enter gf args) w)(hp:Nat.blt p k=true)(hq:Nat.blt q k=true)(VN:∀ w,XM W S H w->SeqStopsK Fence.wide 2 P gf lb (fun x=> #[enc x]) (U9 R) (· =xs) (· <+:xs) xs.length w)(hV0:V [])(hJ0:∀ w,XM W S H w->XM W S (J []) w)(hJ:∀ pre,(J pre).all aG.wr=true)(hJx:∀ pre,(Jx pre).all aG.wr=true)(K8:∀ pre x w,V pre->pre.length<xs.length->XM W S (J pre) w->XB P (fr k kp cs) body (D2 W S V Vx J Jx R pre x w) ((q,enc x)::(p,enc x)::L) (XM w (cx (J pre)) (J pre)))(K9:V xs->∀ D,W.heap.size<=D->XE ⟨k,[mkD D],kp,cs⟩ Q .normal L (XM W S (.mark D::J xs)))(La:∀ pre,pre<+:xs->Vx pre->∀ D,W.heap.size<=D->XE ⟨k,[mkD D],kp,cs⟩ Q .ret L (XM W S (.mark D::Jx pre))):XC P (fr k kp cs) (.rangeFunc g #[p] (.region i #[⟨some q,.assign (.tmp p),ty,pos,#[],none⟩] false) body) Q L (XM W S H):=
 Hd V Vx J Jx (fun x=>(q,enc x)::(p,enc x)::L) (fun x tmps=>(Act.put {tmps:=tmps.setIfInBounds p (enc x),defers:=[]} (some q) (Act.eval {tmps:=tmps.setIfInBounds p (enc x),defers:=[]} (.tmp p)))) hg eg (fun _=>rfl) VN hV0 hJ0 hJ hJx
  (fun l x tmps w K hK=>by rw[adp];exact SB hK)
  (fun x a ha=>by
   have h1:=ha.put (n:=fr k kp cs) hp (enc x)
   have hd:a.defers=[]:=ha.1
   have h2:ra (fr k kp cs) ((p,enc x)::L) {tmps:=a.tmps.setIfInBounds p (enc x),defers:=[]} :=by simpa only[Act.put,hd]using h1
   have h3:Act.eval {tmps:=a.tmps.setIfInBounds p (enc x),defers:=[]} (.tmp p)=enc x:=av h2 (by simp[ev,lk])
   have h4:=h2.put (n:=fr k kp cs) hq (enc x)
   rw[h3];exact h4) K8 K9 La
end
end Go.X
