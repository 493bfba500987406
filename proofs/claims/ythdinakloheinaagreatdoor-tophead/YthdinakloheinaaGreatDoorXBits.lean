import Derived.Test.YthdinakloheinaaGreatDoorXStore
import Derived.Laws.AppendOwn
set_option linter.all false
namespace Go.X
open Go
variable{op:BinOp}{a b s:ByteArray}{z:Int}{k:IntKind}{x y:Operand}{v:Value}
section
variable {P:Program} {n:Fr} {L:PF} {ty:TypeId} {pos:String} {af:Array Edge} {d:Nat} {φ:World->Prop} {gd:Option (Nat×Bool)}
def Ry{t:TypeId}(hx:ev L x=some (.string s))(ht:P.underlying t=some .string):aZ P n L φ ⟨some d,.call ⟨.builtin .len,#[x],#[t]⟩,ty,pos,af,gd⟩ (.int .i64 s.size):=fun a w ha _=>by
 simp[execOp,resolve,invoke,builtin,Builtin.len_,au ha hx,run_underlying ht,goInt]
def Wp{t e:TypeId}{p:Option Addr}{l c:Nat}(hx:ev L x=some (.slice p l c))(ht:P.underlying t=some (.slice e)):aZ P n L φ ⟨some d,.call ⟨.builtin .len,#[x],#[t]⟩,ty,pos,af,gd⟩ (.int .i64 l):=fun a w ha _=>by
 simp[execOp,resolve,invoke,builtin,Builtin.len_,au ha hx,run_underlying ht,goInt]
theorem toList_beq(a b:ByteArray):(a.toList==b.toList)=decide (a=b):=by
 rw[Bool.eq_iff_iff];simp only[beq_iff_eq,decide_eq_true_eq];constructor
 ·intro h;rw[ByteArray.toList_eq,ByteArray.toList_eq]at h;exact ByteArray.ext (Array.toList_inj.1 h)
 ·intro h;rw[h]
def OL(t:ByteArray):t=⟨#[]⟩↔t.size=0:=by
 constructor
 ·intro h;rw[h];rfl
 ·intro h;apply ByteArray.ext;exact Array.eq_empty_of_size_eq_zero h
def Rz{t t':TypeId}{r:Bool}(hx:ev L x=some (.string a))(hy:ev L y=some (.string b))(hr:(match op with | .eql=>some (decide (a=b)) | .neq=>some (decide (a≠b)) | .lss=>some (Op.bytesLess a.toList b.toList) | .leq=>some (Op.bytesLess a.toList b.toList||decide (a=b)) | .gtr=>some (!(Op.bytesLess a.toList b.toList||decide (a=b))) | .geq=>some (!Op.bytesLess a.toList b.toList) | _=>none)=some r):aZ P n L φ ⟨some d,.binOp op t x y t',ty,pos,af,gd⟩ (.bool r):=
 qk hx hy (fun w A hx hy=>by
  cases op<;>simp only[Option.some.injEq]at hr<;>(try cases hr)<;>
   simp only[execOp,eqGuard,hx,hy,binOp,Op.stringOp,toList_beq]<;>simp)
def RA{t t':TypeId}(hx:ev L x=some (.string a))(hy:ev L y=some (.string b))(hs:a.size+b.size<=9223372036854775807):aZ P n L φ ⟨some d,.binOp .add t x y t',ty,pos,af,gd⟩ (.string (a++b)):=
 qk hx hy (fun w A hx hy=>by
  have h:¬((a.size+b.size:Nat):Int)>IntKind.i64.max:=by simp[IntKind.max,IntKind.signed,IntKind.bits];omega
  simp only[execOp,eqGuard,hx,hy,binOp,Op.stringOp]
  rw[if_neg h]
  simp)
def OM{t:TypeId}(hx:ev L x=some (.string s))(hy:ev L y=some (.int k z))(ht:P.underlying t=some .string)(hz:0<=z/\z<=s.size):aZ P n L φ ⟨some d,.slice t x none (some y) none,ty,pos,af,gd⟩ (.string (s.extract 0 z.toNat)):=fun a w ha _=>by
 simp[execOp,au ha hx,au ha hy,Instr.sliceAt,run_underlying ht,Instr.slice,Instr.sliceBounds,Instr.sliceBound,asIntOf,hz]
def H6{t:TypeId}(hx:ev L x=some (.string s))(hy:ev L y=some (.int k z))(ht:P.underlying t=some .string)(hz:0<=z/\z<=s.size):aZ P n L φ ⟨some d,.slice t x (some y) none none,ty,pos,af,gd⟩ (.string (s.extract z.toNat s.size)):=fun a w ha _=>by
 simp[execOp,au ha hx,au ha hy,Instr.sliceAt,run_underlying ht,Instr.slice,Instr.sliceBounds,Instr.sliceBound,asIntOf,hz]
def RC{t:TypeId}{u:Operand}{k':IntKind}{z':Int}(hx:ev L x=some (.string s))(hy:ev L y=some (.int k z))(hu:ev L u=some (.int k' z'))(ht:P.underlying t=some .string)(hz:0<=z/\z<=z'/\z'<=s.size):aZ P n L φ ⟨some d,.slice t x (some y) (some u) none,ty,pos,af,gd⟩ (.string (s.extract z.toNat z'.toNat)):=fun a w ha _=>by
 have h1:0<=z'/\z'<=s.size:=og;have h2:0<=z/\z<=(z'.toNat:Int):=og;have h3:max z' 0=z':=og;have h4:¬z'<z:=og;simp[execOp,au ha hx,au ha hy,au ha hu,Instr.sliceAt,run_underlying ht,Instr.slice,Instr.sliceBounds,Instr.sliceBound,asIntOf,h1,h2,h3,h4]
def fX{t:TypeId}{u:UInt8}(hx:ev L x=some (.string s))(hy:ev L y=some (.int k z))(ht:P.underlying t=some .string)(hz:0<=z)(hu:s[z.toNat]? =some u):aZ P n L φ ⟨some d,.index t x y,ty,pos,af,gd⟩ (.int .u8 u.toNat):=fun a w ha _=>by
 simp[execOp,au ha hx,au ha hy,Instr.index,run_underlying ht,asIntOf,hz,hu]
def az(T:TypeId)(e:Int):Value:=if e=0 then .nilIface else .iface T (.int .i64 e)
theorem aV(T:TypeId){e:Int}(h:e≠0):az T e= .iface T (.int .i64 e):=by simp[az,h]
def AX(k:Nat){t:TypeId}{w:World}{ms:Array (String×TypeId)}(ht:P.underlying t=some (.interface ms)):(Op.equalIn (k+1) t .nilIface .nilIface).run P w= .ok true w:=by
 simp only[Op.equalIn,Sem.run_bind,run_underlying ht,Result.andThen_ok,Sem.run_pure]
def sJ(k:Nat){t T:TypeId}{w:World}{ms:Array (String×TypeId)}(ht:P.underlying t=some (.interface ms)):(Op.equalIn (k+1) t (.iface T v) .nilIface).run P w= .ok false w:=by
 simp only[Op.equalIn,Sem.run_bind,run_underlying ht,Result.andThen_ok,Sem.run_pure]
def H7{t t':TypeId}{ms:Array (String×TypeId)}{r:Bool}(hx:ev L x=some .nilIface)(ht:P.underlying t=some (.interface ms))(hr:(match op with | .eql=>some true | .neq=>some false | _=>none)=some r):aZ P n L φ ⟨some d,.binOp op t x (.const .nilIface) t',ty,pos,af,gd⟩ (.bool r):=fun a w ha _=>by
 have he:(Op.equal t .nilIface .nilIface).run P w= .ok true w:=AX 9999 ht;have hy:a.eval (.const .nilIface)= .nilIface:=rfl;cases op<;>simp only[Option.some.injEq]at hr<;>(try cases hr)<;>
  simp[execOp,eqGuard,au ha hx,hy,binOp,he]
def BM{t t' T:TypeId}{ms:Array (String×TypeId)}{r:Bool}(hx:ev L x=some (.iface T v))(ht:P.underlying t=some (.interface ms))(hr:(match op with | .eql=>some false | .neq=>some true | _=>none)=some r):aZ P n L φ ⟨some d,.binOp op t x (.const .nilIface) t',ty,pos,af,gd⟩ (.bool r):=fun a w ha _=>by
 have he:(Op.equal t (.iface T v) .nilIface).run P w= .ok false w:=sJ 9999 ht;have hy:a.eval (.const .nilIface)= .nilIface:=rfl;cases op<;>simp only[Option.some.injEq]at hr<;>(try cases hr)<;>
  simp[execOp,eqGuard,au ha hx,hy,binOp,he]
def RD{t t' T:TypeId}{e:Int}{ms:Array (String×TypeId)}{r:Bool}(hx:ev L x=some (az T e))(ht:P.underlying t=some (.interface ms))(hr:(match op with | .eql=>some (decide (e=0)) | .neq=>some (decide (e≠0)) | _=>none)=some r):aZ P n L φ ⟨some d,.binOp op t x (.const .nilIface) t',ty,pos,af,gd⟩ (.bool r):=by
 by_cases h:e=0
 ·subst h;refine H7 hx ht ?_;cases op<;>simp_all
 ·rw[aV T h]at hx;refine BM hx ht ?_;cases op<;>simp_all
def vc(k:Nat){t e:TypeId}{w:World}{p:Addr}(ht:P.underlying t=some (.pointer e)):(Op.equalIn (k+1) t (.pointer (some p)) (.pointer none)).run P w= .ok false w:=by
 simp only[Op.equalIn,Sem.run_bind,run_underlying ht,Result.andThen_ok,Sem.run_pure]
def run_equalIn_nil_nil(k:Nat){t e:TypeId}{w:World}(ht:P.underlying t=some (.pointer e)):(Op.equalIn (k+1) t (.pointer none) (.pointer none)).run P w= .ok true w:=by
 simp only[Op.equalIn,Sem.run_bind,run_underlying ht,Result.andThen_ok,Sem.run_pure,Option.isNone]
def RE{t t' e:TypeId}{p:Addr}{r:Bool}(hx:ev L x=some (.pointer (some p)))(ht:P.underlying t=some (.pointer e))(hr:(match op with | .eql=>some false | .neq=>some true | _=>none)=some r):aZ P n L φ ⟨some d,.binOp op t x (.const (.pointer none)) t',ty,pos,af,gd⟩ (.bool r):=fun a w ha _=>by
 have he:(Op.equal t (.pointer (some p)) (.pointer none)).run P w= .ok false w:=by
  exact vc 9999 ht
 have hy:a.eval (.const (.pointer none))= .pointer none:=rfl;have b1:binOp .eql t (.pointer (some p)) (.pointer none)=(do pure (.bool (<-Op.equal t (.pointer (some p)) (.pointer none)))):=rfl;have b2:binOp .neq t (.pointer (some p)) (.pointer none)=(do pure (.bool (!(<-Op.equal t (.pointer (some p)) (.pointer none))))):=rfl;have g1:eqGuard .eql t x (.const (.pointer none)) (.pointer (some p)) (.pointer none)=pure ():=rfl;have g2:eqGuard .neq t x (.const (.pointer none)) (.pointer (some p)) (.pointer none)=pure ():=rfl;cases op<;>simp only[Option.some.injEq]at hr<;>(try cases hr)<;>
  simp only[execOp,au ha hx,hy,b1,b2,g1,g2]<;>simp[he]
def ON{t t' e:TypeId}{b o i:Nat}{r:Bool}(hx:ev L x=some (aA b o i))(ht:P.underlying t=some (.pointer e))
  (hr:(match op with | .eql=>some false | .neq=>some true | _=>none)=some r):
  aZ P n L φ ⟨some d,.binOp op t x (.const (.pointer none)) t',ty,pos,af,gd⟩ (.bool r):=RE hx ht hr
def OO{t t' e:TypeId}{r:Bool}(hx:ev L x=some (.pointer none))(ht:P.underlying t=some (.pointer e))(hr:(match op with | .eql=>some true | .neq=>some false | _=>none)=some r):aZ P n L φ ⟨some d,.binOp op t x (.const (.pointer none)) t',ty,pos,af,gd⟩ (.bool r):=fun a w ha _=>by
 have he:(Op.equal t (.pointer none) (.pointer none)).run P w= .ok true w:=by
  exact run_equalIn_nil_nil 9999 ht
 have hy:a.eval (.const (.pointer none))= .pointer none:=rfl;have b1:binOp .eql t (.pointer none) (.pointer none)=(do pure (.bool (<-Op.equal t (.pointer none) (.pointer none)))):=rfl;have b2:binOp .neq t (.pointer none) (.pointer none)=(do pure (.bool (!(<-Op.equal t (.pointer none) (.pointer none))))):=rfl;have g1:eqGuard .eql t x (.const (.pointer none)) (.pointer none) (.pointer none)=pure ():=rfl;have g2:eqGuard .neq t x (.const (.pointer none)) (.pointer none) (.pointer none)=pure ():=rfl;cases op<;>simp only[Option.some.injEq]at hr<;>(try cases hr)<;>
  simp only[execOp,au ha hx,hy,b1,b2,g1,g2]<;>simp[he]
def K0{t T:TypeId}{ds:TypeDesc}(hx:ev L x=some (.iface T v))(ht:P.underlying T=some ds)(hn:∀ ms,ds≠ .interface ms):aZ P n L φ ⟨some d,.typeAssert x t T true,ty,pos,af,gd⟩ (.tuple #[v,.bool true]):=fun a w ha _=>by
 simp only[execOp,au ha hx,Instr.typeAssert,Sem.run_bind,run_underlying ht,Result.andThen_ok];cases ds<;>simp_all
theorem V.min2{x y:Operand}{t t':TypeId}{k:IntKind}{a b:Int}(hx:ev L x=some (.int k a))(hy:ev L y=some (.int k b)):aZ P n L φ ⟨some d,.call ⟨.builtin .min,#[x,y],#[t,t']⟩,ty,pos,af,gd⟩ (.int k (min a b)):=fun A w ha _=>by
 have:(if b<a then b else a)=min a b:=by rw[Int.min_def];split<;>split<;>omega
 simp[execOp,resolve,invoke,builtin,Builtin.min_,Builtin.min2,au ha hx,au ha hy,this]
theorem V.max2{x y:Operand}{t t':TypeId}{k:IntKind}{a b:Int}(hx:ev L x=some (.int k a))(hy:ev L y=some (.int k b)):aZ P n L φ ⟨some d,.call ⟨.builtin .max,#[x,y],#[t,t']⟩,ty,pos,af,gd⟩ (.int k (max a b)):=fun A w ha _=>by
 have:(if b>a then b else a)=max a b:=by rw[Int.max_def];split<;>split<;>omega
 simp[execOp,resolve,invoke,builtin,Builtin.max_,Builtin.max2,au ha hx,au ha hy,this]
def od{s t:TypeId}{k':IntKind}{a:Int}(hx:ev L x=some (.int k a))(hs:P.underlying s=some (.int k))(ht:P.underlying t=some (.int k'))(r:Int)(hr:k'.wrap a=r):aZ P n L φ ⟨some d,.convert s t x,ty,pos,af,gd⟩ (.int k' r):=fun A w ha _=>by
 subst hr;simp[execOp,au ha hx,convert,run_underlying hs,run_underlying ht,Conv.intToInt]
end
def K1{a b:Int}(h:a=b:=by omega):some (Value.int k a)=some (.int k b):=by rw[h]
def eqs(h:a=b):some (Value.string a)=some (.string b):=by rw[h]
def dv(p:Int->Bool)(m:Nat):Option Nat:=(List.range m).find? fun k=>p k
theorem eo{p:Int->Bool}{m:Nat}{k:Int}(h0:0<=k)(hk:k<m)(hp:p k=true)(hn:∀ j:Int,0<=j->j<k->p j=false):dv p m=some k.toNat:=by
 unfold dv;rw[List.find?_range_eq_some];refine⟨by rw[show((k.toNat:Nat):Int)=k from og];exact hp,by simp;omega,fun j hj=> ?_⟩;have:=hn j og og;simp[this]
theorem dC{p:Int->Bool}{m:Nat}(hn:∀ j:Int,0<=j->j<m->p j=false):dv p m=none:=by
 unfold dv;rw[List.find?_range_eq_none];intro j hj;have:=hn j og og;simp[this]
theorem sb:(∀ {p:Prop} [Decidable p],(decide p=true)=p)/\(∀ {p:Prop} [Decidable p],(decide p=false)=¬p)/\(∀ b:Bool,((!b)=true)=(b=false))/\(∀ b:Bool,((!b)=false)=(b=true))/\(∀ {a b:Bool},((!a)=b)=(a= !b))/\((!true)=false)/\((!false)=true)/\(∀ {α:Type} [BEq α] [LawfulBEq α] {a b:α},((a==b)=true)=(a=b))/\(∀ {α:Type} [BEq α] [LawfulBEq α] {a b:α},((a != b)=true)=(a≠b))/\(∀ {α:Type} {a b:α},(a≠b)=¬a=b)/\(∀ {α:Type} [BEq α] [LawfulBEq α] {a b:α},((a==b)=false)=(¬a=b))/\(∀ {α:Type} [BEq α] [LawfulBEq α] {a b:α},((a != b)=false)=(a=b))/\(∀ {a b:Int},(¬a<b)=(b<=a))/\(∀ {a b:Int},(¬a<=b)=(b<a))/\(∀ {a b:Int},(a>b)=(b<a))/\(∀ {a b:Int},(a>=b)=(b<=a))/\(∀ a b:Bool,((a&&b)=true)=(a=true/\b=true))/\(∀ a b:Bool,((a||b)=true)=(a=true\/b=true))/\(∀ a b:Bool,((a&&b)=false)=(a=false\/b=false))/\(∀ a b:Bool,((a||b)=false)=(a=false/\b=false))/\(∀ {p:Prop} [Decidable p],(¬ ¬p)=p):=by
 refine⟨?_,?_,?_,?_,?_,rfl,rfl,?_,?_,?_,?_,?_,?_,?_,?_,?_,?_,?_,?_,?_,?_⟩
 ·intro p _;simp
 ·intro p _;simp
 ·intro b;simp
 ·intro b;simp
 ·intro a b;cases a<;>cases b<;>simp
 ·intro α _ _ a b;simp
 ·intro α _ _ a b;simp
 ·intro α a b;rfl
 ·intro α _ _ a b;simp
 ·intro α _ _ a b;simp
 ·intro a b;simp
 ·intro a b;simp
 ·intro a b;rfl
 ·intro a b;rfl
 ·intro a b;simp
 ·intro a b;simp
 ·intro a b;cases a<;>cases b<;>simp
 ·intro a b;cases a<;>cases b<;>simp
 ·intro p _;simp
end Go.X

namespace Go.X
open Go
variable{z:Int}{x y:Operand}{v:Value}
def gP{c:Prop}[Decidable c]{α:Type}{a a' b b':α}(h1:c->a=a')(h2:¬c->b=b'):(if c then a else b)=(if c then a' else b'):=by
 by_cases h:c
 ·rw[if_pos h,if_pos h];exact h1 h
 ·rw[if_neg h,if_neg h];exact h2 h
def ad{α:Type}(f:Int->α)(i:Int)(v:α):Int->α:=fun j=>if j=i then v else f j
theorem ae{α:Type}(f:Int->α){i:Int}(v:α){j:Int}(h:¬j=i):ad f i v j=f j:=by simp[ad,h]
def cv{α:Type}(f:Int->Int->α)(i k:Int)(v:α):Int->Int->α:=fun j l=>if j=i/\l=k then v else f j l
theorem cB{α:Type}(f:Int->α){i:Int}{v:α}(h:f i=v):ad f i v=f:=by
 funext j;unfold ad;split
 ·rename_i h2;rw[h2,h]
 ·rfl
theorem aj{α:Type}(f:Int->α)(i:Int)(v:α):ad f i v i=v:=by simp[ad]
def rh(P:Program)(e:TypeId)(sz:Nat):Bool:=match P.info? e with
 | some i=>Nat.beq i.size sz&&Nat.ble i.bytes 1000&&Nat.blt 0 sz&&(match i.zero with
  | some z=>Nat.beq z.cells.size sz
  | none=>false)
 | none=>false
def qm{P:Program}{e:TypeId}{sz:Nat}(h:rh P e sz=true):∃ i z,P.info? e=some i/\i.zero=some z/\i.size=sz/\i.bytes<=1000/\z.cells.size=sz/\0<sz:=by
 unfold rh at h;cases hi:P.info? e with
 | none=>simp[hi]at h
 | some i=>
  simp only[hi]at h;cases hz:i.zero with
  | none=>simp[hz]at h
  | some z=>
   simp only[hz,Bool.and_eq_true,Nat.beq_eq]at h;obtain⟨⟨⟨h1,h2⟩,h3⟩,h4⟩:=h;exact⟨i,z,rfl,hz,h1,Nat.le_of_ble_eq_true h2,h4,by simpa using h3⟩
def bZ(C:Nat->Value)(m:Nat):List Value:=(List.range m).map C
def XM.ft{W w:World}{S:Nat->Nat->Prop}{H:List aB}(h:XM W S H w)(e:TypeId)(sz:Nat):XM W S (.row (.slice none 0 0) e sz 0 []::H) w:=
 h.fresh (fun b o hb=>by simp[aB.fO,Value.ownBlock]at hb) (gy.refl _ _) (World.ownsRow_nil w 0 e sz)
def jQ(w:World)(o:Obj)(S:Nat->Nat->Prop):gy w (w.alloc o) S:=
 ⟨rfl,rfl,rfl,sq,fun b hb _=>heap_alloc_old w _ hb,fun b A' t' fz hA=>⟨A',by rw[heap_alloc_old w _ (di hA)];exact hA,rfl,fun _ _=>rfl⟩⟩
def uk{w w':World}{S:Nat->Nat->Prop}(h:gy w.drew w' S):gy w w' S:=⟨h.os,h.tape,h.output,h.size,h.same,h.part⟩
def H8{w:World}{g:Nat}{Gc cs:Array Value}{t:TypeId}{fz:Nat×Nat}(hg:w.heap[g]? =some (.cells Gc t fz))(hs:cs.size=Gc.size){S:Nat->Nat->Prop}(hS:∀ o,S g o):gy w (w.setRow g cs) S:=by
 refine⟨rfl,rfl,rfl,sq,fun k hk hn=>setRow_other w g k _ fun e=>hn 0 (e▸hS 0),fun k A' t' fz' hA=> ?_⟩;by_cases hk:k=g
 ·subst hk;rw[hg]at hA;simp only[Option.some.injEq,Obj.cells.injEq]at hA;obtain⟨rfl,rfl,rfl⟩:=hA;exact⟨cs,setRow_heap w k Gc cs _ _ hg,hs,fun o ho=>absurd (hS o) ho⟩
 ·exact⟨A',by rw[setRow_other w g k _ hk];exact hA,rfl,fun _ _=>rfl⟩
def oG{P:Program}{w:World}{t ty e:TypeId}{p:Option Addr}{k cap m c sz b:Nat}{xs news:List Value}(ht:P.underlying t=some (.slice e))(hr:rh P e sz=true)(gB:(aB.row (.slice p k cap) e sz k xs).holds w)(hm:0<m)(hl:news.length=m*sz)(RF:∀ j u,news[j]? =some u->w.cell? ((⟨b,0,none⟩:Addr).add j)=some u)(h1:∀ u∈news,u.oneCell'=true)(hk:k+m<=100000000000):∃ p' cJ w',(Builtin.append_ #[t,t] ty #[.slice p k cap,.slice (some ⟨b,0,none⟩) m c]).run P w= .ok (.slice p' (k+m) cJ) w'/\(aB.row (.slice p' (k+m) cJ) e sz (k+m) (xs++news)).holds w'/\gy w w' (fun b o=>(aB.row (.slice p k cap) e sz k xs).fO b o)/\(∀ b o,(aB.row (.slice p' (k+m) cJ) e sz (k+m) (xs++news)).fO b o->(aB.row (.slice p k cap) e sz k xs).fO b o\/w.heap.size<=b):=by
 obtain⟨i,z,hi,hz,po,Zo,VX,KF⟩:=qm hr;subst po;have vI:k+m<=maxLen:=by simp only[maxLen];omega
 have hlen:(xs++news).length=(k+m)*i.size:=by rw[List.length_append,gB.1,hl,Nat.add_mul]
 have vJ:(k+m)*i.bytes<=140737488355328:=Nat.le_trans (Nat.mul_le_mul hk Zo) og;have grown:∀ (Gc:Nat),
   (aB.row (.slice (some ⟨w.heap.size,0,none⟩) (k+m) (grownCap w (k+m) Gc e)) e i.size (k+m) (xs++news)).holds (w.drew.alloc (.cells (xs.toArray++news.toArray++Builtin.zeroCells z.cells (grownCap w (k+m) Gc e-(k+m))) e)):=by
  intro Gc;have K2:=grownCap_ge w (k+m) Gc e;have OP:grownCap w (k+m) Gc e<=maxLen:=grownCap_le_maxLen w (k+m) Gc e vI;refine⟨hlen,.inr ⟨w.heap.size,_,_,rfl,Nat.zero_le _,heap_alloc_new w.drew _,K2,OP,?_,?_⟩⟩
  ·simp only[Array.size_append,List.size_toArray,size_zeroCells,VX,gB.1,hl,<-Nat.add_mul];congr 1;omega
  ·simp only[Array.toList_append,List.append_assoc];rw[<-List.append_assoc,<-hlen];exact List.take_left
 have Zp:∀ (o:Obj) S,gy w (w.drew.alloc o) S:=fun o S=>uk (jQ w.drew o S);have Zq:=gB;rcases gB.2 with⟨hv,rfl⟩ | ⟨g,pf,cur,hv,_,hg,hnc,OP,BN,adS⟩
 ·simp only[Value.slice.injEq]at hv;obtain⟨rfl,_,rfl⟩:=hv;have hx:xs=[]:=List.eq_nil_of_length_eq_zero (by simpa using gB.1);subst hx;have hr:=run_append_nil (P:=P) w t ty e i z ht hi hz ⟨b,0,none⟩ m c news hl RF hm (by simp only[maxLen]at vI;omega) (by simp only[Nat.zero_add]at vJ;omega);have hgr:=grown 0;simp only[Nat.zero_add,List.nil_append,Array.empty_append]at hgr ⊢;exact⟨_,_,_,hr,hgr,Zp _ _,fun b' o hb=>.inr (by simp only[aB.fO,Value.ownBlock,Option.some.injEq]at hb;omega)⟩
 ·simp only[Value.slice.injEq,true_and]at hv;obtain⟨rfl,rfl⟩:=hv;by_cases lJ:k+m<=cap
  ·have adT:k*i.size+news.length<=cur.size:=by rw[hl,BN,<-Nat.add_mul];exact Nat.mul_le_mul_right _ lJ
   have hr:=run_append_room (P:=P) w t ty e i ht hi g k cap cur hg ⟨b,0,none⟩ m c news hl RF h1 lJ adT;have adU:(cur.toList.take (k*i.size)++news++cur.toList.drop (k*i.size+news.length)).toArray.size=cur.size:=by
    simp only[List.size_toArray,List.length_append,List.length_take,List.length_drop,Array.length_toList];omega
   refine⟨_,_,_,hr,⟨hlen,.inr ⟨g,cap,_,rfl,Nat.zero_le _,setRow_heap w g cur _ e _ hg,lJ,OP,adU.trans BN,?_⟩⟩,H8 hg adU fun _=>rfl,fun b' o hb=>.inl hb⟩;rw[adS,<-hlen];exact List.take_left
  ·have holds:∀ j u,xs[j]? =some u->w.cell? ((⟨g,0,none⟩:Addr).add j)=some u:=World.ownsRow.cells Zq (g:=g) rfl;have hr:=run_append_grow (P:=P) w t ty e i z ht hi hz ⟨g,0,none⟩ k cap xs Zq.1 holds ⟨b,0,none⟩ m c news hl RF og (by simp only[maxLen]at vI;omega) (growslice_fits og vJ);exact⟨_,_,_,hr,grown cap,Zp _ _,fun b' o hb=>.inr (by simp only[aB.fO,Value.ownBlock,Option.some.injEq]at hb;omega)⟩
section
variable {P:Program} {n:Fr} {Q:Exit->Act->World->Prop} {L:PF} {ops:Md} {bU:List Oper} {ty:TypeId} {pos:String} {af:Array Edge} {d:Nat}
variable {W:World} {S:Nat->Nat->Prop} {H H':List aB}
theorem ri{a:Act}(ha:pd n L a):∀ (l:List (Nat×Operand)) (us:List (Nat×Value)),l.mapM (fun x=>(ev L x.2).map fun u=>(x.1,u))=some us->l.map (fun x=>(x.1,a.eval x.2))=us
 | [],us,h=>by simp at h;subst h;rfl
 | x::r,us,h=>by
  simp only[List.mapM_cons,Option.bind_eq_bind]at h;cases he:ev L x.2 with
  | none=>simp[he]at h
  | some u=>
   simp only[he,Option.map_some,Option.bind_some]at h;cases hr:r.mapM (fun x=>(ev L x.2).map fun u=>(x.1,u))with
   | none=>simp[hr]at h
   | some us'=>
    simp[hr]at h;subst h;simp only[List.map_cons];rw[ri ha r us' hr,au ha he]
def XO.buildSlice{t e:TypeId}{parts:Array (Nat×Operand)}{vs:Array (Nat×Value)}{k m:Nat}{A:Array Value}(hp:parts.toList.mapM (fun x=>(ev L x.2).map fun u=>(x.1,u))=some vs.toList)(hb:∀ w,(Instr.buildSlice t k vs).run P w= .ok (.slice (some ⟨w.heap.size,0,none⟩) k k) (w.alloc (.cells A e)))(hA:A.size=m)(hd:Nat.blt d n.sz=true)(h:∀ b,XO P n ops Q bU ((d,.slice (some ⟨b,0,none⟩) k k)::L) (XM W S (.cells b 0 m (cellsOf A)::H))):XO P n ops Q (⟨some d,.buildSlice t k parts,ty,pos,af,none⟩::bU) L (XM W S H):=
 XO.op rfl fun a w ha hw=>by
  have mz:=hw.alloc A e (cellsOf A) fun i hi=>gN _ _ hi;rw[hA]at mz;unfold Oper.wp;have hv:parts.map (fun (i,x)=>(i,a.eval x))=vs:=by
   apply Array.toList_inj.1;rw[Array.toList_map];exact ri ha _ _ hp
  have:(execOp a.eval ⟨some d,.buildSlice t k parts,ty,pos,af,none⟩).run P w= .ok (.value (.slice (some ⟨w.heap.size,0,none⟩) k k)) (w.alloc (.cells A e)):=by
   simp only[execOp,hv,Sem.run_bind,hb,Result.andThen_ok,Sem.run_pure]
  rw[this];exact h _ _ _ (ha.put hd _) mz
def XO.append{t e:TypeId}{x y:Operand}{p:Option Addr}{k cap m c sz b N:Nat}{xs:List Value}{C:Nat->Value}(hx:ev L x=some (.slice p k cap))(hy:ev L y=some (.slice (some ⟨b,0,none⟩) m c))(ht:P.underlying t=some (.slice e))(hr:rh P e sz=true)(hH:nc H (.row (.slice p k cap) e sz k xs) H')(hN:kR H (.cells b 0 N C))(Wq:N=m*sz)(h1:(bZ C N).all one=true)(hm:0<m)(hk:k+m<=100000000000)(hd:Nat.blt d n.sz=true)(h:∀ p' cJ,XO P n ops Q bU ((d,.slice p' (k+m) cJ)::L) (XM W S (.row (.slice p' (k+m) cJ) e sz (k+m) (xs++bZ C N)::H'))):XO P n ops Q (⟨some d,.call ⟨.builtin .append,#[x,y],#[t,t]⟩,ty,pos,af,none⟩::bU) L (XM W S H):=
 XO.op rfl fun a w ha hw=>by
  have hc:(aB.cells b 0 N C).holds w:=hw.eY.1 _ hN.mem;have gB:(aB.row (.slice p k cap) e sz k xs).holds w:=hw.eY.1 _ (hH.b8.mem_iff.2 sq);obtain⟨p',cJ,w',h3,h4,h5,h6⟩:=oG (ty:=ty) (c:=c) (b:=b) (news:=bZ C N) ht hr gB hm (by simp[bZ,Wq]) (fun j u hj=>by
    simp only[bZ,List.getElem?_map,Option.map_eq_some_iff]at hj
    obtain⟨j',hj1,rfl⟩:=hj
    have H9:j<N:=by
     have:=(List.getElem?_eq_some_iff.1 hj1).1
     simpa using this
    have hj3:j'=j:=by
     have:=(List.getElem?_eq_some_iff.1 hj1).2
     simpa using this.symm
    subst hj3
    have hcc:=dX hc H9
    have e0:(⟨b,0,none⟩:Addr).add j'=⟨b,0+j',none⟩:=by
     cases j'<;>simp[Addr.add]
    rw[e0];exact hcc) (fun u hu=>oF (List.all_eq_true.1 h1 u hu)) hk
  have sK:=hw.b7 hH rfl h6 h5 h4;unfold Oper.wp;have:(execOp a.eval ⟨some d,.call ⟨.builtin .append,#[x,y],#[t,t]⟩,ty,pos,af,none⟩).run P w= .ok (.value (.slice p' (k+m) cJ)) w':=by
   simp[execOp,resolve,invoke,builtin,au ha hx,au ha hy,h3]
  rw[this];exact h _ _ _ _ (ha.put hd _) sK
def gQ{t e:TypeId}{parts:Array (Nat×Operand)}{vs:Array (Nat×Value)}{k sz:Nat}{A:Array Value}(hp:parts.toList.mapM (fun x=>(ev L x.2).map fun u=>(x.1,u))=some vs.toList)(hb:∀ w,(Instr.buildSlice t k vs).run P w= .ok (.slice (some ⟨w.heap.size,0,none⟩) k k) (w.alloc (.cells A e)))(hA:A.size=k*sz)(hk:k<=1000000)(hd:Nat.blt d n.sz=true)(h:∀ b,XO P n ops Q bU ((d,.slice (some ⟨b,0,none⟩) k k)::L) (XM W S (.row (.slice (some ⟨b,0,none⟩) k k) e sz k A.toList::H))):XO P n ops Q (⟨some d,.buildSlice t k parts,ty,pos,af,none⟩::bU) L (XM W S H):=
 XO.op rfl fun a w ha hw=>by
  have mz:XM W S (.row (.slice (some ⟨w.heap.size,0,none⟩) k k) e sz k A.toList::H) (w.alloc (.cells A e)):=by
   refine hw.fresh (fun b o hb=>by simp only[aB.fO,Value.ownBlock,Option.some.injEq]at hb;omega) (jQ w _ _) ⟨by simp[hA],.inr ⟨w.heap.size,k,A,rfl,Nat.zero_le _,heap_alloc_new w _,Nat.le_refl _,by simp only[maxLen];omega,hA,?_⟩⟩;rw[<-hA,<-Array.length_toList,List.take_length]
  unfold Oper.wp;have hv:parts.map (fun (i,x)=>(i,a.eval x))=vs:=by
   apply Array.toList_inj.1;rw[Array.toList_map];exact ri ha _ _ hp
  have:(execOp a.eval ⟨some d,.buildSlice t k parts,ty,pos,af,none⟩).run P w= .ok (.value (.slice (some ⟨w.heap.size,0,none⟩) k k)) (w.alloc (.cells A e)):=by
   simp only[execOp,hv,Sem.run_bind,hb,Result.andThen_ok,Sem.run_pure]
  rw[this];exact h _ _ _ (ha.put hd _) mz
def cell_of_row{w:World}{g k cap sz j:Nat}{e:TypeId}{xs:List Value}(h:(aB.row (.slice (some ⟨g,0,none⟩) k cap) e sz k xs).holds w)(hj:xs[j]? =some v):w.cell? ⟨g,0+j,none⟩=some v:=by
 have:=World.ownsRow.cells h (g:=g) rfl j v hj;have e0:(⟨g,0,none⟩:Addr).add j=⟨g,0+j,none⟩:=by cases j<;>simp[Addr.add]
 rw[e0]at this;exact this
def yP{t:TypeId}{g i k cap sz:Nat}{e:TypeId}{xs:List Value}{φ:World->Prop}{gd:Option (Nat×Bool)}(hx:ev L x=some (aA g 0 i))(hH:∀ w,φ w->(aB.row (.slice (some ⟨g,0,none⟩) k cap) e sz k xs).holds w)(hv:xs[i]? =some v)(ht:jD P t=true):aZ P n L φ (⟨some d,.load t x,ty,pos,af,gd⟩) v:=fun a w ha hw=>by
 have hc:w.cell? ⟨g,i,none⟩=some v:=by
  have:=cell_of_row (hH w hw) hv;rwa[Nat.zero_add]at this
 simp[execOp,au ha hx,Instr.loadAt,Instr.sureAddr,aA,fT ht hc]
end
def fI(zs:List Int):List Value:=zs.map (Value.int .i64)
def il(zs:List Int)(z:Int):Int:=zs.getD z.toNat 0
def ints_at{zs:List Int}(h:0<=z/\z<zs.length:=by omega):(fI zs)[0+z.toNat*1]? =some (.int .i64 (il zs z)):=by
 have h2:z.toNat<zs.length:=og;simp[fI,il,List.getD,h2]
def Wr{zs ws:List Int}(hl:zs.length=ws.length)(h:∀ z:Int,0<=z->z<zs.length->il zs z=il ws z):zs=ws:=by
 apply List.ext_getElem hl;intro i h1 h2;have:=h i og og;simpa [il,List.getD,h1,h2]using this
abbrev dE(p:Option Addr)(cap:Nat)(e:TypeId)(zs:List Int):aB:=.row (.slice p zs.length cap) e 1 zs.length (fI zs)
def Ia(zs:List Int)(z:Int):fI zs++[.int .i64 z]=fI (zs++[z]):=by simp[fI]
section
variable {P:Program} {n:Fr} {Q:Exit->Act->World->Prop} {L:PF} {ops:Md} {bU:List Oper} {ty:TypeId} {pos:String} {af:Array Edge} {d:Nat}
variable {W:World} {S:Nat->Nat->Prop} {H H':List aB}
def kW{t e:TypeId}{p:Option Addr}{cap c b:Nat}{zs:List Int}(hx:ev L x=some (.slice p zs.length cap))(hy:ev L y=some (.slice (some ⟨b,0,none⟩) 1 c))(ht:P.underlying t=some (.slice e))(hr:rh P e 1=true)(hH:nc H (dE p cap e zs) H')(hN:kR H (.cells b 0 1 (cellsOf #[.int .i64 z])))(hk:zs.length+1<=100000000000)(hd:Nat.blt d n.sz=true)(h:∀ p' cJ,XO P n ops Q bU ((d,.slice p' (zs++[z]).length cJ)::L) (XM W S (dE p' cJ e (zs++[z])::H'))):XO P n ops Q (⟨some d,.call ⟨.builtin .append,#[x,y],#[t,t]⟩,ty,pos,af,none⟩::bU) L (XM W S H):=
 XO.append hx hy ht hr hH hN rfl rfl og hk hd (fun p' cJ=>by
  have e1:zs.length+1=(zs++[z]).length:=sq
  have e2:fI zs++bZ (cellsOf #[.int .i64 z]) 1=fI (zs++[z]):=Ia zs z
  rw[e1,e2]
  exact h p' cJ)
def Ws{k:Nat}{ps:List Nat}{cs:List (Nat×Nat)}{fn:Func}{R:Ending->World->Prop}{a b o i m sz:Nat}{t:TypeId}{C:Nat->Value}(hr:fn.results= #[.cell a t])(hv:lk L a=some (aA b o i))(hH:kR H (.cells b o m C))(hC:i+sz<=m/\cZ C i sz=v)(ht:ny P t=true)(hs:fb P t=some sz)(h:∀ w,XM W S H w->R (.returned v) w):XE (fr k ps cs) (bodyPost P fn R) .ret L (XM W S H):=fun x w ha hw=>
 ⟨ha.1,v,by
  have hc:(aB.cells b o m C).holds w:=hw.eY.1 _ hH.mem
  have hl:=js (P:=P) (w:=w) (b:=b) (o:=o) (i:=i) (C:=C) ht hs fun l hl=>dX hc
  rw[hC.2]at hl
  have he:x.tmps.getD a undef= .pointer (some ⟨b,o+i,none⟩):=ha.2.2 a _ hv
  have he2:x.tmps[a]?.getD undef= .pointer (some ⟨b,o+i,none⟩):=by simpa using he
  simp[results,hr,he2,asAddr,hl],h w hw⟩
def Gd(f:Int->Int)(m:Nat):Array Value:=((List.range m).map fun (j:Nat)=>Value.int .i64 (f (j:Int))).toArray
def ln{t e:TypeId}{f:Int->Int}{m:Nat}{k:IntKind}{φ:World->Prop}{gd:Option (Nat×Bool)}(hx:ev L x=some (.agg (Gd f m)))(hy:ev L y=some (.int k z))(ht:P.underlying t=some (.array m e))(hs:fb P e=some 1)(he:jD P e=true)(hz:0<=z/\z<m:=by omega):aZ P n L φ ⟨some d,.index t x y,ty,pos,af,gd⟩ (.int .i64 (f z)):=fun a w ha _=>by
 have h2:z.toNat<m:=og;have h3:((z.toNat:Nat):Int)=z:=og;have hp:(part e (Gd f m) (z.toNat*1)).run P w= .ok (.int .i64 (f z)) w:=by
  simp[part,jP he,Gd,h2,h3]
 simp only[execOp,au ha hx,au ha hy,Instr.index,asIntOf,Sem.run_bind,Sem.run_pure,Result.andThen_ok,run_underlying ht,hz,run_sizeOf hs];simp only[Sem.run_bind,run_sizeOf hs,Result.andThen_ok,hp,true_and,and_self,if_true]
def K3{t e:TypeId}{A:Array Value}{m:Nat}{k:IntKind}{φ:World->Prop}{gd:Option (Nat×Bool)}(hx:ev L x=some (.agg A))(hy:ev L y=some (.int k z))(ht:P.underlying t=some (.array m e))(hs:fb P e=some 1)(he:jD P e=true)(hz:0<=z/\z<m)(hv:A[z.toNat]? =some v):aZ P n L φ ⟨some d,.index t x y,ty,pos,af,gd⟩ v:=fun a w ha _=>by
 have hp:(part e A (z.toNat*1)).run P w= .ok v w:=by
  simp[part,jP he,hv]
 simp only[execOp,au ha hx,au ha hy,Instr.index,asIntOf,Sem.run_bind,Sem.run_pure,Result.andThen_ok,run_underlying ht,hz,run_sizeOf hs];simp only[Sem.run_bind,run_sizeOf hs,Result.andThen_ok,hp,true_and,and_self,if_true]
end
def encI(f:Int->Int)(m:Nat):Nat->Value:=fun i=>if i<m then .int .i64 (f i)else undef
def Wt(f:Int->Bool)(m:Nat):Array Value:=((List.range m).map fun (j:Nat)=>Value.bool (f (j:Int))).toArray
def MW(f:Int->Bool)(m:Nat):Nat->Value:=fun i=>if i<m then .bool (f i)else undef
theorem encI.st(f:Int->Int)(m:Nat)(z v:Int)(h:0<=z/\z<m):0+z.toNat*1<m/\dL (encI f m) (0+z.toNat*1) (.int .i64 v)=encI (ad f z v) m:=by
 have h1:0+z.toNat*1<m:=og;refine⟨h1,?_⟩;funext i;unfold dL encI ad;by_cases h2:i=0+z.toNat*1
 ·have h3:(i:Int)=z:=og;have h4:i<m:=og;simp only[if_pos h2,if_pos h3,if_pos h4]
 ·have h3:i<m->¬(i:Int)=z:=og;simp only[if_neg h2];by_cases h4:i<m
  ·simp only[if_pos h4,if_neg (h3 h4)]
  ·simp only[if_neg h4]
theorem MW.st(f:Int->Bool)(m:Nat)(z:Int)(v:Bool)(h:0<=z/\z<m):0+z.toNat*1<m/\dL (MW f m) (0+z.toNat*1) (.bool v)=MW (ad f z v) m:=by
 have h1:0+z.toNat*1<m:=og;refine⟨h1,?_⟩;funext i;unfold dL MW ad;by_cases h2:i=0+z.toNat*1
 ·have h3:(i:Int)=z:=og;have h4:i<m:=og;simp only[if_pos h2,if_pos h3,if_pos h4]
 ·have h3:i<m->¬(i:Int)=z:=og;simp only[if_neg h2];by_cases h4:i<m
  ·simp only[if_pos h4,if_neg (h3 h4)]
  ·simp only[if_neg h4]
end Go.X

namespace Go.X
open Go
variable{x y:Operand}{p:Option Addr}{v:Value}
abbrev aM(p:Option Addr)(cap:Nat)(e:TypeId)(sz k:Nat)(C:Nat->Value):aB:=.row (.slice p k cap) e sz k (bZ C (k*sz))
theorem ea{C:Nat->Value}{m i:Nat}(h:i<m:=by omega):(bZ C m)[i]? =some (C i):=by simp[bZ,h]
theorem aQ(C:Nat->Value)(m:Nat):(bZ C m).length=m:=by simp[bZ]
theorem K4(C:Nat->Value)(m i:Nat)(v:Value):(bZ C m).set i v=bZ (dL C i v) m:=by
 apply List.ext_getElem?;intro j;by_cases hj:j<m
 ·rw[ea hj,List.getElem?_set,aQ];by_cases h:i=j
  ·subst h;simp[dL,hj]
  ·have h2:¬j=i:=fun e=>h e.symm;rw[if_neg h,ea hj];simp[dL,h2]
 ·rw[List.getElem?_eq_none (by simp[aQ];omega),List.getElem?_eq_none (by simp[aQ];omega)]
theorem yQ{w:World}{g cap sz k i:Nat}{e:TypeId}{C:Nat->Value}(h:(aM (some ⟨g,0,none⟩) cap e sz k C).holds w)(hi:i<k*sz:=by omega):w.cell? ⟨g,i,none⟩=some (C i):=by
 have:=cell_of_row h (ea hi);rwa[Nat.zero_add]at this
def oe{w:World}{g cap sz k:Nat}{e:TypeId}{xs:List Value}(h:(aB.row (.slice (some ⟨g,0,none⟩) k cap) e sz k xs).holds w):∃ cur,w.heap[g]? =some (.cells cur e (0,0))/\k<=cap/\cap<=maxLen/\cur.size=cap*sz/\cur.toList.take (k*sz)=xs:=by
 rcases h.2 with⟨hv,_⟩ | ⟨g',cJ,cur,hv,_,h1,h2,h3,h4,h5⟩
 ·cases hv
 ·simp only[Value.slice.injEq,Option.some.injEq,Addr.mk.injEq,and_true,true_and]at hv;obtain⟨rfl,rfl⟩:=hv;exact⟨cur,h1,h2,h3,h4,h5⟩
def XM.MX{W w:World}{S:Nat->Nat->Prop}{H H':List aB}{g cap sz k i:Nat}{e:TypeId}{C:Nat->Value}(h:XM W S H w)(hd:nc H (aM (some ⟨g,0,none⟩) cap e sz k C) H')(hi:i<k*sz)(v:Value):XM W S (aM (some ⟨g,0,none⟩) cap e sz k (dL C i v)::H') (w.setCell ⟨g,i,none⟩ v):=by
 have hh:(aM (some ⟨g,0,none⟩) cap e sz k C).holds w:=h.eY.1 _ (hd.b8.mem_iff.2 sq);obtain⟨cur,h1,h2,h3,h4,h5⟩:=oe hh;have hS:(aM (some ⟨g,0,none⟩) cap e sz k C).fO g (0+i):=rfl;have hk:gy w (w.setCell ⟨g,i,none⟩ v) (fun b o=>(aM (some ⟨g,0,none⟩) cap e sz k C).fO b o):=by
  have:=gy.setCell h1 v hS;rwa[Nat.zero_add]at this
 refine h.b7 (e':=aM (some ⟨g,0,none⟩) cap e sz k (dL C i v)) hd rfl (fun b' o' ha=>.inl ha) hk ?_;refine⟨by rw[aQ],.inr ⟨g,cap,cur.setIfInBounds i v,rfl,Nat.zero_le _,by simp[World.setCell,Array.getElem?_modify,h1],h2,h3,by simpa using h4,?_⟩⟩;rw[Array.toList_setIfInBounds,List.take_set,h5,K4]
section
variable {P:Program} {n:Fr} {Q:Exit->Act->World->Prop} {L:PF} {ops:Md} {bU:List Oper} {ty:TypeId} {pos:String} {af:Array Edge} {d:Nat}
variable {W:World} {S:Nat->Nat->Prop} {H H':List aB}
def sU{w:World}{g cap sz k i:Nat}{e:TypeId}{C:Nat->Value}(h:(aM (some ⟨g,0,none⟩) cap e sz k C).holds w)(hi:i<k*sz)(hv:one v=true):(store ⟨g,i,none⟩ v).run P w= .ok () (w.setCell ⟨g,i,none⟩ v):=by
 rw[run_store P w _ v .plain (oF hv),yQ h hi];obtain⟨cur,h1,h2,h3,h4,h5⟩:=oe h;have:w.frozen? ⟨g,i,none⟩=false:=by
  simp only[World.frozen?,h1];simp
 simp[this]
def vj{g cap sz k:Nat}{e:TypeId} :∀ (vs:List Value) (i j:Nat) (C:Nat->Value) (w:World),XM W S (aM (some ⟨g,0,none⟩) cap e sz k C::H) w->i+j+vs.length<=k*sz->vs.all one=true->
  ∃ w',(storeCells ⟨g,i,none⟩ vs j).run P w= .ok () w'/\XM W S (aM (some ⟨g,0,none⟩) cap e sz k (cC C (i+j) vs)::H) w'
 | [],i,j,C,w,h,_,_=>⟨w,by simp[storeCells],h⟩
 | v::r,i,j,C,w,h,hl,h1=>by
  simp only[List.all_cons,Bool.and_eq_true]at h1;simp only[List.length_cons]at hl;have h2:=h.MX .aa (i:=i+j) og v;obtain⟨w',hr,hx⟩:=vj r i (j+1) _ _ h2 og h1.2;refine⟨w',?_,by simpa only[cC,Nat.add_assoc]using hx⟩;simp only[storeCells,Sem.run_bind,oE];rw[show(⟨g,i,none⟩:Addr).add j=⟨g,i+j,none⟩from by
   have:=oE g 0 i j
   simpa only[Nat.zero_add]using this,sU (show(aM (some ⟨g,0,none⟩) cap e sz k C).holds w from h.eY.1 _ sq) og h1.1]
  exact hr
def BO{t:TypeId}{g cap sz k i m:Nat}{e:TypeId}{C:Nat->Value}{cs:Array Value}{a:Act}{w:World}(ha:pd n L a)(hx:ev L x=some (aA g 0 i))(hy:ev L y=some (.agg cs))(hw:XM W S (aM (some ⟨g,0,none⟩) cap e sz k C::H) w)(hi:i+m<=k*sz)(hv:cs.toList.all one=true/\cs.size=m)(hs:fb P t=some m):∃ w',(execOp a.eval ⟨none,.store t x y,ty,pos,af,none⟩).run P w= .ok .skip w'/\XM W S (aM (some ⟨g,0,none⟩) cap e sz k (cC C i cs.toList)::H) w':=by
 obtain⟨w',hr,mz⟩:=vj (P:=P) cs.toList i 0 C w hw (by simp;omega) hv.1;simp only[Nat.add_zero]at mz;exact⟨w',by simp[execOp,au ha hx,au ha hy,Instr.storeAt,Instr.sureAddr,aA,storeVar,Value.cells,run_sizeOf hs,hv.2,hr],mz⟩
def XO.Wu{t:TypeId}{g cap sz k i m:Nat}{e:TypeId}{C C':Nat->Value}{cs:Array Value}(hx:ev L x=some (aA g 0 i))(hy:ev L y=some (.agg cs))(hH:nL H (aM (some ⟨g,0,none⟩) cap e sz k C) (aM (some ⟨g,0,none⟩) cap e sz k C') H')(hi:i+m<=k*sz/\cC C i cs.toList=C')(hv:cs.toList.all one=true/\cs.size=m)(hs:fb P t=some m)(h:XO P n ops Q bU L (XM W S H')):XO P n ops Q (⟨none,.store t x y,ty,pos,af,none⟩::bU) L (XM W S H):=
 XO.op rfl fun a w ha hw=>by
  obtain⟨H1,hd,hp⟩:=hH.Zm;obtain⟨w',hr,mz⟩:=BO (ty:=ty) (pos:=pos) (af:=af) ha hx hy (hw.b8 hd.b8) hi.1 hv hs;rw[hi.2]at mz;unfold Oper.wp;rw[hr];exact h _ _ ha (mz.b8 hp)
def Wv{t:TypeId}{g i k cap sz:Nat}{e:TypeId}{C:Nat->Value}{φ:World->Prop}{gd:Option (Nat×Bool)}(hx:ev L x=some (aA g 0 i))(hH:∀ w,φ w->(aM (some ⟨g,0,none⟩) cap e sz k C).holds w)(hv:i<k*sz/\C i=v)(ht:jD P t=true):
  aZ P n L φ (⟨some d,.load t x,ty,pos,af,gd⟩) v:=yP hx hH (by rw[ea hv.1,hv.2]) ht
def RH{t:TypeId}{g i k cap sz m:Nat}{e:TypeId}{C:Nat->Value}{φ:World->Prop}{gd:Option (Nat×Bool)}(hx:ev L x=some (aA g 0 i))(hH:∀ w,φ w->(aM (some ⟨g,0,none⟩) cap e sz k C).holds w)(hv:i+m<=k*sz/\cZ C i m=v)(ht:ny P t=true)(hs:fb P t=some m):aZ P n L φ (⟨some d,.load t x,ty,pos,af,gd⟩) v:=fun a w ha hw=>by
 have hr:=js (P:=P) (w:=w) (b:=g) (o:=0) (i:=i) (C:=C) ht hs (fun l hl=>by
  have:=yQ (hH w hw) (i:=i+l)
  rwa[Nat.zero_add])
 rw[hv.2]at hr;simp only[Nat.zero_add]at hr;simp[execOp,au ha hx,Instr.loadAt,Instr.sureAddr,aA,hr]
def XO.RJ{t e0:TypeId}{k k2 cap sz:Nat}{kk:IntKind}{z:Int}{e:TypeId}{C C':Nat->Value}(hx:ev L x=some (.slice p k cap))(hy:ev L y=some (.int kk z))(ht:P.underlying t=some (.slice e0))(hs:fb P e0=some sz)(hz:z=(k2:Int))(Ib:k2<=k)(hk:k<=cap)(hC:∀ i,i<k2*sz->C' i=C i)(hH:nL H (aM p cap e sz k C) (aM p cap e sz k2 C') H')(hd:Nat.blt d n.sz=true)(h:XO P n ops Q bU ((d,.slice p k2 cap)::L) (XM W S H')):XO P n ops Q (⟨some d,.slice t x none (some y) none,ty,pos,af,none⟩::bU) L (XM W S H):=
 XO.mono (M':=XM W S H') (fun w hw=>by
  obtain⟨H1,adV,hp⟩:=hH.Zm
  have gB:(aM p cap e sz k C).holds w:=hw.eY.1 _ (adV.b8.mem_iff.2 sq)
  have agu:(aM p cap e sz k2 C').holds w:=by
   refine⟨by rw[aQ],?_⟩
   rcases gB.2 with⟨hv,hk0⟩ | ⟨g,cJ,cur,hv,h0,h1,h2,h3,h4,h5⟩
   ·simp only[Value.slice.injEq]at hv
    obtain⟨rfl,rfl,rfl⟩:=hv
    have:k2=0:=og
    subst this;exact .inl ⟨rfl,rfl⟩
   ·simp only[Value.slice.injEq,true_and]at hv
    obtain⟨rfl,rfl⟩:=hv
    refine .inr ⟨g,cap,cur,rfl,h0,h1,og,h3,h4,?_⟩
    have hle:k2*sz<=k*sz:=Nat.mul_le_mul_right _ Ib
    have:=congrArg (List.take (k2*sz)) h5
    rw[List.take_take,Nat.min_eq_left hle]at this
    rw[this]
    apply List.ext_getElem?
    intro j
    by_cases hj:j<k2*sz
    ·rw[List.getElem?_take_of_lt hj,ea,ea hj,hC j hj]
    ·rw[List.getElem?_eq_none (by rw[List.length_take,aQ];exact Nat.le_trans (Nat.min_le_left _ _) og),List.getElem?_eq_none (by rw[aQ];omega)]
  have sK:=hw.b7 (e':=aM p cap e sz k2 C') adV rfl (fun b o hb=>.inl (by cases p<;>exact hb)) (gy.refl _ _) agu
  exact sK.b8 hp) (XO.v (fun a w ha _=>by
  subst hz
  have hzc:(k2:Int)<=(cap:Int):=og
  have:(execOp a.eval ⟨some d,.slice t x none (some y) none,ty,pos,af,none⟩).run P w= .ok (.value (.slice p k2 cap)) w:=by
   have HP:(if cap=0 then p else p.map fun x=>x.add (0*sz))=p:=by
    split
    ·rfl
    ·cases p with
     | none=>rfl
     | some a=>simp[Addr.add]
   have hk3:k2<=cap:=og
   simp[execOp,au ha hx,au ha hy,Instr.sliceAt,run_underlying ht,Instr.slice,Instr.sliceBounds,Instr.sliceBound,asIntOf,hk3,run_sizeOf hs]
   simpa using HP
  exact this) (by simp[hd,cI]) h)
def BP{w:World}{k cap sz:Nat}{e:TypeId}{xs:List Value}(h:(aB.row (.slice p k cap) e sz k xs).holds w):k<=cap:=by
 rcases h.2 with⟨hv,h0⟩ | ⟨g,cJ,cur,hv,_,_,h2,_⟩
 ·omega
 ·simp only[Value.slice.injEq,true_and]at hv;omega
def vK{t e:TypeId}{k cap m c sz b N:Nat}{C C1 C2:Nat->Value}(hx:ev L x=some (.slice p k cap))(hy:ev L y=some (.slice (some ⟨b,0,none⟩) m c))(ht:P.underlying t=some (.slice e))(hr:rh P e sz=true)(hH:nc H (aM p cap e sz k C) H')(hN:kR H (.cells b 0 N C1))(Wq:N=m*sz)(h1:(bZ C1 N).all one=true)(hm:0<m)(hk:k+m<=100000000000)(hC:∀ i,i<(k+m)*sz->C2 i=if i<k*sz then C i else C1 (i-k*sz))(hd:Nat.blt d n.sz=true)(h:∀ p' cJ,XO P n ops Q bU ((d,.slice p' (k+m) cJ)::L) (XM W S (aM p' cJ e sz (k+m) C2::H'))):XO P n ops Q (⟨some d,.call ⟨.builtin .append,#[x,y],#[t,t]⟩,ty,pos,af,none⟩::bU) L (XM W S H):=
 XO.append hx hy ht hr hH hN Wq h1 hm hk hd (fun p' cJ=>by
  have e2:bZ C (k*sz)++bZ C1 N=bZ C2 ((k+m)*sz):=by
   apply List.ext_getElem?
   intro j
   have hl:(k+m)*sz=k*sz+N:=by rw[Wq,Nat.add_mul]
   by_cases hj:j<k*sz
   ·rw[List.getElem?_append_left (by rw[aQ];exact hj),ea hj,ea,hC j og,if_pos hj]
   ·by_cases H9:j<(k+m)*sz
    ·rw[List.getElem?_append_right (by rw[aQ];omega),aQ,ea,ea H9,hC j H9,if_neg hj]
    ·rw[List.getElem?_eq_none (by simp[aQ];omega),List.getElem?_eq_none (by simp[aQ];omega)]
  rw[e2]
  exact h p' cJ)
end
end Go.X

namespace Go.X
open Go
variable{op:BinOp}{k:IntKind}{x y:Operand}
def Ic{x t:Nat}(ht:x.testBit t=true)(hl:∀ j,j<t->x.testBit j=false):x%2^(t+1)=2^t:=by
 apply Nat.eq_of_testBit_eq;intro i;rw[Nat.testBit_mod_two_pow,Nat.testBit_two_pow];by_cases h:i=t
 ·subst h;simp[ht]
 ·by_cases h2:i<t
  ·simp[hl i h2];omega
  ·have:¬i<t+1:=og;simp[this];omega
def BQ{x:Nat}(hx:x≠0):∃ t,x.testBit t=true/\∀ j,j<t->x.testBit j=false:=by
 obtain⟨i,hi⟩:=Nat.exists_testBit_of_ne_zero hx;obtain⟨t,h1,h2⟩:=exists_least (p:=fun i=>x.testBit i=true) ⟨i,hi⟩;refine⟨t,h1,fun j hj=> ?_⟩;cases hb:x.testBit j with
 | false=>rfl
 | true=>have:=h2 j hb;omega
theorem OQ{x t:Nat}(ht:x.testBit t=true)(hl:∀ j,j<t->x.testBit j=false)(j:Nat):(x&&&(x-1)).testBit j=(x.testBit j&& !decide (j=t)):=by
 have hm:=Ic ht hl;have hd:=Nat.div_add_mod x (2^(t+1));rw[hm]at hd;have hp:0<2^t:=Nat.two_pow_pos t;have DZ:x-1=2^(t+1)*(x/2^(t+1))+(2^t-1):=og;have qi:2^t<2^(t+1):=Nat.pow_lt_pow_right og og;rw[Nat.testBit_and];by_cases h1:j<t
 ·simp[hl j h1]
 ·by_cases h2:j=t
  ·subst h2;rw[DZ,Nat.testBit_two_pow_mul_add _ og];simp
  ·have h3:¬j<t+1:=og;have e1:(x-1).testBit j=x.testBit j:=by
    rw[DZ,Nat.testBit_two_pow_mul_add _ og];conv=>rhs;rw[<-hd,Nat.testBit_two_pow_mul_add _ qi]
    simp[h3]
   rw[e1];simp[h2]
def MY{x t w:Nat}(ht:x.testBit t=true)(hl:∀ j,j<t->x.testBit j=false)(hx:x<2^w)(hw:t<w):x&&&(2^w-x)=2^t:=by
 have hm:=Ic ht hl;have hd:=Nat.div_add_mod x (2^(t+1));rw[hm]at hd;have hp:0<2^t:=Nat.two_pow_pos t;have qi:2^t<2^(t+1):=Nat.pow_lt_pow_right og og;have aiq:2^(t+1)=2*2^t:=by rw[Nat.pow_succ];omega
 have ml:2^w=2^(t+1)*2^(w-(t+1)):=by rw[<-Nat.pow_add];congr 1;omega
 have hq:x/2^(t+1)<2^(w-(t+1)):=by
  rw[Nat.div_lt_iff_lt_mul (Nat.two_pow_pos _),Nat.mul_comm,<-ml];exact hx
 have DZ:2^w-x=2^(t+1)*(2^(w-(t+1))-(x/2^(t+1)+1))+2^t:=by
  have e:2^(t+1)*(2^(w-(t+1))-(x/2^(t+1)+1))=2^w-(2^(t+1)*(x/2^(t+1))+2^(t+1)):=by
   rw[Nat.mul_sub,<-ml,Nat.mul_add,Nat.mul_one]
  have hle:2^(t+1)*(x/2^(t+1))+2^(t+1)<=2^w:=by
   rw[ml,<-Nat.mul_succ];exact Nat.mul_le_mul_left _ hq
  omega
 apply Nat.eq_of_testBit_eq;intro j;rw[Nat.testBit_and,DZ,Nat.testBit_two_pow_mul_add _ qi,Nat.testBit_two_pow];by_cases h1:j<t+1
 ·rw[if_pos h1];by_cases h2:t=j
  ·subst h2;simp[ht]
  ·simp[h2]
 ·rw[if_neg h1,Nat.testBit_two_pow_sub_succ hq];have e1:x.testBit j=(x/2^(t+1)).testBit (j-(t+1)):=by
   conv=>lhs;rw[<-hd,Nat.testBit_two_pow_mul_add _ qi]
   simp[h1]
  rw[e1];have:¬t=j:=og;simp[this];try exact fun h _=>h
def lK(a b:Nat):Nat:=a&&&(a^^^b)
theorem pS(a b j:Nat):(lK a b).testBit j=(a.testBit j&& !b.testBit j):=by
 simp only[lK,Nat.testBit_and,Nat.testBit_xor];cases a.testBit j<;>cases b.testBit j<;>rfl
theorem RL(a b:Nat):lK a b<=a:=Nat.and_le_left
def MZ:IntKind->Bool
 | .u8 | .u16 | .u32 | .u64=>true
 | _=>false
def Ie(hk:MZ k=true){a:Nat}(h:a<2^k.bits):k.wrap (a:Int)=a:=by
 have hs:k.signed=false:=by cases k<;>simp_all[MZ,IntKind.signed]
 have:((a:Int)%(2^k.bits:Int))=a:=Int.emod_eq_of_lt og (by exact_mod_cast h);simp[IntKind.wrap,hs,this]
section
variable {P:Program} {n:Fr} {L:PF} {ty:TypeId} {pos:String} {af:Array Edge} {d:Nat} {φ:World->Prop} {gd:Option (Nat×Bool)}
def RM{w:World}{a b r:Nat}(hk:MZ k=true)(ha:a<2^k.bits)(hb:b<2^k.bits)(hr:(match op with | .and=>some (a&&&b) | .or=>some (a|||b) | .xor=>some (a^^^b) | .andNot=>some (lK a b) | _=>none)=some r):(Op.intBits op k (a:Int) (b:Int)).run P w= .ok (.int k r) w:=by
 have e1:(BitVec.ofInt k.bits (a:Int))=BitVec.ofNat k.bits a:=BitVec.ofInt_natCast _ _;have e2:(BitVec.ofInt k.bits (b:Int))=BitVec.ofNat k.bits b:=BitVec.ofInt_natCast _ _;have n1:(BitVec.ofNat k.bits a).toNat=a:=by simp[Nat.mod_eq_of_lt ha]
 have n2:(BitVec.ofNat k.bits b).toNat=b:=by simp[Nat.mod_eq_of_lt hb]
 have im:∀ (v:BitVec k.bits),k.wrap (v.toNat:Int)=v.toNat:=fun v=>Ie hk v.isLt;cases op<;>simp only[Option.some.injEq]at hr<;>(try cases hr)<;>
  simp only[Op.intBits,e1,e2,Sem.run_pure,im]
 ·rw[BitVec.toNat_and,n1,n2]
 ·rw[BitVec.toNat_or,n1,n2]
 ·rw[BitVec.toNat_xor,n1,n2]
 ·have:(BitVec.ofNat k.bits a&&& ~~~BitVec.ofNat k.bits b).toNat=lK a b:=by
   apply Nat.eq_of_testBit_eq;intro j;rw[pS,BitVec.testBit_toNat,BitVec.getLsbD_and,BitVec.getLsbD_not,BitVec.getLsbD_ofNat,BitVec.getLsbD_ofNat];by_cases hj:j<k.bits
   ·simp[hj]
   ·have:a.testBit j=false:=Nat.testBit_lt_two_pow (Nat.lt_of_lt_of_le ha (Nat.pow_le_pow_right og og));simp[hj,this]
  rw[this]
theorem V.bits{t t':TypeId}{a b r:Nat}(hx:ev L x=some (.int k a))(hy:ev L y=some (.int k b))(hk:MZ k=true)(ha:a<2^k.bits)(hb:b<2^k.bits)(hr:(match op with | .and=>some (a&&&b) | .or=>some (a|||b) | .xor=>some (a^^^b) | .andNot=>some (lK a b) | _=>none)=some r):aZ P n L φ ⟨some d,.binOp op t x y t',ty,pos,af,gd⟩ (.int k r):=
 qk hx hy (fun w A hx hy=>by
  have he:=RM (P:=P) (w:=w) hk ha hb hr
  cases op<;>simp only[Option.some.injEq]at hr<;>(try cases hr)<;>
   simp[execOp,eqGuard,hx,hy,binOp,he])
def V.shl{t t':TypeId}{x y:Operand}{k k':IntKind}{a z:Int}(hx:ev L x=some (.int k a))(hy:ev L y=some (.int k' z))(hz:0<=z)(r:Int)(hr:k.wrap (a*2^(min z.toNat k.bits))=r):aZ P n L φ ⟨some d,.binOp .shl t x y t',ty,pos,af,gd⟩ (.int k r):=
 qk hx hy (fun w A hx hy=>by
  have h:¬z<0:=og
  simp[execOp,eqGuard,hx,hy,binOp,Op.shift,h,hr])
def V.shr{t t':TypeId}{x y:Operand}{k k':IntKind}{a z:Int}(hx:ev L x=some (.int k a))(hy:ev L y=some (.int k' z))(hz:0<=z)(r:Int)(hr:a.fdiv (2^(min z.toNat k.bits))=r):aZ P n L φ ⟨some d,.binOp .shr t x y t',ty,pos,af,gd⟩ (.int k r):=
 qk hx hy (fun w A hx hy=>by
  have h:¬z<0:=og
  simp[execOp,eqGuard,hx,hy,binOp,Op.shift,h,hr])
def ER{t:TypeId}{g m sz:Nat}{z:Int}(hx:ev L x=some (.pointer (some ⟨g,0,none⟩)))(hy:ev L y=some (.int k z))(ht:vh P t=some (m,sz))(hz:0<=z/\z<m):aZ P n L φ (⟨some d,.indexAddr t x y,ty,pos,af,gd⟩) (aA g 0 (0+z.toNat*sz)):=
 ja (b:=g) (o:=0) (i:=0) hx hy ht hz
def OT{w:World}{a b r:Nat}(hw:k.wrap (r:Int)=r)(ha:a<2^k.bits)(hb:b<2^k.bits)(hr:(match op with | .and=>some (a&&&b) | .or=>some (a|||b) | .xor=>some (a^^^b) | .andNot=>some (lK a b) | _=>none)=some r):(Op.intBits op k (a:Int) (b:Int)).run P w= .ok (.int k r) w:=by
 have e1:(BitVec.ofInt k.bits (a:Int))=BitVec.ofNat k.bits a:=BitVec.ofInt_natCast _ _;have e2:(BitVec.ofInt k.bits (b:Int))=BitVec.ofNat k.bits b:=BitVec.ofInt_natCast _ _;have n1:(BitVec.ofNat k.bits a).toNat=a:=by simp[Nat.mod_eq_of_lt ha]
 have n2:(BitVec.ofNat k.bits b).toNat=b:=by simp[Nat.mod_eq_of_lt hb]
 cases op<;>simp only[Option.some.injEq]at hr<;>(try cases hr)<;>
  simp only[Op.intBits,e1,e2,Sem.run_pure]
 ·rw[BitVec.toNat_and,n1,n2,hw]
 ·rw[BitVec.toNat_or,n1,n2,hw]
 ·rw[BitVec.toNat_xor,n1,n2,hw]
 ·have:(BitVec.ofNat k.bits a&&& ~~~BitVec.ofNat k.bits b).toNat=lK a b:=by
   apply Nat.eq_of_testBit_eq;intro j;rw[pS,BitVec.testBit_toNat,BitVec.getLsbD_and,BitVec.getLsbD_not,BitVec.getLsbD_ofNat,BitVec.getLsbD_ofNat];by_cases hj:j<k.bits
   ·simp[hj]
   ·have:a.testBit j=false:=Nat.testBit_lt_two_pow (Nat.lt_of_lt_of_le ha (Nat.pow_le_pow_right og og));simp[hj,this]
  rw[this,hw]
def Ww{t t':TypeId}{a b r:Nat}(hx:ev L x=some (.int .i64 a))(hy:ev L y=some (.int .i64 b))(ha:a<9223372036854775808)(hb:b<9223372036854775808)(hw:r<9223372036854775808)(hr:(match op with | .and=>some (a&&&b) | .or=>some (a|||b) | .xor=>some (a^^^b) | .andNot=>some (lK a b) | _=>none)=some r):aZ P n L φ ⟨some d,.binOp op t x y t',ty,pos,af,gd⟩ (.int .i64 r):=
 qk hx hy (fun w A hx hy=>by
  have he:=OT (P:=P) (w:=w) (k:=.i64) (IntWalk.i64_in _ og) (Nat.lt_of_lt_of_le ha dq) (Nat.lt_of_lt_of_le hb dq) hr
  cases op<;>simp only[Option.some.injEq]at hr<;>(try cases hr)<;>
   simp[execOp,eqGuard,hx,hy,binOp,he])
def M0{t t':TypeId}{a b z:Int}{r:Nat}(hx:ev L x=some (.int .i64 a))(hy:ev L y=some (.int .i64 b))(ha:0<=a/\a<9223372036854775808)(hb:0<=b/\b<9223372036854775808)(hz:0<=z/\z<9223372036854775808)(hr:(match op with | .and=>some (a.toNat&&&b.toNat) | .or=>some (a.toNat|||b.toNat) | .xor=>some (a.toNat^^^b.toNat) | .andNot=>some (lK a.toNat b.toNat) | _=>none)=some r)(he:(r:Int)=z):aZ P n L φ ⟨some d,.binOp op t x y t',ty,pos,af,gd⟩ (.int .i64 z):=by
 subst he;have sK:ev L x=some (.int .i64 ((a.toNat:Nat):Int)):=by rw[show((a.toNat:Nat):Int)=a from og];exact hx
 have hy2:ev L y=some (.int .i64 ((b.toNat:Nat):Int)):=by rw[show((b.toNat:Nat):Int)=b from og];exact hy
 exact Ww sK hy2 og og og hr
def V.rem{t t':TypeId}{x y:Operand}{k:IntKind}{a b:Int}(hx:ev L x=some (.int k a))(hy:ev L y=some (.int k b))(hb:b≠0)(r:Int)(hr:a.tmod b=r):aZ P n L φ ⟨some d,.binOp .rem t x y t',ty,pos,af,gd⟩ (.int k r):=
 qk hx hy fun w A hx hy=>by simp[execOp,eqGuard,hx,hy,binOp,Op.intDiv,hb,hr]
theorem V.quo{t t':TypeId}{x y:Operand}{k:IntKind}{a b:Int}(hx:ev L x=some (.int k a))(hy:ev L y=some (.int k b))(hb:b≠0)(r:Int)(hr:k.wrap (a.tdiv b)=r):aZ P n L φ ⟨some d,.binOp .quo t x y t',ty,pos,af,gd⟩ (.int k r):=
 qk hx hy fun w A hx hy=>by simp[execOp,eqGuard,hx,hy,binOp,Op.intDiv,hb,hr]
def sV{a b:Int}(ha:0<=a:=by omega)(hb:0<b:=by omega)(h:a<=9223372036854775807:=by omega):IntKind.i64.wrap (a.tdiv b)=a/b:=by
 rw[Int.tdiv_eq_ediv_of_nonneg ha];have h1:0<=a/b:=Int.ediv_nonneg ha og;have h2:a/b<=a:=Int.ediv_le_self b ha;exact IntWalk.i64_in _ og
end
end Go.X
