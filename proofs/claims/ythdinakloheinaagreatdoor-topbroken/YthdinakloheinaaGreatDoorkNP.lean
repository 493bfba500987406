import Derived.Test.YthdinakloheinaaGreatDoorXBytes
import Derived.Test.YthdinakloheinaaGreatDoorXBits
import Derived.Test.YthdinakloheinaaGreatDoorXFam
namespace Go.X.Tr
open Go Go.X
abbrev blt(a b:ByteArray):Bool:=Op.bytesLess a.toList b.toList
theorem l8(a b:ByteArray):blt a b=true↔a.toList<b.toList:=by unfold blt;rw[Go.Proofs.bytesLess_eq,decide_eq_true_eq]
theorem toList_inj{a b:ByteArray}(h:a.toList=b.toList):a=b:=by
 have:=sc a b
 rw[h]at this
 simpa using this.symm
theorem zA(a:ByteArray):blt a a=false:=by
 cases h:blt a a with
 | false=>rfl
 | true=>exact absurd ((l8 a a).1 h) (List.lt_irrefl _)
theorem B7{a b c:ByteArray}(h1:blt a b=true)(h2:blt b c=true):blt a c=true:=(l8 a c).2 (List.lt_trans ((l8 a b).1 h1) ((l8 b c).1 h2))
theorem Dl(a b:ByteArray):blt a b=true∨a=b∨blt b a=true:=by
 rcases Decidable.em (a.toList<b.toList)with h | h
 ·exact .inl ((l8 a b).2 h)
 ·rcases Decidable.em (b.toList<a.toList)with q | q
  ·exact .inr (.inr ((l8 b a).2 q))
  ·refine .inr (.inl (toList_inj ?_))
   exact List.le_antisymm (List.not_lt.1 q) (List.not_lt.1 h)
abbrev ji(l:List ByteArray)(i:Nat):ByteArray:=l.getD i ByteArray.empty
def eb(l:List ByteArray):Prop:=∀ i j,i<j→j<l.length→blt (ji l i) (ji l j)=true
def cK:List ByteArray→ByteArray→Nat
 | [],_=>0
 | y::r,x=>if blt y x=true then cK r x+1 else 0
theorem kJ:∀ (l:List ByteArray) (x:ByteArray),cK l x≤l.length
 | [],_=>Nat.le_refl _
 | y::r,x=>by
  unfold cK
  split
  ·simp;exact kJ r x
  ·omega
theorem lS:∀ (l:List ByteArray) (x:ByteArray) (i:Nat),i<cK l x→blt (ji l i) x=true
 | [],_,i,h=>by simp[cK]at h
 | y::r,x,i,h=>by
  unfold cK at h
  split at h
  ·cases i with
   | zero=>simpa [ji]using (by assumption:blt y x=true)
   | succ i=>simpa [ji]using lS r x i (by omega)
  ·omega
theorem qc:∀ (l:List ByteArray) (x:ByteArray),cK l x<l.length→blt (ji l (cK l x)) x=false
 | [],_,h=>by simp at h
 | y::r,x,h=>by
  unfold cK at h ⊢
  split
  ·rename_i c
   rw[if_pos c]at h
   simpa [ji]using qc r x (by simpa using h)
  ·rename_i c
   simpa [ji]using c
theorem u9{l:List ByteArray}(hl:eb l)(x:ByteArray){i:Nat}(h:cK l x≤i)(hi:i<l.length):blt (ji l i) x=false:=by
 have h1:=qc l x (by omega)
 by_cases c:i=cK l x
 ·subst c;exact h1
 ·have h2:=hl (cK l x) i (by omega) hi
  cases q:blt (ji l i) x with
  | false=>rfl
  | true=>rw[B7 h2 q]at h1;cases h1
def iJ(l:List ByteArray)(x:ByteArray):Bool:=decide (cK l x<l.length∧ji l (cK l x)=x)
theorem vj(less:Nat→Bool)(k N:Nat)(h1:∀ t,t<k→less t=true)(h2:∀ t,k≤t→t<N→less t=false):∀ (f lo hi:Nat),hi-lo≤f→lo≤k→k≤hi→hi≤N→Go.Lib.bsGo less f lo hi=k
 | 0,lo,hi,hf,a,b,_=>by unfold Go.Lib.bsGo;omega
 | f+1,lo,hi,hf,a,b,c=>by
  unfold Go.Lib.bsGo
  by_cases h:lo<hi
  ·rw[if_pos h]
   by_cases q:(lo+hi)/2<k
   ·rw[h1 _ q,if_pos rfl];exact vj less k N h1 h2 f _ _ (by omega) (by omega) b c
   ·rw[h2 _ (by omega) (by omega),if_neg (by simp)];exact vj less k N h1 h2 f _ _ (by omega) a (by omega) (by omega)
  ·rw[if_neg h];omega
theorem G5{l:List ByteArray}(hl:eb l)(x:ByteArray):Mk l x=cK l x:=
 vj _ (cK l x) l.length (fun t ht=>lS l x t ht) (fun t ht hn=>u9 hl x ht hn) _ _ _ (by omega) (by omega) (kJ l x) (Nat.le_refl _)
theorem Em{l:List ByteArray}(hl:eb l)(x:ByteArray):wY l x=iJ l x:=by
 unfold wY iJ
 rw[G5 hl]
theorem gX{l:List ByteArray}{x:ByteArray} :iJ l x=true↔cK l x<l.length∧ji l (cK l x)=x:=by unfold iJ;rw[decide_eq_true_eq]
theorem IQ{l:List ByteArray}(hl:eb l){x:ByteArray}{i:Nat}(hi:i<l.length)(h:ji l i=x):i=cK l x:=by
 rcases Nat.lt_trichotomy i (cK l x)with c | c | c
 ·have:=lS l x i c
  rw[h,zA]at this;cases this
 ·exact c
 ·have h1:=qc l x (by omega)
  have h2:=hl (cK l x) i c hi
  rw[h]at h2;rw[h2]at h1;cases h1
theorem Il{l:List ByteArray}(hl:eb l){x:ByteArray}(h:iJ l x=false){i:Nat}(hi:i<l.length):ji l i≠x:=fun e=>by
 have h1:=IQ hl hi e
 have:iJ l x=true:=gX.2 ⟨by omega,by rw[←h1];exact e⟩
 rw[h]at this;cases this
theorem IF{l:List ByteArray}(hl:eb l){x:ByteArray}(h:iJ l x=false){i:Nat}(h1:cK l x≤i)(hi:i<l.length):blt x (ji l i)=true:=by
 rcases Dl (ji l i) x with c | c | c
 ·rw[u9 hl x h1 hi]at c;cases c
 ·exact absurd c (Il hl h hi)
 ·exact c
theorem rB(l:List ByteArray)(p:Nat)(x:ByteArray)(j:Nat)(hp:p≤l.length):ji (l.insertIdx p x) j=if j<p then ji l j else if j=p then x else ji l (j-1):=by
 unfold ji
 rw[List.getD,List.getElem?_insertIdx]
 by_cases c:j<p
 ·rw[if_pos c,if_pos c];rfl
 ·rw[if_neg c,if_neg c]
  by_cases q:j=p
  ·rw[if_pos q,if_pos q,if_pos (by omega)];rfl
  ·rw[if_neg q,if_neg q];rfl
theorem mj(l:List ByteArray)(p j:Nat):ji (l.eraseIdx p) j=if j<p then ji l j else ji l (j+1):=by
 unfold ji
 rw[List.getD,List.getElem?_eraseIdx]
 split<;>rfl
theorem eb.insert{l:List ByteArray}(hl:eb l){x:ByteArray}(h:iJ l x=false):eb (l.insertIdx (cK l x) x):=fun i j hij hj=>by
 have hp:=kJ l x
 rw[List.length_insertIdx,if_pos hp]at hj
 rw[rB _ _ _ _ hp,rB _ _ _ _ hp]
 by_cases c1:j<cK l x
 ·rw[if_pos c1,if_pos (by omega)];exact hl i j hij (by omega)
 ·rw[if_neg c1]
  by_cases c2:j=cK l x
  ·rw[if_pos c2,if_pos (by omega)];exact lS l x i (by omega)
  ·rw[if_neg c2]
   by_cases c3:i<cK l x
   ·rw[if_pos c3];exact hl i (j-1) (by omega) (by omega)
   ·rw[if_neg c3]
    by_cases c4:i=cK l x
    ·rw[if_pos c4];exact IF hl h (by omega) (by omega)
    ·rw[if_neg c4];exact hl (i-1) (j-1) (by omega) (by omega)
theorem eb.erase{l:List ByteArray}(hl:eb l)(p:Nat)(hp:p<l.length):eb (l.eraseIdx p):=fun i j hij hj=>by
 rw[List.length_eraseIdx,if_pos hp]at hj
 rw[mj,mj]
 split<;>split
 ·exact hl i j hij (by omega)
 ·exact hl i (j+1) (by omega) (by omega)
 ·omega
 ·exact hl (i+1) (j+1) (by omega) (by omega)
theorem eb.nil:eb []:=fun i j _ h=>by simp at h
def okB(c:UInt8):Bool:=(decide (97≤c.toNat)&&decide (c.toNat≤122))||(decide (48≤c.toNat)&&decide (c.toNat≤57))||decide (c.toNat=46)
def sy(s:ByteArray):Bool:=(List.range s.size).all (fun i=>okB (s.get! i))&&(decide (1≤s.size∧s.size≤8)&&(decide (s≠⟨#[46]⟩)&&decide (s≠⟨#[46,46]⟩)))
theorem Gj{s:ByteArray} :s=⟨#[]⟩↔s.size=0:=by
 constructor
 ·rintro rfl;rfl
 ·intro h
  cases s with
  | mk d=>congr 1;exact Array.eq_empty_of_size_eq_zero h
structure FF where
 kind:Int→Int
 tree:Int→Int
 links:Int→Int
 held:Int→Int
 up:Int→Int
 data:Int→ByteArray
 names:Int→List ByteArray
 kids:Int→List Int
 roots:List Int
structure FC extends FF where
 nP:Int→Option Addr
 nC:Int→Nat
 kP:Int→Option Addr
 kC:Int→Nat
 rP:Option Addr
 rC:Nat
def Iz(d:ByteArray)(at_:Nat)(x:ByteArray):ByteArray:=⟨((List.range (max d.size (at_+x.size))).map fun i=>if at_≤i∧i<at_+x.size then x.get! (i-at_)else if i<d.size then d.get! i else 0).toArray⟩
namespace FF
def cI(s:FF)(n k:Int):Int:=if n<0∨40≤n then 1 else if s.kind n=0 then 2 else if 0<k∧s.kind n≠k then 11 else 0
def mw(s:FF):Nat→Int
 | 0=> -1
 | k+1=>if s.kind (39-(k:Int))=0 then 39-(k:Int)else mw s k
def free(s:FF):Int:=mw s 40
def gm(s:FF)(z k t l u:Int):FF:=⟨aa s.kind z k,aa s.tree z t,aa s.links z l,aa s.held z 0,aa s.up z u,aa s.data z ByteArray.empty,aa s.names z [],aa s.kids z [],s.roots⟩
def mD(s:FF)(z:Int):FF:=if s.links z=0∧s.held z=0 then s.gm z 0 0 0 0 else s
def jv(s:FF):Int:=if s.roots.length=4 then 4 else if s.free<0 then 4 else 0
def pR(s:FF):FF:=if s.jv=0 then {s.gm s.free 2 (s.roots.length:Int) 1 s.free with roots:=s.roots++[s.free]} else s
def mR(s:FF):Int:=if s.jv=0 then(s.roots.length:Int)else 0
def iU(s:FF)(t:Int):Int:=if t<0∨4≤t then 1 else if(s.roots.length:Int)≤t then 2 else 0
def eo(s:FF)(t:Int):Int:=if s.iU t=0 then ep s.roots t else 0
def mM(s:FF)(n:Int)(x:ByteArray)(k:Int):FF:= {s with names:=aa s.names n ((s.names n).insertIdx (cK (s.names n) x) x),kids:=aa s.kids n ((s.kids n).insertIdx (cK (s.names n) x) k)}
def di(s:FF)(n:Int)(x:ByteArray):FF:= {s with names:=aa s.names n ((s.names n).eraseIdx (cK (s.names n) x)),kids:=aa s.kids n ((s.kids n).eraseIdx (cK (s.names n) x))}
def gY(s:FF)(n:Int)(x:ByteArray):Int:=if s.cI n 2≠0 then s.cI n 2 else if iJ (s.names n) x=true then 0 else 2
def dV(s:FF)(n:Int)(x:ByteArray):Int:=if s.gY n x=0 then ep (s.kids n) (cK (s.names n) x)else 0
def xL(s:FF)(n:Int)(x:ByteArray):Int:=if s.cI n 2≠0 then s.cI n 2 else if sy x=false then 9 else if iJ (s.names n) x=true then 3 else if(s.names n).length=8 then 4 else 0
def busy(s:FF)(k:Int):Prop:=s.kind k=2∧(0<(s.kids k).length∨0<s.held k)
instance (s:FF) (k:Int):Decidable (s.busy k):=by unfold busy;infer_instance
def oB(s:FF):Nat→Int→Int→Bool
 | 0,n,k=>decide (n=k)
 | f+1,n,k=>if n=k then true else if s.up n=n then false else oB s f (s.up n) k
def DA(d:Int→Nat)(s:FF)(n k:Int):Bool:=oB s (d n) n k
def sD(d:Int→Nat)(s:FF)(n:Int)(x:ByteArray)(to:Int):Int:=if s.gY n x≠0 then s.gY n x else if s.cI to 2≠0 then s.cI to 2 else if s.tree n≠s.tree to then 11 else if s.kind (s.dV n x)=2∧DA d s to (s.dV n x)=true then 5 else 0
def nR(d:Int→Nat)(s:FF)(n:Int)(x:ByteArray)(to:Int)(y:ByteArray):Int:=if s.sD d n x to≠0 then s.sD d n x to else(s.di n x).xL to y
def move(d:Int→Nat)(s:FF)(n:Int)(x:ByteArray)(to:Int)(y:ByteArray):FF:=
 if s.sD d n x to≠0 then s else if(s.di n x).xL to y≠0 then(s.di n x).mM n x (s.dV n x)else
  if s.kind (s.dV n x)=2 then {(s.di n x).mM to y (s.dV n x)with up:=aa s.up (s.dV n x) to} else(s.di n x).mM to y (s.dV n x)
def hold(s:FF)(n:Int):FF:=if s.cI n 0=0 then {s with held:=aa s.held n (s.held n+1)} else s
def letE(s:FF)(n:Int):Int:=if s.cI n 0≠0 then s.cI n 0 else if s.held n=0 then 8 else 0
def gW(s:FF)(n:Int):FF:=if s.letE n=0 then mD {s with held:=aa s.held n (s.held n-1)} n else s
def bR(s:FF)(n at_:Int)(x:ByteArray):Int:=if s.cI n 1≠0 then s.cI n 1 else if at_<0 then 1 else if 40<at_∨40-at_<(x.size:Int)then 4 else 0
def write(s:FF)(n at_:Int)(x:ByteArray):FF:=if s.bR n at_ x=0∧x≠ByteArray.empty then {s with data:=aa s.data n (Iz (s.data n) at_.toNat x)} else s
def kH(s:FF):Nat→Int
 | 0=>0
 | k+1=>kH s k+(if 0<s.kind (k:Int)then 1 else 0)
def void:FF:=⟨fun _=>0,fun _=>0,fun _=>0,fun _=>0,fun _=>0,fun _=>ByteArray.empty,fun _=>[],fun _=>[],[]⟩
def nj(f:Int→List Int)(k:Int):Nat→Nat
 | 0=>0
 | n+1=>nj f k n+(f (n:Int)).count k
def p6(s:FF)(k:Int):Nat:=nj s.kids k 40+s.roots.count k
structure Sh (s:FF):Prop where
 rise:∀ n,0≤n→n<40→eb (s.names n)∧(s.names n).length=(s.kids n).length∧(s.names n).length≤8∧(s.kind n≠2→s.names n=[])
 kids:∀ n,0≤n→n<40→∀ k∈s.kids n,0≤k∧k<40
 data:∀ n,0≤n→n<40→(s.data n).size≤40
 roots:s.roots.length≤4∧∀ r∈s.roots,0≤r∧r<40
 num:∀ n,0≤n→n<40→ -1000000≤s.links n∧s.links n≤1000000∧0≤s.held n∧s.held n≤1000000
structure fw (s:FF) (d:Int→Nat) (e q:Int):Prop where
 kinds:∀ n,0≤n→n<40→s.kind n=0∨s.kind n=1∨s.kind n=2
 rise:∀ n,0≤n→n<40→eb (s.names n)∧(s.names n).length=(s.kids n).length∧(s.names n).length≤8∧(s.kind n≠2→s.names n=[])
 nok:∀ n,0≤n→n<40→∀ x∈s.names n,sy x=true
 kids:∀ n,0≤n→n<40→∀ k∈s.kids n,0≤k∧k<40∧s.kind k≠0∧s.tree k=s.tree n∧(s.kind k=2→s.up k=n∧d n<d k)
 data:∀ n,0≤n→n<40→(s.data n).size≤40∧(s.kind n≠1→s.data n=ByteArray.empty)
 roots:s.roots.length≤4∧∀ r∈s.roots,0≤r∧r<40∧s.kind r=2∧s.up r=r
 up:∀ n,0≤n→n<40→s.kind n=2→n≠e→n≠q→(n∈s.roots∧s.up n=n)∨(0≤s.up n∧s.up n<40∧s.kind (s.up n)=2∧n∈s.kids (s.up n)∧d (s.up n)<d n)
 num:∀ n,0≤n→n<40→0≤s.held n∧s.links n=(s.p6 n:Int)+(if n=e then 1 else 0)
 zero:∀ n,0≤n→n<40→s.kind n=0→s.links n=0∧s.held n=0
 pos:∀ n,0≤n→n<40→s.kind n≠0→n≠q→0<s.links n∨0<s.held n
 dir:∀ n,0≤n→n<40→s.kind n=2→n≠q→s.links n=1
abbrev Inv(s:FF)(d:Int→Nat):Prop:=s.fw d (-1) (-1)
theorem pN{s:FF}{n:Int}(h:s.cI n 0=0):0≤n∧n<40∧s.kind n≠0:=by
 unfold cI at h
 split at h
 ·omega
 ·split at h
  ·omega
  ·exact⟨by omega,by omega,by assumption⟩
theorem ou{s:FF}{n k:Int}(h:s.cI n k=0):0≤n∧n<40∧s.kind n≠0∧(0<k→s.kind n=k):=by
 unfold cI at h
 split at h
 ·omega
 ·split at h
  ·omega
  ·split at h
   ·omega
   ·exact⟨by omega,by omega,by assumption,fun _=>by omega⟩
theorem Jq{s:FF}{n k:Int}(h:s.cI n 0≠0):s.cI n 0=s.cI n k:=by
 unfold cI at h ⊢
 split
 ·rfl
 ·rename_i c
  rw[if_neg c]at h
  split
  ·rfl
  ·rename_i c2
   rw[if_neg c2,if_neg (by omega)]at h
   exact absurd rfl h
end FF
def ai:Nat→Bool:=fun i=>Nat.blt i 40
def FC.aJ(e:TypeId)(s:FC):Nat→iu:=fun i=>⟨.slice (s.nP (i:Int)) (s.names (i:Int)).length (s.nC (i:Int)),e,1,(s.names (i:Int)).length,strs (s.names (i:Int))⟩
def FC.aK(e:TypeId)(s:FC):Nat→iu:=fun i=>⟨.slice (s.kP (i:Int)) (s.kids (i:Int)).length (s.kC (i:Int)),e,1,(s.kids (i:Int)).length,ints (s.kids (i:Int))⟩
def FC.void:FC:=⟨FF.void,fun _=>none,fun _=>0,fun _=>none,fun _=>0,none,0⟩
end Go.X.Tr

namespace Go.X.Tr
open Go Go.X
theorem ej(C:Nat→Value):∀ (vs:List Value) (i j:Nat),j<i→bQ C i vs j=C j
 | [],_,_,_=>rfl
 | v::r,i,j,h=>by
  unfold bQ
  rw[ej (cH C i v) r (i+1) j (by omega)]
  simp[cH];omega
theorem dg:∀ (vs:List Value) (C:Nat→Value) (i j:Nat) (v:Value),vs[j]? =some v→bQ C i vs (i+j)=v
 | [],_,_,_,_,h=>by simp at h
 | u::r,C,i,0,v,h=>by
  have h2:u=v:=by simpa using h
  unfold bQ
  rw[ej _ _ _ _ (by omega),←h2]
  simp[cH]
 | u::r,C,i,j+1,v,h=>by
  unfold bQ
  have:=dg r (cH C i u) (i+1) j v (by simpa using h)
  rw[show i+1+j=i+(j+1)from by omega]at this
  exact this
theorem eJ:∀ (vs:List Value) (C:Nat→Value) (i j:Nat),i+vs.length≤j→bQ C i vs j=C j
 | [],_,_,_,_=>rfl
 | v::r,C,i,j,h=>by
  simp only[List.length_cons]at h
  unfold bQ
  rw[eJ r (cH C i v) (i+1) j (by omega)]
  simp[cH];omega
structure av.U where
 kind:Int
 tree:Int
 links:Int
 held:Int
 data:ByteArray
 up:Int
 names:List ByteArray
 nP:Option Addr
 nC:Nat
 kids:List Int
 kP:Option Addr
 kC:Nat
def av.un(s:FC)(z:Int):av.U:=⟨s.kind z,s.tree z,s.links z,s.held z,s.data z,s.up z,s.names z,s.nP z,s.nC z,s.kids z,s.kP z,s.kC z⟩
def av.cell(u:av.U)(j:Nat):Value:=
 if j=0 then .int .i64 u.kind else
 if j=1 then .int .i64 u.tree else
 if j=2 then .int .i64 u.links else
 if j=3 then .int .i64 u.held else
 if j=4 then .string u.data else
 if 5≤j∧j<6 then .slice u.nP u.names.length u.nC else
 if 6≤j∧j<7 then .slice u.kP u.kids.length u.kC else
 if j=7 then .int .i64 u.up else
 undef
def av(s:FC)(i:Nat):Value:=
 if i<320 then av.cell (av.un s ((i/8:Nat):Int)) (i%8)else
 if i=320 then Value.slice s.rP s.roots.length s.rC else
 undef
theorem av.at_(s:FC)(z:Int)(h:0≤z∧z<40)(j:Nat)(hj:j<8):av s (0+0+z.toNat*8+j)=av.cell (av.un s z) j:=by
 unfold av
 rw[if_pos (by omega),show(((0+0+z.toNat*8+j)/8:Nat):Int)=z from by omega,show(0+0+z.toNat*8+j)%8=j from by omega]
theorem av.set(s s':FC)(z:Int)(h:0≤z∧z<40)(k:Nat)(hk:k<8)(v:Value)(hv:∀ j,av.cell (av.un s' z) j=if j=k then v else av.cell (av.un s z) j)(ho:∀ y,¬y=z→av.un s' y=av.un s y)(hn:Value.slice s'.rP s'.roots.length s'.rC=Value.slice s.rP s.roots.length s.rC):0+0+z.toNat*8+k<321∧cH (av s) (0+0+z.toNat*8+k) v=av s':=by
 refine⟨by omega,?_⟩
 funext i
 unfold cH
 by_cases hi:i=0+0+z.toNat*8+k
 ·rw[if_pos hi,hi,av.at_ s' z h k hk,hv,if_pos rfl]
 ·rw[if_neg hi]
  unfold av
  by_cases c1:i<320
  ·rw[if_pos c1,if_pos c1]
   by_cases cz:((i/8:Nat):Int)=z
   ·rw[cz,hv,if_neg (by omega)]
   ·rw[ho _ cz]
  ·rw[if_neg c1,if_neg c1,hn]
theorem av.E9(s s':FC)(z:Int)(h:0≤z∧z<40)(vs:List Value)(hl:vs.length=8)(hv:∀ j,j<8→vs[j]? =some (av.cell (av.un s' z) j))(ho:∀ y,¬y=z→av.un s' y=av.un s y)(hn:Value.slice s'.rP s'.roots.length s'.rC=Value.slice s.rP s.roots.length s.rC):0+0+z.toNat*8+8≤321∧bQ (av s) (0+0+z.toNat*8) vs=av s':=by
 refine⟨by omega,?_⟩
 funext i
 by_cases a1:i<0+0+z.toNat*8
 ·rw[ej _ _ _ _ a1]
  unfold av
  rw[if_pos (by omega),if_pos (by omega),ho _ (by omega)]
 ·by_cases a2:i<0+0+z.toNat*8+8
  ·obtain⟨j,rfl⟩:∃ j,i=0+0+z.toNat*8+j:=⟨i-(0+0+z.toNat*8),by omega⟩
   rw[av.at_ s' z h j (by omega)]
   exact dg vs _ _ _ _ (hv j (by omega))
  ·rw[eJ _ _ _ _ (by omega)]
   unfold av
   by_cases c1:i<320
   ·rw[if_pos c1,if_pos c1,ho _ (by omega)]
   ·rw[if_neg c1,if_neg c1,hn]
theorem av.mf(s:FC)(z:Int)(h:0≤z∧z<40):0+0+z.toNat*8+0<321∧av s (0+0+z.toNat*8+0)= .int .i64 (s.kind z):=⟨by omega,av.at_ s z h 0 (by omega)⟩
theorem av.zf(s:FC)(z:Int)(h:0≤z∧z<40):0+0+z.toNat*8+2<321∧av s (0+0+z.toNat*8+2)= .int .i64 (s.links z):=⟨by omega,av.at_ s z h 2 (by omega)⟩
theorem av.lH(s:FC)(z:Int)(h:0≤z∧z<40):0+0+z.toNat*8+3<321∧av s (0+0+z.toNat*8+3)= .int .i64 (s.held z):=⟨by omega,av.at_ s z h 3 (by omega)⟩
theorem av.tu(s:FC)(z:Int)(h:0≤z∧z<40)(v:Int):0+0+z.toNat*8+3<321∧cH (av s) (0+0+z.toNat*8+3) (.int .i64 v)=av {s with held:=aa s.held z v} :=av.set s {s with held:=aa s.held z v} z h 3 (by omega) _ (fun j=>by
 have e:av.un {s with held:=aa s.held z v} z= {av.un s z with held:=v} :=by unfold av.un;simp only[ae]
 rw[e]
 by_cases hj:j=3
 ·subst hj;rfl
 ·unfold av.cell;simp only[if_neg hj]) (fun y hy=>by unfold av.un;simp only[ad _ _ hy]) rfl
theorem av.uy(s:FC)(z:Int)(h:0≤z∧z<40):0+0+z.toNat*8+4<321∧av s (0+0+z.toNat*8+4)= .string (s.data z):=⟨by omega,av.at_ s z h 4 (by omega)⟩
theorem av.BJ(s:FC)(z:Int)(h:0≤z∧z<40)(v:ByteArray):0+0+z.toNat*8+4<321∧cH (av s) (0+0+z.toNat*8+4) (.string v)=av {s with data:=aa s.data z v} :=av.set s {s with data:=aa s.data z v} z h 4 (by omega) _ (fun j=>by
 have e:av.un {s with data:=aa s.data z v} z= {av.un s z with data:=v} :=by unfold av.un;simp only[ae]
 rw[e]
 by_cases hj:j=4
 ·subst hj;rfl
 ·unfold av.cell;simp only[if_neg hj]) (fun y hy=>by unfold av.un;simp only[ad _ _ hy]) rfl
theorem av.Ir(s:FC)(z:Int)(h:0≤z∧z<40)(v:Int):0+0+z.toNat*8+7<321∧cH (av s) (0+0+z.toNat*8+7) (.int .i64 v)=av {s with up:=aa s.up z v} :=av.set s {s with up:=aa s.up z v} z h 7 (by omega) _ (fun j=>by
 have e:av.un {s with up:=aa s.up z v} z= {av.un s z with up:=v} :=by unfold av.un;simp only[ae]
 rw[e]
 by_cases hj:j=7
 ·subst hj;rfl
 ·unfold av.cell;simp only[if_neg hj]) (fun y hy=>by unfold av.un;simp only[ad _ _ hy]) rfl
theorem av.zB(s:FC)(z:Int)(h:0≤z∧z<40):0+0+z.toNat*8+5<321∧av s (0+0+z.toNat*8+5)= .slice (s.nP z) (s.names z).length (s.nC z):=⟨by omega,av.at_ s z h 5 (by omega)⟩
theorem av.BU(s:FC)(z:Int)(h:0≤z∧z<40):0+0+z.toNat*8+6<321∧av s (0+0+z.toNat*8+6)= .slice (s.kP z) (s.kids z).length (s.kC z):=⟨by omega,av.at_ s z h 6 (by omega)⟩
end Go.X.Tr

namespace Go.X.Tr
open Go Go.X
theorem uN(v k:Int):∀ (l:List Int) (i:Nat),i≤l.length→(l.insertIdx i v).count k=l.count k+(if v=k then 1 else 0)
 | l,0,_=>by rw[List.insertIdx_zero,List.count_cons];simp
 | [],i+1,h=>by simp at h
 | x::l,i+1,h=>by
  rw[List.insertIdx_succ_cons,List.count_cons,List.count_cons,uN v k l i (by simpa using h)]
  omega
theorem oU(k:Int):∀ (l:List Int) (i:Nat),i<l.length→(l.eraseIdx i).count k+(if l.getD i 0=k then 1 else 0)=l.count k
 | x::l,0,_=>by rw[List.eraseIdx_cons_zero,List.count_cons];simp
 | x::l,i+1,h=>by
  rw[List.eraseIdx_cons_succ,List.count_cons,List.count_cons,←oU k l i (by simpa using h),List.getD_cons_succ]
  omega
theorem zW{l:List Int}{i:Nat}{k:Int}(hi:i<l.length)(h:k∈l)(hk:l.getD i 0≠k):k∈l.eraseIdx i:=by
 have h1:=oU k l i hi
 rw[if_neg hk]at h1
 rw[←List.count_pos_iff]at h ⊢
 omega
theorem ja{l:List Int}{p:Nat}(h:p<l.length):l.getD p 0∈l:=by
 rw[List.getD,List.getElem?_eq_getElem h]
 exact List.getElem_mem h
theorem ri(f:Int→List Int)(z:Int)(l:List Int)(k:Int):∀ N:Nat,FF.nj (aa f z l) k N+(if 0≤z∧z<N then(f z).count k else 0)=FF.nj f k N+(if 0≤z∧z<N then l.count k else 0)
 | 0=>by rw[if_neg (by omega),if_neg (by omega)];rfl
 | N+1=>by
  have ih:=ri f z l k N
  unfold FF.nj
  by_cases c:z=N
  ·subst c
   rw[if_neg (by omega),if_neg (by omega)]at ih
   rw[ae,if_pos (by omega),if_pos (by omega)]
   omega
  ·rw[ad _ _ (fun e=>c e.symm)]
   by_cases q:0≤z∧z<N
   ·rw[if_pos q,if_pos q]at ih
    rw[if_pos (by omega),if_pos (by omega)]
    omega
   ·rw[if_neg q,if_neg q]at ih
    rw[if_neg (by omega),if_neg (by omega)]
    omega
theorem I3(f:Int→List Int)(k:Int){z:Int}{N:Nat}(hz:0≤z∧z<N):(f z).count k≤FF.nj f k N:=by
 have:=ri f z [] k N
 rw[if_pos hz,if_pos hz]at this
 simp only[List.count_nil]at this
 omega
theorem BD(f:Int→List Int)(k:Int)(B:Nat):∀ N:Nat,(∀ n:Nat,n<N→(f (n:Int)).length≤B)→FF.nj f k N≤N*B
 | 0,_=>by simp[FF.nj]
 | N+1,h=>by
  have ih:=BD f k B N (fun n hn=>h n (by omega))
  have h1:=h N (by omega)
  have h2:=List.count_le_length (a:=k) (l:=f (N:Int))
  unfold FF.nj
  rw[Nat.add_mul]
  omega
namespace FF
theorem AB{s t:FF}{z:Int}{l:List Int}(h1:t.kids=aa s.kids z l)(h2:t.roots=s.roots)(hz:0≤z∧z<40)(k:Int):t.p6 k+(s.kids z).count k=s.p6 k+l.count k:=by
 have:=ri s.kids z l k 40
 rw[if_pos (show 0≤z∧z<((40:Nat):Int) by omega),if_pos (show 0≤z∧z<((40:Nat):Int) by omega)]at this
 unfold p6
 rw[h1,h2]
 omega
theorem vY{s t:FF}(h1:t.kids=s.kids)(h2:t.roots=s.roots)(k:Int):t.p6 k=s.p6 k:=by unfold p6;rw[h1,h2]
theorem vE{s:FF}{n k:Int}(hn:0≤n∧n<40)(h:k∈s.kids n):1≤s.p6 k:=by
 have h1:=I3 s.kids k (N:=40) hn
 have h2:=List.count_pos_iff.2 h
 unfold p6
 omega
theorem rL{s:FF}{k:Int}(h:k∈s.roots):1≤s.p6 k:=by
 have h2:=List.count_pos_iff.2 h
 unfold p6
 omega
section
variable {s:FF} {d:Int→Nat} {e q:Int}
theorem fw.Fx(h:s.fw d e q){n:Int}(h1:0≤n)(h2:n<40)(hk:s.kind n≠2):s.kids n=[]∧s.names n=[]:=by
 obtain⟨_,a,_,b⟩:=h.rise n h1 h2
 have:=b hk
 exact⟨List.eq_nil_of_length_eq_zero (by rw[←a,this];rfl),this⟩
theorem fw.K9(h:s.fw d e q)(k:Int):s.p6 k≤324:=by
 have h1:=BD s.kids k 8 40 (fun n hn=>by
  obtain⟨_,a,b,_⟩:=h.rise n (by omega) (by omega)
  omega)
 have h2:=List.count_le_length (a:=k) (l:=s.roots)
 have h3:=h.roots.1
 unfold p6
 omega
theorem fw.sh(h:s.fw d e q)(hB:∀ n,0≤n→n<40→s.held n≤1000000):s.Sh where
 rise:=h.rise
 kids:=fun n h1 h2 k hk=>⟨(h.kids n h1 h2 k hk).1,(h.kids n h1 h2 k hk).2.1⟩
 data:=fun n h1 h2=>(h.data n h1 h2).1
 roots:=⟨h.roots.1,fun r hr=>⟨(h.roots.2 r hr).1,(h.roots.2 r hr).2.1⟩⟩
 num:=fun n h1 h2=>by
  obtain⟨a,b⟩:=h.num n h1 h2
  have c:=h.K9 n
  have e:=hB n h1 h2
  split at b<;>omega
theorem fw.NU(h:s.fw d e q){z:Int}(h1:0≤z)(h2:z<40)(hz:s.kind z=0):s.p6 z=0∧z≠e:=by
 obtain⟨_,b⟩:=h.num z h1 h2
 have a:=(h.zero z h1 h2 hz).1
 split at b
 ·omega
 ·exact⟨by omega,by assumption⟩
theorem fw.cut(h:s.fw d (-1) q){n:Int}{x:ByteArray}{k:Int}(h1:0≤n)(h2:n<40)(hx:iJ (s.names n) x=true)(hk:ep (s.kids n) (cK (s.names n) x)=k):(s.di n x).fw d k q:=by
 obtain⟨p1,p2⟩:=gX.1 hx
 obtain⟨r1,r2,r3,r4⟩:=h.rise n h1 h2
 have hp:cK (s.names n) x<(s.kids n).length:=by omega
 have hk2:(s.kids n).getD (cK (s.names n) x) 0=k:=by simpa [ep]using hk
 have hkr:0≤k:=by
  have:=ja hp
  rw[hk2]at this
  exact(h.kids n h1 h2 k this).1
 have hm:∀ m,(s.di n x).kids m=if m=n then(s.kids n).eraseIdx (cK (s.names n) x)else s.kids m:=fun m=>rfl
 have hnm:∀ m,(s.di n x).names m=if m=n then(s.names n).eraseIdx (cK (s.names n) x)else s.names m:=fun m=>rfl
 have sub:∀ m j,j∈(s.di n x).kids m→j∈s.kids m:=fun m j hj=>by
  rw[hm]at hj
  split at hj
  ·rename_i c;subst c;exact List.mem_of_mem_eraseIdx hj
  ·exact hj
 refine⟨h.kinds,fun m a b=> ?_,fun m a b y hy=> ?_,fun m a b j hj=>h.kids m a b j (sub m j hj),h.data,h.roots,fun m a b c hne hnq=> ?_,fun m a b=> ?_,h.zero,h.pos,h.dir⟩
 ·rw[hm,hnm]
  by_cases c:m=n
  ·subst c
   rw[if_pos rfl,if_pos rfl,List.length_eraseIdx,if_pos p1,List.length_eraseIdx,if_pos hp]
   exact⟨r1.erase _ p1,by omega,by omega,fun q=>by rw[r4 q];rfl⟩
  ·rw[if_neg c,if_neg c]
   exact h.rise m a b
 ·rw[hnm]at hy
  split at hy
  ·rename_i c;subst c;exact h.nok m a b y (List.mem_of_mem_eraseIdx hy)
  ·exact h.nok m a b y hy
 ·rcases h.up m a b c (by omega) hnq with g | ⟨g1,g2,g3,g4,g5⟩
  ·exact .inl g
  ·refine .inr ⟨g1,g2,g3,?_,g5⟩
   show m∈(s.di n x).kids (s.up m)
   rw[hm]
   split
   ·rename_i c2
    rw[c2]at g4
    exact zW hp g4 (by rw[hk2];exact fun e=>hne e.symm)
   ·exact g4
 ·obtain⟨a1,a2⟩:=h.num m a b
  have h3:=AB (s:=s) (t:=s.di n x) (z:=n) rfl rfl ⟨h1,h2⟩ m
  have h4:=oU m (s.kids n) _ hp
  rw[hk2]at h4
  rw[if_neg (by omega)]at a2
  refine⟨a1,?_⟩
  show s.links m=_
  by_cases c:m=k
  ·rw[if_pos c];rw[if_pos c.symm]at h4;omega
  ·rw[if_neg c];rw[if_neg (fun e=>c e.symm)]at h4;omega
theorem fw.put{k:Int}(h:s.fw d k q){n:Int}{x:ByteArray}(h1:0≤n)(h2:n<40)(hn:s.kind n=2)(hx:iJ (s.names n) x=false)(hl:(s.names n).length<8)(ok:sy x=true)(hk:0≤k∧k<40∧s.kind k≠0)(ht:s.tree k=s.tree n)(hd:s.kind k=2→s.up k=n∧d n<d k):(s.mM n x k).fw d (-1) q:=by
 obtain⟨r1,r2,r3,r4⟩:=h.rise n h1 h2
 have hpl:=kJ (s.names n) x
 have hp:cK (s.names n) x≤(s.kids n).length:=by omega
 have hm:∀ m,(s.mM n x k).kids m=if m=n then(s.kids n).insertIdx (cK (s.names n) x) k else s.kids m:=fun m=>rfl
 have hnm:∀ m,(s.mM n x k).names m=if m=n then(s.names n).insertIdx (cK (s.names n) x) x else s.names m:=fun m=>rfl
 refine⟨h.kinds,fun m a b=> ?_,fun m a b y hy=> ?_,fun m a b j hj=> ?_,h.data,h.roots,fun m a b c _ hnq=> ?_,fun m a b=> ?_,h.zero,h.pos,h.dir⟩
 ·rw[hm,hnm]
  by_cases c:m=n
  ·subst c
   rw[if_pos rfl,if_pos rfl,List.length_insertIdx,if_pos hpl,List.length_insertIdx,if_pos hp]
   exact⟨r1.insert hx,by omega,by omega,fun q=>absurd hn q⟩
  ·rw[if_neg c,if_neg c]
   exact h.rise m a b
 ·rw[hnm]at hy
  split at hy
  ·rename_i c;subst c
   rcases(List.mem_insertIdx hpl).1 hy with rfl | hy
   ·exact ok
   ·exact h.nok m a b y hy
  ·exact h.nok m a b y hy
 ·rw[hm]at hj
  split at hj
  ·rename_i c;subst c
   rcases(List.mem_insertIdx hp).1 hj with rfl | hj
   ·exact⟨hk.1,hk.2.1,hk.2.2,ht,hd⟩
   ·exact h.kids m a b j hj
  ·exact h.kids m a b j hj
 ·by_cases c3:m=k
  ·subst c3
   obtain⟨d1,d2⟩:=hd c
   refine .inr ?_
   show 0≤s.up m∧s.up m<40∧s.kind (s.up m)=2∧m∈(s.mM n x m).kids (s.up m)∧d (s.up m)<d m
   rw[d1]
   refine⟨h1,h2,hn,?_,d2⟩
   rw[hm,if_pos rfl]
   exact(List.mem_insertIdx hp).2 (.inl rfl)
  ·rcases h.up m a b c c3 hnq with g | ⟨g1,g2,g3,g4,g5⟩
   ·exact .inl g
   ·refine .inr ⟨g1,g2,g3,?_,g5⟩
    show m∈(s.mM n x k).kids (s.up m)
    rw[hm]
    split
    ·rename_i c2
     rw[c2]at g4
     exact(List.mem_insertIdx hp).2 (.inr g4)
    ·exact g4
 ·obtain⟨a1,a2⟩:=h.num m a b
  have h3:=AB (s:=s) (t:=s.mM n x k) (z:=n) rfl rfl ⟨h1,h2⟩ m
  have h4:=uN k m (s.kids n) _ hp
  rw[if_neg (by omega)]
  refine⟨a1,?_⟩
  show s.links m=_
  by_cases c:m=k
  ·rw[if_pos c]at a2;rw[if_pos c.symm]at h4;omega
  ·rw[if_neg c]at a2;rw[if_neg (fun e=>c e.symm)]at h4;omega
theorem fw.fresh(h:s.fw d (-1) (-1)){z k t u:Int}(h1:0≤z)(h2:z<40)(hz:s.kind z=0)(hk:k=1∨k=2)(N:Nat):(s.gm z k t 1 u).fw (aa d z N) z (-1):=by
 obtain⟨c0,_⟩:=h.NU h1 h2 hz
 obtain⟨k0,n0⟩:=h.Fx h1 h2 (by omega)
 obtain⟨l0,e0⟩:=h.zero z h1 h2 hz
 have hm:(s.gm z k t 1 u).kids=s.kids:=cn _ k0
 have hnm:(s.gm z k t 1 u).names=s.names:=cn _ n0
 have hkd:∀ m,(s.gm z k t 1 u).kind m=if m=z then k else s.kind m:=fun m=>rfl
 have htr:∀ m,(s.gm z k t 1 u).tree m=if m=z then t else s.tree m:=fun m=>rfl
 have hup:∀ m,(s.gm z k t 1 u).up m=if m=z then u else s.up m:=fun m=>rfl
 have hdt:∀ m,(s.gm z k t 1 u).data m=if m=z then ByteArray.empty else s.data m:=fun m=>rfl
 have hli:∀ m,(s.gm z k t 1 u).links m=if m=z then 1 else s.links m:=fun m=>rfl
 have hhe:∀ m,(s.gm z k t 1 u).held m=if m=z then 0 else s.held m:=fun m=>rfl
 have hro:(s.gm z k t 1 u).roots=s.roots:=rfl
 have hdd:∀ m,aa d z N m=if m=z then N else d m:=fun m=>rfl
 have nz:∀ m j,0≤m→m<40→j∈s.kids m→m≠z∧j≠z:=by
  intro m j a b hj
  refine⟨fun e=> ?_,fun e=> ?_⟩
  ·subst e;rw[k0]at hj;cases hj
  ·subst e
   have:=vE ⟨a,b⟩ hj
   omega
 refine⟨fun m a b=> ?_,fun m a b=> ?_,fun m a b y hy=> ?_,fun m a b j hj=> ?_,fun m a b=> ?_,⟨h.roots.1,fun r hr=> ?_⟩,fun m a b c hne _=> ?_,fun m a b=> ?_,fun m a b c=> ?_,fun m a b c _=> ?_,fun m a b c _=> ?_⟩
 ·rw[hkd];split
  ·omega
  ·exact h.kinds m a b
 ·rw[hnm,hm,hkd]
  split
  ·rename_i c;subst c;rw[n0,k0];exact⟨eb.nil,rfl,by simp,fun _=>rfl⟩
  ·exact h.rise m a b
 ·rw[hnm]at hy;exact h.nok m a b y hy
 ·rw[hm]at hj
  obtain⟨n1,n2⟩:=nz m j a b hj
  rw[hkd,htr,htr,hup,hdd,hdd,if_neg n2,if_neg n2,if_neg n1,if_neg n2,if_neg n1,if_neg n2]
  exact h.kids m a b j hj
 ·rw[hdt,hkd];split
  ·exact⟨by simp,fun _=>rfl⟩
  ·exact h.data m a b
 ·have nr:r≠z:=fun e=>by subst e;have:=rL (s:=s) hr;omega
  rw[hkd,hup,if_neg nr,if_neg nr]
  exact h.roots.2 r hr
 ·rw[hkd,if_neg hne]at c
  rw[hup,hkd,hm,hdd,hdd,if_neg hne,if_neg hne,hro]
  rcases h.up m a b c (by omega) (by omega)with g | ⟨g1,g2,g3,g4,g5⟩
  ·exact .inl g
  ·have:s.up m≠z:=fun e=>by rw[e,hz]at g3;omega
   rw[if_neg this,if_neg this]
   exact .inr ⟨g1,g2,g3,g4,g5⟩
 ·obtain⟨a1,a2⟩:=h.num m a b
  rw[hli,hhe,vY hm hro]
  rw[if_neg (by omega)]at a2
  split
  ·rename_i c;subst c;exact⟨Int.le_refl _,by omega⟩
  ·exact⟨a1,by omega⟩
 ·rw[hkd]at c
  rw[hli,hhe]
  split at c
  ·omega
  ·rename_i c2;rw[if_neg c2,if_neg c2];exact h.zero m a b c
 ·rw[hkd]at c
  rw[hli,hhe]
  split at c
  ·rename_i c2;rw[if_pos c2];exact .inl (by omega)
  ·rename_i c2;rw[if_neg c2,if_neg c2];exact h.pos m a b c (by omega)
 ·rw[hkd]at c
  rw[hli]
  split at c
  ·rename_i c2;rw[if_pos c2]
  ·rename_i c2;rw[if_neg c2];exact h.dir m a b c (by omega)
theorem fw.root{z:Int}(h:s.fw d z q)(h1:0≤z)(h2:z<40)(hz:s.kind z=2)(hu:s.up z=z)(hl:s.roots.length<4):fw {s with roots:=s.roots++[z]} d (-1) q:=by
 refine⟨h.kinds,h.rise,h.nok,h.kids,h.data,⟨by simp;omega,fun r hr=> ?_⟩,fun m a b c _ hnq=> ?_,fun m a b=> ?_,h.zero,h.pos,h.dir⟩
 ·rcases List.mem_append.1 hr with hr | hr
  ·exact h.roots.2 r hr
  ·simp only[List.mem_singleton]at hr
   subst hr
   exact⟨h1,h2,hz,hu⟩
 ·by_cases c2:m=z
  ·subst c2;exact .inl ⟨by simp,hu⟩
  ·rcases h.up m a b c c2 hnq with⟨g1,g2⟩ | g
   ·exact .inl ⟨List.mem_append.2 (.inl g1),g2⟩
   ·exact .inr g
 ·obtain⟨a1,a2⟩:=h.num m a b
  refine⟨a1,?_⟩
  show s.links m=((FF.nj s.kids m 40+(s.roots++[z]).count m:Nat):Int)+_
  have e:s.p6 m=FF.nj s.kids m 40+s.roots.count m:=rfl
  rw[List.count_append,List.count_singleton,if_neg (show ¬m=(-1:Int) by omega)]
  by_cases c:m=z
  ·rw[if_pos c]at a2;subst c;simp only[beq_self_eq_true,if_true];omega
  ·rw[if_neg c]at a2
   have:(z==m)=false:=by simpa using fun e=>c e.symm
   rw[this];simp only[Bool.false_eq_true,if_false];omega
theorem fw.LW(h:s.fw d e (-1))(q:Int):s.fw d e q:=
 ⟨h.kinds,h.rise,h.nok,h.kids,h.data,h.roots,fun m a b c he _=>h.up m a b c he (by omega),h.num,h.zero,fun m a b c _=>h.pos m a b c (by omega),fun m a b c _=>h.dir m a b c (by omega)⟩
theorem fw.NH(h:s.fw d (-1) q)(h1:0≤q)(h2:q<40)(hl:s.links q=0)(hh:s.held q=0)(hk:s.kids q=[]):(s.gm q 0 0 0 0).fw d (-1) (-1):=by
 have c0:s.p6 q=0:=by
  have:=(h.num q h1 h2).2
  rw[hl,if_neg (by omega)]at this
  omega
 have n0:s.names q=[]:=List.eq_nil_of_length_eq_zero (by rw[(h.rise q h1 h2).2.1,hk];rfl)
 have hm:(s.gm q 0 0 0 0).kids=s.kids:=cn _ hk
 have hnm:(s.gm q 0 0 0 0).names=s.names:=cn _ n0
 have hkd:∀ m,(s.gm q 0 0 0 0).kind m=if m=q then 0 else s.kind m:=fun m=>rfl
 have htr:∀ m,(s.gm q 0 0 0 0).tree m=if m=q then 0 else s.tree m:=fun m=>rfl
 have hup:∀ m,(s.gm q 0 0 0 0).up m=if m=q then 0 else s.up m:=fun m=>rfl
 have hdt:∀ m,(s.gm q 0 0 0 0).data m=if m=q then ByteArray.empty else s.data m:=fun m=>rfl
 have hli:∀ m,(s.gm q 0 0 0 0).links m=if m=q then 0 else s.links m:=fun m=>rfl
 have hhe:∀ m,(s.gm q 0 0 0 0).held m=if m=q then 0 else s.held m:=fun m=>rfl
 have hro:(s.gm q 0 0 0 0).roots=s.roots:=rfl
 have nz:∀ m j,0≤m→m<40→j∈s.kids m→m≠q∧j≠q:=by
  intro m j a b hj
  refine⟨fun e=> ?_,fun e=> ?_⟩
  ·subst e;rw[hk]at hj;cases hj
  ·subst e
   have:=vE ⟨a,b⟩ hj
   omega
 refine⟨fun m a b=> ?_,fun m a b=> ?_,fun m a b y hy=> ?_,fun m a b j hj=> ?_,fun m a b=> ?_,⟨h.roots.1,fun r hr=> ?_⟩,fun m a b c _ _=> ?_,fun m a b=> ?_,fun m a b c=> ?_,fun m a b c _=> ?_,fun m a b c _=> ?_⟩
 ·rw[hkd];split
  ·exact .inl rfl
  ·exact h.kinds m a b
 ·rw[hnm,hm,hkd]
  split
  ·rename_i c;subst c;rw[n0,hk];exact⟨eb.nil,rfl,by simp,fun _=>rfl⟩
  ·exact h.rise m a b
 ·rw[hnm]at hy;exact h.nok m a b y hy
 ·rw[hm]at hj
  obtain⟨n1,n2⟩:=nz m j a b hj
  rw[hkd,htr,htr,hup,if_neg n2,if_neg n2,if_neg n1,if_neg n2]
  exact h.kids m a b j hj
 ·rw[hdt,hkd];split
  ·exact⟨by simp,fun _=>rfl⟩
  ·exact h.data m a b
 ·have nr:r≠q:=fun e=>by subst e;have:=rL (s:=s) hr;omega
  rw[hkd,hup,if_neg nr,if_neg nr]
  exact h.roots.2 r hr
 ·have hne:m≠q:=fun e=>by subst e;rw[hkd,if_pos rfl]at c;omega
  rw[hkd,if_neg hne]at c
  rw[hup,hkd,hm,if_neg hne,hro]
  rcases h.up m a b c (by omega) hne with g | ⟨g1,g2,g3,g4,g5⟩
  ·exact .inl g
  ·have:=(nz (s.up m) m g1 g2 g4).1
   rw[if_neg this]
   exact .inr ⟨g1,g2,g3,g4,g5⟩
 ·obtain⟨a1,a2⟩:=h.num m a b
  rw[hli,hhe,vY hm hro]
  rw[if_neg (show ¬m=(-1:Int) by omega)]at a2 ⊢
  split
  ·rename_i c;subst c;exact⟨Int.le_refl _,by omega⟩
  ·exact⟨a1,by omega⟩
 ·rw[hkd]at c
  rw[hli,hhe]
  split at c
  ·rename_i c2;rw[if_pos c2,if_pos c2];exact⟨rfl,rfl⟩
  ·rename_i c2;rw[if_neg c2,if_neg c2];exact h.zero m a b c
 ·rw[hkd]at c
  rw[hli,hhe]
  split at c
  ·exact absurd rfl c
  ·rename_i c2;rw[if_neg c2,if_neg c2];exact h.pos m a b c c2
 ·rw[hkd]at c
  rw[hli]
  split at c
  ·omega
  ·rename_i c2;rw[if_neg c2];exact h.dir m a b c c2
end
end FF
end Go.X.Tr
