import Derived.Test.YthdinakloheinaaGreatDoorXLay
import Derived.Laws.AppendOwn
namespace Go.X
open Go
theorem wW{x t:Nat}(ht:x.testBit t=true)(hl:∀ j,j<t→x.testBit j=false):x%2^(t+1)=2^t:=by
 apply Nat.eq_of_testBit_eq
 intro i
 rw[Nat.testBit_mod_two_pow,Nat.testBit_two_pow]
 by_cases h:i=t
 ·subst h;simp[ht]
 ·by_cases h2:i<t
  ·simp[hl i h2];omega
  ·have:¬i<t+1:=by omega
   simp[this];omega
theorem xW{x:Nat}(hx:x≠0):∃ t,x.testBit t=true∧∀ j,j<t→x.testBit j=false:=by
 obtain⟨i,hi⟩:=Nat.exists_testBit_of_ne_zero hx
 obtain⟨t,h1,h2⟩:=exists_least (p:=fun i=>x.testBit i=true) ⟨i,hi⟩
 refine⟨t,h1,fun j hj=> ?_⟩
 cases hb:x.testBit j with
 | false=>rfl
 | true=>have:=h2 j hb;omega
theorem CB{x t:Nat}(ht:x.testBit t=true)(hl:∀ j,j<t→x.testBit j=false)(j:Nat):(x&&&(x-1)).testBit j=(x.testBit j&& !decide (j=t)):=by
 have hm:=wW ht hl
 have hd:=Nat.div_add_mod x (2^(t+1))
 rw[hm]at hd
 have hp:0<2^t:=Nat.two_pow_pos t
 have hx1:x-1=2^(t+1)*(x/2^(t+1))+(2^t-1):=by omega
 have hlt:2^t<2^(t+1):=Nat.pow_lt_pow_right (by omega) (by omega)
 rw[Nat.testBit_and]
 by_cases h1:j<t
 ·simp[hl j h1]
 ·by_cases h2:j=t
  ·subst h2
   rw[hx1,Nat.testBit_two_pow_mul_add _ (by omega)]
   simp
  ·have h3:¬j<t+1:=by omega
   have e1:(x-1).testBit j=x.testBit j:=by
    rw[hx1,Nat.testBit_two_pow_mul_add _ (by omega)]
    conv=>rhs;rw[←hd,Nat.testBit_two_pow_mul_add _ hlt]
    simp[h3]
   rw[e1];simp[h2]
theorem Ib{x t w:Nat}(ht:x.testBit t=true)(hl:∀ j,j<t→x.testBit j=false)(hx:x<2^w)(hw:t<w):x&&&(2^w-x)=2^t:=by
 have hm:=wW ht hl
 have hd:=Nat.div_add_mod x (2^(t+1))
 rw[hm]at hd
 have hp:0<2^t:=Nat.two_pow_pos t
 have hlt:2^t<2^(t+1):=Nat.pow_lt_pow_right (by omega) (by omega)
 have hsucc:2^(t+1)=2*2^t:=by rw[Nat.pow_succ];omega
 have hw2:2^w=2^(t+1)*2^(w-(t+1)):=by rw[←Nat.pow_add];congr 1;omega
 have hq:x/2^(t+1)<2^(w-(t+1)):=by
  rw[Nat.div_lt_iff_lt_mul (Nat.two_pow_pos _),Nat.mul_comm,←hw2];exact hx
 have hx1:2^w-x=2^(t+1)*(2^(w-(t+1))-(x/2^(t+1)+1))+2^t:=by
  have e:2^(t+1)*(2^(w-(t+1))-(x/2^(t+1)+1))=2^w-(2^(t+1)*(x/2^(t+1))+2^(t+1)):=by
   rw[Nat.mul_sub,←hw2,Nat.mul_add,Nat.mul_one]
  have hle:2^(t+1)*(x/2^(t+1))+2^(t+1)≤2^w:=by
   rw[hw2,←Nat.mul_succ];exact Nat.mul_le_mul_left _ hq
  omega
 apply Nat.eq_of_testBit_eq
 intro j
 rw[Nat.testBit_and,hx1,Nat.testBit_two_pow_mul_add _ hlt,Nat.testBit_two_pow]
 by_cases h1:j<t+1
 ·rw[if_pos h1]
  by_cases h2:t=j
  ·subst h2;simp[ht]
  ·simp[h2]
 ·rw[if_neg h1,Nat.testBit_two_pow_sub_succ hq]
  have e1:x.testBit j=(x/2^(t+1)).testBit (j-(t+1)):=by
   conv=>lhs;rw[←hd,Nat.testBit_two_pow_mul_add _ hlt]
   simp[h1]
  rw[e1]
  have:¬t=j:=by omega
  simp[this];try exact fun h _=>h
def iX(a b:Nat):Nat:=a&&&(a^^^b)
theorem gQ(a b j:Nat):(iX a b).testBit j=(a.testBit j&& !b.testBit j):=by
 simp only[iX,Nat.testBit_and,Nat.testBit_xor]
 cases a.testBit j<;>cases b.testBit j<;>rfl
theorem E4(a b:Nat):iX a b≤a:=Nat.and_le_left
def A9:IntKind→Bool
 | .u8 | .u16 | .u32 | .u64=>true
 | _=>false
theorem xy{k:IntKind}(hk:A9 k=true){a:Nat}(h:a<2^k.bits):k.wrap (a:Int)=a:=by
 have hs:k.signed=false:=by cases k<;>simp_all[A9,IntKind.signed]
 have:((a:Int)%(2^k.bits:Int))=a:=Int.emod_eq_of_lt (by omega) (by exact_mod_cast h)
 simp[IntKind.wrap,hs,this]
section
variable {P:Program} {n:Fr} {L:PF} {ty:TypeId} {pos:String} {af:Array Edge} {d:Nat} {φ:World→Prop} {gd:Option (Nat×Bool)}
theorem Em{w:World}{op:BinOp}{k:IntKind}{a b r:Nat}(hk:A9 k=true)(ha:a<2^k.bits)(hb:b<2^k.bits)(hr:(match op with | .and=>some (a&&&b) | .or=>some (a|||b) | .xor=>some (a^^^b) | .andNot=>some (iX a b) | _=>none)=some r):(Op.intBits op k (a:Int) (b:Int)).run P w= .ok (.int k r) w:=by
 have e1:(BitVec.ofInt k.bits (a:Int))=BitVec.ofNat k.bits a:=BitVec.ofInt_natCast _ _
 have e2:(BitVec.ofInt k.bits (b:Int))=BitVec.ofNat k.bits b:=BitVec.ofInt_natCast _ _
 have n1:(BitVec.ofNat k.bits a).toNat=a:=by simp[Nat.mod_eq_of_lt ha]
 have n2:(BitVec.ofNat k.bits b).toNat=b:=by simp[Nat.mod_eq_of_lt hb]
 have key:∀ (v:BitVec k.bits),k.wrap (v.toNat:Int)=v.toNat:=fun v=>xy hk v.isLt
 cases op<;>simp only[Option.some.injEq]at hr<;>(try cases hr)<;>
  simp only[Op.intBits,e1,e2,Sem.run_pure,key]
 ·rw[BitVec.toNat_and,n1,n2]
 ·rw[BitVec.toNat_or,n1,n2]
 ·rw[BitVec.toNat_xor,n1,n2]
 ·have:(BitVec.ofNat k.bits a&&& ~~~BitVec.ofNat k.bits b).toNat=iX a b:=by
   apply Nat.eq_of_testBit_eq
   intro j
   rw[gQ,BitVec.testBit_toNat,BitVec.getLsbD_and,BitVec.getLsbD_not,BitVec.getLsbD_ofNat,BitVec.getLsbD_ofNat]
   by_cases hj:j<k.bits
   ·simp[hj]
   ·have:a.testBit j=false:=Nat.testBit_lt_two_pow (Nat.lt_of_lt_of_le ha (Nat.pow_le_pow_right (by omega) (by omega)))
    simp[hj,this]
  rw[this]
theorem V.bits{op:BinOp}{t t':TypeId}{x y:Operand}{k:IntKind}{a b r:Nat}(hx:ev L x=some (.int k a))(hy:ev L y=some (.int k b))(hk:A9 k=true)(ha:a<2^k.bits)(hb:b<2^k.bits)(hr:(match op with | .and=>some (a&&&b) | .or=>some (a|||b) | .xor=>some (a^^^b) | .andNot=>some (iX a b) | _=>none)=some r):aM P n L φ ⟨some d,.binOp op t x y t',ty,pos,af,gd⟩ (.int k r):=
 V.bin hx hy (fun w A hx hy=>by
  have he:=Em (P:=P) (w:=w) hk ha hb hr
  cases op<;>simp only[Option.some.injEq]at hr<;>(try cases hr)<;>
   simp[execOp,eqGuard,hx,hy,binOp,he])
theorem V.shl{t t':TypeId}{x y:Operand}{k k':IntKind}{a z:Int}(hx:ev L x=some (.int k a))(hy:ev L y=some (.int k' z))(hz:0≤z)(r:Int)(hr:k.wrap (a*2^(min z.toNat k.bits))=r):aM P n L φ ⟨some d,.binOp .shl t x y t',ty,pos,af,gd⟩ (.int k r):=
 V.bin hx hy (fun w A hx hy=>by
  have h:¬z<0:=by omega
  simp[execOp,eqGuard,hx,hy,binOp,Op.shift,h,hr])
theorem V.shr{t t':TypeId}{x y:Operand}{k k':IntKind}{a z:Int}(hx:ev L x=some (.int k a))(hy:ev L y=some (.int k' z))(hz:0≤z)(r:Int)(hr:a.fdiv (2^(min z.toNat k.bits))=r):aM P n L φ ⟨some d,.binOp .shr t x y t',ty,pos,af,gd⟩ (.int k r):=
 V.bin hx hy (fun w A hx hy=>by
  have h:¬z<0:=by omega
  simp[execOp,eqGuard,hx,hy,binOp,Op.shift,h,hr])
theorem V.HK{t:TypeId}{x y:Operand}{g m sz:Nat}{k:IntKind}{z:Int}(hx:ev L x=some (.pointer (some ⟨g,0,none⟩)))(hy:ev L y=some (.int k z))(ht:nv P t=some (m,sz))(hz:0≤z∧z<m):aM P n L φ (⟨some d,.indexAddr t x y,ty,pos,af,gd⟩) (ptr g 0 (0+z.toNat*sz)):=
 V.hG (b:=g) (o:=0) (i:=0) hx hy ht hz
theorem CN{w:World}{op:BinOp}{k:IntKind}{a b r:Nat}(hw:k.wrap (r:Int)=r)(ha:a<2^k.bits)(hb:b<2^k.bits)(hr:(match op with | .and=>some (a&&&b) | .or=>some (a|||b) | .xor=>some (a^^^b) | .andNot=>some (iX a b) | _=>none)=some r):(Op.intBits op k (a:Int) (b:Int)).run P w= .ok (.int k r) w:=by
 have e1:(BitVec.ofInt k.bits (a:Int))=BitVec.ofNat k.bits a:=BitVec.ofInt_natCast _ _
 have e2:(BitVec.ofInt k.bits (b:Int))=BitVec.ofNat k.bits b:=BitVec.ofInt_natCast _ _
 have n1:(BitVec.ofNat k.bits a).toNat=a:=by simp[Nat.mod_eq_of_lt ha]
 have n2:(BitVec.ofNat k.bits b).toNat=b:=by simp[Nat.mod_eq_of_lt hb]
 cases op<;>simp only[Option.some.injEq]at hr<;>(try cases hr)<;>
  simp only[Op.intBits,e1,e2,Sem.run_pure]
 ·rw[BitVec.toNat_and,n1,n2,hw]
 ·rw[BitVec.toNat_or,n1,n2,hw]
 ·rw[BitVec.toNat_xor,n1,n2,hw]
 ·have:(BitVec.ofNat k.bits a&&& ~~~BitVec.ofNat k.bits b).toNat=iX a b:=by
   apply Nat.eq_of_testBit_eq
   intro j
   rw[gQ,BitVec.testBit_toNat,BitVec.getLsbD_and,BitVec.getLsbD_not,BitVec.getLsbD_ofNat,BitVec.getLsbD_ofNat]
   by_cases hj:j<k.bits
   ·simp[hj]
   ·have:a.testBit j=false:=Nat.testBit_lt_two_pow (Nat.lt_of_lt_of_le ha (Nat.pow_le_pow_right (by omega) (by omega)))
    simp[hj,this]
  rw[this,hw]
theorem V.Nk{op:BinOp}{t t':TypeId}{x y:Operand}{a b r:Nat}(hx:ev L x=some (.int .i64 a))(hy:ev L y=some (.int .i64 b))(ha:a<9223372036854775808)(hb:b<9223372036854775808)(hw:r<9223372036854775808)(hr:(match op with | .and=>some (a&&&b) | .or=>some (a|||b) | .xor=>some (a^^^b) | .andNot=>some (iX a b) | _=>none)=some r):aM P n L φ ⟨some d,.binOp op t x y t',ty,pos,af,gd⟩ (.int .i64 r):=
 V.bin hx hy (fun w A hx hy=>by
  have he:=CN (P:=P) (w:=w) (k:=.i64) (IntWalk.i64_in _ (by omega)) (Nat.lt_of_lt_of_le ha (by decide)) (Nat.lt_of_lt_of_le hb (by decide)) hr
  cases op<;>simp only[Option.some.injEq]at hr<;>(try cases hr)<;>
   simp[execOp,eqGuard,hx,hy,binOp,he])
theorem V.Jr{op:BinOp}{t t':TypeId}{x y:Operand}{a b z:Int}{r:Nat}(hx:ev L x=some (.int .i64 a))(hy:ev L y=some (.int .i64 b))(ha:0≤a∧a<9223372036854775808)(hb:0≤b∧b<9223372036854775808)(hz:0≤z∧z<9223372036854775808)(hr:(match op with | .and=>some (a.toNat&&&b.toNat) | .or=>some (a.toNat|||b.toNat) | .xor=>some (a.toNat^^^b.toNat) | .andNot=>some (iX a.toNat b.toNat) | _=>none)=some r)(he:(r:Int)=z):aM P n L φ ⟨some d,.binOp op t x y t',ty,pos,af,gd⟩ (.int .i64 z):=by
 subst he
 have hx2:ev L x=some (.int .i64 ((a.toNat:Nat):Int)):=by rw[show((a.toNat:Nat):Int)=a from by omega];exact hx
 have hy2:ev L y=some (.int .i64 ((b.toNat:Nat):Int)):=by rw[show((b.toNat:Nat):Int)=b from by omega];exact hy
 exact V.Nk hx2 hy2 (by omega) (by omega) (by omega) hr
theorem V.rem{t t':TypeId}{x y:Operand}{k:IntKind}{a b:Int}(hx:ev L x=some (.int k a))(hy:ev L y=some (.int k b))(hb:b≠0)(r:Int)(hr:a.tmod b=r):aM P n L φ ⟨some d,.binOp .rem t x y t',ty,pos,af,gd⟩ (.int k r):=
 V.bin hx hy (fun w A hx hy=>by simp[execOp,eqGuard,hx,hy,binOp,Op.intDiv,hb,hr])
theorem V.quo{t t':TypeId}{x y:Operand}{k:IntKind}{a b:Int}(hx:ev L x=some (.int k a))(hy:ev L y=some (.int k b))(hb:b≠0)(r:Int)(hr:k.wrap (a.tdiv b)=r):aM P n L φ ⟨some d,.binOp .quo t x y t',ty,pos,af,gd⟩ (.int k r):=
 V.bin hx hy (fun w A hx hy=>by simp[execOp,eqGuard,hx,hy,binOp,Op.intDiv,hb,hr])
theorem vn{a b:Int}(ha:0≤a)(hb:0<b)(h:a≤9223372036854775807):IntKind.i64.wrap (a.tdiv b)=a/b:=by
 rw[Int.tdiv_eq_ediv_of_nonneg ha]
 have h1:0≤a/b:=Int.ediv_nonneg ha (by omega)
 have h2:a/b≤a:=Int.ediv_le_self b ha
 exact IntWalk.i64_in _ (by omega)
end
end Go.X

namespace Go.X
open Go
def kV(P:Program)(e:TypeId)(sz:Nat):Bool:=match P.info? e with
 | some i=>Nat.beq i.size sz&&Nat.ble i.bytes 1000&&Nat.blt 0 sz&&(match i.zero with
  | some z=>Nat.beq z.cells.size sz
  | none=>false)
 | none=>false
theorem kf{P:Program}{e:TypeId}{sz:Nat}(h:kV P e sz=true):∃ i z,P.info? e=some i∧i.zero=some z∧i.size=sz∧i.bytes≤1000∧z.cells.size=sz∧0<sz:=by
 unfold kV at h
 cases hi:P.info? e with
 | none=>simp[hi]at h
 | some i=>
  simp only[hi]at h
  cases hz:i.zero with
  | none=>simp[hz]at h
  | some z=>
   simp only[hz,Bool.and_eq_true,Nat.beq_eq]at h
   obtain⟨⟨⟨h1,h2⟩,h3⟩,h4⟩:=h
   exact⟨i,z,rfl,hz,h1,Nat.le_of_ble_eq_true h2,h4,by simpa using h3⟩
def bn(C:Nat→Value)(m:Nat):List Value:=(List.range m).map C
theorem XM.dG{W w:World}{S:Nat→Nat→Prop}{H:List ax}(h:XM W S H w)(e:TypeId)(sz:Nat):XM W S (.row (.slice none 0 0) e sz 0 []::H) w:=
 h.fresh (fun b o hb=>by simp[ax.dE,Value.ownBlock]at hb) (fZ.refl _ _) (World.ownsRow_nil w 0 e sz)
theorem mM(w:World)(o:Obj)(S:Nat→Nat→Prop):fZ w (w.alloc o) S:=
 ⟨rfl,rfl,rfl,by simp,fun b hb _=>heap_alloc_old w _ hb,fun b A' t' fz hA=>⟨A',by rw[heap_alloc_old w _ (ck hA)];exact hA,rfl,fun _ _=>rfl⟩⟩
theorem uw{w w':World}{S:Nat→Nat→Prop}(h:fZ w.drew w' S):fZ w w' S:=⟨h.os,h.tape,h.output,h.size,h.same,h.part⟩
theorem xB{w:World}{g:Nat}{old cs:Array Value}{t:TypeId}{fz:Nat×Nat}(hg:w.heap[g]? =some (.cells old t fz))(hs:cs.size=old.size){S:Nat→Nat→Prop}(hS:∀ o,S g o):fZ w (w.setRow g cs) S:=by
 refine⟨rfl,rfl,rfl,by simp,fun k hk hn=>setRow_other w g k _ (fun e=>hn 0 (e▸hS 0)),fun k A' t' fz' hA=> ?_⟩
 by_cases hk:k=g
 ·subst hk
  rw[hg]at hA
  simp only[Option.some.injEq,Obj.cells.injEq]at hA
  obtain⟨rfl,rfl,rfl⟩:=hA
  exact⟨cs,setRow_heap w k old cs _ _ hg,hs,fun o ho=>absurd (hS o) ho⟩
 ·exact⟨A',by rw[setRow_other w g k _ hk];exact hA,rfl,fun _ _=>rfl⟩
theorem iW{P:Program}{w:World}{t ty e:TypeId}{p:Option Addr}{k cap m c sz b:Nat}{xs news:List Value}(ht:P.underlying t=some (.slice e))(hr:kV P e sz=true)(hrow:(ax.row (.slice p k cap) e sz k xs).holds w)(hm:0<m)(hl:news.length=m*sz)(hnews:∀ j u,news[j]? =some u→w.cell? ((⟨b,0,none⟩:Addr).add j)=some u)(h1:∀ u∈news,u.oneCell'=true)(hk:k+m≤100000000000):∃ p' cap' w',(Builtin.append_ #[t,t] ty #[.slice p k cap,.slice (some ⟨b,0,none⟩) m c]).run P w= .ok (.slice p' (k+m) cap') w'∧(ax.row (.slice p' (k+m) cap') e sz (k+m) (xs++news)).holds w'∧fZ w w' (fun b o=>(ax.row (.slice p k cap) e sz k xs).dE b o)∧(∀ b o,(ax.row (.slice p' (k+m) cap') e sz (k+m) (xs++news)).dE b o→(ax.row (.slice p k cap) e sz k xs).dE b o∨w.heap.size≤b):=by
 obtain⟨i,z,hi,hz,hsize,hby,hzs,hsz⟩:=kf hr
 subst hsize
 have hmax:k+m≤maxLen:=by simp only[maxLen];omega
 have hlen:(xs++news).length=(k+m)*i.size:=by rw[List.length_append,hrow.1,hl,Nat.add_mul]
 have hbytes:(k+m)*i.bytes≤140737488355328:=Nat.le_trans (Nat.mul_le_mul hk hby) (by omega)
 have grown:∀ (old:Nat),
   (ax.row (.slice (some ⟨w.heap.size,0,none⟩) (k+m) (grownCap w (k+m) old e)) e i.size (k+m) (xs++news)).holds (w.drew.alloc (.cells (xs.toArray++news.toArray++Builtin.zeroCells z.cells (grownCap w (k+m) old e-(k+m))) e)):=by
  intro old
  have hge:=grownCap_ge w (k+m) old e
  have hcm:grownCap w (k+m) old e≤maxLen:=grownCap_le_maxLen w (k+m) old e hmax
  refine⟨hlen,.inr ⟨w.heap.size,_,_,rfl,Nat.zero_le _,heap_alloc_new w.drew _,hge,hcm,?_,?_⟩⟩
  ·simp only[Array.size_append,List.size_toArray,size_zeroCells,hzs,hrow.1,hl,←Nat.add_mul]
   congr 1
   omega
  ·simp only[Array.toList_append,List.append_assoc]
   rw[←List.append_assoc,←hlen]
   exact List.take_left
 have gkeep:∀ (o:Obj) S,fZ w (w.drew.alloc o) S:=fun o S=>uw (mM w.drew o S)
 have hself:=hrow
 rcases hrow.2 with⟨hv,rfl⟩ | ⟨g,cap2,cur,hv,_,hg,hnc,hcm,hcs,htake⟩
 ·simp only[Value.slice.injEq]at hv
  obtain⟨rfl,_,rfl⟩:=hv
  have hx:xs=[]:=List.eq_nil_of_length_eq_zero (by simpa using hrow.1)
  subst hx
  have hr:=run_append_nil (P:=P) w t ty e i z ht hi hz ⟨b,0,none⟩ m c news hl hnews hm (by simp only[maxLen]at hmax;omega) (by simp only[Nat.zero_add]at hbytes;omega)
  have hgr:=grown 0
  simp only[Nat.zero_add,List.nil_append,Array.empty_append]at hgr ⊢
  exact⟨_,_,_,hr,hgr,gkeep _ _,fun b' o hb=>.inr (by simp only[ax.dE,Value.ownBlock,Option.some.injEq]at hb;omega)⟩
 ·simp only[Value.slice.injEq,true_and]at hv
  obtain⟨rfl,rfl⟩:=hv
  by_cases hroom:k+m≤cap
  ·have hfit:k*i.size+news.length≤cur.size:=by rw[hl,hcs,←Nat.add_mul];exact Nat.mul_le_mul_right _ hroom
   have hr:=run_append_room (P:=P) w t ty e i ht hi g k cap cur hg ⟨b,0,none⟩ m c news hl hnews h1 hroom hfit
   have hsz2:(cur.toList.take (k*i.size)++news++cur.toList.drop (k*i.size+news.length)).toArray.size=cur.size:=by
    simp only[List.size_toArray,List.length_append,List.length_take,List.length_drop,Array.length_toList]
    omega
   refine⟨_,_,_,hr,⟨hlen,.inr ⟨g,cap,_,rfl,Nat.zero_le _,setRow_heap w g cur _ e _ hg,hroom,hcm,hsz2.trans hcs,?_⟩⟩,xB hg hsz2 (fun _=>rfl),fun b' o hb=>.inl hb⟩
   rw[htake,←hlen]
   exact List.take_left
  ·have holds:∀ j u,xs[j]? =some u→w.cell? ((⟨g,0,none⟩:Addr).add j)=some u:=World.ownsRow.cells hself (g:=g) rfl
   have hr:=run_append_grow (P:=P) w t ty e i z ht hi hz ⟨g,0,none⟩ k cap xs hself.1 holds ⟨b,0,none⟩ m c news hl hnews (by omega) (by simp only[maxLen]at hmax;omega) (growslice_fits (by omega) hbytes)
   exact⟨_,_,_,hr,grown cap,gkeep _ _,fun b' o hb=>.inr (by simp only[ax.dE,Value.ownBlock,Option.some.injEq]at hb;omega)⟩
section
variable {P:Program} {n:Fr} {Q:Exit→Act→World→Prop} {L:PF} {ops:Md} {rest:List Oper} {ty:TypeId} {pos:String} {af:Array Edge} {d:Nat}
variable {W:World} {S:Nat→Nat→Prop} {H H':List ax}
theorem kg{a:Act}(ha:Sat n L a):∀ (l:List (Nat×Operand)) (us:List (Nat×Value)),l.mapM (fun x=>(ev L x.2).map fun u=>(x.1,u))=some us→l.map (fun x=>(x.1,a.eval x.2))=us
 | [],us,h=>by simp at h;subst h;rfl
 | x::r,us,h=>by
  simp only[List.mapM_cons,Option.bind_eq_bind]at h
  cases he:ev L x.2 with
  | none=>simp[he]at h
  | some u=>
   simp only[he,Option.map_some,Option.bind_some]at h
   cases hr:r.mapM (fun x=>(ev L x.2).map fun u=>(x.1,u))with
   | none=>simp[hr]at h
   | some us'=>
    simp[hr]at h
    subst h
    simp only[List.map_cons]
    rw[kg ha r us' hr,av ha he]
theorem XO.buildSlice{t e:TypeId}{parts:Array (Nat×Operand)}{vs:Array (Nat×Value)}{k m:Nat}{A:Array Value}(hp:parts.toList.mapM (fun x=>(ev L x.2).map fun u=>(x.1,u))=some vs.toList)(hb:∀ w,(Instr.buildSlice t k vs).run P w= .ok (.slice (some ⟨w.heap.size,0,none⟩) k k) (w.alloc (.cells A e)))(hA:A.size=m)(hd:Nat.blt d n.sz=true)(h:∀ b,XO P n ops Q rest ((d,.slice (some ⟨b,0,none⟩) k k)::L) (XM W S (.cells b 0 m (cellsOf A)::H))):XO P n ops Q (⟨some d,.buildSlice t k parts,ty,pos,af,none⟩::rest) L (XM W S H):=
 XO.op rfl fun a w ha hw=>by
  have hx':=hw.alloc A e (cellsOf A) (fun i hi=>dQ _ _ hi)
  rw[hA]at hx'
  unfold Oper.wp
  have hv:parts.map (fun (i,x)=>(i,a.eval x))=vs:=by
   apply Array.toList_inj.1
   rw[Array.toList_map]
   exact kg ha _ _ hp
  have:(execOp a.eval ⟨some d,.buildSlice t k parts,ty,pos,af,none⟩).run P w= .ok (.value (.slice (some ⟨w.heap.size,0,none⟩) k k)) (w.alloc (.cells A e)):=by
   simp only[execOp,hv,Sem.run_bind,hb,Result.andThen_ok,Sem.run_pure]
  rw[this]
  exact h _ _ _ (ha.put hd _) hx'
theorem XO.append{t e:TypeId}{x y:Operand}{p:Option Addr}{k cap m c sz b N:Nat}{xs:List Value}{C:Nat→Value}(hx:ev L x=some (.slice p k cap))(hy:ev L y=some (.slice (some ⟨b,0,none⟩) m c))(ht:P.underlying t=some (.slice e))(hr:kV P e sz=true)(hH:dS H (.row (.slice p k cap) e sz k xs) H')(hN:Has H (.cells b 0 N C))(hNm:N=m*sz)(h1:(bn C N).all one=true)(hm:0<m)(hk:k+m≤100000000000)(hd:Nat.blt d n.sz=true)(h:∀ p' cap',XO P n ops Q rest ((d,.slice p' (k+m) cap')::L) (XM W S (.row (.slice p' (k+m) cap') e sz (k+m) (xs++bn C N)::H'))):XO P n ops Q (⟨some d,.call ⟨.builtin .append,#[x,y],#[t,t]⟩,ty,pos,af,none⟩::rest) L (XM W S H):=
 XO.op rfl fun a w ha hw=>by
  have hc:(ax.cells b 0 N C).holds w:=hw.good.1 _ hN.mem
  have hrow:(ax.row (.slice p k cap) e sz k xs).holds w:=hw.good.1 _ (hH.perm.mem_iff.2 (by simp))
  obtain⟨p',cap',w',h3,h4,h5,h6⟩:=iW (ty:=ty) (c:=c) (b:=b) (news:=bn C N) ht hr hrow hm (by simp[bn,hNm]) (fun j u hj=>by
    simp only[bn,List.getElem?_map,Option.map_eq_some_iff]at hj
    obtain⟨j',hj1,rfl⟩:=hj
    have hj2:j<N:=by
     have:=(List.getElem?_eq_some_iff.1 hj1).1
     simpa using this
    have hj3:j'=j:=by
     have:=(List.getElem?_eq_some_iff.1 hj1).2
     simpa using this.symm
    subst hj3
    have hcc:=cw hc hj2
    have e0:(⟨b,0,none⟩:Addr).add j'=⟨b,0+j',none⟩:=by
     cases j'<;>simp[Addr.add]
    rw[e0];exact hcc) (fun u hu=>iT (List.all_eq_true.1 h1 u hu)) hk
  have hx2:=hw.write hH rfl h6 h5 h4
  unfold Oper.wp
  have:(execOp a.eval ⟨some d,.call ⟨.builtin .append,#[x,y],#[t,t]⟩,ty,pos,af,none⟩).run P w= .ok (.value (.slice p' (k+m) cap')) w':=by
   simp[execOp,resolve,invoke,builtin,av ha hx,av ha hy,h3]
  rw[this]
  exact h _ _ _ _ (ha.put hd _) hx2
theorem XO.cZ{p:Option Addr}{k cap sz:Nat}{e:TypeId}{xs:List Value}{rest:List Oper}(hH:Has H (.row (.slice p k cap) e sz k xs))(hk:0<k)(h:∀ g,p=some ⟨g,0,none⟩→XO P n ops Q rest L (XM W S H)):XO P n ops Q rest L (XM W S H):=by
 intro a w ha hw
 have hrow:(ax.row (.slice p k cap) e sz k xs).holds w:=hw.good.1 _ hH.mem
 rcases hrow.2 with⟨hv,rfl⟩ | ⟨g,_,_,hv,_⟩
 ·omega
 ·simp only[Value.slice.injEq]at hv
  exact h g hv.1 a w ha hw
theorem XC.cZ{p:Option Addr}{k cap sz:Nat}{e:TypeId}{xs:List Value}{c:Code}(hH:Has H (.row (.slice p k cap) e sz k xs))(hk:0<k)(h:∀ g,p=some ⟨g,0,none⟩→XC P n c Q L (XM W S H)):XC P n c Q L (XM W S H):=by
 intro a w ha hw
 have hrow:(ax.row (.slice p k cap) e sz k xs).holds w:=hw.good.1 _ hH.mem
 rcases hrow.2 with⟨hv,rfl⟩ | ⟨g,_,_,hv,_⟩
 ·omega
 ·simp only[Value.slice.injEq]at hv
  exact h g hv.1 a w ha hw
theorem XO.EL{t e:TypeId}{parts:Array (Nat×Operand)}{vs:Array (Nat×Value)}{k sz:Nat}{A:Array Value}(hp:parts.toList.mapM (fun x=>(ev L x.2).map fun u=>(x.1,u))=some vs.toList)(hb:∀ w,(Instr.buildSlice t k vs).run P w= .ok (.slice (some ⟨w.heap.size,0,none⟩) k k) (w.alloc (.cells A e)))(hA:A.size=k*sz)(hk:k≤1000000)(hd:Nat.blt d n.sz=true)(h:∀ b,XO P n ops Q rest ((d,.slice (some ⟨b,0,none⟩) k k)::L) (XM W S (.row (.slice (some ⟨b,0,none⟩) k k) e sz k A.toList::H))):XO P n ops Q (⟨some d,.buildSlice t k parts,ty,pos,af,none⟩::rest) L (XM W S H):=
 XO.op rfl fun a w ha hw=>by
  have hx':XM W S (.row (.slice (some ⟨w.heap.size,0,none⟩) k k) e sz k A.toList::H) (w.alloc (.cells A e)):=by
   refine hw.fresh (fun b o hb=>by simp only[ax.dE,Value.ownBlock,Option.some.injEq]at hb;omega) (mM w _ _) ⟨by simp[hA],.inr ⟨w.heap.size,k,A,rfl,Nat.zero_le _,heap_alloc_new w _,Nat.le_refl _,by simp only[maxLen];omega,hA,?_⟩⟩
   rw[←hA,←Array.length_toList,List.take_length]
  unfold Oper.wp
  have hv:parts.map (fun (i,x)=>(i,a.eval x))=vs:=by
   apply Array.toList_inj.1
   rw[Array.toList_map]
   exact kg ha _ _ hp
  have:(execOp a.eval ⟨some d,.buildSlice t k parts,ty,pos,af,none⟩).run P w= .ok (.value (.slice (some ⟨w.heap.size,0,none⟩) k k)) (w.alloc (.cells A e)):=by
   simp only[execOp,hv,Sem.run_bind,hb,Result.andThen_ok,Sem.run_pure]
  rw[this]
  exact h _ _ _ (ha.put hd _) hx'
theorem cell_of_row{w:World}{g k cap sz j:Nat}{e:TypeId}{xs:List Value}{v:Value}(h:(ax.row (.slice (some ⟨g,0,none⟩) k cap) e sz k xs).holds w)(hj:xs[j]? =some v):w.cell? ⟨g,0+j,none⟩=some v:=by
 have:=World.ownsRow.cells h (g:=g) rfl j v hj
 have e0:(⟨g,0,none⟩:Addr).add j=⟨g,0+j,none⟩:=by cases j<;>simp[Addr.add]
 rw[e0]at this;exact this
theorem V.zY{t:TypeId}{x:Operand}{g i k cap sz:Nat}{e:TypeId}{xs:List Value}{v:Value}{φ:World→Prop}{gd:Option (Nat×Bool)}(hx:ev L x=some (ptr g 0 i))(hH:∀ w,φ w→(ax.row (.slice (some ⟨g,0,none⟩) k cap) e sz k xs).holds w)(hv:xs[i]? =some v)(ht:fY P t=true):aM P n L φ (⟨some d,.load t x,ty,pos,af,gd⟩) v:=fun a w ha hw=>by
 have hc:w.cell? ⟨g,i,none⟩=some v:=by
  have:=cell_of_row (hH w hw) hv
  rwa[Nat.zero_add]at this
 simp[execOp,av ha hx,Instr.loadAt,Instr.sureAddr,ptr,dp ht hc]
end
def ints(zs:List Int):List Value:=zs.map (Value.int .i64)
def ep(zs:List Int)(z:Int):Int:=zs.getD z.toNat 0
theorem ints_at{zs:List Int}{z:Int}(h:0≤z∧z<zs.length):(ints zs)[0+z.toNat*1]? =some (.int .i64 (ep zs z)):=by
 have h2:z.toNat<zs.length:=by omega
 simp[ints,ep,List.getD,h2]
abbrev aZ(p:Option Addr)(cap:Nat)(e:TypeId)(zs:List Int):ax:=.row (.slice p zs.length cap) e 1 zs.length (ints zs)
theorem vU(zs:List Int)(z:Int):ints zs++[.int .i64 z]=ints (zs++[z]):=by simp[ints]
section
variable {P:Program} {n:Fr} {Q:Exit→Act→World→Prop} {L:PF} {ops:Md} {rest:List Oper} {ty:TypeId} {pos:String} {af:Array Edge} {d:Nat}
variable {W:World} {S:Nat→Nat→Prop} {H H':List ax}
theorem XO.kt{t e:TypeId}{x y:Operand}{p:Option Addr}{cap c b:Nat}{zs:List Int}{z:Int}(hx:ev L x=some (.slice p zs.length cap))(hy:ev L y=some (.slice (some ⟨b,0,none⟩) 1 c))(ht:P.underlying t=some (.slice e))(hr:kV P e 1=true)(hH:dS H (aZ p cap e zs) H')(hN:Has H (.cells b 0 1 (cellsOf #[.int .i64 z])))(hk:zs.length+1≤100000000000)(hd:Nat.blt d n.sz=true)(h:∀ p' cap',XO P n ops Q rest ((d,.slice p' (zs++[z]).length cap')::L) (XM W S (aZ p' cap' e (zs++[z])::H'))):XO P n ops Q (⟨some d,.call ⟨.builtin .append,#[x,y],#[t,t]⟩,ty,pos,af,none⟩::rest) L (XM W S H):=
 XO.append hx hy ht hr hH hN rfl rfl (by omega) hk hd (fun p' cap'=>by
  have e1:zs.length+1=(zs++[z]).length:=by simp
  have e2:ints zs++bn (cellsOf #[.int .i64 z]) 1=ints (zs++[z]):=vU zs z
  rw[e1,e2]
  exact h p' cap')
theorem XE.NY{k:Nat}{ps:List Nat}{cs:List (Nat×Nat)}{fn:Func}{R:Ending→World→Prop}{a b o i m sz:Nat}{t:TypeId}{C:Nat→Value}{v:Value}(hr:fn.results= #[.cell a t])(hv:lk L a=some (ptr b o i))(hH:Has H (.cells b o m C))(hC:i+sz≤m∧bW C i sz=v)(ht:jF P t=true)(hs:de P t=some sz)(h:∀ w,XM W S H w→R (.returned v) w):XE (fr k ps cs) (bodyPost P fn R) .ret L (XM W S H):=fun x w ha hw=>
 ⟨ha.1,v,by
  have hc:(ax.cells b o m C).holds w:=hw.good.1 _ hH.mem
  have hl:=eC (P:=P) (w:=w) (b:=b) (o:=o) (i:=i) (C:=C) ht hs (fun l hl=>cw hc (by omega))
  rw[hC.2]at hl
  have he:x.tmps.getD a undef= .pointer (some ⟨b,o+i,none⟩):=ha.2.2 a _ hv
  have he2:x.tmps[a]?.getD undef= .pointer (some ⟨b,o+i,none⟩):=by simpa using he
  simp[results,hr,he2,asAddr,hl],h w hw⟩
def oX(f:Int→Int)(m:Nat):Array Value:=((List.range m).map fun (j:Nat)=>Value.int .i64 (f (j:Int))).toArray
theorem V.iA{t e:TypeId}{x y:Operand}{f:Int→Int}{m:Nat}{k:IntKind}{z:Int}{φ:World→Prop}{gd:Option (Nat×Bool)}(hx:ev L x=some (.agg (oX f m)))(hy:ev L y=some (.int k z))(ht:P.underlying t=some (.array m e))(hs:de P e=some 1)(he:fY P e=true)(hz:0≤z∧z<m):aM P n L φ ⟨some d,.index t x y,ty,pos,af,gd⟩ (.int .i64 (f z)):=fun a w ha _=>by
 have h2:z.toNat<m:=by omega
 have h3:((z.toNat:Nat):Int)=z:=by omega
 have hp:(part e (oX f m) (z.toNat*1)).run P w= .ok (.int .i64 (f z)) w:=by
  simp[part,iJ he,oX,h2,h3]
 simp only[execOp,av ha hx,av ha hy,Instr.index,asIntOf,Sem.run_bind,Sem.run_pure,Result.andThen_ok,run_underlying ht,hz,run_sizeOf hs]
 simp only[Sem.run_bind,run_sizeOf hs,Result.andThen_ok,hp,true_and,and_self,if_true]
theorem V.FJ{t e:TypeId}{x y:Operand}{A:Array Value}{m:Nat}{k:IntKind}{z:Int}{v:Value}{φ:World→Prop}{gd:Option (Nat×Bool)}(hx:ev L x=some (.agg A))(hy:ev L y=some (.int k z))(ht:P.underlying t=some (.array m e))(hs:de P e=some 1)(he:fY P e=true)(hz:0≤z∧z<m)(hv:A[z.toNat]? =some v):aM P n L φ ⟨some d,.index t x y,ty,pos,af,gd⟩ v:=fun a w ha _=>by
 have hp:(part e A (z.toNat*1)).run P w= .ok v w:=by
  simp[part,iJ he,hv]
 simp only[execOp,av ha hx,av ha hy,Instr.index,asIntOf,Sem.run_bind,Sem.run_pure,Result.andThen_ok,run_underlying ht,hz,run_sizeOf hs]
 simp only[Sem.run_bind,run_sizeOf hs,Result.andThen_ok,hp,true_and,and_self,if_true]
end
def encI(f:Int→Int)(m:Nat):Nat→Value:=fun i=>if i<m then .int .i64 (f i)else undef
def yX(f:Int→Bool)(m:Nat):Array Value:=((List.range m).map fun (j:Nat)=>Value.bool (f (j:Int))).toArray
def mu(f:Int→Bool)(m:Nat):Nat→Value:=fun i=>if i<m then .bool (f i)else undef
theorem encI.ld(f:Int→Int)(m:Nat)(z:Int)(h:0≤z∧z<m):0+z.toNat*1<m∧encI f m (0+z.toNat*1)= .int .i64 (f z):=by
 have h1:0+z.toNat*1<m:=by omega
 refine⟨h1,?_⟩
 unfold encI
 rw[if_pos h1,show((0+z.toNat*1:Nat):Int)=z from by omega]
theorem mu.ld(f:Int→Bool)(m:Nat)(z:Int)(h:0≤z∧z<m):0+z.toNat*1<m∧mu f m (0+z.toNat*1)= .bool (f z):=by
 have h1:0+z.toNat*1<m:=by omega
 refine⟨h1,?_⟩
 unfold mu
 rw[if_pos h1,show((0+z.toNat*1:Nat):Int)=z from by omega]
theorem encI.st(f:Int→Int)(m:Nat)(z v:Int)(h:0≤z∧z<m):0+z.toNat*1<m∧cH (encI f m) (0+z.toNat*1) (.int .i64 v)=encI (aa f z v) m:=by
 have h1:0+z.toNat*1<m:=by omega
 refine⟨h1,?_⟩
 funext i
 unfold cH encI aa
 by_cases h2:i=0+z.toNat*1
 ·have h3:(i:Int)=z:=by omega
  have h4:i<m:=by omega
  simp only[if_pos h2,if_pos h3,if_pos h4]
 ·have h3:i<m→¬(i:Int)=z:=by omega
  simp only[if_neg h2]
  by_cases h4:i<m
  ·simp only[if_pos h4,if_neg (h3 h4)]
  ·simp only[if_neg h4]
theorem mu.st(f:Int→Bool)(m:Nat)(z:Int)(v:Bool)(h:0≤z∧z<m):0+z.toNat*1<m∧cH (mu f m) (0+z.toNat*1) (.bool v)=mu (aa f z v) m:=by
 have h1:0+z.toNat*1<m:=by omega
 refine⟨h1,?_⟩
 funext i
 unfold cH mu aa
 by_cases h2:i=0+z.toNat*1
 ·have h3:(i:Int)=z:=by omega
  have h4:i<m:=by omega
  simp only[if_pos h2,if_pos h3,if_pos h4]
 ·have h3:i<m→¬(i:Int)=z:=by omega
  simp only[if_neg h2]
  by_cases h4:i<m
  ·simp only[if_pos h4,if_neg (h3 h4)]
  ·simp only[if_neg h4]
theorem encI.agg(f:Int→Int)(m:Nat):0+m≤m∧bW (encI f m) 0 m= .agg (oX f m):=by
 refine⟨by omega,?_⟩
 unfold bW oX
 congr 2
 apply List.map_congr_left
 intro j hj
 have hj2:j<m:=by simpa using hj
 simp[encI,hj2]
theorem encI.box(f:Int→Int)(m:Nat):∀ i,i<m→cellsOf (oX f m) i=encI f m i:=fun i hi=>by simp[cellsOf,oX,encI,hi]
theorem mu.box(f:Int→Bool)(m:Nat):∀ i,i<m→cellsOf (yX f m) i=mu f m i:=fun i hi=>by simp[cellsOf,yX,mu,hi]
end Go.X

namespace Go.X
open Go
abbrev aR(p:Option Addr)(cap:Nat)(e:TypeId)(sz k:Nat)(C:Nat→Value):ax:=.row (.slice p k cap) e sz k (bn C (k*sz))
theorem cy{C:Nat→Value}{m i:Nat}(h:i<m):(bn C m)[i]? =some (C i):=by simp[bn,h]
theorem aG(C:Nat→Value)(m:Nat):(bn C m).length=m:=by simp[bn]
theorem zb(C:Nat→Value)(m i:Nat)(v:Value):(bn C m).set i v=bn (cH C i v) m:=by
 apply List.ext_getElem?
 intro j
 by_cases hj:j<m
 ·rw[cy hj,List.getElem?_set,aG]
  by_cases h:i=j
  ·subst h;simp[cH,hj]
  ·have h2:¬j=i:=fun e=>h e.symm
   rw[if_neg h,cy hj];simp[cH,h2]
 ·rw[List.getElem?_eq_none (by simp[aG];omega),List.getElem?_eq_none (by simp[aG];omega)]
theorem oz{w:World}{g cap sz k i:Nat}{e:TypeId}{C:Nat→Value}(h:(aR (some ⟨g,0,none⟩) cap e sz k C).holds w)(hi:i<k*sz):w.cell? ⟨g,i,none⟩=some (C i):=by
 have:=cell_of_row h (cy hi)
 rwa[Nat.zero_add]at this
theorem l7{w:World}{g cap sz k:Nat}{e:TypeId}{xs:List Value}(h:(ax.row (.slice (some ⟨g,0,none⟩) k cap) e sz k xs).holds w):∃ cur,w.heap[g]? =some (.cells cur e (0,0))∧k≤cap∧cap≤maxLen∧cur.size=cap*sz∧cur.toList.take (k*sz)=xs:=by
 rcases h.2 with⟨hv,_⟩ | ⟨g',cap',cur,hv,_,h1,h2,h3,h4,h5⟩
 ·cases hv
 ·simp only[Value.slice.injEq,Option.some.injEq,Addr.mk.injEq,and_true,true_and]at hv
  obtain⟨rfl,rfl⟩:=hv
  exact⟨cur,h1,h2,h3,h4,h5⟩
theorem XM.Bi{W w:World}{S:Nat→Nat→Prop}{H H':List ax}{g cap sz k i:Nat}{e:TypeId}{C:Nat→Value}(h:XM W S H w)(hd:dS H (aR (some ⟨g,0,none⟩) cap e sz k C) H')(hi:i<k*sz)(v:Value):XM W S (aR (some ⟨g,0,none⟩) cap e sz k (cH C i v)::H') (w.setCell ⟨g,i,none⟩ v):=by
 have hh:(aR (some ⟨g,0,none⟩) cap e sz k C).holds w:=h.good.1 _ (hd.perm.mem_iff.2 (by simp))
 obtain⟨cur,h1,h2,h3,h4,h5⟩:=l7 hh
 have hS:(aR (some ⟨g,0,none⟩) cap e sz k C).dE g (0+i):=rfl
 have hk:fZ w (w.setCell ⟨g,i,none⟩ v) (fun b o=>(aR (some ⟨g,0,none⟩) cap e sz k C).dE b o):=by
  have:=fZ.setCell h1 v hS
  rwa[Nat.zero_add]at this
 refine h.write (e':=aR (some ⟨g,0,none⟩) cap e sz k (cH C i v)) hd rfl (fun b' o' ha=>.inl ha) hk ?_
 refine⟨by rw[aG],.inr ⟨g,cap,cur.setIfInBounds i v,rfl,Nat.zero_le _,by simp[World.setCell,Array.getElem?_modify,h1],h2,h3,by simpa using h4,?_⟩⟩
 rw[Array.toList_setIfInBounds,List.take_set,h5,zb]
section
variable {P:Program} {n:Fr} {Q:Exit→Act→World→Prop} {L:PF} {ops:Md} {rest:List Oper} {ty:TypeId} {pos:String} {af:Array Edge} {d:Nat}
variable {W:World} {S:Nat→Nat→Prop} {H H':List ax}
theorem kX{w:World}{g cap sz k i:Nat}{e:TypeId}{C:Nat→Value}(h:(aR (some ⟨g,0,none⟩) cap e sz k C).holds w)(hi:i<k*sz){v:Value}(hv:one v=true):(store ⟨g,i,none⟩ v).run P w= .ok () (w.setCell ⟨g,i,none⟩ v):=by
 rw[run_store P w _ v .plain (iT hv),oz h hi]
 obtain⟨cur,h1,h2,h3,h4,h5⟩:=l7 h
 have:w.frozen? ⟨g,i,none⟩=false:=by
  simp only[World.frozen?,h1]
  simp
 simp[this]
theorem mm{g cap sz k:Nat}{e:TypeId} :∀ (vs:List Value) (i j:Nat) (C:Nat→Value) (w:World),XM W S (aR (some ⟨g,0,none⟩) cap e sz k C::H) w→i+j+vs.length≤k*sz→vs.all one=true→
  ∃ w',(storeCells ⟨g,i,none⟩ vs j).run P w= .ok () w'∧XM W S (aR (some ⟨g,0,none⟩) cap e sz k (bL C (i+j) vs)::H) w'
 | [],i,j,C,w,h,_,_=>⟨w,by simp[storeCells],h⟩
 | v::r,i,j,C,w,h,hl,h1=>by
  simp only[List.all_cons,Bool.and_eq_true]at h1
  simp only[List.length_cons]at hl
  have h2:=h.Bi .here (i:=i+j) (by omega) v
  obtain⟨w',hr,hx⟩:=mm r i (j+1) _ _ h2 (by omega) h1.2
  refine⟨w',?_,by simpa only[bL,Nat.add_assoc]using hx⟩
  simp only[storeCells,Sem.run_bind,iP]
  rw[show(⟨g,i,none⟩:Addr).add j=⟨g,i+j,none⟩from by
   have:=iP g 0 i j
   simpa only[Nat.zero_add]using this,kX (show(aR (some ⟨g,0,none⟩) cap e sz k C).holds w from h.good.1 _ (by simp)) (by omega) h1.1]
  exact hr
theorem rj{t:TypeId}{x y:Operand}{g cap sz k i m:Nat}{e:TypeId}{C:Nat→Value}{cs:Array Value}{a:Act}{w:World}(ha:Sat n L a)(hx:ev L x=some (ptr g 0 i))(hy:ev L y=some (.agg cs))(hw:XM W S (aR (some ⟨g,0,none⟩) cap e sz k C::H) w)(hi:i+m≤k*sz)(hv:cs.toList.all one=true∧cs.size=m)(hs:de P t=some m):∃ w',(execOp a.eval ⟨none,.store t x y,ty,pos,af,none⟩).run P w= .ok .skip w'∧XM W S (aR (some ⟨g,0,none⟩) cap e sz k (bL C i cs.toList)::H) w':=by
 obtain⟨w',hr,hx'⟩:=mm (P:=P) cs.toList i 0 C w hw (by simp;omega) hv.1
 simp only[Nat.add_zero]at hx'
 exact⟨w',by simp[execOp,av ha hx,av ha hy,Instr.storeAt,Instr.sureAddr,ptr,storeVar,Value.cells,run_sizeOf hs,hv.2,hr],hx'⟩
theorem XO.Io{t:TypeId}{x y:Operand}{g cap sz k i m:Nat}{e:TypeId}{C C':Nat→Value}{cs:Array Value}(hx:ev L x=some (ptr g 0 i))(hy:ev L y=some (.agg cs))(hH:dZ H (aR (some ⟨g,0,none⟩) cap e sz k C) (aR (some ⟨g,0,none⟩) cap e sz k C') H')(hi:i+m≤k*sz∧bL C i cs.toList=C')(hv:cs.toList.all one=true∧cs.size=m)(hs:de P t=some m)(h:XO P n ops Q rest L (XM W S H')):XO P n ops Q (⟨none,.store t x y,ty,pos,af,none⟩::rest) L (XM W S H):=
 XO.op rfl fun a w ha hw=>by
  obtain⟨H1,hd,hp⟩:=hH.del
  obtain⟨w',hr,hx'⟩:=rj (ty:=ty) (pos:=pos) (af:=af) ha hx hy (hw.perm hd.perm) hi.1 hv hs
  rw[hi.2]at hx'
  unfold Oper.wp
  rw[hr]
  exact h _ _ ha (hx'.perm hp)
theorem V.MD{t:TypeId}{x:Operand}{g i k cap sz:Nat}{e:TypeId}{C:Nat→Value}{v:Value}{φ:World→Prop}{gd:Option (Nat×Bool)}(hx:ev L x=some (ptr g 0 i))(hH:∀ w,φ w→(aR (some ⟨g,0,none⟩) cap e sz k C).holds w)(hv:i<k*sz∧C i=v)(ht:fY P t=true):
  aM P n L φ (⟨some d,.load t x,ty,pos,af,gd⟩) v:=V.zY hx hH (by rw[cy hv.1,hv.2]) ht
theorem V.JY{t:TypeId}{x:Operand}{g i k cap sz m:Nat}{e:TypeId}{C:Nat→Value}{v:Value}{φ:World→Prop}{gd:Option (Nat×Bool)}(hx:ev L x=some (ptr g 0 i))(hH:∀ w,φ w→(aR (some ⟨g,0,none⟩) cap e sz k C).holds w)(hv:i+m≤k*sz∧bW C i m=v)(ht:jF P t=true)(hs:de P t=some m):aM P n L φ (⟨some d,.load t x,ty,pos,af,gd⟩) v:=fun a w ha hw=>by
 have hr:=eC (P:=P) (w:=w) (b:=g) (o:=0) (i:=i) (C:=C) ht hs (fun l hl=>by
  have:=oz (hH w hw) (i:=i+l) (by omega)
  rwa[Nat.zero_add])
 rw[hv.2]at hr
 simp only[Nat.zero_add]at hr
 simp[execOp,av ha hx,Instr.loadAt,Instr.sureAddr,ptr,hr]
theorem XO.JS{t e0:TypeId}{x y:Operand}{p:Option Addr}{k k2 cap sz:Nat}{kk:IntKind}{z:Int}{e:TypeId}{C C':Nat→Value}(hx:ev L x=some (.slice p k cap))(hy:ev L y=some (.int kk z))(ht:P.underlying t=some (.slice e0))(hs:de P e0=some sz)(hz:z=(k2:Int))(hk2:k2≤k)(hk:k≤cap)(hC:∀ i,i<k2*sz→C' i=C i)(hH:dZ H (aR p cap e sz k C) (aR p cap e sz k2 C') H')(hd:Nat.blt d n.sz=true)(h:XO P n ops Q rest ((d,.slice p k2 cap)::L) (XM W S H')):XO P n ops Q (⟨some d,.slice t x none (some y) none,ty,pos,af,none⟩::rest) L (XM W S H):=
 XO.mono (M':=XM W S H') (fun w hw=>by
  obtain⟨H1,hdel,hp⟩:=hH.del
  have hrow:(aR p cap e sz k C).holds w:=hw.good.1 _ (hdel.perm.mem_iff.2 (by simp))
  have hsub:(aR p cap e sz k2 C').holds w:=by
   refine⟨by rw[aG],?_⟩
   rcases hrow.2 with⟨hv,hk0⟩ | ⟨g,cap',cur,hv,h0,h1,h2,h3,h4,h5⟩
   ·simp only[Value.slice.injEq]at hv
    obtain⟨rfl,rfl,rfl⟩:=hv
    have:k2=0:=by omega
    subst this;exact .inl ⟨rfl,rfl⟩
   ·simp only[Value.slice.injEq,true_and]at hv
    obtain⟨rfl,rfl⟩:=hv
    refine .inr ⟨g,cap,cur,rfl,h0,h1,by omega,h3,h4,?_⟩
    have hle:k2*sz≤k*sz:=Nat.mul_le_mul_right _ hk2
    have:=congrArg (List.take (k2*sz)) h5
    rw[List.take_take,Nat.min_eq_left hle]at this
    rw[this]
    apply List.ext_getElem?
    intro j
    by_cases hj:j<k2*sz
    ·rw[List.getElem?_take_of_lt hj,cy (by omega),cy hj,hC j hj]
    ·rw[List.getElem?_eq_none (by rw[List.length_take,aG];exact Nat.le_trans (Nat.min_le_left _ _) (by omega)),List.getElem?_eq_none (by rw[aG];omega)]
  have hx2:=hw.write (e':=aR p cap e sz k2 C') hdel rfl (fun b o hb=>.inl (by cases p<;>exact hb)) (fZ.refl _ _) hsub
  exact hx2.perm hp) (XO.v (fun a w ha _=>by
  subst hz
  have hzc:(k2:Int)≤(cap:Int):=by omega
  have:(execOp a.eval ⟨some d,.slice t x none (some y) none,ty,pos,af,none⟩).run P w= .ok (.value (.slice p k2 cap)) w:=by
   have hp0:(if cap=0 then p else p.map (fun x=>x.add (0*sz)))=p:=by
    split
    ·rfl
    ·cases p with
     | none=>rfl
     | some a=>simp[Addr.add]
   have hk3:k2≤cap:=by omega
   simp[execOp,av ha hx,av ha hy,Instr.sliceAt,run_underlying ht,Instr.slice,Instr.sliceBounds,Instr.sliceBound,asIntOf,hk3,run_sizeOf hs]
   simpa using hp0
  exact this) (by simp[hd,cx]) h)
theorem r6{w:World}{p:Option Addr}{k cap sz:Nat}{e:TypeId}{xs:List Value}(h:(ax.row (.slice p k cap) e sz k xs).holds w):k≤cap:=by
 rcases h.2 with⟨hv,h0⟩ | ⟨g,cap',cur,hv,_,_,h2,_⟩
 ·omega
 ·simp only[Value.slice.injEq,true_and]at hv
  omega
theorem XO.AJ{t e:TypeId}{x y:Operand}{p:Option Addr}{k cap m c sz b N:Nat}{C C1 C2:Nat→Value}(hx:ev L x=some (.slice p k cap))(hy:ev L y=some (.slice (some ⟨b,0,none⟩) m c))(ht:P.underlying t=some (.slice e))(hr:kV P e sz=true)(hH:dS H (aR p cap e sz k C) H')(hN:Has H (.cells b 0 N C1))(hNm:N=m*sz)(h1:(bn C1 N).all one=true)(hm:0<m)(hk:k+m≤100000000000)(hC:∀ i,i<(k+m)*sz→C2 i=if i<k*sz then C i else C1 (i-k*sz))(hd:Nat.blt d n.sz=true)(h:∀ p' cap',XO P n ops Q rest ((d,.slice p' (k+m) cap')::L) (XM W S (aR p' cap' e sz (k+m) C2::H'))):XO P n ops Q (⟨some d,.call ⟨.builtin .append,#[x,y],#[t,t]⟩,ty,pos,af,none⟩::rest) L (XM W S H):=
 XO.append hx hy ht hr hH hN hNm h1 hm hk hd (fun p' cap'=>by
  have e2:bn C (k*sz)++bn C1 N=bn C2 ((k+m)*sz):=by
   apply List.ext_getElem?
   intro j
   have hl:(k+m)*sz=k*sz+N:=by rw[hNm,Nat.add_mul]
   by_cases hj:j<k*sz
   ·rw[List.getElem?_append_left (by rw[aG];exact hj),cy hj,cy (by omega),hC j (by omega),if_pos hj]
   ·by_cases hj2:j<(k+m)*sz
    ·rw[List.getElem?_append_right (by rw[aG];omega),aG,cy (by omega),cy hj2,hC j hj2,if_neg hj]
    ·rw[List.getElem?_eq_none (by simp[aG];omega),List.getElem?_eq_none (by simp[aG];omega)]
  rw[e2]
  exact h p' cap')
end
end Go.X

namespace Go.X
open Go
section
variable {P:Program} {n:Fr} {Q:Exit→Act→World→Prop} {L:PF} {ops:Md} {rest:List Oper} {ty:TypeId} {pos:String} {af:Array Edge} {d:Nat}
variable {W:World} {S:Nat→Nat→Prop} {H H':List ax}
theorem XO.KT{t:TypeId}{x y:Operand}{g cap sz k i:Nat}{e:TypeId}{C C':Nat→Value}{v:Value}(hx:ev L x=some (ptr g 0 i))(hy:ev L y=some v)(hH:dZ H (aR (some ⟨g,0,none⟩) cap e sz k C) (aR (some ⟨g,0,none⟩) cap e sz k C') H')(hi:i<k*sz∧cH C i v=C')(hv:one v=true)(hs:de P t=some 1)(h:XO P n ops Q rest L (XM W S H')):XO P n ops Q (⟨none,.store t x y,ty,pos,af,none⟩::rest) L (XM W S H):=
 XO.op rfl fun a w ha hw=>by
  obtain⟨H1,hd,hp⟩:=hH.del
  have hw1:=hw.perm hd.perm
  have hr:=kX (P:=P) (show(aR (some ⟨g,0,none⟩) cap e sz k C).holds w from hw1.good.1 _ (by simp)) hi.1 hv
  have hx':=hw1.Bi .here hi.1 v
  rw[hi.2]at hx'
  have hst:(execOp a.eval ⟨none,.store t x y,ty,pos,af,none⟩).run P w= .ok .skip (w.setCell ⟨g,i,none⟩ v):=by
   have h0:(⟨g,i,none⟩:Addr).add 0=⟨g,i,none⟩:=rfl
   simp[execOp,av ha hx,av ha hy,Instr.storeAt,Instr.sureAddr,ptr,storeVar,o8 hv,run_sizeOf hs,storeCells,h0,hr]
  unfold Oper.wp
  rw[hst]
  exact h _ _ ha (hx'.perm hp)
theorem XO.B5{t e:TypeId}{x y:Operand}{p:Option Addr}{k cap m c sz g:Nat}{xs ys:List Value}(hx:ev L x=some (.slice p k cap))(hy:ev L y=some (.slice (some ⟨g,0,none⟩) m c))(ht:P.underlying t=some (.slice e))(hr:kV P e sz=true)(hH:dS H (.row (.slice p k cap) e sz k xs) H')(hN:Has H (.row (.slice (some ⟨g,0,none⟩) m c) e sz m ys))(h1:ys.all one=true)(hk:k+m≤100000000000)(hd:Nat.blt d n.sz=true)(h:∀ p' cap',XO P n ops Q rest ((d,.slice p' (k+m) cap')::L) (XM W S (.row (.slice p' (k+m) cap') e sz (k+m) (xs++ys)::H'))):XO P n ops Q (⟨some d,.call ⟨.builtin .append,#[x,y],#[t,t]⟩,ty,pos,af,none⟩::rest) L (XM W S H):=
 XO.op rfl fun a w ha hw=>by
  have hsrc:(ax.row (.slice (some ⟨g,0,none⟩) m c) e sz m ys).holds w:=hw.good.1 _ hN.mem
  have hrow:(ax.row (.slice p k cap) e sz k xs).holds w:=hw.good.1 _ (hH.perm.mem_iff.2 (by simp))
  by_cases hm:0<m
  ·obtain⟨p',cap',w',h3,h4,h5,h6⟩:=iW (ty:=ty) (c:=c) (b:=g) (news:=ys) ht hr hrow hm hsrc.1 (World.ownsRow.cells hsrc (g:=g) rfl) (fun u hu=>iT (List.all_eq_true.1 h1 u hu)) hk
   have hx2:=hw.write hH rfl h6 h5 h4
   unfold Oper.wp
   have:(execOp a.eval ⟨some d,.call ⟨.builtin .append,#[x,y],#[t,t]⟩,ty,pos,af,none⟩).run P w= .ok (.value (.slice p' (k+m) cap')) w':=by
    simp[execOp,resolve,invoke,builtin,av ha hx,av ha hy,h3]
   rw[this]
   exact h _ _ _ _ (ha.put hd _) hx2
  ·have hm0:m=0:=by omega
   subst hm0
   have hys:ys=[]:=List.eq_nil_of_length_eq_zero (by simpa using hsrc.1)
   subst hys
   have hkc:k≤cap:=r6 hrow
   obtain⟨i,z,hi,hz,hsize,hby,hzs,hsz⟩:=kf hr
   have h3:(Builtin.append_ #[t,t] ty #[.slice p k cap,.slice (some ⟨g,0,none⟩) 0 c]).run P w= .ok (.slice p (k+0) cap) w:=by
    cases p with
    | none=>simp[Builtin.append_,run_underlying ht,Builtin.lenOf,Builtin.firstCells,loadCells,loadCellsFrom,hkc,sizeOf,run_typeInfo hi,hi]
    | some q=>simp[Builtin.append_,run_underlying ht,Builtin.lenOf,Builtin.firstCells,loadCells,loadCellsFrom,storeCells,hkc,sizeOf,run_typeInfo hi,hi]
   have hx2:XM W S (.row (.slice p (k+0) cap) e sz (k+0) (xs++[])::H') w:=by
    simpa using hw.perm hH.perm
   unfold Oper.wp
   have:(execOp a.eval ⟨some d,.call ⟨.builtin .append,#[x,y],#[t,t]⟩,ty,pos,af,none⟩).run P w= .ok (.value (.slice p (k+0) cap)) w:=by
    simp only[Nat.add_zero]at h3 ⊢
    simp[execOp,resolve,invoke,builtin,av ha hx,av ha hy,h3]
   rw[this]
   exact h _ _ _ _ (ha.put hd _) hx2
theorem mK(k:Nat){t e:TypeId}{w:World}{p:Option Addr}{l c:Nat}(ht:P.underlying t=some (.slice e)):(Op.equalIn (k+1) t (.slice p l c) (.slice none 0 0)).run P w= .ok p.isNone w:=by
 cases p<;>simp only[Op.equalIn,Sem.run_bind,run_underlying ht,Result.andThen_ok,Sem.run_pure,Option.isNone]
theorem V.rm{op:BinOp}{t t' e:TypeId}{x:Operand}{p:Option Addr}{l c:Nat}{r:Bool}{φ:World→Prop}{gd:Option (Nat×Bool)}(hx:ev L x=some (.slice p l c))(ht:P.underlying t=some (.slice e))(hr:(match op with | .eql=>some (decide (p=none)) | .neq=>some (decide (p≠none)) | _=>none)=some r):aM P n L φ ⟨some d,.binOp op t x (.const (.slice none 0 0)) t',ty,pos,af,gd⟩ (.bool r):=fun a w ha _=>by
 have he:(Op.equal t (.slice p l c) (.slice none 0 0)).run P w= .ok p.isNone w:=mK 9999 ht
 have hy:a.eval (.const (.slice none 0 0))= .slice none 0 0:=rfl
 have b1:binOp .eql t (.slice p l c) (.slice none 0 0)=(do pure (.bool (←Op.equal t (.slice p l c) (.slice none 0 0)))):=rfl
 have b2:binOp .neq t (.slice p l c) (.slice none 0 0)=(do pure (.bool (!(←Op.equal t (.slice p l c) (.slice none 0 0))))):=rfl
 have g1:eqGuard .eql t x (.const (.slice none 0 0)) (.slice p l c) (.slice none 0 0)=pure ():=rfl
 have g2:eqGuard .neq t x (.const (.slice none 0 0)) (.slice p l c) (.slice none 0 0)=pure ():=rfl
 cases op<;>simp only[Option.some.injEq]at hr<;>(try cases hr)<;>
  simp only[execOp,av ha hx,hy,b1,b2,g1,g2]<;>cases p<;>simp[he]
end
end Go.X
