import Derived.Test.YthdinakloheinaaGreatDoorXBits
import Derived.Test.YthdinakloheinaaGreatDoorXMore
namespace Go.X.Sg
open Go Go.X
def gp(f:Int→Bool):Nat→Nat
 | 0=>0
 | n+1=>gp f n|||(if f n then 2^n else 0)
theorem cQ(f:Int→Bool)(n j:Nat):(gp f n).testBit j=(decide (j<n)&&f j):=by
 induction n with
 | zero=>simp[gp]
 | succ n ih=>
  simp only[gp,Nat.testBit_or,ih]
  by_cases h:j=n
  ·subst h
   cases hf:f (j:Int)<;>simp
  ·have:(if f (n:Int)=true then 2^n else 0).testBit j=false:=by
    split
    ·rw[Nat.testBit_two_pow];simp;omega
    ·simp
   rw[this]
   by_cases h2:j<n
   ·simp[h2];omega
   ·have:¬j<n+1:=by omega
    simp[h2,this]
def pack(f:Int→Bool):Nat:=gp f 9
theorem dS(f:Int→Bool)(j:Nat):(pack f).testBit j=(decide (j<9)&&f j):=cQ f 9 j
theorem eR(f:Int→Bool):pack f<2^IntKind.u16.bits:=by
 refine Nat.lt_of_lt_of_le (m:=2^9) ?_ (by decide)
 apply Nat.lt_pow_two_of_testBit
 intro i hi
 rw[dS]
 have:¬i<9:=by omega
 simp[this]
theorem eN{n:Int}(h:1≤n∧n≤8):2^n.toNat<2^IntKind.u16.bits:=Nat.pow_lt_pow_right (by omega) (by show n.toNat<16;omega)
theorem lR{n:Int}(h:1≤n∧n≤8):IntKind.u16.wrap (1*2^(min n.toNat IntKind.u16.bits))=((2^n.toNat:Nat):Int):=by
 have:n=1∨n=2∨n=3∨n=4∨n=5∨n=6∨n=7∨n=8:=by omega
 rcases this with rfl | rfl | rfl | rfl | rfl | rfl | rfl | rfl<;>decide
theorem wy(f:Int→Bool){n:Int}(h:1≤n∧n≤8):pack f|||2^n.toNat=pack (aa f n true):=by
 apply Nat.eq_of_testBit_eq
 intro j
 rw[Nat.testBit_or,dS,dS,Nat.testBit_two_pow]
 by_cases hj:n.toNat=j
 ·have h1:(j:Int)=n:=by omega
  have h2:j<9:=by omega
  simp[aa,h1,h2,hj]
 ·have h1:¬(j:Int)=n:=by omega
  simp[aa,h1,hj]
theorem km(f:Int→Bool){n:Int}(h:1≤n∧n≤8):iq (pack f) (2^n.toNat)=pack (aa f n false):=by
 apply Nat.eq_of_testBit_eq
 intro j
 rw[fH,dS,dS,Nat.testBit_two_pow]
 by_cases hj:n.toNat=j
 ·have h1:(j:Int)=n:=by omega
  simp[aa,h1,hj]
 ·have h1:¬(j:Int)=n:=by omega
  simp[aa,h1,hj]
structure BS where
 wait:Int→Bool
 held:Int→Bool
 bd:Int→Int
def BS.init:BS:=⟨fun _=>false,fun _=>false,fun _=>0⟩
def BS.mu(s:BS)(n:Int):Int:=if n=3∧s.bd n=0 then 1 else s.bd n
def BS.num(n:Int):Bool:=decide (1≤n∧n≤8)
def BS.send(s:BS)(n:Int):Int×BS:=if BS.num n then(0,if s.mu n=1 then s else {s with wait:=aa s.wait n true})else(1,s)
def BS.hold(s:BS)(n:Int)(on:Bool):Int×BS:=if BS.num n then(if n=1 then(8,s)else(0,{s with held:=aa s.held n on}))else(1,s)
def BS.set(s:BS)(n h:Int):Int×BS:=
 if BS.num n=true∧0≤h∧h≤2 then(if n=1 then(8,s)else
  (0,if({s with bd:=aa s.bd n h} :BS).mu n=1 then {wait:=aa s.wait n false,held:=s.held,bd:=aa s.bd n h} else {s with bd:=aa s.bd n h}))else(1,s)
def BS.first(s:BS)(h:Int):Int:=match ck (fun k=>s.wait k&&(!s.held k&&decide (s.bd k=h))) 9 with
 | some k=>k
 | none=>0
def BS.take(s:BS):Int×BS:=(s.first 2,{s with wait:=aa s.wait (s.first 2) false})
def BS.child(s:BS):BS:= {s with wait:=fun _=>false}
def b6(i:Nat):Value:=.int .u8 ((([0,1,28,2,29,14,24,3,30,22,20,15,25,17,4,8,31,27,13,23,21,19,16,7,26,12,18,6,11,5,10,9]:List Int)[i]?).getD 0)
def b7(s:BS)(i:Nat):Value:=
 if i=0 then .int .u16 (((pack s.wait):Nat):Int)else
 if i=1 then .int .u16 (((pack s.held):Nat):Int)else
 if 2≤i∧(i-2)%1=0∧(i-2)/1<9 then .int .i64 (s.bd (((i-2)/1:Nat):Int))else
 undef
theorem b7.p7(s:BS):(0+0)<11∧b7 s (0+0)= .int .u16 (((pack s.wait):Nat):Int):=by
 refine⟨by omega,?_⟩
 unfold b7
 rw[if_pos (by omega)]
theorem b7.pZ(s:BS):(0+1)<11∧b7 s (0+1)= .int .u16 (((pack s.held):Nat):Int):=by
 refine⟨by omega,?_⟩
 unfold b7
 rw[if_neg (by omega)]
 rw[if_pos (by omega)]
theorem b7.la(s:BS)(z0:Int)(q0:0≤z0∧z0<9):((0+2)+z0.toNat*1)<11∧b7 s ((0+2)+z0.toNat*1)= .int .i64 (s.bd z0):=by
 refine⟨by omega,?_⟩
 unfold b7
 rw[if_neg (by omega)]
 rw[if_neg (by omega)]
 rw[if_pos (by omega)]
 rw[show(((((0+2)+z0.toNat*1)-2)/1:Nat):Int)=z0 from by omega]
theorem b7.Fh(s:BS)(z0:Int)(q0:0≤z0∧z0<9)(v:Int):((0+2)+z0.toNat*1)<11∧cH (b7 s) ((0+2)+z0.toNat*1) (.int .i64 (v))=b7 ({s with bd:=aa s.bd z0 v}):=by
 refine⟨by omega,?_⟩
 funext j
 unfold cH
 by_cases hj:j=((0+2)+z0.toNat*1)
 ·rw[if_pos hj,hj,(b7.la ({s with bd:=aa s.bd z0 v}) z0 q0).2]
  all_goals simp[aa,aX]
 ·rw[if_neg hj]
  unfold b7
  refine au (fun c0=> ?_) (fun c0=> ?_)
  ·first | rfl | simp[aa,aX]
  refine au (fun c1=> ?_) (fun c1=> ?_)
  ·first | rfl | simp[aa,aX]
  refine au (fun c2=> ?_) (fun c2=> ?_)
  ·have hne:¬((((j-2)/1:Nat):Int)=z0):=by omega
   simp only[aa,aX,hne,if_false,and_true,true_and]
  rfl
theorem BS.gi(n:Int):BS.num n=true↔1≤n∧n≤8:=by simp[BS.num]
theorem BS.yX{s:BS}{h k:Int}(h0:0≤k∧k<9)(hw:s.wait k=true)(hh:s.held k=false)(he:s.bd k=h)(hn:∀ j:Int,0≤j→j<k→¬(s.wait j=true∧s.held j=false∧s.bd j=h)):s.first h=k:=by
 unfold BS.first
 rw[cU (k:=k) h0.1 (by omega) (by simp[hw,hh,he]) (fun j h1 h2=>by
  have:=hn j h1 h2
  simp only[not_and]at this
  cases q1:s.wait j<;>cases q2:s.held j<;>simp
  exact this q1 q2)]
 show((k.toNat:Nat):Int)=k
 omega
theorem BS.zI{s:BS}{h:Int}(hn:∀ j:Int,0≤j→j<9→¬(s.wait j=true∧s.held j=false∧s.bd j=h)):s.first h=0:=by
 unfold BS.first
 rw[cF (fun j h1 h2=>by
  have:=hn j h1 (by omega)
  simp only[not_and]at this
  cases q1:s.wait j<;>cases q2:s.held j<;>simp
  exact this q1 q2)]
theorem BS.lu(s:BS)(h:Int)(h0:s.wait 0=false):s.first h=0∨(1≤s.first h∧s.first h≤8):=by
 unfold BS.first
 cases hf:ck (fun k=>s.wait k&&(!s.held k&&decide (s.bd k=h))) 9 with
 | none=>exact .inl rfl
 | some k=>
  right
  unfold ck at hf
  have h1:=List.find?_some hf
  have h2:=List.mem_of_find?_eq_some hf
  simp at h2
  have:k≠0:=by
   rintro rfl
   simp[h0]at h1
  show 1≤(k:Int)∧(k:Int)≤8
  omega
theorem MQ{t:Nat}(ht:t<16):IntKind.u32.wrap (((2^t:Nat):Int))=((2^t:Nat):Int)∧IntKind.u32.wrap (((2^t:Nat):Int)*125613361)=((2^t*125613361%4294967296:Nat):Int)∧(((2^t*125613361%4294967296:Nat):Int)).fdiv (2^(min (27:Int).toNat IntKind.u32.bits))=((2^t*125613361%4294967296/134217728:Nat):Int)∧(2^t*125613361%4294967296/134217728)<32∧IntKind.i64.wrap (t:Int)=t:=by
 have:t=0∨t=1∨t=2∨t=3∨t=4∨t=5∨t=6∨t=7∨t=8∨t=9∨t=10∨t=11∨t=12∨t=13∨t=14∨t=15:=by omega
 rcases this with rfl | rfl | rfl | rfl | rfl | rfl | rfl | rfl | rfl | rfl | rfl | rfl | rfl | rfl | rfl | rfl<;>decide
theorem FI{t:Nat}(ht:t<16):0+(((2^t*125613361%4294967296/134217728:Nat):Int)).toNat*1<32∧b6 (0+(((2^t*125613361%4294967296/134217728:Nat):Int)).toNat*1)= .int .u8 (t:Int):=by
 have:t=0∨t=1∨t=2∨t=3∨t=4∨t=5∨t=6∨t=7∨t=8∨t=9∨t=10∨t=11∨t=12∨t=13∨t=14∨t=15:=by omega
 rcases this with rfl | rfl | rfl | rfl | rfl | rfl | rfl | rfl | rfl | rfl | rfl | rfl | rfl | rfl | rfl | rfl<;>exact⟨by decide,rfl⟩
theorem Hv{x:Nat}(h:0<x∧x<65536):IntKind.u16.wrap (0-(x:Int))=((2^16-x:Nat):Int):=by
 have:((0-(x:Int))%(2^16:Int))=((2^16-x:Nat):Int):=by
  have h2:(2:Int)^16=65536:=by decide
  have h3:(2:Nat)^16=65536:=by decide
  rw[h2,h3];omega
 simpa [IntKind.wrap,IntKind.signed,IntKind.bits]using this
theorem Hw{x:Nat}(h:0<x∧x<65536):IntKind.u16.wrap ((x:Int)-1)=((x-1:Nat):Int):=by
 rw[show(x:Int)-1=((x-1:Nat):Int)from by omega]
 exact wF rfl (Nat.lt_of_le_of_lt (Nat.sub_le _ _) h.2)
theorem re(x:Nat)(k:Nat):(((x >>> k)&&&1:Nat):Int)=if x.testBit k then 1 else 0:=by
 rw[Nat.testBit_eq_decide_div_mod_eq,Nat.shiftRight_eq_div_pow,Nat.and_one_is_mod]
 by_cases h:x/2^k%2=1
 ·simp[h]
 ·have:x/2^k%2=0:=by omega
  simp[this]
theorem l9(s:BS){x:Nat}{w':Int→Bool}(h:x=pack w'):(0+0)<11∧cH (b7 s) (0+0) (.int .u16 (x:Int))=b7 {s with wait:=w'} :=by
 subst h
 refine⟨by omega,?_⟩
 funext j
 unfold cH b7
 by_cases hj:j=0
 ·subst hj;simp
 ·have:¬j=0+0:=by omega
  simp[hj]
theorem ov(s:BS){x:Nat}{w':Int→Bool}(h:x=pack w'):(0+1)<11∧cH (b7 s) (0+1) (.int .u16 (x:Int))=b7 {s with held:=w'} :=by
 subst h
 refine⟨by omega,?_⟩
 funext j
 unfold cH b7
 by_cases hj:j=1
 ·subst hj;simp
 ·have:¬j=0+1:=by omega
  simp[hj]
theorem gx(s:BS):0+11≤11∧cq (b7 s) 0 11= .agg #[.int .u16 ((pack s.wait:Nat):Int),.int .u16 ((pack s.held:Nat):Int),.int .i64 (s.bd 0),.int .i64 (s.bd 1),.int .i64 (s.bd 2),.int .i64 (s.bd 3),.int .i64 (s.bd 4),.int .i64 (s.bd 5),.int .i64 (s.bd 6),.int .i64 (s.bd 7),.int .i64 (s.bd 8)]:=⟨by omega,rfl⟩
theorem EO{C:Nat→Value}(hC:∀ i,11≤i→C i=undef)(s:BS):0+11≤11∧bQ C 0 [.int .u16 ((pack s.wait:Nat):Int),.int .u16 ((pack s.held:Nat):Int),.int .i64 (s.bd 0),.int .i64 (s.bd 1),.int .i64 (s.bd 2),.int .i64 (s.bd 3),.int .i64 (s.bd 4),.int .i64 (s.bd 5),.int .i64 (s.bd 6),.int .i64 (s.bd 7),.int .i64 (s.bd 8)]=b7 s:=by
 refine⟨by omega,?_⟩
 funext i
 match i with
 | 0=>rfl
 | 1=>rfl
 | 2=>rfl
 | 3=>rfl
 | 4=>rfl
 | 5=>rfl
 | 6=>rfl
 | 7=>rfl
 | 8=>rfl
 | 9=>rfl
 | 10=>rfl
 | k+11=>
  have e2:b7 s (k+11)=undef:=by
   unfold b7
   repeat rw[if_neg (by omega)]
  rw[e2]
  have:=hC (k+11) (by omega)
  simp[bQ,cH,this]
theorem BX:∀ i,i<11→cellsOf (Value.agg #[.int .u16 0,.int .u16 0,.int .i64 0,.int .i64 0,.int .i64 0,.int .i64 0,.int .i64 0,.int .i64 0,.int .i64 0,.int .i64 0,.int .i64 0]).cells i=b7 BS.init i:=fun i hi=>match i,hi with
 | 0,_=>rfl
 | 1,_=>rfl
 | 2,_=>rfl
 | 3,_=>rfl
 | 4,_=>rfl
 | 5,_=>rfl
 | 6,_=>rfl
 | 7,_=>rfl
 | 8,_=>rfl
 | 9,_=>rfl
 | 10,_=>rfl
 | k+11,h=>absurd h (by omega)
theorem BS.vy{s:BS}{n:Int}(h:n<1∨n>8):s.send n=(1,s):=by
 unfold BS.send;rw[if_neg (by rw[BS.gi];omega)]
theorem BS.rn{s:BS}{n:Int}(h:1≤n∧n≤8)(hd:s.mu n=1):s.send n=(0,s):=by
 unfold BS.send;rw[if_pos ((BS.gi n).2 h),if_pos hd]
theorem BS.uQ{s:BS}{n:Int}(h:1≤n∧n≤8)(hd:¬s.mu n=1):s.send n=(0,{s with wait:=aa s.wait n true}):=by
 unfold BS.send;rw[if_pos ((BS.gi n).2 h),if_neg hd]
theorem BS.l7{s:BS}{n:Int}{on:Bool}(h:n<1∨n>8):s.hold n on=(1,s):=by
 unfold BS.hold;rw[if_neg (by rw[BS.gi];omega)]
theorem BS.jK{s:BS}{n:Int}{on:Bool}(h:n=1):s.hold n on=(8,s):=by
 subst h;rfl
theorem BS.l5{s:BS}{n:Int}{on:Bool}(h:1≤n∧n≤8)(h1:¬n=1):s.hold n on=(0,{s with held:=aa s.held n on}):=by
 unfold BS.hold;rw[if_pos ((BS.gi n).2 h),if_neg h1]
theorem BS.o3{s:BS}{n h:Int}(q:n<1∨n>8∨h<0∨h>2):s.set n h=(1,s):=by
 unfold BS.set;rw[if_neg (by rw[BS.gi];omega)]
theorem BS.lZ{s:BS}{n h:Int}(q:n=1)(q2:0≤h∧h≤2):s.set n h=(8,s):=by
 unfold BS.set;rw[if_pos ⟨(BS.gi n).2 (by omega),q2⟩,if_pos q]
theorem BS.lY{s:BS}{n h:Int}(q:1≤n∧n≤8)(q2:0≤h∧h≤2)(q1:¬n=1)(hd:({s with bd:=aa s.bd n h} :BS).mu n=1):s.set n h=(0,{wait:=aa s.wait n false,held:=s.held,bd:=aa s.bd n h}):=by
 unfold BS.set;rw[if_pos ⟨(BS.gi n).2 q,q2⟩,if_neg q1,if_pos hd]
theorem BS.ph{s:BS}{n h:Int}(q:1≤n∧n≤8)(q2:0≤h∧h≤2)(q1:¬n=1)(hd:¬({s with bd:=aa s.bd n h} :BS).mu n=1):s.set n h=(0,{s with bd:=aa s.bd n h}):=by
 unfold BS.set;rw[if_pos ⟨(BS.gi n).2 q,q2⟩,if_neg q1,if_neg hd]
theorem zN{f:Int→Bool}{n:Int}(h:f n=false):aa f n false=f:=cn f h
theorem BS.Co{s:BS}(h:s.first 2=0)(h0:s.wait 0=false):s.take=(0,s):=by
 unfold BS.take;rw[h,zN h0]
theorem FP(f:Int→Bool):pack f<512:=by
 have:pack f<2^9:=by
  apply Nat.lt_pow_two_of_testBit
  intro i hi
  rw[dS]
  have:¬i<9:=by omega
  simp[this]
 exact this
theorem xX{s:BS} :∀ i,11≤i→b7 s i=undef:=by
 intro i h
 unfold b7
 repeat rw[if_neg (by omega)]
end Go.X.Sg

namespace Go.X.Sp
open Go Go.X
structure SS where
 here:Int→Bool
 par:Int→Int
 bX:Int→Int→Int
 loc:Int→Int
structure NA where
 p:Int
 f:Int→Int
def sW(k:Int):Int→Int:=fun q=>if 0≤q∧q<k then-1 else 0
theorem ye(k:Int)(h:0≤k):aa (sW k) k (-1)=sW (k+1):=by
 funext q
 simp only[aa,sW]
 by_cases h1:q=k
 ·subst h1
  rw[if_pos rfl,if_pos (by omega)]
 ·rw[if_neg h1]
  by_cases h2:0≤q∧q<k
  ·rw[if_pos h2,if_pos (by omega)]
  ·rw[if_neg h2,if_neg (by omega)]
def Df(p:Int):Array Value:= #[.bool true,.int .i64 p,.int .i64 (-1),.int .i64 (-1),.int .i64 (-1),.int .i64 (-1),.int .i64 (-1),.int .i64 (-1),.int .i64 (-1),.int .i64 (-1),.int .i64 (-1),.int .i64 (-1),.int .i64 (-1),.int .i64 (-1),.int .i64 (-1),.int .i64 (-1),.int .i64 (-1),.int .i64 (-1),.int .i64 (-1),.int .i64 (-1),.int .i64 (-1),.int .i64 (-1),.int .i64 (-1)]
def SS.is(s:SS)(n:Int):Int:=if n<0∨6≤n then 1 else if s.here n then 0 else 2
def SS.eD(s:SS):Nat→Int→List Int
 | 0,_=>[]
 | k+1,n=>n::s.eD k (s.par n)
structure SS.Deep (s:SS) (dep:Int→Nat):Prop where
 d:∀ n,0≤n→n<6→s.here n=true→1≤dep n∧dep n≤4∧((s.par n= -1∧dep n=1)∨(0≤s.par n∧s.par n<6∧s.here (s.par n)=true∧dep n=dep (s.par n)+1))
def SS.cr(s:SS)(dep:Int→Nat)(n:Int):List Int:=s.eD (dep n) n
theorem SS.jd(s:SS):∀ (k:Nat) (n:Int),(s.eD k n).length=k
 | 0,_=>rfl
 | k+1,n=>by simp only[SS.eD,List.length_cons,s.jd k]
def cx(f:Int→Int):Nat→List Int
 | 0=>[]
 | k+1=>cx f k++(if f k≥0 then [f k]else [])
def SS.members(s:SS)(n:Int):List Int:=cx (s.bX n) 21
theorem ij(f:Int→Int):∀ k,(cx f k).length≤k
 | 0=>by simp[cx]
 | k+1=>by
  have:=ij f k
  simp only[cx,List.length_append]
  split<;>simp<;>omega
def fg(f:Int→Bool):Nat→List Int
 | 0=>[]
 | k+1=>fg f k++(if f k then [(k:Int)]else [])
theorem fS(f:Int→Bool):∀ k,(fg f k).length≤k
 | 0=>by simp[fg]
 | k+1=>by
  have:=fS f k
  simp only[fg,List.length_append]
  split<;>simp<;>omega
def SS.bZ(s:SS)(p:Int):Int×Int:=if p<0∨20≤p then(0,1)else if s.loc p<0 then(0,2)else(s.loc p,0)
def SS.add(s:SS)(dep:Int→Nat)(p:Int):Int×Int×SS:=
 if s.is p≠0 then(0,s.is p,s)else if dep p=4 then(0,7,s)else
 match ck (fun k=> !s.here k) 6 with
 | some k=>(k,0,{s with here:=aa s.here k true,par:=aa s.par k p})
 | none=>(0,4,s)
def SS.kids(s:SS)(n:Int):Option Nat:=ck (fun k=>s.here k&&(s.par k==n)) 6
def SS.drop(s:SS)(n:Int):Int×SS:=
 if s.is n≠0 then(s.is n,s)else if n=0∨(s.members n).length>0 then(5,s)else
 match s.kids n with
 | some _=>(5,s)
 | none=>(0,{s with here:=aa s.here n false,par:=aa s.par n 0})
def SS.zero:SS:=⟨fun _=>false,fun _=>0,fun _ _=> -1,fun _=>0⟩
def SS.root:SS:= {SS.zero with here:=aa SS.zero.here 0 true,par:=aa SS.zero.par 0 (-1)}
def SS.init:SS:= {SS.root with loc:=sW 20}
def uW(w:Int→Int→Int)(a p:Int):Int→Int→Int:=match ck (fun q=>decide (w a (q+1)<0)) 20 with
 | some q=>aX w a ((q:Int)+1) p
 | none=>w
def fv(w:Int→Int→Int)(p:Int):List Int→(Int→Int→Int)
 | []=>w
 | a::r=>fv (uW w a p) p r
def SS.mem(s:SS)(n:Int):List Int×Int:=if s.is n≠0 then([],s.is n)else(s.members n,0)
def SS.pid(s:SS)(p n:Int):Int×Int:=if s.is n≠0 then(0,s.is n)else if p<0∨20≤p then(0,1)else
 match ck (fun q=>s.bX n q==p) 21 with
 | some q=>(q,0)
 | none=>(0,2)
def SS.cZ(s:SS)(dep:Int→Nat)(n p:Int):SS:= {s with loc:=aa s.loc p n,bX:=fv s.bX p (s.cr dep n)}
def SS.enter(s:SS)(dep:Int→Nat)(n p:Int):Int×Int×SS:=
 if s.is n≠0 then(0,s.is n,s)else if p<0∨20≤p then(0,1,s)else if 0≤s.loc p then(0,3,s)else
 (((s.cZ dep n p).pid p n).1,((s.cZ dep n p).pid p n).2,s.cZ dep n p)
def SS.left(s:SS)(p:Int):SS:= {s with bX:=fun n q=>if s.bX n q=p then-1 else s.bX n q,loc:=aa s.loc p (-1)}
def SS.leave(s:SS)(p:Int):Int×SS:=if(s.bZ p).2≠0 then((s.bZ p).2,s)else(0,s.left p)
def SS.find(s:SS)(n q:Int):Int×Int:=if s.is n≠0 then(0,s.is n)else if q<1∨20<q then(0,2)else if s.bX n q<0 then(0,2)else(s.bX n q,0)
def aA(s:SS)(i:Nat):Value:=
 if i%23=0∧i/23<6 then .bool (s.here ((i/23:Nat):Int))else
 if 1≤i∧(i-1)%23=0∧(i-1)/23<6 then .int .i64 (s.par (((i-1)/23:Nat):Int))else
 if 2≤i∧(i-2)/23<6∧((i-2)%23)%1=0∧((i-2)%23)/1<21 then .int .i64 (if s.here (((i-2)/23:Nat):Int)then s.bX (((i-2)/23:Nat):Int) ((((i-2)%23)/1:Nat):Int)else 0)else
 if 138≤i∧(i-138)%1=0∧(i-138)/1<20 then .int .i64 (s.loc (((i-138)/1:Nat):Int))else
 undef
theorem aA.gR(s:SS)(z0:Int)(q0:0≤z0∧z0<6):(((0+0)+z0.toNat*23)+0)<158∧aA s (((0+0)+z0.toNat*23)+0)= .bool (s.here z0):=by
 refine⟨by omega,?_⟩
 unfold aA
 rw[if_pos (by omega)]
 rw[show(((((0+0)+z0.toNat*23)+0)/23:Nat):Int)=z0 from by omega]
theorem aA.jr(s:SS)(z0:Int)(q0:0≤z0∧z0<6):(((0+0)+z0.toNat*23)+1)<158∧aA s (((0+0)+z0.toNat*23)+1)= .int .i64 (s.par z0):=by
 refine⟨by omega,?_⟩
 unfold aA
 rw[if_neg (by omega)]
 rw[if_pos (by omega)]
 rw[show((((((0+0)+z0.toNat*23)+1)-1)/23:Nat):Int)=z0 from by omega]
theorem aA.kB(s:SS)(z0:Int)(z1:Int)(q0:0≤z0∧z0<6)(q1:0≤z1∧z1<21):((((0+0)+z0.toNat*23)+2)+z1.toNat*1)<158∧aA s ((((0+0)+z0.toNat*23)+2)+z1.toNat*1)= .int .i64 (if s.here z0 then s.bX z0 z1 else 0):=by
 refine⟨by omega,?_⟩
 unfold aA
 rw[if_neg (by omega)]
 rw[if_neg (by omega)]
 rw[if_pos (by omega)]
 rw[show(((((((0+0)+z0.toNat*23)+2)+z1.toNat*1)-2)/23:Nat):Int)=z0 from by omega]
 rw[show((((((((0+0)+z0.toNat*23)+2)+z1.toNat*1)-2)%23)/1:Nat):Int)=z1 from by omega]
theorem aA.gM(s:SS)(z0:Int)(z1:Int)(q0:0≤z0∧z0<6)(q1:0≤z1∧z1<21)(hc:s.here z0=true):((((0+0)+z0.toNat*23)+2)+z1.toNat*1)<158∧aA s ((((0+0)+z0.toNat*23)+2)+z1.toNat*1)= .int .i64 (s.bX z0 z1):=by
 refine⟨by omega,?_⟩
 rw[(aA.kB s z0 z1 q0 q1).2]
 simp only[hc,if_true]
theorem aA.n4(s:SS)(z0:Int)(z1:Int)(q0:0≤z0∧z0<6)(q1:0≤z1∧z1<21)(hc:s.here z0=true)(v:Int):((((0+0)+z0.toNat*23)+2)+z1.toNat*1)<158∧cH (aA s) ((((0+0)+z0.toNat*23)+2)+z1.toNat*1) (.int .i64 (v))=aA ({s with bX:=aX s.bX z0 z1 v}):=by
 refine⟨by omega,?_⟩
 funext j
 unfold cH
 by_cases hj:j=((((0+0)+z0.toNat*23)+2)+z1.toNat*1)
 ·rw[if_pos hj,hj,(aA.kB ({s with bX:=aX s.bX z0 z1 v}) z0 z1 q0 q1).2]
  all_goals simp[aa,aX,hc]
 ·rw[if_neg hj]
  unfold aA
  refine au (fun c0=> ?_) (fun c0=> ?_)
  ·first | rfl | simp[aa,aX]
  refine au (fun c1=> ?_) (fun c1=> ?_)
  ·first | rfl | simp[aa,aX]
  refine au (fun c2=> ?_) (fun c2=> ?_)
  ·have hne:¬((((j-2)/23:Nat):Int)=z0∧((((j-2)%23)/1:Nat):Int)=z1):=by omega
   simp only[aa,aX,hne,if_false,and_true,true_and]
  refine au (fun c3=> ?_) (fun c3=> ?_)
  ·first | rfl | simp[aa,aX]
  rfl
theorem aA.qp(s:SS)(z0:Int)(q0:0≤z0∧z0<20):((0+138)+z0.toNat*1)<158∧aA s ((0+138)+z0.toNat*1)= .int .i64 (s.loc z0):=by
 refine⟨by omega,?_⟩
 unfold aA
 rw[if_neg (by omega)]
 rw[if_neg (by omega)]
 rw[if_neg (by omega)]
 rw[if_pos (by omega)]
 rw[show(((((0+138)+z0.toNat*1)-138)/1:Nat):Int)=z0 from by omega]
theorem aA.u7(s:SS)(z0:Int)(q0:0≤z0∧z0<20)(v:Int):((0+138)+z0.toNat*1)<158∧cH (aA s) ((0+138)+z0.toNat*1) (.int .i64 (v))=aA ({s with loc:=aa s.loc z0 v}):=by
 refine⟨by omega,?_⟩
 funext j
 unfold cH
 by_cases hj:j=((0+138)+z0.toNat*1)
 ·rw[if_pos hj,hj,(aA.qp ({s with loc:=aa s.loc z0 v}) z0 q0).2]
  all_goals simp[aa,aX]
 ·rw[if_neg hj]
  unfold aA
  refine au (fun c0=> ?_) (fun c0=> ?_)
  ·first | rfl | simp[aa,aX]
  refine au (fun c1=> ?_) (fun c1=> ?_)
  ·first | rfl | simp[aa,aX]
  refine au (fun c2=> ?_) (fun c2=> ?_)
  ·first | rfl | simp[aa,aX]
  refine au (fun c3=> ?_) (fun c3=> ?_)
  ·have hne:¬((((j-138)/1:Nat):Int)=z0):=by omega
   simp only[aa,aX,hne,if_false,and_true,true_and]
  rfl
def im(s:NA)(i:Nat):Value:=
 if i=0 then .bool (true)else
 if i=1 then .int .i64 (s.p)else
 if 2≤i∧(i-2)%1=0∧(i-2)/1<21 then .int .i64 (s.f (((i-2)/1:Nat):Int))else
 undef
theorem im.E6(s:NA)(z0:Int)(q0:0≤z0∧z0<21):((0+2)+z0.toNat*1)<23∧im s ((0+2)+z0.toNat*1)= .int .i64 (s.f z0):=by
 refine⟨by omega,?_⟩
 unfold im
 rw[if_neg (by omega)]
 rw[if_neg (by omega)]
 rw[if_pos (by omega)]
 rw[show(((((0+2)+z0.toNat*1)-2)/1:Nat):Int)=z0 from by omega]
theorem im.GM(s:NA)(z0:Int)(q0:0≤z0∧z0<21)(v:Int):((0+2)+z0.toNat*1)<23∧cH (im s) ((0+2)+z0.toNat*1) (.int .i64 (v))=im ({s with f:=aa s.f z0 v}):=by
 refine⟨by omega,?_⟩
 funext j
 unfold cH
 by_cases hj:j=((0+2)+z0.toNat*1)
 ·rw[if_pos hj,hj,(im.E6 ({s with f:=aa s.f z0 v}) z0 q0).2]
  all_goals simp[aa,aX]
 ·rw[if_neg hj]
  unfold im
  refine au (fun c0=> ?_) (fun c0=> ?_)
  ·first | rfl | simp[aa,aX]
  refine au (fun c1=> ?_) (fun c1=> ?_)
  ·first | rfl | simp[aa,aX]
  refine au (fun c2=> ?_) (fun c2=> ?_)
  ·have hne:¬((((j-2)/1:Nat):Int)=z0):=by omega
   simp only[aa,aX,hne,if_false,and_true,true_and]
  rfl
def jj:Array Value:= #[.bool false,.int .i64 0,.int .i64 0,.int .i64 0,.int .i64 0,.int .i64 0,.int .i64 0,.int .i64 0,.int .i64 0,.int .i64 0,.int .i64 0,.int .i64 0,.int .i64 0,.int .i64 0,.int .i64 0,.int .i64 0,.int .i64 0,.int .i64 0,.int .i64 0,.int .i64 0,.int .i64 0,.int .i64 0,.int .i64 0]
theorem SS.dh(s:SS)(n:Int):(s.is n=0∧0≤n∧n<6∧s.here n=true)∨(s.is n=1∧(n<0∨6≤n))∨(s.is n=2∧0≤n∧n<6∧s.here n=false):=by
 unfold SS.is;split
 ·exact .inr (.inl ⟨rfl,by assumption⟩)
 ·split
  ·exact .inl ⟨rfl,by omega,by omega,by assumption⟩
  ·exact .inr (.inr ⟨rfl,by omega,by omega,by simp_all⟩)
theorem D7(p:Int):0+23≤23∧cq (im ⟨p,sW 21⟩) 0 23= .agg (Df p):=⟨by omega,rfl⟩
theorem D0(s:NA):∀ i,23≤i→im s i=undef:=by
 intro i h
 unfold im
 repeat rw[if_neg (by omega)]
theorem BA(C:Nat→Value):∀ (vs:List Value) (o i:Nat),i<o→bQ C o vs i=C i:=by
 intro vs
 induction vs generalizing C with
 | nil=>intro o i _;rfl
 | cons v r ih=>
  intro o i h
  rw[bQ,ih _ _ _ (by omega)]
  simp[cH];omega
theorem vC(C:Nat→Value):∀ (vs:List Value) (o i:Nat),o+vs.length≤i→bQ C o vs i=C i:=by
 intro vs
 induction vs generalizing C with
 | nil=>intro o i _;rfl
 | cons v r ih=>
  intro o i h
  simp only[List.length_cons]at h
  rw[bQ,ih _ _ _ (by omega)]
  simp[cH];omega
theorem Ae(C:Nat→Value):∀ (vs:List Value) (o j:Nat) (v:Value),vs[j]? =some v→bQ C o vs (o+j)=v:=by
 intro vs
 induction vs generalizing C with
 | nil=>intro o j v h;simp at h
 | cons u r ih=>
  intro o j v h
  cases j with
  | zero=>
   simp at h
   rw[bQ,BA _ _ _ _ (by omega)]
   simp[cH,h]
  | succ j=>
   simp at h
   rw[bQ,show o+(j+1)=o+1+j from by omega]
   exact ih _ _ _ _ h
theorem Lm(C:Nat→Value)(hC:∀ i,23≤i→C i=undef)(p:Int):0+23≤23∧bQ C 0 (Df p).toList=im ⟨p,sW 21⟩:=by
 refine⟨by omega,?_⟩
 funext i
 by_cases h:i<23
 ·have e:(Df p).toList[i]? =some (im ⟨p,sW 21⟩ i):=by
   have:i=0∨i=1∨i=2∨i=3∨i=4∨i=5∨i=6∨i=7∨i=8∨i=9∨i=10∨i=11∨i=12∨i=13∨i=14∨i=15∨i=16∨i=17∨i=18∨i=19∨i=20∨i=21∨i=22:=by omega
   rcases this with rfl | rfl | rfl | rfl | rfl | rfl | rfl | rfl | rfl | rfl | rfl | rfl | rfl | rfl | rfl | rfl | rfl | rfl | rfl | rfl | rfl | rfl | rfl<;>rfl
  have:=Ae C (Df p).toList 0 i _ e
  rwa[Nat.zero_add]at this
 ·rw[vC _ _ _ _ (by show 0+23≤i;omega),hC i (by omega),D0 _ i (by omega)]
theorem D9(p:Int)(C:Nat→Value)(hC:∀ i,23≤i→C i=undef):0+23≤23∧bQ C 0 [.bool true,.int .i64 p,.int .i64 0,.int .i64 0,.int .i64 0,.int .i64 0,.int .i64 0,.int .i64 0,.int .i64 0,.int .i64 0,.int .i64 0,.int .i64 0,.int .i64 0,.int .i64 0,.int .i64 0,.int .i64 0,.int .i64 0,.int .i64 0,.int .i64 0,.int .i64 0,.int .i64 0,.int .i64 0,.int .i64 0]=im ⟨p,sW 0⟩:=by
 refine⟨by omega,?_⟩
 funext i
 by_cases h:i<23
 ·have:i=0∨i=1∨i=2∨i=3∨i=4∨i=5∨i=6∨i=7∨i=8∨i=9∨i=10∨i=11∨i=12∨i=13∨i=14∨i=15∨i=16∨i=17∨i=18∨i=19∨i=20∨i=21∨i=22:=by omega
  rcases this with rfl | rfl | rfl | rfl | rfl | rfl | rfl | rfl | rfl | rfl | rfl | rfl | rfl | rfl | rfl | rfl | rfl | rfl | rfl | rfl | rfl | rfl | rfl<;>rfl
 ·rw[vC _ _ _ _ (by show 0+23≤i;omega),hC i (by omega),D0 _ i (by omega)]
theorem vX:∀ i,23≤i→cellsOf jj i=undef:=by
 intro i h
 have:jj.size=23:=rfl
 have h2:jj[i]? =none:=Array.getElem?_eq_none (by omega)
 simp[cellsOf,h2]
theorem qu(s:SS)(n:Int)(q:0≤n∧n<6)(hc:s.here n=true):(((0+0)+n.toNat*23)+2)+21≤158∧cq (aA s) (((0+0)+n.toNat*23)+2) 21= .agg (pf (s.bX n) 21):=by
 refine⟨by omega,?_⟩
 unfold cq pf
 congr 2
 apply List.map_congr_left
 intro j hj
 have hj2:j<21:=by simpa using hj
 have:=(aA.gM s n (j:Int) q (by omega) hc).2
 simpa using this
theorem te(f:Int→Int)(k:Nat):(f k≥0→cx f (k+1)=cx f k++[f k])∧(¬f k≥0→cx f (k+1)=cx f k):=by
 refine⟨fun h=>by simp[cx,h],fun h=>by simp[cx,h]⟩
theorem sY(f:Int→Int){k:Int}(h:0≤k):(f k≥0→cx f (k+1).toNat=cx f k.toNat++[f k])∧(¬f k≥0→cx f (k+1).toNat=cx f k.toNat):=by
 have:=te f k.toNat
 rw[show((k.toNat:Nat):Int)=k from by omega]at this
 rw[show(k+1).toNat=k.toNat+1 from by omega]
 exact this
theorem SS.jM{s:SS}{p n q:Int}(hi:s.is n=0)(hp:¬(p<0∨20≤p))(hq:0≤q∧q<21)(h:s.bX n q=p)(hn:∀ j:Int,0≤j→j<q→s.bX n j≠p):s.pid p n=(q,0):=by
 unfold SS.pid
 rw[if_neg (by simp[hi]),if_neg hp,cU (k:=q) hq.1 (by omega) (by simpa using h) (fun j h1 h2=>by simpa using hn j h1 h2)]
 simp only[]
 rw[show((q.toNat:Nat):Int)=q from by omega]
theorem SS.lv{s:SS}{p n:Int}(hi:s.is n=0)(hp:¬(p<0∨20≤p))(hn:∀ j:Int,0≤j→j<21→s.bX n j≠p):s.pid p n=(0,2):=by
 unfold SS.pid
 rw[if_neg (by simp[hi]),if_neg hp,cF (fun j h1 h2=>by simpa using hn j h1 (by omega))]
theorem SS.ny{s:SS}{p n:Int}(h:s.is n≠0):s.pid p n=(0,s.is n):=by unfold SS.pid;rw[if_pos h]
theorem SS.jR{s:SS}{p n:Int}(h:s.is n=0)(hp:p<0∨20≤p):s.pid p n=(0,1):=by unfold SS.pid;rw[if_neg (by simp[h]),if_pos hp]
theorem SS.kX{s:SS}{n q:Int}(h:s.is n≠0):s.find n q=(0,s.is n):=by unfold SS.find;rw[if_pos h]
theorem SS.jB{s:SS}{n q:Int}(h:s.is n=0)(hq:q<1∨20<q∨s.bX n q<0):s.find n q=(0,2):=by
 unfold SS.find;rw[if_neg (by simp[h])]
 by_cases h1:q<1∨20<q
 ·rw[if_pos h1]
 ·rw[if_neg h1,if_pos (by omega)]
theorem SS.nx{s:SS}{n q:Int}(h:s.is n=0)(hq:¬(q<1∨20<q))(hw:¬s.bX n q<0):s.find n q=(s.bX n q,0):=by
 unfold SS.find;rw[if_neg (by simp[h]),if_neg hq,if_neg hw]
theorem SS.lh{s:SS}{p:Int}(h:p<0∨20≤p):s.bZ p=(0,1):=by unfold SS.bZ;rw[if_pos h]
theorem SS.qf{s:SS}{p:Int}(h:¬(p<0∨20≤p))(h2:s.loc p<0):s.bZ p=(0,2):=by unfold SS.bZ;rw[if_neg h,if_pos h2]
theorem SS.Ba{s:SS}{p:Int}(h:¬(p<0∨20≤p))(h2:¬s.loc p<0):s.bZ p=(s.loc p,0):=by unfold SS.bZ;rw[if_neg h,if_neg h2]
theorem SS.IP{s:SS}{dep:Int→Nat}{n:Int}(hD:s.Deep dep)(h:0≤n∧n<6∧s.here n=true)(hp:s.par n= -1):s.eD (dep n) n=[n]:=by
 obtain⟨h1,_,h3⟩:=hD.d n h.1 h.2.1 h.2.2
 rcases h3 with⟨_,h4⟩ | ⟨h4,_⟩
 ·rw[h4];rfl
 ·omega
theorem SS.vQ{s:SS}{dep:Int→Nat}{n:Int}(hD:s.Deep dep)(h:0≤n∧n<6∧s.here n=true)(hp:¬s.par n= -1):s.eD (dep n) n=n::s.eD (dep (s.par n)) (s.par n)∧0≤s.par n∧s.par n<6∧s.here (s.par n)=true∧dep (s.par n)<dep n:=by
 obtain⟨h1,_,h3⟩:=hD.d n h.1 h.2.1 h.2.2
 rcases h3 with⟨h4,_⟩ | ⟨h4,h5,h6,h7⟩
 ·exact absurd h4 hp
 ·exact⟨by rw[h7];rfl,h4,h5,h6,by omega⟩
theorem SS.qj(s:SS)(dep:Int→Nat)(n:Int):(s.cr dep n).length=dep n:=s.jd _ _
theorem SS.Iw{s:SS}{dep:Int→Nat}{p:Int}(h:s.is p≠0):s.add dep p=(0,s.is p,s):=by unfold SS.add;rw[if_pos h]
theorem SS.FX{s:SS}{dep:Int→Nat}{p:Int}(h:s.is p=0)(h2:dep p=4):s.add dep p=(0,7,s):=by unfold SS.add;rw[if_neg (by simp[h]),if_pos h2]
theorem SS.G6{s:SS}{dep:Int→Nat}{p k:Int}(h:s.is p=0)(h2:¬dep p=4)(hk:0≤k∧k<6)(hh:s.here k=false)(hn:∀ j:Int,0≤j→j<k→s.here j=true):s.add dep p=(k,0,{s with here:=aa s.here k true,par:=aa s.par k p}):=by
 unfold SS.add
 rw[if_neg (by simp[h]),if_neg h2,cU (k:=k) hk.1 (by omega) (by simp[hh]) (fun j h1 h2=>by simp[hn j h1 h2])]
 simp only[]
 rw[show((k.toNat:Nat):Int)=k from by omega]
theorem SS.Ff{s:SS}{dep:Int→Nat}{p:Int}(h:s.is p=0)(h2:¬dep p=4)(hn:∀ j:Int,0≤j→j<6→s.here j=true):s.add dep p=(0,4,s):=by
 unfold SS.add
 rw[if_neg (by simp[h]),if_neg h2,cF (fun j h1 h2=>by simp[hn j h1 (by omega)])]
theorem SS.FV{s:SS}{n:Int}(h:s.is n≠0):s.drop n=(s.is n,s):=by unfold SS.drop;rw[if_pos h]
theorem SS.ug{s:SS}{n:Int}(h:s.is n=0)(h2:n=0∨(s.members n).length>0):s.drop n=(5,s):=by unfold SS.drop;rw[if_neg (by simp[h]),if_pos h2]
theorem SS.E8{s:SS}{n k:Int}(h:s.is n=0)(h2:¬(n=0∨(s.members n).length>0))(hk:0≤k∧k<6)(hh:s.here k=true)(hp:s.par k=n)(hn:∀ j:Int,0≤j→j<k→¬(s.here j=true∧s.par j=n)):s.drop n=(5,s):=by
 unfold SS.drop SS.kids
 rw[if_neg (by simp[h]),if_neg h2,cU (k:=k) hk.1 (by omega) (by simp[hh,hp]) (fun j h1 h2=>by have:=hn j h1 h2;simp only[not_and]at this;cases q:s.here j<;>simp;exact this q)]
theorem SS.IJ{s:SS}{n:Int}(h:s.is n=0)(h2:¬(n=0∨(s.members n).length>0))(hn:∀ j:Int,0≤j→j<6→¬(s.here j=true∧s.par j=n)):s.drop n=(0,{s with here:=aa s.here n false,par:=aa s.par n 0}):=by
 unfold SS.drop SS.kids
 rw[if_neg (by simp[h]),if_neg h2,cF (fun j h1 h2=>by have:=hn j h1 (by omega);simp only[not_and]at this;cases q:s.here j<;>simp;exact this q)]
theorem oJ(f:Int→Bool){k:Int}(h:0≤k):(f k=true→fg f (k+1).toNat=fg f k.toNat++[k])∧(f k=false→fg f (k+1).toNat=fg f k.toNat):=by
 have e:((k.toNat:Nat):Int)=k:=by omega
 rw[show(k+1).toNat=k.toNat+1 from by omega]
 refine⟨fun q=> ?_,fun q=> ?_⟩<;>simp[fg,e,q]
theorem wb(s s':SS)(k:Int)(q:0≤k∧k<6)(vs:List Value)(hl:vs.length=23)(h0:vs[0]? =some (.bool (s'.here k)))(h1:vs[1]? =some (.int .i64 (s'.par k)))(h2:∀ j:Nat,j<21→vs[j+2]? =some (.int .i64 (if s'.here k then s'.bX k j else 0)))(hh:∀ n,¬n=k→s'.here n=s.here n)(hp:∀ n,¬n=k→s'.par n=s.par n)(hw:s'.bX=s.bX)(ho:s'.loc=s.loc):0+0+k.toNat*23+23≤158∧bQ (aA s) (0+0+k.toNat*23) vs=aA s':=by
 refine⟨by omega,?_⟩
 funext i
 by_cases ha:i<0+0+k.toNat*23
 ·rw[BA _ _ _ _ ha]
  unfold aA
  refine au (fun c=>by rw[hh _ (by omega)]) (fun _=>au (fun c=>by rw[hp _ (by omega)]) (fun _=>au (fun c=>by rw[hh _ (by omega),hw]) (fun _=>by rw[ho])))
 ·by_cases hb:i<0+0+k.toNat*23+23
  ·obtain⟨j,rfl⟩:∃ j,i=0+0+k.toNat*23+j:=⟨i-(0+0+k.toNat*23),by omega⟩
   have hj:j<23:=by omega
   refine Ae _ _ _ _ _ ?_
   by_cases j0:j=0
   ·subst j0;rw[h0];exact congrArg some (aA.gR s' k q).2.symm
   ·by_cases j1:j=1
    ·subst j1;rw[h1];exact congrArg some (aA.jr s' k q).2.symm
    ·have h3:=(aA.kB s' k ((j-2:Nat):Int) q (by omega)).2
     have h4:=h2 (j-2) (by omega)
     rw[show j-2+2=j from by omega]at h4
     rw[h4,←h3]
     congr 2
     omega
  ·rw[vC _ _ _ _ (by omega)]
   unfold aA
   refine au (fun c=>by rw[hh _ (by omega)]) (fun _=>au (fun c=>by rw[hp _ (by omega)]) (fun _=>au (fun c=>by rw[hh _ (by omega),hw]) (fun _=>by rw[ho])))
theorem rz(s:SS)(k p:Int)(q:0≤k∧k<6)(hw:∀ j,s.bX k j= -1):0+0+k.toNat*23+23≤158∧bQ (aA s) (0+0+k.toNat*23) (Df p).toList=aA {s with here:=aa s.here k true,par:=aa s.par k p} :=by
 refine wb s _ k q _ rfl (by simp[aa];rfl) (by simp[aa];rfl) (fun j hj=> ?_) (fun n hn=>by simp[aa,hn]) (fun n hn=>by simp[aa,hn]) rfl rfl
 simp only[aa,if_true,hw]
 have:j=0∨j=1∨j=2∨j=3∨j=4∨j=5∨j=6∨j=7∨j=8∨j=9∨j=10∨j=11∨j=12∨j=13∨j=14∨j=15∨j=16∨j=17∨j=18∨j=19∨j=20:=by omega
 rcases this with rfl | rfl | rfl | rfl | rfl | rfl | rfl | rfl | rfl | rfl | rfl | rfl | rfl | rfl | rfl | rfl | rfl | rfl | rfl | rfl | rfl<;>rfl
theorem zl(s:SS)(k:Int)(q:0≤k∧k<6):0+0+k.toNat*23+23≤158∧bQ (aA s) (0+0+k.toNat*23) jj.toList=aA {s with here:=aa s.here k false,par:=aa s.par k 0} :=by
 refine wb s _ k q _ rfl (by simp[aa];rfl) (by simp[aa];rfl) (fun j hj=> ?_) (fun n hn=>by simp[aa,hn]) (fun n hn=>by simp[aa,hn]) rfl rfl
 simp only[aa,if_true]
 have:j=0∨j=1∨j=2∨j=3∨j=4∨j=5∨j=6∨j=7∨j=8∨j=9∨j=10∨j=11∨j=12∨j=13∨j=14∨j=15∨j=16∨j=17∨j=18∨j=19∨j=20:=by omega
 rcases this with rfl | rfl | rfl | rfl | rfl | rfl | rfl | rfl | rfl | rfl | rfl | rfl | rfl | rfl | rfl | rfl | rfl | rfl | rfl | rfl | rfl<;>rfl
def JR:Array Value:= #[.bool false,.int .i64 0,.int .i64 0,.int .i64 0,.int .i64 0,.int .i64 0,.int .i64 0,.int .i64 0,.int .i64 0,.int .i64 0,.int .i64 0,.int .i64 0,.int .i64 0,.int .i64 0,.int .i64 0,.int .i64 0,.int .i64 0,.int .i64 0,.int .i64 0,.int .i64 0,.int .i64 0,.int .i64 0,.int .i64 0,.bool false,.int .i64 0,.int .i64 0,.int .i64 0,.int .i64 0,.int .i64 0,.int .i64 0,.int .i64 0,.int .i64 0,.int .i64 0,.int .i64 0,.int .i64 0,.int .i64 0,.int .i64 0,.int .i64 0,.int .i64 0,.int .i64 0,.int .i64 0,.int .i64 0,.int .i64 0,.int .i64 0,.int .i64 0,.int .i64 0,.bool false,.int .i64 0,.int .i64 0,.int .i64 0,.int .i64 0,.int .i64 0,.int .i64 0,.int .i64 0,.int .i64 0,.int .i64 0,.int .i64 0,.int .i64 0,.int .i64 0,.int .i64 0,.int .i64 0,.int .i64 0,.int .i64 0,.int .i64 0,.int .i64 0,.int .i64 0,.int .i64 0,.int .i64 0,.int .i64 0,.bool false,.int .i64 0,.int .i64 0,.int .i64 0,.int .i64 0,.int .i64 0,.int .i64 0,.int .i64 0,.int .i64 0,.int .i64 0,.int .i64 0,.int .i64 0,.int .i64 0,.int .i64 0,.int .i64 0,.int .i64 0,.int .i64 0,.int .i64 0,.int .i64 0,.int .i64 0,.int .i64 0,.int .i64 0,.int .i64 0,.bool false,.int .i64 0,.int .i64 0,.int .i64 0,.int .i64 0,.int .i64 0,.int .i64 0,.int .i64 0,.int .i64 0,.int .i64 0,.int .i64 0,.int .i64 0,.int .i64 0,.int .i64 0,.int .i64 0,.int .i64 0,.int .i64 0,.int .i64 0,.int .i64 0,.int .i64 0,.int .i64 0,.int .i64 0,.int .i64 0,.bool false,.int .i64 0,.int .i64 0,.int .i64 0,.int .i64 0,.int .i64 0,.int .i64 0,.int .i64 0,.int .i64 0,.int .i64 0,.int .i64 0,.int .i64 0,.int .i64 0,.int .i64 0,.int .i64 0,.int .i64 0,.int .i64 0,.int .i64 0,.int .i64 0,.int .i64 0,.int .i64 0,.int .i64 0,.int .i64 0,.int .i64 0,.int .i64 0,.int .i64 0,.int .i64 0,.int .i64 0,.int .i64 0,.int .i64 0,.int .i64 0,.int .i64 0,.int .i64 0,.int .i64 0,.int .i64 0,.int .i64 0,.int .i64 0,.int .i64 0,.int .i64 0,.int .i64 0,.int .i64 0,.int .i64 0,.int .i64 0]
set_option maxRecDepth 20000 in theorem CV:∀ i,i<158→cellsOf JR i=aA SS.zero i:=fun i hi=>match i,hi with
 | 0,_=>rfl
 | 1,_=>rfl
 | 2,_=>rfl
 | 3,_=>rfl
 | 4,_=>rfl
 | 5,_=>rfl
 | 6,_=>rfl
 | 7,_=>rfl
 | 8,_=>rfl
 | 9,_=>rfl
 | 10,_=>rfl
 | 11,_=>rfl
 | 12,_=>rfl
 | 13,_=>rfl
 | 14,_=>rfl
 | 15,_=>rfl
 | 16,_=>rfl
 | 17,_=>rfl
 | 18,_=>rfl
 | 19,_=>rfl
 | 20,_=>rfl
 | 21,_=>rfl
 | 22,_=>rfl
 | 23,_=>rfl
 | 24,_=>rfl
 | 25,_=>rfl
 | 26,_=>rfl
 | 27,_=>rfl
 | 28,_=>rfl
 | 29,_=>rfl
 | 30,_=>rfl
 | 31,_=>rfl
 | 32,_=>rfl
 | 33,_=>rfl
 | 34,_=>rfl
 | 35,_=>rfl
 | 36,_=>rfl
 | 37,_=>rfl
 | 38,_=>rfl
 | 39,_=>rfl
 | 40,_=>rfl
 | 41,_=>rfl
 | 42,_=>rfl
 | 43,_=>rfl
 | 44,_=>rfl
 | 45,_=>rfl
 | 46,_=>rfl
 | 47,_=>rfl
 | 48,_=>rfl
 | 49,_=>rfl
 | 50,_=>rfl
 | 51,_=>rfl
 | 52,_=>rfl
 | 53,_=>rfl
 | 54,_=>rfl
 | 55,_=>rfl
 | 56,_=>rfl
 | 57,_=>rfl
 | 58,_=>rfl
 | 59,_=>rfl
 | 60,_=>rfl
 | 61,_=>rfl
 | 62,_=>rfl
 | 63,_=>rfl
 | 64,_=>rfl
 | 65,_=>rfl
 | 66,_=>rfl
 | 67,_=>rfl
 | 68,_=>rfl
 | 69,_=>rfl
 | 70,_=>rfl
 | 71,_=>rfl
 | 72,_=>rfl
 | 73,_=>rfl
 | 74,_=>rfl
 | 75,_=>rfl
 | 76,_=>rfl
 | 77,_=>rfl
 | 78,_=>rfl
 | 79,_=>rfl
 | 80,_=>rfl
 | 81,_=>rfl
 | 82,_=>rfl
 | 83,_=>rfl
 | 84,_=>rfl
 | 85,_=>rfl
 | 86,_=>rfl
 | 87,_=>rfl
 | 88,_=>rfl
 | 89,_=>rfl
 | 90,_=>rfl
 | 91,_=>rfl
 | 92,_=>rfl
 | 93,_=>rfl
 | 94,_=>rfl
 | 95,_=>rfl
 | 96,_=>rfl
 | 97,_=>rfl
 | 98,_=>rfl
 | 99,_=>rfl
 | 100,_=>rfl
 | 101,_=>rfl
 | 102,_=>rfl
 | 103,_=>rfl
 | 104,_=>rfl
 | 105,_=>rfl
 | 106,_=>rfl
 | 107,_=>rfl
 | 108,_=>rfl
 | 109,_=>rfl
 | 110,_=>rfl
 | 111,_=>rfl
 | 112,_=>rfl
 | 113,_=>rfl
 | 114,_=>rfl
 | 115,_=>rfl
 | 116,_=>rfl
 | 117,_=>rfl
 | 118,_=>rfl
 | 119,_=>rfl
 | 120,_=>rfl
 | 121,_=>rfl
 | 122,_=>rfl
 | 123,_=>rfl
 | 124,_=>rfl
 | 125,_=>rfl
 | 126,_=>rfl
 | 127,_=>rfl
 | 128,_=>rfl
 | 129,_=>rfl
 | 130,_=>rfl
 | 131,_=>rfl
 | 132,_=>rfl
 | 133,_=>rfl
 | 134,_=>rfl
 | 135,_=>rfl
 | 136,_=>rfl
 | 137,_=>rfl
 | 138,_=>rfl
 | 139,_=>rfl
 | 140,_=>rfl
 | 141,_=>rfl
 | 142,_=>rfl
 | 143,_=>rfl
 | 144,_=>rfl
 | 145,_=>rfl
 | 146,_=>rfl
 | 147,_=>rfl
 | 148,_=>rfl
 | 149,_=>rfl
 | 150,_=>rfl
 | 151,_=>rfl
 | 152,_=>rfl
 | 153,_=>rfl
 | 154,_=>rfl
 | 155,_=>rfl
 | 156,_=>rfl
 | 157,_=>rfl
 | k+158,h=>absurd h (by omega)
theorem Gw:sW 0=fun _=>0:=by
 funext q;simp only[sW];rw[if_neg (by omega)]
theorem SS.iM{s s':SS}(h:s'.par=s.par):∀ (k:Nat) (n:Int),s'.eD k n=s.eD k n
 | 0,_=>rfl
 | k+1,n=>by simp only[SS.eD,h,SS.iM h k]
theorem SS.vh{s:SS}{dep:Int→Nat}(hD:s.Deep dep):∀ (k:Nat) (n:Int),dep n=k→0≤n→n<6→s.here n=true→∀ a∈s.eD k n,0≤a∧a<6∧s.here a=true
 | 0,n,hk,h0,h6,hh,a,ha=>by have:=(hD.d n h0 h6 hh).1;omega
 | k+1,n,hk,h0,h6,hh,a,ha=>by
  obtain⟨_,_,h3⟩:=hD.d n h0 h6 hh
  simp only[SS.eD,List.mem_cons]at ha
  rcases ha with rfl | ha
  ·exact⟨h0,h6,hh⟩
  ·rcases h3 with⟨_,h4⟩ | ⟨h4,h5,h6',h7⟩
   ·obtain rfl:k=0:=by omega
    simp[SS.eD]at ha
   ·exact SS.vh hD k _ (by omega) h4 h5 h6' a ha
theorem ja{zs:List Int}{z:Int}(h:0≤z∧z<zs.length):ep zs z∈zs:=by
 have h2:z.toNat<zs.length:=by omega
 simp[ep,List.getD,h2]
theorem SS.GY{s:SS}{dep:Int→Nat}(hD:s.Deep dep){n:Int}(h:0≤n∧n<6∧s.here n=true){z:Int}(hz:0≤z∧z<(s.cr dep n).length):0≤ep (s.cr dep n) z∧ep (s.cr dep n) z<6∧s.here (ep (s.cr dep n) z)=true:=
 SS.vh hD _ n rfl h.1 h.2.1 h.2.2 _ (ja hz)
theorem xK{zs:List Int}{z:Int}(h:0≤z∧z<zs.length):zs.drop z.toNat=ep zs z::zs.drop (z+1).toNat:=by
 have h2:z.toNat<zs.length:=by omega
 rw[List.drop_eq_getElem_cons h2,show(z+1).toNat=z.toNat+1 from by omega]
 simp[ep,List.getD,h2]
theorem CN{w:Int→Int→Int}{a p k:Int}(hk:1≤k∧k≤20)(h:w a k<0)(hn:∀ j:Int,1≤j→j<k→¬w a j<0):uW w a p=aX w a k p:=by
 unfold uW
 rw[cU (k:=k-1) (by omega) (by omega) (by rw[show k-1+1=k from by omega];simpa using h) (fun j h1 h2=>by simpa using hn (j+1) (by omega) (by omega))]
 simp only[]
 rw[show(((k-1).toNat:Nat):Int)+1=k from by omega]
theorem BN{w:Int→Int→Int}{a p:Int}(hn:∀ j:Int,1≤j→j<21→¬w a j<0):uW w a p=w:=by
 unfold uW
 rw[cF (fun j h1 h2=>by simpa using hn (j+1) (by omega) (by omega))]
theorem SS.tf{s:SS}{dep:Int→Nat}{n p:Int}(h:s.is n≠0):s.enter dep n p=(0,s.is n,s):=by unfold SS.enter;rw[if_pos h]
theorem SS.k9{s:SS}{dep:Int→Nat}{n p:Int}(h:s.is n=0)(h2:p<0∨20≤p):s.enter dep n p=(0,1,s):=by unfold SS.enter;rw[if_neg (by simp[h]),if_pos h2]
theorem SS.pO{s:SS}{dep:Int→Nat}{n p:Int}(h:s.is n=0)(h2:¬(p<0∨20≤p))(h3:0≤s.loc p):s.enter dep n p=(0,3,s):=by unfold SS.enter;rw[if_neg (by simp[h]),if_neg h2,if_pos h3]
theorem SS.nQ{s:SS}{dep:Int→Nat}{n p:Int}(h:s.is n=0)(h2:¬(p<0∨20≤p))(h3:¬ 0≤s.loc p):s.enter dep n p=(((s.cZ dep n p).pid p n).1,((s.cZ dep n p).pid p n).2,s.cZ dep n p):=by unfold SS.enter;rw[if_neg (by simp[h]),if_neg h2,if_neg h3]
def pW(w:Int→Int→Int)(a p k:Int):Int→Int→Int:=fun m q=>if m=a∧0≤q∧q<k∧w m q=p then-1 else w m q
theorem CW(w:Int→Int→Int)(a p:Int):pW w a p 0=w:=by
 funext m q;unfold pW;rw[if_neg (by omega)]
theorem xN{w:Int→Int→Int}{a p k:Int}(hk:0≤k)(h:w a k=p):aX (pW w a p k) a k (-1)=pW w a p (k+1):=by
 funext m q
 unfold aX pW
 by_cases h1:m=a∧q=k
 ·obtain⟨rfl,rfl⟩:=h1
  rw[if_pos ⟨rfl,rfl⟩,if_pos ⟨rfl,hk,by omega,h⟩]
 ·rw[if_neg h1]
  by_cases h2:m=a∧0≤q∧q<k∧w m q=p
  ·rw[if_pos h2,if_pos ⟨h2.1,h2.2.1,by omega,h2.2.2.2⟩]
  ·rw[if_neg h2,if_neg]
   rintro⟨e1,e2,e3,e4⟩
   exact h2 ⟨e1,e2,by omega,e4⟩
theorem tD{w:Int→Int→Int}{a p k:Int}(h:¬w a k=p):pW w a p k=pW w a p (k+1):=by
 funext m q
 unfold pW
 by_cases h2:m=a∧0≤q∧q<k∧w m q=p
 ·rw[if_pos h2,if_pos ⟨h2.1,h2.2.1,by omega,h2.2.2.2⟩]
 ·rw[if_neg h2,if_neg]
  rintro⟨e1,e2,e3,e4⟩
  by_cases e5:q=k
  ·subst e5;subst e1;exact h e4
  ·exact h2 ⟨e1,e2,by omega,e4⟩
def xJ(w:Int→Int→Int)(l:List Int)(p:Int):Int→Int→Int:=fun m q=>if m∈l∧0≤q∧q<21∧w m q=p then-1 else w m q
theorem FD(w:Int→Int→Int)(p:Int):xJ w [] p=w:=by
 funext m q;unfold xJ;rw[if_neg (by simp)]
theorem Cy{w:Int→Int→Int}{l:List Int}{p z:Int}(hp:0≤p)(hz:0≤z∧z<l.length):pW (xJ w (l.take z.toNat) p) (ep l z) p 21=xJ w (l.take (z+1).toNat) p:=by
 have h2:z.toNat<l.length:=by omega
 have ht:l.take (z+1).toNat=l.take z.toNat++[ep l z]:=by
  rw[show(z+1).toNat=z.toNat+1 from by omega,List.take_add_one]
  simp[ep,List.getD,h2]
 funext m q
 unfold pW xJ
 rw[ht]
 simp only[List.mem_append,List.mem_singleton]
 by_cases h3:m∈l.take z.toNat∧0≤q∧q<21∧w m q=p
 ·have hr:(m∈l.take z.toNat∨m=ep l z)∧0≤q∧q<21∧w m q=p:=⟨.inl h3.1,h3.2⟩
  rw[if_pos hr,if_pos h3]
  split<;>rfl
 ·rw[if_neg h3]
  by_cases h4:m=ep l z∧0≤q∧q<21∧w m q=p
  ·have hr:(m∈l.take z.toNat∨m=ep l z)∧0≤q∧q<21∧w m q=p:=⟨.inr h4.1,h4.2⟩
   rw[if_pos h4,if_pos hr]
  ·have hr:¬((m∈l.take z.toNat∨m=ep l z)∧0≤q∧q<21∧w m q=p):=by
    rintro⟨e1 | e1,e2⟩
    ·exact h3 ⟨e1,e2⟩
    ·exact h4 ⟨e1,e2⟩
   rw[if_neg h4,if_neg hr]
theorem G9{s:SS}{l:List Int}{p:Int}(hW:∀ n q,s.bX n q=p→n∈l∧0≤q∧q<21):xJ s.bX l p=fun n q=>if s.bX n q=p then-1 else s.bX n q:=by
 funext n q
 unfold xJ
 by_cases h:s.bX n q=p
 ·rw[if_pos ⟨(hW n q h).1,(hW n q h).2.1,(hW n q h).2.2,h⟩,if_pos h]
 ·rw[if_neg (fun e=>h e.2.2.2),if_neg h]
end Go.X.Sp
