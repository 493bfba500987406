import Derived.Test.YthdinakloheinaaGreatDoorLM
import Derived.ProofKit
import Derived.OpenShut
import Derived.Below
import Derived.ChangeSame
import Derived.Deep.Slices
import Derived.Deep.Fields
import Derived.Test.YthdinakloheinaaGreatDoorXLay
import Derived.Test.YthdinakloheinaaGreatDoorXMore
namespace Go.X
open Go Go.ChangeShapes Go.WideShapes Go.Deep Go.RowKit Go.ChangeAt
section
variable {H:Type} {enc:TypeId×Value→H} {P:Program} {w:World} {base:Nat} {spare:Nat→Bool} {held:Bool}
theorem ns{t e:TypeId}{fs:Array Field}{fuel:Nat}{cs:List Value}{x:DataW H×List MemPlace}(ht:P.underlying t=some (.slice e))(he:P.underlying e=some (.struct fs))(hone:oneCellFields P fs=true)(hC:P.cellsOf e=fs.size)(h:DataW.trod enc P w base spare held fuel t cs=some x):(cs=[.slice none 0 0]∧x=(.nil,[]))∨∃ (a:Addr) (len cap m:Nat) (D:Nat→DataW H) (Pl:Nat→List MemPlace),cs=[.slice (some a) len cap]∧base≤a.block∧len≤cap∧cap≤maxLen∧m=(if spare a.block then cap else len)∧x=(.slice ((List.range len).map D) ((List.range (m-len)).map fun j=>D (len+j)),MemPlace.row a (m*fs.size)++(List.range m).flatMap Pl)∧∀ i,i<m→∃ (ys:List (DataW H×List MemPlace)) (n:Nat),D i= .agg (ys.map (·.1))∧Pl i=ys.flatMap (·.2)∧ys.length=fs.size∧∀ (j:Nat) (f:Field),fs[j]? =some f→∃ (v:Value) (y:DataW H×List MemPlace),w.cell? (a.add (i*fs.size+j))=some v∧ys[j]? =some y∧DataW.trod enc P w base spare held n f.type [v]=some y:=by
 rcases open_slice ht h with h0 | ⟨a,len,cap,m,n,D,Pl,hcs,hb,hl,hm,hmm,hx,hi⟩
 ·exact .inl h0
 ·refine .inr ⟨a,len,cap,m,D,Pl,hcs,hb,hl,hm,hmm,by rw[hC]at hx;exact hx,fun i him=> ?_⟩
  obtain⟨cs',hc,ht'⟩:=hi i him
  rw[hC]at hc
  obtain⟨ys,n',hn',hy,hlen,hyl,hf⟩:=DataW.trod_struct he ht'
  obtain⟨_,hcl,hat⟩:=World.cells?_some hc
  simp only[Prod.mk.injEq]at hy
  refine⟨ys,n',hy.1,hy.2,hyl,fun j f hj=> ?_⟩
  obtain⟨ho,hk⟩:=hone_of hone j f hj
  have hjl:j<fs.size:=(Array.getElem?_eq_some_iff.1 hj).1
  have hcell:=hat j hjl
  have hv:cs'[j]? =some (cs'[j]'(by omega)):=List.getElem?_eq_getElem (by omega)
  have h1:=hf j f hj
  rw[ho,hk]at h1
  have hone':(cs'.drop j).take 1=[cs'[j]'(by omega)]:=by
   rw[List.drop_eq_getElem_cons (by omega)]
   rfl
  rw[hone']at h1
  have hys:ys[j]? =some (ys[j]'(by omega)):=List.getElem?_eq_getElem (by omega)
  refine⟨_,_,?_,hys,h1.trans hys⟩
  rw[←Go.Deep.add_add,hcell,hv]
end
section
variable {H:Type} {enc:TypeId×Value→H} {P:Program}
theorem sL{f:Func}{s:ChangeSpec}{apart fresh handsOn again:Bool}{W W':World}{args:Array Value}{v:Value}{ds gs:List (DataW H)}{before pa pv:List MemPlace}(hW:DataW.Whole enc P f.params.toList s.vars apart W args.toList ds gs before)(hres:∀ (b:Nat) (sp:Nat→Bool) (hd:Bool),DataW.TrodAll enc P W' b sp hd f.resultTypes.toList (v.resultList f.resultTypes.size) (s.fn H (ds++gs)).results [])(hargs:∀ sp:Nat→Bool,(∀ p∈before,sp p.block=true)→DataW.TrodAll enc P W' 0 sp true f.params.toList args.toList (s.fn H (ds++gs)).args pa)(hvars:∀ sp:Nat→Bool,(∀ p∈before,sp p.block=true)→DataW.TrodVars enc P W' sp s.vars (s.fn H (ds++gs)).vars pv)(hps:before=pa++pv)(hb:Below W.heap.size W W')(hok:∀ (j:Nat) (t:TypeId) (r:Value),f.resultTypes[j]? =some t→(v.resultList f.resultTypes.size)[j]? =some r→Value.okWide P W' .any 0 t r):s.post enc P f apart fresh handsOn again W args v W':=by
 have hlt:∀ p∈before,p.block<W.heap.size:=fun p hp=>hW.lt p hp
 have hold:∀ p∈before,(fun b=>decide (b<W.heap.size)) p.block=true:=fun p hp=>by simpa using hlt p hp
 refine⟨ds,gs,before,[],pa,pv,hW,hres _ _ _,hargs _ hold,hvars _ hold,World.keptBut_mono (fun p hp=>⟨hp,?_⟩) (hb.frame (· ∈before)),fun _=> ?_⟩
 ·rw[hps,List.mem_append]at hp
  exact Or.inr hp
 ·obtain⟨_,_,_,_,_,hz,hn⟩:=hW
  refine⟨hok,_,_,([]++pa)++pv,⟨[]++pa,pv,trodAll_append (hargs _ (fun _ _=>rfl)) (hres _ _ _),hvars _ (fun _ _=>rfl),rfl,?_,?_⟩,?_⟩
  ·intro b off hp
   have hin:MemPlace.cell b off∈before:=by rw[hps];simpa using hp
   rw[hb.frozen (hlt _ hin)]
   exact hz b off hin
  ·intro ha
   have:=hn ha
   rw[hps]at this
   simpa using this
  ·intro p hp _
   rw[hps]
   simpa using hp
end
theorem jt{P:Program}{f:FuncId}{args:List Value}{pre:List ax}(hs:Spec P f args pre (fun v H1=>v= .bool true∧H1=[]))(hro:∀ e∈pre,e.wr=false){w:World}(hg:Good pre w):Calls P f args.toArray w fun e w'=>e= .returned (.bool true)∧Below w.heap.size w w':=by
 refine(hs w hg).mono ?_
 rintro e w' ⟨v,H1,rfl,⟨rfl,rfl⟩,_,hx⟩
 have hn:∀ b o,¬bR pre b o:=fun b o ⟨e,he,hew,_⟩=>by rw[hro e he]at hew;cases hew
 exact⟨rfl,hx.keep.os,hx.keep.tape,hx.keep.output,hx.keep.size,fun k hk=>hx.keep.same k hk (fun o=>hn k o)⟩
theorem wf_i64{n:Int}(h:(Lit.int .i64 n).wf=true): -9223372036854775808≤n∧n≤9223372036854775807:=by
 simpa [Lit.wf,IntKind.min,IntKind.max,IntKind.signed,IntKind.bits]using h
theorem wf_u64{n:Int}(h:(Lit.int .u64 n).wf=true):0≤n∧n≤18446744073709551615:=by
 simpa [Lit.wf,IntKind.min,IntKind.max,IntKind.signed,IntKind.bits]using h
theorem HR{w:World}{a:Addr}{v:Value}(h:w.cell? (a.add 0)=some v):a.spot=none:=by
 have h:w.cell? a=some v:=h
 cases hsp:a.spot with
 | none=>rfl
 | some s=>
  unfold World.cell? at h
  cases hb:w.heap[a.block]? with
  | none=>simp[hb]at h
  | some o=>cases o<;>simp[hb,hsp]at h
theorem pI{w:World}{a:Addr}{n:Nat}{C:Nat→Value}(hn:0<n)(h:∀ i,i<n→w.cell? (a.add i)=some (C i)):(ax.ro a.block a.off n C).holds w:=by
 have h0:=h 0 hn
 have h0':w.cell? a=some (C 0):=h0
 have key:∀ i,i<n→w.cell? ⟨a.block,a.off+i,none⟩=some (C i):=fun i hi=>by
  cases i with
  | zero=>
   have hs:a.spot=none:=by
    cases hsp:a.spot with
    | none=>rfl
    | some s=>
     unfold World.cell? at h0'
     cases hb:w.heap[a.block]? with
     | none=>simp[hb]at h0'
     | some o=>cases o<;>simp[hb,hsp]at h0'
   have:a=⟨a.block,a.off,none⟩:=by cases a;simp_all
   rw[this]at h0'
   simpa using h0'
  | succ i=>simpa [Addr.add]using h (i+1) hi
 have k0:=key 0 hn
 unfold World.cell? at k0
 cases hb:w.heap[a.block]? with
 | none=>simp[hb]at k0
 | some o=>
  cases o with
  | cells A t fz=>
   refine⟨A,t,fz,hb,fun i hi=> ?_⟩
   have:=key i hi
   simpa [World.cell?,hb]using this
  | _=>simp[hb]at k0
theorem I1{w:World}{a:Addr}{len:Nat}(hlen:0<len)(h:∀ i,i<len→∃ x:iZ,x.ok∧∀ j,j<8→w.cell? (a.add (i*8+j))=some (bQ x j)):∃ A:Int→iZ,(∀ z:Int,0≤z→z<len→(A z).ok)∧Good [.ro a.block a.off (8*len) (df A)] w:=by
 classical
 let A:Int→iZ:=fun z=>if hz:z.toNat<len then Classical.choose (h z.toNat hz)else⟨⟨#[]⟩,0,0,0,0,false,⟨#[]⟩,⟨#[]⟩⟩
 have hA:∀ i:Nat,(hi:i<len)→A (i:Int)=Classical.choose (h i hi):=fun i hi=>by simp[A,hi]
 refine⟨A,fun z h0 h1=> ?_,fun e he=> ?_,by simp⟩
 ·have hz:z.toNat<len:=by omega
  have:A z=A (z.toNat:Int):=by rw[show((z.toNat:Nat):Int)=z from by omega]
  rw[this,hA _ hz]
  exact(Classical.choose_spec (h z.toNat hz)).1
 ·have:e= .ro a.block a.off (8*len) (df A):=by simpa using he
  subst this
  refine pI (by omega) fun i hi=> ?_
  have hd:i/8<len:=by omega
  have h1:=(Classical.choose_spec (h (i/8) hd)).2 (i%8) (by omega)
  rw[show i/8*8+i%8=i from by omega]at h1
  rw[h1]
  unfold df
  rw[hA _ hd]
end Go.X

namespace Go.X.Sg
open Go Go.X
def gx(f:Int→Bool):Nat→Nat
 | 0=>0
 | n+1=>gx f n|||(if f n then 2^n else 0)
theorem cL(f:Int→Bool)(n j:Nat):(gx f n).testBit j=(decide (j<n)&&f j):=by
 induction n with
 | zero=>simp[gx]
 | succ n ih=>
  simp only[gx,Nat.testBit_or,ih]
  by_cases h:j=n
  ·subst h
   cases hf:f (j:Int)<;>simp
  ·have:(if f (n:Int)=true then 2^n else 0).testBit j=false:=by
    split
    ·rw[Nat.testBit_two_pow];simp;omega
    ·simp
   rw[this]
   by_cases h2:j<n
   ·simp[h2];omega
   ·have:¬j<n+1:=by omega
    simp[h2,this]
def pack(f:Int→Bool):Nat:=gx f 9
theorem fm(f:Int→Bool)(j:Nat):(pack f).testBit j=(decide (j<9)&&f j):=cL f 9 j
theorem qd(f:Int→Bool):pack f<2^IntKind.u16.bits:=by
 refine Nat.lt_of_lt_of_le (m:=2^9) ?_ (by decide)
 apply Nat.lt_pow_two_of_testBit
 intro i hi
 rw[fm]
 have:¬i<9:=by omega
 simp[this]
theorem lv{n:Int}(h:1≤n∧n≤8):2^n.toNat<2^IntKind.u16.bits:=Nat.pow_lt_pow_right (by omega) (by show n.toNat<16;omega)
theorem HL{n:Int}(h:1≤n∧n≤8):IntKind.u16.wrap (1*2^(min n.toNat IntKind.u16.bits))=((2^n.toNat:Nat):Int):=by
 have:n=1∨n=2∨n=3∨n=4∨n=5∨n=6∨n=7∨n=8:=by omega
 rcases this with rfl | rfl | rfl | rfl | rfl | rfl | rfl | rfl<;>decide
theorem F8(f:Int→Bool){n:Int}(h:1≤n∧n≤8):pack f|||2^n.toNat=pack (aa f n true):=by
 apply Nat.eq_of_testBit_eq
 intro j
 rw[Nat.testBit_or,fm,fm,Nat.testBit_two_pow]
 by_cases hj:n.toNat=j
 ·have h1:(j:Int)=n:=by omega
  have h2:j<9:=by omega
  simp[aa,h1,h2,hj]
 ·have h1:¬(j:Int)=n:=by omega
  simp[aa,h1,hj]
structure BS where
 wait:Int→Bool
 held:Int→Bool
 gD:Int→Int
def BS.init:BS:=⟨fun _=>false,fun _=>false,fun _=>0⟩
def BS.nm(s:BS)(n:Int):Int:=if n=3∧s.gD n=0 then 1 else s.gD n
def BS.num(n:Int):Bool:=decide (1≤n∧n≤8)
def BS.send(s:BS)(n:Int):Int×BS:=if BS.num n then(0,if s.nm n=1 then s else {s with wait:=aa s.wait n true})else(1,s)
def BS.hold(s:BS)(n:Int)(on:Bool):Int×BS:=if BS.num n then(if n=1 then(8,s)else(0,{s with held:=aa s.held n on}))else(1,s)
def BS.set(s:BS)(n h:Int):Int×BS:=
 if BS.num n=true∧0≤h∧h≤2 then(if n=1 then(8,s)else
  (0,if({s with gD:=aa s.gD n h} :BS).nm n=1 then {wait:=aa s.wait n false,held:=s.held,gD:=aa s.gD n h} else {s with gD:=aa s.gD n h}))else(1,s)
def BS.first(s:BS)(h:Int):Int:=match b6 (fun k=>s.wait k&&(!s.held k&&decide (s.gD k=h))) 9 with
 | some k=>k
 | none=>0
def BS.take(s:BS):Int×BS:=(s.first 2,{s with wait:=aa s.wait (s.first 2) false})
def BS.child(s:BS):BS:= {s with wait:=fun _=>false}
def cX(i:Nat):Value:=.int .u8 ((([0,1,28,2,29,14,24,3,30,22,20,15,25,17,4,8,31,27,13,23,21,19,16,7,26,12,18,6,11,5,10,9]:List Int)[i]?).getD 0)
def cW(s:BS)(i:Nat):Value:=
 if i=0 then .int .u16 (((pack s.wait):Nat):Int)else
 if i=1 then .int .u16 (((pack s.held):Nat):Int)else
 if 2≤i∧(i-2)%1=0∧(i-2)/1<9 then .int .i64 (s.gD (((i-2)/1:Nat):Int))else
 undef
theorem cW.AN(s:BS):(0+0)<11∧cW s (0+0)= .int .u16 (((pack s.wait):Nat):Int):=by
 refine⟨by omega,?_⟩
 unfold cW
 rw[if_pos (by omega)]
theorem cW.HV(s:BS):(0+1)<11∧cW s (0+1)= .int .u16 (((pack s.held):Nat):Int):=by
 refine⟨by omega,?_⟩
 unfold cW
 rw[if_neg (by omega)]
 rw[if_pos (by omega)]
theorem cW.nJ(s:BS)(z0:Int)(q0:0≤z0∧z0<9):((0+2)+z0.toNat*1)<11∧cW s ((0+2)+z0.toNat*1)= .int .i64 (s.gD z0):=by
 refine⟨by omega,?_⟩
 unfold cW
 rw[if_neg (by omega)]
 rw[if_neg (by omega)]
 rw[if_pos (by omega)]
 rw[show(((((0+2)+z0.toNat*1)-2)/1:Nat):Int)=z0 from by omega]
theorem BS.mS(n:Int):BS.num n=true↔1≤n∧n≤8:=by simp[BS.num]
theorem BS.xX{s:BS}{h k:Int}(h0:0≤k∧k<9)(hw:s.wait k=true)(hh:s.held k=false)(he:s.gD k=h)(hn:∀ j:Int,0≤j→j<k→¬(s.wait j=true∧s.held j=false∧s.gD j=h)):s.first h=k:=by
 unfold BS.first
 rw[cP (k:=k) h0.1 (by omega) (by simp[hw,hh,he]) (fun j h1 h2=>by
  have:=hn j h1 h2
  simp only[not_and]at this
  cases q1:s.wait j<;>cases q2:s.held j<;>simp
  exact this q1 q2)]
 show((k.toNat:Nat):Int)=k
 omega
theorem BS.yP{s:BS}{h:Int}(hn:∀ j:Int,0≤j→j<9→¬(s.wait j=true∧s.held j=false∧s.gD j=h)):s.first h=0:=by
 unfold BS.first
 rw[cC (fun j h1 h2=>by
  have:=hn j h1 (by omega)
  simp only[not_and]at this
  cases q1:s.wait j<;>cases q2:s.held j<;>simp
  exact this q1 q2)]
theorem BS.py(s:BS)(h:Int)(h0:s.wait 0=false):s.first h=0∨(1≤s.first h∧s.first h≤8):=by
 unfold BS.first
 cases hf:b6 (fun k=>s.wait k&&(!s.held k&&decide (s.gD k=h))) 9 with
 | none=>exact .inl rfl
 | some k=>
  right
  unfold b6 at hf
  have h1:=List.find?_some hf
  have h2:=List.mem_of_find?_eq_some hf
  simp at h2
  have:k≠0:=by
   rintro rfl
   simp[h0]at h1
  show 1≤(k:Int)∧(k:Int)≤8
  omega
theorem Np{t:Nat}(ht:t<16):IntKind.u32.wrap (((2^t:Nat):Int))=((2^t:Nat):Int)∧IntKind.u32.wrap (((2^t:Nat):Int)*125613361)=((2^t*125613361%4294967296:Nat):Int)∧(((2^t*125613361%4294967296:Nat):Int)).fdiv (2^(min (27:Int).toNat IntKind.u32.bits))=((2^t*125613361%4294967296/134217728:Nat):Int)∧(2^t*125613361%4294967296/134217728)<32∧IntKind.i64.wrap (t:Int)=t:=by
 have:t=0∨t=1∨t=2∨t=3∨t=4∨t=5∨t=6∨t=7∨t=8∨t=9∨t=10∨t=11∨t=12∨t=13∨t=14∨t=15:=by omega
 rcases this with rfl | rfl | rfl | rfl | rfl | rfl | rfl | rfl | rfl | rfl | rfl | rfl | rfl | rfl | rfl | rfl<;>decide
theorem Gm{t:Nat}(ht:t<16):0+(((2^t*125613361%4294967296/134217728:Nat):Int)).toNat*1<32∧cX (0+(((2^t*125613361%4294967296/134217728:Nat):Int)).toNat*1)= .int .u8 (t:Int):=by
 have:t=0∨t=1∨t=2∨t=3∨t=4∨t=5∨t=6∨t=7∨t=8∨t=9∨t=10∨t=11∨t=12∨t=13∨t=14∨t=15:=by omega
 rcases this with rfl | rfl | rfl | rfl | rfl | rfl | rfl | rfl | rfl | rfl | rfl | rfl | rfl | rfl | rfl | rfl<;>exact⟨by decide,rfl⟩
theorem Ho{x:Nat}(h:0<x∧x<65536):IntKind.u16.wrap (0-(x:Int))=((2^16-x:Nat):Int):=by
 have:((0-(x:Int))%(2^16:Int))=((2^16-x:Nat):Int):=by
  have h2:(2:Int)^16=65536:=by decide
  have h3:(2:Nat)^16=65536:=by decide
  rw[h2,h3];omega
 simpa [IntKind.wrap,IntKind.signed,IntKind.bits]using this
theorem Hk{x:Nat}(h:0<x∧x<65536):IntKind.u16.wrap ((x:Int)-1)=((x-1:Nat):Int):=by
 rw[show(x:Int)-1=((x-1:Nat):Int)from by omega]
 exact xy rfl (Nat.lt_of_le_of_lt (Nat.sub_le _ _) h.2)
theorem sr(x:Nat)(k:Nat):(((x >>> k)&&&1:Nat):Int)=if x.testBit k then 1 else 0:=by
 rw[Nat.testBit_eq_decide_div_mod_eq,Nat.shiftRight_eq_div_pow,Nat.and_one_is_mod]
 by_cases h:x/2^k%2=1
 ·simp[h]
 ·have:x/2^k%2=0:=by omega
  simp[this]
theorem ti(s:BS){x:Nat}{w':Int→Bool}(h:x=pack w'):(0+0)<11∧cH (cW s) (0+0) (.int .u16 (x:Int))=cW {s with wait:=w'} :=by
 subst h
 refine⟨by omega,?_⟩
 funext j
 unfold cH cW
 by_cases hj:j=0
 ·subst hj;simp
 ·have:¬j=0+0:=by omega
  simp[hj]
theorem gy(s:BS):0+11≤11∧bW (cW s) 0 11= .agg #[.int .u16 ((pack s.wait:Nat):Int),.int .u16 ((pack s.held:Nat):Int),.int .i64 (s.gD 0),.int .i64 (s.gD 1),.int .i64 (s.gD 2),.int .i64 (s.gD 3),.int .i64 (s.gD 4),.int .i64 (s.gD 5),.int .i64 (s.gD 6),.int .i64 (s.gD 7),.int .i64 (s.gD 8)]:=⟨by omega,rfl⟩
theorem EI{C:Nat→Value}(hC:∀ i,11≤i→C i=undef)(s:BS):0+11≤11∧bL C 0 [.int .u16 ((pack s.wait:Nat):Int),.int .u16 ((pack s.held:Nat):Int),.int .i64 (s.gD 0),.int .i64 (s.gD 1),.int .i64 (s.gD 2),.int .i64 (s.gD 3),.int .i64 (s.gD 4),.int .i64 (s.gD 5),.int .i64 (s.gD 6),.int .i64 (s.gD 7),.int .i64 (s.gD 8)]=cW s:=by
 refine⟨by omega,?_⟩
 funext i
 match i with
 | 0=>rfl
 | 1=>rfl
 | 2=>rfl
 | 3=>rfl
 | 4=>rfl
 | 5=>rfl
 | 6=>rfl
 | 7=>rfl
 | 8=>rfl
 | 9=>rfl
 | 10=>rfl
 | k+11=>
  have e2:cW s (k+11)=undef:=by
   unfold cW
   repeat rw[if_neg (by omega)]
  rw[e2]
  have:=hC (k+11) (by omega)
  simp[bL,cH,this]
theorem C9:∀ i,i<11→cellsOf (Value.agg #[.int .u16 0,.int .u16 0,.int .i64 0,.int .i64 0,.int .i64 0,.int .i64 0,.int .i64 0,.int .i64 0,.int .i64 0,.int .i64 0,.int .i64 0]).cells i=cW BS.init i:=fun i hi=>match i,hi with
 | 0,_=>rfl
 | 1,_=>rfl
 | 2,_=>rfl
 | 3,_=>rfl
 | 4,_=>rfl
 | 5,_=>rfl
 | 6,_=>rfl
 | 7,_=>rfl
 | 8,_=>rfl
 | 9,_=>rfl
 | 10,_=>rfl
 | k+11,h=>absurd h (by omega)
theorem BS.vh{s:BS}{n:Int}(h:n<1∨n>8):s.send n=(1,s):=by
 unfold BS.send;rw[if_neg (by rw[BS.mS];omega)]
theorem BS.rk{s:BS}{n:Int}(h:1≤n∧n≤8)(hd:s.nm n=1):s.send n=(0,s):=by
 unfold BS.send;rw[if_pos ((BS.mS n).2 h),if_pos hd]
theorem BS.uR{s:BS}{n:Int}(h:1≤n∧n≤8)(hd:¬s.nm n=1):s.send n=(0,{s with wait:=aa s.wait n true}):=by
 unfold BS.send;rw[if_pos ((BS.mS n).2 h),if_neg hd]
theorem EH(f:Int→Bool):pack f<512:=by
 have:pack f<2^9:=by
  apply Nat.lt_pow_two_of_testBit
  intro i hi
  rw[fm]
  have:¬i<9:=by omega
  simp[this]
 exact this
theorem xG{s:BS} :∀ i,11≤i→cW s i=undef:=by
 intro i h
 unfold cW
 repeat rw[if_neg (by omega)]
end Go.X.Sg

namespace Go.X.Sp
open Go Go.X
structure SS where
 here:Int→Bool
 par:Int→Int
 bV:Int→Int→Int
 loc:Int→Int
structure Nx where
 p:Int
 f:Int→Int
def sP(k:Int):Int→Int:=fun q=>if 0≤q∧q<k then-1 else 0
theorem xq(k:Int)(h:0≤k):aa (sP k) k (-1)=sP (k+1):=by
 funext q
 simp only[aa,sP]
 by_cases h1:q=k
 ·subst h1
  rw[if_pos rfl,if_pos (by omega)]
 ·rw[if_neg h1]
  by_cases h2:0≤q∧q<k
  ·rw[if_pos h2,if_pos (by omega)]
  ·rw[if_neg h2,if_neg (by omega)]
def C5(p:Int):Array Value:= #[.bool true,.int .i64 p,.int .i64 (-1),.int .i64 (-1),.int .i64 (-1),.int .i64 (-1),.int .i64 (-1),.int .i64 (-1),.int .i64 (-1),.int .i64 (-1),.int .i64 (-1),.int .i64 (-1),.int .i64 (-1),.int .i64 (-1),.int .i64 (-1),.int .i64 (-1),.int .i64 (-1),.int .i64 (-1),.int .i64 (-1),.int .i64 (-1),.int .i64 (-1),.int .i64 (-1),.int .i64 (-1)]
def SS.is(s:SS)(n:Int):Int:=if n<0∨6≤n then 1 else if s.here n then 0 else 2
def SS.eG(s:SS):Nat→Int→List Int
 | 0,_=>[]
 | k+1,n=>n::s.eG k (s.par n)
structure SS.Deep (s:SS) (dep:Int→Nat):Prop where
 d:∀ n,0≤n→n<6→s.here n=true→1≤dep n∧dep n≤4∧((s.par n= -1∧dep n=1)∨(0≤s.par n∧s.par n<6∧s.here (s.par n)=true∧dep n=dep (s.par n)+1))
def SS.cg(s:SS)(dep:Int→Nat)(n:Int):List Int:=s.eG (dep n) n
theorem SS.jj(s:SS):∀ (k:Nat) (n:Int),(s.eG k n).length=k
 | 0,_=>rfl
 | k+1,n=>by simp only[SS.eG,List.length_cons,s.jj k]
def cv(f:Int→Int):Nat→List Int
 | 0=>[]
 | k+1=>cv f k++(if f k≥0 then [f k]else [])
def SS.members(s:SS)(n:Int):List Int:=cv (s.bV n) 21
theorem ie(f:Int→Int):∀ k,(cv f k).length≤k
 | 0=>by simp[cv]
 | k+1=>by
  have:=ie f k
  simp only[cv,List.length_append]
  split<;>simp<;>omega
def eN(f:Int→Bool):Nat→List Int
 | 0=>[]
 | k+1=>eN f k++(if f k then [(k:Int)]else [])
theorem fS(f:Int→Bool):∀ k,(eN f k).length≤k
 | 0=>by simp[eN]
 | k+1=>by
  have:=fS f k
  simp only[eN,List.length_append]
  split<;>simp<;>omega
def SS.bU(s:SS)(p:Int):Int×Int:=if p<0∨20≤p then(0,1)else if s.loc p<0 then(0,2)else(s.loc p,0)
def SS.add(s:SS)(dep:Int→Nat)(p:Int):Int×Int×SS:=
 if s.is p≠0 then(0,s.is p,s)else if dep p=4 then(0,7,s)else
 match b6 (fun k=> !s.here k) 6 with
 | some k=>(k,0,{s with here:=aa s.here k true,par:=aa s.par k p})
 | none=>(0,4,s)
def SS.kids(s:SS)(n:Int):Option Nat:=b6 (fun k=>s.here k&&(s.par k==n)) 6
def SS.drop(s:SS)(n:Int):Int×SS:=
 if s.is n≠0 then(s.is n,s)else if n=0∨(s.members n).length>0 then(5,s)else
 match s.kids n with
 | some _=>(5,s)
 | none=>(0,{s with here:=aa s.here n false,par:=aa s.par n 0})
def SS.zero:SS:=⟨fun _=>false,fun _=>0,fun _ _=> -1,fun _=>0⟩
def SS.root:SS:= {SS.zero with here:=aa SS.zero.here 0 true,par:=aa SS.zero.par 0 (-1)}
def SS.init:SS:= {SS.root with loc:=sP 20}
def uW(w:Int→Int→Int)(a p:Int):Int→Int→Int:=match b6 (fun q=>decide (w a (q+1)<0)) 20 with
 | some q=>aI w a ((q:Int)+1) p
 | none=>w
def fv(w:Int→Int→Int)(p:Int):List Int→(Int→Int→Int)
 | []=>w
 | a::r=>fv (uW w a p) p r
def SS.mem(s:SS)(n:Int):List Int×Int:=if s.is n≠0 then([],s.is n)else(s.members n,0)
def SS.pid(s:SS)(p n:Int):Int×Int:=if s.is n≠0 then(0,s.is n)else if p<0∨20≤p then(0,1)else
 match b6 (fun q=>s.bV n q==p) 21 with
 | some q=>(q,0)
 | none=>(0,2)
def SS.cV(s:SS)(dep:Int→Nat)(n p:Int):SS:= {s with loc:=aa s.loc p n,bV:=fv s.bV p (s.cg dep n)}
def SS.enter(s:SS)(dep:Int→Nat)(n p:Int):Int×Int×SS:=
 if s.is n≠0 then(0,s.is n,s)else if p<0∨20≤p then(0,1,s)else if 0≤s.loc p then(0,3,s)else
 (((s.cV dep n p).pid p n).1,((s.cV dep n p).pid p n).2,s.cV dep n p)
def SS.left(s:SS)(p:Int):SS:= {s with bV:=fun n q=>if s.bV n q=p then-1 else s.bV n q,loc:=aa s.loc p (-1)}
def SS.leave(s:SS)(p:Int):Int×SS:=if(s.bU p).2≠0 then((s.bU p).2,s)else(0,s.left p)
def SS.find(s:SS)(n q:Int):Int×Int:=if s.is n≠0 then(0,s.is n)else if q<1∨20<q then(0,2)else if s.bV n q<0 then(0,2)else(s.bV n q,0)
def aB(s:SS)(i:Nat):Value:=
 if i%23=0∧i/23<6 then .bool (s.here ((i/23:Nat):Int))else
 if 1≤i∧(i-1)%23=0∧(i-1)/23<6 then .int .i64 (s.par (((i-1)/23:Nat):Int))else
 if 2≤i∧(i-2)/23<6∧((i-2)%23)%1=0∧((i-2)%23)/1<21 then .int .i64 (if s.here (((i-2)/23:Nat):Int)then s.bV (((i-2)/23:Nat):Int) ((((i-2)%23)/1:Nat):Int)else 0)else
 if 138≤i∧(i-138)%1=0∧(i-138)/1<20 then .int .i64 (s.loc (((i-138)/1:Nat):Int))else
 undef
theorem aB.gZ(s:SS)(z0:Int)(q0:0≤z0∧z0<6):(((0+0)+z0.toNat*23)+0)<158∧aB s (((0+0)+z0.toNat*23)+0)= .bool (s.here z0):=by
 refine⟨by omega,?_⟩
 unfold aB
 rw[if_pos (by omega)]
 rw[show(((((0+0)+z0.toNat*23)+0)/23:Nat):Int)=z0 from by omega]
theorem aB.jy(s:SS)(z0:Int)(q0:0≤z0∧z0<6):(((0+0)+z0.toNat*23)+1)<158∧aB s (((0+0)+z0.toNat*23)+1)= .int .i64 (s.par z0):=by
 refine⟨by omega,?_⟩
 unfold aB
 rw[if_neg (by omega)]
 rw[if_pos (by omega)]
 rw[show((((((0+0)+z0.toNat*23)+1)-1)/23:Nat):Int)=z0 from by omega]
theorem aB.ky(s:SS)(z0:Int)(z1:Int)(q0:0≤z0∧z0<6)(q1:0≤z1∧z1<21):((((0+0)+z0.toNat*23)+2)+z1.toNat*1)<158∧aB s ((((0+0)+z0.toNat*23)+2)+z1.toNat*1)= .int .i64 (if s.here z0 then s.bV z0 z1 else 0):=by
 refine⟨by omega,?_⟩
 unfold aB
 rw[if_neg (by omega)]
 rw[if_neg (by omega)]
 rw[if_pos (by omega)]
 rw[show(((((((0+0)+z0.toNat*23)+2)+z1.toNat*1)-2)/23:Nat):Int)=z0 from by omega]
 rw[show((((((((0+0)+z0.toNat*23)+2)+z1.toNat*1)-2)%23)/1:Nat):Int)=z1 from by omega]
theorem aB.gM(s:SS)(z0:Int)(z1:Int)(q0:0≤z0∧z0<6)(q1:0≤z1∧z1<21)(hc:s.here z0=true):((((0+0)+z0.toNat*23)+2)+z1.toNat*1)<158∧aB s ((((0+0)+z0.toNat*23)+2)+z1.toNat*1)= .int .i64 (s.bV z0 z1):=by
 refine⟨by omega,?_⟩
 rw[(aB.ky s z0 z1 q0 q1).2]
 simp only[hc,if_true]
theorem aB.nO(s:SS)(z0:Int)(z1:Int)(q0:0≤z0∧z0<6)(q1:0≤z1∧z1<21)(hc:s.here z0=true)(v:Int):((((0+0)+z0.toNat*23)+2)+z1.toNat*1)<158∧cH (aB s) ((((0+0)+z0.toNat*23)+2)+z1.toNat*1) (.int .i64 (v))=aB ({s with bV:=aI s.bV z0 z1 v}):=by
 refine⟨by omega,?_⟩
 funext j
 unfold cH
 by_cases hj:j=((((0+0)+z0.toNat*23)+2)+z1.toNat*1)
 ·rw[if_pos hj,hj,(aB.ky ({s with bV:=aI s.bV z0 z1 v}) z0 z1 q0 q1).2]
  all_goals simp[aa,aI,hc]
 ·rw[if_neg hj]
  unfold aB
  refine ao (fun c0=> ?_) (fun c0=> ?_)
  ·first | rfl | simp[aa,aI]
  refine ao (fun c1=> ?_) (fun c1=> ?_)
  ·first | rfl | simp[aa,aI]
  refine ao (fun c2=> ?_) (fun c2=> ?_)
  ·have hne:¬((((j-2)/23:Nat):Int)=z0∧((((j-2)%23)/1:Nat):Int)=z1):=by omega
   simp only[aa,aI,hne,if_false,and_true,true_and]
  refine ao (fun c3=> ?_) (fun c3=> ?_)
  ·first | rfl | simp[aa,aI]
  rfl
theorem aB.qf(s:SS)(z0:Int)(q0:0≤z0∧z0<20):((0+138)+z0.toNat*1)<158∧aB s ((0+138)+z0.toNat*1)= .int .i64 (s.loc z0):=by
 refine⟨by omega,?_⟩
 unfold aB
 rw[if_neg (by omega)]
 rw[if_neg (by omega)]
 rw[if_neg (by omega)]
 rw[if_pos (by omega)]
 rw[show(((((0+138)+z0.toNat*1)-138)/1:Nat):Int)=z0 from by omega]
theorem aB.vq(s:SS)(z0:Int)(q0:0≤z0∧z0<20)(v:Int):((0+138)+z0.toNat*1)<158∧cH (aB s) ((0+138)+z0.toNat*1) (.int .i64 (v))=aB ({s with loc:=aa s.loc z0 v}):=by
 refine⟨by omega,?_⟩
 funext j
 unfold cH
 by_cases hj:j=((0+138)+z0.toNat*1)
 ·rw[if_pos hj,hj,(aB.qf ({s with loc:=aa s.loc z0 v}) z0 q0).2]
  all_goals simp[aa,aI]
 ·rw[if_neg hj]
  unfold aB
  refine ao (fun c0=> ?_) (fun c0=> ?_)
  ·first | rfl | simp[aa,aI]
  refine ao (fun c1=> ?_) (fun c1=> ?_)
  ·first | rfl | simp[aa,aI]
  refine ao (fun c2=> ?_) (fun c2=> ?_)
  ·first | rfl | simp[aa,aI]
  refine ao (fun c3=> ?_) (fun c3=> ?_)
  ·have hne:¬((((j-138)/1:Nat):Int)=z0):=by omega
   simp only[aa,aI,hne,if_false,and_true,true_and]
  rfl
def im(s:Nx)(i:Nat):Value:=
 if i=0 then .bool (true)else
 if i=1 then .int .i64 (s.p)else
 if 2≤i∧(i-2)%1=0∧(i-2)/1<21 then .int .i64 (s.f (((i-2)/1:Nat):Int))else
 undef
theorem im.DO(s:Nx)(z0:Int)(q0:0≤z0∧z0<21):((0+2)+z0.toNat*1)<23∧im s ((0+2)+z0.toNat*1)= .int .i64 (s.f z0):=by
 refine⟨by omega,?_⟩
 unfold im
 rw[if_neg (by omega)]
 rw[if_neg (by omega)]
 rw[if_pos (by omega)]
 rw[show(((((0+2)+z0.toNat*1)-2)/1:Nat):Int)=z0 from by omega]
theorem im.EU(s:Nx)(z0:Int)(q0:0≤z0∧z0<21)(v:Int):((0+2)+z0.toNat*1)<23∧cH (im s) ((0+2)+z0.toNat*1) (.int .i64 (v))=im ({s with f:=aa s.f z0 v}):=by
 refine⟨by omega,?_⟩
 funext j
 unfold cH
 by_cases hj:j=((0+2)+z0.toNat*1)
 ·rw[if_pos hj,hj,(im.DO ({s with f:=aa s.f z0 v}) z0 q0).2]
  all_goals simp[aa,aI]
 ·rw[if_neg hj]
  unfold im
  refine ao (fun c0=> ?_) (fun c0=> ?_)
  ·first | rfl | simp[aa,aI]
  refine ao (fun c1=> ?_) (fun c1=> ?_)
  ·first | rfl | simp[aa,aI]
  refine ao (fun c2=> ?_) (fun c2=> ?_)
  ·have hne:¬((((j-2)/1:Nat):Int)=z0):=by omega
   simp only[aa,aI,hne,if_false,and_true,true_and]
  rfl
def jE:Array Value:= #[.bool false,.int .i64 0,.int .i64 0,.int .i64 0,.int .i64 0,.int .i64 0,.int .i64 0,.int .i64 0,.int .i64 0,.int .i64 0,.int .i64 0,.int .i64 0,.int .i64 0,.int .i64 0,.int .i64 0,.int .i64 0,.int .i64 0,.int .i64 0,.int .i64 0,.int .i64 0,.int .i64 0,.int .i64 0,.int .i64 0]
theorem SS.db(s:SS)(n:Int):(s.is n=0∧0≤n∧n<6∧s.here n=true)∨(s.is n=1∧(n<0∨6≤n))∨(s.is n=2∧0≤n∧n<6∧s.here n=false):=by
 unfold SS.is;split
 ·exact .inr (.inl ⟨rfl,by assumption⟩)
 ·split
  ·exact .inl ⟨rfl,by omega,by omega,by assumption⟩
  ·exact .inr (.inr ⟨rfl,by omega,by omega,by simp_all⟩)
theorem FZ(p:Int):0+23≤23∧bW (im ⟨p,sP 21⟩) 0 23= .agg (C5 p):=⟨by omega,rfl⟩
theorem Ft(s:Nx):∀ i,23≤i→im s i=undef:=by
 intro i h
 unfold im
 repeat rw[if_neg (by omega)]
theorem Ap(C:Nat→Value):∀ (vs:List Value) (o i:Nat),i<o→bL C o vs i=C i:=by
 intro vs
 induction vs generalizing C with
 | nil=>intro o i _;rfl
 | cons v r ih=>
  intro o i h
  rw[bL,ih _ _ _ (by omega)]
  simp[cH];omega
theorem va(C:Nat→Value):∀ (vs:List Value) (o i:Nat),o+vs.length≤i→bL C o vs i=C i:=by
 intro vs
 induction vs generalizing C with
 | nil=>intro o i _;rfl
 | cons v r ih=>
  intro o i h
  simp only[List.length_cons]at h
  rw[bL,ih _ _ _ (by omega)]
  simp[cH];omega
theorem AS(C:Nat→Value):∀ (vs:List Value) (o j:Nat) (v:Value),vs[j]? =some v→bL C o vs (o+j)=v:=by
 intro vs
 induction vs generalizing C with
 | nil=>intro o j v h;simp at h
 | cons u r ih=>
  intro o j v h
  cases j with
  | zero=>
   simp at h
   rw[bL,Ap _ _ _ _ (by omega)]
   simp[cH,h]
  | succ j=>
   simp at h
   rw[bL,show o+(j+1)=o+1+j from by omega]
   exact ih _ _ _ _ h
theorem KY(C:Nat→Value)(hC:∀ i,23≤i→C i=undef)(p:Int):0+23≤23∧bL C 0 (C5 p).toList=im ⟨p,sP 21⟩:=by
 refine⟨by omega,?_⟩
 funext i
 by_cases h:i<23
 ·have e:(C5 p).toList[i]? =some (im ⟨p,sP 21⟩ i):=by
   have:i=0∨i=1∨i=2∨i=3∨i=4∨i=5∨i=6∨i=7∨i=8∨i=9∨i=10∨i=11∨i=12∨i=13∨i=14∨i=15∨i=16∨i=17∨i=18∨i=19∨i=20∨i=21∨i=22:=by omega
   rcases this with rfl | rfl | rfl | rfl | rfl | rfl | rfl | rfl | rfl | rfl | rfl | rfl | rfl | rfl | rfl | rfl | rfl | rfl | rfl | rfl | rfl | rfl | rfl<;>rfl
  have:=AS C (C5 p).toList 0 i _ e
  rwa[Nat.zero_add]at this
 ·rw[va _ _ _ _ (by show 0+23≤i;omega),hC i (by omega),Ft _ i (by omega)]
theorem Dl(p:Int)(C:Nat→Value)(hC:∀ i,23≤i→C i=undef):0+23≤23∧bL C 0 [.bool true,.int .i64 p,.int .i64 0,.int .i64 0,.int .i64 0,.int .i64 0,.int .i64 0,.int .i64 0,.int .i64 0,.int .i64 0,.int .i64 0,.int .i64 0,.int .i64 0,.int .i64 0,.int .i64 0,.int .i64 0,.int .i64 0,.int .i64 0,.int .i64 0,.int .i64 0,.int .i64 0,.int .i64 0,.int .i64 0]=im ⟨p,sP 0⟩:=by
 refine⟨by omega,?_⟩
 funext i
 by_cases h:i<23
 ·have:i=0∨i=1∨i=2∨i=3∨i=4∨i=5∨i=6∨i=7∨i=8∨i=9∨i=10∨i=11∨i=12∨i=13∨i=14∨i=15∨i=16∨i=17∨i=18∨i=19∨i=20∨i=21∨i=22:=by omega
  rcases this with rfl | rfl | rfl | rfl | rfl | rfl | rfl | rfl | rfl | rfl | rfl | rfl | rfl | rfl | rfl | rfl | rfl | rfl | rfl | rfl | rfl | rfl | rfl<;>rfl
 ·rw[va _ _ _ _ (by show 0+23≤i;omega),hC i (by omega),Ft _ i (by omega)]
theorem vK:∀ i,23≤i→cellsOf jE i=undef:=by
 intro i h
 have:jE.size=23:=rfl
 have h2:jE[i]? =none:=Array.getElem?_eq_none (by omega)
 simp[cellsOf,h2]
theorem sx(s:SS)(n:Int)(q:0≤n∧n<6)(hc:s.here n=true):(((0+0)+n.toNat*23)+2)+21≤158∧bW (aB s) (((0+0)+n.toNat*23)+2) 21= .agg (oX (s.bV n) 21):=by
 refine⟨by omega,?_⟩
 unfold bW oX
 congr 2
 apply List.map_congr_left
 intro j hj
 have hj2:j<21:=by simpa using hj
 have:=(aB.gM s n (j:Int) q (by omega) hc).2
 simpa using this
theorem sG(f:Int→Int)(k:Nat):(f k≥0→cv f (k+1)=cv f k++[f k])∧(¬f k≥0→cv f (k+1)=cv f k):=by
 refine⟨fun h=>by simp[cv,h],fun h=>by simp[cv,h]⟩
theorem sQ(f:Int→Int){k:Int}(h:0≤k):(f k≥0→cv f (k+1).toNat=cv f k.toNat++[f k])∧(¬f k≥0→cv f (k+1).toNat=cv f k.toNat):=by
 have:=sG f k.toNat
 rw[show((k.toNat:Nat):Int)=k from by omega]at this
 rw[show(k+1).toNat=k.toNat+1 from by omega]
 exact this
theorem SS.jX{s:SS}{p n q:Int}(hi:s.is n=0)(hp:¬(p<0∨20≤p))(hq:0≤q∧q<21)(h:s.bV n q=p)(hn:∀ j:Int,0≤j→j<q→s.bV n j≠p):s.pid p n=(q,0):=by
 unfold SS.pid
 rw[if_neg (by simp[hi]),if_neg hp,cP (k:=q) hq.1 (by omega) (by simpa using h) (fun j h1 h2=>by simpa using hn j h1 h2)]
 simp only[]
 rw[show((q.toNat:Nat):Int)=q from by omega]
theorem SS.ll{s:SS}{p n:Int}(hi:s.is n=0)(hp:¬(p<0∨20≤p))(hn:∀ j:Int,0≤j→j<21→s.bV n j≠p):s.pid p n=(0,2):=by
 unfold SS.pid
 rw[if_neg (by simp[hi]),if_neg hp,cC (fun j h1 h2=>by simpa using hn j h1 (by omega))]
theorem SS.nR{s:SS}{p n:Int}(h:s.is n≠0):s.pid p n=(0,s.is n):=by unfold SS.pid;rw[if_pos h]
theorem SS.jT{s:SS}{p n:Int}(h:s.is n=0)(hp:p<0∨20≤p):s.pid p n=(0,1):=by unfold SS.pid;rw[if_neg (by simp[h]),if_pos hp]
theorem SS.ln{s:SS}{n q:Int}(h:s.is n≠0):s.find n q=(0,s.is n):=by unfold SS.find;rw[if_pos h]
theorem SS.ke{s:SS}{n q:Int}(h:s.is n=0)(hq:q<1∨20<q∨s.bV n q<0):s.find n q=(0,2):=by
 unfold SS.find;rw[if_neg (by simp[h])]
 by_cases h1:q<1∨20<q
 ·rw[if_pos h1]
 ·rw[if_neg h1,if_pos (by omega)]
theorem SS.nI{s:SS}{n q:Int}(h:s.is n=0)(hq:¬(q<1∨20<q))(hw:¬s.bV n q<0):s.find n q=(s.bV n q,0):=by
 unfold SS.find;rw[if_neg (by simp[h]),if_neg hq,if_neg hw]
theorem SS.lq{s:SS}{p:Int}(h:p<0∨20≤p):s.bU p=(0,1):=by unfold SS.bU;rw[if_pos h]
theorem SS.p8{s:SS}{p:Int}(h:¬(p<0∨20≤p))(h2:s.loc p<0):s.bU p=(0,2):=by unfold SS.bU;rw[if_neg h,if_pos h2]
theorem SS.zP{s:SS}{p:Int}(h:¬(p<0∨20≤p))(h2:¬s.loc p<0):s.bU p=(s.loc p,0):=by unfold SS.bU;rw[if_neg h,if_neg h2]
theorem SS.Iw{s:SS}{dep:Int→Nat}{n:Int}(hD:s.Deep dep)(h:0≤n∧n<6∧s.here n=true)(hp:s.par n= -1):s.eG (dep n) n=[n]:=by
 obtain⟨h1,_,h3⟩:=hD.d n h.1 h.2.1 h.2.2
 rcases h3 with⟨_,h4⟩ | ⟨h4,_⟩
 ·rw[h4];rfl
 ·omega
theorem SS.xo{s:SS}{dep:Int→Nat}{n:Int}(hD:s.Deep dep)(h:0≤n∧n<6∧s.here n=true)(hp:¬s.par n= -1):s.eG (dep n) n=n::s.eG (dep (s.par n)) (s.par n)∧0≤s.par n∧s.par n<6∧s.here (s.par n)=true∧dep (s.par n)<dep n:=by
 obtain⟨h1,_,h3⟩:=hD.d n h.1 h.2.1 h.2.2
 rcases h3 with⟨h4,_⟩ | ⟨h4,h5,h6,h7⟩
 ·exact absurd h4 hp
 ·exact⟨by rw[h7];rfl,h4,h5,h6,by omega⟩
theorem SS.p6(s:SS)(dep:Int→Nat)(n:Int):(s.cg dep n).length=dep n:=s.jj _ _
theorem SS.I2{s:SS}{dep:Int→Nat}{p:Int}(h:s.is p≠0):s.add dep p=(0,s.is p,s):=by unfold SS.add;rw[if_pos h]
theorem SS.DK{s:SS}{dep:Int→Nat}{p:Int}(h:s.is p=0)(h2:dep p=4):s.add dep p=(0,7,s):=by unfold SS.add;rw[if_neg (by simp[h]),if_pos h2]
theorem SS.Fq{s:SS}{dep:Int→Nat}{p k:Int}(h:s.is p=0)(h2:¬dep p=4)(hk:0≤k∧k<6)(hh:s.here k=false)(hn:∀ j:Int,0≤j→j<k→s.here j=true):s.add dep p=(k,0,{s with here:=aa s.here k true,par:=aa s.par k p}):=by
 unfold SS.add
 rw[if_neg (by simp[h]),if_neg h2,cP (k:=k) hk.1 (by omega) (by simp[hh]) (fun j h1 h2=>by simp[hn j h1 h2])]
 simp only[]
 rw[show((k.toNat:Nat):Int)=k from by omega]
theorem SS.Ew{s:SS}{dep:Int→Nat}{p:Int}(h:s.is p=0)(h2:¬dep p=4)(hn:∀ j:Int,0≤j→j<6→s.here j=true):s.add dep p=(0,4,s):=by
 unfold SS.add
 rw[if_neg (by simp[h]),if_neg h2,cC (fun j h1 h2=>by simp[hn j h1 (by omega)])]
theorem SS.Fu{s:SS}{n:Int}(h:s.is n≠0):s.drop n=(s.is n,s):=by unfold SS.drop;rw[if_pos h]
theorem SS.sX{s:SS}{n:Int}(h:s.is n=0)(h2:n=0∨(s.members n).length>0):s.drop n=(5,s):=by unfold SS.drop;rw[if_neg (by simp[h]),if_pos h2]
theorem SS.FX{s:SS}{n k:Int}(h:s.is n=0)(h2:¬(n=0∨(s.members n).length>0))(hk:0≤k∧k<6)(hh:s.here k=true)(hp:s.par k=n)(hn:∀ j:Int,0≤j→j<k→¬(s.here j=true∧s.par j=n)):s.drop n=(5,s):=by
 unfold SS.drop SS.kids
 rw[if_neg (by simp[h]),if_neg h2,cP (k:=k) hk.1 (by omega) (by simp[hh,hp]) (fun j h1 h2=>by have:=hn j h1 h2;simp only[not_and]at this;cases q:s.here j<;>simp;exact this q)]
theorem SS.Hl{s:SS}{n:Int}(h:s.is n=0)(h2:¬(n=0∨(s.members n).length>0))(hn:∀ j:Int,0≤j→j<6→¬(s.here j=true∧s.par j=n)):s.drop n=(0,{s with here:=aa s.here n false,par:=aa s.par n 0}):=by
 unfold SS.drop SS.kids
 rw[if_neg (by simp[h]),if_neg h2,cC (fun j h1 h2=>by have:=hn j h1 (by omega);simp only[not_and]at this;cases q:s.here j<;>simp;exact this q)]
theorem o7(f:Int→Bool){k:Int}(h:0≤k):(f k=true→eN f (k+1).toNat=eN f k.toNat++[k])∧(f k=false→eN f (k+1).toNat=eN f k.toNat):=by
 have e:((k.toNat:Nat):Int)=k:=by omega
 rw[show(k+1).toNat=k.toNat+1 from by omega]
 refine⟨fun q=> ?_,fun q=> ?_⟩<;>simp[eN,e,q]
theorem w7(s s':SS)(k:Int)(q:0≤k∧k<6)(vs:List Value)(hl:vs.length=23)(h0:vs[0]? =some (.bool (s'.here k)))(h1:vs[1]? =some (.int .i64 (s'.par k)))(h2:∀ j:Nat,j<21→vs[j+2]? =some (.int .i64 (if s'.here k then s'.bV k j else 0)))(hh:∀ n,¬n=k→s'.here n=s.here n)(hp:∀ n,¬n=k→s'.par n=s.par n)(hw:s'.bV=s.bV)(ho:s'.loc=s.loc):0+0+k.toNat*23+23≤158∧bL (aB s) (0+0+k.toNat*23) vs=aB s':=by
 refine⟨by omega,?_⟩
 funext i
 by_cases ha:i<0+0+k.toNat*23
 ·rw[Ap _ _ _ _ ha]
  unfold aB
  refine ao (fun c=>by rw[hh _ (by omega)]) (fun _=>ao (fun c=>by rw[hp _ (by omega)]) (fun _=>ao (fun c=>by rw[hh _ (by omega),hw]) (fun _=>by rw[ho])))
 ·by_cases hb:i<0+0+k.toNat*23+23
  ·obtain⟨j,rfl⟩:∃ j,i=0+0+k.toNat*23+j:=⟨i-(0+0+k.toNat*23),by omega⟩
   have hj:j<23:=by omega
   refine AS _ _ _ _ _ ?_
   by_cases j0:j=0
   ·subst j0;rw[h0];exact congrArg some (aB.gZ s' k q).2.symm
   ·by_cases j1:j=1
    ·subst j1;rw[h1];exact congrArg some (aB.jy s' k q).2.symm
    ·have h3:=(aB.ky s' k ((j-2:Nat):Int) q (by omega)).2
     have h4:=h2 (j-2) (by omega)
     rw[show j-2+2=j from by omega]at h4
     rw[h4,←h3]
     congr 2
     omega
  ·rw[va _ _ _ _ (by omega)]
   unfold aB
   refine ao (fun c=>by rw[hh _ (by omega)]) (fun _=>ao (fun c=>by rw[hp _ (by omega)]) (fun _=>ao (fun c=>by rw[hh _ (by omega),hw]) (fun _=>by rw[ho])))
theorem qE(s:SS)(k p:Int)(q:0≤k∧k<6)(hw:∀ j,s.bV k j= -1):0+0+k.toNat*23+23≤158∧bL (aB s) (0+0+k.toNat*23) (C5 p).toList=aB {s with here:=aa s.here k true,par:=aa s.par k p} :=by
 refine w7 s _ k q _ rfl (by simp[aa];rfl) (by simp[aa];rfl) (fun j hj=> ?_) (fun n hn=>by simp[aa,hn]) (fun n hn=>by simp[aa,hn]) rfl rfl
 simp only[aa,if_true,hw]
 have:j=0∨j=1∨j=2∨j=3∨j=4∨j=5∨j=6∨j=7∨j=8∨j=9∨j=10∨j=11∨j=12∨j=13∨j=14∨j=15∨j=16∨j=17∨j=18∨j=19∨j=20:=by omega
 rcases this with rfl | rfl | rfl | rfl | rfl | rfl | rfl | rfl | rfl | rfl | rfl | rfl | rfl | rfl | rfl | rfl | rfl | rfl | rfl | rfl | rfl<;>rfl
theorem zy(s:SS)(k:Int)(q:0≤k∧k<6):0+0+k.toNat*23+23≤158∧bL (aB s) (0+0+k.toNat*23) jE.toList=aB {s with here:=aa s.here k false,par:=aa s.par k 0} :=by
 refine w7 s _ k q _ rfl (by simp[aa];rfl) (by simp[aa];rfl) (fun j hj=> ?_) (fun n hn=>by simp[aa,hn]) (fun n hn=>by simp[aa,hn]) rfl rfl
 simp only[aa,if_true]
 have:j=0∨j=1∨j=2∨j=3∨j=4∨j=5∨j=6∨j=7∨j=8∨j=9∨j=10∨j=11∨j=12∨j=13∨j=14∨j=15∨j=16∨j=17∨j=18∨j=19∨j=20:=by omega
 rcases this with rfl | rfl | rfl | rfl | rfl | rfl | rfl | rfl | rfl | rfl | rfl | rfl | rfl | rfl | rfl | rfl | rfl | rfl | rfl | rfl | rfl<;>rfl
def JO:Array Value:= #[.bool false,.int .i64 0,.int .i64 0,.int .i64 0,.int .i64 0,.int .i64 0,.int .i64 0,.int .i64 0,.int .i64 0,.int .i64 0,.int .i64 0,.int .i64 0,.int .i64 0,.int .i64 0,.int .i64 0,.int .i64 0,.int .i64 0,.int .i64 0,.int .i64 0,.int .i64 0,.int .i64 0,.int .i64 0,.int .i64 0,.bool false,.int .i64 0,.int .i64 0,.int .i64 0,.int .i64 0,.int .i64 0,.int .i64 0,.int .i64 0,.int .i64 0,.int .i64 0,.int .i64 0,.int .i64 0,.int .i64 0,.int .i64 0,.int .i64 0,.int .i64 0,.int .i64 0,.int .i64 0,.int .i64 0,.int .i64 0,.int .i64 0,.int .i64 0,.int .i64 0,.bool false,.int .i64 0,.int .i64 0,.int .i64 0,.int .i64 0,.int .i64 0,.int .i64 0,.int .i64 0,.int .i64 0,.int .i64 0,.int .i64 0,.int .i64 0,.int .i64 0,.int .i64 0,.int .i64 0,.int .i64 0,.int .i64 0,.int .i64 0,.int .i64 0,.int .i64 0,.int .i64 0,.int .i64 0,.int .i64 0,.bool false,.int .i64 0,.int .i64 0,.int .i64 0,.int .i64 0,.int .i64 0,.int .i64 0,.int .i64 0,.int .i64 0,.int .i64 0,.int .i64 0,.int .i64 0,.int .i64 0,.int .i64 0,.int .i64 0,.int .i64 0,.int .i64 0,.int .i64 0,.int .i64 0,.int .i64 0,.int .i64 0,.int .i64 0,.int .i64 0,.bool false,.int .i64 0,.int .i64 0,.int .i64 0,.int .i64 0,.int .i64 0,.int .i64 0,.int .i64 0,.int .i64 0,.int .i64 0,.int .i64 0,.int .i64 0,.int .i64 0,.int .i64 0,.int .i64 0,.int .i64 0,.int .i64 0,.int .i64 0,.int .i64 0,.int .i64 0,.int .i64 0,.int .i64 0,.int .i64 0,.bool false,.int .i64 0,.int .i64 0,.int .i64 0,.int .i64 0,.int .i64 0,.int .i64 0,.int .i64 0,.int .i64 0,.int .i64 0,.int .i64 0,.int .i64 0,.int .i64 0,.int .i64 0,.int .i64 0,.int .i64 0,.int .i64 0,.int .i64 0,.int .i64 0,.int .i64 0,.int .i64 0,.int .i64 0,.int .i64 0,.int .i64 0,.int .i64 0,.int .i64 0,.int .i64 0,.int .i64 0,.int .i64 0,.int .i64 0,.int .i64 0,.int .i64 0,.int .i64 0,.int .i64 0,.int .i64 0,.int .i64 0,.int .i64 0,.int .i64 0,.int .i64 0,.int .i64 0,.int .i64 0,.int .i64 0,.int .i64 0]
set_option maxRecDepth 20000 in theorem Ck:∀ i,i<158→cellsOf JO i=aB SS.zero i:=fun i hi=>match i,hi with
 | 0,_=>rfl
 | 1,_=>rfl
 | 2,_=>rfl
 | 3,_=>rfl
 | 4,_=>rfl
 | 5,_=>rfl
 | 6,_=>rfl
 | 7,_=>rfl
 | 8,_=>rfl
 | 9,_=>rfl
 | 10,_=>rfl
 | 11,_=>rfl
 | 12,_=>rfl
 | 13,_=>rfl
 | 14,_=>rfl
 | 15,_=>rfl
 | 16,_=>rfl
 | 17,_=>rfl
 | 18,_=>rfl
 | 19,_=>rfl
 | 20,_=>rfl
 | 21,_=>rfl
 | 22,_=>rfl
 | 23,_=>rfl
 | 24,_=>rfl
 | 25,_=>rfl
 | 26,_=>rfl
 | 27,_=>rfl
 | 28,_=>rfl
 | 29,_=>rfl
 | 30,_=>rfl
 | 31,_=>rfl
 | 32,_=>rfl
 | 33,_=>rfl
 | 34,_=>rfl
 | 35,_=>rfl
 | 36,_=>rfl
 | 37,_=>rfl
 | 38,_=>rfl
 | 39,_=>rfl
 | 40,_=>rfl
 | 41,_=>rfl
 | 42,_=>rfl
 | 43,_=>rfl
 | 44,_=>rfl
 | 45,_=>rfl
 | 46,_=>rfl
 | 47,_=>rfl
 | 48,_=>rfl
 | 49,_=>rfl
 | 50,_=>rfl
 | 51,_=>rfl
 | 52,_=>rfl
 | 53,_=>rfl
 | 54,_=>rfl
 | 55,_=>rfl
 | 56,_=>rfl
 | 57,_=>rfl
 | 58,_=>rfl
 | 59,_=>rfl
 | 60,_=>rfl
 | 61,_=>rfl
 | 62,_=>rfl
 | 63,_=>rfl
 | 64,_=>rfl
 | 65,_=>rfl
 | 66,_=>rfl
 | 67,_=>rfl
 | 68,_=>rfl
 | 69,_=>rfl
 | 70,_=>rfl
 | 71,_=>rfl
 | 72,_=>rfl
 | 73,_=>rfl
 | 74,_=>rfl
 | 75,_=>rfl
 | 76,_=>rfl
 | 77,_=>rfl
 | 78,_=>rfl
 | 79,_=>rfl
 | 80,_=>rfl
 | 81,_=>rfl
 | 82,_=>rfl
 | 83,_=>rfl
 | 84,_=>rfl
 | 85,_=>rfl
 | 86,_=>rfl
 | 87,_=>rfl
 | 88,_=>rfl
 | 89,_=>rfl
 | 90,_=>rfl
 | 91,_=>rfl
 | 92,_=>rfl
 | 93,_=>rfl
 | 94,_=>rfl
 | 95,_=>rfl
 | 96,_=>rfl
 | 97,_=>rfl
 | 98,_=>rfl
 | 99,_=>rfl
 | 100,_=>rfl
 | 101,_=>rfl
 | 102,_=>rfl
 | 103,_=>rfl
 | 104,_=>rfl
 | 105,_=>rfl
 | 106,_=>rfl
 | 107,_=>rfl
 | 108,_=>rfl
 | 109,_=>rfl
 | 110,_=>rfl
 | 111,_=>rfl
 | 112,_=>rfl
 | 113,_=>rfl
 | 114,_=>rfl
 | 115,_=>rfl
 | 116,_=>rfl
 | 117,_=>rfl
 | 118,_=>rfl
 | 119,_=>rfl
 | 120,_=>rfl
 | 121,_=>rfl
 | 122,_=>rfl
 | 123,_=>rfl
 | 124,_=>rfl
 | 125,_=>rfl
 | 126,_=>rfl
 | 127,_=>rfl
 | 128,_=>rfl
 | 129,_=>rfl
 | 130,_=>rfl
 | 131,_=>rfl
 | 132,_=>rfl
 | 133,_=>rfl
 | 134,_=>rfl
 | 135,_=>rfl
 | 136,_=>rfl
 | 137,_=>rfl
 | 138,_=>rfl
 | 139,_=>rfl
 | 140,_=>rfl
 | 141,_=>rfl
 | 142,_=>rfl
 | 143,_=>rfl
 | 144,_=>rfl
 | 145,_=>rfl
 | 146,_=>rfl
 | 147,_=>rfl
 | 148,_=>rfl
 | 149,_=>rfl
 | 150,_=>rfl
 | 151,_=>rfl
 | 152,_=>rfl
 | 153,_=>rfl
 | 154,_=>rfl
 | 155,_=>rfl
 | 156,_=>rfl
 | 157,_=>rfl
 | k+158,h=>absurd h (by omega)
theorem FG:sP 0=fun _=>0:=by
 funext q;simp only[sP];rw[if_neg (by omega)]
theorem SS.iN{s s':SS}(h:s'.par=s.par):∀ (k:Nat) (n:Int),s'.eG k n=s.eG k n
 | 0,_=>rfl
 | k+1,n=>by simp only[SS.eG,h,SS.iN h k]
theorem SS.uD{s:SS}{dep:Int→Nat}(hD:s.Deep dep):∀ (k:Nat) (n:Int),dep n=k→0≤n→n<6→s.here n=true→∀ a∈s.eG k n,0≤a∧a<6∧s.here a=true
 | 0,n,hk,h0,h6,hh,a,ha=>by have:=(hD.d n h0 h6 hh).1;omega
 | k+1,n,hk,h0,h6,hh,a,ha=>by
  obtain⟨_,_,h3⟩:=hD.d n h0 h6 hh
  simp only[SS.eG,List.mem_cons]at ha
  rcases ha with rfl | ha
  ·exact⟨h0,h6,hh⟩
  ·rcases h3 with⟨_,h4⟩ | ⟨h4,h5,h6',h7⟩
   ·obtain rfl:k=0:=by omega
    simp[SS.eG]at ha
   ·exact SS.uD hD k _ (by omega) h4 h5 h6' a ha
theorem jo{zs:List Int}{z:Int}(h:0≤z∧z<zs.length):ep zs z∈zs:=by
 have h2:z.toNat<zs.length:=by omega
 simp[ep,List.getD,h2]
theorem SS.DH{s:SS}{dep:Int→Nat}(hD:s.Deep dep){n:Int}(h:0≤n∧n<6∧s.here n=true){z:Int}(hz:0≤z∧z<(s.cg dep n).length):0≤ep (s.cg dep n) z∧ep (s.cg dep n) z<6∧s.here (ep (s.cg dep n) z)=true:=
 SS.uD hD _ n rfl h.1 h.2.1 h.2.2 _ (jo hz)
theorem wu{zs:List Int}{z:Int}(h:0≤z∧z<zs.length):zs.drop z.toNat=ep zs z::zs.drop (z+1).toNat:=by
 have h2:z.toNat<zs.length:=by omega
 rw[List.drop_eq_getElem_cons h2,show(z+1).toNat=z.toNat+1 from by omega]
 simp[ep,List.getD,h2]
theorem Bu{w:Int→Int→Int}{a p k:Int}(hk:1≤k∧k≤20)(h:w a k<0)(hn:∀ j:Int,1≤j→j<k→¬w a j<0):uW w a p=aI w a k p:=by
 unfold uW
 rw[cP (k:=k-1) (by omega) (by omega) (by rw[show k-1+1=k from by omega];simpa using h) (fun j h1 h2=>by simpa using hn (j+1) (by omega) (by omega))]
 simp only[]
 rw[show(((k-1).toNat:Nat):Int)+1=k from by omega]
theorem Cd{w:Int→Int→Int}{a p:Int}(hn:∀ j:Int,1≤j→j<21→¬w a j<0):uW w a p=w:=by
 unfold uW
 rw[cC (fun j h1 h2=>by simpa using hn (j+1) (by omega) (by omega))]
theorem SS.tP{s:SS}{dep:Int→Nat}{n p:Int}(h:s.is n≠0):s.enter dep n p=(0,s.is n,s):=by unfold SS.enter;rw[if_pos h]
theorem SS.lh{s:SS}{dep:Int→Nat}{n p:Int}(h:s.is n=0)(h2:p<0∨20≤p):s.enter dep n p=(0,1,s):=by unfold SS.enter;rw[if_neg (by simp[h]),if_pos h2]
theorem SS.pA{s:SS}{dep:Int→Nat}{n p:Int}(h:s.is n=0)(h2:¬(p<0∨20≤p))(h3:0≤s.loc p):s.enter dep n p=(0,3,s):=by unfold SS.enter;rw[if_neg (by simp[h]),if_neg h2,if_pos h3]
theorem SS.nX{s:SS}{dep:Int→Nat}{n p:Int}(h:s.is n=0)(h2:¬(p<0∨20≤p))(h3:¬ 0≤s.loc p):s.enter dep n p=(((s.cV dep n p).pid p n).1,((s.cV dep n p).pid p n).2,s.cV dep n p):=by unfold SS.enter;rw[if_neg (by simp[h]),if_neg h2,if_neg h3]
def pN(w:Int→Int→Int)(a p k:Int):Int→Int→Int:=fun m q=>if m=a∧0≤q∧q<k∧w m q=p then-1 else w m q
theorem Bw(w:Int→Int→Int)(a p:Int):pN w a p 0=w:=by
 funext m q;unfold pN;rw[if_neg (by omega)]
theorem wY{w:Int→Int→Int}{a p k:Int}(hk:0≤k)(h:w a k=p):aI (pN w a p k) a k (-1)=pN w a p (k+1):=by
 funext m q
 unfold aI pN
 by_cases h1:m=a∧q=k
 ·obtain⟨rfl,rfl⟩:=h1
  rw[if_pos ⟨rfl,rfl⟩,if_pos ⟨rfl,hk,by omega,h⟩]
 ·rw[if_neg h1]
  by_cases h2:m=a∧0≤q∧q<k∧w m q=p
  ·rw[if_pos h2,if_pos ⟨h2.1,h2.2.1,by omega,h2.2.2.2⟩]
  ·rw[if_neg h2,if_neg]
   rintro⟨e1,e2,e3,e4⟩
   exact h2 ⟨e1,e2,by omega,e4⟩
theorem tf{w:Int→Int→Int}{a p k:Int}(h:¬w a k=p):pN w a p k=pN w a p (k+1):=by
 funext m q
 unfold pN
 by_cases h2:m=a∧0≤q∧q<k∧w m q=p
 ·rw[if_pos h2,if_pos ⟨h2.1,h2.2.1,by omega,h2.2.2.2⟩]
 ·rw[if_neg h2,if_neg]
  rintro⟨e1,e2,e3,e4⟩
  by_cases e5:q=k
  ·subst e5;subst e1;exact h e4
  ·exact h2 ⟨e1,e2,by omega,e4⟩
def wD(w:Int→Int→Int)(l:List Int)(p:Int):Int→Int→Int:=fun m q=>if m∈l∧0≤q∧q<21∧w m q=p then-1 else w m q
theorem Gu(w:Int→Int→Int)(p:Int):wD w [] p=w:=by
 funext m q;unfold wD;rw[if_neg (by simp)]
theorem C7{w:Int→Int→Int}{l:List Int}{p z:Int}(hp:0≤p)(hz:0≤z∧z<l.length):pN (wD w (l.take z.toNat) p) (ep l z) p 21=wD w (l.take (z+1).toNat) p:=by
 have h2:z.toNat<l.length:=by omega
 have ht:l.take (z+1).toNat=l.take z.toNat++[ep l z]:=by
  rw[show(z+1).toNat=z.toNat+1 from by omega,List.take_add_one]
  simp[ep,List.getD,h2]
 funext m q
 unfold pN wD
 rw[ht]
 simp only[List.mem_append,List.mem_singleton]
 by_cases h3:m∈l.take z.toNat∧0≤q∧q<21∧w m q=p
 ·have hr:(m∈l.take z.toNat∨m=ep l z)∧0≤q∧q<21∧w m q=p:=⟨.inl h3.1,h3.2⟩
  rw[if_pos hr,if_pos h3]
  split<;>rfl
 ·rw[if_neg h3]
  by_cases h4:m=ep l z∧0≤q∧q<21∧w m q=p
  ·have hr:(m∈l.take z.toNat∨m=ep l z)∧0≤q∧q<21∧w m q=p:=⟨.inr h4.1,h4.2⟩
   rw[if_pos h4,if_pos hr]
  ·have hr:¬((m∈l.take z.toNat∨m=ep l z)∧0≤q∧q<21∧w m q=p):=by
    rintro⟨e1 | e1,e2⟩
    ·exact h3 ⟨e1,e2⟩
    ·exact h4 ⟨e1,e2⟩
   rw[if_neg h4,if_neg hr]
theorem FH{s:SS}{l:List Int}{p:Int}(hW:∀ n q,s.bV n q=p→n∈l∧0≤q∧q<21):wD s.bV l p=fun n q=>if s.bV n q=p then-1 else s.bV n q:=by
 funext n q
 unfold wD
 by_cases h:s.bV n q=p
 ·rw[if_pos ⟨(hW n q h).1,(hW n q h).2.1,(hW n q h).2.2,h⟩,if_pos h]
 ·rw[if_neg (fun e=>h e.2.2.2),if_neg h]
end Go.X.Sp
