import Derived.Test.YthdinakloheinaaGreatDoorkJZCF
set_option linter.all false
namespace Go.X.Tr
open Go Go.X
variable{w:Bool}{t x:ByteArray}{l:List ByteArray}
structure PS where
 b:Int->ByteArray
 e:Int->Int->Int
structure PS.Inv (K:Int) (s:PS):Prop where
 e0:∀ n,0<=s.e n 0/\s.e n 0<=K
 e1:∀ n,0<=s.e n 1/\s.e n 1<=K
 cl:∀ n,s.e n 0+s.e n 1=0->s.b n=⟨#[]⟩
 len:∀ n,(s.b n).size<=12
theorem PS.Inv.mono{K K':Int}{s:PS}(h:s.Inv K)(hk:K<=K'):s.Inv K':=
 ⟨fun n=>⟨(h.e0 n).1,by have:=(h.e0 n).2;omega⟩,fun n=>⟨(h.e1 n).1,by have:=(h.e1 n).2;omega⟩,h.cl,h.len⟩
def PS.cR:PS:=⟨fun _=>⟨#[]⟩,fun _ _=>0⟩
theorem PS.Inv.cR:PS.cR.Inv 0:=⟨fun _=>by simp[PS.cR],fun _=>by simp[PS.cR],fun _ _=>rfl,fun _=>by simp[PS.cR,ByteArray.size]⟩
def PS.is(s:PS)(n:Int):Int:=if n<0\/8<=n then 1 else if s.e n 0+s.e n 1=0 then 2 else 0
def PS.make(s:PS):Int×Int×PS:=match dW (fun k=>s.e k 0+s.e k 1==0) 8 with
 | some k=>(k,0,{s with e:=bW (bW s.e k 0 1) k 1 1})
 | none=>(0,4,s)
def HW(w:Bool):Int:=if w then 1 else 0
def PS.l7(s:PS)(n:Int)(w:Bool)(d:Int):Int×PS:=
 if s.is n≠0 then(s.is n,s)else if s.e n (HW w)=0 then(8,s)else
  (0,{b:=if s.e n 0+s.e n 1+d=0 then ad s.b n ⟨#[]⟩else s.b,e:=bW s.e n (HW w) (s.e n (HW w)+d)})
def PS.mh(s:PS)(n m:Int):ByteArray×Int×PS:=
 if s.is n≠0 then(⟨#[]⟩,s.is n,s)else if s.e n 0=0 then(⟨#[]⟩,8,s)else if m<0 then(⟨#[]⟩,1,s)else
 if s.b n=⟨#[]⟩/\s.e n 1>0/\m>0 then(⟨#[]⟩,13,s)else
  ((s.b n).extract 0 (min m (s.b n).size).toNat,0,{s with b:=ad s.b n ((s.b n).extract (min m (s.b n).size).toNat (s.b n).size)})
def PS.cC(s:PS)(n:Int)(t:ByteArray):Int×Int×PS:=
 if s.is n≠0 then(0,s.is n,s)else if s.e n 1=0 then(0,8,s)else if s.e n 0=0 then(0,12,s)else
 if min (t.size:Int) (12-(s.b n).size)=0/\t.size>0 then(0,13,s)else
  (min (t.size:Int) (12-(s.b n).size),0,{s with b:=ad s.b n (s.b n++t.extract 0 (min (t.size:Int) (12-(s.b n).size)).toNat)})
def fh(f:Int->Bool):Nat->Int
 | 0=>0
 | n+1=>fh f n+if f n then 1 else 0
def Dv(f:Int->Bool)(n:Nat):0<=fh f n/\fh f n<=n:=by
 induction n with
 | zero=>simp[fh]
 | succ n ih=>simp only[fh];split<;>omega
def PS.open(s:PS):Int:=fh (fun i=>decide (s.e i 0+s.e i 1>0)) 8
def bN(s:PS)(i:Nat):Value:=
 if i%3=0/\i/3<8 then .string (s.b ((i/3:Nat):Int))else
 if 1<=i/\(i-1)%3=0/\(i-1)/3<8 then iI (s.e (((i-1)/3:Nat):Int) 0)else
 if 2<=i/\(i-2)%3=0/\(i-2)/3<8 then iI (s.e (((i-2)/3:Nat):Int) 1)else
 undef
abbrev el(b0 o0:Nat)(s:PS):aG:=.cells b0 o0 24 (bN s)
def eo(s:PS)(z0:Int)(q0:0<=z0/\z0<8:=by omega):(((0+0)+z0.toNat*3)+0)<24/\bN s (((0+0)+z0.toNat*3)+0)= .string (s.b z0):=by
 grind [bN]
def jj(s:PS)(z0:Int)(q0:0<=z0/\z0<8)(v:ByteArray):(((0+0)+z0.toNat*3)+0)<24/\ep (bN s) (((0+0)+z0.toNat*3)+0) (.string (v))=bN ({s with b:=ad s.b z0 v}):=by
 grind [ep,ad,bN]
def eC(s:PS)(z0:Int)(q0:0<=z0/\z0<8:=by omega):(((0+0)+z0.toNat*3)+1)<24/\bN s (((0+0)+z0.toNat*3)+1)=iI (s.e z0 0):=by
 grind [bN]
def na(s:PS)(z0:Int)(q0:0<=z0/\z0<8)(v:Int):(((0+0)+z0.toNat*3)+1)<24/\ep (bN s) (((0+0)+z0.toNat*3)+1) (iI (v))=bN ({s with e:=bW s.e z0 0 v}):=by
 grind [ep,bW,bN]
def dZ(s:PS)(z0:Int)(q0:0<=z0/\z0<8:=by omega):(((0+0)+z0.toNat*3)+2)<24/\bN s (((0+0)+z0.toNat*3)+2)=iI (s.e z0 1):=by
 grind [bN]
def mi(s:PS)(z0:Int)(q0:0<=z0/\z0<8)(v:Int):(((0+0)+z0.toNat*3)+2)<24/\ep (bN s) (((0+0)+z0.toNat*3)+2) (iI (v))=bN ({s with e:=bW s.e z0 1 v}):=by
 grind [ep,bW,bN]
theorem mD{s:PS}{n d:Int}(h:s.is n≠0):s.l7 n w d=(s.is n,s):=by simp[PS.l7,h]
theorem kx{s:PS}{n d:Int}(h:s.is n=0)(he:s.e n (HW w)=0):s.l7 n w d=(8,s):=by grind [PS.l7]
theorem PS.DA{s:PS}{n d:Int}(h:s.is n=0)(he:¬s.e n (HW w)=0)(hz:¬s.e n 0+s.e n 1+d=0:=by omega):s.l7 n w d=(0,{s with e:=bW s.e n (HW w) (s.e n (HW w)+d)}):=by
 grind [PS.l7]
theorem PS.w8{s:PS}{n d:Int}(h:s.is n=0)(he:¬s.e n (HW w)=0)(hz:s.e n 0+s.e n 1+d=0:=by omega):s.l7 n w d=(0,{b:=ad s.b n ⟨#[]⟩,e:=bW s.e n (HW w) (s.e n (HW w)+d)}):=by
 grind [PS.l7]
theorem PS.kg(s:PS)(n:Int):(s.is n=0/\0<=n/\n<8/\¬s.e n 0+s.e n 1=0)\/(s.is n=1/\(n<0\/8<=n))\/(s.is n=2/\0<=n/\n<8/\s.e n 0+s.e n 1=0):=by
 grind [PS.is]
def DB{g:Int->Int->Int}{n:Int}(h0:g n 0=0:=by omega)(h1:g n 1=0:=by omega):bW (bW g n 0 0) n 1 0=g:=by
 grind [bW]
theorem Mr{s:PS}{n m:Int}(h:s.is n≠0):s.mh n m=(⟨#[]⟩,s.is n,s):=by simp[PS.mh,h]
theorem GR{s:PS}{n m:Int}(h:s.is n=0)(h0:s.e n 0=0):s.mh n m=(⟨#[]⟩,8,s):=by grind [PS.mh]
theorem GS{s:PS}{n m:Int}(h:s.is n=0)(h0:¬s.e n 0=0)(hm:m<0):s.mh n m=(⟨#[]⟩,1,s):=by grind [PS.mh]
theorem GU{s:PS}{n m:Int}(h:s.is n=0)(h0:¬s.e n 0=0)(hm:¬m<0)(ha:s.b n=⟨#[]⟩/\s.e n 1>0/\m>0):s.mh n m=(⟨#[]⟩,13,s):=by
 grind [PS.mh]
theorem PS.JF{s:PS}{n m:Int}(h:s.is n=0)(h0:¬s.e n 0=0)(hm:¬m<0)(ha:¬(s.b n=⟨#[]⟩/\s.e n 1>0/\m>0)):s.mh n m=((s.b n).extract 0 (min m (s.b n).size).toNat,0,{s with b:=ad s.b n ((s.b n).extract (min m (s.b n).size).toNat (s.b n).size)}):=by
 grind [PS.mh]
theorem JG{s:PS}{n:Int}(h:s.is n≠0):s.cC n t=(0,s.is n,s):=by simp[PS.cC,h]
theorem ES{s:PS}{n:Int}(h:s.is n=0)(h0:s.e n 1=0):s.cC n t=(0,8,s):=by grind [PS.cC]
theorem Dh{s:PS}{n:Int}(h:s.is n=0)(h0:¬s.e n 1=0)(h1:s.e n 0=0):s.cC n t=(0,12,s):=by grind [PS.cC]
theorem ET{s:PS}{n:Int}(h:s.is n=0)(h0:¬s.e n 1=0)(h1:¬s.e n 0=0)(ha:min (t.size:Int) (12-(s.b n).size)=0/\t.size>0):s.cC n t=(0,13,s):=by
 grind [PS.cC]
theorem PS.Ms{s:PS}{n:Int}(h:s.is n=0)(h0:¬s.e n 1=0)(h1:¬s.e n 0=0)(ha:¬(min (t.size:Int) (12-(s.b n).size)=0/\t.size>0)):s.cC n t=(min (t.size:Int) (12-(s.b n).size),0,{s with b:=ad s.b n (s.b n++t.extract 0 (min (t.size:Int) (12-(s.b n).size)).toNat)}):=by
 grind [PS.cC]
theorem PS.TP{s:PS}{k:Int}(h0:0<=k/\k<8)(hp:s.e k 0+s.e k 1=0)(hn:∀ j:Int,0<=j->j<k->s.e j 0+s.e j 1≠0):s.make=(k,0,{s with e:=bW (bW s.e k 0 1) k 1 1}):=by
 unfold PS.make;rw[fw h0.1 h0.2 (by simpa using hp) fun j h1 h2=>by simpa using hn j h1 h2];grind
theorem JH{s:PS}(hn:∀ j:Int,0<=j->j<8->s.e j 0+s.e j 1≠0):s.make=(0,4,s):=by
 grind [PS.make,fx]
def TQ{s:PS}{K:Int}(hI:s.Inv K){k:Int}(h0:0<=k/\k<8)(hp:s.e k 0+s.e k 1=0):0+0+k.toNat*3+3<=24/\cY (bN s) (0+0+k.toNat*3) [.string ⟨#[]⟩,iI 1,iI 1]=bN {s with e:=bW (bW s.e k 0 1) k 1 1} :=by
 refine⟨og,?_⟩;have e1:=(jj s k h0 ⟨#[]⟩).2;have hb:ad s.b k ⟨#[]⟩=s.b:=by
  grind [ad,PS.Inv.cl]
 rw[hb]at e1;have e2:=(na s k h0 1).2;have e3:=(mi {s with e:=bW s.e k 0 1} k h0 1).2;simp_all[cY]
def HX(s:PS){k:Int}(h0:0<=k/\k<8:=by omega):0+0+k.toNat*3+3<=24/\cY (bN s) (0+0+k.toNat*3) [.string ⟨#[]⟩,iI 0,iI 0]=bN {b:=ad s.b k ⟨#[]⟩,e:=bW (bW s.e k 0 0) k 1 0} :=by
 refine⟨og,?_⟩;have e1:=(jj s k h0 ⟨#[]⟩).2;have e2:=(na {s with b:=ad s.b k ⟨#[]⟩} k h0 0).2;have e3:=(mi {b:=ad s.b k ⟨#[]⟩,e:=bW s.e k 0 0} k h0 0).2;grind [cY]
abbrev blt(a b:ByteArray):Bool:=Op.bytesLess a.toList b.toList
theorem JI(a b:ByteArray):blt a b=true↔a.toList<b.toList:=by unfold blt;rw[Go.Proofs.bytesLess_eq,decide_eq_true_eq]
theorem toList_inj{a b:ByteArray}(h:a.toList=b.toList):a=b:=by
 grind [toList_beq]
theorem OP(a:ByteArray):blt a a=false:=by
 grind [JI]
theorem TR{a b c:ByteArray}(h1:blt a b=true)(h2:blt b c=true):blt a c=true:=by grind [JI]
theorem TS(a b:ByteArray):blt a b=true\/a=b\/blt b a=true:=by
 grind [JI,toList_inj]
abbrev pG(l:List ByteArray)(i:Nat):ByteArray:=l.getD i ByteArray.empty
def fJ(l:List ByteArray):Prop:=∀ i j,i<j->j<l.length->blt (pG l i) (pG l j)=true
def fb:List ByteArray->ByteArray->Nat
 | [],_=>0
 | y::r,x=>if blt y x=true then fb r x+1 else 0
theorem py:∀ (l:List ByteArray) (x:ByteArray),fb l x<=l.length
 | [],_=>Nat.le_refl _
 | y::r,x=>by
  unfold fb;split
  ·simp;exact py r x
  ·omega
theorem Ai:∀ (l:List ByteArray) (x:ByteArray) (i:Nat),i<fb l x->blt (pG l i) x=true
 | [],_,i,h=>by simp[fb]at h
 | y::r,x,i,h=>by
  unfold fb at h;split at h
  ·cases i with
   | zero=>simpa [pG]using (by assumption:blt y x=true)
   | succ i=>simpa [pG]using Ai r x i og
  ·omega
theorem DC:∀ (l:List ByteArray) (x:ByteArray),fb l x<l.length->blt (pG l (fb l x)) x=false
 | [],_,h=>by simp at h
 | y::r,x,h=>by
  unfold fb at h ⊢;split
  ·rename_i c;rw[if_pos c]at h;simpa [pG]using DC r x (by simpa using h)
  ·rename_i c;simpa [pG]using c
theorem JJ(hl:fJ l)(x:ByteArray){i:Nat}(h:fb l x<=i)(hi:i<l.length):blt (pG l i) x=false:=by
 grind [DC,TR,fJ]
def qk(l:List ByteArray)(x:ByteArray):Bool:=decide (fb l x<l.length/\pG l (fb l x)=x)
def JK(KU:Nat->Bool)(k N:Nat)(h1:∀ t,t<k->KU t=true)(h2:∀ t,k<=t->t<N->KU t=false):∀ (f lo hi:Nat),hi-lo<=f->lo<=k->k<=hi->hi<=N->Go.Lib.bsGo KU f lo hi=k
 | 0,lo,hi,hf,a,b,_=>by unfold Go.Lib.bsGo;omega
 | f+1,lo,hi,hf,a,b,c=>by
  unfold Go.Lib.bsGo;by_cases h:lo<hi
  ·rw[if_pos h];by_cases q:(lo+hi)/2<k
   ·rw[h1 _ q,if_pos rfl];exact JK KU k N h1 h2 f _ _ og og b c
   ·rw[h2 _ og og,if_neg sq];exact JK KU k N h1 h2 f _ _ og a og og
  ·rw[if_neg h];omega
theorem EU(hl:fJ l)(x:ByteArray):bsS l x=fb l x:=
 JK _ (fb l x) l.length (fun t ht=>Ai l x t ht) (fun t ht hn=>JJ hl x ht hn) _ _ _ og og (py l x) (Nat.le_refl _)
def Aj(hl:fJ l)(x:ByteArray):Lj l x=qk l x:=by
 grind [Lj,qk,EU]
theorem nc :qk l x=true↔fb l x<l.length/\pG l (fb l x)=x:=by grind [qk]
theorem abx(hl:fJ l){i:Nat}(hi:i<l.length)(h:pG l i=x):i=fb l x:=by
 rcases Nat.lt_trichotomy i (fb l x)with c | c | c
 ·have:=Ai l x i c;grind [OP]
 ·omega
 grind [DC,fJ]
theorem aby(hl:fJ l)(h:qk l x=false){i:Nat}(hi:i<l.length):pG l i≠x:=fun e=>by
 grind [abx,nc]
theorem abz(hl:fJ l)(h:qk l x=false){i:Nat}(h1:fb l x<=i)(hi:i<l.length):blt x (pG l i)=true:=by
 grind [TS,JJ,aby]
theorem EV(l:List ByteArray)(p:Nat)(x:ByteArray)(j:Nat)(hp:p<=l.length):pG (l.insertIdx p x) j=if j<p then pG l j else if j=p then x else pG l (j-1):=by
 grind
theorem HY(l:List ByteArray)(p j:Nat):pG (l.eraseIdx p) j=if j<p then pG l j else pG l (j+1):=by
 grind
theorem fJ.insert(hl:fJ l)(h:qk l x=false):fJ (l.insertIdx (fb l x) x):=fun i j KS hj=>by
 have hp:=py l x;rw[List.length_insertIdx,if_pos hp]at hj;rw[EV _ _ _ _ hp,EV _ _ _ _ hp];by_cases c1:j<fb l x
 ·grind [fJ]
 ·rw[if_neg c1];by_cases c2:j=fb l x
  ·rw[if_pos c2,if_pos og];exact Ai l x i og
  grind [abz,fJ]
theorem fJ.Q9(hl:fJ l)(p:Nat)(hp:p<l.length):fJ (l.eraseIdx p):=fun i j KS hj=>by
 grind [HY,fJ]
theorem fJ.nil:fJ []:=fun i j _ h=>by simp at h
def okB(c:UInt8):Bool:=(decide (97<=c.toNat)&&decide (c.toNat<=122))||(decide (48<=c.toNat)&&decide (c.toNat<=57))||decide (c.toNat=46)
def kZ(s:ByteArray):Bool:=(List.range s.size).all (fun i=>okB (s.get! i))&&(decide (1<=s.size/\s.size<=8)&&(decide (s≠⟨#[46]⟩)&&decide (s≠⟨#[46,46]⟩)))
def Xu{s:ByteArray}{j:Nat}{u:UInt8}(h:s[j]? =some u):s.get! j=u:=by
 have hj:j<s.size:=by
  grind
 rw[getElem?_pos s j hj]at h;have h2:=Option.some.inj h;rw[<-h2];show s.data[j]! =s.data[j];simp_all
def Mt{s:ByteArray}{j:Nat}(h:j<s.size):∃ u,s[j]? =some u:=⟨s[j],getElem?_pos s j h⟩
theorem Ak{s:ByteArray} :s=⟨#[]⟩↔s.size=0:=by
 constructor
 ·rintro rfl;rfl
 ·intro h;cases s with
  | mk d=>congr 1;exact Array.eq_empty_of_size_eq_zero h
structure FF where
 aI:Int->Int
 ed:Int->Int
 bO:Int->Int
 bu:Int->Int
 up:Int->Int
 data:Int->ByteArray
 aJ:Int->List ByteArray
 kids:Int->List Int
 roots:List Int
structure FC extends FF where
 nP:Int->Option Addr
 nC:Int->Nat
 kP:Int->Option Addr
 kC:Int->Nat
 rP:Option Addr
 rC:Nat
def Z2(d:ByteArray)(at_:Nat)(x:ByteArray):ByteArray:=⟨((List.range (max d.size (at_+x.size))).map fun i=>if at_<=i/\i<at_+x.size then x.get! (i-at_)else if i<d.size then d.get! i else 0).toArray⟩
namespace FF
def cQ(s:FF)(n k:Int):Int:=if n<0\/40<=n then 1 else if s.aI n=0 then 2 else if 0<k/\s.aI n≠k then 11 else 0
def ye(s:FF):Nat->Int
 | 0=> -1
 | k+1=>if s.aI (39-(k:Int))=0 then 39-(k:Int)else ye s k
def free(s:FF):Int:=ye s 40
def km(s:FF)(z k t l u:Int):FF:=⟨ad s.aI z k,ad s.ed z t,ad s.bO z l,ad s.bu z 0,ad s.up z u,ad s.data z ByteArray.empty,ad s.aJ z [],ad s.kids z [],s.roots⟩
def sD(s:FF)(z:Int):FF:=if s.bO z=0/\s.bu z=0 then s.km z 0 0 0 0 else s
def rA(s:FF):Int:=if s.roots.length=4 then 4 else if s.free<0 then 4 else 0
def Al(s:FF):FF:=if s.rA=0 then {s.km s.free 2 (s.roots.length:Int) 1 s.free with roots:=s.roots++[s.free]} else s
def yQ(s:FF):Int:=if s.rA=0 then(s.roots.length:Int)else 0
def nD(s:FF)(t:Int):Int:=if t<0\/4<=t then 1 else if(s.roots.length:Int)<=t then 2 else 0
def gm(s:FF)(t:Int):Int:=if s.nD t=0 then jK s.roots t else 0
def uT(s:FF)(n:Int)(x:ByteArray)(k:Int):FF:= {s with aJ:=ad s.aJ n ((s.aJ n).insertIdx (fb (s.aJ n) x) x),kids:=ad s.kids n ((s.kids n).insertIdx (fb (s.aJ n) x) k)}
def eZ(s:FF)(n:Int)(x:ByteArray):FF:= {s with aJ:=ad s.aJ n ((s.aJ n).eraseIdx (fb (s.aJ n) x)),kids:=ad s.kids n ((s.kids n).eraseIdx (fb (s.aJ n) x))}
def fX(s:FF)(n:Int)(x:ByteArray):Int:=if s.cQ n 2≠0 then s.cQ n 2 else if qk (s.aJ n) x=true then 0 else 2
def bS(s:FF)(n:Int)(x:ByteArray):Int:=if s.fX n x=0 then jK (s.kids n) (fb (s.aJ n) x)else 0
def fD(s:FF)(n:Int)(x:ByteArray):Int:=if s.cQ n 2≠0 then s.cQ n 2 else if kZ x=false then 9 else if qk (s.aJ n) x=true then 3 else if(s.aJ n).length=8 then 4 else 0
def nF(s:FF)(n:Int)(x:ByteArray)(k:Int):Int:=if k≠1/\k≠2 then 1 else if s.fD n x≠0 then s.fD n x else if s.free<0 then 4 else 0
def ql(s:FF)(n:Int)(x:ByteArray)(k:Int):Int:=if s.nF n x k=0 then s.free else 0
def make(s:FF)(n:Int)(x:ByteArray)(k:Int):FF:=if s.nF n x k=0 then(s.km s.free k (s.ed n) 1 n).uT n x s.free else s
def vJ(s:FF)(gK n:Int)(x:ByteArray):Int:=if s.cQ gK 1≠0 then s.cQ gK 1 else if s.fD n x≠0 then s.fD n x else if s.ed gK≠s.ed n then 11 else 0
def EW(s:FF)(gK n:Int)(x:ByteArray):FF:=if s.vJ gK n x=0 then {s.uT n x gK with bO:=ad s.bO gK (s.bO gK+1)} else s
def OQ(s:FF)(k:Int):Prop:=s.aI k=2/\(0<(s.kids k).length\/0<s.bu k)
instance(s:FF)(k:Int):Decidable (s.OQ k):=by unfold OQ;infer_instance
def dP(s:FF)(n:Int)(x:ByteArray):Int:=if s.fX n x≠0 then s.fX n x else if s.OQ (s.bS n x)then 5 else 0
def eh(s:FF)(n:Int)(x:ByteArray):FF:=if s.dP n x=0 then sD {s.eZ n x with bO:=ad s.bO (s.bS n x) (s.bO (s.bS n x)-1)} (s.bS n x)else s
def BR(s:FF):Nat->Int->Int->Bool
 | 0,n,k=>decide (n=k)
 | f+1,n,k=>if n=k then true else if s.up n=n then false else BR s f (s.up n) k
def Mu(d:Int->Nat)(s:FF)(n k:Int):Bool:=BR s (d n) n k
def gx(d:Int->Nat)(s:FF)(n:Int)(x:ByteArray)(to:Int):Int:=if s.fX n x≠0 then s.fX n x else if s.cQ to 2≠0 then s.cQ to 2 else if s.ed n≠s.ed to then 11 else if s.aI (s.bS n x)=2/\Mu d s to (s.bS n x)=true then 5 else 0
def fl(d:Int->Nat)(s:FF)(n:Int)(x:ByteArray)(to:Int)(y:ByteArray):Int:=if s.gx d n x to≠0 then s.gx d n x to else(s.eZ n x).fD to y
def move(d:Int->Nat)(s:FF)(n:Int)(x:ByteArray)(to:Int)(y:ByteArray):FF:=
 if s.gx d n x to≠0 then s else if(s.eZ n x).fD to y≠0 then(s.eZ n x).uT n x (s.bS n x)else
  if s.aI (s.bS n x)=2 then {(s.eZ n x).uT to y (s.bS n x)with up:=ad s.up (s.bS n x) to} else(s.eZ n x).uT to y (s.bS n x)
def dX(s:FF)(n:Int):FF:=if s.cQ n 0=0 then {s with bu:=ad s.bu n (s.bu n+1)} else s
def EX(s:FF)(n:Int):Int:=if s.cQ n 0≠0 then s.cQ n 0 else if s.bu n=0 then 8 else 0
def lI(s:FF)(n:Int):FF:=if s.EX n=0 then sD {s with bu:=ad s.bu n (s.bu n-1)} n else s
def nf(s:FF)(n at_ m:Int):Int:=if s.cQ n 1≠0 then s.cQ n 1 else if at_<0\/m<0 then 1 else 0
def lH(s:FF)(n at_ m:Int):ByteArray:=if s.nf n at_ m=0 then(s.data n).extract (min at_ (s.data n).size).toNat (min at_ (s.data n).size+min m ((s.data n).size-min at_ (s.data n).size)).toNat else ByteArray.empty
def fC(s:FF)(n at_:Int)(x:ByteArray):Int:=if s.cQ n 1≠0 then s.cQ n 1 else if at_<0 then 1 else if 40<at_\/40-at_<(x.size:Int)then 4 else 0
def cC(s:FF)(n at_:Int)(x:ByteArray):FF:=if s.fC n at_ x=0/\x≠ByteArray.empty then {s with data:=ad s.data n (Z2 (s.data n) at_.toNat x)} else s
def fh(s:FF):Nat->Int
 | 0=>0
 | k+1=>fh s k+(if 0<s.aI (k:Int)then 1 else 0)
def aiF(s:FF):Int:=fh s 40
def dR:FF:=⟨fun _=>0,fun _=>0,fun _=>0,fun _=>0,fun _=>0,fun _=>ByteArray.empty,fun _=>[],fun _=>[],[]⟩
def JM(f:Int->List Int)(k:Int):Nat->Nat
 | 0=>0
 | n+1=>JM f k n+(f (n:Int)).count k
def o7(s:FF)(k:Int):Nat:=JM s.kids k 40+s.roots.count k
structure Sh(s:FF):Prop where
 jY:∀ n,0<=n->n<40->fJ (s.aJ n)/\(s.aJ n).length=(s.kids n).length/\(s.aJ n).length<=8/\(s.aI n≠2->s.aJ n=[])
 kids:∀ n,0<=n->n<40->∀ k∈s.kids n,0<=k/\k<40
 data:∀ n,0<=n->n<40->(s.data n).size<=40
 roots:s.roots.length<=4/\∀ r∈s.roots,0<=r/\r<40
 num:∀ n,0<=n->n<40-> -1000000<=s.bO n/\s.bO n<=1000000/\0<=s.bu n/\s.bu n<=1000000
structure eD(s:FF)(d:Int->Nat)(e q:Int):Prop where
 kinds:∀ n,0<=n->n<40->s.aI n=0\/s.aI n=1\/s.aI n=2
 jY:∀ n,0<=n->n<40->fJ (s.aJ n)/\(s.aJ n).length=(s.kids n).length/\(s.aJ n).length<=8/\(s.aI n≠2->s.aJ n=[])
 OT:∀ n,0<=n->n<40->∀ x∈s.aJ n,kZ x=true
 kids:∀ n,0<=n->n<40->∀ k∈s.kids n,0<=k/\k<40/\s.aI k≠0/\s.ed k=s.ed n/\(s.aI k=2->s.up k=n/\d n<d k)
 data:∀ n,0<=n->n<40->(s.data n).size<=40/\(s.aI n≠1->s.data n=ByteArray.empty)
 roots:s.roots.length<=4/\∀ r∈s.roots,0<=r/\r<40/\s.aI r=2/\s.up r=r
 up:∀ n,0<=n->n<40->s.aI n=2->n≠e->n≠q->(n∈s.roots/\s.up n=n)\/(0<=s.up n/\s.up n<40/\s.aI (s.up n)=2/\n∈s.kids (s.up n)/\d (s.up n)<d n)
 num:∀ n,0<=n->n<40->0<=s.bu n/\s.bO n=(s.o7 n:Int)+(if n=e then 1 else 0)
 zero:∀ n,0<=n->n<40->s.aI n=0->s.bO n=0/\s.bu n=0
 pos:∀ n,0<=n->n<40->s.aI n≠0->n≠q->0<s.bO n\/0<s.bu n
 Mv:∀ n,0<=n->n<40->s.aI n=2->n≠q->s.bO n=1
abbrev Inv(s:FF)(d:Int->Nat):Prop:=s.eD d (-1) (-1)
def Am{s:FF}{n:Int}(h:s.cQ n 0=0):0<=n/\n<40/\s.aI n≠0:=by
 grind [cQ]
def jZ{s:FF}{n k:Int}(h:s.cQ n k=0):0<=n/\n<40/\s.aI n≠0/\(0<k->s.aI n=k):=by
 grind [cQ]
theorem Xv{s:FF}{n k:Int}(h:s.cQ n 0≠0):s.cQ n 0=s.cQ n k:=by
 grind [cQ]
def aft(s:FF)(n k:Int):0<=s.cQ n k:=by grind [cQ]
end FF
def au:Nat->Bool:=fun i=>Nat.blt i 40
def FC.bA(e:TypeId)(s:FC):Nat->re:=fun i=>⟨.slice (s.nP (i:Int)) (s.aJ (i:Int)).length (s.nC (i:Int)),e,1,(s.aJ (i:Int)).length,strs (s.aJ (i:Int))⟩
def FC.bB(e:TypeId)(s:FC):Nat->re:=fun i=>⟨.slice (s.kP (i:Int)) (s.kids (i:Int)).length (s.kC (i:Int)),e,1,(s.kids (i:Int)).length,gi (s.kids (i:Int))⟩
abbrev g6(s:FC):aG:=.aV au (FC.bA 9 s)
abbrev g7(s:FC):aG:=.aV au (FC.bB 3 s)
def FC.dR:FC:=⟨FF.dR,fun _=>none,fun _=>0,fun _=>none,fun _=>0,none,0⟩
theorem jB(C:Nat->Value):∀ (vs:List Value) (i j:Nat),j<i->cY C i vs j=C j
 | [],_,_,_=>rfl
 | v::r,i,j,h=>by
  unfold cY;rw[jB (ep C i v) r (i+1) j og];simp[ep];omega
theorem gB:∀ (vs:List Value) (C:Nat->Value) (i j:Nat) (v:Value),vs[j]? =some v->cY C i vs (i+j)=v
 | [],_,_,_,_,h=>by simp at h
 | u::r,C,i,0,v,h=>by
  have h2:u=v:=by simpa using h
  unfold cY;rw[jB _ _ _ _ og,<-h2];simp[ep]
 | u::r,C,i,j+1,v,h=>by
  unfold cY;have:=gB r (ep C i u) (i+1) j v (by simpa using h);rw[show i+1+j=i+(j+1)from og]at this;exact this
theorem jC:∀ (vs:List Value) (C:Nat->Value) (i j:Nat),i+vs.length<=j->cY C i vs j=C j
 | [],_,_,_,_=>rfl
 | v::r,C,i,j,h=>by
  simp only[List.length_cons]at h;unfold cY;rw[jC r (ep C i v) (i+1) j og];simp[ep];omega
structure aC.U where
 aI:Int
 ed:Int
 bO:Int
 bu:Int
 data:ByteArray
 up:Int
 aJ:List ByteArray
 nP:Option Addr
 nC:Nat
 kids:List Int
 kP:Option Addr
 kC:Nat
def aC.un(s:FC)(z:Int):aC.U:=⟨s.aI z,s.ed z,s.bO z,s.bu z,s.data z,s.up z,s.aJ z,s.nP z,s.nC z,s.kids z,s.kP z,s.kC z⟩
def aC.cell(u:aC.U)(j:Nat):Value:=
 if j=0 then iI u.aI else
 if j=1 then iI u.ed else
 if j=2 then iI u.bO else
 if j=3 then iI u.bu else
 if j=4 then .string u.data else
 if 5<=j/\j<6 then .slice u.nP u.aJ.length u.nC else
 if 6<=j/\j<7 then .slice u.kP u.kids.length u.kC else
 if j=7 then iI u.up else
 undef
def aC(s:FC)(i:Nat):Value:=
 if i<320 then aC.cell (aC.un s ((i/8:Nat):Int)) (i%8)else
 if i=320 then Value.slice s.rP s.roots.length s.rC else
 undef
abbrev bi(b0 o0:Nat)(s:FC):aG:=.cells b0 o0 321 (aC s)
theorem aC.at_(s:FC)(z:Int)(h:0<=z/\z<40)(j:Nat)(hj:j<8):aC s (0+0+z.toNat*8+j)=aC.cell (aC.un s z) j:=by
 unfold aC;grind
theorem aC.set(s s':FC)(z:Int)(h:0<=z/\z<40)(k:Nat)(hk:k<8)(v:Value)(hv:∀ j,aC.cell (aC.un s' z) j=if j=k then v else aC.cell (aC.un s z) j)(ho:∀ y,¬y=z->aC.un s' y=aC.un s y)(hn:Value.slice s'.rP s'.roots.length s'.rC=Value.slice s.rP s.roots.length s.rC):0+0+z.toNat*8+k<321/\ep (aC s) (0+0+z.toNat*8+k) v=aC s':=by
 grind [ep,aC]
def aC.Wh(s s':FC)(z:Int)(h:0<=z/\z<40)(vs:List Value)(hl:vs.length=8)(hv:∀ j,j<8->vs[j]? =some (aC.cell (aC.un s' z) j))(ho:∀ y,¬y=z->aC.un s' y=aC.un s y)(hn:Value.slice s'.rP s'.roots.length s'.rC=Value.slice s.rP s.roots.length s.rC):0+0+z.toNat*8+8<=321/\cY (aC s) (0+0+z.toNat*8) vs=aC s':=by
 refine⟨og,?_⟩;funext i;by_cases a1:i<0+0+z.toNat*8
 ·rw[jB _ _ _ _ a1];unfold aC;grind
 ·by_cases a2:i<0+0+z.toNat*8+8
  ·obtain⟨j,rfl⟩:∃ j,i=0+0+z.toNat*8+j:=⟨i-(0+0+z.toNat*8),og⟩;rw[aC.at_ s' z h j og];exact gB vs _ _ _ _ (hv j og)
  ·rw[jC _ _ _ _ og];unfold aC;grind
def fK(s:FC)(z:Int)(h:0<=z/\z<40:=by omega):0+0+z.toNat*8+0<321/\aC s (0+0+z.toNat*8+0)=iI (s.aI z):=⟨og,aC.at_ s z h 0 og⟩
def il(s:FC)(z:Int)(h:0<=z/\z<40:=by omega):0+0+z.toNat*8+1<321/\aC s (0+0+z.toNat*8+1)=iI (s.ed z):=⟨og,aC.at_ s z h 1 og⟩
def lW(s:FC)(z:Int)(h:0<=z/\z<40:=by omega):0+0+z.toNat*8+2<321/\aC s (0+0+z.toNat*8+2)=iI (s.bO z):=⟨og,aC.at_ s z h 2 og⟩
def oW(s:FC)(z:Int)(h:0<=z/\z<40)(v:Int):0+0+z.toNat*8+2<321/\ep (aC s) (0+0+z.toNat*8+2) (iI v)=aC {s with bO:=ad s.bO z v} :=aC.set s {s with bO:=ad s.bO z v} z h 2 og _ (fun j=>by
 have e:aC.un {s with bO:=ad s.bO z v} z= {aC.un s z with bO:=v} :=by unfold aC.un;simp only[ah]
 rw[e]
 by_cases hj:j=2
 ·subst hj;rfl
 ·unfold aC.cell;simp only[if_neg hj]) (fun y hy=>by unfold aC.un;simp only[ae _ _ hy]) rfl
def la(s:FC)(z:Int)(h:0<=z/\z<40:=by omega):0+0+z.toNat*8+3<321/\aC s (0+0+z.toNat*8+3)=iI (s.bu z):=⟨og,aC.at_ s z h 3 og⟩
def vK(s:FC)(z:Int)(h:0<=z/\z<40)(v:Int):0+0+z.toNat*8+3<321/\ep (aC s) (0+0+z.toNat*8+3) (iI v)=aC {s with bu:=ad s.bu z v} :=aC.set s {s with bu:=ad s.bu z v} z h 3 og _ (fun j=>by
 have e:aC.un {s with bu:=ad s.bu z v} z= {aC.un s z with bu:=v} :=by unfold aC.un;simp only[ah]
 rw[e]
 by_cases hj:j=3
 ·subst hj;rfl
 ·unfold aC.cell;simp only[if_neg hj]) (fun y hy=>by unfold aC.un;simp only[ae _ _ hy]) rfl
def qm(s:FC)(z:Int)(h:0<=z/\z<40:=by omega):0+0+z.toNat*8+4<321/\aC s (0+0+z.toNat*8+4)= .string (s.data z):=⟨og,aC.at_ s z h 4 og⟩
def EY(s:FC)(z:Int)(h:0<=z/\z<40)(v:ByteArray):0+0+z.toNat*8+4<321/\ep (aC s) (0+0+z.toNat*8+4) (.string v)=aC {s with data:=ad s.data z v} :=aC.set s {s with data:=ad s.data z v} z h 4 og _ (fun j=>by
 have e:aC.un {s with data:=ad s.data z v} z= {aC.un s z with data:=v} :=by unfold aC.un;simp only[ah]
 rw[e]
 by_cases hj:j=4
 ·subst hj;rfl
 ·unfold aC.cell;simp only[if_neg hj]) (fun y hy=>by unfold aC.un;simp only[ae _ _ hy]) rfl
def An(s:FC)(z:Int)(h:0<=z/\z<40:=by omega):0+0+z.toNat*8+7<321/\aC s (0+0+z.toNat*8+7)=iI (s.up z):=⟨og,aC.at_ s z h 7 og⟩
def ua(s:FC)(z:Int)(h:0<=z/\z<40)(v:Int):0+0+z.toNat*8+7<321/\ep (aC s) (0+0+z.toNat*8+7) (iI v)=aC {s with up:=ad s.up z v} :=aC.set s {s with up:=ad s.up z v} z h 7 og _ (fun j=>by
 have e:aC.un {s with up:=ad s.up z v} z= {aC.un s z with up:=v} :=by unfold aC.un;simp only[ah]
 rw[e]
 by_cases hj:j=7
 ·subst hj;rfl
 ·unfold aC.cell;simp only[if_neg hj]) (fun y hy=>by unfold aC.un;simp only[ae _ _ hy]) rfl
def fN(s:FC)(z:Int)(h:0<=z/\z<40:=by omega):0+0+z.toNat*8+5<321/\aC s (0+0+z.toNat*8+5)= .slice (s.nP z) (s.aJ z).length (s.nC z):=⟨og,aC.at_ s z h 5 og⟩
def uC(s:FC)(z:Int)(h:0<=z/\z<40)(x:List ByteArray)(p:Option Addr)(c n:Nat)(hx:n=x.length):0+0+z.toNat*8+5<321/\ep (aC s) (0+0+z.toNat*8+5) (.slice p n c)=aC {s with aJ:=ad s.aJ z x,nP:=ad s.nP z p,nC:=ad s.nC z c} :=by
 subst hx;exact aC.set s {s with aJ:=ad s.aJ z x,nP:=ad s.nP z p,nC:=ad s.nC z c} z h 5 og _ (fun j=>by
 have e:aC.un {s with aJ:=ad s.aJ z x,nP:=ad s.nP z p,nC:=ad s.nC z c} z= {aC.un s z with aJ:=x,nP:=p,nC:=c} :=by unfold aC.un;simp only[ah]
 rw[e]
 by_cases hj:j=5
 ·subst hj;rfl
 ·unfold aC.cell
  simp only[show ¬(5<=j/\j<6)from og,hj,if_false]) (fun y hy=>by unfold aC.un;simp only[ae _ _ hy]) rfl
def ng(s:FC)(z:Int)(h:0<=z/\z<40:=by omega):0+0+z.toNat*8+6<321/\aC s (0+0+z.toNat*8+6)= .slice (s.kP z) (s.kids z).length (s.kC z):=⟨og,aC.at_ s z h 6 og⟩
def vL(s:FC)(z:Int)(h:0<=z/\z<40)(x:List Int)(p:Option Addr)(c n:Nat)(hx:n=x.length):0+0+z.toNat*8+6<321/\ep (aC s) (0+0+z.toNat*8+6) (.slice p n c)=aC {s with kids:=ad s.kids z x,kP:=ad s.kP z p,kC:=ad s.kC z c} :=by
 subst hx;exact aC.set s {s with kids:=ad s.kids z x,kP:=ad s.kP z p,kC:=ad s.kC z c} z h 6 og _ (fun j=>by
 have e:aC.un {s with kids:=ad s.kids z x,kP:=ad s.kP z p,kC:=ad s.kC z c} z= {aC.un s z with kids:=x,kP:=p,kC:=c} :=by unfold aC.un;simp only[ah]
 rw[e]
 by_cases hj:j=6
 ·subst hj;rfl
 ·unfold aC.cell
  simp only[show ¬(6<=j/\j<7)from og,hj,if_false]) (fun y hy=>by unfold aC.un;simp only[ae _ _ hy]) rfl
theorem HZ(v k:Int):∀ (l:List Int) (i:Nat),i<=l.length->(l.insertIdx i v).count k=l.count k+(if v=k then 1 else 0)
 | l,0,_=>by rw[List.insertIdx_zero,List.count_cons];simp
 | [],i+1,h=>by simp at h
 | x::l,i+1,h=>by
  rw[List.insertIdx_succ_cons,List.count_cons,List.count_cons,HZ v k l i (by simpa using h)];omega
theorem BU(k:Int):∀ (l:List Int) (i:Nat),i<l.length->(l.eraseIdx i).count k+(if l.getD i 0=k then 1 else 0)=l.count k
 | x::l,0,_=>by rw[List.eraseIdx_cons_zero,List.count_cons];simp
 | x::l,i+1,h=>by
  rw[List.eraseIdx_cons_succ,List.count_cons,List.count_cons,<-BU k l i (by simpa using h),List.getD_cons_succ];omega
theorem OU{l:List Int}{i:Nat}{k:Int}(hi:i<l.length)(h:k∈l)(hk:l.getD i 0≠k):k∈l.eraseIdx i:=by
 have h1:=BU k l i hi;grind
def tE{l:List Int}{p:Nat}(h:p<l.length):l.getD p 0∈l:=by
 simp_all
def EZ(f:Int->List Int)(z:Int)(l:List Int)(k:Int):∀ N:Nat,FF.JM (ad f z l) k N+(if 0<=z/\z<N then(f z).count k else 0)=FF.JM f k N+(if 0<=z/\z<N then l.count k else 0)
 | 0=>by rw[if_neg og,if_neg og];rfl
 | N+1=>by
  have ih:=EZ f z l k N;unfold FF.JM;grind [ad]
theorem abB(f:Int->List Int)(k:Int){z:Int}{N:Nat}(hz:0<=z/\z<N):(f z).count k<=FF.JM f k N:=by
 have:=EZ f z [] k N;grind
def Ra(f:Int->List Int)(k:Int)(B:Nat):∀ N:Nat,(∀ n:Nat,n<N->(f (n:Int)).length<=B)->FF.JM f k N<=N*B
 | 0,_=>by simp[FF.JM]
 | N+1,h=>by
  have ih:=Ra f k B N fun n hn=>h n og;have h1:=h N og;have h2:=List.count_le_length (a:=k) (l:=f (N:Int));unfold FF.JM;grind
namespace FF
def Rb{s t:FF}{z:Int}{l:List Int}(h1:t.kids=ad s.kids z l)(h2:t.roots=s.roots)(hz:0<=z/\z<40)(k:Int):t.o7 k+(s.kids z).count k=s.o7 k+l.count k:=by
 have:=EZ s.kids z l k 40;grind [o7]
theorem Mw{s t:FF}(h1:t.kids=s.kids)(h2:t.roots=s.roots)(k:Int):t.o7 k=s.o7 k:=by grind [o7]
theorem JN{s:FF}{n k:Int}(hn:0<=n/\n<40)(h:k∈s.kids n):1<=s.o7 k:=by
 grind [abB,o7]
theorem Ao{s:FF}{k:Int}(h:k∈s.roots):1<=s.o7 k:=by
 grind [o7]
section
variable{s:FF}{d:Int->Nat}{e q:Int}
def eD.OV(h:s.eD d e q){n:Int}(h1:0<=n)(h2:n<40)(hk:s.aI n≠2):s.kids n=[]/\s.aJ n=[]:=by
 grind [eD.jY]
def eD.JO(h:s.eD d e q)(k:Int):s.o7 k<=324:=by
 have h1:=Ra s.kids k 8 40 (fun n hn=>by
  obtain⟨_,a,b,_⟩:=h.jY n og og
  omega)
 grind [eD.roots,o7]
def eD.sh(h:s.eD d e q)(hB:∀ n,0<=n->n<40->s.bu n<=1000000):s.Sh where
 jY:=h.jY
 kids:=fun n h1 h2 k hk=>⟨(h.kids n h1 h2 k hk).1,(h.kids n h1 h2 k hk).2.1⟩
 data:=fun n h1 h2=>(h.data n h1 h2).1
 roots:=⟨h.roots.1,fun r hr=>⟨(h.roots.2 r hr).1,(h.roots.2 r hr).2.1⟩⟩
 num:=fun n h1 h2=>by
  obtain⟨a,b⟩:=h.num n h1 h2
  have c:=h.JO n
  have e:=hB n h1 h2
  split at b<;>omega
def eD.alx(h:s.eD d e q){z:Int}(h1:0<=z)(h2:z<40)(hz:s.aI z=0):s.o7 z=0/\z≠e:=by
 obtain⟨_,b⟩:=h.num z h1 h2;grind [eD.zero]
theorem eD.cut(h:s.eD d (-1) q){n:Int}{k:Int}(h1:0<=n)(h2:n<40)(hx:qk (s.aJ n) x=true)(hk:jK (s.kids n) (fb (s.aJ n) x)=k):(s.eZ n x).eD d k q:=by
 obtain⟨p1,p2⟩:=nc.1 hx;obtain⟨r1,r2,r3,r4⟩:=h.jY n h1 h2;have hp:fb (s.aJ n) x<(s.kids n).length:=og;have Dr:(s.kids n).getD (fb (s.aJ n) x) 0=k:=by simpa [jK]using hk
 have hkr:0<=k:=by
  have:=tE hp;rw[Dr]at this;exact(h.kids n h1 h2 k this).1
 have hm:∀ m,(s.eZ n x).kids m=if m=n then(s.kids n).eraseIdx (fb (s.aJ n) x)else s.kids m:=fun m=>rfl
 have hnm:∀ m,(s.eZ n x).aJ m=if m=n then(s.aJ n).eraseIdx (fb (s.aJ n) x)else s.aJ m:=fun m=>rfl
 have sub:∀ m j,j∈(s.eZ n x).kids m->j∈s.kids m:=fun m j hj=>by
  grind [List.mem_of_mem_eraseIdx]
 refine⟨h.kinds,fun m a b=> ?_,fun m a b y hy=> ?_,fun m a b j hj=>h.kids m a b j (sub m j hj),h.data,h.roots,fun m a b c gJ hnq=> ?_,fun m a b=> ?_,h.zero,h.pos,h.Mv⟩
 ·grind [fJ.Q9,eD.jY,eZ]
 ·grind [eD.OT,List.mem_of_mem_eraseIdx]
 ·rcases h.up m a b c og hnq with g | ⟨g1,g2,g3,g4,g5⟩;all_goals grind [eZ,OU]
 ·obtain⟨a1,a2⟩:=h.num m a b;have h3:=Rb (s:=s) (t:=s.eZ n x) (z:=n) rfl rfl ⟨h1,h2⟩ m;grind [BU,eZ]
theorem eD.put{k:Int}(h:s.eD d k q){n:Int}(h1:0<=n)(h2:n<40)(hn:s.aI n=2)(hx:qk (s.aJ n) x=false)(hl:(s.aJ n).length<8)(ok:kZ x=true)(hk:0<=k/\k<40/\s.aI k≠0)(ht:s.ed k=s.ed n)(hd:s.aI k=2->s.up k=n/\d n<d k):(s.uT n x k).eD d (-1) q:=by
 obtain⟨r1,r2,r3,r4⟩:=h.jY n h1 h2;have hpl:=py (s.aJ n) x;have hp:fb (s.aJ n) x<=(s.kids n).length:=og;have hm:∀ m,(s.uT n x k).kids m=if m=n then(s.kids n).insertIdx (fb (s.aJ n) x) k else s.kids m:=fun m=>rfl
 have hnm:∀ m,(s.uT n x k).aJ m=if m=n then(s.aJ n).insertIdx (fb (s.aJ n) x) x else s.aJ m:=fun m=>rfl
 refine⟨h.kinds,fun m a b=> ?_,fun m a b y hy=> ?_,fun m a b j hj=> ?_,h.data,h.roots,fun m a b c _ hnq=> ?_,fun m a b=> ?_,h.zero,h.pos,h.Mv⟩
 ·grind [fJ.insert,eD.jY,uT]
 ·grind [List.mem_insertIdx,eD.OT]
 ·rw[hm]at hj;split at hj
  ·rename_i c;subst c;rcases(List.mem_insertIdx hp).1 hj with rfl | hj
   ·grind [uT]
   ·exact h.kids m a b j hj
  ·exact h.kids m a b j hj
 ·by_cases c3:m=k
  ·grind [uT,List.mem_insertIdx]
  ·rcases h.up m a b c c3 hnq with g | ⟨g1,g2,g3,g4,g5⟩;all_goals grind [uT,List.mem_insertIdx]
 ·obtain⟨a1,a2⟩:=h.num m a b;have h3:=Rb (s:=s) (t:=s.uT n x k) (z:=n) rfl rfl ⟨h1,h2⟩ m;have h4:=HZ k m (s.kids n) _ hp;grind [uT]
def eD.fresh(h:s.eD d (-1) (-1)){z k t u:Int}(h1:0<=z)(h2:z<40)(hz:s.aI z=0)(hk:k=1\/k=2)(N:Nat):(s.km z k t 1 u).eD (ad d z N) z (-1):=by
 obtain⟨c0,_⟩:=h.alx h1 h2 hz;obtain⟨k0,n0⟩:=h.OV h1 h2 og;obtain⟨l0,e0⟩:=h.zero z h1 h2 hz;have hm:(s.km z k t 1 u).kids=s.kids:=da _ k0;have hnm:(s.km z k t 1 u).aJ=s.aJ:=da _ n0;have KN:∀ m,(s.km z k t 1 u).aI m=if m=z then k else s.aI m:=fun m=>rfl
 have htr:∀ m,(s.km z k t 1 u).ed m=if m=z then t else s.ed m:=fun m=>rfl
 have NN:∀ m,(s.km z k t 1 u).up m=if m=z then u else s.up m:=fun m=>rfl
 have hdt:∀ m,(s.km z k t 1 u).data m=if m=z then ByteArray.empty else s.data m:=fun m=>rfl
 have hli:∀ m,(s.km z k t 1 u).bO m=if m=z then 1 else s.bO m:=fun m=>rfl
 have TT:∀ m,(s.km z k t 1 u).bu m=if m=z then 0 else s.bu m:=fun m=>rfl
 have Sl:(s.km z k t 1 u).roots=s.roots:=rfl;have hdd:∀ m,ad d z N m=if m=z then N else d m:=fun m=>rfl
 have nz:∀ m j,0<=m->m<40->j∈s.kids m->m≠z/\j≠z:=by
  grind [JN]
 refine⟨fun m a b=> ?_,fun m a b=> ?_,fun m a b y hy=> ?_,fun m a b j hj=> ?_,fun m a b=> ?_,⟨h.roots.1,fun r hr=> ?_⟩,fun m a b c gJ _=> ?_,fun m a b=> ?_,fun m a b c=> ?_,fun m a b c _=> ?_,fun m a b c _=> ?_⟩
 ·grind [eD.kinds]
 ·rw[hnm,hm,KN];grind [eD.jY]
 ·grind [eD.OT]
 ·grind [eD.kids]
 ·rw[hdt,KN];split
  ·simp_all
  grind [eD.data]
 ·grind [eD.roots]
 ·rw[KN,if_neg gJ]at c;rw[NN,KN,hm,hdd,hdd,if_neg gJ,if_neg gJ,Sl];rcases h.up m a b c og og with g | ⟨g1,g2,g3,g4,g5⟩;all_goals grind
 ·obtain⟨a1,a2⟩:=h.num m a b;grind [Mw]
 ·grind [eD.zero]
 ·rw[KN]at c;rw[hli,TT];split at c
  ·omega
  ·rename_i c2;rw[if_neg c2,if_neg c2];exact h.pos m a b c og
 grind [eD.Mv]
theorem eD.pq{z:Int}(h:s.eD d z q)(h1:0<=z)(h2:z<40)(hz:s.aI z=2)(hu:s.up z=z)(hl:s.roots.length<4):eD {s with roots:=s.roots++[z]} d (-1) q:=by
 refine⟨h.kinds,h.jY,h.OT,h.kids,h.data,⟨eI,fun r hr=> ?_⟩,fun m a b c _ hnq=> ?_,fun m a b=> ?_,h.zero,h.pos,h.Mv⟩
 ·grind [eD.roots]
 ·by_cases c2:m=z
  ·simp_all
  ·rcases h.up m a b c c2 hnq with⟨g1,g2⟩ | g;all_goals simp_all
 ·obtain⟨a1,a2⟩:=h.num m a b;grind [o7]
def eD.afx(h:s.eD d (-1) (-1)){k:Int}(h1:0<=k)(h2:k<40)(hk:s.aI k=1):eD {s with bO:=ad s.bO k (s.bO k+1)} d k (-1):=by
 have hli:∀ m,ad s.bO k (s.bO k+1) m=if m=k then s.bO k+1 else s.bO m:=fun m=>rfl
 refine⟨h.kinds,h.jY,h.OT,h.kids,h.data,h.roots,fun m a b c _ _=>h.up m a b c og og,fun m a b=> ?_,fun m a b c=> ?_,fun m a b c _=> ?_,fun m a b c _=> ?_⟩
 ·obtain⟨a1,a2⟩:=h.num m a b;grind [o7]
 ·grind [eD.zero]
 ·show 0<ad s.bO k _ m\/_;rw[hli];obtain⟨a1,a2⟩:=h.num m a b;split
  ·simp_all
  ·exact h.pos m a b c og
 grind [eD.Mv]
def eD.Xw{k:Int}(h:s.eD d k (-1))(hk:s.aI k≠0):eD {s with bO:=ad s.bO k (s.bO k-1)} d (-1) k:=by
 have hli:∀ m,ad s.bO k (s.bO k-1) m=if m=k then s.bO k-1 else s.bO m:=fun m=>rfl
 refine⟨h.kinds,h.jY,h.OT,h.kids,h.data,h.roots,fun m a b c _ hq=>h.up m a b c hq og,fun m a b=> ?_,fun m a b c=> ?_,fun m a b c hq=> ?_,fun m a b c hq=> ?_⟩
 ·obtain⟨a1,a2⟩:=h.num m a b;grind [o7]
 ·grind [eD.zero]
 ·show 0<ad s.bO k _ m\/_;rw[hli,if_neg hq];exact h.pos m a b c og
 grind [eD.Mv]
def eD.abC(h:s.eD d e q)(h1:0<=q->q<40->s.aI q≠0->0<s.bO q\/0<s.bu q)(h2:0<=q->q<40->s.aI q≠2):s.eD d e (-1):=
 ⟨h.kinds,h.jY,h.OT,h.kids,h.data,h.roots,fun m a b c he _=>h.up m a b c he fun e=>by subst e;exact h2 a b c,h.num,h.zero,fun m a b c _=>by
  by_cases e:m=q
  ·subst e;exact h1 a b c
  ·exact h.pos m a b c e,fun m a b c _=>h.Mv m a b c fun e=>by subst e;exact h2 a b c⟩
def eD.weak(h:s.eD d e (-1))(q:Int):s.eD d e q:=
 ⟨h.kinds,h.jY,h.OT,h.kids,h.data,h.roots,fun m a b c he _=>h.up m a b c he og,h.num,h.zero,fun m a b c _=>h.pos m a b c og,fun m a b c _=>h.Mv m a b c og⟩
def eD.aiI(h:s.eD d (-1) q)(h1:0<=q)(h2:q<40)(hl:s.bO q=0)(hh:s.bu q=0)(hk:s.kids q=[]):(s.km q 0 0 0 0).eD d (-1) (-1):=by
 have c0:s.o7 q=0:=by
  have:=(h.num q h1 h2).2;omega
 have n0:s.aJ q=[]:=List.eq_nil_of_length_eq_zero (by rw[(h.jY q h1 h2).2.1,hk];rfl);have hm:(s.km q 0 0 0 0).kids=s.kids:=da _ hk;have hnm:(s.km q 0 0 0 0).aJ=s.aJ:=da _ n0;have KN:∀ m,(s.km q 0 0 0 0).aI m=if m=q then 0 else s.aI m:=fun m=>rfl
 have htr:∀ m,(s.km q 0 0 0 0).ed m=if m=q then 0 else s.ed m:=fun m=>rfl
 have NN:∀ m,(s.km q 0 0 0 0).up m=if m=q then 0 else s.up m:=fun m=>rfl
 have hdt:∀ m,(s.km q 0 0 0 0).data m=if m=q then ByteArray.empty else s.data m:=fun m=>rfl
 have hli:∀ m,(s.km q 0 0 0 0).bO m=if m=q then 0 else s.bO m:=fun m=>rfl
 have TT:∀ m,(s.km q 0 0 0 0).bu m=if m=q then 0 else s.bu m:=fun m=>rfl
 have Sl:(s.km q 0 0 0 0).roots=s.roots:=rfl;have nz:∀ m j,0<=m->m<40->j∈s.kids m->m≠q/\j≠q:=by
  grind [JN]
 refine⟨fun m a b=> ?_,fun m a b=> ?_,fun m a b y hy=> ?_,fun m a b j hj=> ?_,fun m a b=> ?_,⟨h.roots.1,fun r hr=> ?_⟩,fun m a b c _ _=> ?_,fun m a b=> ?_,fun m a b c=> ?_,fun m a b c _=> ?_,fun m a b c _=> ?_⟩
 ·grind [eD.kinds]
 ·rw[hnm,hm,KN];grind [eD.jY]
 ·grind [eD.OT]
 ·rw[hm]at hj;obtain⟨n1,n2⟩:=nz m j a b hj;rw[KN,htr,htr,NN,if_neg n2,if_neg n2,if_neg n1,if_neg n2];exact h.kids m a b j hj
 ·rw[hdt,KN];split
  ·simp_all
  grind [eD.data]
 ·grind [Ao,eD.roots]
 ·have gJ:m≠q:=fun e=>by subst e;rw[KN,if_pos rfl]at c;omega
  rw[KN,if_neg gJ]at c;rw[NN,KN,hm,if_neg gJ,Sl];rcases h.up m a b c og gJ with g | ⟨g1,g2,g3,g4,g5⟩;all_goals grind
 ·obtain⟨a1,a2⟩:=h.num m a b;grind [Mw]
 ·grind [eD.zero]
 ·rw[KN]at c;rw[hli,TT];split at c
  ·omega
  ·rename_i c2;rw[if_neg c2,if_neg c2];exact h.pos m a b c c2
 grind [eD.Mv]
end
end FF
end Go.X.Tr

namespace Go.X.Tr
open Go Go.X
variable{x:ByteArray}
def TU{l:List ByteArray}{p:Nat}(hp:p<=l.length)(h1:∀ i,i<p->blt (pG l i) x=true)(h2:p<l.length->blt (pG l p) x=false):fb l x=p:=by
 grind [py,DC,Ai]
theorem E0{l:List ByteArray}(hl:fJ l)(h:qk l x=true):fb (l.eraseIdx (fb l x)) x=fb l x:=by
 obtain⟨p1,p2⟩:=nc.1 h;refine TU (by rw[List.length_eraseIdx,if_pos p1];omega) (fun i hi=> ?_) fun hi=> ?_;all_goals grind [HY,JJ,fJ]
theorem JP{α:Type}(y:α):∀ (l:List α) (p:Nat),p<l.length->(l.eraseIdx p).insertIdx p (l.getD p y)=l
 | x::l,0,_=>sq
 | x::l,p+1,h=>by
  rw[List.eraseIdx_cons_succ,List.insertIdx_succ_cons,List.getD_cons_succ,JP y l p (by simpa using h)]
namespace FF
def afy{s:FF}{n:Int}(hl:fJ (s.aJ n))(h:qk (s.aJ n) x=true)(hk:(s.aJ n).length=(s.kids n).length):(s.eZ n x).uT n x (jK (s.kids n) (fb (s.aJ n) x))=s:=by
 obtain⟨p1,p2⟩:=nc.1 h;have e1:((s.eZ n x).aJ n)=(s.aJ n).eraseIdx (fb (s.aJ n) x):=ah _ _ _;have e2:((s.eZ n x).kids n)=(s.kids n).eraseIdx (fb (s.aJ n) x):=ah _ _ _;have a1:=JP ByteArray.empty (s.aJ n) _ p1;have a2:=JP (0:Int) (s.kids n) (fb (s.aJ n) x) og;rw[show(s.aJ n).getD (fb (s.aJ n) x) ByteArray.empty=x from p2]at a1;have b1:ad (s.eZ n x).aJ n (((s.eZ n x).aJ n).insertIdx (fb ((s.eZ n x).aJ n) x) x)=s.aJ:=by
  rw[e1,E0 hl h,a1];funext j;unfold ad;split;all_goals simp_all[ae,eZ]
 have b2:ad (s.eZ n x).kids n (((s.eZ n x).kids n).insertIdx (fb ((s.eZ n x).aJ n) x) (jK (s.kids n) (fb (s.aJ n) x)))=s.kids:=by
  rw[e2,e1,E0 hl h,show jK (s.kids n) (fb (s.aJ n) x)=(s.kids n).getD (fb (s.aJ n) x) 0 from by simp[jK],a2];funext j;unfold ad;split;all_goals simp_all[ae,eZ]
 simp_all[uT,eZ]
def Ch(s:FF)(d:Int->Nat)(k:Int):Prop:=∀ n,0<=n->n<40->s.aI n=2->n≠k->s.up n=n\/(0<=s.up n/\s.up n<40/\s.aI (s.up n)=2/\d (s.up n)<d n)
theorem E1{s t:FF}(h:t.up=s.up)(k:Int):∀ (f:Nat) (n:Int),BR t f n k=BR s f n k
 | 0,n=>rfl
 | f+1,n=>by unfold BR;rw[h,E1 h k f]
theorem BV{s:FF}{d:Int->Nat}{k:Int}(hc:s.Ch d k):∀ (f g:Nat) (n:Int),0<=n->n<40->s.aI n=2->d n<=f->d n<=g->BR s f n k=BR s g n k
 | 0,0,_,_,_,_,_,_=>rfl
 | 0,g+1,n,h1,h2,h3,h4,h5=>by
  unfold BR;by_cases c:n=k
  ·rw[if_pos c];simp[c]
  ·rw[if_neg c];rcases hc n h1 h2 h3 c with u | ⟨_,_,_,u⟩
   ·rw[if_pos u];simp[c]
   ·omega
 | f+1,0,n,h1,h2,h3,h4,h5=>by
  unfold BR;by_cases c:n=k
  ·rw[if_pos c];simp[c]
  ·rw[if_neg c];rcases hc n h1 h2 h3 c with u | ⟨_,_,_,u⟩
   ·rw[if_pos u];simp[c]
   ·omega
 | f+1,g+1,n,h1,h2,h3,h4,h5=>by
  unfold BR;by_cases c:n=k
  ·rw[if_pos c,if_pos c]
  ·rw[if_neg c,if_neg c];by_cases c2:s.up n=n
   ·rw[if_pos c2,if_pos c2]
   ·rw[if_neg c2,if_neg c2];rcases hc n h1 h2 h3 c with u | ⟨u1,u2,u3,u4⟩
    ·exact absurd u c2
    ·exact BV hc f g _ u1 u2 u3 og og
theorem Mx(d:Int->Nat)(s:FF)(k:Int):Mu d s k k=true:=by
 unfold Mu;cases d k with
 | zero=>simp[BR]
 | succ f=>simp[BR]
theorem Ap{s:FF}{d:Int->Nat}{k n:Int}(hc:s.Ch d k)(h1:0<=n)(h2:n<40)(h3:s.aI n=2)(h4:n≠k):Mu d s n k=if s.up n=n then false else Mu d s (s.up n) k:=by
 unfold Mu;rw[BV hc (d n) (d n+1) n h1 h2 h3 og og];grind [BR,BV,Ch]
def eD.ch{s:FF}{d:Int->Nat}{k:Int}(h:s.eD d k (-1)):s.Ch d k:=fun n h1 h2 h3 h4=>by
 rcases h.up n h1 h2 h3 h4 og with g | ⟨g1,g2,g3,_,g5⟩;all_goals omega
def eD.chI{s:FF}{d:Int->Nat}(h:s.Inv d)(k:Int):s.Ch d k:=fun n h1 h2 h3 h4=>by
 rcases h.up n h1 h2 h3 og og with g | ⟨g1,g2,g3,_,g5⟩;all_goals omega
def vy(d:Int->Nat)(s:FF)(k to:Int):Int->Nat:=fun x=>d x+(if Mu d s x k=true then d to+1 else 0)
def eD.alz{s:FF}{d:Int->Nat}{k to:Int}(h:s.eD d k (-1))(h1:0<=k)(h2:k<40)(h3:s.aI k=2)(h4:0<=to)(h5:to<40)(h6:s.aI to=2)(hu:Mu d s to k=false):eD {s with up:=ad s.up k to} (vy d s k to) k (-1)/\vy d s k to to<vy d s k to k:=by
 have c0:s.o7 k=0:=by
  have a:=(h.num k h1 h2).2;grind [eD.Mv]
 have hc:=h.ch;have NN:∀ m,ad s.up k to m=if m=k then to else s.up m:=fun m=>rfl
 refine⟨⟨h.kinds,h.jY,h.OT,fun n a b j hj=> ?_,h.data,⟨h.roots.1,fun r hr=> ?_⟩,fun n a b c hk hq=> ?_,h.num,h.zero,h.pos,h.Mv⟩,?_⟩
 ·grind [eD.kids,JN,Ap,vy]
 ·grind [eD.roots,Ao]
 ·show(n∈s.roots/\ad s.up k to n=n)\/(0<=ad s.up k to n/\ad s.up k to n<40/\s.aI (ad s.up k to n)=2/\n∈s.kids (ad s.up k to n)/\vy d s k to (ad s.up k to n)<vy d s k to n);rw[NN,if_neg hk];rcases h.up n a b c hk hq with g | ⟨g1,g2,g3,g4,g5⟩;all_goals grind [Ap,vy]
 grind [vy,Mx]
structure Ok(s:FF)(d:Int->Nat)(B:Int):Prop where
 inv:s.Inv d
 bu:∀ n,0<=n->n<40->s.bu n<=B
 nn:0<=B
def Ok.sh{s:FF}{d:Int->Nat}{B:Int}(h:s.Ok d B)(hB:B<=1000000):s.Sh:=h.inv.sh fun n a b=>Int.le_trans (h.bu n a b) hB
theorem E2(s:FF):∀ k:Nat,k<=40->s.ye k= -1\/(40-(k:Int)<=s.ye k/\s.ye k<40/\s.aI (s.ye k)=0)
 | 0,_=>.inl rfl
 | k+1,h=>by
  unfold ye;split
  ·rename_i c;exact .inr ⟨og,og,c⟩
  ·rcases E2 s k og with g | ⟨g1,g2,g3⟩
   ·exact .inl g
   ·exact .inr ⟨og,g2,g3⟩
def Aq{s:FF}(h:¬s.free<0):0<=s.free/\s.free<40/\s.aI s.free=0:=by
 grind [E2,free]
section
variable{s:FF}{d:Int->Nat}{B:Int}
def Ok.Al(h:s.Ok d B):∃ d',s.Al.Ok d' (B+1):=by
 have hn:=h.nn;unfold FF.Al;split
 ·rename_i c;unfold rA at c;split at c
  ·omega
  ·split at c
   ·omega
   ·rename_i c1 c2;obtain⟨f1,f2,f3⟩:=Aq c2;have hr:=h.inv.roots.1;have h1:=h.inv.fresh (k:=2) (t:=(s.roots.length:Int)) (u:=s.free) f1 f2 f3 (.inr rfl) 0;have h2:=h1.pq f1 f2 (ah _ _ _) (ah _ _ _) (show s.roots.length<4 by omega);refine⟨_,h2,fun n a b=> ?_,og⟩;show ad s.bu s.free 0 n<=_;unfold ad;split
    ·omega
    ·have:=h.bu n a b;omega
 ·exact⟨d,h.inv,fun n a b=>by have:=h.bu n a b;omega,og⟩
def xa{s:FF}{n:Int}(h:s.fD n x=0):s.cQ n 2=0/\kZ x=true/\qk (s.aJ n) x=false/\(s.aJ n).length≠8:=by
 grind [fD]
def Rc{s:FF}{n:Int}(h:s.fX n x=0):s.cQ n 2=0/\qk (s.aJ n) x=true/\s.bS n x=jK (s.kids n) (fb (s.aJ n) x):=by
 grind [fX,bS]
theorem Ok.gK(h:s.Inv d){n:Int}(h0:s.fX n x=0):0<=n/\n<40/\s.aI n=2/\s.bS n x∈s.kids n/\qk (s.aJ n) x=true/\jK (s.kids n) (fb (s.aJ n) x)=s.bS n x:=by
 obtain⟨a,b,c⟩:=Rc h0;obtain⟨i1,i2,i3,i4⟩:=jZ a;grind [eD.jY,nc,jK]
theorem Ok.make(h:s.Ok d B)(n:Int)(x:ByteArray)(k:Int):∃ d',(s.make n x k).Ok d' (B+1):=by
 have hn:=h.nn;unfold FF.make;split
 ·rename_i c;unfold nF at c;split at c
  ·omega
  ·split at c
   ·omega
   ·split at c
    ·omega
    ·rename_i c0 c1 c2;obtain⟨f1,f2,f3⟩:=Aq c2;obtain⟨a1,a2,a3,a4⟩:=xa (show s.fD n x=0 by omega);obtain⟨i1,i2,_,i4⟩:=jZ a1;have i5:=i4 og;have gJ:n≠s.free:=fun e=>by rw[<-e]at f3;omega
     have h1:=h.inv.fresh (k:=k) (t:=s.ed n) (u:=n) f1 f2 f3 og (d n+1);have e1:(s.km s.free k (s.ed n) 1 n).aI n=s.aI n:=ae _ _ gJ;have e2:(s.km s.free k (s.ed n) 1 n).aJ n=s.aJ n:=ae _ _ gJ;have e3:(s.km s.free k (s.ed n) 1 n).ed n=s.ed n:=ae _ _ gJ;have h2:=h1.put (n:=n) (x:=x) i1 i2 (by rw[e1];exact i5) (by rw[e2];exact a3) (by rw[e2];have:=(h.inv.jY n i1 i2).2.2.1;omega) a2 ⟨f1,f2,by
      rw[show(s.km s.free k (s.ed n) 1 n).aI s.free=k from ah _ _ _];omega⟩ (by rw[e3];exact ah _ _ _) fun _=>⟨ah _ _ _,by rw[ae _ _ gJ,ah];omega⟩
     refine⟨_,h2,fun m a b=> ?_,og⟩;show ad s.bu s.free 0 m<=_;unfold ad;split
     ·omega
     ·have:=h.bu m a b;omega
 ·exact⟨d,h.inv,fun n a b=>by have:=h.bu n a b;omega,og⟩
def Ok.EW(h:s.Ok d B)(k n:Int)(x:ByteArray):(s.EW k n x).Ok d (B+1):=by
 have hn:=h.nn;unfold FF.EW;split
 ·rename_i c;unfold vJ at c;split at c
  ·omega
  ·split at c
   ·omega
   ·split at c
    ·omega
    ·rename_i c0 c1 c2;obtain⟨a1,a2,a3,a4⟩:=xa (show s.fD n x=0 by omega);obtain⟨i1,i2,_,i4⟩:=jZ a1;obtain⟨j1,j2,_,j4⟩:=jZ (show s.cQ k 1=0 by omega);have i5:=i4 og;have j5:=j4 og;have h1:=h.inv.afx j1 j2 j5;have h2:=h1.put (n:=n) (x:=x) i1 i2 i5 a3 (by show(s.aJ n).length<8;have:=(h.inv.jY n i1 i2).2.2.1;omega) a2 ⟨j1,j2,by show s.aI k≠0;omega⟩ (show s.ed k=s.ed n by omega) (fun g=>by
      have g2:s.aI k=2:=g
      omega)
     exact⟨h2,fun m a b=>by have:=h.bu m a b;show s.bu m<=_;omega,og⟩
 ·exact⟨h.inv,fun n a b=>by have:=h.bu n a b;omega,og⟩
def Ok.eh(h:s.Ok d B)(n:Int)(x:ByteArray):(s.eh n x).Ok d (B+1):=by
 have hn:=h.nn;unfold FF.eh;split
 ·rename_i c;unfold dP at c;split at c
  ·omega
  ·split at c
   ·omega
   ·rename_i c0 c1;obtain⟨i1,i2,i3,i4,i5,i6⟩:=Ok.gK h.inv (show s.fX n x=0 by omega);obtain⟨k1,k2,k3,k4,k5⟩:=h.inv.kids n i1 i2 _ i4;have h1:=h.inv.cut (k:=s.bS n x) i1 i2 i5 i6;have h2:=h1.Xw k3;have hk:s.aI (s.bS n x)=2->s.kids (s.bS n x)=[]/\s.bu (s.bS n x)=0:=fun g=>by
     have g1:=(h.inv.num _ k1 k2).1;have g2:¬(0<(s.kids (s.bS n x)).length\/0<s.bu (s.bS n x)):=fun q=>c1 ⟨g,q⟩;exact⟨List.eq_nil_of_length_eq_zero og,og⟩
    have gJ:s.bS n x≠n\/s.aI (s.bS n x)≠2:=by
     by_cases g:s.aI (s.bS n x)=2
     ·left;intro e;rw[e]at i4 hk g;rw[(hk g).1]at i4;cases i4
     ·exact .inr g
    have hkk:s.kids (s.bS n x)=[]:=by
     by_cases g:s.aI (s.bS n x)=2
     ·exact(hk g).1
     ·exact(h.inv.OV k1 k2 g).1
    have hkn:s.bS n x≠n:=fun e=>by rw[e]at hkk;rw[hkk]at i4;cases i4
    have hb:∀ m,0<=m->m<40->s.bu m<=B+1:=fun m a b=>by have:=h.bu m a b;omega
    unfold sD;split
    ·rename_i c2;have h3:=h2.aiI k1 k2 c2.1 c2.2 (by
      show ad s.kids n _ (s.bS n x)=[]
      rw[ae _ _ hkn];exact hkk)
     refine⟨h3,fun m a b=> ?_,og⟩;show ad s.bu _ 0 m<=_;unfold ad;split
     ·omega
     ·exact hb m a b
    ·rename_i c2;have g0:s.aI (s.bS n x)≠2:=fun g=>by
      refine c2 ⟨?_,(hk g).2⟩;show ad s.bO _ _ (s.bS n x)=0;rw[ah];show s.bO (s.bS n x)-1=0;have:=h.inv.Mv _ k1 k2 g og;omega
     refine⟨h2.abC (fun _ _ _=> ?_) fun _ _=>g0,hb,og⟩;have a1:=(h2.num _ k1 k2);have a2:¬(ad s.bO (s.bS n x) (s.bO (s.bS n x)-1) (s.bS n x)=0/\s.bu (s.bS n x)=0):=c2;have a3:(0:Int)<=s.bu (s.bS n x):=a1.1;have a4:ad s.bO (s.bS n x) (s.bO (s.bS n x)-1) (s.bS n x)=_:=a1.2;show 0<ad s.bO (s.bS n x) (s.bO (s.bS n x)-1) (s.bS n x)\/0<s.bu (s.bS n x);rw[if_neg (show ¬s.bS n x=(-1:Int) by omega)]at a4;omega
 ·exact⟨h.inv,fun n a b=>by have:=h.bu n a b;omega,og⟩
theorem Ok.dX(h:s.Ok d B)(n:Int):(s.dX n).Ok d (B+1):=by
 have hn:=h.nn;unfold FF.dX;split
 ·rename_i c;obtain⟨i1,i2,i3⟩:=Am c;have TT:∀ m,ad s.bu n (s.bu n+1) m=if m=n then s.bu n+1 else s.bu m:=fun m=>rfl
  have a0:=(h.inv.num n i1 i2).1;refine⟨⟨h.inv.kinds,h.inv.jY,h.inv.OT,h.inv.kids,h.inv.data,h.inv.roots,h.inv.up,fun m a b=> ?_,fun m a b c=> ?_,fun m a b c e=> ?_,h.inv.Mv⟩,fun m a b=> ?_,og⟩
  ·obtain⟨a1,a2⟩:=h.inv.num m a b;refine⟨?_,a2⟩;show 0<=ad s.bu n _ m;rw[TT];split<;>omega
  ·obtain⟨b1,b2⟩:=h.inv.zero m a b c;have:m≠n:=fun e=>by subst e;exact i3 c
   exact⟨b1,by show ad s.bu n _ m=0;rw[TT,if_neg this];exact b2⟩
  ·show 0<s.bO m\/0<ad s.bu n _ m;rw[TT];split
   ·omega
   ·exact h.inv.pos m a b c e
  ·show ad s.bu n _ m<=_;have:=h.bu m a b;have:=h.bu n i1 i2;rw[TT];split<;>omega
 ·exact⟨h.inv,fun n a b=>by have:=h.bu n a b;omega,og⟩
theorem Ok.lI(h:s.Ok d B)(n:Int):(s.lI n).Ok d (B+1):=by
 have hn:=h.nn;unfold FF.lI;split
 ·rename_i c;unfold EX at c;split at c
  ·omega
  ·split at c
   ·omega
   ·rename_i c0 c1;obtain⟨i1,i2,i3⟩:=Am (show s.cQ n 0=0 by omega);have a0:=(h.inv.num n i1 i2).1;have TT:∀ m,ad s.bu n (s.bu n-1) m=if m=n then s.bu n-1 else s.bu m:=fun m=>rfl
    have hw:=h.inv.weak n;have h2:eD {s with bu:=ad s.bu n (s.bu n-1)} d (-1) n:=⟨hw.kinds,hw.jY,hw.OT,hw.kids,hw.data,hw.roots,hw.up,fun m a b=>by
      obtain⟨a1,a2⟩:=hw.num m a b
      refine⟨?_,a2⟩
      show 0<=ad s.bu n _ m
      rw[TT];split<;>omega,fun m a b c=>by
      obtain⟨b1,b2⟩:=hw.zero m a b c
      have:m≠n:=fun e=>by subst e;exact i3 c
      exact⟨b1,by show ad s.bu n _ m=0;rw[TT,if_neg this];exact b2⟩,fun m a b c e=>by
      show 0<s.bO m\/0<ad s.bu n _ m
      rw[TT,if_neg e]
      exact hw.pos m a b c e,hw.Mv⟩
    have hb:∀ m,0<=m->m<40->ad s.bu n (s.bu n-1) m<=B+1:=fun m a b=>by
     have h1:=h.bu m a b;have h3:=h.bu n i1 i2;rw[TT];split<;>omega
    unfold sD;split
    ·rename_i c2;have g0:s.aI n≠2:=fun g=>by
      have g1:=h.inv.Mv n i1 i2 g og;have g2:s.bO n=0:=c2.1;omega
     have h3:=h2.aiI i1 i2 c2.1 c2.2 (h.inv.OV i1 i2 g0).1;refine⟨h3,fun m a b=> ?_,og⟩;show ad (ad s.bu n (s.bu n-1)) n 0 m<=_;have:=hb m a b;rw[show ad (ad s.bu n (s.bu n-1)) n 0 m=if m=n then 0 else ad s.bu n (s.bu n-1) m from rfl];split<;>omega
    ·rename_i c2;have a4:=(h.inv.num n i1 i2).2;rw[if_neg (show ¬n=(-1:Int) by omega)]at a4;have a5:¬(s.bO n=0/\ad s.bu n (s.bu n-1) n=0):=c2;rw[ah]at a5;refine⟨⟨h2.kinds,h2.jY,h2.OT,h2.kids,h2.data,h2.roots,h.inv.up,h2.num,h2.zero,fun m a b c _=> ?_,h.inv.Mv⟩,hb,og⟩;by_cases e:m=n
     ·subst e;show 0<s.bO m\/0<ad s.bu m _ m;rw[ah];omega
     ·exact h2.pos m a b c e
 ·exact⟨h.inv,fun n a b=>by have:=h.bu n a b;omega,og⟩
theorem Ok.data(h:s.Ok d B){n:Int}(hk:s.aI n=1)(x:ByteArray)(hx:x.size<=40):Ok {s with data:=ad s.data n x} d (B+1):=by
 have hn:=h.nn;refine⟨⟨h.inv.kinds,h.inv.jY,h.inv.OT,h.inv.kids,fun m a b=> ?_,h.inv.roots,h.inv.up,h.inv.num,h.inv.zero,h.inv.pos,h.inv.Mv⟩,fun m a b=>by have:=h.bu m a b;show s.bu m<=_;omega,og⟩;show(ad s.data n x m).size<=40/\(s.aI m≠1->ad s.data n x m=ByteArray.empty);rw[show ad s.data n x m=if m=n then x else s.data m from rfl];split
 ·simp_all
 ·exact h.inv.data m a b
def Ok.up1(h:s.Ok d B):s.Ok d (B+1):=⟨h.inv,fun n a b=>by have:=h.bu n a b;omega,by have:=h.nn;omega⟩
theorem Ar(x:ByteArray)(a:Nat)(y:ByteArray):(Z2 x a y).size=max x.size (a+y.size):=by
 unfold Z2;rw[<-ByteArray.size_data];simp
theorem Ok.cC(h:s.Ok d B)(n a:Int)(x:ByteArray):(s.cC n a x).Ok d (B+1):=by
 unfold FF.cC;split
 ·rename_i c;obtain⟨c,_⟩:=c;unfold fC at c;split at c
  ·omega
  ·split at c
   ·omega
   ·split at c
    ·omega
    ·obtain⟨i1,i2,_,i4⟩:=jZ (show s.cQ n 1=0 by omega);refine h.data (i4 og) _ ?_;rw[Ar];have:=(h.inv.data n i1 i2).1;omega
 ·exact h.up1
def Ok.move(h:s.Ok d B)(n:Int)(x:ByteArray)(to:Int)(y:ByteArray):∃ d',(s.move d n x to y).Ok d' (B+1):=by
 have hn:=h.nn;unfold FF.move;split
 ·exact⟨d,h.up1⟩
 ·rename_i c;have hb:∀ m,0<=m->m<40->s.bu m<=B+1:=fun m a b=>by have:=h.bu m a b;omega
  have c':s.gx d n x to=0:=og;unfold gx at c';split at c'
  ·omega
  ·split at c'
   ·omega
   ·split at c'
    ·omega
    ·split at c'
     ·omega
     ·rename_i c0 c1 c2 c3;obtain⟨i1,i2,i3,i4,i5,i6⟩:=Ok.gK h.inv (show s.fX n x=0 by omega);obtain⟨k1,k2,k3,k4,k5⟩:=h.inv.kids n i1 i2 _ i4;have h1:=h.inv.cut (k:=s.bS n x) i1 i2 i5 i6;obtain⟨r1,r2,r3,r4⟩:=h.inv.jY n i1 i2;split
      ·refine⟨d,?_,fun m a b=>hb m a b,og⟩;have e:=afy r1 i5 r2;rw[i6]at e;rw[e];exact h.inv
      ·rename_i c4;obtain⟨a1,a2,a3,a4⟩:=xa (show(s.eZ n x).fD to y=0 by omega);obtain⟨t1,t2,_,t4⟩:=jZ a1;have t5:s.aI to=2:=t4 og;have hlen:((s.eZ n x).aJ to).length<8:=by have:=(h1.jY to t1 t2).2.2.1;omega
       split
       ·rename_i c5;have hu:Mu d (s.eZ n x) to (s.bS n x)=false:=by
         have e:Mu d (s.eZ n x) to (s.bS n x)=Mu d s to (s.bS n x):=E1 (s:=s) (t:=s.eZ n x) rfl _ _ _;rw[e];cases g:Mu d s to (s.bS n x)with
         | false=>rfl
         | true=>exact absurd ⟨c5,g⟩ c3
        obtain⟨g1,g2⟩:=h1.alz k1 k2 c5 t1 t2 t5 hu;have h3:=g1.put (n:=to) (x:=y) t1 t2 t5 a3 hlen a2 ⟨k1,k2,k3⟩ (show s.ed (s.bS n x)=s.ed to by omega) fun _=>⟨ah _ _ _,g2⟩;exact⟨_,h3,fun m a b=>hb m a b,og⟩
       ·rename_i c5;have h3:=h1.put (n:=to) (x:=y) t1 t2 t5 a3 hlen a2 ⟨k1,k2,k3⟩ (show s.ed (s.bS n x)=s.ed to by omega) fun g=>absurd g c5;exact⟨d,h3,fun m a b=>hb m a b,og⟩
def My:dR.Ok (fun _=>0) 0:=by
 have hc:∀ k,dR.o7 k=0:=fun k=>by
  rfl
 refine⟨⟨fun _ _ _=>.inl rfl,fun _ _ _=>⟨fJ.nil,rfl,by simp[dR],fun _=>rfl⟩,fun _ _ _ x hx=>by simp[dR]at hx,fun _ _ _ k hk=>by simp[dR]at hk,fun _ _ _=>⟨by simp[dR],fun _=>rfl⟩,⟨by simp[dR],fun r hr=>by simp[dR]at hr⟩,fun _ _ _ c=>by simp[dR]at c,fun m a b=>⟨by simp[dR],?_⟩,fun _ _ _ _=>⟨rfl,rfl⟩,fun _ _ _ c=>absurd rfl c,fun _ _ _ c=>by simp[dR]at c⟩,fun _ _ _=>by simp[dR],Int.le_refl _⟩;rw[hc,if_neg (show ¬m=(-1:Int) by omega)];rfl
end
theorem Sh.eZ{s:FF}(h:s.Sh){n:Int}{x:ByteArray}(h1:0<=n)(h2:n<40)(hx:qk (s.aJ n) x=true):(s.eZ n x).Sh:=by
 obtain⟨p1,p2⟩:=nc.1 hx;obtain⟨r1,r2,r3,r4⟩:=h.jY n h1 h2;have hm:∀ m,(s.eZ n x).kids m=if m=n then(s.kids n).eraseIdx (fb (s.aJ n) x)else s.kids m:=fun m=>rfl
 have hnm:∀ m,(s.eZ n x).aJ m=if m=n then(s.aJ n).eraseIdx (fb (s.aJ n) x)else s.aJ m:=fun m=>rfl
 refine⟨fun m a b=> ?_,fun m a b j hj=> ?_,h.data,h.roots,h.num⟩
 ·rw[hm,hnm];by_cases c:m=n
  ·subst c;rw[if_pos rfl,if_pos rfl,List.length_eraseIdx,if_pos p1,List.length_eraseIdx,if_pos og];exact⟨r1.Q9 _ p1,og,og,fun q=>by rw[r4 q];rfl⟩
  ·rw[if_neg c,if_neg c];exact h.jY m a b
 ·rw[hm]at hj;split at hj
  ·rename_i c;subst c;exact h.kids m a b j (List.mem_of_mem_eraseIdx hj)
  ·exact h.kids m a b j hj
theorem Sh.km{s:FF}(h:s.Sh)(z k t l u:Int)(hl: -1000000<=l/\l<=1000000):(s.km z k t l u).Sh:=by
 refine⟨fun m a b=> ?_,fun m a b j hj=> ?_,fun m a b=> ?_,h.roots,fun m a b=> ?_⟩
 ·show fJ (ad s.aJ z [] m)/\(ad s.aJ z [] m).length=(ad s.kids z [] m).length/\(ad s.aJ z [] m).length<=8/\(ad s.aI z k m≠2->ad s.aJ z [] m=[]);unfold ad;by_cases c:m=z
  ·simp only[c,if_true];exact⟨fJ.nil,sq,sq,sq⟩
  ·simp only[c,if_false];exact h.jY m a b
 ·have K3:j∈ad s.kids z [] m:=hj;unfold ad at K3;split at K3
  ·cases K3
  ·exact h.kids m a b j K3
 ·show(ad s.data z _ m).size<=40;unfold ad;split
  ·simp
  ·exact h.data m a b
 ·show-1000000<=ad s.bO z l m/\ad s.bO z l m<=1000000/\0<=ad s.bu z 0 m/\ad s.bu z 0 m<=1000000;have:=h.num m a b;unfold ad;split<;>omega
theorem Sh.gK{s:FF}(h:s.Sh){n:Int}(h0:s.fX n x=0):0<=n/\n<40/\s.aI n=2/\0<=s.bS n x/\s.bS n x<40/\qk (s.aJ n) x=true:=by
 obtain⟨a,b,c⟩:=Rc h0;obtain⟨i1,i2,i3,i4⟩:=jZ a;obtain⟨r1,r2,r3,r4⟩:=h.jY n i1 i2;obtain⟨p1,p2⟩:=nc.1 b;have:=tE (l:=s.kids n) (p:=fb (s.aJ n) x) og;have h3:=h.kids n i1 i2 (s.bS n x) (by rw[c];simpa [jK]using this);simp_all
theorem H3{α:Type}(f:Int->α)(z:Int)(a b:α):ad (ad f z a) z b=ad f z b:=by
 grind [ad]
theorem abE(s:FF)(z k t l u v:Int):({s.km z k t l u with up:=ad (s.km z k t l u).up z v} :FF)=s.km z k t l v:=by
 grind [km,H3]
end FF
end Go.X.Tr

namespace Go.X.Tr
open Go Go.X
variable{z:Int}
namespace FF
theorem yT(s:FF):∀ (i:Nat),i<=40->(∀ j:Int,0<=j->j<i->s.aI j≠0)->s.ye (40-i)=s.free
 | 0,_,_=>rfl
 | i+1,h,ho=>by
  rw[<-yT s i og fun j a b=>ho j a og];obtain⟨k,hk⟩:∃ k,40-i=k+1:=⟨39-i,og⟩;grind [ye]
def qW{s:FF}{i:Int}(h1:0<=i)(h2:i<40)(ho:∀ j,0<=j->j<i->s.aI j≠0)(hz:s.aI i=0):s.free=i:=by
 have h:=yT s i.toNat og fun j a b=>ho j a og;rw[<-h];obtain⟨k,hk⟩:∃ k,40-i.toNat=k+1:=⟨39-i.toNat,og⟩;grind [ye]
theorem Bx{s:FF}(ho:∀ j,0<=j->j<40->s.aI j≠0):s.free= -1:=by
 have h:=yT s 40 (Nat.le_refl _) fun j a b=>ho j a og;rw[<-h];rfl
end FF
namespace FF
end FF
section
variable{W w:World}{S:Nat->Nat->Prop}{H F:List aG}
theorem As(h:0<=z/\z<40):au z.toNat=true:=by show Nat.blt z.toNat 40=true;simp;omega
def Xx(x:aG):∀ (L:List aG),cX (x::L) L [x]
 | []=>.nil
 | _::r=>.cons (.ao .aa) (Xx x r)
def oE{e:TypeId}{s:FC}(hz:0<=z/\z<40)(hp:cX H [.aV au (s.bA e)] F)(h:XM W S H w):XM W S (kR (s.nP z) (s.nC z) e (s.aJ z):: .aV (jS au z.toNat) (s.bA e)::F) w:=by
 have h1:=pI z.toNat (As hz) (h.cG hp.cG);have e1:(s.bA e z.toNat).D3=kR (s.nP z) (s.nC z) e (s.aJ z):=by
  grind [FC.bA]
 simp_all
def Au{e:TypeId}{s:FC}(hz:0<=z/\z<40)(hp:cX H [.aV au (s.bB e)] F)(h:XM W S H w):XM W S (dH (s.kP z) (s.kC z) e (s.kids z):: .aV (jS au z.toNat) (s.bB e)::F) w:=by
 have h1:=pI z.toNat (As hz) (h.cG hp.cG);have e1:(s.bB e z.toNat).D3=dH (s.kP z) (s.kC z) e (s.kids z):=by
  grind [FC.bB]
 simp_all
theorem TV(e:TypeId)(s t:FC)(z:Int)(hz:0<=z/\z<40)(l:List ByteArray)(p:Option Addr)(c:Nat)(h1:t.aJ=ad s.aJ z l)(h2:t.nP=ad s.nP z p)(h3:t.nC=ad s.nC z c):Da (s.bA e) z.toNat ⟨.slice p l.length c,e,1,l.length,strs l⟩=t.bA e:=by
 funext i;unfold FC.bA;rw[h1,h2,h3];grind [n9,mO,ad]
theorem TW(e:TypeId)(s t:FC)(z:Int)(hz:0<=z/\z<40)(l:List Int)(p:Option Addr)(c:Nat)(h1:t.kids=ad s.kids z l)(h2:t.kP=ad s.kP z p)(h3:t.kC=ad s.kC z c):Da (s.bB e) z.toNat ⟨.slice p l.length c,e,1,l.length,gi l⟩=t.bB e:=by
 funext i;unfold FC.bB;rw[h1,h2,h3];grind [n9,mO,ad]
def mE{e:TypeId}{s:FC}(t:FC){n c:Nat}{p:Option Addr}{l:List ByteArray}(hz:0<=z/\z<40)(hn:n=l.length)(h1:t.aJ=ad s.aJ z l)(h2:t.nP=ad s.nP z p)(h3:t.nC=ad s.nC z c)(hp:cX H [.row (.slice p n c) e 1 n (strs l),.aV (jS au z.toNat) (s.bA e)] F)(h:XM W S H w):XM W S (.aV au (t.bA e)::F) w:=by
 subst hn;have h4:=rU (x:=⟨.slice p l.length c,e,1,l.length,strs l⟩) z.toNat (wD _ _) (h.cG hp.cG);rw[Hf (As hz),TV e s t z hz l p c h1 h2 h3]at h4;exact h4
def xc{e:TypeId}{s:FC}(t:FC){n c:Nat}{p:Option Addr}{l:List Int}(hz:0<=z/\z<40)(hn:n=l.length)(h1:t.kids=ad s.kids z l)(h2:t.kP=ad s.kP z p)(h3:t.kC=ad s.kC z c)(hp:cX H [.row (.slice p n c) e 1 n (gi l),.aV (jS au z.toNat) (s.bB e)] F)(h:XM W S H w):XM W S (.aV au (t.bB e)::F) w:=by
 subst hn;have h4:=rU (x:=⟨.slice p l.length c,e,1,l.length,gi l⟩) z.toNat (wD _ _) (h.cG hp.cG);rw[Hf (As hz),TW e s t z hz l p c h1 h2 h3]at h4;exact h4
def Re{e:TypeId}{s:FC}(t:FC)(hz:0<=z/\z<40)(h1:t.aJ=ad s.aJ z [])(h2:t.nP=ad s.nP z none)(h3:t.nC=ad s.nC z 0)(hp:cX H [.aV au (s.bA e)] F)(h:XM W S H w):XM W S (.aV au (t.bA e)::F) w:=by
 have h4:=(XM.pick (Xx _ _) (oE hz hp h)).fU e 1;exact mE (s:=s) t (p:=none) (c:=0) (n:=0) (l:=[]) hz rfl h1 h2 h3 (.cons .aa (.cons .aa (by
  have hq:∀ L:List aG,cX L [] L:=fun L=>.nil
  exact hq _))) h4
def Rg{e:TypeId}{s:FC}(t:FC)(hz:0<=z/\z<40)(h1:t.kids=ad s.kids z [])(h2:t.kP=ad s.kP z none)(h3:t.kC=ad s.kC z 0)(hp:cX H [.aV au (s.bB e)] F)(h:XM W S H w):XM W S (.aV au (t.bB e)::F) w:=by
 have h4:=(XM.pick (Xx _ _) (Au hz hp h)).fU e 1;exact xc (s:=s) t (p:=none) (c:=0) (n:=0) (l:=[]) hz rfl h1 h2 h3 (pz 2) h4
end
def FC.yU(s:FC)(z k t l u:Int):FC:=⟨s.toFF.km z k t l u,ad s.nP z none,ad s.nC z 0,ad s.kP z none,ad s.kC z 0,s.rP,s.rC⟩
def FC.aiJ(s:FC)(n:Int)(x:ByteArray)(k:Int)(p:Option Addr)(c:Nat)(p2:Option Addr)(c2:Nat):FC:=⟨s.toFF.uT n x k,ad s.nP n p,ad s.nC n c,ad s.kP n p2,ad s.kC n c2,s.rP,s.rC⟩
abbrev H4(k t l u:Int):aC.U:=⟨k,t,l,0,ByteArray.empty,u,[],none,0,[],none,0⟩
def Av(k t l u:Int):Array Value:= #[iI k,iI t,iI l,iI 0,.string ⟨#[]⟩,.slice none 0 0,.slice none 0 0,iI u]
def Mz(s:FC)(z k t l u:Int)(hz:0<=z/\z<40:=by omega):0+0+z.toNat*8+8<=321/\cY (aC s) (0+0+z.toNat*8) (Av k t l u).toList=aC (s.yU z k t l u):=
 aC.Wh s (s.yU z k t l u) z hz _ rfl (fun j hj=>by
  have e:aC.un (s.yU z k t l u) z=H4 k t l u:=by
   unfold aC.un FC.yU FF.km
   simp only[ah]
  rw[e]
  match j,hj with
  | 0,_=>rfl
  | 1,_=>rfl
  | 2,_=>rfl
  | 3,_=>rfl
  | 4,_=>rfl
  | 5,_=>rfl
  | 6,_=>rfl
  | 7,_=>rfl
  | j+8,h=>exact absurd h og) (fun y hy=>by
  unfold aC.un FC.yU FF.km
  simp only[ae _ _ hy]) rfl
def nR(s:FC):0+320<321/\aC s (0+320)= .slice s.rP s.roots.length s.rC:=by grind [aC]
def GW(s:FC)(l:List Int)(p:Option Addr)(c n:Nat)(hn:n=l.length):0+320<321/\ep (aC s) (0+320) (.slice p n c)=aC {s with roots:=l,rP:=p,rC:=c} :=by
 subst hn;refine⟨og,?_⟩;funext i;unfold ep aC;by_cases hi:i=0+320
 ·simp_all
 ·rw[if_neg hi];by_cases c1:i<320
  ·rw[if_pos c1,if_pos c1];rfl
  grind
def MA(k t l u:Int):∀ i,i<8->cellsOf (Av k t l u) i=aC.cell (H4 k t l u) i:=fun i h=>match i,h with
 | 0,_=>rfl
 | 1,_=>rfl
 | 2,_=>rfl
 | 3,_=>rfl
 | 4,_=>rfl
 | 5,_=>rfl
 | 6,_=>rfl
 | 7,_=>rfl
 | j+8,h=>absurd h og
def Xy(k t l u:Int):0+8<=8/\dB (aC.cell (H4 k t l u)) 0 8= .agg (Av k t l u):=⟨og,rfl⟩
def MB:Array Value:=((List.range 321).map (aC FC.dR)).toArray
def OW:MB.size=321:=by simp[MB]
def TX:∀ i,i<321->cellsOf MB i=aC FC.dR i:=fun i hi=>by simp[cellsOf,MB,hi]
def FC.aiK(s:FC)(n:Int)(x:ByteArray):FC:=⟨s.toFF.eZ n x,ad s.nP n (s.nP n),ad s.nC n (s.nC n),ad s.kP n (s.kP n),ad s.kC n (s.kC n),s.rP,s.rC⟩
def FF.TY(s:FF){i:Int}(h:0<=i):s.fh (i+1).toNat=s.fh i.toNat+(if 0<s.aI i then 1 else 0):=by
 rw[show(i+1).toNat=i.toNat+1 by omega];grind [fh]
theorem E3{t:FC}{X:FF}(h:t.toFF=X)(z v:Int):({t with bO:=ad t.bO z v} :FC).toFF= {X with bO:=ad X.bO z v} :=by rw[<-h]
theorem abF{t:FC}{X:FF}(h:t.toFF=X)(z v:Int):({t with bu:=ad t.bu z v} :FC).toFF= {X with bu:=ad X.bu z v} :=by rw[<-h]
theorem aiL{t:FC}{X:FF}(h:t.toFF=X)(z v:Int):({t with up:=ad t.up z v} :FC).toFF= {X with up:=ad X.up z v} :=by rw[<-h]
def CT{W w:World}{S:Nat->Nat->Prop}{H:List aG}(r:Nat->re)(e:TypeId)(hr:∀ i,r i=⟨.slice none 0 0,e,1,0,[]⟩)(h:XM W S H w):XM W S (.aV au r::H) w:=by
 have hr0:w.ownsRow 0 e 1 (.slice none 0 0) 0 []:=(h.fU e 1).fB.1 (.row (.slice none 0 0) e 1 0 []) sq;refine⟨⟨fun x hx=> ?_,List.pairwise_cons.2 ⟨fun x hx _ b o h1 h2=> ?_,h.fB.2⟩⟩,h.fq,fun x hx hw b o hb=> ?_⟩
 ·rcases List.mem_cons.1 hx with rfl | hx
  ·exact⟨fun i _=>by rw[hr];exact hr0,fun i j b _ _ _ h1 _=>by rw[hr]at h1;cases h1⟩
  ·exact h.fB.1 x hx
 ·obtain⟨i,_,hb⟩:=h1;rw[hr]at hb;cases hb
 ·rcases List.mem_cons.1 hx with rfl | hx
  ·obtain⟨i,_,hb⟩:=hb;rw[hr]at hb;cases hb
  ·exact h.Gl x hx hw b o hb
def JQ{W w:World}{S:Nat->Nat->Prop}{H:List aG}(h:XM W S H w):XM W S (.aV au (FC.dR.bA 9):: .aV au (FC.dR.bB 3)::dH none 0 3 []::H) w:=
 CT _ 9 (fun _=>rfl) (CT _ 3 (fun _=>rfl) (h.fU 3 1))
structure NV where
 aI:Int
 bO:Int
 bu:Int
 size:Int
def NV.c9(x:NV):Array Value:= #[iI x.aI,iI x.bO,iI x.bu,iI x.size]
def NV.zero:NV:=⟨0,0,0,0⟩
def o8(x:NV)(i:Nat):Value:=if i=0 then iI x.aI else if i=1 then iI x.bO else if i=2 then iI x.bu else if i=3 then iI x.size else undef
def pO(x:NV):∀ i,i<4->cellsOf x.c9 i=o8 x i:=fun i h=>match i,h with
 | 0,_=>rfl
 | 1,_=>rfl
 | 2,_=>rfl
 | 3,_=>rfl
 | j+4,h=>absurd h og
def sE(x:NV):0+4<=4/\dB (o8 x) 0 4= .agg x.c9:=⟨og,rfl⟩
def nh(y x:NV):0+4<=4/\cY (o8 y) 0 x.c9.toList=o8 x:=by
 refine⟨og,?_⟩;funext i;match i with
 | 0=>rfl
 | 1=>rfl
 | 2=>rfl
 | 3=>rfl
 | k+4=>simp[cY,ep,NV.c9,o8]
def yV(x:NV):0+0<4/\o8 x (0+0)=iI x.aI:=⟨og,rfl⟩
def MD(x:NV):0+1<4/\o8 x (0+1)=iI x.bO:=⟨og,rfl⟩
def OX(x:NV):0+2<4/\o8 x (0+2)=iI x.bu:=⟨og,rfl⟩
def OY(x:NV):0+3<4/\o8 x (0+3)=iI x.size:=⟨og,rfl⟩
def FF.Z3(s:FF)(n:Int):NV:=if s.cQ n 0=0 then⟨s.aI n,s.bO n,s.bu n,max ((s.data n).size:Int) ((s.kids n).length:Int)⟩else NV.zero
def Rh(u:aC.U):Array Value:= #[iI u.aI,iI u.ed,iI u.bO,iI u.bu,.string u.data,.slice u.nP u.aJ.length u.nC,.slice u.kP u.kids.length u.kC,iI u.up]
def TZ(s:FC)(z:Int)(h:0<=z/\z<40):0+0+z.toNat*8+8<=321/\dB (aC s) (0+0+z.toNat*8) 8= .agg (Rh (aC.un s z)):=by
 refine⟨og,?_⟩;have q:=aC.at_ s z h;simp only[dB,List.range,List.range.loop,List.map_cons,List.map_nil];rw[q 0 og,q 1 og,q 2 og,q 3 og,q 4 og,q 5 og,q 6 og,q 7 og];rfl
def Xz(u0 u:aC.U):0+8<=8/\cY (aC.cell u0) 0 (Rh u).toList=aC.cell u:=by
 refine⟨og,?_⟩;funext i;match i with
 | 0=>rfl
 | 1=>rfl
 | 2=>rfl
 | 3=>rfl
 | 4=>rfl
 | 5=>rfl
 | 6=>rfl
 | 7=>rfl
 | k+8=>
  have e1:∀ u:aC.U,aC.cell u (k+8)=undef:=fun u=>by unfold aC.cell;iterate 8 rw[if_neg og]
  have e2:cY (aC.cell u0) 0 (Rh u).toList (k+8)=aC.cell u0 (k+8):=by simp[cY,ep,Rh]
  rw[e2,e1,e1]
def abG(u:aC.U):0+0<8/\aC.cell u (0+0)=iI u.aI:=⟨og,rfl⟩
def abH(u:aC.U):0+2<8/\aC.cell u (0+2)=iI u.bO:=⟨og,rfl⟩
def abI(u:aC.U):0+3<8/\aC.cell u (0+3)=iI u.bu:=⟨og,rfl⟩
def abJ(u:aC.U):0+4<8/\aC.cell u (0+4)= .string u.data:=⟨og,rfl⟩
def abK(u:aC.U):0+6<8/\aC.cell u (0+6)= .slice u.kP u.kids.length u.kC:=⟨og,rfl⟩
theorem afA(l:List UInt8)(i:Nat)(h:i<(ByteArray.mk l.toArray).size)(h2:i<l.length):(ByteArray.mk l.toArray)[i]'h=l[i]'h2:=rfl
theorem afB(d:ByteArray)(a:Nat)(x:ByteArray)(i:Nat)(h:i<(Z2 d a x).size):(Z2 d a x)[i]=if a<=i/\i<a+x.size then x.get! (i-a)else if i<d.size then d.get! i else 0:=by
 have hs:=FF.Ar d a x;grind [afA,Z2]
def OZ{x:ByteArray}{j:Nat}(h:j<x.size):(x.data.toList.map bv)[j]? =some (bv (x.get! j)):=by
 rw[List.getElem?_map];have h2:j<x.data.toList.length:=by rw[Array.length_toList];exact h
 rw[List.getElem?_eq_getElem h2];show some (bv (x.data.toList[j]))=some (bv (x.data[j]!));simp_all
theorem O0(x:ByteArray):(x.data.toList.map bv).length=x.size:=jw
def XA(d:ByteArray)(a:Nat)(x:ByteArray)(i:Nat)(h:i<(Z2 d a x).size):cY (cY (fun _=>bv 0) 0 (d.data.toList.map bv)) a (x.data.toList.map bv) i=bv (Z2 d a x)[i]:=by
 rw[afB];by_cases c1:i<a
 rw[jB _ _ _ _ c1,if_neg og];rotate_left
 by_cases c3:i<a+x.size
 ·rw[if_pos ⟨og,c3⟩];have:=gB (x.data.toList.map bv) (cY (fun _=>bv 0) 0 (d.data.toList.map bv)) a (i-a) _ (OZ (x:=x) (j:=i-a) og);simp_all
 rw[if_neg og,jC _ _ _ _ (by rw[O0];omega)];rotate_left;all_goals
  by_cases c2:i<d.size
  ·rw[if_pos c2];have:=gB (d.data.toList.map bv) (fun _=>bv 0) 0 i _ (OZ c2);simp_all
  grind [jC,O0]
end Go.X.Tr

namespace Go.X.Tr
open Go Go.X
variable{i:Int}
namespace FF
theorem O1(s:FF)(n:Int):(s.sD n).roots=s.roots:=by unfold sD;split<;>rfl
theorem nS(s:FF)(n:Int):(s.lI n).roots=s.roots:=by
 grind [lI,O1]
def ME(s:FF)(n a:Int)(x:ByteArray):(s.cC n a x).roots=s.roots:=by grind [cC]
end FF
namespace FF
def MF{x:ByteArray}(h:kZ x=true):x.size<=8:=by
 grind [kZ]
def XD{s:FF}{n:Int}(h:s.cQ n 0=0):(s.Z3 n).aI=s.aI n/\(s.Z3 n).bO=s.bO n/\(s.Z3 n).bu=s.bu n:=by
 grind [FF.Z3]
end FF
structure OS where
 aI:Int->Int
 n:Int->Int
 at_:Int->Int
 aY:Int->Int
 cC:Int->Bool
namespace OS
def is(s:OS)(n:Int):Int:=if n<0\/24<=n then 1 else if s.aY n=0 then 2 else 0
def nT(s:OS):Nat->Int
 | 0=> -1
 | k+1=>if 0<=nT s k then nT s k else if s.aY (k:Int)=0 then(k:Int)else-1
def first(s:OS):Int:=nT s 24
def fO(s:OS)(m:Int):Nat->List Int
 | 0=>[]
 | k+1=>if s.aY (k:Int)=0/\((fO s m k).length:Int)<m then fO s m k++[(k:Int)]else fO s m k
def lay(s:OS)(z k n:Int)(w:Bool):OS:=⟨ad s.aI z k,ad s.n z n,ad s.at_ z 0,ad s.aY z 1,ad s.cC z w⟩
def yF(s:OS)(z:Int):OS:=⟨ad s.aI z 0,ad s.n z 0,ad s.at_ z 0,ad s.aY z 0,ad s.cC z false⟩
def move(s:OS)(z d:Int):OS:= {s with at_:=ad s.at_ z (s.at_ z+d)}
def dR:OS:=⟨fun _=>0,fun _=>0,fun _=>0,fun _=>0,fun _=>false⟩
def ub(s:OS):Nat->Int
 | 0=>0
 | k+1=>ub s k+(if 0<s.aY (k:Int)then 1 else 0)
def opens(s:OS):Int:=ub s 24
structure Inv(s:OS)(J:Int):Prop where
 aY:∀ n,0<=n->n<24->0<=s.aY n/\s.aY n<=J
 at_:∀ n,0<=n->n<24->0<=s.at_ n/\s.at_ n<=40
 aI:∀ n,0<=n->n<24->s.aY n≠0->s.aI n=1\/s.aI n=2\/s.aI n=3
 cC:∀ n,0<=n->n<24->s.aI n≠1->s.cC n=false
theorem GX{s:OS}{n:Int}(h:s.is n=0):0<=n/\n<24/\s.aY n≠0:=by
 grind [is]
theorem vM(s:OS):∀ k:Nat,(s.nT k= -1/\∀ j:Int,0<=j->j<k->s.aY j≠0)\/(0<=s.nT k/\s.nT k<k/\s.aY (s.nT k)=0/\∀ j:Int,0<=j->j<s.nT k->s.aY j≠0)
 | 0=>.inl ⟨rfl,fun j a b=>og⟩
 | k+1=>by
  unfold nT;rcases vM s k with⟨h1,h2⟩ | ⟨h1,h2,h3,h4⟩
  ·rw[if_neg og];by_cases c:s.aY (k:Int)=0
   ·rw[if_pos c];exact .inr ⟨og,og,c,fun j a b=>h2 j a og⟩
   ·rw[if_neg c];refine .inl ⟨rfl,fun j a b=> ?_⟩;by_cases e:j=(k:Int)
    ·subst e;exact c
    ·exact h2 j a og
  ·rw[if_pos h1];exact .inr ⟨h1,og,h3,h4⟩
def E4{s:OS}(h1:0<=i)(h2:i<24)(ho:∀ j,0<=j->j<i->s.aY j≠0)(hz:s.aY i=0):s.first=i:=by
 grind [first,vM]
theorem jG{s:OS}(h:¬s.first<0):0<=s.first/\s.first<24/\s.aY s.first=0:=by
 grind [first,vM]
theorem JR(s:OS):∀ k,s.fO 1 k=if 0<=s.nT k then [s.nT k]else []
 | 0=>rfl
 | k+1=>by
  unfold fO nT;rw[JR s k];by_cases c:0<=s.nT k
  ·simp only[c,if_true,List.length_singleton];rw[if_neg og]
  ·simp only[c,if_false,List.length_nil];by_cases q:s.aY (k:Int)=0
   ·rw[if_pos ⟨q,og⟩,if_pos q,if_pos og];rfl
   ·rw[if_neg fun h=>q h.1,if_neg q,if_neg og]
def H5(s:OS)(m:Int):∀ k,(s.fO m k).length<=k
 | 0=>Nat.le_refl _
 | k+1=>by
  have:=H5 s m k;grind [fO]
def O2(s:OS)(m:Int)(h:0<=i):s.fO m (i+1).toNat=if s.aY i=0/\((s.fO m i.toNat).length:Int)<m then s.fO m i.toNat++[i]else s.fO m i.toNat:=by
 rw[show(i+1).toNat=i.toNat+1 by omega];grind [fO]
def T1(s:OS)(h:0<=i):s.ub (i+1).toNat=s.ub i.toNat+(if 0<s.aY i then 1 else 0):=by
 rw[show(i+1).toNat=i.toNat+1 by omega];grind [ub]
theorem DD{s:OS}(h:((s.fO 1 24).length:Int)<1):s.first<0:=by
 rw[JR]at h;grind [first]
def XF{s:OS}(h:¬((s.fO 1 24).length:Int)<1):¬s.first<0/\s.fO 1 24=[s.first]:=by
 rw[JR]at h ⊢;grind [first]
end OS
def oX(F:FF)(O:OS)(n:Int):Int:=if F.cQ n 1≠0 then F.cQ n 1 else if O.first<0 then 4 else 0
def vN(F:FF)(O:OS)(n:Int):Int:=if oX F O n=0 then O.first else 0
def uc(F:FF)(O:OS)(n:Int):FF:=if oX F O n=0 then F.dX n else F
def rB(F:FF)(O:OS)(n:Int)(w:Bool):OS:=if oX F O n=0 then O.lay O.first 1 n w else O
def mj(O:OS)(n:Int):OS:=if O.is n=0 then {O with aY:=ad O.aY n (O.aY n+1)} else O
def MG(O:OS)(n:Int):OS:= {O with aY:=ad O.aY n (O.aY n-1)}
def H6(O:OS)(n:Int):Prop:=O.is n=0/\¬ 0<O.aY n-1
instance(O:OS)(n:Int):Decidable (H6 O n):=by unfold H6;infer_instance
def lg(F:FF)(P:PS)(O:OS)(n:Int):Int:=if O.is n≠0 then O.is n else if 0<O.aY n-1 then 0 else if O.aI n=1 then F.EX (O.n n)else(P.l7 (O.n n) (decide (O.aI n=3)) (-1)).1
def nU(F:FF)(O:OS)(n:Int):FF:=if H6 O n/\O.aI n=1 then F.lI (O.n n)else F
def j7(P:PS)(O:OS)(n:Int):PS:=if H6 O n/\¬O.aI n=1 then(P.l7 (O.n n) (decide (O.aI n=3)) (-1)).2 else P
def iH(O:OS)(n:Int):OS:=if O.is n≠0 then O else if 0<O.aY n-1 then MG O n else O.yF n
def vO(F:FF)(P:PS)(O:OS)(n m:Int):Int:=if O.is n≠0 then O.is n else if O.aI n=3 then 8 else if O.aI n=2 then(P.mh (O.n n) m).2.1 else F.nf (O.n n) (O.at_ n) m
def vP(F:FF)(P:PS)(O:OS)(n m:Int):ByteArray:=if O.is n≠0 then⟨#[]⟩else if O.aI n=3 then⟨#[]⟩else if O.aI n=2 then(P.mh (O.n n) m).1 else F.lH (O.n n) (O.at_ n) m
def oY(P:PS)(O:OS)(n m:Int):PS:=if O.is n=0/\O.aI n=2 then(P.mh (O.n n) m).2.2 else P
def oZ(F:FF)(O:OS)(n m:Int):OS:=if O.is n=0/\¬O.aI n=3/\¬O.aI n=2 then O.move n ((F.lH (O.n n) (O.at_ n) m).size)else O
def jt(F:FF)(P:PS)(O:OS)(n:Int)(x:ByteArray):Int:=if O.is n≠0 then O.is n else if O.aI n=3 then(P.cC (O.n n) x).2.1 else if O.aI n=2\/O.cC n=false then 8 else F.fC (O.n n) (O.at_ n) x
def E5(O:OS)(n:Int):Prop:=O.is n=0/\¬O.aI n=3/\¬(O.aI n=2\/O.cC n=false)
instance(O:OS)(n:Int):Decidable (E5 O n):=by unfold E5;infer_instance
def j8(F:FF)(P:PS)(O:OS)(n:Int)(x:ByteArray):Int:=if O.is n=0/\O.aI n=3 then(P.cC (O.n n) x).1 else if E5 O n/\F.fC (O.n n) (O.at_ n) x=0 then(x.size:Int)else 0
def lB(P:PS)(O:OS)(n:Int)(x:ByteArray):PS:=if O.is n=0/\O.aI n=3 then(P.cC (O.n n) x).2.2 else P
def iV(F:FF)(O:OS)(n:Int)(x:ByteArray):FF:=if E5 O n then F.cC (O.n n) (O.at_ n) x else F
def gT(F:FF)(O:OS)(n:Int)(x:ByteArray):OS:=if E5 O n/\F.fC (O.n n) (O.at_ n) x=0 then O.move n (x.size)else O
def oF(O:OS)(n a:Int):Int:=if O.is n≠0 then O.is n else if O.aI n≠1 then 11 else if a<0\/40<a then 1 else 0
def uD(O:OS)(n a:Int):OS:=if oF O n a=0 then {O with at_:=ad O.at_ n a} else O
theorem OS.kg(s:OS)(n:Int):(s.is n=0/\0<=n/\n<24/\¬s.aY n=0)\/(s.is n=1/\(n<0\/24<=n))\/(s.is n=2/\0<=n/\n<24/\s.aY n=0):=by
 unfold OS.is;split;all_goals omega
def adO(x:Int):(gi [x])[0+(0:Int).toNat*1]? =some (iI x):=rfl
theorem OS.MH(O:OS)(n:Int):(MG O n).yF n=O.yF n:=by
 unfold OS.yF MG;simp only[FF.H3]
def FF.MI{s:FF}(h:s.Sh)(n a m:Int):(s.lH n a m).size<=40/\(0<=a->a<=40->a+((s.lH n a m).size:Int)<=40):=by
 unfold lH;split
 ·rename_i e;have e1:s.cQ n 1=0/\0<=a/\0<=m:=by
   grind [nf]
  obtain⟨i1,i2,_⟩:=jZ e1.1;have hd:=h.data n i1 i2;grind [ByteArray.size_extract]
 simp_all
namespace OS
def fc(s:OS):Int:=(s.lay s.first 2 0 false).first
def Ri(s:OS):∀ k:Nat,0<=s.ub k/\s.ub k<=k
 | 0=>by simp[ub]
 | k+1=>by
  have:=Ri s k;grind [ub]
def BW{s:OS}(h:∀ n,0<=n->n<24->0<=s.aY n)(m:Int)(hm:0<=m):∀ k:Nat,k<=24->((s.fO m k).length:Int)=min m (k-s.ub k)
 | 0,_=>by simp[fO,ub];omega
 | k+1,hk=>by
  have ih:=BW h m hm k og;grind [fO,ub]
def JS(s:OS):∀ k:Nat,(s.fO 2 k=[]/\∀ j:Int,0<=j->j<k->s.aY j≠0)\/(∃ a:Int,s.fO 2 k=[a]/\0<=a/\a<k/\s.aY a=0/\∀ j:Int,0<=j->j<k->j≠a->s.aY j≠0)\/
  (∃ a b:Int,s.fO 2 k=[a,b]/\0<=a/\a<b/\b<k/\s.aY a=0/\s.aY b=0/\∀ j:Int,0<=j->j<b->j≠a->s.aY j≠0)
 | 0=>.inl ⟨rfl,fun j a b=>og⟩
 | k+1=>by
  unfold fO;rcases JS s k with⟨h1,h2⟩ | ⟨a,h1,h2,h3,h4,h5⟩ | ⟨a,b,h1,h2,h3,h4,h5,h6,h7⟩
  ·rw[h1];by_cases c:s.aY (k:Int)=0
   ·rw[if_pos ⟨c,sq⟩];exact .inr (.inl ⟨k,rfl,og,og,c,fun j x y z=>h2 j x og⟩)
   ·rw[if_neg fun q=>c q.1];refine .inl ⟨rfl,fun j x y=> ?_⟩;by_cases e:j=(k:Int)
    ·subst e;exact c
    ·exact h2 j x og
  ·rw[h1];by_cases c:s.aY (k:Int)=0
   ·rw[if_pos ⟨c,sq⟩];exact .inr (.inr ⟨a,k,rfl,h2,h3,og,h4,c,fun j x y z=>h5 j x og z⟩)
   ·rw[if_neg fun q=>c q.1];refine .inr (.inl ⟨a,rfl,h2,og,h4,fun j x y z=> ?_⟩);by_cases e:j=(k:Int)
    ·subst e;exact c
    ·exact h5 j x og z
  ·rw[h1,if_neg fun q=>by have:=q.2;simp at this];exact .inr (.inr ⟨a,b,rfl,h2,h3,og,h5,h6,h7⟩)
def XG{s:OS}(h:((s.fO 2 24).length:Int)<2):s.first<0\/s.fc<0:=by
 rcases s.JS 24 with⟨h1,h2⟩ | ⟨a,h1,h2,h3,h4,h5⟩ | ⟨a,b,h1,_⟩
 ·grind [jG]
 ·right;have e:s.first=a:=E4 h2 h3 (fun j x y=>h5 j x og og) h4
  refine Decidable.byContradiction fun c=> ?_;have q:=jG (s:=s.lay s.first 2 0 false) c;have q3:=q.2.2;rw[show(s.lay s.first 2 0 false).aY=ad s.aY s.first 1 from rfl,show(s.lay s.first 2 0 false).first=s.fc from rfl]at q3;by_cases z:s.fc=a;all_goals grind [ah,ae,fc]
 simp_all
def T2{s:OS}(h:¬((s.fO 2 24).length:Int)<2):¬s.first<0/\¬s.fc<0/\s.fO 2 24=[s.first,s.fc]:=by
 rcases s.JS 24 with⟨h1,h2⟩ | ⟨a,h1,h2,h3,h4,h5⟩ | ⟨a,b,h1,h2,h3,h4,h5,h6,h7⟩
 ·simp_all
 ·simp_all
 ·have e:s.first=a:=E4 h2 og (fun j x y=>h7 j x og og) h5
  have e2:s.fc=b:=by
   unfold fc;refine E4 og og (fun j x y=> ?_) ?_
   ·show ad s.aY s.first 1 j≠0
    grind [ah,ae]
   ·show ad s.aY s.first 1 b=0
    grind [ae]
  grind
def MJ(s:OS):0<=s.opens/\s.opens<=24:=by
 have:=s.Ri 24;grind [opens]
end OS
def Rj(O:OS)(m:Int):Bool:=decide (m<1)||decide (m<=24-O.opens)
def im(P:PS)(O:OS):Int:=if O.first<0\/O.fc<0 then 4 else P.make.2.1
def kA(P:PS)(O:OS):PS:=if O.first<0\/O.fc<0 then P else P.make.2.2
def jl(P:PS)(O:OS):OS:=if im P O=0 then(O.lay O.first 2 P.make.1 false).lay O.fc 3 P.make.1 false else O
def ml(P:PS)(O:OS):Int:=if im P O=0 then O.first else 0
def nV(P:PS)(O:OS):Int:=if im P O=0 then O.fc else 0
def XH(x y:Int):(gi [x,y])[0+(0:Int).toNat*1]? =some (iI x):=rfl
def XJ(x y:Int):(gi [x,y])[0+(1:Int).toNat*1]? =some (iI y):=rfl
end Go.X.Tr
