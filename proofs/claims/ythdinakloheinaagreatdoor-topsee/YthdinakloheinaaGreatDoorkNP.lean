import Derived.Test.YthdinakloheinaaGreatDoorkVA
import Derived.Test.YthdinakloheinaaGreatDoorXBytes
set_option linter.all false
namespace Go.X.Vm
open Go Go.X
variable{k z:Nat}{v:VB}
def cM(fr:Int->Int)(g:Int):Nat->Int
 | 0=>0
 | k+1=>cM fr g k+(if fr k=g+1 then 1 else 0)
def C8(fr:Int->Int)(g:Int):∀ k,0<=cM fr g k/\cM fr g k<=k
 | 0=>by simp[cM]
 | k+1=>by have:=C8 fr g k;rw[cM];split<;>omega
theorem Oa(fr:Int->Int){g n z:Int} :∀ {k:Nat},(k:Int)<=n->cM (ae fr n z) g k=cM fr g k
 | 0,_=>rfl
 | k+1,h=>by rw[cM,cM,Oa fr (k:=k) og,ai _ _ og]
theorem BH(fr:Int->Int){g n z:Int}(h0:0<=n):∀ {k:Nat},n<k->cM (ae fr n z) g k=cM fr g k-(if fr n=g+1 then 1 else 0)+(if z=g+1 then 1 else 0)
 | 0,h=>by simp at h;omega
 | k+1,h=>by
  rw[cM,cM];by_cases c:n=k
  ·subst c;rw[Oa fr og,au];omega
  ·rw[BH fr h0 (k:=k) og,ai _ _ og];omega
def Hs{fr:Int->Int}{g i:Int}(h0:0<=i)(e:fr i=g+1):∀ {k:Nat},i<k->1<=cM fr g k
 | 0,h=>by simp at h;omega
 | k+1,h=>by
  rw[cM];by_cases c:i=k
  ·rw[<-c,if_pos e];have:=C8 fr g k;omega
  ·have:=Hs h0 e (k:=k) og;split<;>omega
def cA(fr:Int->Int)(a g:Int):Nat->Int
 | 0=>0
 | k+1=>cA fr a g k+(if fr (a+k)=g+1 then 1 else 0)
theorem Mf(fr:Int->Int){a g:Int}(h0:0<=a)(hg:0<=g):∀ {k:Nat},a+k<=16->cM (gR fr a k 0) g 16=cM fr g 16-cA fr a g k
 | 0,_=>by
  have e:=Qr fr a 0;rw[show a-a=((0:Nat):Int)from og]at e;rw[cA,e];omega
 | k+1,h=>by
  have e:gR fr a ((k+1:Nat):Int) 0=ae (gR fr a k 0) (a+k) 0:=by
   have:=Qs (f:=fr) (a:=a) (i:=a+k) (v:=0) (u:=0) og rfl;rw[show a+(k:Int)-a=k from og,show a+(k:Int)+1-a=((k+1:Nat):Int)from og]at this;exact this.symm
  have e2:gR fr a k 0 (a+k)=fr (a+k):=by unfold gR;rw[if_neg og]
  rw[e,BH _ og og,Mf fr h0 hg (k:=k) og,e2,cA,if_neg (c:=(0:Int)=g+1) og];omega
structure Acc (v:VB) (F:Int->Int):Prop where
 ok:v.Ok
 rf:∀ g,0<=g->g<64->v.rf g=F g
 us:∀ g,0<=g->g<64->v.bb.ej g=if F g=0 then 0 else 1
theorem Acc.congr{F G:Int->Int}(h:Acc v F)(e:∀ g,0<=g->g<64->F g=G g):Acc v G:=
 ⟨h.ok,fun g a b=>(h.rf g a b).trans (e g a b),fun g a b=>by rw[h.us g a b,e g a b]⟩
def Acc.copy{v:VB}{F:Int->Int}(h:Acc v F)(f g:Int):Acc (v.copy f g) F:=⟨h.ok.copy f g,h.rf,h.us⟩
theorem Acc.take{v:VB}{F:Int->Int}(h:Acc v F)(e:v.take.2.1=0):(0<=v.take.1/\v.take.1<64)/\F v.take.1=0/\Acc v.take.2.2 (ae F v.take.1 1):=by
 have c:(v.bb.take 0).2.1=0:=by
  grind [mA]
 obtain⟨_,hr,hu,_,hn⟩:=h.ok.bb.CR c;have hF:F (v.bb.take 0).1=0:=by
  grind [Acc.us]
 have ho:=h.ok.take;rw[VB.lJ c]at ho ⊢;refine⟨hr,hF,ho,fun g a b=> ?_,fun g a b=> ?_⟩
 ·grind [ae,Acc.rf]
 ·show(v.bb.take 0).2.2.ej g=_;rw[hn];grind [ae,Acc.us]
theorem Acc.drop{v:VB}{F:Int->Int}(h:Acc v F){g:Int}(hg:0<=g/\g<64)(h1:1<=F g):Acc (v.drop g) (ae F g (F g-1)):=by
 have hr:=h.rf g hg.1 hg.2;refine⟨h.ok.drop og,fun x a b=> ?_,fun x a b=> ?_⟩
 ·rw[(CT v g).1];unfold ae;split
  ·omega
  ·exact h.rf x a b
 ·have hu:=h.us g hg.1 hg.2;rw[if_neg og]at hu;by_cases c:v.rf g-1=0
  ·rw[zO c];have ht:v.bb.tk g=true:=by
    unfold BB.ej at hu;cases q:v.bb.tk g with
    | true=>rfl
    | false=>rw[q]at hu;simp at hu
   have hw:=(h.ok.bb.TR (a:=g) (by rw[CS,BB.Cv og ht])).2.2.1;show(v.bb.rI g).2.ej x=_;rw[hw];unfold ae;split
   ·rw[if_pos og]
   ·exact h.us x a b
  ·rw[zP c];show v.bb.ej x=_;unfold ae;split
   ·rename_i q;subst q;rw[if_neg og];exact hu
   ·exact h.us x a b
theorem Acc.Wu{v:VB}{F:Int->Int}{fr:Int->Int}{a:Int}(hl:∀ i,0<=fr i/\fr i<=64):∀ (k:Nat),Acc v F->(∀ g,0<=g->g<64->cA fr a g k<=F g)->Acc (Wu v fr a k).2 (fun g=>F g-cA fr a g k)
 | 0,h,_=>h.congr fun g _ _=>by simp[cA]
 | k+1,h,hF=>by
  have ih:=Acc.Wu (a:=a) hl k h (fun g a1 b=>by have:=hF g a1 b;rw[cA]at this;split at this<;>omega);rw[Go.X.Vm.Wu];unfold unS;have hk:=hl (a+k);split
  ·rename_i c;have h1:=hF (fr (a+k)-1) og og;rw[cA,if_pos og]at h1;refine(ih.drop (g:=fr (a+k)-1) og (by show 1<=F _-cA _ _ _ _;omega)).congr fun g x y=> ?_;grind [ae,cA]
  grind [Acc.congr,cA]
theorem Ua{rf fr:Int->Int}{g:Int}(hg:0<=g)(hl:∀ i,0<=fr i):∀ k,xV rf fr k g=rf g+cM fr g k
 | 0=>by simp[xV,cM]
 | k+1=>by
  have ih:=Ua (rf:=rf) hg hl k;have:=hl k;rw[xV,cM];grind [ae]
theorem zS{rf fr:Int->Int}(hl:∀ i,0<=fr i/\fr i<=64){g:Int}(hg:g<0\/64<=g):∀ k,xV rf fr k g=rf g
 | 0=>rfl
 | k+1=>by
  have:=hl k;rw[xV];split
  ·rw[ai _ _ og];exact zS hl hg k
  simp_all[zS]
theorem Acc.jO{v:VB}{F:Int->Int}(h:Acc v F){m:MS}(hm:m.Ok)(hF:∀ g,0<=g->g<64->cM m.fr g 16<=F g/\F g<=1000):Acc (v.jO m) (fun g=>F g+cM m.fr g 16):=by
 have e:∀ g,0<=g->g<64->(v.jO m).rf g=F g+cM m.fr g 16:=fun g a b=>by
  show xV v.rf m.fr 16 g=_;rw[Ua a fun i=>(hm.lo i).1,h.rf g a b]
 refine⟨⟨h.ok.bb,fun g=> ?_,h.ok.iq⟩,e,fun g a b=> ?_⟩
 ·by_cases q:0<=g/\g<64
  ·rw[e g q.1 q.2];have:=hF g q.1 q.2;have:=C8 m.fr g 16;omega
  ·show 0<=xV v.rf m.fr 16 g/\_;rw[show(v.jO m).rf g=xV v.rf m.fr 16 g from rfl,zS hm.lo og];exact h.ok.rf g
 ·show v.bb.ej g=_;rw[h.us g a b];have:=hF g a b;have:=C8 m.fr g 16;omega
def wH(f:Nat->MS)(g:Int):Nat->Int
 | 0=>0
 | k+1=>wH f g k+cM (f k).fr g 16
def bF{α:Type}(f:Nat->α)(z:Nat)(m:α):Nat->α:=fun j=>if j=z then m else f j
theorem rS{α:Type}(f:Nat->α)(z:Nat)(m:α):bF f z m z=m:=if_pos rfl
theorem lM{α:Type}(f:Nat->α){j:Nat}(m:α)(h:j≠z):bF f z m j=f j:=if_neg h
theorem kj{α:Type}(f:Nat->α)(z:Nat):bF f z (f z)=f:=by
 grind [bF]
def Mg(f:Nat->MS)(g:Int):∀ k,0<=wH f g k/\wH f g k<=16*k
 | 0=>by simp[wH]
 | k+1=>by have:=Mg f g k;have:=C8 (f k).fr g 16;rw[wH];omega
theorem JY(f:Nat->MS)(g:Int){z:Nat}{m:MS} :∀ {k:Nat},k<=z->wH (bF f z m) g k=wH f g k
 | 0,_=>rfl
 | k+1,h=>by rw[wH,wH,JY f g (k:=k) og,lM _ _ og]
theorem rV(f:Nat->MS)(g:Int){z:Nat}{m:MS} :∀ {k:Nat},z<k->wH (bF f z m) g k=wH f g k-cM (f z).fr g 16+cM m.fr g 16
 | 0,h=>og
 | k+1,h=>by
  rw[wH,wH];by_cases c:z=k
  ·subst c;rw[JY f g (Nat.le_refl _),rS];omega
  ·rw[rV f g (k:=k) og,lM _ _ og];omega
def zT(f:Nat->MS)(g:Int){z:Nat} :∀ {k:Nat},z<k->cM (f z).fr g 16<=wH f g k
 | 0,h=>og
 | k+1,h=>by
  rw[wH];have:=Mg f g k;have:=C8 (f k).fr g 16;by_cases c:z=k
  ·grind
  ·have:=zT f g (z:=z) (k:=k) og;omega
structure Sys (v:VB) (f:Nat->MS) (k:Nat):Prop where
 jI:Acc v fun g=>wH f g k
 mo:∀ j,j<k->(f j).Ok
theorem MS.Ok.kv{m:MS}(h:m.Ok){i:Int}(hi:0<m.fr i):0<=i/\i<16:=by
 by_cases c:0<=i/\i<16
 ·exact c
 ·have:=h.un i (h.f.out i og);omega
theorem Sys.In{v:VB}{f:Nat->MS}{k z:Nat}(h:Sys v f k)(hz:z<k):(f z).In v:=fun i hi=>by
 have hm:=h.mo z hz;have hr:=hm.kv hi;have hl:=hm.lo i;rw[h.jI.rf _ og og];have h1:=Hs (fr:=(f z).fr) (g:=(f z).fr i-1) hr.1 og (k:=16) og;have h2:=zT f ((f z).fr i-1) hz;omega
theorem Sys.free{f:Nat->MS}(h:Sys v f k)(hz:z<k){x:Int}(h0:wH f x k=0)(i:Int):(f z).fr i≠x+1\/x+1<=0:=by
 by_cases c:(f z).fr i=x+1/\0<x+1
 ·have hr:=(h.mo z hz).kv (i:=i) og;have h1:=Hs (fr:=(f z).fr) (g:=x) hr.1 c.1 (k:=16) og;have h2:=zT f x hz;omega
 omega
theorem Sys.same{f:Nat->MS}(h:Sys v f k)(hz:z<k){m:MS}(hm:m.Ok)(e:m.fr=(f z).fr):Sys v (bF f z m) k:=
 ⟨h.jI.congr fun g _ _=>by rw[rV f g hz,e];omega,fun j hj=>by
  unfold bF;split
  ·exact hm
  ·exact h.mo j hj⟩
theorem MS.Ok.CM{m:MS}(h:m.Ok){n x:Int}(hn:m.aB n≠0)(hx:0<=x/\x<64)(hf:∀ i,i≠n->m.fr i≠x+1):(m.CM n x).Ok:=by
 refine⟨h.f,fun i=> ?_,fun i hi=> ?_,fun i hi=> ?_,fun i j hi RO=> ?_⟩
 ·show 0<=ae m.fr n (x+1) i/\ae m.fr n (x+1) i<=64;unfold ae;split
  ·omega
  ·exact h.lo i
 ·show ae m.fr n (x+1) i=0;grind [ai,MS.Ok.un,MS.CM]
 ·show ae m.bu n true i=false;have hi:ae m.fr n (x+1) i=0:=hi;grind [au,ai,MS.Ok.ow]
 ·have hi:0<ae m.fr n (x+1) i:=hi;have RO:ae m.fr n (x+1) i=ae m.fr n (x+1) j:=RO;grind [au,ai,MS.Ok.inj]
def FZ{m:MS}{a:Int}{w:Bool}(h:m.y8 a w=true):m.aB (a/8)≠0:=by
 grind [MS.y8]
def MS.abQ{m:MS}(h:m.Ok){n:Int}(hn:m.fr n≠0):({m with bu:=ae m.bu n true} :MS).Ok:=
 ⟨h.f,h.lo,h.un,fun i hi=>by
  show ae m.bu n true i=false
  have hi:m.fr i=0:=hi
  rw[ai _ _ fun (e:i=n)=>hn (by rw[<-e];exact hi)];exact h.ow i hi,h.inj⟩
theorem Sys.cw{v:VB}{f:Nat->MS}{k z:Nat}(h:Sys v f k)(hz:z<k)(a:Int)(w:Bool):Sys ((f z).cw v a w).2.2.1 (bF f z ((f z).cw v a w).2.2.2) k:=by
 have hm:=h.mo z hz;have hl:=hm.lo (a/8);rcases MS.pI v (f z) a w with⟨_,e⟩ | ⟨hr,⟨_,e⟩ | ⟨h0,q,e⟩ | ⟨_,_,e⟩ | ⟨h0,_,_,e⟩ | ⟨h0,q,r,_,e⟩⟩<;>rw[e]
 ·grind [kj]
 ·grind [kj]
 ·obtain⟨hx,hF,ha⟩:=h.jI.take q;have hF:wH f v.take.1 k=0:=hF;have Li:=lg hr;refine⟨ha.congr fun g a1 b=> ?_,fun j hj=> ?_⟩
  ·rw[rV f g hz];show ae (fun g=>wH f g k) v.take.1 1 g=_-_+cM (ae (f z).fr (a/8) (v.take.1+1)) g 16;rw[BH _ og og,h0,if_neg (c:=(0:Int)=g+1) og];grind [ae]
  ·unfold bF;split
   ·exact hm.CM (FZ hr) hx (fun i _=>by rcases h.free hz hF i with q | q<;>omega)
   grind [Sys.mo]
 ·grind [kj]
 ·exact h.same hz (MS.abQ hm h0) rfl
 ·obtain⟨hx,hF,ha⟩:=h.jI.take q;have hF:wH f v.take.1 k=0:=hF;have Li:=lg hr;have hy:1<=wH f ((f z).fr (a/8)-1) k:=by
   have h1:=Hs (fr:=(f z).fr) (g:=(f z).fr (a/8)-1) (i:=a/8) og og (k:=16) og;have h2:=zT f ((f z).fr (a/8)-1) hz;omega
  have gK:(f z).fr (a/8)-1≠v.take.1:=fun e=>by rw[e]at hy;omega
  refine⟨((ha.copy _ _).drop (g:=(f z).fr (a/8)-1) og (by rw[ai _ _ gK];exact hy)).congr fun g a1 b=> ?_,fun j hj=> ?_⟩
  ·rw[rV f g hz];show ae (ae (fun g=>wH f g k) v.take.1 1) ((f z).fr (a/8)-1) _ g=_-_+cM (ae (f z).fr (a/8) (v.take.1+1)) g 16;rw[BH _ og og,ai _ _ gK];grind [ae]
  ·unfold bF;split
   ·exact hm.CM (FZ hr) hx (fun i _=>by rcases h.free hz hF i with q | q<;>omega)
   grind [Sys.mo]
def aeT{fr:Int->Int}{a g:Int}(h0:0<=a)(hg:0<=g)(hk:a+k<=16):cA fr a g k<=cM fr g 16:=by
 have:=Mf fr h0 hg hk;have:=C8 (gR fr a k 0) g 16;omega
theorem Sys.fJ{v:VB}{f:Nat->MS}{k z:Nat}(h:Sys v f k)(hz:z<k)(a n:Int):Sys ((f z).fJ v a n).2.2.1 (bF f z ((f z).fJ v a n).2.2.2) k:=by
 have hm:=h.mo z hz;by_cases hb:gw a n
 ·rw[rU hb];rw[kj];exact h
 ·have ho:=hm.fJ (v:=v) a n;unfold MS.fJ at ho ⊢;rw[if_neg hb]at ho ⊢;unfold gw at hb;have hn:((n.toNat:Nat):Int)=n:=og;refine⟨(h.jI.Wu hm.lo n.toNat (fun g a1 b=>by
   have:=aeT (fr:=(f z).fr) (a:=a) (g:=g) og a1 (k:=n.toNat) og
   have:=zT f g hz
   show _<=wH f g k
   omega)).congr fun g a1 b=> ?_,fun j hj=> ?_⟩
  ·rw[rV f g hz];show wH f g k-_=_-_+cM (gR (f z).fr a n 0) g 16;have:=Mf (f z).fr (a:=a) (g:=g) og a1 (k:=n.toNat) og;rw[hn]at this;rw[this];omega
  ·unfold bF;split
   ·exact ho
   ·exact h.mo j hj
theorem Sys.load{v:VB}{f:Nat->MS}{k z:Nat}(h:Sys v f k)(hz:z<k)(a:Int):Sys ((f z).load v a).2.2.1 (bF f z ((f z).load v a).2.2.2) k:=by
 grind [Sys.cw,MS.load]
theorem Sys.store{v:VB}{f:Nat->MS}{k z:Nat}(h:Sys v f k)(hz:z<k)(a b:Int)(hb:0<=b/\b<256):Sys ((f z).store v a b).2.1 (bF f z ((f z).store v a b).2.2) k:=by
 have ht:=h.cw hz a true;by_cases e:((f z).cw v a true).2.1=0
 ·rw[MS.C7 e];refine⟨⟨⟨ht.jI.ok.bb,ht.jI.ok.rf,fun x j=> ?_⟩,ht.jI.rf,ht.jI.us⟩,ht.mo⟩;show 0<=cr ((f z).cw v a true).2.2.1.iq ((f z).cw v a true).1 (a%8) b x j/\cr ((f z).cw v a true).2.2.1.iq ((f z).cw v a true).1 (a%8) b x j<256;unfold cr;split
  ·omega
  ·exact ht.jI.ok.iq x j
 grind [MS.store]
def Ob(z:Int):0<=IntKind.u8.wrap z/\IntKind.u8.wrap z<256:=by
 have e:IntKind.u8.wrap z=z%256:=rfl;omega
theorem Sys.cP:Sys VB.cP (fun _=>MS.nil) 1:=by
 have h0:∀ g:Int,0<=g->wH (fun _=>MS.nil) g 1=0:=fun g hg=>by
  rw[wH,wH];have e:∀ k,cM MS.nil.fr g k=0:=fun k=>by
   induction k with
   | zero=>rfl
   | succ k ih=>rw[cM,ih,show MS.nil.fr k=0 from rfl,if_neg og];rfl
  simp_all
 refine⟨⟨VB.Ok.cP,fun g a b=>(h0 g a).symm,fun g a b=> ?_⟩,fun _ _=>MS.Ok.nil⟩;grind [BB.cP,BB.ej,VB.cP]
end Go.X.Vm

namespace Go.X.Tr
open Go Go.X
variable{w:Bool}{t x:ByteArray}{l:List ByteArray}
structure PS where
 b:Int->ByteArray
 e:Int->Int->Int
structure PS.Inv (K:Int) (s:PS):Prop where
 e0:∀ n,0<=s.e n 0/\s.e n 0<=K
 e1:∀ n,0<=s.e n 1/\s.e n 1<=K
 cl:∀ n,s.e n 0+s.e n 1=0->s.b n=⟨#[]⟩
 len:∀ n,(s.b n).size<=12
theorem PS.Inv.mono{K K':Int}{s:PS}(h:s.Inv K)(hk:K<=K'):s.Inv K':=
 ⟨fun n=>⟨(h.e0 n).1,by have:=(h.e0 n).2;omega⟩,fun n=>⟨(h.e1 n).1,by have:=(h.e1 n).2;omega⟩,h.cl,h.len⟩
def PS.cP:PS:=⟨fun _=>⟨#[]⟩,fun _ _=>0⟩
theorem PS.Inv.cP:PS.cP.Inv 0:=⟨fun _=>by simp[PS.cP],fun _=>by simp[PS.cP],fun _ _=>rfl,fun _=>by simp[PS.cP,ByteArray.size]⟩
def PS.is(s:PS)(n:Int):Int:=if n<0\/8<=n then 1 else if s.e n 0+s.e n 1=0 then 2 else 0
def PS.make(s:PS):Int×Int×PS:=match dv (fun k=>s.e k 0+s.e k 1==0) 8 with
 | some k=>(k,0,{s with e:=cr (cr s.e k 0 1) k 1 1})
 | none=>(0,4,s)
def Ip(w:Bool):Int:=if w then 1 else 0
def PS.mm(s:PS)(n:Int)(w:Bool)(d:Int):Int×PS:=
 if s.is n≠0 then(s.is n,s)else if s.e n (Ip w)=0 then(8,s)else
  (0,{b:=if s.e n 0+s.e n 1+d=0 then ae s.b n ⟨#[]⟩else s.b,e:=cr s.e n (Ip w) (s.e n (Ip w)+d)})
def PS.mZ(s:PS)(n m:Int):ByteArray×Int×PS:=
 if s.is n≠0 then(⟨#[]⟩,s.is n,s)else if s.e n 0=0 then(⟨#[]⟩,8,s)else if m<0 then(⟨#[]⟩,1,s)else
 if s.b n=⟨#[]⟩/\s.e n 1>0/\m>0 then(⟨#[]⟩,13,s)else
  ((s.b n).extract 0 (min m (s.b n).size).toNat,0,{s with b:=ae s.b n ((s.b n).extract (min m (s.b n).size).toNat (s.b n).size)})
def PS.cg(s:PS)(n:Int)(t:ByteArray):Int×Int×PS:=
 if s.is n≠0 then(0,s.is n,s)else if s.e n 1=0 then(0,8,s)else if s.e n 0=0 then(0,12,s)else
 if min (t.size:Int) (12-(s.b n).size)=0/\t.size>0 then(0,13,s)else
  (min (t.size:Int) (12-(s.b n).size),0,{s with b:=ae s.b n (s.b n++t.extract 0 (min (t.size:Int) (12-(s.b n).size)).toNat)})
def qG(f:Int->Bool):Nat->Int
 | 0=>0
 | n+1=>qG f n+if f n then 1 else 0
def N0(f:Int->Bool)(n:Nat):0<=qG f n/\qG f n<=n:=by
 induction n with
 | zero=>simp[qG]
 | succ n ih=>simp only[qG];split<;>omega
def bL(s:PS)(i:Nat):Value:=
 if i%3=0/\i/3<8 then .string (s.b ((i/3:Nat):Int))else
 if 1<=i/\(i-1)%3=0/\(i-1)/3<8 then iI (s.e (((i-1)/3:Nat):Int) 0)else
 if 2<=i/\(i-2)%3=0/\(i-2)/3<8 then iI (s.e (((i-2)/3:Nat):Int) 1)else
 undef
def dI(s:PS)(z0:Int)(q0:0<=z0/\z0<8:=by omega):(((0+0)+z0.toNat*3)+0)<24/\bL s (((0+0)+z0.toNat*3)+0)= .string (s.b z0):=by
 grind [bL]
def iy(s:PS)(z0:Int)(q0:0<=z0/\z0<8)(v:ByteArray):(((0+0)+z0.toNat*3)+0)<24/\dE (bL s) (((0+0)+z0.toNat*3)+0) (.string (v))=bL ({s with b:=ae s.b z0 v}):=by
 grind [dE,ae,bL]
def er(s:PS)(z0:Int)(q0:0<=z0/\z0<8:=by omega):(((0+0)+z0.toNat*3)+1)<24/\bL s (((0+0)+z0.toNat*3)+1)=iI (s.e z0 0):=by
 grind [bL]
def lO(s:PS)(z0:Int)(q0:0<=z0/\z0<8)(v:Int):(((0+0)+z0.toNat*3)+1)<24/\dE (bL s) (((0+0)+z0.toNat*3)+1) (iI (v))=bL ({s with e:=cr s.e z0 0 v}):=by
 grind [dE,cr,bL]
def dZ(s:PS)(z0:Int)(q0:0<=z0/\z0<8:=by omega):(((0+0)+z0.toNat*3)+2)<24/\bL s (((0+0)+z0.toNat*3)+2)=iI (s.e z0 1):=by
 grind [bL]
def lh(s:PS)(z0:Int)(q0:0<=z0/\z0<8)(v:Int):(((0+0)+z0.toNat*3)+2)<24/\dE (bL s) (((0+0)+z0.toNat*3)+2) (iI (v))=bL ({s with e:=cr s.e z0 1 v}):=by
 grind [dE,cr,bL]
theorem lx{s:PS}{n d:Int}(h:s.is n≠0):s.mm n w d=(s.is n,s):=by simp[PS.mm,h]
theorem jv{s:PS}{n d:Int}(h:s.is n=0)(he:s.e n (Ip w)=0):s.mm n w d=(8,s):=by grind [PS.mm]
theorem PS.BI{s:PS}{n d:Int}(h:s.is n=0)(he:¬s.e n (Ip w)=0)(hz:¬s.e n 0+s.e n 1+d=0:=by omega):s.mm n w d=(0,{s with e:=cr s.e n (Ip w) (s.e n (Ip w)+d)}):=by
 grind [PS.mm]
theorem PS.uY{s:PS}{n d:Int}(h:s.is n=0)(he:¬s.e n (Ip w)=0)(hz:s.e n 0+s.e n 1+d=0:=by omega):s.mm n w d=(0,{b:=ae s.b n ⟨#[]⟩,e:=cr s.e n (Ip w) (s.e n (Ip w)+d)}):=by
 grind [PS.mm]
theorem PS.jo(s:PS)(n:Int):(s.is n=0/\0<=n/\n<8/\¬s.e n 0+s.e n 1=0)\/(s.is n=1/\(n<0\/8<=n))\/(s.is n=2/\0<=n/\n<8/\s.e n 0+s.e n 1=0):=by
 grind [PS.is]
def BJ{g:Int->Int->Int}{n:Int}(h0:g n 0=0:=by omega)(h1:g n 1=0:=by omega):cr (cr g n 0 0) n 1 0=g:=by
 grind [cr]
theorem JZ{s:PS}{n m:Int}(h:s.is n≠0):s.mZ n m=(⟨#[]⟩,s.is n,s):=by simp[PS.mZ,h]
theorem EP{s:PS}{n m:Int}(h:s.is n=0)(h0:s.e n 0=0):s.mZ n m=(⟨#[]⟩,8,s):=by grind [PS.mZ]
theorem ER{s:PS}{n m:Int}(h:s.is n=0)(h0:¬s.e n 0=0)(hm:m<0):s.mZ n m=(⟨#[]⟩,1,s):=by grind [PS.mZ]
theorem ES{s:PS}{n m:Int}(h:s.is n=0)(h0:¬s.e n 0=0)(hm:¬m<0)(ha:s.b n=⟨#[]⟩/\s.e n 1>0/\m>0):s.mZ n m=(⟨#[]⟩,13,s):=by
 grind [PS.mZ]
theorem PS.Ht{s:PS}{n m:Int}(h:s.is n=0)(h0:¬s.e n 0=0)(hm:¬m<0)(ha:¬(s.b n=⟨#[]⟩/\s.e n 1>0/\m>0)):s.mZ n m=((s.b n).extract 0 (min m (s.b n).size).toNat,0,{s with b:=ae s.b n ((s.b n).extract (min m (s.b n).size).toNat (s.b n).size)}):=by
 grind [PS.mZ]
theorem Hu{s:PS}{n:Int}(h:s.is n≠0):s.cg n t=(0,s.is n,s):=by simp[PS.cg,h]
theorem C9{s:PS}{n:Int}(h:s.is n=0)(h0:s.e n 1=0):s.cg n t=(0,8,s):=by grind [PS.cg]
theorem Bo{s:PS}{n:Int}(h:s.is n=0)(h0:¬s.e n 1=0)(h1:s.e n 0=0):s.cg n t=(0,12,s):=by grind [PS.cg]
theorem Da{s:PS}{n:Int}(h:s.is n=0)(h0:¬s.e n 1=0)(h1:¬s.e n 0=0)(ha:min (t.size:Int) (12-(s.b n).size)=0/\t.size>0):s.cg n t=(0,13,s):=by
 grind [PS.cg]
theorem PS.J0{s:PS}{n:Int}(h:s.is n=0)(h0:¬s.e n 1=0)(h1:¬s.e n 0=0)(ha:¬(min (t.size:Int) (12-(s.b n).size)=0/\t.size>0)):s.cg n t=(min (t.size:Int) (12-(s.b n).size),0,{s with b:=ae s.b n (s.b n++t.extract 0 (min (t.size:Int) (12-(s.b n).size)).toNat)}):=by
 grind [PS.cg]
theorem PS.Qt{s:PS}{k:Int}(h0:0<=k/\k<8)(hp:s.e k 0+s.e k 1=0)(hn:∀ j:Int,0<=j->j<k->s.e j 0+s.e j 1≠0):s.make=(k,0,{s with e:=cr (cr s.e k 0 1) k 1 1}):=by
 unfold PS.make;rw[dW h0.1 h0.2 (by simpa using hp) fun j h1 h2=>by simpa using hn j h1 h2];grind
theorem Hv{s:PS}(hn:∀ j:Int,0<=j->j<8->s.e j 0+s.e j 1≠0):s.make=(0,4,s):=by
 grind [PS.make,dL]
def Qu{s:PS}{K:Int}(hI:s.Inv K){k:Int}(h0:0<=k/\k<8)(hp:s.e k 0+s.e k 1=0):0+0+k.toNat*3+3<=24/\cB (bL s) (0+0+k.toNat*3) [.string ⟨#[]⟩,iI 1,iI 1]=bL {s with e:=cr (cr s.e k 0 1) k 1 1} :=by
 refine⟨og,?_⟩;have e1:=(iy s k h0 ⟨#[]⟩).2;have hb:ae s.b k ⟨#[]⟩=s.b:=by
  grind [ae,PS.Inv.cl]
 rw[hb]at e1;have e2:=(lO s k h0 1).2;have e3:=(lh {s with e:=cr s.e k 0 1} k h0 1).2;simp_all[cB]
def F0(s:PS){k:Int}(h0:0<=k/\k<8:=by omega):0+0+k.toNat*3+3<=24/\cB (bL s) (0+0+k.toNat*3) [.string ⟨#[]⟩,iI 0,iI 0]=bL {b:=ae s.b k ⟨#[]⟩,e:=cr (cr s.e k 0 0) k 1 0} :=by
 refine⟨og,?_⟩;have e1:=(iy s k h0 ⟨#[]⟩).2;have e2:=(lO {s with b:=ae s.b k ⟨#[]⟩} k h0 0).2;have e3:=(lh {b:=ae s.b k ⟨#[]⟩,e:=cr s.e k 0 0} k h0 0).2;grind [cB]
abbrev blt(a b:ByteArray):Bool:=Op.bytesLess a.toList b.toList
theorem Hw(a b:ByteArray):blt a b=true↔a.toList<b.toList:=by unfold blt;rw[Go.Proofs.bytesLess_eq,decide_eq_true_eq]
theorem toList_inj{a b:ByteArray}(h:a.toList=b.toList):a=b:=by
 grind [toList_beq]
theorem Mh(a:ByteArray):blt a a=false:=by
 grind [Hw]
theorem Qv{a b c:ByteArray}(h1:blt a b=true)(h2:blt b c=true):blt a c=true:=by grind [Hw]
theorem Qw(a b:ByteArray):blt a b=true\/a=b\/blt b a=true:=by
 grind [Hw,toList_inj]
abbrev n9(l:List ByteArray)(i:Nat):ByteArray:=l.getD i ByteArray.empty
def fj(l:List ByteArray):Prop:=∀ i j,i<j->j<l.length->blt (n9 l i) (n9 l j)=true
def eo:List ByteArray->ByteArray->Nat
 | [],_=>0
 | y::r,x=>if blt y x=true then eo r x+1 else 0
theorem nY:∀ (l:List ByteArray) (x:ByteArray),eo l x<=l.length
 | [],_=>Nat.le_refl _
 | y::r,x=>by
  unfold eo;split
  ·simp;exact nY r x
  ·omega
theorem yc:∀ (l:List ByteArray) (x:ByteArray) (i:Nat),i<eo l x->blt (n9 l i) x=true
 | [],_,i,h=>by simp[eo]at h
 | y::r,x,i,h=>by
  unfold eo at h;split at h
  ·cases i with
   | zero=>simpa [n9]using (by assumption:blt y x=true)
   | succ i=>simpa [n9]using yc r x i og
  ·omega
theorem BK:∀ (l:List ByteArray) (x:ByteArray),eo l x<l.length->blt (n9 l (eo l x)) x=false
 | [],_,h=>by simp at h
 | y::r,x,h=>by
  unfold eo at h ⊢;split
  ·rename_i c;rw[if_pos c]at h;simpa [n9]using BK r x (by simpa using h)
  ·rename_i c;simpa [n9]using c
theorem Hy(hl:fj l)(x:ByteArray){i:Nat}(h:eo l x<=i)(hi:i<l.length):blt (n9 l i) x=false:=by
 grind [BK,Qv,fj]
def oX(l:List ByteArray)(x:ByteArray):Bool:=decide (eo l x<l.length/\n9 l (eo l x)=x)
def Hz(Iw:Nat->Bool)(k N:Nat)(h1:∀ t,t<k->Iw t=true)(h2:∀ t,k<=t->t<N->Iw t=false):∀ (f lo hi:Nat),hi-lo<=f->lo<=k->k<=hi->hi<=N->Go.Lib.bsGo Iw f lo hi=k
 | 0,lo,hi,hf,a,b,_=>by unfold Go.Lib.bsGo;omega
 | f+1,lo,hi,hf,a,b,c=>by
  unfold Go.Lib.bsGo;by_cases h:lo<hi
  ·rw[if_pos h];by_cases q:(lo+hi)/2<k
   ·rw[h1 _ q,if_pos rfl];exact Hz Iw k N h1 h2 f _ _ og og b c
   ·rw[h2 _ og og,if_neg sq];exact Hz Iw k N h1 h2 f _ _ og a og og
  ·rw[if_neg h];omega
theorem Db(hl:fj l)(x:ByteArray):bsS l x=eo l x:=
 Hz _ (eo l x) l.length (fun t ht=>yc l x t ht) (fun t ht hn=>Hy hl x ht hn) _ _ _ og og (nY l x) (Nat.le_refl _)
def ye(hl:fj l)(x:ByteArray):IY l x=oX l x:=by
 grind [IY,oX,Db]
theorem lP :oX l x=true↔eo l x<l.length/\n9 l (eo l x)=x:=by grind [oX]
theorem X4(hl:fj l){i:Nat}(hi:i<l.length)(h:n9 l i=x):i=eo l x:=by
 rcases Nat.lt_trichotomy i (eo l x)with c | c | c
 ·have:=yc l x i c;grind [Mh]
 ·omega
 grind [BK,fj]
theorem X5(hl:fj l)(h:oX l x=false){i:Nat}(hi:i<l.length):n9 l i≠x:=fun e=>by
 grind [X4,lP]
theorem X6(hl:fj l)(h:oX l x=false){i:Nat}(h1:eo l x<=i)(hi:i<l.length):blt x (n9 l i)=true:=by
 grind [Qw,Hy,X5]
theorem Dc(l:List ByteArray)(p:Nat)(x:ByteArray)(j:Nat)(hp:p<=l.length):n9 (l.insertIdx p x) j=if j<p then n9 l j else if j=p then x else n9 l (j-1):=by
 grind
theorem F2(l:List ByteArray)(p j:Nat):n9 (l.eraseIdx p) j=if j<p then n9 l j else n9 l (j+1):=by
 grind
theorem fj.insert(hl:fj l)(h:oX l x=false):fj (l.insertIdx (eo l x) x):=fun i j RO hj=>by
 have hp:=nY l x;rw[List.length_insertIdx,if_pos hp]at hj;rw[Dc _ _ _ _ hp,Dc _ _ _ _ hp];by_cases c1:j<eo l x
 ·grind [fj]
 ·rw[if_neg c1];by_cases c2:j=eo l x
  ·rw[if_pos c2,if_pos og];exact yc l x i og
  grind [X6,fj]
theorem fj.Oc(hl:fj l)(p:Nat)(hp:p<l.length):fj (l.eraseIdx p):=fun i j RO hj=>by
 grind [F2,fj]
theorem fj.nil:fj []:=fun i j _ h=>by simp at h
def X7(c:UInt8):Bool:=(decide (97<=c.toNat)&&decide (c.toNat<=122))||(decide (48<=c.toNat)&&decide (c.toNat<=57))||decide (c.toNat=46)
def jW(s:ByteArray):Bool:=(List.range s.size).all (fun i=>X7 (s.get! i))&&(decide (1<=s.size/\s.size<=8)&&(decide (s≠⟨#[46]⟩)&&decide (s≠⟨#[46,46]⟩)))
def Ub{s:ByteArray}{j:Nat}{u:UInt8}(h:s[j]? =some u):s.get! j=u:=by
 have hj:j<s.size:=by
  grind
 rw[getElem?_pos s j hj]at h;have h2:=Option.some.inj h;rw[<-h2];show s.data[j]! =s.data[j];simp_all
def J1{s:ByteArray}{j:Nat}(h:j<s.size):∃ u,s[j]? =some u:=⟨s[j],getElem?_pos s j h⟩
theorem yf{s:ByteArray} :s=⟨#[]⟩↔s.size=0:=by
 constructor
 ·rintro rfl;rfl
 ·intro h;cases s with
  | mk d=>congr 1;exact Array.eq_empty_of_size_eq_zero h
structure FF where
 aU:Int->Int
 dy:Int->Int
 bG:Int->Int
 bj:Int->Int
 up:Int->Int
 data:Int->ByteArray
 aN:Int->List ByteArray
 kids:Int->List Int
 roots:List Int
structure FC extends FF where
 nP:Int->Option Addr
 nC:Int->Nat
 kP:Int->Option Addr
 kC:Int->Nat
 rP:Option Addr
 rC:Nat
def Wv(d:ByteArray)(at_:Nat)(x:ByteArray):ByteArray:=⟨((List.range (max d.size (at_+x.size))).map fun i=>if at_<=i/\i<at_+x.size then x.get! (i-at_)else if i<d.size then d.get! i else 0).toArray⟩
namespace FF
def cx(s:FF)(n k:Int):Int:=if n<0\/40<=n then 1 else if s.aU n=0 then 2 else if 0<k/\s.aU n≠k then 11 else 0
def vL(s:FF):Nat->Int
 | 0=> -1
 | k+1=>if s.aU (39-(k:Int))=0 then 39-(k:Int)else vL s k
def free(s:FF):Int:=vL s 40
def js(s:FF)(z k t l u:Int):FF:=⟨ae s.aU z k,ae s.dy z t,ae s.bG z l,ae s.bj z 0,ae s.up z u,ae s.data z ByteArray.empty,ae s.aN z [],ae s.kids z [],s.roots⟩
def qL(s:FF)(z:Int):FF:=if s.bG z=0/\s.bj z=0 then s.js z 0 0 0 0 else s
def p6(s:FF):Int:=if s.roots.length=4 then 4 else if s.free<0 then 4 else 0
def yg(s:FF):FF:=if s.p6=0 then {s.js s.free 2 (s.roots.length:Int) 1 s.free with roots:=s.roots++[s.free]} else s
def wI(s:FF):Int:=if s.p6=0 then(s.roots.length:Int)else 0
def mi(s:FF)(t:Int):Int:=if t<0\/4<=t then 1 else if(s.roots.length:Int)<=t then 2 else 0
def fK(s:FF)(t:Int):Int:=if s.mi t=0 then dg s.roots t else 0
def sL(s:FF)(n:Int)(x:ByteArray)(k:Int):FF:= {s with aN:=ae s.aN n ((s.aN n).insertIdx (eo (s.aN n) x) x),kids:=ae s.kids n ((s.kids n).insertIdx (eo (s.aN n) x) k)}
def ek(s:FF)(n:Int)(x:ByteArray):FF:= {s with aN:=ae s.aN n ((s.aN n).eraseIdx (eo (s.aN n) x)),kids:=ae s.kids n ((s.kids n).eraseIdx (eo (s.aN n) x))}
def fC(s:FF)(n:Int)(x:ByteArray):Int:=if s.cx n 2≠0 then s.cx n 2 else if oX (s.aN n) x=true then 0 else 2
def bK(s:FF)(n:Int)(x:ByteArray):Int:=if s.fC n x=0 then dg (s.kids n) (eo (s.aN n) x)else 0
def eX(s:FF)(n:Int)(x:ByteArray):Int:=if s.cx n 2≠0 then s.cx n 2 else if jW x=false then 9 else if oX (s.aN n) x=true then 3 else if(s.aN n).length=8 then 4 else 0
def mj(s:FF)(n:Int)(x:ByteArray)(k:Int):Int:=if k≠1/\k≠2 then 1 else if s.eX n x≠0 then s.eX n x else if s.free<0 then 4 else 0
def oY(s:FF)(n:Int)(x:ByteArray)(k:Int):Int:=if s.mj n x k=0 then s.free else 0
def make(s:FF)(n:Int)(x:ByteArray)(k:Int):FF:=if s.mj n x k=0 then(s.js s.free k (s.dy n) 1 n).sL n x s.free else s
def tN(s:FF)(gF n:Int)(x:ByteArray):Int:=if s.cx gF 1≠0 then s.cx gF 1 else if s.eX n x≠0 then s.eX n x else if s.dy gF≠s.dy n then 11 else 0
def zU(s:FF)(gF n:Int)(x:ByteArray):FF:=if s.tN gF n x=0 then {s.sL n x gF with bG:=ae s.bG gF (s.bG gF+1)} else s
def Mi(s:FF)(k:Int):Prop:=s.aU k=2/\(0<(s.kids k).length\/0<s.bj k)
instance (s:FF) (k:Int):Decidable (s.Mi k):=by unfold Mi;infer_instance
def cY(s:FF)(n:Int)(x:ByteArray):Int:=if s.fC n x≠0 then s.fC n x else if s.Mi (s.bK n x)then 5 else 0
def ed(s:FF)(n:Int)(x:ByteArray):FF:=if s.cY n x=0 then qL {s.ek n x with bG:=ae s.bG (s.bK n x) (s.bG (s.bK n x)-1)} (s.bK n x)else s
def zV(s:FF):Nat->Int->Int->Bool
 | 0,n,k=>decide (n=k)
 | f+1,n,k=>if n=k then true else if s.up n=n then false else zV s f (s.up n) k
def J2(d:Int->Nat)(s:FF)(n k:Int):Bool:=zV s (d n) n k
def fN(d:Int->Nat)(s:FF)(n:Int)(x:ByteArray)(to:Int):Int:=if s.fC n x≠0 then s.fC n x else if s.cx to 2≠0 then s.cx to 2 else if s.dy n≠s.dy to then 11 else if s.aU (s.bK n x)=2/\J2 d s to (s.bK n x)=true then 5 else 0
def fg(d:Int->Nat)(s:FF)(n:Int)(x:ByteArray)(to:Int)(y:ByteArray):Int:=if s.fN d n x to≠0 then s.fN d n x to else(s.ek n x).eX to y
def move(d:Int->Nat)(s:FF)(n:Int)(x:ByteArray)(to:Int)(y:ByteArray):FF:=
 if s.fN d n x to≠0 then s else if(s.ek n x).eX to y≠0 then(s.ek n x).sL n x (s.bK n x)else
  if s.aU (s.bK n x)=2 then {(s.ek n x).sL to y (s.bK n x)with up:=ae s.up (s.bK n x) to} else(s.ek n x).sL to y (s.bK n x)
def dP(s:FF)(n:Int):FF:=if s.cx n 0=0 then {s with bj:=ae s.bj n (s.bj n+1)} else s
def Dd(s:FF)(n:Int):Int:=if s.cx n 0≠0 then s.cx n 0 else if s.bj n=0 then 8 else 0
def kz(s:FF)(n:Int):FF:=if s.Dd n=0 then qL {s with bj:=ae s.bj n (s.bj n-1)} n else s
def lQ(s:FF)(n at_ m:Int):Int:=if s.cx n 1≠0 then s.cx n 1 else if at_<0\/m<0 then 1 else 0
def ky(s:FF)(n at_ m:Int):ByteArray:=if s.lQ n at_ m=0 then(s.data n).extract (min at_ (s.data n).size).toNat (min at_ (s.data n).size+min m ((s.data n).size-min at_ (s.data n).size)).toNat else ByteArray.empty
def eW(s:FF)(n at_:Int)(x:ByteArray):Int:=if s.cx n 1≠0 then s.cx n 1 else if at_<0 then 1 else if 40<at_\/40-at_<(x.size:Int)then 4 else 0
def cg(s:FF)(n at_:Int)(x:ByteArray):FF:=if s.eW n at_ x=0/\x≠ByteArray.empty then {s with data:=ae s.data n (Wv (s.data n) at_.toNat x)} else s
def qG(s:FF):Nat->Int
 | 0=>0
 | k+1=>qG s k+(if 0<s.aU (k:Int)then 1 else 0)
def dm:FF:=⟨fun _=>0,fun _=>0,fun _=>0,fun _=>0,fun _=>0,fun _=>ByteArray.empty,fun _=>[],fun _=>[],[]⟩
def HA(f:Int->List Int)(k:Int):Nat->Nat
 | 0=>0
 | n+1=>HA f k n+(f (n:Int)).count k
def F3(s:FF)(k:Int):Nat:=HA s.kids k 40+s.roots.count k
structure Sh (s:FF):Prop where
 jd:∀ n,0<=n->n<40->fj (s.aN n)/\(s.aN n).length=(s.kids n).length/\(s.aN n).length<=8/\(s.aU n≠2->s.aN n=[])
 kids:∀ n,0<=n->n<40->∀ k∈s.kids n,0<=k/\k<40
 data:∀ n,0<=n->n<40->(s.data n).size<=40
 roots:s.roots.length<=4/\∀ r∈s.roots,0<=r/\r<40
 num:∀ n,0<=n->n<40-> -1000000<=s.bG n/\s.bG n<=1000000/\0<=s.bj n/\s.bj n<=1000000
structure dR (s:FF) (d:Int->Nat) (e q:Int):Prop where
 kinds:∀ n,0<=n->n<40->s.aU n=0\/s.aU n=1\/s.aU n=2
 jd:∀ n,0<=n->n<40->fj (s.aN n)/\(s.aN n).length=(s.kids n).length/\(s.aN n).length<=8/\(s.aU n≠2->s.aN n=[])
 Mj:∀ n,0<=n->n<40->∀ x∈s.aN n,jW x=true
 kids:∀ n,0<=n->n<40->∀ k∈s.kids n,0<=k/\k<40/\s.aU k≠0/\s.dy k=s.dy n/\(s.aU k=2->s.up k=n/\d n<d k)
 data:∀ n,0<=n->n<40->(s.data n).size<=40/\(s.aU n≠1->s.data n=ByteArray.empty)
 roots:s.roots.length<=4/\∀ r∈s.roots,0<=r/\r<40/\s.aU r=2/\s.up r=r
 up:∀ n,0<=n->n<40->s.aU n=2->n≠e->n≠q->(n∈s.roots/\s.up n=n)\/(0<=s.up n/\s.up n<40/\s.aU (s.up n)=2/\n∈s.kids (s.up n)/\d (s.up n)<d n)
 num:∀ n,0<=n->n<40->0<=s.bj n/\s.bG n=(s.F3 n:Int)+(if n=e then 1 else 0)
 zero:∀ n,0<=n->n<40->s.aU n=0->s.bG n=0/\s.bj n=0
 pos:∀ n,0<=n->n<40->s.aU n≠0->n≠q->0<s.bG n\/0<s.bj n
 Iq:∀ n,0<=n->n<40->s.aU n=2->n≠q->s.bG n=1
abbrev Inv(s:FF)(d:Int->Nat):Prop:=s.dR d (-1) (-1)
def vG{s:FF}{n:Int}(h:s.cx n 0=0):0<=n/\n<40/\s.aU n≠0:=by
 grind [cx]
def je{s:FF}{n k:Int}(h:s.cx n k=0):0<=n/\n<40/\s.aU n≠0/\(0<k->s.aU n=k):=by
 grind [cx]
theorem Uc{s:FF}{n k:Int}(h:s.cx n 0≠0):s.cx n 0=s.cx n k:=by
 grind [cx]
def Tu(s:FF)(n k:Int):0<=s.cx n k:=by grind [cx]
end FF
def ax:Nat->Bool:=fun i=>Nat.blt i 40
def FC.aX(e:TypeId)(s:FC):Nat->pQ:=fun i=>⟨.slice (s.nP (i:Int)) (s.aN (i:Int)).length (s.nC (i:Int)),e,1,(s.aN (i:Int)).length,strs (s.aN (i:Int))⟩
def FC.aY(e:TypeId)(s:FC):Nat->pQ:=fun i=>⟨.slice (s.kP (i:Int)) (s.kids (i:Int)).length (s.kC (i:Int)),e,1,(s.kids (i:Int)).length,fL (s.kids (i:Int))⟩
def FC.dm:FC:=⟨FF.dm,fun _=>none,fun _=>0,fun _=>none,fun _=>0,none,0⟩
theorem iL(C:Nat->Value):∀ (vs:List Value) (i j:Nat),j<i->cB C i vs j=C j
 | [],_,_,_=>rfl
 | v::r,i,j,h=>by
  unfold cB;rw[iL (dE C i v) r (i+1) j og];simp[dE];omega
theorem fQ:∀ (vs:List Value) (C:Nat->Value) (i j:Nat) (v:Value),vs[j]? =some v->cB C i vs (i+j)=v
 | [],_,_,_,_,h=>by simp at h
 | u::r,C,i,0,v,h=>by
  have h2:u=v:=by simpa using h
  unfold cB;rw[iL _ _ _ _ og,<-h2];simp[dE]
 | u::r,C,i,j+1,v,h=>by
  unfold cB;have:=fQ r (dE C i u) (i+1) j v (by simpa using h);rw[show i+1+j=i+(j+1)from og]at this;exact this
theorem jm:∀ (vs:List Value) (C:Nat->Value) (i j:Nat),i+vs.length<=j->cB C i vs j=C j
 | [],_,_,_,_=>rfl
 | v::r,C,i,j,h=>by
  simp only[List.length_cons]at h;unfold cB;rw[jm r (dE C i v) (i+1) j og];simp[dE];omega
structure aH.U where
 aU:Int
 dy:Int
 bG:Int
 bj:Int
 data:ByteArray
 up:Int
 aN:List ByteArray
 nP:Option Addr
 nC:Nat
 kids:List Int
 kP:Option Addr
 kC:Nat
def aH.un(s:FC)(z:Int):aH.U:=⟨s.aU z,s.dy z,s.bG z,s.bj z,s.data z,s.up z,s.aN z,s.nP z,s.nC z,s.kids z,s.kP z,s.kC z⟩
def aH.cell(u:aH.U)(j:Nat):Value:=
 if j=0 then iI u.aU else
 if j=1 then iI u.dy else
 if j=2 then iI u.bG else
 if j=3 then iI u.bj else
 if j=4 then .string u.data else
 if 5<=j/\j<6 then .slice u.nP u.aN.length u.nC else
 if 6<=j/\j<7 then .slice u.kP u.kids.length u.kC else
 if j=7 then iI u.up else
 undef
def aH(s:FC)(i:Nat):Value:=
 if i<320 then aH.cell (aH.un s ((i/8:Nat):Int)) (i%8)else
 if i=320 then Value.slice s.rP s.roots.length s.rC else
 undef
theorem aH.at_(s:FC)(z:Int)(h:0<=z/\z<40)(j:Nat)(hj:j<8):aH s (0+0+z.toNat*8+j)=aH.cell (aH.un s z) j:=by
 unfold aH;grind
theorem aH.set(s s':FC)(z:Int)(h:0<=z/\z<40)(k:Nat)(hk:k<8)(v:Value)(hv:∀ j,aH.cell (aH.un s' z) j=if j=k then v else aH.cell (aH.un s z) j)(ho:∀ y,¬y=z->aH.un s' y=aH.un s y)(hn:Value.slice s'.rP s'.roots.length s'.rC=Value.slice s.rP s.roots.length s.rC):0+0+z.toNat*8+k<321/\dE (aH s) (0+0+z.toNat*8+k) v=aH s':=by
 grind [dE,aH]
def aH.SU(s s':FC)(z:Int)(h:0<=z/\z<40)(vs:List Value)(hl:vs.length=8)(hv:∀ j,j<8->vs[j]? =some (aH.cell (aH.un s' z) j))(ho:∀ y,¬y=z->aH.un s' y=aH.un s y)(hn:Value.slice s'.rP s'.roots.length s'.rC=Value.slice s.rP s.roots.length s.rC):0+0+z.toNat*8+8<=321/\cB (aH s) (0+0+z.toNat*8) vs=aH s':=by
 refine⟨og,?_⟩;funext i;by_cases a1:i<0+0+z.toNat*8
 ·rw[iL _ _ _ _ a1];unfold aH;grind
 ·by_cases a2:i<0+0+z.toNat*8+8
  ·obtain⟨j,rfl⟩:∃ j,i=0+0+z.toNat*8+j:=⟨i-(0+0+z.toNat*8),og⟩;rw[aH.at_ s' z h j og];exact fQ vs _ _ _ _ (hv j og)
  ·rw[jm _ _ _ _ og];unfold aH;grind
def fG(s:FC)(z:Int)(h:0<=z/\z<40:=by omega):0+0+z.toNat*8+0<321/\aH s (0+0+z.toNat*8+0)=iI (s.aU z):=⟨og,aH.at_ s z h 0 og⟩
def gy(s:FC)(z:Int)(h:0<=z/\z<40:=by omega):0+0+z.toNat*8+1<321/\aH s (0+0+z.toNat*8+1)=iI (s.dy z):=⟨og,aH.at_ s z h 1 og⟩
def kV(s:FC)(z:Int)(h:0<=z/\z<40:=by omega):0+0+z.toNat*8+2<321/\aH s (0+0+z.toNat*8+2)=iI (s.bG z):=⟨og,aH.at_ s z h 2 og⟩
def nB(s:FC)(z:Int)(h:0<=z/\z<40)(v:Int):0+0+z.toNat*8+2<321/\dE (aH s) (0+0+z.toNat*8+2) (iI v)=aH {s with bG:=ae s.bG z v} :=aH.set s {s with bG:=ae s.bG z v} z h 2 og _ (fun j=>by
 have e:aH.un {s with bG:=ae s.bG z v} z= {aH.un s z with bG:=v} :=by unfold aH.un;simp only[au]
 rw[e]
 by_cases hj:j=2
 ·subst hj;rfl
 ·unfold aH.cell;simp only[if_neg hj]) (fun y hy=>by unfold aH.un;simp only[ai _ _ hy]) rfl
def jX(s:FC)(z:Int)(h:0<=z/\z<40:=by omega):0+0+z.toNat*8+3<321/\aH s (0+0+z.toNat*8+3)=iI (s.bj z):=⟨og,aH.at_ s z h 3 og⟩
def tO(s:FC)(z:Int)(h:0<=z/\z<40)(v:Int):0+0+z.toNat*8+3<321/\dE (aH s) (0+0+z.toNat*8+3) (iI v)=aH {s with bj:=ae s.bj z v} :=aH.set s {s with bj:=ae s.bj z v} z h 3 og _ (fun j=>by
 have e:aH.un {s with bj:=ae s.bj z v} z= {aH.un s z with bj:=v} :=by unfold aH.un;simp only[au]
 rw[e]
 by_cases hj:j=3
 ·subst hj;rfl
 ·unfold aH.cell;simp only[if_neg hj]) (fun y hy=>by unfold aH.un;simp only[ai _ _ hy]) rfl
def oZ(s:FC)(z:Int)(h:0<=z/\z<40:=by omega):0+0+z.toNat*8+4<321/\aH s (0+0+z.toNat*8+4)= .string (s.data z):=⟨og,aH.at_ s z h 4 og⟩
def De(s:FC)(z:Int)(h:0<=z/\z<40)(v:ByteArray):0+0+z.toNat*8+4<321/\dE (aH s) (0+0+z.toNat*8+4) (.string v)=aH {s with data:=ae s.data z v} :=aH.set s {s with data:=ae s.data z v} z h 4 og _ (fun j=>by
 have e:aH.un {s with data:=ae s.data z v} z= {aH.un s z with data:=v} :=by unfold aH.un;simp only[au]
 rw[e]
 by_cases hj:j=4
 ·subst hj;rfl
 ·unfold aH.cell;simp only[if_neg hj]) (fun y hy=>by unfold aH.un;simp only[ai _ _ hy]) rfl
def yh(s:FC)(z:Int)(h:0<=z/\z<40:=by omega):0+0+z.toNat*8+7<321/\aH s (0+0+z.toNat*8+7)=iI (s.up z):=⟨og,aH.at_ s z h 7 og⟩
def rW(s:FC)(z:Int)(h:0<=z/\z<40)(v:Int):0+0+z.toNat*8+7<321/\dE (aH s) (0+0+z.toNat*8+7) (iI v)=aH {s with up:=ae s.up z v} :=aH.set s {s with up:=ae s.up z v} z h 7 og _ (fun j=>by
 have e:aH.un {s with up:=ae s.up z v} z= {aH.un s z with up:=v} :=by unfold aH.un;simp only[au]
 rw[e]
 by_cases hj:j=7
 ·subst hj;rfl
 ·unfold aH.cell;simp only[if_neg hj]) (fun y hy=>by unfold aH.un;simp only[ai _ _ hy]) rfl
def fp(s:FC)(z:Int)(h:0<=z/\z<40:=by omega):0+0+z.toNat*8+5<321/\aH s (0+0+z.toNat*8+5)= .slice (s.nP z) (s.aN z).length (s.nC z):=⟨og,aH.at_ s z h 5 og⟩
def sy(s:FC)(z:Int)(h:0<=z/\z<40)(x:List ByteArray)(p:Option Addr)(c n:Nat)(hx:n=x.length):0+0+z.toNat*8+5<321/\dE (aH s) (0+0+z.toNat*8+5) (.slice p n c)=aH {s with aN:=ae s.aN z x,nP:=ae s.nP z p,nC:=ae s.nC z c} :=by
 subst hx;exact aH.set s {s with aN:=ae s.aN z x,nP:=ae s.nP z p,nC:=ae s.nC z c} z h 5 og _ (fun j=>by
 have e:aH.un {s with aN:=ae s.aN z x,nP:=ae s.nP z p,nC:=ae s.nC z c} z= {aH.un s z with aN:=x,nP:=p,nC:=c} :=by unfold aH.un;simp only[au]
 rw[e]
 by_cases hj:j=5
 ·subst hj;rfl
 ·unfold aH.cell
  simp only[show ¬(5<=j/\j<6)from og,hj,if_false]) (fun y hy=>by unfold aH.un;simp only[ai _ _ hy]) rfl
def lR(s:FC)(z:Int)(h:0<=z/\z<40:=by omega):0+0+z.toNat*8+6<321/\aH s (0+0+z.toNat*8+6)= .slice (s.kP z) (s.kids z).length (s.kC z):=⟨og,aH.at_ s z h 6 og⟩
def tP(s:FC)(z:Int)(h:0<=z/\z<40)(x:List Int)(p:Option Addr)(c n:Nat)(hx:n=x.length):0+0+z.toNat*8+6<321/\dE (aH s) (0+0+z.toNat*8+6) (.slice p n c)=aH {s with kids:=ae s.kids z x,kP:=ae s.kP z p,kC:=ae s.kC z c} :=by
 subst hx;exact aH.set s {s with kids:=ae s.kids z x,kP:=ae s.kP z p,kC:=ae s.kC z c} z h 6 og _ (fun j=>by
 have e:aH.un {s with kids:=ae s.kids z x,kP:=ae s.kP z p,kC:=ae s.kC z c} z= {aH.un s z with kids:=x,kP:=p,kC:=c} :=by unfold aH.un;simp only[au]
 rw[e]
 by_cases hj:j=6
 ·subst hj;rfl
 ·unfold aH.cell
  simp only[show ¬(6<=j/\j<7)from og,hj,if_false]) (fun y hy=>by unfold aH.un;simp only[ai _ _ hy]) rfl
theorem F4(v k:Int):∀ (l:List Int) (i:Nat),i<=l.length->(l.insertIdx i v).count k=l.count k+(if v=k then 1 else 0)
 | l,0,_=>by rw[List.insertIdx_zero,List.count_cons];simp
 | [],i+1,h=>by simp at h
 | x::l,i+1,h=>by
  rw[List.insertIdx_succ_cons,List.count_cons,List.count_cons,F4 v k l i (by simpa using h)];omega
theorem zW(k:Int):∀ (l:List Int) (i:Nat),i<l.length->(l.eraseIdx i).count k+(if l.getD i 0=k then 1 else 0)=l.count k
 | x::l,0,_=>by rw[List.eraseIdx_cons_zero,List.count_cons];simp
 | x::l,i+1,h=>by
  rw[List.eraseIdx_cons_succ,List.count_cons,List.count_cons,<-zW k l i (by simpa using h),List.getD_cons_succ];omega
theorem Mk{l:List Int}{i:Nat}{k:Int}(hi:i<l.length)(h:k∈l)(hk:l.getD i 0≠k):k∈l.eraseIdx i:=by
 have h1:=zW k l i hi;grind
def rH{l:List Int}{p:Nat}(h:p<l.length):l.getD p 0∈l:=by
 simp_all
def Df(f:Int->List Int)(z:Int)(l:List Int)(k:Int):∀ N:Nat,FF.HA (ae f z l) k N+(if 0<=z/\z<N then(f z).count k else 0)=FF.HA f k N+(if 0<=z/\z<N then l.count k else 0)
 | 0=>by rw[if_neg og,if_neg og];rfl
 | N+1=>by
  have ih:=Df f z l k N;unfold FF.HA;grind [ae]
theorem X8(f:Int->List Int)(k:Int){z:Int}{N:Nat}(hz:0<=z/\z<N):(f z).count k<=FF.HA f k N:=by
 have:=Df f z [] k N;grind
def Od(f:Int->List Int)(k:Int)(B:Nat):∀ N:Nat,(∀ n:Nat,n<N->(f (n:Int)).length<=B)->FF.HA f k N<=N*B
 | 0,_=>by simp[FF.HA]
 | N+1,h=>by
  have ih:=Od f k B N fun n hn=>h n og;have h1:=h N og;have h2:=List.count_le_length (a:=k) (l:=f (N:Int));unfold FF.HA;grind
namespace FF
def Oe{s t:FF}{z:Int}{l:List Int}(h1:t.kids=ae s.kids z l)(h2:t.roots=s.roots)(hz:0<=z/\z<40)(k:Int):t.F3 k+(s.kids z).count k=s.F3 k+l.count k:=by
 have:=Df s.kids z l k 40;grind [F3]
theorem J3{s t:FF}(h1:t.kids=s.kids)(h2:t.roots=s.roots)(k:Int):t.F3 k=s.F3 k:=by grind [F3]
theorem HB{s:FF}{n k:Int}(hn:0<=n/\n<40)(h:k∈s.kids n):1<=s.F3 k:=by
 grind [X8,F3]
theorem J4{s:FF}{k:Int}(h:k∈s.roots):1<=s.F3 k:=by
 grind [F3]
section
variable {s:FF} {d:Int->Nat} {e q:Int}
def dR.Ml(h:s.dR d e q){n:Int}(h1:0<=n)(h2:n<40)(hk:s.aU n≠2):s.kids n=[]/\s.aN n=[]:=by
 grind [dR.jd]
def dR.abR(h:s.dR d e q)(k:Int):s.F3 k<=324:=by
 have h1:=Od s.kids k 8 40 (fun n hn=>by
  obtain⟨_,a,b,_⟩:=h.jd n og og
  omega)
 grind [dR.roots,F3]
def dR.sh(h:s.dR d e q)(hB:∀ n,0<=n->n<40->s.bj n<=1000000):s.Sh where
 jd:=h.jd
 kids:=fun n h1 h2 k hk=>⟨(h.kids n h1 h2 k hk).1,(h.kids n h1 h2 k hk).2.1⟩
 data:=fun n h1 h2=>(h.data n h1 h2).1
 roots:=⟨h.roots.1,fun r hr=>⟨(h.roots.2 r hr).1,(h.roots.2 r hr).2.1⟩⟩
 num:=fun n h1 h2=>by
  obtain⟨a,b⟩:=h.num n h1 h2
  have c:=h.abR n
  have e:=hB n h1 h2
  split at b<;>omega
def dR.ahI(h:s.dR d e q){z:Int}(h1:0<=z)(h2:z<40)(hz:s.aU z=0):s.F3 z=0/\z≠e:=by
 obtain⟨_,b⟩:=h.num z h1 h2;grind [dR.zero]
theorem dR.cut(h:s.dR d (-1) q){n:Int}{k:Int}(h1:0<=n)(h2:n<40)(hx:oX (s.aN n) x=true)(hk:dg (s.kids n) (eo (s.aN n) x)=k):(s.ek n x).dR d k q:=by
 obtain⟨p1,p2⟩:=lP.1 hx;obtain⟨r1,r2,r3,r4⟩:=h.jd n h1 h2;have hp:eo (s.aN n) x<(s.kids n).length:=og;have Eg:(s.kids n).getD (eo (s.aN n) x) 0=k:=by simpa [dg]using hk
 have hkr:0<=k:=by
  have:=rH hp;rw[Eg]at this;exact(h.kids n h1 h2 k this).1
 have hm:∀ m,(s.ek n x).kids m=if m=n then(s.kids n).eraseIdx (eo (s.aN n) x)else s.kids m:=fun m=>rfl
 have hnm:∀ m,(s.ek n x).aN m=if m=n then(s.aN n).eraseIdx (eo (s.aN n) x)else s.aN m:=fun m=>rfl
 have sub:∀ m j,j∈(s.ek n x).kids m->j∈s.kids m:=fun m j hj=>by
  grind [List.mem_of_mem_eraseIdx]
 refine⟨h.kinds,fun m a b=> ?_,fun m a b y hy=> ?_,fun m a b j hj=>h.kids m a b j (sub m j hj),h.data,h.roots,fun m a b c gK hnq=> ?_,fun m a b=> ?_,h.zero,h.pos,h.Iq⟩
 ·grind [fj.Oc,dR.jd,ek]
 ·grind [dR.Mj,List.mem_of_mem_eraseIdx]
 ·rcases h.up m a b c og hnq with g | ⟨g1,g2,g3,g4,g5⟩;all_goals grind [ek,Mk]
 ·obtain⟨a1,a2⟩:=h.num m a b;have h3:=Oe (s:=s) (t:=s.ek n x) (z:=n) rfl rfl ⟨h1,h2⟩ m;grind [zW,ek]
theorem dR.put{k:Int}(h:s.dR d k q){n:Int}(h1:0<=n)(h2:n<40)(hn:s.aU n=2)(hx:oX (s.aN n) x=false)(hl:(s.aN n).length<8)(ok:jW x=true)(hk:0<=k/\k<40/\s.aU k≠0)(ht:s.dy k=s.dy n)(hd:s.aU k=2->s.up k=n/\d n<d k):(s.sL n x k).dR d (-1) q:=by
 obtain⟨r1,r2,r3,r4⟩:=h.jd n h1 h2;have X9:=nY (s.aN n) x;have hp:eo (s.aN n) x<=(s.kids n).length:=og;have hm:∀ m,(s.sL n x k).kids m=if m=n then(s.kids n).insertIdx (eo (s.aN n) x) k else s.kids m:=fun m=>rfl
 have hnm:∀ m,(s.sL n x k).aN m=if m=n then(s.aN n).insertIdx (eo (s.aN n) x) x else s.aN m:=fun m=>rfl
 refine⟨h.kinds,fun m a b=> ?_,fun m a b y hy=> ?_,fun m a b j hj=> ?_,h.data,h.roots,fun m a b c _ hnq=> ?_,fun m a b=> ?_,h.zero,h.pos,h.Iq⟩
 ·grind [fj.insert,dR.jd,sL]
 ·grind [List.mem_insertIdx,dR.Mj]
 ·rw[hm]at hj;split at hj
  ·rename_i c;subst c;rcases(List.mem_insertIdx hp).1 hj with rfl | hj
   ·grind [sL]
   ·exact h.kids m a b j hj
  ·exact h.kids m a b j hj
 ·by_cases c3:m=k
  ·grind [sL,List.mem_insertIdx]
  ·rcases h.up m a b c c3 hnq with g | ⟨g1,g2,g3,g4,g5⟩;all_goals grind [sL,List.mem_insertIdx]
 ·obtain⟨a1,a2⟩:=h.num m a b;have h3:=Oe (s:=s) (t:=s.sL n x k) (z:=n) rfl rfl ⟨h1,h2⟩ m;have h4:=F4 k m (s.kids n) _ hp;grind [sL]
def dR.fresh(h:s.dR d (-1) (-1)){z k t u:Int}(h1:0<=z)(h2:z<40)(hz:s.aU z=0)(hk:k=1\/k=2)(N:Nat):(s.js z k t 1 u).dR (ae d z N) z (-1):=by
 obtain⟨c0,_⟩:=h.ahI h1 h2 hz;obtain⟨k0,n0⟩:=h.Ml h1 h2 og;obtain⟨l0,e0⟩:=h.zero z h1 h2 hz;have hm:(s.js z k t 1 u).kids=s.kids:=cy _ k0;have hnm:(s.js z k t 1 u).aN=s.aN:=cy _ n0;have Ir:∀ m,(s.js z k t 1 u).aU m=if m=z then k else s.aU m:=fun m=>rfl
 have htr:∀ m,(s.js z k t 1 u).dy m=if m=z then t else s.dy m:=fun m=>rfl
 have FP:∀ m,(s.js z k t 1 u).up m=if m=z then u else s.up m:=fun m=>rfl
 have hdt:∀ m,(s.js z k t 1 u).data m=if m=z then ByteArray.empty else s.data m:=fun m=>rfl
 have hli:∀ m,(s.js z k t 1 u).bG m=if m=z then 1 else s.bG m:=fun m=>rfl
 have Qx:∀ m,(s.js z k t 1 u).bj m=if m=z then 0 else s.bj m:=fun m=>rfl
 have Pb:(s.js z k t 1 u).roots=s.roots:=rfl;have hdd:∀ m,ae d z N m=if m=z then N else d m:=fun m=>rfl
 have nz:∀ m j,0<=m->m<40->j∈s.kids m->m≠z/\j≠z:=by
  grind [HB]
 refine⟨fun m a b=> ?_,fun m a b=> ?_,fun m a b y hy=> ?_,fun m a b j hj=> ?_,fun m a b=> ?_,⟨h.roots.1,fun r hr=> ?_⟩,fun m a b c gK _=> ?_,fun m a b=> ?_,fun m a b c=> ?_,fun m a b c _=> ?_,fun m a b c _=> ?_⟩
 ·grind [dR.kinds]
 ·rw[hnm,hm,Ir];grind [dR.jd]
 ·grind [dR.Mj]
 ·grind [dR.kids]
 ·rw[hdt,Ir];split
  ·simp_all
  grind [dR.data]
 ·grind [dR.roots]
 ·rw[Ir,if_neg gK]at c;rw[FP,Ir,hm,hdd,hdd,if_neg gK,if_neg gK,Pb];rcases h.up m a b c og og with g | ⟨g1,g2,g3,g4,g5⟩;all_goals grind
 ·obtain⟨a1,a2⟩:=h.num m a b;grind [J3]
 ·grind [dR.zero]
 ·rw[Ir]at c;rw[hli,Qx];split at c
  ·omega
  ·rename_i c2;rw[if_neg c2,if_neg c2];exact h.pos m a b c og
 grind [dR.Iq]
theorem dR.rB{z:Int}(h:s.dR d z q)(h1:0<=z)(h2:z<40)(hz:s.aU z=2)(hu:s.up z=z)(hl:s.roots.length<4):dR {s with roots:=s.roots++[z]} d (-1) q:=by
 refine⟨h.kinds,h.jd,h.Mj,h.kids,h.data,⟨by simp;omega,fun r hr=> ?_⟩,fun m a b c _ hnq=> ?_,fun m a b=> ?_,h.zero,h.pos,h.Iq⟩
 ·grind [dR.roots]
 ·by_cases c2:m=z
  ·simp_all
  ·rcases h.up m a b c c2 hnq with⟨g1,g2⟩ | g;all_goals simp_all
 ·obtain⟨a1,a2⟩:=h.num m a b;grind [F3]
def dR.abU(h:s.dR d (-1) (-1)){k:Int}(h1:0<=k)(h2:k<40)(hk:s.aU k=1):dR {s with bG:=ae s.bG k (s.bG k+1)} d k (-1):=by
 have hli:∀ m,ae s.bG k (s.bG k+1) m=if m=k then s.bG k+1 else s.bG m:=fun m=>rfl
 refine⟨h.kinds,h.jd,h.Mj,h.kids,h.data,h.roots,fun m a b c _ _=>h.up m a b c og og,fun m a b=> ?_,fun m a b c=> ?_,fun m a b c _=> ?_,fun m a b c _=> ?_⟩
 ·obtain⟨a1,a2⟩:=h.num m a b;grind [F3]
 ·grind [dR.zero]
 ·show 0<ae s.bG k _ m\/_;rw[hli];obtain⟨a1,a2⟩:=h.num m a b;split
  ·simp_all
  ·exact h.pos m a b c og
 grind [dR.Iq]
def dR.Ud{k:Int}(h:s.dR d k (-1))(hk:s.aU k≠0):dR {s with bG:=ae s.bG k (s.bG k-1)} d (-1) k:=by
 have hli:∀ m,ae s.bG k (s.bG k-1) m=if m=k then s.bG k-1 else s.bG m:=fun m=>rfl
 refine⟨h.kinds,h.jd,h.Mj,h.kids,h.data,h.roots,fun m a b c _ hq=>h.up m a b c hq og,fun m a b=> ?_,fun m a b c=> ?_,fun m a b c hq=> ?_,fun m a b c hq=> ?_⟩
 ·obtain⟨a1,a2⟩:=h.num m a b;grind [F3]
 ·grind [dR.zero]
 ·show 0<ae s.bG k _ m\/_;rw[hli,if_neg hq];exact h.pos m a b c og
 grind [dR.Iq]
def dR.Ya(h:s.dR d e q)(h1:0<=q->q<40->s.aU q≠0->0<s.bG q\/0<s.bj q)(h2:0<=q->q<40->s.aU q≠2):s.dR d e (-1):=
 ⟨h.kinds,h.jd,h.Mj,h.kids,h.data,h.roots,fun m a b c he _=>h.up m a b c he fun e=>by subst e;exact h2 a b c,h.num,h.zero,fun m a b c _=>by
  by_cases e:m=q
  ·subst e;exact h1 a b c
  ·exact h.pos m a b c e,fun m a b c _=>h.Iq m a b c fun e=>by subst e;exact h2 a b c⟩
def dR.weak(h:s.dR d e (-1))(q:Int):s.dR d e q:=
 ⟨h.kinds,h.jd,h.Mj,h.kids,h.data,h.roots,fun m a b c he _=>h.up m a b c he og,h.num,h.zero,fun m a b c _=>h.pos m a b c og,fun m a b c _=>h.Iq m a b c og⟩
def dR.aeW(h:s.dR d (-1) q)(h1:0<=q)(h2:q<40)(hl:s.bG q=0)(hh:s.bj q=0)(hk:s.kids q=[]):(s.js q 0 0 0 0).dR d (-1) (-1):=by
 have c0:s.F3 q=0:=by
  have:=(h.num q h1 h2).2;omega
 have n0:s.aN q=[]:=List.eq_nil_of_length_eq_zero (by rw[(h.jd q h1 h2).2.1,hk];rfl);have hm:(s.js q 0 0 0 0).kids=s.kids:=cy _ hk;have hnm:(s.js q 0 0 0 0).aN=s.aN:=cy _ n0;have Ir:∀ m,(s.js q 0 0 0 0).aU m=if m=q then 0 else s.aU m:=fun m=>rfl
 have htr:∀ m,(s.js q 0 0 0 0).dy m=if m=q then 0 else s.dy m:=fun m=>rfl
 have FP:∀ m,(s.js q 0 0 0 0).up m=if m=q then 0 else s.up m:=fun m=>rfl
 have hdt:∀ m,(s.js q 0 0 0 0).data m=if m=q then ByteArray.empty else s.data m:=fun m=>rfl
 have hli:∀ m,(s.js q 0 0 0 0).bG m=if m=q then 0 else s.bG m:=fun m=>rfl
 have Qx:∀ m,(s.js q 0 0 0 0).bj m=if m=q then 0 else s.bj m:=fun m=>rfl
 have Pb:(s.js q 0 0 0 0).roots=s.roots:=rfl;have nz:∀ m j,0<=m->m<40->j∈s.kids m->m≠q/\j≠q:=by
  grind [HB]
 refine⟨fun m a b=> ?_,fun m a b=> ?_,fun m a b y hy=> ?_,fun m a b j hj=> ?_,fun m a b=> ?_,⟨h.roots.1,fun r hr=> ?_⟩,fun m a b c _ _=> ?_,fun m a b=> ?_,fun m a b c=> ?_,fun m a b c _=> ?_,fun m a b c _=> ?_⟩
 ·grind [dR.kinds]
 ·rw[hnm,hm,Ir];grind [dR.jd]
 ·grind [dR.Mj]
 ·rw[hm]at hj;obtain⟨n1,n2⟩:=nz m j a b hj;rw[Ir,htr,htr,FP,if_neg n2,if_neg n2,if_neg n1,if_neg n2];exact h.kids m a b j hj
 ·rw[hdt,Ir];split
  ·simp_all
  grind [dR.data]
 ·grind [J4,dR.roots]
 ·have gK:m≠q:=fun e=>by subst e;rw[Ir,if_pos rfl]at c;omega
  rw[Ir,if_neg gK]at c;rw[FP,Ir,hm,if_neg gK,Pb];rcases h.up m a b c og gK with g | ⟨g1,g2,g3,g4,g5⟩;all_goals grind
 ·obtain⟨a1,a2⟩:=h.num m a b;grind [J3]
 ·grind [dR.zero]
 ·rw[Ir]at c;rw[hli,Qx];split at c
  ·omega
  ·rename_i c2;rw[if_neg c2,if_neg c2];exact h.pos m a b c c2
 grind [dR.Iq]
end
end FF
end Go.X.Tr
