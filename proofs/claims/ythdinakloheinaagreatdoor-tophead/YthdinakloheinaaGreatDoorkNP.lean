import Derived.Test.YthdinakloheinaaGreatDoorkVA
import Derived.Test.YthdinakloheinaaGreatDoorXBytes
set_option linter.all false
namespace Go.X.Vm
open Go Go.X
variable{k z:Nat}{v:VB}
def cM(fr:Int->Int)(g:Int):Nat->Int
 | 0=>0
 | k+1=>cM fr g k+(if fr k=g+1 then 1 else 0)
def CL(fr:Int->Int)(g:Int):∀ k,0<=cM fr g k/\cM fr g k<=k
 | 0=>by simp[cM]
 | k+1=>by have:=CL fr g k;rw[cM];split<;>omega
theorem NF(fr:Int->Int){g n z:Int} :∀ {k:Nat},(k:Int)<=n->cM (ad fr n z) g k=cM fr g k
 | 0,_=>rfl
 | k+1,h=>by rw[cM,cM,NF fr (k:=k) og,ae _ _ og]
theorem Bq(fr:Int->Int){g n z:Int}(h0:0<=n):∀ {k:Nat},n<k->cM (ad fr n z) g k=cM fr g k-(if fr n=g+1 then 1 else 0)+(if z=g+1 then 1 else 0)
 | 0,h=>by simp at h;omega
 | k+1,h=>by
  rw[cM,cM];by_cases c:n=k
  ·subst c;rw[NF fr og,aj];omega
  ·rw[Bq fr h0 (k:=k) og,ae _ _ og];omega
def GQ{fr:Int->Int}{g i:Int}(h0:0<=i)(e:fr i=g+1):∀ {k:Nat},i<k->1<=cM fr g k
 | 0,h=>by simp at h;omega
 | k+1,h=>by
  rw[cM];by_cases c:i=k
  ·rw[<-c,if_pos e];have:=CL fr g k;omega
  ·have:=GQ h0 e (k:=k) og;split<;>omega
def cA(fr:Int->Int)(a g:Int):Nat->Int
 | 0=>0
 | k+1=>cA fr a g k+(if fr (a+k)=g+1 then 1 else 0)
theorem LO(fr:Int->Int){a g:Int}(h0:0<=a)(hg:0<=g):∀ {k:Nat},a+k<=16->cM (gH fr a k 0) g 16=cM fr g 16-cA fr a g k
 | 0,_=>by
  have e:=PZ fr a 0;rw[show a-a=((0:Nat):Int)from og]at e;rw[cA,e];omega
 | k+1,h=>by
  have e:gH fr a ((k+1:Nat):Int) 0=ad (gH fr a k 0) (a+k) 0:=by
   have:=P0 (f:=fr) (a:=a) (i:=a+k) (v:=0) (u:=0) og rfl;rw[show a+(k:Int)-a=k from og,show a+(k:Int)+1-a=((k+1:Nat):Int)from og]at this;exact this.symm
  have e2:gH fr a k 0 (a+k)=fr (a+k):=by unfold gH;rw[if_neg og]
  rw[e,Bq _ og og,LO fr h0 hg (k:=k) og,e2,cA,if_neg (c:=(0:Int)=g+1) og];omega
structure Acc (v:VB) (F:Int->Int):Prop where
 ok:v.Ok
 rf:∀ g,0<=g->g<64->v.rf g=F g
 us:∀ g,0<=g->g<64->v.bb.ed g=if F g=0 then 0 else 1
theorem Acc.congr{F G:Int->Int}(h:Acc v F)(e:∀ g,0<=g->g<64->F g=G g):Acc v G:=
 ⟨h.ok,fun g a b=>(h.rf g a b).trans (e g a b),fun g a b=>by rw[h.us g a b,e g a b]⟩
def Acc.copy{v:VB}{F:Int->Int}(h:Acc v F)(f g:Int):Acc (v.copy f g) F:=⟨h.ok.copy f g,h.rf,h.us⟩
theorem Acc.take{v:VB}{F:Int->Int}(h:Acc v F)(e:v.take.2.1=0):(0<=v.take.1/\v.take.1<64)/\F v.take.1=0/\Acc v.take.2.2 (ad F v.take.1 1):=by
 have c:(v.bb.take 0).2.1=0:=by
  grind [mH]
 obtain⟨_,hr,hu,_,hn⟩:=h.ok.bb.Cx c;have hF:F (v.bb.take 0).1=0:=by
  grind [Acc.us]
 have ho:=h.ok.take;rw[VB.lR c]at ho ⊢;refine⟨hr,hF,ho,fun g a b=> ?_,fun g a b=> ?_⟩
 ·grind [ad,Acc.rf]
 ·show(v.bb.take 0).2.2.ed g=_;rw[hn];grind [ad,Acc.us]
theorem Acc.drop{v:VB}{F:Int->Int}(h:Acc v F){g:Int}(hg:0<=g/\g<64)(h1:1<=F g):Acc (v.drop g) (ad F g (F g-1)):=by
 have hr:=h.rf g hg.1 hg.2;refine⟨h.ok.drop og,fun x a b=> ?_,fun x a b=> ?_⟩
 ·rw[(Cz v g).1];unfold ad;split
  ·omega
  ·exact h.rf x a b
 ·have hu:=h.us g hg.1 hg.2;rw[if_neg og]at hu;by_cases c:v.rf g-1=0
  ·rw[zv c];have ht:v.bb.tk g=true:=by
    unfold BB.ed at hu;cases q:v.bb.tk g with
    | true=>rfl
    | false=>rw[q]at hu;simp at hu
   have hw:=(h.ok.bb.Tu (a:=g) (by rw[Cy,BB.Cb og ht])).2.2.1;show(v.bb.rI g).2.ed x=_;rw[hw];unfold ad;split
   ·rw[if_pos og]
   ·exact h.us x a b
  ·rw[zw c];show v.bb.ed x=_;unfold ad;split
   ·rename_i q;subst q;rw[if_neg og];exact hu
   ·exact h.us x a b
theorem Acc.V7{v:VB}{F:Int->Int}{fr:Int->Int}{a:Int}(hl:∀ i,0<=fr i/\fr i<=64):∀ (k:Nat),Acc v F->(∀ g,0<=g->g<64->cA fr a g k<=F g)->Acc (V7 v fr a k).2 (fun g=>F g-cA fr a g k)
 | 0,h,_=>h.congr fun g _ _=>by simp[cA]
 | k+1,h,hF=>by
  have ih:=Acc.V7 (a:=a) hl k h (fun g a1 b=>by have:=hF g a1 b;rw[cA]at this;split at this<;>omega);rw[Go.X.Vm.V7];unfold ZF;have hk:=hl (a+k);split
  ·rename_i c;have h1:=hF (fr (a+k)-1) og og;rw[cA,if_pos og]at h1;refine(ih.drop (g:=fr (a+k)-1) og (by show 1<=F _-cA _ _ _ _;omega)).congr fun g x y=> ?_;grind [ad,cA]
  grind [Acc.congr,cA]
theorem TO{rf fr:Int->Int}{g:Int}(hg:0<=g)(hl:∀ i,0<=fr i):∀ k,xz rf fr k g=rf g+cM fr g k
 | 0=>by simp[xz,cM]
 | k+1=>by
  have ih:=TO (rf:=rf) hg hl k;have:=hl k;rw[xz,cM];grind [ad]
theorem zA{rf fr:Int->Int}(hl:∀ i,0<=fr i/\fr i<=64){g:Int}(hg:g<0\/64<=g):∀ k,xz rf fr k g=rf g
 | 0=>rfl
 | k+1=>by
  have:=hl k;rw[xz];split
  ·rw[ae _ _ og];exact zA hl hg k
  simp_all[zA]
theorem Acc.iA{v:VB}{F:Int->Int}(h:Acc v F){m:MS}(hm:m.Ok)(hF:∀ g,0<=g->g<64->cM m.fr g 16<=F g/\F g<=1000):Acc (v.iA m) (fun g=>F g+cM m.fr g 16):=by
 have e:∀ g,0<=g->g<64->(v.iA m).rf g=F g+cM m.fr g 16:=fun g a b=>by
  show xz v.rf m.fr 16 g=_;rw[TO a fun i=>(hm.lo i).1,h.rf g a b]
 refine⟨⟨h.ok.bb,fun g=> ?_,h.ok.iD⟩,e,fun g a b=> ?_⟩
 ·by_cases q:0<=g/\g<64
  ·rw[e g q.1 q.2];have:=hF g q.1 q.2;have:=CL m.fr g 16;omega
  ·show 0<=xz v.rf m.fr 16 g/\_;rw[show(v.iA m).rf g=xz v.rf m.fr 16 g from rfl,zA hm.lo og];exact h.ok.rf g
 ·show v.bb.ed g=_;rw[h.us g a b];have:=hF g a b;have:=CL m.fr g 16;omega
def wi(f:Nat->MS)(g:Int):Nat->Int
 | 0=>0
 | k+1=>wi f g k+cM (f k).fr g 16
def bE{α:Type}(f:Nat->α)(z:Nat)(m:α):Nat->α:=fun j=>if j=z then m else f j
theorem rU{α:Type}(f:Nat->α)(z:Nat)(m:α):bE f z m z=m:=if_pos rfl
theorem lV{α:Type}(f:Nat->α){j:Nat}(m:α)(h:j≠z):bE f z m j=f j:=if_neg h
theorem kt{α:Type}(f:Nat->α)(z:Nat):bE f z (f z)=f:=by
 grind [bE]
def LP(f:Nat->MS)(g:Int):∀ k,0<=wi f g k/\wi f g k<=16*k
 | 0=>by simp[wi]
 | k+1=>by have:=LP f g k;have:=CL (f k).fr g 16;rw[wi];omega
theorem Jw(f:Nat->MS)(g:Int){z:Nat}{m:MS} :∀ {k:Nat},k<=z->wi (bE f z m) g k=wi f g k
 | 0,_=>rfl
 | k+1,h=>by rw[wi,wi,Jw f g (k:=k) og,lV _ _ og]
theorem rW(f:Nat->MS)(g:Int){z:Nat}{m:MS} :∀ {k:Nat},z<k->wi (bE f z m) g k=wi f g k-cM (f z).fr g 16+cM m.fr g 16
 | 0,h=>og
 | k+1,h=>by
  rw[wi,wi];by_cases c:z=k
  ·subst c;rw[Jw f g (Nat.le_refl _),rU];omega
  ·rw[rW f g (k:=k) og,lV _ _ og];omega
def zB(f:Nat->MS)(g:Int){z:Nat} :∀ {k:Nat},z<k->cM (f z).fr g 16<=wi f g k
 | 0,h=>og
 | k+1,h=>by
  rw[wi];have:=LP f g k;have:=CL (f k).fr g 16;by_cases c:z=k
  ·grind
  ·have:=zB f g (z:=z) (k:=k) og;omega
structure Sys (v:VB) (f:Nat->MS) (k:Nat):Prop where
 jL:Acc v fun g=>wi f g k
 mo:∀ j,j<k->(f j).Ok
theorem MS.Ok.jA{m:MS}(h:m.Ok){i:Int}(hi:0<m.fr i):0<=i/\i<16:=by
 by_cases c:0<=i/\i<16
 ·exact c
 ·have:=h.un i (h.f.out i og);omega
theorem Sys.In{v:VB}{f:Nat->MS}{k z:Nat}(h:Sys v f k)(hz:z<k):(f z).In v:=fun i hi=>by
 have hm:=h.mo z hz;have hr:=hm.jA hi;have hl:=hm.lo i;rw[h.jL.rf _ og og];have h1:=GQ (fr:=(f z).fr) (g:=(f z).fr i-1) hr.1 og (k:=16) og;have h2:=zB f ((f z).fr i-1) hz;omega
theorem Sys.free{f:Nat->MS}(h:Sys v f k)(hz:z<k){x:Int}(h0:wi f x k=0)(i:Int):(f z).fr i≠x+1\/x+1<=0:=by
 by_cases c:(f z).fr i=x+1/\0<x+1
 ·have hr:=(h.mo z hz).jA (i:=i) og;have h1:=GQ (fr:=(f z).fr) (g:=x) hr.1 c.1 (k:=16) og;have h2:=zB f x hz;omega
 omega
theorem Sys.same{f:Nat->MS}(h:Sys v f k)(hz:z<k){m:MS}(hm:m.Ok)(e:m.fr=(f z).fr):Sys v (bE f z m) k:=
 ⟨h.jL.congr fun g _ _=>by rw[rW f g hz,e];omega,fun j hj=>by
  unfold bE;split
  ·exact hm
  ·exact h.mo j hj⟩
theorem MS.Ok.Ct{m:MS}(h:m.Ok){n x:Int}(hn:m.ay n≠0)(hx:0<=x/\x<64)(hf:∀ i,i≠n->m.fr i≠x+1):(m.Ct n x).Ok:=by
 refine⟨h.f,fun i=> ?_,fun i hi=> ?_,fun i hi=> ?_,fun i j hi HW=> ?_⟩
 ·show 0<=ad m.fr n (x+1) i/\ad m.fr n (x+1) i<=64;unfold ad;split
  ·omega
  ·exact h.lo i
 ·show ad m.fr n (x+1) i=0;grind [ae,MS.Ok.un,MS.Ct]
 ·show ad m.aS n true i=false;have hi:ad m.fr n (x+1) i=0:=hi;grind [aj,ae,MS.Ok.ow]
 ·have hi:0<ad m.fr n (x+1) i:=hi;have HW:ad m.fr n (x+1) i=ad m.fr n (x+1) j:=HW;grind [aj,ae,MS.Ok.inj]
def FD{m:MS}{a:Int}{w:Bool}(h:m.xy a w=true):m.ay (a/8)≠0:=by
 grind [MS.xy]
def MS.abr{m:MS}(h:m.Ok){n:Int}(hn:m.fr n≠0):({m with aS:=ad m.aS n true} :MS).Ok:=
 ⟨h.f,h.lo,h.un,fun i hi=>by
  show ad m.aS n true i=false
  have hi:m.fr i=0:=hi
  rw[ae _ _ fun (e:i=n)=>hn (by rw[<-e];exact hi)];exact h.ow i hi,h.inj⟩
theorem Sys.cx{v:VB}{f:Nat->MS}{k z:Nat}(h:Sys v f k)(hz:z<k)(a:Int)(w:Bool):Sys ((f z).cx v a w).2.2.1 (bE f z ((f z).cx v a w).2.2.2) k:=by
 have hm:=h.mo z hz;have hl:=hm.lo (a/8);rcases MS.pK v (f z) a w with⟨_,e⟩ | ⟨hr,⟨_,e⟩ | ⟨h0,q,e⟩ | ⟨_,_,e⟩ | ⟨h0,_,_,e⟩ | ⟨h0,q,r,_,e⟩⟩<;>rw[e]
 ·grind [kt]
 ·grind [kt]
 ·obtain⟨hx,hF,ha⟩:=h.jL.take q;have hF:wi f v.take.1 k=0:=hF;have KN:=lh hr;refine⟨ha.congr fun g a1 b=> ?_,fun j hj=> ?_⟩
  ·rw[rW f g hz];show ad (fun g=>wi f g k) v.take.1 1 g=_-_+cM (ad (f z).fr (a/8) (v.take.1+1)) g 16;rw[Bq _ og og,h0,if_neg (c:=(0:Int)=g+1) og];grind [ad]
  ·unfold bE;split
   ·exact hm.Ct (FD hr) hx (fun i _=>by rcases h.free hz hF i with q | q<;>omega)
   grind [Sys.mo]
 ·grind [kt]
 ·exact h.same hz (MS.abr hm h0) rfl
 ·obtain⟨hx,hF,ha⟩:=h.jL.take q;have hF:wi f v.take.1 k=0:=hF;have KN:=lh hr;have hy:1<=wi f ((f z).fr (a/8)-1) k:=by
   have h1:=GQ (fr:=(f z).fr) (g:=(f z).fr (a/8)-1) (i:=a/8) og og (k:=16) og;have h2:=zB f ((f z).fr (a/8)-1) hz;omega
  have fM:(f z).fr (a/8)-1≠v.take.1:=fun e=>by rw[e]at hy;omega
  refine⟨((ha.copy _ _).drop (g:=(f z).fr (a/8)-1) og (by rw[ae _ _ fM];exact hy)).congr fun g a1 b=> ?_,fun j hj=> ?_⟩
  ·rw[rW f g hz];show ad (ad (fun g=>wi f g k) v.take.1 1) ((f z).fr (a/8)-1) _ g=_-_+cM (ad (f z).fr (a/8) (v.take.1+1)) g 16;rw[Bq _ og og,ae _ _ fM];grind [ad]
  ·unfold bE;split
   ·exact hm.Ct (FD hr) hx (fun i _=>by rcases h.free hz hF i with q | q<;>omega)
   grind [Sys.mo]
def aeG{fr:Int->Int}{a g:Int}(h0:0<=a)(hg:0<=g)(hk:a+k<=16):cA fr a g k<=cM fr g 16:=by
 have:=LO fr h0 hg hk;have:=CL (gH fr a k 0) g 16;omega
theorem Sys.fE{v:VB}{f:Nat->MS}{k z:Nat}(h:Sys v f k)(hz:z<k)(a n:Int):Sys ((f z).fE v a n).2.2.1 (bE f z ((f z).fE v a n).2.2.2) k:=by
 have hm:=h.mo z hz;by_cases hb:gn a n
 ·rw[rV hb];rw[kt];exact h
 ·have ho:=hm.fE (v:=v) a n;unfold MS.fE at ho ⊢;rw[if_neg hb]at ho ⊢;unfold gn at hb;have hn:((n.toNat:Nat):Int)=n:=og;refine⟨(h.jL.V7 hm.lo n.toNat (fun g a1 b=>by
   have:=aeG (fr:=(f z).fr) (a:=a) (g:=g) og a1 (k:=n.toNat) og
   have:=zB f g hz
   show _<=wi f g k
   omega)).congr fun g a1 b=> ?_,fun j hj=> ?_⟩
  ·rw[rW f g hz];show wi f g k-_=_-_+cM (gH (f z).fr a n 0) g 16;have:=LO (f z).fr (a:=a) (g:=g) og a1 (k:=n.toNat) og;rw[hn]at this;rw[this];omega
  ·unfold bE;split
   ·exact ho
   ·exact h.mo j hj
theorem Sys.load{v:VB}{f:Nat->MS}{k z:Nat}(h:Sys v f k)(hz:z<k)(a:Int):Sys ((f z).load v a).2.2.1 (bE f z ((f z).load v a).2.2.2) k:=by
 grind [Sys.cx,MS.load]
theorem Sys.store{v:VB}{f:Nat->MS}{k z:Nat}(h:Sys v f k)(hz:z<k)(a b:Int)(hb:0<=b/\b<256):Sys ((f z).store v a b).2.1 (bE f z ((f z).store v a b).2.2) k:=by
 have ht:=h.cx hz a true;by_cases e:((f z).cx v a true).2.1=0
 ·rw[MS.CK e];refine⟨⟨⟨ht.jL.ok.bb,ht.jL.ok.rf,fun x j=> ?_⟩,ht.jL.rf,ht.jL.us⟩,ht.mo⟩;show 0<=cv ((f z).cx v a true).2.2.1.iD ((f z).cx v a true).1 (a%8) b x j/\cv ((f z).cx v a true).2.2.1.iD ((f z).cx v a true).1 (a%8) b x j<256;unfold cv;split
  ·omega
  ·exact ht.jL.ok.iD x j
 grind [MS.store]
def NG(z:Int):0<=IntKind.u8.wrap z/\IntKind.u8.wrap z<256:=by
 have e:IntKind.u8.wrap z=z%256:=rfl;omega
theorem Sys.cK:Sys VB.cK (fun _=>MS.nil) 1:=by
 have h0:∀ g:Int,0<=g->wi (fun _=>MS.nil) g 1=0:=fun g hg=>by
  rw[wi,wi];have e:∀ k,cM MS.nil.fr g k=0:=fun k=>by
   induction k with
   | zero=>rfl
   | succ k ih=>rw[cM,ih,show MS.nil.fr k=0 from rfl,if_neg og];rfl
  simp_all
 refine⟨⟨VB.Ok.cK,fun g a b=>(h0 g a).symm,fun g a b=> ?_⟩,fun _ _=>MS.Ok.nil⟩;grind [BB.cK,BB.ed,VB.cK]
end Go.X.Vm

namespace Go.X.Tr
open Go Go.X
variable{w:Bool}{t x:ByteArray}{l:List ByteArray}
structure PS where
 b:Int->ByteArray
 e:Int->Int->Int
structure PS.Inv (K:Int) (s:PS):Prop where
 e0:∀ n,0<=s.e n 0/\s.e n 0<=K
 e1:∀ n,0<=s.e n 1/\s.e n 1<=K
 cl:∀ n,s.e n 0+s.e n 1=0->s.b n=⟨#[]⟩
 len:∀ n,(s.b n).size<=12
theorem PS.Inv.mono{K K':Int}{s:PS}(h:s.Inv K)(hk:K<=K'):s.Inv K':=
 ⟨fun n=>⟨(h.e0 n).1,by have:=(h.e0 n).2;omega⟩,fun n=>⟨(h.e1 n).1,by have:=(h.e1 n).2;omega⟩,h.cl,h.len⟩
def PS.cK:PS:=⟨fun _=>⟨#[]⟩,fun _ _=>0⟩
theorem PS.Inv.cK:PS.cK.Inv 0:=⟨fun _=>by simp[PS.cK],fun _=>by simp[PS.cK],fun _ _=>rfl,fun _=>by simp[PS.cK,ByteArray.size]⟩
def PS.is(s:PS)(n:Int):Int:=if n<0\/8<=n then 1 else if s.e n 0+s.e n 1=0 then 2 else 0
def PS.make(s:PS):Int×Int×PS:=match dv (fun k=>s.e k 0+s.e k 1==0) 8 with
 | some k=>(k,0,{s with e:=cv (cv s.e k 0 1) k 1 1})
 | none=>(0,4,s)
def HS(w:Bool):Int:=if w then 1 else 0
def PS.mA(s:PS)(n:Int)(w:Bool)(d:Int):Int×PS:=
 if s.is n≠0 then(s.is n,s)else if s.e n (HS w)=0 then(8,s)else
  (0,{b:=if s.e n 0+s.e n 1+d=0 then ad s.b n ⟨#[]⟩else s.b,e:=cv s.e n (HS w) (s.e n (HS w)+d)})
def PS.mJ(s:PS)(n m:Int):ByteArray×Int×PS:=
 if s.is n≠0 then(⟨#[]⟩,s.is n,s)else if s.e n 0=0 then(⟨#[]⟩,8,s)else if m<0 then(⟨#[]⟩,1,s)else
 if s.b n=⟨#[]⟩/\s.e n 1>0/\m>0 then(⟨#[]⟩,13,s)else
  ((s.b n).extract 0 (min m (s.b n).size).toNat,0,{s with b:=ad s.b n ((s.b n).extract (min m (s.b n).size).toNat (s.b n).size)})
def PS.b7(s:PS)(n:Int)(t:ByteArray):Int×Int×PS:=
 if s.is n≠0 then(0,s.is n,s)else if s.e n 1=0 then(0,8,s)else if s.e n 0=0 then(0,12,s)else
 if min (t.size:Int) (12-(s.b n).size)=0/\t.size>0 then(0,13,s)else
  (min (t.size:Int) (12-(s.b n).size),0,{s with b:=ad s.b n (s.b n++t.extract 0 (min (t.size:Int) (12-(s.b n).size)).toNat)})
def qJ(f:Int->Bool):Nat->Int
 | 0=>0
 | n+1=>qJ f n+if f n then 1 else 0
def Nu(f:Int->Bool)(n:Nat):0<=qJ f n/\qJ f n<=n:=by
 induction n with
 | zero=>simp[qJ]
 | succ n ih=>simp only[qJ];split<;>omega
def bO(s:PS)(i:Nat):Value:=
 if i%3=0/\i/3<8 then .string (s.b ((i/3:Nat):Int))else
 if 1<=i/\(i-1)%3=0/\(i-1)/3<8 then iI (s.e (((i-1)/3:Nat):Int) 0)else
 if 2<=i/\(i-2)%3=0/\(i-2)/3<8 then iI (s.e (((i-2)/3:Nat):Int) 1)else
 undef
def dB(s:PS)(z0:Int)(q0:0<=z0/\z0<8:=by omega):(((0+0)+z0.toNat*3)+0)<24/\bO s (((0+0)+z0.toNat*3)+0)= .string (s.b z0):=by
 grind [bO]
def iw(s:PS)(z0:Int)(q0:0<=z0/\z0<8)(v:ByteArray):(((0+0)+z0.toNat*3)+0)<24/\dL (bO s) (((0+0)+z0.toNat*3)+0) (.string (v))=bO ({s with b:=ad s.b z0 v}):=by
 grind [dL,ad,bO]
def ey(s:PS)(z0:Int)(q0:0<=z0/\z0<8:=by omega):(((0+0)+z0.toNat*3)+1)<24/\bO s (((0+0)+z0.toNat*3)+1)=iI (s.e z0 0):=by
 grind [bO]
def lX(s:PS)(z0:Int)(q0:0<=z0/\z0<8)(v:Int):(((0+0)+z0.toNat*3)+1)<24/\dL (bO s) (((0+0)+z0.toNat*3)+1) (iI (v))=bO ({s with e:=cv s.e z0 0 v}):=by
 grind [dL,cv,bO]
def dU(s:PS)(z0:Int)(q0:0<=z0/\z0<8:=by omega):(((0+0)+z0.toNat*3)+2)<24/\bO s (((0+0)+z0.toNat*3)+2)=iI (s.e z0 1):=by
 grind [bO]
def lj(s:PS)(z0:Int)(q0:0<=z0/\z0<8)(v:Int):(((0+0)+z0.toNat*3)+2)<24/\dL (bO s) (((0+0)+z0.toNat*3)+2) (iI (v))=bO ({s with e:=cv s.e z0 1 v}):=by
 grind [dL,cv,bO]
theorem lz{s:PS}{n d:Int}(h:s.is n≠0):s.mA n w d=(s.is n,s):=by simp[PS.mA,h]
theorem jC{s:PS}{n d:Int}(h:s.is n=0)(he:s.e n (HS w)=0):s.mA n w d=(8,s):=by grind [PS.mA]
theorem PS.Br{s:PS}{n d:Int}(h:s.is n=0)(he:¬s.e n (HS w)=0)(hz:¬s.e n 0+s.e n 1+d=0:=by omega):s.mA n w d=(0,{s with e:=cv s.e n (HS w) (s.e n (HS w)+d)}):=by
 grind [PS.mA]
theorem PS.uO{s:PS}{n d:Int}(h:s.is n=0)(he:¬s.e n (HS w)=0)(hz:s.e n 0+s.e n 1+d=0:=by omega):s.mA n w d=(0,{b:=ad s.b n ⟨#[]⟩,e:=cv s.e n (HS w) (s.e n (HS w)+d)}):=by
 grind [PS.mA]
theorem PS.jx(s:PS)(n:Int):(s.is n=0/\0<=n/\n<8/\¬s.e n 0+s.e n 1=0)\/(s.is n=1/\(n<0\/8<=n))\/(s.is n=2/\0<=n/\n<8/\s.e n 0+s.e n 1=0):=by
 grind [PS.is]
def Bs{g:Int->Int->Int}{n:Int}(h0:g n 0=0:=by omega)(h1:g n 1=0:=by omega):cv (cv g n 0 0) n 1 0=g:=by
 grind [cv]
theorem Jy{s:PS}{n m:Int}(h:s.is n≠0):s.mJ n m=(⟨#[]⟩,s.is n,s):=by simp[PS.mJ,h]
theorem Ez{s:PS}{n m:Int}(h:s.is n=0)(h0:s.e n 0=0):s.mJ n m=(⟨#[]⟩,8,s):=by grind [PS.mJ]
theorem EA{s:PS}{n m:Int}(h:s.is n=0)(h0:¬s.e n 0=0)(hm:m<0):s.mJ n m=(⟨#[]⟩,1,s):=by grind [PS.mJ]
theorem EB{s:PS}{n m:Int}(h:s.is n=0)(h0:¬s.e n 0=0)(hm:¬m<0)(ha:s.b n=⟨#[]⟩/\s.e n 1>0/\m>0):s.mJ n m=(⟨#[]⟩,13,s):=by
 grind [PS.mJ]
theorem PS.GR{s:PS}{n m:Int}(h:s.is n=0)(h0:¬s.e n 0=0)(hm:¬m<0)(ha:¬(s.b n=⟨#[]⟩/\s.e n 1>0/\m>0)):s.mJ n m=((s.b n).extract 0 (min m (s.b n).size).toNat,0,{s with b:=ad s.b n ((s.b n).extract (min m (s.b n).size).toNat (s.b n).size)}):=by
 grind [PS.mJ]
theorem GS{s:PS}{n:Int}(h:s.is n≠0):s.b7 n t=(0,s.is n,s):=by simp[PS.b7,h]
theorem CM{s:PS}{n:Int}(h:s.is n=0)(h0:s.e n 1=0):s.b7 n t=(0,8,s):=by grind [PS.b7]
theorem A8{s:PS}{n:Int}(h:s.is n=0)(h0:¬s.e n 1=0)(h1:s.e n 0=0):s.b7 n t=(0,12,s):=by grind [PS.b7]
theorem CN{s:PS}{n:Int}(h:s.is n=0)(h0:¬s.e n 1=0)(h1:¬s.e n 0=0)(ha:min (t.size:Int) (12-(s.b n).size)=0/\t.size>0):s.b7 n t=(0,13,s):=by
 grind [PS.b7]
theorem PS.Jz{s:PS}{n:Int}(h:s.is n=0)(h0:¬s.e n 1=0)(h1:¬s.e n 0=0)(ha:¬(min (t.size:Int) (12-(s.b n).size)=0/\t.size>0)):s.b7 n t=(min (t.size:Int) (12-(s.b n).size),0,{s with b:=ad s.b n (s.b n++t.extract 0 (min (t.size:Int) (12-(s.b n).size)).toNat)}):=by
 grind [PS.b7]
theorem PS.P1{s:PS}{k:Int}(h0:0<=k/\k<8)(hp:s.e k 0+s.e k 1=0)(hn:∀ j:Int,0<=j->j<k->s.e j 0+s.e j 1≠0):s.make=(k,0,{s with e:=cv (cv s.e k 0 1) k 1 1}):=by
 unfold PS.make;rw[eo h0.1 h0.2 (by simpa using hp) fun j h1 h2=>by simpa using hn j h1 h2];grind
theorem GU{s:PS}(hn:∀ j:Int,0<=j->j<8->s.e j 0+s.e j 1≠0):s.make=(0,4,s):=by
 grind [PS.make,dC]
def P2{s:PS}{K:Int}(hI:s.Inv K){k:Int}(h0:0<=k/\k<8)(hp:s.e k 0+s.e k 1=0):0+0+k.toNat*3+3<=24/\cC (bO s) (0+0+k.toNat*3) [.string ⟨#[]⟩,iI 1,iI 1]=bO {s with e:=cv (cv s.e k 0 1) k 1 1} :=by
 refine⟨og,?_⟩;have e1:=(iw s k h0 ⟨#[]⟩).2;have hb:ad s.b k ⟨#[]⟩=s.b:=by
  grind [ad,PS.Inv.cl]
 rw[hb]at e1;have e2:=(lX s k h0 1).2;have e3:=(lj {s with e:=cv s.e k 0 1} k h0 1).2;simp_all[cC]
def FE(s:PS){k:Int}(h0:0<=k/\k<8:=by omega):0+0+k.toNat*3+3<=24/\cC (bO s) (0+0+k.toNat*3) [.string ⟨#[]⟩,iI 0,iI 0]=bO {b:=ad s.b k ⟨#[]⟩,e:=cv (cv s.e k 0 0) k 1 0} :=by
 refine⟨og,?_⟩;have e1:=(iw s k h0 ⟨#[]⟩).2;have e2:=(lX {s with b:=ad s.b k ⟨#[]⟩} k h0 0).2;have e3:=(lj {b:=ad s.b k ⟨#[]⟩,e:=cv s.e k 0 0} k h0 0).2;grind [cC]
abbrev blt(a b:ByteArray):Bool:=Op.bytesLess a.toList b.toList
theorem GW(a b:ByteArray):blt a b=true↔a.toList<b.toList:=by unfold blt;rw[Go.Proofs.bytesLess_eq,decide_eq_true_eq]
theorem toList_inj{a b:ByteArray}(h:a.toList=b.toList):a=b:=by
 grind [toList_beq]
theorem LQ(a:ByteArray):blt a a=false:=by
 grind [GW]
theorem P3{a b c:ByteArray}(h1:blt a b=true)(h2:blt b c=true):blt a c=true:=by grind [GW]
theorem P4(a b:ByteArray):blt a b=true\/a=b\/blt b a=true:=by
 grind [GW,toList_inj]
abbrev oc(l:List ByteArray)(i:Nat):ByteArray:=l.getD i ByteArray.empty
def fg(l:List ByteArray):Prop:=∀ i j,i<j->j<l.length->blt (oc l i) (oc l j)=true
def eh:List ByteArray->ByteArray->Nat
 | [],_=>0
 | y::r,x=>if blt y x=true then eh r x+1 else 0
theorem nX:∀ (l:List ByteArray) (x:ByteArray),eh l x<=l.length
 | [],_=>Nat.le_refl _
 | y::r,x=>by
  unfold eh;split
  ·simp;exact nX r x
  ·omega
theorem xG:∀ (l:List ByteArray) (x:ByteArray) (i:Nat),i<eh l x->blt (oc l i) x=true
 | [],_,i,h=>by simp[eh]at h
 | y::r,x,i,h=>by
  unfold eh at h;split at h
  ·cases i with
   | zero=>simpa [oc]using (by assumption:blt y x=true)
   | succ i=>simpa [oc]using xG r x i og
  ·omega
theorem Bt:∀ (l:List ByteArray) (x:ByteArray),eh l x<l.length->blt (oc l (eh l x)) x=false
 | [],_,h=>by simp at h
 | y::r,x,h=>by
  unfold eh at h ⊢;split
  ·rename_i c;rw[if_pos c]at h;simpa [oc]using Bt r x (by simpa using h)
  ·rename_i c;simpa [oc]using c
theorem GX(hl:fg l)(x:ByteArray){i:Nat}(h:eh l x<=i)(hi:i<l.length):blt (oc l i) x=false:=by
 grind [Bt,P3,fg]
def oT(l:List ByteArray)(x:ByteArray):Bool:=decide (eh l x<l.length/\oc l (eh l x)=x)
def GY(HY:Nat->Bool)(k N:Nat)(h1:∀ t,t<k->HY t=true)(h2:∀ t,k<=t->t<N->HY t=false):∀ (f lo hi:Nat),hi-lo<=f->lo<=k->k<=hi->hi<=N->Go.Lib.bsGo HY f lo hi=k
 | 0,lo,hi,hf,a,b,_=>by unfold Go.Lib.bsGo;omega
 | f+1,lo,hi,hf,a,b,c=>by
  unfold Go.Lib.bsGo;by_cases h:lo<hi
  ·rw[if_pos h];by_cases q:(lo+hi)/2<k
   ·rw[h1 _ q,if_pos rfl];exact GY HY k N h1 h2 f _ _ og og b c
   ·rw[h2 _ og og,if_neg sq];exact GY HY k N h1 h2 f _ _ og a og og
  ·rw[if_neg h];omega
theorem CO(hl:fg l)(x:ByteArray):bsS l x=eh l x:=
 GY _ (eh l x) l.length (fun t ht=>xG l x t ht) (fun t ht hn=>GX hl x ht hn) _ _ _ og og (nX l x) (Nat.le_refl _)
def xH(hl:fg l)(x:ByteArray):It l x=oT l x:=by
 grind [It,oT,CO]
theorem lY :oT l x=true↔eh l x<l.length/\oc l (eh l x)=x:=by grind [oT]
theorem XJ(hl:fg l){i:Nat}(hi:i<l.length)(h:oc l i=x):i=eh l x:=by
 rcases Nat.lt_trichotomy i (eh l x)with c | c | c
 ·have:=xG l x i c;grind [LQ]
 ·omega
 grind [Bt,fg]
theorem XK(hl:fg l)(h:oT l x=false){i:Nat}(hi:i<l.length):oc l i≠x:=fun e=>by
 grind [XJ,lY]
theorem XL(hl:fg l)(h:oT l x=false){i:Nat}(h1:eh l x<=i)(hi:i<l.length):blt x (oc l i)=true:=by
 grind [P4,GX,XK]
theorem CP(l:List ByteArray)(p:Nat)(x:ByteArray)(j:Nat)(hp:p<=l.length):oc (l.insertIdx p x) j=if j<p then oc l j else if j=p then x else oc l (j-1):=by
 grind
theorem FG(l:List ByteArray)(p j:Nat):oc (l.eraseIdx p) j=if j<p then oc l j else oc l (j+1):=by
 grind
theorem fg.insert(hl:fg l)(h:oT l x=false):fg (l.insertIdx (eh l x) x):=fun i j HW hj=>by
 have hp:=nX l x;rw[List.length_insertIdx,if_pos hp]at hj;rw[CP _ _ _ _ hp,CP _ _ _ _ hp];by_cases c1:j<eh l x
 ·grind [fg]
 ·rw[if_neg c1];by_cases c2:j=eh l x
  ·rw[if_pos c2,if_pos og];exact xG l x i og
  grind [XL,fg]
theorem fg.NH(hl:fg l)(p:Nat)(hp:p<l.length):fg (l.eraseIdx p):=fun i j HW hj=>by
 grind [FG,fg]
theorem fg.nil:fg []:=fun i j _ h=>by simp at h
def XN(c:UInt8):Bool:=(decide (97<=c.toNat)&&decide (c.toNat<=122))||(decide (48<=c.toNat)&&decide (c.toNat<=57))||decide (c.toNat=46)
def jY(s:ByteArray):Bool:=(List.range s.size).all (fun i=>XN (s.get! i))&&(decide (1<=s.size/\s.size<=8)&&(decide (s≠⟨#[46]⟩)&&decide (s≠⟨#[46,46]⟩)))
def TP{s:ByteArray}{j:Nat}{u:UInt8}(h:s[j]? =some u):s.get! j=u:=by
 have hj:j<s.size:=by
  grind
 rw[getElem?_pos s j hj]at h;have h2:=Option.some.inj h;rw[<-h2];show s.data[j]! =s.data[j];simp_all
def JA{s:ByteArray}{j:Nat}(h:j<s.size):∃ u,s[j]? =some u:=⟨s[j],getElem?_pos s j h⟩
theorem xJ{s:ByteArray} :s=⟨#[]⟩↔s.size=0:=by
 constructor
 ·rintro rfl;rfl
 ·intro h;cases s with
  | mk d=>congr 1;exact Array.eq_empty_of_size_eq_zero h
structure FF where
 aN:Int->Int
 du:Int->Int
 bF:Int->Int
 aX:Int->Int
 up:Int->Int
 data:Int->ByteArray
 aI:Int->List ByteArray
 kids:Int->List Int
 roots:List Int
structure FC extends FF where
 nP:Int->Option Addr
 nC:Int->Nat
 kP:Int->Option Addr
 kC:Int->Nat
 rP:Option Addr
 rC:Nat
def V8(d:ByteArray)(at_:Nat)(x:ByteArray):ByteArray:=⟨((List.range (max d.size (at_+x.size))).map fun i=>if at_<=i/\i<at_+x.size then x.get! (i-at_)else if i<d.size then d.get! i else 0).toArray⟩
namespace FF
def cI(s:FF)(n k:Int):Int:=if n<0\/40<=n then 1 else if s.aN n=0 then 2 else if 0<k/\s.aN n≠k then 11 else 0
def vB(s:FF):Nat->Int
 | 0=> -1
 | k+1=>if s.aN (39-(k:Int))=0 then 39-(k:Int)else vB s k
def free(s:FF):Int:=vB s 40
def jz(s:FF)(z k t l u:Int):FF:=⟨ad s.aN z k,ad s.du z t,ad s.bF z l,ad s.aX z 0,ad s.up z u,ad s.data z ByteArray.empty,ad s.aI z [],ad s.kids z [],s.roots⟩
def qP(s:FF)(z:Int):FF:=if s.bF z=0/\s.aX z=0 then s.jz z 0 0 0 0 else s
def p6(s:FF):Int:=if s.roots.length=4 then 4 else if s.free<0 then 4 else 0
def AK(s:FF):FF:=if s.p6=0 then {s.jz s.free 2 (s.roots.length:Int) 1 s.free with roots:=s.roots++[s.free]} else s
def wj(s:FF):Int:=if s.p6=0 then(s.roots.length:Int)else 0
def oU(s:FF)(t:Int):Int:=if t<0\/4<=t then 1 else if(s.roots.length:Int)<=t then 2 else 0
def iQ(s:FF)(t:Int):Int:=if s.oU t=0 then il s.roots t else 0
def sN(s:FF)(n:Int)(x:ByteArray)(k:Int):FF:= {s with aI:=ad s.aI n ((s.aI n).insertIdx (eh (s.aI n) x) x),kids:=ad s.kids n ((s.kids n).insertIdx (eh (s.aI n) x) k)}
def ef(s:FF)(n:Int)(x:ByteArray):FF:= {s with aI:=ad s.aI n ((s.aI n).eraseIdx (eh (s.aI n) x)),kids:=ad s.kids n ((s.kids n).eraseIdx (eh (s.aI n) x))}
def fx(s:FF)(n:Int)(x:ByteArray):Int:=if s.cI n 2≠0 then s.cI n 2 else if oT (s.aI n) x=true then 0 else 2
def bH(s:FF)(n:Int)(x:ByteArray):Int:=if s.fx n x=0 then il (s.kids n) (eh (s.aI n) x)else 0
def eX(s:FF)(n:Int)(x:ByteArray):Int:=if s.cI n 2≠0 then s.cI n 2 else if jY x=false then 9 else if oT (s.aI n) x=true then 3 else if(s.aI n).length=8 then 4 else 0
def mw(s:FF)(n:Int)(x:ByteArray)(k:Int):Int:=if k≠1/\k≠2 then 1 else if s.eX n x≠0 then s.eX n x else if s.free<0 then 4 else 0
def oW(s:FF)(n:Int)(x:ByteArray)(k:Int):Int:=if s.mw n x k=0 then s.free else 0
def make(s:FF)(n:Int)(x:ByteArray)(k:Int):FF:=if s.mw n x k=0 then(s.jz s.free k (s.du n) 1 n).sN n x s.free else s
def tH(s:FF)(gx n:Int)(x:ByteArray):Int:=if s.cI gx 1≠0 then s.cI gx 1 else if s.eX n x≠0 then s.eX n x else if s.du gx≠s.du n then 11 else 0
def zC(s:FF)(gx n:Int)(x:ByteArray):FF:=if s.tH gx n x=0 then {s.sN n x gx with bF:=ad s.bF gx (s.bF gx+1)} else s
def LR(s:FF)(k:Int):Prop:=s.aN k=2/\(0<(s.kids k).length\/0<s.aX k)
instance (s:FF) (k:Int):Decidable (s.LR k):=by unfold LR;infer_instance
def fA(s:FF)(n:Int)(x:ByteArray):Int:=if s.fx n x≠0 then s.fx n x else if s.LR (s.bH n x)then 5 else 0
def eS(s:FF)(n:Int)(x:ByteArray):FF:=if s.fA n x=0 then qP {s.ef n x with bF:=ad s.bF (s.bH n x) (s.bF (s.bH n x)-1)} (s.bH n x)else s
def zD(s:FF):Nat->Int->Int->Bool
 | 0,n,k=>decide (n=k)
 | f+1,n,k=>if n=k then true else if s.up n=n then false else zD s f (s.up n) k
def JB(d:Int->Nat)(s:FF)(n k:Int):Bool:=zD s (d n) n k
def fK(d:Int->Nat)(s:FF)(n:Int)(x:ByteArray)(to:Int):Int:=if s.fx n x≠0 then s.fx n x else if s.cI to 2≠0 then s.cI to 2 else if s.du n≠s.du to then 11 else if s.aN (s.bH n x)=2/\JB d s to (s.bH n x)=true then 5 else 0
def iM(d:Int->Nat)(s:FF)(n:Int)(x:ByteArray)(to:Int)(y:ByteArray):Int:=if s.fK d n x to≠0 then s.fK d n x to else(s.ef n x).eX to y
def move(d:Int->Nat)(s:FF)(n:Int)(x:ByteArray)(to:Int)(y:ByteArray):FF:=
 if s.fK d n x to≠0 then s else if(s.ef n x).eX to y≠0 then(s.ef n x).sN n x (s.bH n x)else
  if s.aN (s.bH n x)=2 then {(s.ef n x).sN to y (s.bH n x)with up:=ad s.up (s.bH n x) to} else(s.ef n x).sN to y (s.bH n x)
def dy(s:FF)(n:Int):FF:=if s.cI n 0=0 then {s with aX:=ad s.aX n (s.aX n+1)} else s
def CQ(s:FF)(n:Int):Int:=if s.cI n 0≠0 then s.cI n 0 else if s.aX n=0 then 8 else 0
def kE(s:FF)(n:Int):FF:=if s.CQ n=0 then qP {s with aX:=ad s.aX n (s.aX n-1)} n else s
def lZ(s:FF)(n at_ m:Int):Int:=if s.cI n 1≠0 then s.cI n 1 else if at_<0\/m<0 then 1 else 0
def kA(s:FF)(n at_ m:Int):ByteArray:=if s.lZ n at_ m=0 then(s.data n).extract (min at_ (s.data n).size).toNat (min at_ (s.data n).size+min m ((s.data n).size-min at_ (s.data n).size)).toNat else ByteArray.empty
def eT(s:FF)(n at_:Int)(x:ByteArray):Int:=if s.cI n 1≠0 then s.cI n 1 else if at_<0 then 1 else if 40<at_\/40-at_<(x.size:Int)then 4 else 0
def b7(s:FF)(n at_:Int)(x:ByteArray):FF:=if s.eT n at_ x=0/\x≠ByteArray.empty then {s with data:=ad s.data n (V8 (s.data n) at_.toNat x)} else s
def qJ(s:FF):Nat->Int
 | 0=>0
 | k+1=>qJ s k+(if 0<s.aN (k:Int)then 1 else 0)
def dc:FF:=⟨fun _=>0,fun _=>0,fun _=>0,fun _=>0,fun _=>0,fun _=>ByteArray.empty,fun _=>[],fun _=>[],[]⟩
def GZ(f:Int->List Int)(k:Int):Nat->Nat
 | 0=>0
 | n+1=>GZ f k n+(f (n:Int)).count k
def FH(s:FF)(k:Int):Nat:=GZ s.kids k 40+s.roots.count k
structure Sh (s:FF):Prop where
 jh:∀ n,0<=n->n<40->fg (s.aI n)/\(s.aI n).length=(s.kids n).length/\(s.aI n).length<=8/\(s.aN n≠2->s.aI n=[])
 kids:∀ n,0<=n->n<40->∀ k∈s.kids n,0<=k/\k<40
 data:∀ n,0<=n->n<40->(s.data n).size<=40
 roots:s.roots.length<=4/\∀ r∈s.roots,0<=r/\r<40
 num:∀ n,0<=n->n<40-> -1000000<=s.bF n/\s.bF n<=1000000/\0<=s.aX n/\s.aX n<=1000000
structure dJ (s:FF) (d:Int->Nat) (e q:Int):Prop where
 kinds:∀ n,0<=n->n<40->s.aN n=0\/s.aN n=1\/s.aN n=2
 jh:∀ n,0<=n->n<40->fg (s.aI n)/\(s.aI n).length=(s.kids n).length/\(s.aI n).length<=8/\(s.aN n≠2->s.aI n=[])
 LS:∀ n,0<=n->n<40->∀ x∈s.aI n,jY x=true
 kids:∀ n,0<=n->n<40->∀ k∈s.kids n,0<=k/\k<40/\s.aN k≠0/\s.du k=s.du n/\(s.aN k=2->s.up k=n/\d n<d k)
 data:∀ n,0<=n->n<40->(s.data n).size<=40/\(s.aN n≠1->s.data n=ByteArray.empty)
 roots:s.roots.length<=4/\∀ r∈s.roots,0<=r/\r<40/\s.aN r=2/\s.up r=r
 up:∀ n,0<=n->n<40->s.aN n=2->n≠e->n≠q->(n∈s.roots/\s.up n=n)\/(0<=s.up n/\s.up n<40/\s.aN (s.up n)=2/\n∈s.kids (s.up n)/\d (s.up n)<d n)
 num:∀ n,0<=n->n<40->0<=s.aX n/\s.bF n=(s.FH n:Int)+(if n=e then 1 else 0)
 zero:∀ n,0<=n->n<40->s.aN n=0->s.bF n=0/\s.aX n=0
 pos:∀ n,0<=n->n<40->s.aN n≠0->n≠q->0<s.bF n\/0<s.aX n
 HT:∀ n,0<=n->n<40->s.aN n=2->n≠q->s.bF n=1
abbrev Inv(s:FF)(d:Int->Nat):Prop:=s.dJ d (-1) (-1)
def vw{s:FF}{n:Int}(h:s.cI n 0=0):0<=n/\n<40/\s.aN n≠0:=by
 grind [cI]
def ji{s:FF}{n k:Int}(h:s.cI n k=0):0<=n/\n<40/\s.aN n≠0/\(0<k->s.aN n=k):=by
 grind [cI]
theorem TQ{s:FF}{n k:Int}(h:s.cI n 0≠0):s.cI n 0=s.cI n k:=by
 grind [cI]
def Ta(s:FF)(n k:Int):0<=s.cI n k:=by grind [cI]
end FF
def av:Nat->Bool:=fun i=>Nat.blt i 40
def FC.bu(e:TypeId)(s:FC):Nat->pQ:=fun i=>⟨.slice (s.nP (i:Int)) (s.aI (i:Int)).length (s.nC (i:Int)),e,1,(s.aI (i:Int)).length,strs (s.aI (i:Int))⟩
def FC.bA(e:TypeId)(s:FC):Nat->pQ:=fun i=>⟨.slice (s.kP (i:Int)) (s.kids (i:Int)).length (s.kC (i:Int)),e,1,(s.kids (i:Int)).length,fI (s.kids (i:Int))⟩
def FC.dc:FC:=⟨FF.dc,fun _=>none,fun _=>0,fun _=>none,fun _=>0,none,0⟩
theorem iL(C:Nat->Value):∀ (vs:List Value) (i j:Nat),j<i->cC C i vs j=C j
 | [],_,_,_=>rfl
 | v::r,i,j,h=>by
  unfold cC;rw[iL (dL C i v) r (i+1) j og];simp[dL];omega
theorem fN:∀ (vs:List Value) (C:Nat->Value) (i j:Nat) (v:Value),vs[j]? =some v->cC C i vs (i+j)=v
 | [],_,_,_,_,h=>by simp at h
 | u::r,C,i,0,v,h=>by
  have h2:u=v:=by simpa using h
  unfold cC;rw[iL _ _ _ _ og,<-h2];simp[dL]
 | u::r,C,i,j+1,v,h=>by
  unfold cC;have:=fN r (dL C i u) (i+1) j v (by simpa using h);rw[show i+1+j=i+(j+1)from og]at this;exact this
theorem jw:∀ (vs:List Value) (C:Nat->Value) (i j:Nat),i+vs.length<=j->cC C i vs j=C j
 | [],_,_,_,_=>rfl
 | v::r,C,i,j,h=>by
  simp only[List.length_cons]at h;unfold cC;rw[jw r (dL C i v) (i+1) j og];simp[dL];omega
structure aC.U where
 aN:Int
 du:Int
 bF:Int
 aX:Int
 data:ByteArray
 up:Int
 aI:List ByteArray
 nP:Option Addr
 nC:Nat
 kids:List Int
 kP:Option Addr
 kC:Nat
def aC.un(s:FC)(z:Int):aC.U:=⟨s.aN z,s.du z,s.bF z,s.aX z,s.data z,s.up z,s.aI z,s.nP z,s.nC z,s.kids z,s.kP z,s.kC z⟩
def aC.cell(u:aC.U)(j:Nat):Value:=
 if j=0 then iI u.aN else
 if j=1 then iI u.du else
 if j=2 then iI u.bF else
 if j=3 then iI u.aX else
 if j=4 then .string u.data else
 if 5<=j/\j<6 then .slice u.nP u.aI.length u.nC else
 if 6<=j/\j<7 then .slice u.kP u.kids.length u.kC else
 if j=7 then iI u.up else
 undef
def aC(s:FC)(i:Nat):Value:=
 if i<320 then aC.cell (aC.un s ((i/8:Nat):Int)) (i%8)else
 if i=320 then Value.slice s.rP s.roots.length s.rC else
 undef
theorem aC.at_(s:FC)(z:Int)(h:0<=z/\z<40)(j:Nat)(hj:j<8):aC s (0+0+z.toNat*8+j)=aC.cell (aC.un s z) j:=by
 unfold aC;grind
theorem aC.set(s s':FC)(z:Int)(h:0<=z/\z<40)(k:Nat)(hk:k<8)(v:Value)(hv:∀ j,aC.cell (aC.un s' z) j=if j=k then v else aC.cell (aC.un s z) j)(ho:∀ y,¬y=z->aC.un s' y=aC.un s y)(hn:Value.slice s'.rP s'.roots.length s'.rC=Value.slice s.rP s.roots.length s.rC):0+0+z.toNat*8+k<321/\dL (aC s) (0+0+z.toNat*8+k) v=aC s':=by
 grind [dL,aC]
def aC.Sx(s s':FC)(z:Int)(h:0<=z/\z<40)(vs:List Value)(hl:vs.length=8)(hv:∀ j,j<8->vs[j]? =some (aC.cell (aC.un s' z) j))(ho:∀ y,¬y=z->aC.un s' y=aC.un s y)(hn:Value.slice s'.rP s'.roots.length s'.rC=Value.slice s.rP s.roots.length s.rC):0+0+z.toNat*8+8<=321/\cC (aC s) (0+0+z.toNat*8) vs=aC s':=by
 refine⟨og,?_⟩;funext i;by_cases a1:i<0+0+z.toNat*8
 ·rw[iL _ _ _ _ a1];unfold aC;grind
 ·by_cases a2:i<0+0+z.toNat*8+8
  ·obtain⟨j,rfl⟩:∃ j,i=0+0+z.toNat*8+j:=⟨i-(0+0+z.toNat*8),og⟩;rw[aC.at_ s' z h j og];exact fN vs _ _ _ _ (hv j og)
  ·rw[jw _ _ _ _ og];unfold aC;grind
def fF(s:FC)(z:Int)(h:0<=z/\z<40:=by omega):0+0+z.toNat*8+0<321/\aC s (0+0+z.toNat*8+0)=iI (s.aN z):=⟨og,aC.at_ s z h 0 og⟩
def gr(s:FC)(z:Int)(h:0<=z/\z<40:=by omega):0+0+z.toNat*8+1<321/\aC s (0+0+z.toNat*8+1)=iI (s.du z):=⟨og,aC.at_ s z h 1 og⟩
def kV(s:FC)(z:Int)(h:0<=z/\z<40:=by omega):0+0+z.toNat*8+2<321/\aC s (0+0+z.toNat*8+2)=iI (s.bF z):=⟨og,aC.at_ s z h 2 og⟩
def nF(s:FC)(z:Int)(h:0<=z/\z<40)(v:Int):0+0+z.toNat*8+2<321/\dL (aC s) (0+0+z.toNat*8+2) (iI v)=aC {s with bF:=ad s.bF z v} :=aC.set s {s with bF:=ad s.bF z v} z h 2 og _ (fun j=>by
 have e:aC.un {s with bF:=ad s.bF z v} z= {aC.un s z with bF:=v} :=by unfold aC.un;simp only[aj]
 rw[e]
 by_cases hj:j=2
 ·subst hj;rfl
 ·unfold aC.cell;simp only[if_neg hj]) (fun y hy=>by unfold aC.un;simp only[ae _ _ hy]) rfl
def jZ(s:FC)(z:Int)(h:0<=z/\z<40:=by omega):0+0+z.toNat*8+3<321/\aC s (0+0+z.toNat*8+3)=iI (s.aX z):=⟨og,aC.at_ s z h 3 og⟩
def tJ(s:FC)(z:Int)(h:0<=z/\z<40)(v:Int):0+0+z.toNat*8+3<321/\dL (aC s) (0+0+z.toNat*8+3) (iI v)=aC {s with aX:=ad s.aX z v} :=aC.set s {s with aX:=ad s.aX z v} z h 3 og _ (fun j=>by
 have e:aC.un {s with aX:=ad s.aX z v} z= {aC.un s z with aX:=v} :=by unfold aC.un;simp only[aj]
 rw[e]
 by_cases hj:j=3
 ·subst hj;rfl
 ·unfold aC.cell;simp only[if_neg hj]) (fun y hy=>by unfold aC.un;simp only[ae _ _ hy]) rfl
def oX(s:FC)(z:Int)(h:0<=z/\z<40:=by omega):0+0+z.toNat*8+4<321/\aC s (0+0+z.toNat*8+4)= .string (s.data z):=⟨og,aC.at_ s z h 4 og⟩
def CR(s:FC)(z:Int)(h:0<=z/\z<40)(v:ByteArray):0+0+z.toNat*8+4<321/\dL (aC s) (0+0+z.toNat*8+4) (.string v)=aC {s with data:=ad s.data z v} :=aC.set s {s with data:=ad s.data z v} z h 4 og _ (fun j=>by
 have e:aC.un {s with data:=ad s.data z v} z= {aC.un s z with data:=v} :=by unfold aC.un;simp only[aj]
 rw[e]
 by_cases hj:j=4
 ·subst hj;rfl
 ·unfold aC.cell;simp only[if_neg hj]) (fun y hy=>by unfold aC.un;simp only[ae _ _ hy]) rfl
def xK(s:FC)(z:Int)(h:0<=z/\z<40:=by omega):0+0+z.toNat*8+7<321/\aC s (0+0+z.toNat*8+7)=iI (s.up z):=⟨og,aC.at_ s z h 7 og⟩
def rX(s:FC)(z:Int)(h:0<=z/\z<40)(v:Int):0+0+z.toNat*8+7<321/\dL (aC s) (0+0+z.toNat*8+7) (iI v)=aC {s with up:=ad s.up z v} :=aC.set s {s with up:=ad s.up z v} z h 7 og _ (fun j=>by
 have e:aC.un {s with up:=ad s.up z v} z= {aC.un s z with up:=v} :=by unfold aC.un;simp only[aj]
 rw[e]
 by_cases hj:j=7
 ·subst hj;rfl
 ·unfold aC.cell;simp only[if_neg hj]) (fun y hy=>by unfold aC.un;simp only[ae _ _ hy]) rfl
def fk(s:FC)(z:Int)(h:0<=z/\z<40:=by omega):0+0+z.toNat*8+5<321/\aC s (0+0+z.toNat*8+5)= .slice (s.nP z) (s.aI z).length (s.nC z):=⟨og,aC.at_ s z h 5 og⟩
def sF(s:FC)(z:Int)(h:0<=z/\z<40)(x:List ByteArray)(p:Option Addr)(c n:Nat)(hx:n=x.length):0+0+z.toNat*8+5<321/\dL (aC s) (0+0+z.toNat*8+5) (.slice p n c)=aC {s with aI:=ad s.aI z x,nP:=ad s.nP z p,nC:=ad s.nC z c} :=by
 subst hx;exact aC.set s {s with aI:=ad s.aI z x,nP:=ad s.nP z p,nC:=ad s.nC z c} z h 5 og _ (fun j=>by
 have e:aC.un {s with aI:=ad s.aI z x,nP:=ad s.nP z p,nC:=ad s.nC z c} z= {aC.un s z with aI:=x,nP:=p,nC:=c} :=by unfold aC.un;simp only[aj]
 rw[e]
 by_cases hj:j=5
 ·subst hj;rfl
 ·unfold aC.cell
  simp only[show ¬(5<=j/\j<6)from og,hj,if_false]) (fun y hy=>by unfold aC.un;simp only[ae _ _ hy]) rfl
def l5(s:FC)(z:Int)(h:0<=z/\z<40:=by omega):0+0+z.toNat*8+6<321/\aC s (0+0+z.toNat*8+6)= .slice (s.kP z) (s.kids z).length (s.kC z):=⟨og,aC.at_ s z h 6 og⟩
def tL(s:FC)(z:Int)(h:0<=z/\z<40)(x:List Int)(p:Option Addr)(c n:Nat)(hx:n=x.length):0+0+z.toNat*8+6<321/\dL (aC s) (0+0+z.toNat*8+6) (.slice p n c)=aC {s with kids:=ad s.kids z x,kP:=ad s.kP z p,kC:=ad s.kC z c} :=by
 subst hx;exact aC.set s {s with kids:=ad s.kids z x,kP:=ad s.kP z p,kC:=ad s.kC z c} z h 6 og _ (fun j=>by
 have e:aC.un {s with kids:=ad s.kids z x,kP:=ad s.kP z p,kC:=ad s.kC z c} z= {aC.un s z with kids:=x,kP:=p,kC:=c} :=by unfold aC.un;simp only[aj]
 rw[e]
 by_cases hj:j=6
 ·subst hj;rfl
 ·unfold aC.cell
  simp only[show ¬(6<=j/\j<7)from og,hj,if_false]) (fun y hy=>by unfold aC.un;simp only[ae _ _ hy]) rfl
theorem FI(v k:Int):∀ (l:List Int) (i:Nat),i<=l.length->(l.insertIdx i v).count k=l.count k+(if v=k then 1 else 0)
 | l,0,_=>by rw[List.insertIdx_zero,List.count_cons];simp
 | [],i+1,h=>by simp at h
 | x::l,i+1,h=>by
  rw[List.insertIdx_succ_cons,List.count_cons,List.count_cons,FI v k l i (by simpa using h)];omega
theorem zF(k:Int):∀ (l:List Int) (i:Nat),i<l.length->(l.eraseIdx i).count k+(if l.getD i 0=k then 1 else 0)=l.count k
 | x::l,0,_=>by rw[List.eraseIdx_cons_zero,List.count_cons];simp
 | x::l,i+1,h=>by
  rw[List.eraseIdx_cons_succ,List.count_cons,List.count_cons,<-zF k l i (by simpa using h),List.getD_cons_succ];omega
theorem LU{l:List Int}{i:Nat}{k:Int}(hi:i<l.length)(h:k∈l)(hk:l.getD i 0≠k):k∈l.eraseIdx i:=by
 have h1:=zF k l i hi;grind
def rH{l:List Int}{p:Nat}(h:p<l.length):l.getD p 0∈l:=by
 simp_all
def CS(f:Int->List Int)(z:Int)(l:List Int)(k:Int):∀ N:Nat,FF.GZ (ad f z l) k N+(if 0<=z/\z<N then(f z).count k else 0)=FF.GZ f k N+(if 0<=z/\z<N then l.count k else 0)
 | 0=>by rw[if_neg og,if_neg og];rfl
 | N+1=>by
  have ih:=CS f z l k N;unfold FF.GZ;grind [ad]
theorem XP(f:Int->List Int)(k:Int){z:Int}{N:Nat}(hz:0<=z/\z<N):(f z).count k<=FF.GZ f k N:=by
 have:=CS f z [] k N;grind
def NI(f:Int->List Int)(k:Int)(B:Nat):∀ N:Nat,(∀ n:Nat,n<N->(f (n:Int)).length<=B)->FF.GZ f k N<=N*B
 | 0,_=>by simp[FF.GZ]
 | N+1,h=>by
  have ih:=NI f k B N fun n hn=>h n og;have h1:=h N og;have h2:=List.count_le_length (a:=k) (l:=f (N:Int));unfold FF.GZ;grind
namespace FF
def NJ{s t:FF}{z:Int}{l:List Int}(h1:t.kids=ad s.kids z l)(h2:t.roots=s.roots)(hz:0<=z/\z<40)(k:Int):t.FH k+(s.kids z).count k=s.FH k+l.count k:=by
 have:=CS s.kids z l k 40;grind [FH]
theorem JC{s t:FF}(h1:t.kids=s.kids)(h2:t.roots=s.roots)(k:Int):t.FH k=s.FH k:=by grind [FH]
theorem G1{s:FF}{n k:Int}(hn:0<=n/\n<40)(h:k∈s.kids n):1<=s.FH k:=by
 grind [XP,FH]
theorem JD{s:FF}{k:Int}(h:k∈s.roots):1<=s.FH k:=by
 grind [FH]
section
variable {s:FF} {d:Int->Nat} {e q:Int}
def dJ.LV(h:s.dJ d e q){n:Int}(h1:0<=n)(h2:n<40)(hk:s.aN n≠2):s.kids n=[]/\s.aI n=[]:=by
 grind [dJ.jh]
def dJ.abt(h:s.dJ d e q)(k:Int):s.FH k<=324:=by
 have h1:=NI s.kids k 8 40 (fun n hn=>by
  obtain⟨_,a,b,_⟩:=h.jh n og og
  omega)
 grind [dJ.roots,FH]
def dJ.sh(h:s.dJ d e q)(hB:∀ n,0<=n->n<40->s.aX n<=1000000):s.Sh where
 jh:=h.jh
 kids:=fun n h1 h2 k hk=>⟨(h.kids n h1 h2 k hk).1,(h.kids n h1 h2 k hk).2.1⟩
 data:=fun n h1 h2=>(h.data n h1 h2).1
 roots:=⟨h.roots.1,fun r hr=>⟨(h.roots.2 r hr).1,(h.roots.2 r hr).2.1⟩⟩
 num:=fun n h1 h2=>by
  obtain⟨a,b⟩:=h.num n h1 h2
  have c:=h.abt n
  have e:=hB n h1 h2
  split at b<;>omega
def dJ.aht(h:s.dJ d e q){z:Int}(h1:0<=z)(h2:z<40)(hz:s.aN z=0):s.FH z=0/\z≠e:=by
 obtain⟨_,b⟩:=h.num z h1 h2;grind [dJ.zero]
theorem dJ.cut(h:s.dJ d (-1) q){n:Int}{k:Int}(h1:0<=n)(h2:n<40)(hx:oT (s.aI n) x=true)(hk:il (s.kids n) (eh (s.aI n) x)=k):(s.ef n x).dJ d k q:=by
 obtain⟨p1,p2⟩:=lY.1 hx;obtain⟨r1,r2,r3,r4⟩:=h.jh n h1 h2;have hp:eh (s.aI n) x<(s.kids n).length:=og;have Ib:(s.kids n).getD (eh (s.aI n) x) 0=k:=by simpa [il]using hk
 have hkr:0<=k:=by
  have:=rH hp;rw[Ib]at this;exact(h.kids n h1 h2 k this).1
 have hm:∀ m,(s.ef n x).kids m=if m=n then(s.kids n).eraseIdx (eh (s.aI n) x)else s.kids m:=fun m=>rfl
 have hnm:∀ m,(s.ef n x).aI m=if m=n then(s.aI n).eraseIdx (eh (s.aI n) x)else s.aI m:=fun m=>rfl
 have sub:∀ m j,j∈(s.ef n x).kids m->j∈s.kids m:=fun m j hj=>by
  grind [List.mem_of_mem_eraseIdx]
 refine⟨h.kinds,fun m a b=> ?_,fun m a b y hy=> ?_,fun m a b j hj=>h.kids m a b j (sub m j hj),h.data,h.roots,fun m a b c fM hnq=> ?_,fun m a b=> ?_,h.zero,h.pos,h.HT⟩
 ·grind [fg.NH,dJ.jh,ef]
 ·grind [dJ.LS,List.mem_of_mem_eraseIdx]
 ·rcases h.up m a b c og hnq with g | ⟨g1,g2,g3,g4,g5⟩;all_goals grind [ef,LU]
 ·obtain⟨a1,a2⟩:=h.num m a b;have h3:=NJ (s:=s) (t:=s.ef n x) (z:=n) rfl rfl ⟨h1,h2⟩ m;grind [zF,ef]
theorem dJ.put{k:Int}(h:s.dJ d k q){n:Int}(h1:0<=n)(h2:n<40)(hn:s.aN n=2)(hx:oT (s.aI n) x=false)(hl:(s.aI n).length<8)(ok:jY x=true)(hk:0<=k/\k<40/\s.aN k≠0)(ht:s.du k=s.du n)(hd:s.aN k=2->s.up k=n/\d n<d k):(s.sN n x k).dJ d (-1) q:=by
 obtain⟨r1,r2,r3,r4⟩:=h.jh n h1 h2;have hpl:=nX (s.aI n) x;have hp:eh (s.aI n) x<=(s.kids n).length:=og;have hm:∀ m,(s.sN n x k).kids m=if m=n then(s.kids n).insertIdx (eh (s.aI n) x) k else s.kids m:=fun m=>rfl
 have hnm:∀ m,(s.sN n x k).aI m=if m=n then(s.aI n).insertIdx (eh (s.aI n) x) x else s.aI m:=fun m=>rfl
 refine⟨h.kinds,fun m a b=> ?_,fun m a b y hy=> ?_,fun m a b j hj=> ?_,h.data,h.roots,fun m a b c _ hnq=> ?_,fun m a b=> ?_,h.zero,h.pos,h.HT⟩
 ·grind [fg.insert,dJ.jh,sN]
 ·grind [List.mem_insertIdx,dJ.LS]
 ·rw[hm]at hj;split at hj
  ·rename_i c;subst c;rcases(List.mem_insertIdx hp).1 hj with rfl | hj
   ·grind [sN]
   ·exact h.kids m a b j hj
  ·exact h.kids m a b j hj
 ·by_cases c3:m=k
  ·grind [sN,List.mem_insertIdx]
  ·rcases h.up m a b c c3 hnq with g | ⟨g1,g2,g3,g4,g5⟩;all_goals grind [sN,List.mem_insertIdx]
 ·obtain⟨a1,a2⟩:=h.num m a b;have h3:=NJ (s:=s) (t:=s.sN n x k) (z:=n) rfl rfl ⟨h1,h2⟩ m;have h4:=FI k m (s.kids n) _ hp;grind [sN]
def dJ.fresh(h:s.dJ d (-1) (-1)){z k t u:Int}(h1:0<=z)(h2:z<40)(hz:s.aN z=0)(hk:k=1\/k=2)(N:Nat):(s.jz z k t 1 u).dJ (ad d z N) z (-1):=by
 obtain⟨c0,_⟩:=h.aht h1 h2 hz;obtain⟨k0,n0⟩:=h.LV h1 h2 og;obtain⟨l0,e0⟩:=h.zero z h1 h2 hz;have hm:(s.jz z k t 1 u).kids=s.kids:=cB _ k0;have hnm:(s.jz z k t 1 u).aI=s.aI:=cB _ n0;have HU:∀ m,(s.jz z k t 1 u).aN m=if m=z then k else s.aN m:=fun m=>rfl
 have htr:∀ m,(s.jz z k t 1 u).du m=if m=z then t else s.du m:=fun m=>rfl
 have KQ:∀ m,(s.jz z k t 1 u).up m=if m=z then u else s.up m:=fun m=>rfl
 have hdt:∀ m,(s.jz z k t 1 u).data m=if m=z then ByteArray.empty else s.data m:=fun m=>rfl
 have hli:∀ m,(s.jz z k t 1 u).bF m=if m=z then 1 else s.bF m:=fun m=>rfl
 have P5:∀ m,(s.jz z k t 1 u).aX m=if m=z then 0 else s.aX m:=fun m=>rfl
 have OH:(s.jz z k t 1 u).roots=s.roots:=rfl;have hdd:∀ m,ad d z N m=if m=z then N else d m:=fun m=>rfl
 have nz:∀ m j,0<=m->m<40->j∈s.kids m->m≠z/\j≠z:=by
  grind [G1]
 refine⟨fun m a b=> ?_,fun m a b=> ?_,fun m a b y hy=> ?_,fun m a b j hj=> ?_,fun m a b=> ?_,⟨h.roots.1,fun r hr=> ?_⟩,fun m a b c fM _=> ?_,fun m a b=> ?_,fun m a b c=> ?_,fun m a b c _=> ?_,fun m a b c _=> ?_⟩
 ·grind [dJ.kinds]
 ·rw[hnm,hm,HU];grind [dJ.jh]
 ·grind [dJ.LS]
 ·grind [dJ.kids]
 ·rw[hdt,HU];split
  ·simp_all
  grind [dJ.data]
 ·grind [dJ.roots]
 ·rw[HU,if_neg fM]at c;rw[KQ,HU,hm,hdd,hdd,if_neg fM,if_neg fM,OH];rcases h.up m a b c og og with g | ⟨g1,g2,g3,g4,g5⟩;all_goals grind
 ·obtain⟨a1,a2⟩:=h.num m a b;grind [JC]
 ·grind [dJ.zero]
 ·rw[HU]at c;rw[hli,P5];split at c
  ·omega
  ·rename_i c2;rw[if_neg c2,if_neg c2];exact h.pos m a b c og
 grind [dJ.HT]
theorem dJ.nU{z:Int}(h:s.dJ d z q)(h1:0<=z)(h2:z<40)(hz:s.aN z=2)(hu:s.up z=z)(hl:s.roots.length<4):dJ {s with roots:=s.roots++[z]} d (-1) q:=by
 refine⟨h.kinds,h.jh,h.LS,h.kids,h.data,⟨by simp;omega,fun r hr=> ?_⟩,fun m a b c _ hnq=> ?_,fun m a b=> ?_,h.zero,h.pos,h.HT⟩
 ·grind [dJ.roots]
 ·by_cases c2:m=z
  ·simp_all
  ·rcases h.up m a b c c2 hnq with⟨g1,g2⟩ | g;all_goals simp_all
 ·obtain⟨a1,a2⟩:=h.num m a b;grind [FH]
def dJ.abx(h:s.dJ d (-1) (-1)){k:Int}(h1:0<=k)(h2:k<40)(hk:s.aN k=1):dJ {s with bF:=ad s.bF k (s.bF k+1)} d k (-1):=by
 have hli:∀ m,ad s.bF k (s.bF k+1) m=if m=k then s.bF k+1 else s.bF m:=fun m=>rfl
 refine⟨h.kinds,h.jh,h.LS,h.kids,h.data,h.roots,fun m a b c _ _=>h.up m a b c og og,fun m a b=> ?_,fun m a b c=> ?_,fun m a b c _=> ?_,fun m a b c _=> ?_⟩
 ·obtain⟨a1,a2⟩:=h.num m a b;grind [FH]
 ·grind [dJ.zero]
 ·show 0<ad s.bF k _ m\/_;rw[hli];obtain⟨a1,a2⟩:=h.num m a b;split
  ·simp_all
  ·exact h.pos m a b c og
 grind [dJ.HT]
def dJ.TR{k:Int}(h:s.dJ d k (-1))(hk:s.aN k≠0):dJ {s with bF:=ad s.bF k (s.bF k-1)} d (-1) k:=by
 have hli:∀ m,ad s.bF k (s.bF k-1) m=if m=k then s.bF k-1 else s.bF m:=fun m=>rfl
 refine⟨h.kinds,h.jh,h.LS,h.kids,h.data,h.roots,fun m a b c _ hq=>h.up m a b c hq og,fun m a b=> ?_,fun m a b c=> ?_,fun m a b c hq=> ?_,fun m a b c hq=> ?_⟩
 ·obtain⟨a1,a2⟩:=h.num m a b;grind [FH]
 ·grind [dJ.zero]
 ·show 0<ad s.bF k _ m\/_;rw[hli,if_neg hq];exact h.pos m a b c og
 grind [dJ.HT]
def dJ.XT(h:s.dJ d e q)(h1:0<=q->q<40->s.aN q≠0->0<s.bF q\/0<s.aX q)(h2:0<=q->q<40->s.aN q≠2):s.dJ d e (-1):=
 ⟨h.kinds,h.jh,h.LS,h.kids,h.data,h.roots,fun m a b c he _=>h.up m a b c he fun e=>by subst e;exact h2 a b c,h.num,h.zero,fun m a b c _=>by
  by_cases e:m=q
  ·subst e;exact h1 a b c
  ·exact h.pos m a b c e,fun m a b c _=>h.HT m a b c fun e=>by subst e;exact h2 a b c⟩
def dJ.weak(h:s.dJ d e (-1))(q:Int):s.dJ d e q:=
 ⟨h.kinds,h.jh,h.LS,h.kids,h.data,h.roots,fun m a b c he _=>h.up m a b c he og,h.num,h.zero,fun m a b c _=>h.pos m a b c og,fun m a b c _=>h.HT m a b c og⟩
def dJ.aeJ(h:s.dJ d (-1) q)(h1:0<=q)(h2:q<40)(hl:s.bF q=0)(hh:s.aX q=0)(hk:s.kids q=[]):(s.jz q 0 0 0 0).dJ d (-1) (-1):=by
 have c0:s.FH q=0:=by
  have:=(h.num q h1 h2).2;omega
 have n0:s.aI q=[]:=List.eq_nil_of_length_eq_zero (by rw[(h.jh q h1 h2).2.1,hk];rfl);have hm:(s.jz q 0 0 0 0).kids=s.kids:=cB _ hk;have hnm:(s.jz q 0 0 0 0).aI=s.aI:=cB _ n0;have HU:∀ m,(s.jz q 0 0 0 0).aN m=if m=q then 0 else s.aN m:=fun m=>rfl
 have htr:∀ m,(s.jz q 0 0 0 0).du m=if m=q then 0 else s.du m:=fun m=>rfl
 have KQ:∀ m,(s.jz q 0 0 0 0).up m=if m=q then 0 else s.up m:=fun m=>rfl
 have hdt:∀ m,(s.jz q 0 0 0 0).data m=if m=q then ByteArray.empty else s.data m:=fun m=>rfl
 have hli:∀ m,(s.jz q 0 0 0 0).bF m=if m=q then 0 else s.bF m:=fun m=>rfl
 have P5:∀ m,(s.jz q 0 0 0 0).aX m=if m=q then 0 else s.aX m:=fun m=>rfl
 have OH:(s.jz q 0 0 0 0).roots=s.roots:=rfl;have nz:∀ m j,0<=m->m<40->j∈s.kids m->m≠q/\j≠q:=by
  grind [G1]
 refine⟨fun m a b=> ?_,fun m a b=> ?_,fun m a b y hy=> ?_,fun m a b j hj=> ?_,fun m a b=> ?_,⟨h.roots.1,fun r hr=> ?_⟩,fun m a b c _ _=> ?_,fun m a b=> ?_,fun m a b c=> ?_,fun m a b c _=> ?_,fun m a b c _=> ?_⟩
 ·grind [dJ.kinds]
 ·rw[hnm,hm,HU];grind [dJ.jh]
 ·grind [dJ.LS]
 ·rw[hm]at hj;obtain⟨n1,n2⟩:=nz m j a b hj;rw[HU,htr,htr,KQ,if_neg n2,if_neg n2,if_neg n1,if_neg n2];exact h.kids m a b j hj
 ·rw[hdt,HU];split
  ·simp_all
  grind [dJ.data]
 ·grind [JD,dJ.roots]
 ·have fM:m≠q:=fun e=>by subst e;rw[HU,if_pos rfl]at c;omega
  rw[HU,if_neg fM]at c;rw[KQ,HU,hm,if_neg fM,OH];rcases h.up m a b c og fM with g | ⟨g1,g2,g3,g4,g5⟩;all_goals grind
 ·obtain⟨a1,a2⟩:=h.num m a b;grind [JC]
 ·grind [dJ.zero]
 ·rw[HU]at c;rw[hli,P5];split at c
  ·omega
  ·rename_i c2;rw[if_neg c2,if_neg c2];exact h.pos m a b c c2
 grind [dJ.HT]
end
end FF
end Go.X.Tr
