import Derived.Test.YthdinakloheinaaGreatDoorkVP
import Derived.Test.YthdinakloheinaaGreatDoorkTP
set_option linter.all false
namespace Go.X.Vm
open Go Go.X
variable{a i k:Int}
def ec(pb:Nat)(bs:Int->Int->Int)(rf:Int->Int)(i:Nat):Value:=
 if i=0 then ay pb 0 0 else
 if 1<=i/\(i-1)/8<64/\((i-1)%8)%1=0/\((i-1)%8)/1<8 then .int .u8 (bs (((i-1)/8:Nat):Int) ((((i-1)%8)/1:Nat):Int))else
 if 513<=i/\(i-513)%1=0/\(i-513)/1<64 then iI (rf (((i-513)/1:Nat):Int))else
 undef
abbrev d9(b0:Nat)(pb:Nat)(bs:Int->Int->Int)(rf:Int->Int):aG:=.cells b0 0 577 (ec pb bs rf)
def ec.Jw(pb:Nat)(bs:Int->Int->Int)(rf:Int->Int):(0+0)<577/\ec pb bs rf (0+0)=ay pb 0 0:=by
 grind [ec]
def GM(pb:Nat)(bs:Int->Int->Int)(rf:Int->Int)(z0:Int)(z1:Int)(q0:0<=z0/\z0<64)(q1:0<=z1/\z1<8):(((0+1)+z0.toNat*8)+z1.toNat*1)<577/\ec pb bs rf (((0+1)+z0.toNat*8)+z1.toNat*1)= .int .u8 (bs z0 z1):=by
 grind [ec]
def ya(pb:Nat)(bs:Int->Int->Int)(rf:Int->Int)(z0:Int)(z1:Int)(q0:0<=z0/\z0<64)(q1:0<=z1/\z1<8)(v:Int):(((0+1)+z0.toNat*8)+z1.toNat*1)<577/\ep (ec pb bs rf) (((0+1)+z0.toNat*8)+z1.toNat*1) (.int .u8 (v))=ec pb (bW bs z0 z1 v) rf:=by
 grind [ep,bW,ec]
def jF(pb:Nat)(bs:Int->Int->Int)(rf:Int->Int)(z0:Int)(q0:0<=z0/\z0<64:=by omega):((0+513)+z0.toNat*1)<577/\ec pb bs rf ((0+513)+z0.toNat*1)=iI (rf z0):=by
 grind [ec]
def mX(pb:Nat)(bs:Int->Int->Int)(rf:Int->Int)(z0:Int)(q0:0<=z0/\z0<64)(v:Int):((0+513)+z0.toNat*1)<577/\ep (ec pb bs rf) ((0+513)+z0.toNat*1) (iI (v))=ec pb bs (ad rf z0 v):=by
 grind [ep,ad,ec]
def cF(kb:Nat)(p:Option Addr)(n:Nat)(c:Nat)(fr:Int->Int)(aU:Int->Bool)(i:Nat):Value:=
 if i=0 then ay kb 0 0 else
 if i=1 then .slice p n c else
 if 2<=i/\(i-2)%2=0/\(i-2)/2<16 then iI (fr (((i-2)/2:Nat):Int)-1)else
 if 3<=i/\(i-3)%2=0/\(i-3)/2<16 then .bool (aU (((i-3)/2:Nat):Int))else
 undef
abbrev d7(b0:Nat)(kb:Nat)(p:Option Addr)(n:Nat)(c:Nat)(fr:Int->Int)(aU:Int->Bool):aG:=.cells b0 0 34 (cF kb p n c fr aU)
abbrev ip(b0 kb:Nat)(p:Option Addr)(c:Nat)(m:MS):aG:=d7 b0 kb p (aj m.az).length c m.fr m.aU
abbrev iF(p:Option Addr)(c:Nat)(m:MS):aG:=gc p c (aj m.az)
def cF.zY(kb:Nat)(p:Option Addr)(n:Nat)(c:Nat)(fr:Int->Int)(aU:Int->Bool):(0+0)<34/\cF kb p n c fr aU (0+0)=ay kb 0 0:=by
 grind [cF]
def mz(kb:Nat)(p:Option Addr)(n:Nat)(c:Nat)(fr:Int->Int)(aU:Int->Bool):(0+1)<34/\cF kb p n c fr aU (0+1)= .slice p n c:=by
 grind [cF]
def bX(kb:Nat)(p:Option Addr)(n:Nat)(c:Nat)(fr:Int->Int)(aU:Int->Bool)(z0:Int)(q0:0<=z0/\z0<16:=by omega):(((0+2)+z0.toNat*2)+0)<34/\cF kb p n c fr aU (((0+2)+z0.toNat*2)+0)=iI (fr z0-1):=by
 grind [cF]
def qQ(kb:Nat)(p:Option Addr)(n:Nat)(c:Nat)(fr:Int->Int)(aU:Int->Bool)(z0:Int)(q0:0<=z0/\z0<16)(v:Int):(((0+2)+z0.toNat*2)+0)<34/\ep (cF kb p n c fr aU) (((0+2)+z0.toNat*2)+0) (iI (v))=cF kb p n c (ad fr z0 (v+1)) aU:=by
 grind [ep,ad,cF]
def zZ(kb:Nat)(p:Option Addr)(n:Nat)(c:Nat)(fr:Int->Int)(aU:Int->Bool)(z0:Int)(q0:0<=z0/\z0<16):(((0+2)+z0.toNat*2)+1)<34/\cF kb p n c fr aU (((0+2)+z0.toNat*2)+1)= .bool (aU z0):=by
 grind [cF]
theorem iS(kb:Nat)(p:Option Addr)(n:Nat)(c:Nat)(fr:Int->Int)(aU:Int->Bool)(z0:Int)(q0:0<=z0/\z0<16)(v:Bool):(((0+2)+z0.toNat*2)+1)<34/\ep (cF kb p n c fr aU) (((0+2)+z0.toNat*2)+1) (.bool (v))=cF kb p n c fr (ad aU z0 v):=by
 grind [ep,ad,cF]
def W8(row:Int->Int):Array Value:=((List.range 8).map fun (j:Nat)=>Value.int .u8 (row (j:Int))).toArray
def W9(pb:Nat)(bs:Int->Int->Int)(rf:Int->Int)(f:Int)(h:0<=f/\f<64):0+1+f.toNat*8+8<=577/\dB (ec pb bs rf) (0+1+f.toNat*8) 8= .agg (W8 (bs f)):=by
 refine⟨og,?_⟩;unfold dB W8;congr 2;apply List.map_congr_left;grind [ec]
def HM(pb:Nat)(bs:Int->Int->Int)(rf:Int->Int)(f:Int)(row:Int->Int)(h:0<=f/\f<64:=by omega):0+1+f.toNat*8+8<=577/\cY (ec pb bs rf) (0+1+f.toNat*8) (W8 row).toList=ec pb (Dg bs f row) rf:=by
 refine⟨og,?_⟩;have e:(W8 row).toList=[.int .u8 (row 0),.int .u8 (row 1),.int .u8 (row 2),.int .u8 (row 3),.int .u8 (row 4),.int .u8 (row 5),.int .u8 (row 6),.int .u8 (row 7)]:=rfl;rw[e];simp only[cY];have st:∀ (bs:Int->Int->Int) (j:Nat) (v:Int),j<8->ep (ec pb bs rf) (0+1+f.toNat*8+j) (.int .u8 v)=ec pb (bW bs f j v) rf:=fun bs j v hj=>by
  have:=(ya pb bs rf f (j:Int) h og v).2;simp_all
 have s0:=st bs 0 (row 0) og;rw[show 0+1+f.toNat*8+0=0+1+f.toNat*8 from rfl]at s0;rw[s0,st _ 1 _ og,show 0+1+f.toNat*8+1+1=0+1+f.toNat*8+2 from rfl,st _ 2 _ og,show 0+1+f.toNat*8+2+1=0+1+f.toNat*8+3 from rfl,st _ 3 _ og,show 0+1+f.toNat*8+3+1=0+1+f.toNat*8+4 from rfl,st _ 4 _ og,
  show 0+1+f.toNat*8+4+1=0+1+f.toNat*8+5 from rfl,st _ 5 _ og,show 0+1+f.toNat*8+5+1=0+1+f.toNat*8+6 from rfl,st _ 6 _ og,show 0+1+f.toNat*8+6+1=0+1+f.toNat*8+7 from rfl,st _ 7 _ og]
 funext i;unfold ec;refine iK (fun _=>rfl) fun _=>iK (fun c=> ?_) fun _=>rfl;congr 1;simp only[Dg,bW];grind
def Tw(kb:Nat)(p:Option Addr)(n c:Nat)(fr:Int->Int)(aU:Int->Bool)(i:Int)(h:0<=i/\i<16):0+2+i.toNat*2+2<=34/\dB (cF kb p n c fr aU) (0+2+i.toNat*2) 2= .agg #[iI (fr i-1),.bool (aU i)]:=by
 grind [dB,List.range,List.range.loop,cF]
def tU(kb:Nat)(p:Option Addr)(n c:Nat)(fr:Int->Int)(aU:Int->Bool)(i:Int)(f:Int)(w:Bool)(h:0<=i/\i<16:=by omega):0+2+i.toNat*2+2<=34/\cY (cF kb p n c fr aU) (0+2+i.toNat*2) [iI f,.bool w]=cF kb p n c (ad fr i (f+1)) (ad aU i w):=by
 refine⟨og,?_⟩;simp only[cY];have h1:=(qQ kb p n c fr aU i h f).2;simp_all[iS]
def Jy(kb:Nat)(p:Option Addr)(n c:Nat)(fr:Int->Int)(aU:Int->Bool)(p2:Option Addr)(n2 c2:Nat):0+1<34/\ep (cF kb p n c fr aU) (0+1) (.slice p2 n2 c2)=cF kb p2 n2 c2 fr aU:=by
 grind [ep,cF]
theorem HN(hk:0<=k/\k<=6):nB (nB i k) k=i:=by
 grind [nB,aff,aa4,To,aa5,Tp,aa6,aa7]
def abo(hk:0<=k/\k<=5)(h:a%p2 (k+1)=0):nB (a+p2 k) k=a:=by
 grind [p2,To,Tp,nB]
structure BB.iG (b:BB):Prop where
 inv:b.Inv
 cov:∀ j,0<=j->j<64->∃ i,i<=j/\0<b.bK i/\j<i+p2 (b.bK i-1)
 nb:∀ i,0<b.bK i->b.tk i=false->¬b.gj i
theorem BB.iG.cR:BB.cR.iG where
 inv:=BB.Inv.cR
 cov:=fun j h0 h1=>⟨0,h0,dq,by show j<0+p2 6;rw[aa7];omega⟩
 nb:=fun i hi _ hc=>by
  have h1:=hc.1
  have:i=0:=by
   apply Classical.byContradiction;intro c
   rw[show BB.cR.bK i=ad (fun _=>(0:Int)) 0 7 i from rfl,ae _ _ c]at hi;omega
  subst this
  have:BB.cR.bK 0=7:=rfl
  omega
def Jz{b:BB}(h:b.Inv)(ha:1<b.bK a)(hc:∀ j,0<=j->j<64->∃ i,i<=j/\0<b.bK i/\j<i+p2 (b.bK i-1)):∀ j,0<=j->j<64->∃ i,i<=j/\0<(b.split a).bK i/\j<i+p2 ((b.split a).bK i-1):=fun j h0 h1=>by
 obtain⟨s1,s2,s3,s4⟩:=h.split ha;have e2:=tH (k:=b.bK a-2);rw[show b.bK a-2+1=b.bK a-1 from og]at e2;have hp:=rn (b.bK a-2);have gJ:¬a=a+p2 (b.bK a-2):=og;have o1:∀ i,(b.split a).bK i=if i=a+p2 (b.bK a-2)then b.bK a-1 else if i=a then b.bK a-1 else b.bK i:=fun i=>rfl
 grind
def Mf{b:BB}(h:b.Inv)(ha:0<b.bK a)(hj:b.gj a)(hc:∀ j,0<=j->j<64->∃ i,i<=j/\0<b.bK i/\j<i+p2 (b.bK i-1)):∀ j,0<=j->j<64->∃ i,i<=j/\0<(b.ij a).bK i/\j<i+p2 ((b.ij a).bK i-1):=fun j h0 h1=>by
 obtain⟨l,l1,l2,l3,l4⟩:=tJ ha hj.1 (h.al a ha) (h.rs ha);rw[show nB a (b.bK a-1)=b.cV a from rfl]at l4;have e2:=tH (k:=b.bK a-1);rw[show b.bK a-1+1=b.bK a from og]at e2;have hp:=rn (b.bK a-1);have Ll:min a (b.cV a)=l:=og;have uK:max a (b.cV a)=l+p2 (b.bK a-1):=og;have o1:∀ i,(b.ij a).bK i=if i=l then b.bK a+1 else if i=l+p2 (b.bK a-1)then 0 else b.bK i:=fun i=>by
  simp_all[ad,BB.ij]
 have ob:=hj.2.1;grind
theorem BB.iG.iE:∀ (n:Nat) {b:BB} {a:Int},b.iG->(n:Int)<b.bK a->b.tk a=true->(BB.iE n b a).iG
 | 0,_,_,h,_,_=>h
 | n+1,b,a,h,ha,ht=>by
  obtain⟨s1,s2,s3,s4⟩:=h.inv.split (a:=a) og;have NM:=h.inv.jV a;have e2:=tH (k:=b.bK a-2);rw[show b.bK a-2+1=b.bK a-1 from og]at e2;have hp:=rn (b.bK a-2);have gJ:¬a=a+p2 (b.bK a-2):=og;have o1:∀ i,(b.split a).bK i=if i=a+p2 (b.bK a-2)then b.bK a-1 else if i=a then b.bK a-1 else b.bK i:=fun i=>rfl
  have NN:nB (a+p2 (b.bK a-2)) (b.bK a-2)=a:=abo og (by rw[show b.bK a-2+1=b.bK a-1 from og];exact h.inv.al a og);refine BB.iG.iE n ⟨s1,Jz h.inv og h.cov,fun i hi hti hcj=> ?_⟩ (by rw[s4];omega) ht;have afk:b.tk i=false:=hti;have hna:¬i=a:=by rintro rfl;rw[ht]at afk;cases afk
  obtain⟨c1,c2,c3⟩:=hcj;by_cases c:i=a+p2 (b.bK a-2)
  ·have hb:(b.split a).cV i=a:=by
    unfold BB.cV;rw[o1,if_pos c,show b.bK a-1-1=b.bK a-2 from og,c];exact NN
   rw[hb]at c3;rw[show(b.split a).tk a=b.tk a from rfl,ht]at c3;cases c3
  ·have oi:(b.split a).bK i=b.bK i:=by rw[o1,if_neg c,if_neg hna]
   have hb:(b.split a).cV i=b.cV i:=by unfold BB.cV;rw[oi]
   rw[hb,oi]at c2;rw[hb]at c3;rw[oi]at hi c1;have hba:¬b.cV i=a:=fun e=>by
    rw[e]at c3;rw[show(b.split a).tk a=b.tk a from rfl,ht]at c3;cases c3
   by_cases d:b.cV i=a+p2 (b.bK a-2)
   ·rw[d,o1,if_pos rfl]at c2;have e3:nB (b.cV i) (b.bK i-1)=i:=HN og;rw[d,<-c2,show b.bK a-1-1=b.bK a-2 from og,NN]at e3;exact hna e3.symm
   ·rw[o1,if_neg d,if_neg hba]at c2;exact h.nb i hi afk ⟨c1,c2,c3⟩
theorem BB.iG.iD{b:BB}(h:b.iG){a:Int}(ha:0<b.bK a):(b.iD a).iG:=by
 refine⟨h.inv.iD ha,h.cov,fun i hi hti hcj=> ?_⟩;have t1:∀ j,(b.iD a).tk j=false->b.tk j=false:=fun j hj=>by
  have:ad b.tk a true j=false:=hj;grind [ah,ae]
 obtain⟨c1,c2,c3⟩:=hcj;exact h.nb i hi (t1 i hti) ⟨c1,c2,t1 _ c3⟩
theorem BB.iG.take{b:BB}(h:b.iG)(o:Int):(b.take o).2.2.iG:=by
 unfold BB.take;split
 ·omega
 ·rename_i ho;split
  ·omega
  ·rename_i k i hp;obtain⟨h1,h2,h3,h4,h5⟩:=pt hp;have hh:=h.iD (a:=i) og;exact BB.iG.iE _ hh (by show _<b.bK i;omega) (ah _ _ _)
def GN:∀ (n:Nat) {b:BB} {a:Int},b.Inv->(∀ j,0<=j->j<64->∃ i,i<=j/\0<b.bK i/\j<i+p2 (b.bK i-1))->0<b.bK a->b.tk a=false->7<=b.bK a+n->(∀ i,0<b.bK i->b.tk i=false->b.gj i->i=a\/b.cV i=a)->(BB.kV n b a).iG:=by
 have stop:∀ {b:BB} {a:Int},b.Inv->(∀ j,0<=j->j<64->∃ i,i<=j/\0<b.bK i/\j<i+p2 (b.bK i-1))->0<b.bK a->b.tk a=false->¬b.gj a->(∀ i,0<b.bK i->b.tk i=false->b.gj i->i=a\/b.cV i=a)->b.iG:=by
  intro b a h hc ha ht hn hv;refine⟨h,hc,fun i hi hti hcj=> ?_⟩;rcases hv i hi hti hcj with e | e;all_goals grind [BB.cV,HN,BB.gj]
 intro n;induction n with
 | zero=>
  intro b a h hc ha ht h7 hv;exact stop (b:=b) (a:=a) h hc ha ht (fun q=>by have:=q.1;omega) hv
 | succ n ih=>
  intro b a h hc ha ht h7 hv;rw[BB.kV];by_cases c:b.gj a
  ·rw[if_pos c];obtain⟨j1,_,_,_,j5,j6⟩:=h.ij ha ht c;obtain⟨l,l1,l2,l3,l4⟩:=tJ ha c.1 (h.al a ha) (h.rs ha);rw[show nB a (b.bK a-1)=b.cV a from rfl]at l4;have hp:=rn (b.bK a-1);have Ll:min a (b.cV a)=l:=og;have uK:max a (b.cV a)=l+p2 (b.bK a-1):=og;have o1:∀ i,(b.ij a).bK i=if i=l then b.bK a+1 else if i=l+p2 (b.bK a-1)then 0 else b.bK i:=fun i=>by
    show ad (ad b.bK (max a (b.cV a)) 0) (min a (b.cV a)) (b.bK a+1) i=_;rw[Ll,uK];rfl
   refine ih j1 (Mf h ha c hc) (by rw[j5];omega) j6 (by rw[j5];omega) fun i hi hti hcj=> ?_;rw[Ll];apply Classical.byContradiction;intro rK;obtain⟨n1,n2⟩:=not_or.1 rK;obtain⟨c1,c2,c3⟩:=hcj;have n3:¬i=l+p2 (b.bK a-1):=by
    grind
   have oi:(b.ij a).bK i=b.bK i:=by rw[o1,if_neg n1,if_neg n3]
   have hb:(b.ij a).cV i=b.cV i:=by unfold BB.cV;rw[oi]
   rw[hb]at n2 c2 c3;rw[oi]at hi c1 c2;have n4:¬b.cV i=l+p2 (b.bK a-1):=fun e=>by
    simp_all
   rw[o1,if_neg n2,if_neg n4]at c2;rcases hv i hi hti ⟨c1,c2,c3⟩with e | e<;>omega
  ·grind
theorem BB.iG.qf{b:BB}(h:b.iG)(a:Int):(b.qf a).2.iG:=by
 unfold BB.qf;by_cases c:b.is a=0
 ·rw[if_neg (by simp[c])];obtain⟨h1,h2,h3⟩:=tL c;have ho:=h.inv.tk a h3;refine GN _ (h.inv.bare a) h.cov ho (ah _ _ _) (by show 7<=b.bK a+_;omega) fun i hi hti hcj=> ?_;apply Classical.byContradiction;intro rK;obtain⟨n1,n2⟩:=not_or.1 rK;obtain⟨c1,c2,c3⟩:=hcj;have t1:ad b.tk a false i=false:=hti;have t2:ad b.tk a false (b.cV i)=false:=c3;rw[ae _ _ n1]at t1;rw[ae _ _ (show ¬b.cV i=a from n2)]at t2;exact h.nb i hi t1 ⟨c1,c2,t2⟩
 simp_all
def BB.nw(b:BB)(i j:Int):Bool:=decide (0<b.bK i)&&decide (i<=j)&&decide (j<i+p2 (b.bK i-1))
def cv(b:BB)(P:Int->Bool)(j:Int):Int:=fh (fun i=>P i&&b.nw i j) 64
theorem yO{f g:Int->Bool} :∀ {n:Nat},(∀ i:Int,0<=i->i<n->f i=g i)->fh f n=fh g n
 | 0,_=>rfl
 | n+1,h=>by simp only[fh,yO (n:=n) fun i h0 h1=>h i h0 og,h n og og]
theorem BK{f:Int->Bool} :∀ {n:Nat},(∀ i:Int,0<=i->i<n->f i=false)->fh f n=0
 | 0,_=>rfl
 | n+1,h=>by simp[fh,BK (n:=n) fun i h0 h1=>h i h0 og,h n og og]
def Mg{f g:Int->Bool}{a:Int} :∀ {n:Nat},f a=false->(∀ i:Int,0<=i->i<n->¬i=a->g i=f i)->fh g n=fh f n+(if 0<=a/\a<n/\g a=true then 1 else 0)
 | 0,_,_=>by simp[fh];omega
 | n+1,hf,h=>by
  have ih:=Mg (n:=n) hf fun i h0 h1=>h i h0 og;grind [fh]
theorem BB.iG.als{b:BB}(h:b.iG){P:Int->Bool}(hP:∀ i,0<b.bK i->P i=true){j:Int}(hj:0<=j/\j<64):cv b P j=1:=by
 obtain⟨i,i1,i2,i3⟩:=h.cov j hj.1 hj.2;have xH:=h.inv.rs i2;unfold cv;rw[Mg (f:=fun _=>false) (a:=i) (n:=64) rfl (fun m m0 m1 hm=>by
  unfold BB.nw
  by_cases c:0<b.bK m
  ·by_cases d:m<=j/\j<m+p2 (b.bK m-1)
   ·exact(h.inv.apart c i2 hm d ⟨i1,i3⟩).elim
   ·by_cases d1:m<=j
    ·have d2:¬j<m+p2 (b.bK m-1):=fun q=>d ⟨d1,q⟩
     simp[d2]
    ·simp[d1]
  ·simp[c]),BK fun _ _ _=>rfl,if_pos]
 ·rfl
 ·unfold BB.nw;rw[hP i i2];simp[i2,i1,i3];omega
def JA{b:BB}{o:Int}(h:¬(b.take o).2.1=0):(b.take o).2.2=b:=by
 grind [BB.take]
def BB.Inv.ED{b:BB}(h:b.Inv){o:Int}(he:(b.take o).2.1=0):(0<=o/\o<=6)/\(0<=(b.take o).1/\(b.take o).1<64)/\b.eK (b.take o).1=0/\(b.take o).1%p2 o=0/\(b.take o).2.2.eK=ad b.eK (b.take o).1 (o+1):=by
 by_cases ho:o<0\/6<o
 ·grind [ru]
 ·cases hp:b.pick o with
  | none=>rw[zO ho hp]at he;simp at he
  | some x=>
   obtain⟨k,i⟩:=x;obtain⟨h1,h2,h3,h4,h5⟩:=pt hp;have hu:=congrArg PB.u (h.HD ho hp);have hi:=h.take o;have hh:=h.iD (a:=i) og;obtain⟨s1,_⟩:=hh.yL ((k:Int)-o).toNat (a:=i) (by show _<b.bK i;omega);have e1:(b.take o).1=i:=by rw[BB.lV ho hp]
   have e2:(b.take o).2.2.bK i=o+1:=by
    rw[BB.lV ho hp];show(BB.iE _ _ _).bK i=_;rw[s1];show b.bK i-_=_;omega
   have ha:=hi.al i (by rw[e2];omega);rw[e2,show o+1-1=o from og]at ha;rw[e1];exact⟨og,og,by unfold BB.eK;rw[if_neg (by simp[h5])],ha,hu.symm⟩
theorem EE(b:BB)(a:Int):(b.qf a).1=b.is a:=by
 grind [tM,qP]
def BB.Inv.Xa{b:BB}(h:b.Inv)(he:(b.qf a).1=0):(0<=a/\a<64)/\¬b.eK a=0/\(b.qf a).2.eK=ad b.eK a 0/\(b.qf a).2.tk=ad b.tk a false:=by
 rw[EE]at he;obtain⟨h1,h2,h3⟩:=tL he;have hu:=congrArg PB.u (h.BC he);refine⟨⟨h1,h2⟩,?_,hu.symm,?_⟩
 ·grind [BB.eK,Inv]
 ·rw[tM he];exact BB.Ex _ _ _
def zKl(b:Nat):List Value:=ay b 0 0::(List.replicate 512 (Value.int .u8 0)++List.replicate 64 (Value.int .i64 0))
def VB.cR:VB:=⟨BB.cR,fun _ _=>0,fun _=>0⟩
theorem VB.Ok.cR:VB.cR.Ok:=⟨BB.Inv.cR,fun _=>by simp[VB.cR],fun _ _=>by simp[VB.cR]⟩
def afl(b:Nat):∀ i,i<577->cellsOf (zKl b).toArray i=ec b VB.cR.ja VB.cR.rf i:=fun i hi=>by
 unfold cellsOf zKl ec;rw[Array.getD_eq_getD_getElem?,List.getElem?_toArray];by_cases h0:i=0
 ·grind
 ·rw[if_neg h0,show i=(i-1)+1 from og,List.getElem?_cons_succ];by_cases h1:i-1<512
  ·rw[List.getElem?_append_left (by rw[List.length_replicate];exact h1),List.getElem?_replicate,if_pos h1];rw[if_pos og];rfl
  ·rw[List.getElem?_append_right (by rw[List.length_replicate];omega),List.length_replicate,List.getElem?_replicate,if_pos og];rw[if_neg og,if_pos og];rfl
def zNl(b:Nat):List Value:=ay b 0 0:: .slice none 0 0::(List.replicate 16 [Value.int .i64 0,Value.bool false]).flatten
def Xb(b:Nat):∀ i,i<34->cellsOf (zNl b).toArray i=cF b none 0 0 (fun _=>1) (fun _=>false) i:=fun i hi=>by
 unfold cellsOf zNl cF;rw[Array.getD_eq_getD_getElem?,List.getElem?_toArray];by_cases h0:i=0
 ·simp_all
 ·rw[if_neg h0];by_cases h1:i=1
  ·simp_all
  ·rw[if_neg h1];have h:∀ k,k<32->((List.replicate 16 [Value.int .i64 0,Value.bool false]).flatten)[k]? =some (if k%2=0 then Value.int .i64 0 else .bool false):=fun k hk=>match k,hk with
    | 0,_=>rfl
    | 1,_=>rfl
    | 2,_=>rfl
    | 3,_=>rfl
    | 4,_=>rfl
    | 5,_=>rfl
    | 6,_=>rfl
    | 7,_=>rfl
    | 8,_=>rfl
    | 9,_=>rfl
    | 10,_=>rfl
    | 11,_=>rfl
    | 12,_=>rfl
    | 13,_=>rfl
    | 14,_=>rfl
    | 15,_=>rfl
    | 16,_=>rfl
    | 17,_=>rfl
    | 18,_=>rfl
    | 19,_=>rfl
    | 20,_=>rfl
    | 21,_=>rfl
    | 22,_=>rfl
    | 23,_=>rfl
    | 24,_=>rfl
    | 25,_=>rfl
    | 26,_=>rfl
    | 27,_=>rfl
    | 28,_=>rfl
    | 29,_=>rfl
    | 30,_=>rfl
    | 31,_=>rfl
    | k+32,h=>absurd h og
   grind
theorem tV{kb:Nat}{p:Option Addr}{n c:Nat}{f f':Int->Int}{o o':Int->Bool}(h:∀ i:Int,0<=i->i<16->f i=f' i/\o i=o' i):cF kb p n c f o=cF kb p n c f' o':=by
 grind [cF]
def frI(i:Int):Int->Int:=fun j=>if 0<=j/\j<i then 0 else 1
theorem Xc(h:0<=i):ad (frI i) i (-1+1)=frI (i+1):=by
 grind [ad,frI]
theorem Xd:aj MS.nil.az=[]:=dk
theorem VB.lV{v:VB}(h:(v.bb.take 0).2.1=0):v.take=((v.bb.take 0).1,0,⟨(v.bb.take 0).2.2,Dg v.ja (v.bb.take 0).1 fun _=>0,ad v.rf (v.bb.take 0).1 1⟩):=by grind [VB.take]
theorem mf{v:VB}(h:¬(v.bb.take 0).2.1=0):v.take=(0,(v.bb.take 0).2.1,v):=by grind [VB.take]
def oC{v:VB}(hv:v.Ok)(h:v.take.2.1=0):0<=v.take.1/\v.take.1<64:=by
 by_cases c:(v.bb.take 0).2.1=0
 ·rw[VB.lV c];exact(hv.bb.ED c).2.1
 grind [mf]
theorem VB.Ok.take{v:VB}(hv:v.Ok):v.take.2.2.Ok:=by
 by_cases c:(v.bb.take 0).2.1=0
 ·rw[VB.lV c];refine⟨hv.bb.take 0,fun f=> ?_,fun f j=> ?_⟩
  ·show 0<=ad v.rf _ 1 f/\ad v.rf _ 1 f<=100000;unfold ad;split
   ·omega
   ·exact hv.rf f
  ·show 0<=Dg v.ja (v.bb.take 0).1 (fun _=>0) f j/\Dg v.ja (v.bb.take 0).1 (fun _=>0) f j<256;unfold Dg;split
   ·simp
   ·exact hv.ja f j
 grind [mf]
theorem VB.Ok.drop{v:VB}(hv:v.Ok){f:Int}(h:1<=v.rf f):(v.drop f).Ok:=by
 have hr:∀ g,0<=ad v.rf f (v.rf f-1) g/\ad v.rf f (v.rf f-1) g<=100000:=fun g=>by
  unfold ad;split
  ·have:=hv.rf f;omega
  ·exact hv.rf g
 unfold VB.drop;split
 ·exact⟨hv.bb.qf f,hr,hv.ja⟩
 ·exact⟨hv.bb,hr,hv.ja⟩
theorem EF(v:VB)(f:Int):(v.drop f).rf=ad v.rf f (v.rf f-1)/\(v.drop f).ja=v.ja:=by grind [VB.drop]
theorem wX{v:VB}{f:Int}(h:v.rf f-1=0):v.drop f=⟨(v.bb.qf f).2,v.ja,ad v.rf f (v.rf f-1)⟩:=by grind [VB.drop]
theorem wY{v:VB}{f:Int}(h:¬v.rf f-1=0):v.drop f=⟨v.bb,v.ja,ad v.rf f (v.rf f-1)⟩:=by grind [VB.drop]
def RG.Xe(r:RG)(i:Int):Bool:=decide (r.fr<=i)&&decide (i<r.fr+r.n)
theorem CO(r:RG)(i:Int):r.Xe i=true↔r.has i:=by unfold RG.Xe RG.has;simp
def pgA(fr:Int->Int)(aU:Int->Bool):Array Value:=((List.range 32).map fun (j:Nat)=>if j%2=0 then Value.int .i64 (fr ((j/2:Nat):Int)-1)else .bool (aU ((j/2:Nat):Int))).toArray
def OA(kb:Nat)(p:Option Addr)(n c:Nat)(fr:Int->Int)(aU:Int->Bool):0+2+32<=34/\dB (cF kb p n c fr aU) (0+2) 32= .agg (pgA fr aU):=by
 refine⟨og,?_⟩;rfl
def afn{fr:Int->Int}{aU:Int->Bool}{z:Int}(h:0<=z/\z<16):(pgA fr aU).extract (z.toNat*2) (z.toNat*2+2)= #[iI (fr z-1),.bool (aU z)]:=by
 have hs:(pgA fr aU).size=32:=by simp[pgA]
 apply Array.ext
 ·grind
 ·intro i h1 h2;have h3:i=0\/i=1:=by simp at h2;omega
  rw[Array.getElem_extract];rcases h3 with rfl | rfl
  ·simp only[pgA,List.getElem_toArray,List.getElem_map,List.getElem_range,Nat.add_zero];grind
  ·simp only[pgA,List.getElem_toArray,List.getElem_map,List.getElem_range];grind
def Tx{l:List RG} :(cE (fG l) (l.length*3)).all one=true:=by
 rw[List.all_eq_true];intro v hv;simp only[cE,List.mem_map,List.mem_range]at hv;obtain⟨j,hj,rfl⟩:=hv;unfold fG RG.cell;grind [one]
def Vf(f:Int)(w:Bool)(i:Nat):Value:=if i=0 then iI f else if i=1 then .bool w else undef
theorem Vf.f(f:Int)(w:Bool):0+0<2/\Vf f w (0+0)=iI f:=⟨og,rfl⟩
theorem Vf.box(f:Int)(w:Bool):∀ i,i<2->cellsOf #[iI f,.bool w] i=Vf f w i:=fun i h=>by
 match i,h with
 | 0,_=>rfl
 | 1,_=>rfl
 | k+2,h=>omega
theorem Vf.st(f g:Int)(w u:Bool):0+2<=2/\cY (Vf g u) 0 [iI f,.bool w]=Vf f w:=⟨og,by
 funext i
 match i with
 | 0=>rfl
 | 1=>rfl
 | k+2=>simp[cY,ep,Vf]⟩
def Ty{l:List RG}(h:GL l):∀ r∈l,0<=r.fr/\r.fr<=16:=fun r hr=>by have:=h.b r hr;omega
section
variable{P:Program}{n:Fr}{Q:Exit->Act->World->Prop}{L:PF}{ops:Md}{rest:List Oper}{ty:TypeId}{pos:String}{af:Array Edge}{d:Nat}{W:World}{S:Nat->Nat->Prop}{H H':List aG}
def jO{t e:TypeId}{x y:Operand}{p:Option Addr}{cap c b:Nat}{jM:List RG}{r:RG}(hx:ev L x=some (.slice p jM.length cap))(hy:ev L y=some (.slice (some ⟨b,0,none⟩) 1 c))(ht:P.underlying t=some (.slice e))(hr:sZ P e 3=true)(hH:ox H (aN p cap e 3 jM.length (fG jM)) H')(hN:lR H (.cells b 0 3 (cellsOf r.c9)))(hk:jM.length+1<=100000000000)(hd:Nat.blt d n.sz=true)(h:∀ p' dv,XO P n ops Q rest ((d,.slice p' (jM++[r]).length dv)::L) (XM W S (aN p' dv e 3 (jM++[r]).length (fG (jM++[r]))::H'))):XO P n ops Q (⟨some d,.call ⟨.builtin .append,#[x,y],#[t,t]⟩,ty,pos,af,none⟩::rest) L (XM W S H):=
 yq (C2:=fG (jM++[r])) hx hy ht hr hH hN rfl rfl og hk (fG.app jM r _ (fun i hi=>by
  match i,hi with
  | 0,_=>rfl
  | 1,_=>rfl
  | 2,_=>rfl
  | k+3,hi=>omega)) hd (fun p' dv=>by
  have e1:jM.length+1=(jM++[r]).length:=sq
  rw[e1]
  exact h p' dv)
end
def Xf{l:List RG}{m:Nat}(hm:m=l.length){z:Int}(h:0<=z/\z<m):0+z.toNat*3+3<=m*3/\dB (fG l) (0+z.toNat*3) 3= .agg (bG l z).c9:=by
 subst hm;exact fG.agg h
def Q6(a n:Int)(r:RG):(nq a n r).length<=2:=by
 grind [nq]
theorem wZ(l:List RG)(r:RG):mg (l++[r])=Gf (mg l) r:=by grind [mg]
def Xg:∀ (k:Nat) (l:List RG),l.length=k->(mg l).length<=k
 | 0,l,h=>by rw[List.length_eq_zero_iff]at h;subst h;simp[mg]
 | k+1,l,h=>by
  obtain⟨l',x,rfl⟩:=wV (l:=l) og;rw[wZ];have h1:=QZ (mg l') x;have h2:=Xg k l' (by simp at h;exact h);omega
def aiD:∀ (k:Nat) (l:List RG),l.length=k->(∀ r∈l,0<=r.fr/\0<r.n/\r.fr+r.n<=16)->∀ r∈mg l,0<=r.fr/\0<r.n/\r.fr+r.n<=16
 | 0,l,h,_=>by rw[List.length_eq_zero_iff]at h;subst h;intro r hr;simp[mg]at hr
 | k+1,l,h,hb=>by
  obtain⟨l',x,rfl⟩:=wV (l:=l) og;have ih:=aiD k l' (by simp at h;exact h) fun r hr=>hb r (by simp[hr]);have hx:=hb x sq;rw[wZ];intro r hr;rcases Nat.eq_zero_or_pos (mg l').length with q | q;all_goals grind [QX,wV,L9]
theorem sC{l:List RG}(h:0<=i/\i<l.length):l.take (i+1).toNat=l.take i.toNat++[bG l i]:=by
 rw[show(i+1).toNat=i.toNat+1 from og,List.take_add_one,abn h];rfl
theorem w6{β:Type}(f:RG->List β){l:List RG}(h:0<=i/\i<l.length):(l.take (i+1).toNat).flatMap f=(l.take i.toNat).flatMap f++f (bG l i):=by
 grind [sC]
def afo{n:Int}{r:RG}(h:¬min (r.fr+r.n) (a+n)<=max r.fr a):nq a n r=(if r.fr<max r.fr a then [⟨r.fr,max r.fr a-r.fr,r.w⟩]else [])++(if min (r.fr+r.n) (a+n)<r.fr+r.n then [⟨min (r.fr+r.n) (a+n),r.fr+r.n-min (r.fr+r.n) (a+n),r.w⟩]else []):=by grind [nq]
def abr{n:Int}{r:RG}(h:min (r.fr+r.n) (a+n)<=max r.fr a):nq a n r=[r]/\wW a n r=[]:=by
 unfold nq wW;rw[if_pos h,show(min (r.fr+r.n) (a+n)-max r.fr a).toNat=0 from og];exact⟨rfl,rfl⟩
theorem OB(a:Int)(h:0<=k):kj a (k+1).toNat=kj a k.toNat++[a+k]:=by
 rw[show(k+1).toNat=k.toNat+1 from og,kj,show((k.toNat:Nat):Int)=k from og]
theorem EG(v:VB)(fr:Int->Int)(l:List Int)(i:Int):vD v fr (l++[i])=Z1 fr (vD v fr l) i:=by grind [vD]
def Tz{l:List Int}(h:0<l.length):∃ l' i,l=l'++[i]:=⟨l.dropLast,l.getLast (by intro e;rw[e]at h;simp at h),(List.dropLast_concat_getLast _).symm⟩
def Xh{v:VB}{m:MS}(hv:v.Ok)(hm:m.Ok)(hi:m.In v):∀ (k:Nat) (l:List Int),l.length=k->l.Nodup->(vD v m.fr l).2.Ok/\(0<=(vD v m.fr l).1/\(vD v m.fr l).1<=k)/\∀ g,(∀ i∈l,m.fr i≠g+1)->(vD v m.fr l).2.rf g=v.rf g
 | 0,l,h,_=>by rw[List.length_eq_zero_iff]at h;subst h;exact⟨hv,by simp[vD],fun _ _=>rfl⟩
 | k+1,l,h,hn=>by
  obtain⟨l',i,rfl⟩:=Tz (l:=l) og;rw[List.nodup_append]at hn;obtain⟨i1,i2,i3⟩:=Xh hv hm hi k l' (by simp at h;exact h) hn.1;rw[EG];unfold Z1;split
  ·rename_i c;have e:(vD v m.fr l').2.rf (m.fr i-1)=v.rf (m.fr i-1):=i3 _ (fun j hj q=>by
    have:=hm.inj i j c og
    subst this
    exact hn.2.2 i hj i sq rfl)
   refine⟨i1.drop (by rw[e];exact hi i c),⟨by show 0<=(vD v m.fr l').1+1;omega,by show(vD v m.fr l').1+1<=_;omega⟩,fun g hg=> ?_⟩;show((vD v m.fr l').2.drop (m.fr i-1)).rf g=_;rw[(EF _ _).1,ae _ _ (by have:=hg i sq;omega)];exact i3 g fun j hj=>hg j (by simp[hj])
  ·exact⟨i1,⟨i2.1,og⟩,fun g hg=>i3 g fun j hj=>hg j (by simp[hj])⟩
def px(f:Int->Int)(l:List Int):Int->Int:=fun i=>if i∈l then 0 else f i
def eZ(f:Int->Bool)(l:List Int):Int->Bool:=fun i=>if i∈l then false else f i
theorem TA(f:Int->Int)(l:List Int)(i:Int):px f (l++[i])=ad (px f l) i (-1+1):=by
 grind [px,ad]
theorem TC(f:Int->Bool)(l:List Int)(i:Int):eZ f (l++[i])=ad (eZ f l) i false:=by
 grind [eZ,ad]
theorem TE{f:Int->Int}{l:List Int}(h:f i=0):px f (l++[i])=px f l:=by
 grind [px]
theorem TF{f:Int->Bool}{l:List Int}(h:f i=false):eZ f (l++[i])=eZ f l:=by
 grind [eZ]
def adK{l:List Int}(h:0<=i/\i<l.length):l.take (i+1).toNat=l.take i.toNat++[jK l i]:=by
 rw[show(i+1).toNat=i.toNat+1 from og,List.take_add_one];grind [jK]
def tE{l:List Int}(h:0<=i/\i<l.length):jK l i∈l:=by
 grind [jK]
def abt{l:List Int}(hs:l.Pairwise fun x y=>x<y)(h:0<=i/\i<l.length):jK l i∉l.take i.toNat:=by
 grind [List.mem_iff_getElem,List.pairwise_iff_getElem,jK]
theorem Xi{l:List Int}(hs:l.Pairwise fun x y=>x<y):l.Nodup:=hs.imp fun h e=>og
def OC{l:List Int}(hs:l.Pairwise fun x y=>x<y)(k:Nat):(l.take k).Nodup:=by grind [Xi]
theorem MS.Ok.dM{v:VB}{m:MS}(h:m.Ok)(a n:Int):(m.dM v a n).2.2.2.Ok:=by
 unfold MS.dM;split
 ·omega
 ·rename_i hb;refine⟨h.f.fR hb (.inl rfl),fun i=> ?_,fun i hi=> ?_,fun i hi=> ?_,fun i j hi KS=> ?_⟩
  ·show 0<=fR m.fr a n 0 i/\fR m.fr a n 0 i<=64;unfold fR;split
   ·omega
   ·exact h.lo i
  ·grind [fR,MS.Ok.un]
  all_goals grind [fR,MS.Ok.ow,MS.Ok.inj]
end Go.X.Vm

namespace Go.X.Gr
open Go Go.X
variable{a n:Int}{s:TG}
theorem ck{f g:Int->Int} :∀ (k:Nat),(∀ j:Int,0<=j->j<k->f j=g j)->bU f k=bU g k
 | 0,_=>rfl
 | k+1,h=>by
  simp only[bU];rw[ck k fun j h0 h1=>h j h0 og,h (k:Int) og og]
theorem lL(f g:Int->Int):∀ (k:Nat),bU (fun j=>f j+g j) k=bU f k+bU g k
 | 0=>rfl
 | k+1=>by simp only[bU];rw[lL f g k];omega
theorem z8(p:Int)(f:Int->Int):∀ (k:Nat),bU (fun j=>p*f j) k=p*bU f k
 | 0=>by simp[bU]
 | k+1=>by simp only[bU];rw[z8 p f k,Int.mul_add]
theorem dx{f:Int->Int} :∀ (k:Nat),(∀ j:Int,0<=j->j<k->f j=0)->bU f k=0
 | 0,_=>rfl
 | k+1,h=>by
  simp only[bU];rw[dx k fun j h0 h1=>h j h0 og,h (k:Int) og og];rfl
def Aa{f:Int->Int} :∀ (k:Nat),(∀ j:Int,0<=j->j<k->0<=f j)->0<=bU f k
 | 0,_=>Int.le_refl 0
 | k+1,h=>by
  have h1:=Aa k fun j h0 h1=>h j h0 og;grind [bU]
theorem mA(v n:Int)(h0:0<=n):∀ (k:Nat),bU (fun j=>if j=n then v else 0) k=if n<k then v else 0
 | 0=>by simp only[bU];rw[if_neg og]
 | k+1=>by
  simp only[bU];rw[mA v n h0 k];by_cases h:(k:Int)=n
  ·rw[if_neg og,if_pos h,if_pos og];omega
  ·rw[if_neg h];by_cases h2:n<k
   ·rw[if_pos h2,if_pos og];omega
   ·rw[if_neg h2,if_neg og];omega
namespace TG
theorem Ok.Ab(h:s.Ok)(h0:0<=n)(h1:n<10)(h2:s.aa n=true)(h3:n≠0):0<=s.aA n/\s.aA n<10/\s.aa (s.aA n)=true:=by
 grind [Ok.vy]
structure Inv(s:TG):Prop where
 ok:s.Ok
 aU:∀ n,0<=n->n<10->s.aa n=true->0<=s.left s.pr n/\0<=s.left s.pg n
def adL(h:s.Ok){f:Int->Int}(ho:∀ n,0<=n->n<10->s.aa n=true->0<=s.left f n)(h0:0<=n)(h1:n<10)(h2:s.aa n=true):0<=f n:=by
 obtain⟨d,d0,hd⟩:=h.vy;have iZ:∀ (k:Nat) (n:Int),0<=n->n<10->s.aa n=true->4-d n<=k->0<=f n:=by
  intro k;induction k with
  | zero=>
   intro n h0 h1 h2 hk;have h3:=ho n h0 h1 h2;unfold left at h3;rw[dx 10 (fun j j0 j1=>by
    unfold gK
    refine if_neg fun q=> ?_
    have h4:=hd j j0 og q.1
    have h5:=hd n h0 h1 h2
    by_cases hj:j=0
    ·subst hj
     have:=h.pq.2
     rw[q.2]at this;omega
    ·have:=(h4.2.2 hj).2.2.2
     rw[q.2]at this;omega)]at h3
   omega
  | succ k ih=>
   intro n h0 h1 h2 hk;have h3:=ho n h0 h1 h2;unfold left at h3;have h6:=Aa (f:=s.gK f n) 10 (fun j j0 j1=>by
    unfold gK
    split
    ·rename_i q
     have h4:=hd j j0 og q.1
     refine ih j j0 og q.1 ?_
     by_cases hj:j=0
     ·subst hj
      have:=h.pq.2
      rw[q.2]at this;omega
     ·have:=(h4.2.2 hj).2.2.2
      rw[q.2]at this;omega
    ·omega)
   omega
 exact iZ 4 n h0 h1 h2 og
def Inv.nn(h:s.Inv)(h0:0<=n)(h1:n<10)(h2:s.aa n=true):0<=s.pr n/\0<=s.pg n:=
 ⟨adL h.ok (fun n a b c=>(h.aU n a b c).1) h0 h1 h2,adL h.ok (fun n a b c=>(h.aU n a b c).2) h0 h1 h2⟩
def HO{s:TG} :∀ (l:List Int) (n x:Int),mU s.aA n l->(∀ y∈l,s.aa y=true)->0<=x->
  (l.count x:Int)-bU (fun k=>if s.aa k=true/\s.aA k=x then(l.count k:Int)else 0) 10=if x=n then 1 else 0
 | [],n,x,hw,_,hx=>by
  have hn:n<0:=hw;rw[dx 10 fun j _ _=>sq];grind
 | y::r,n,x,hw,hh,hx=>by
  obtain⟨e1,h0,h1,h2⟩:=hw;subst e1;have ih:=HO r (s.aA y) x h2 (fun z hz=>hh z (List.mem_cons_of_mem _ hz)) hx;have hy:=hh y sq;have e2:bU (fun k=>if s.aa k=true/\s.aA k=x then((y::r).count k:Int)else 0) 10=bU (fun k=>if s.aa k=true/\s.aA k=x then(r.count k:Int)else 0) 10+bU (fun k=>if k=y then(if s.aA y=x then 1 else 0)else 0) 10:=by
   rw[<-lL];grind
  rw[e2,mA _ _ h0,if_pos og];grind
def Ac(h:s.Ok)(h0:0<=n)(h1:n<10)(h2:s.aa n=true)(f:Int->Int)(p:Int){x:Int}(hx:0<=x):s.left (fun y=>f y+p*((s.cU n).count y:Int)) x=s.left f x+if x=n then p else 0:=by
 obtain⟨w1,_,w3⟩:=h.cU h0 h1 h2;have hc:=HO (s:=s) (s.cU n) n x w1 w3 hx;unfold left;have e:bU (s.gK (fun y=>f y+p*((s.cU n).count y:Int)) x) 10=bU (s.gK f x) 10+p*bU (fun k=>if s.aa k=true/\s.aA k=x then((s.cU n).count k:Int)else 0) 10:=by
  rw[<-z8,<-lL];refine ck 10 fun j _ _=> ?_;grind [gK]
 grind
theorem Inv.lay{s:TG}(h:s.Inv){n:Int}(h0:0<=n)(h1:n<10)(h2:s.aa n=true){p m:Int}(hp:0<=s.left s.pr n+p)(hm:0<=s.left s.pg n+m):(s.lay (s.cU n) p m).Inv:=by
 refine⟨h.ok.lay _ _ _,fun x x0 x1 x2=> ?_⟩;have a:=Ac h.ok h0 h1 h2 s.pr p x0;have b:=Ac h.ok h0 h1 h2 s.pg m x0;have c:=h.aU x x0 x1 x2;have a2:(s.lay (s.cU n) p m).left (s.lay (s.cU n) p m).pr x=s.left s.pr x+if x=n then p else 0:=a
 have b2:(s.lay (s.cU n) p m).left (s.lay (s.cU n) p m).pg x=s.left s.pg x+if x=n then m else 0:=b
 rw[a2,b2];by_cases hx:x=n
 ·subst hx;rw[if_pos rfl,if_pos rfl];exact⟨hp,hm⟩
 ·rw[if_neg hx,if_neg hx];omega
def Inv.bI{s:TG}(h:s.Inv)(n p m:Int):(s.bI n p m).Inv:=by
 unfold TG.bI;split
 ·rename_i h0;obtain⟨⟨n0,n1,n2⟩,p0,p1,m0,m1⟩:=wT h0;have:=h.aU n n0 n1 n2;exact h.lay n0 n1 n2 og og
 ·exact h
def OD{p m:Int}(h:s.gD n p m=0):p<=s.left s.pr n/\m<=s.left s.pg n:=by
 grind [gD]
theorem Inv.eb{s:TG}(h:s.Inv)(n p m:Int):(s.eb n p m).Inv:=by
 unfold TG.eb;split
 ·rename_i h0;obtain⟨⟨n0,n1,n2⟩,p0,p1,m0,m1⟩:=zN h0;have:=OD h0;exact h.lay n0 n1 n2 og og
 ·exact h
def Inv.move{s:TG}(h:s.Inv)(a b p m:Int):(s.move a b p m).Inv:=by
 unfold TG.move;split
 ·exact h
 ·split
  ·exact(h.eb _ _ _).bI _ _ _
  ·exact h
def Inv.ki{s:TG}(h:s.Inv)(n p m:Int):(s.ki n p m).Inv:=by
 unfold TG.ki;split
 ·exact⟨⟨h.ok.pq,h.ok.vy⟩,h.aU⟩
 ·exact h
def OE(h:s.vx a=0):s.cQ a=0/\¬(s.cU a).length=4/\0<=s.kI a/\s.kI a<10/\s.aa (s.kI a)=false/\s.free=some (s.kI a).toNat:=by
 have h':=h;unfold vx at h;split at h
 ·omega
 ·split at h
  ·omega
  ·split at h
   ·omega
   ·rename_i h1 h2 h3;cases hf:s.free with
    | none=>exact absurd hf h3
    | some k=>
     have e:s.kI a=(k:Int):=by unfold kI;rw[if_pos h',hf];rfl
     have Va:=hf;unfold free dW at Va;rw[List.find?_range_eq_some]at Va;have hk:k<10:=by simpa using Va.2.1
     have hh:s.aa (k:Int)=false:=by simpa using Va.1
     rw[e];exact⟨og,h2,og,og,hh,sq⟩
theorem Ok.len(h:s.Ok){d:Int->Nat}(d0:d 0=1)(hd:∀ n,0<=n->n<10->s.aa n=true->1<=d n/\d n<=4/\(n≠0->0<=s.aA n/\s.aA n<10/\s.aa (s.aA n)=true/\d n=d (s.aA n)+1))(h0:0<=n)(h1:n<10)(h2:s.aa n=true):(s.cU n).length=d n:=
 (h.WJ 5 (d n) (by have:=(hd n h0 h1 h2).2.1;omega) d d0 hd n h0 h1 h2 rfl).2.1
theorem Ok.put{s:TG}(h:s.Ok){a k:Int}(ha:s.cQ a=0)(hl:¬(s.cU a).length=4)(k0:0<=k)(k1:k<10)(hk:s.aa k=false):(s.put k a).Ok:=by
 obtain⟨a0,a1,a2⟩:=ky ha;obtain⟨d,d0,hd⟩:=h.vy;have hlen:=h.len d0 hd a0 a1 a2;have hda:=hd a a0 a1 a2;have hk0:k≠0:=fun e=>by subst e;rw[h.pq.1]at hk;cases hk
 have hka:a≠k:=fun e=>by subst e;rw[a2]at hk;cases hk
 refine⟨⟨?_,?_⟩,fun x=>if x=k then d a+1 else d x,?_,fun n n0 n1 n2=> ?_⟩
 ·show ad s.aa k true 0=true;grind [ae]
 ·show ad s.aA k a 0= -1;grind [ae,Ok.pq]
 ·grind
 ·have e1:(s.put k a).aA n=ad s.aA k a n:=rfl;have e2:∀ x,(s.put k a).aa x=ad s.aa k true x:=fun _=>rfl;grind [ah,ae]
theorem Ad(h:s.Ok){k:Int}(hk:s.aa k=false)(f:Int->Int){x:Int}(hx:s.aa x=true):(s.put k a).left (ad f k 0) x=s.left f x:=by
 have hxk:x≠k:=fun e=>by subst e;rw[hx]at hk;cases hk
 unfold left;rw[ae _ _ hxk];congr 1;refine ck 10 fun j j0 j1=> ?_;unfold gK;show(if ad s.aa k true j=true/\ad s.aA k a j=x then ad f k 0 j else 0)=_;grind [ad]
theorem Ae(h:s.Ok){k:Int}(hk:s.aa k=false)(hk0:0<=k)(hka:a≠k)(f:Int->Int):(s.put k a).left (ad f k 0) k=0:=by
 unfold left;rw[ah,dx]
 ·rfl
 ·intro j j0 j1;unfold gK;show(if ad s.aa k true j=true/\ad s.aA k a j=k then ad f k 0 j else 0)=0;grind [Ok.pq,Ok.Ab,ad]
theorem Inv.add{s:TG}(h:s.Inv)(a:Int):(s.add a).Inv:=by
 unfold TG.add;split
 ·rename_i h0;obtain⟨e1,e2,e3,e4,e5,_⟩:=OE h0;have uX:=h.ok.put e1 e2 e3 e4 e5;refine⟨uX,fun x x0 x1 x2=> ?_⟩;show 0<=(s.put (s.kI a) a).left (ad s.pr (s.kI a) 0) x/\0<=(s.put (s.kI a) a).left (ad s.pg (s.kI a) 0) x;by_cases hx:x=s.kI a
  ·have ha:a≠s.kI a:=fun e=>by
    have:=(ky e1).2.2;rw[e,e5]at this;cases this
   rw[hx,Ae h.ok e5 e3 ha,Ae h.ok e5 e3 ha];omega
  ·have yp:s.aa x=true:=by
    have:(s.put (s.kI a) a).aa x=ad s.aa (s.kI a) true x:=rfl;rw[this,ae _ _ hx]at x2;exact x2
   rw[Ad h.ok e5 _ yp,Ad h.ok e5 _ yp];exact h.aU x x0 x1 yp
 ·exact h
def BL(h:s.dP n=0):s.cQ n=0/\n≠0/\¬ 0<s.pr n/\¬ 0<s.pg n/\s.Jl n=false:=by
 grind [dP]
theorem Xj(h:s.Jl n=false){j:Int}(j0:0<=j)(j1:j<10)(j2:s.aa j=true):s.aA j≠n:=fun e=>by
 grind [QV]
theorem Ok.drop{t:TG}(h:s.Ok)(hn:n≠0)(hk:s.Jl n=false)(hh:t.aa=ad s.aa n false)(hp:∀ x,x≠n->t.aA x=s.aA x):t.Ok:=by
 obtain⟨d,d0,hd⟩:=h.vy;refine⟨⟨by rw[hh,ae _ _ (Ne.symm hn)];exact h.pq.1,by rw[hp 0 (Ne.symm hn)];exact h.pq.2⟩,d,d0,fun x x0 x1 x2=> ?_⟩;have hx:x≠n:=fun e=>by subst e;rw[hh,ah]at x2;cases x2
 rw[hh,ae _ _ hx]at x2;have h4:=hd x x0 x1 x2;rw[hp x hx];refine⟨h4.1,h4.2.1,fun q=> ?_⟩;obtain⟨p0,p1,p2,p3⟩:=h4.2.2 q;refine⟨p0,p1,?_,p3⟩;rw[hh,ae _ _ (Xj hk x0 x1 x2)];exact p2
def Inv.eh{s:TG}(h:s.Inv)(n:Int):(s.eh n).Inv:=by
 unfold TG.eh;split
 ·rename_i h0;obtain⟨e1,e2,e3,e4,e5⟩:=BL h0;obtain⟨n0,n1,n2⟩:=ky e1;have hnn:=h.nn n0 n1 n2;refine⟨h.ok.drop (t:=s.yF n) e2 e5 rfl fun x hx=>ae _ _ hx,fun x x0 x1 x2=> ?_⟩;have hx:x≠n:=fun e=>by
   subst e;have:(s.yF x).aa x=ad s.aa x false x:=rfl;rw[this,ah]at x2;cases x2
  have x3:s.aa x=true:=by
   have:(s.yF n).aa x=ad s.aa n false x:=rfl;rw[this,ae _ _ hx]at x2;exact x2
  have iZ:∀ f:Int->Int,f n=0->(s.yF n).left (ad f n 0) x=s.left f x:=fun f hf=>by
   unfold left;rw[ae _ _ hx];congr 1;refine ck 10 fun j j0 j1=> ?_;unfold gK;show(if ad s.aa n false j=true/\ad s.aA n 0 j=x then ad f n 0 j else 0)=_;by_cases hj:j=n
   ·subst hj;rw[ah];simp[hf]
   ·rw[ae _ _ hj,ae _ _ hj,ae _ _ hj]
  have h9:=h.aU x x0 x1 x3;show 0<=(s.yF n).left (ad s.pr n 0) x/\0<=(s.yF n).left (ad s.pg n 0) x;rw[iZ _ og,iZ _ og];exact h9
 ·exact h
theorem BM(n:Int):TG.cR.aa n=decide (n=0):=by
 rfl
theorem Inv.cR:TG.cR.Inv:=by
 have hh:∀ n:Int,TG.cR.aa n=true->n=0:=fun n h=>by rw[BM]at h;simpa using h
 refine⟨⟨⟨by rw[BM];rfl,rfl⟩,fun _=>1,rfl,fun n n0 n1 n2=> ?_⟩,fun n n0 n1 n2=> ?_⟩
 ·grind
 ·have:=hh n n2;subst this;decide+kernel
theorem cb.cR:TG.cR.cb 0:=fun n h0 h1=>by
 have:n=0\/n=1\/n=2\/n=3\/n=4\/n=5\/n=6\/n=7\/n=8\/n=9:=og;rcases this with rfl | rfl | rfl | rfl | rfl | rfl | rfl | rfl | rfl | rfl<;>decide+kernel
theorem cb.add{s:TG}{B:Int}(h:s.cb B)(hB:0<=B)(a:Int):(s.add a).cb B:=by
 unfold TG.add;split
 ·intro n h0 h1;show-B<=ad s.pr _ 0 n/\ad s.pr _ 0 n<=B/\ -B<=ad s.pg _ 0 n/\ad s.pg _ 0 n<=B;grind [ad,cb]
 omega
def cb.eh{s:TG}{B:Int}(h:s.cb B)(hB:0<=B)(a:Int):(s.eh a).cb B:=by
 unfold TG.eh;split
 ·intro n h0 h1;show-B<=ad s.pr _ 0 n/\ad s.pr _ 0 n<=B/\ -B<=ad s.pg _ 0 n/\ad s.pg _ 0 n<=B;grind [ad,cb]
 omega
def cb.ki{s:TG}{B:Int}(h:s.cb B)(n p m:Int):(s.ki n p m).cb B:=by
 unfold TG.ki;split<;>exact h
def cb.move{s:TG}{B:Int}(h:s.cb B)(hO:s.Ok)(a b p m:Int):(s.move a b p m).cb (B+640):=by
 unfold TG.move;split
 ·grind [cb]
 ·split
  ·exact((h.eb hO a p m).bI hO.eb b p m).mono og
  grind [cb]
end TG
end Go.X.Gr

namespace Go.X.Kn
open Go Go.X Go.X.Sg Go.X.Vm
variable{i n z:Int}
structure PU where
 st:Int
 aA:Int
 cO:Int
 kJ:Int
 mem:Value
 fd:Int->Int
 bx:BS
structure KP where
 u:Int->PU
 gb:Nat
 sb:Nat
 qb:Nat
 bb:Nat
 tb:Nat
 pi:Nat
 ob:Nat
 ms:Int->Value
def PU.nil:PU:=⟨0,0,0,0,.pointer none,fun _=>0,BS.cR⟩
def PU.cell(u:PU)(j:Nat):Value:=
 if j=0 then iI u.st else if j=1 then iI u.aA else if j=2 then iI u.cO else if j=3 then iI u.kJ else
 if j=4 then u.mem else if j<11 then iI (u.fd ((j-5:Nat):Int))else Sg.fQ u.bx (j-11)
def aB(k:KP)(i:Nat):Value:=
 if i<440 then(k.u ((i/22:Nat):Int)).cell (i%22)else
 if i=440 then ay k.gb 0 0 else if i=441 then ay k.sb 0 0 else if i=442 then ay k.qb 0 0 else if i=443 then ay k.bb 0 0 else
 if i=444 then ay k.tb 0 0 else if i=445 then ay k.pi 0 0 else if i=446 then ay k.ob 0 0 else
 if i<453 then k.ms ((i-447:Nat):Int)else undef
abbrev dO(b0:Nat)(k:KP):aG:=.cells b0 0 453 (aB k)
def KP.put(k:KP)(n:Int)(u:PU):KP:= {k with u:=ad k.u n u}
theorem KP.uB(k:KP)(n:Int)(u:PU):(k.put n u).u n=u:=ah _ _ _
theorem KP.BN(k:KP){m:Int}(u:PU)(h:¬m=n):(k.put n u).u m=k.u m:=ae _ _ h
theorem KP.JB(k:KP)(n:Int)(u v:PU):(k.put n u).put n v=k.put n v:=by
 show({k with u:=ad (ad k.u n u) n v} :KP)= {k with u:=ad k.u n v};have e:ad (ad k.u n u) n v=ad k.u n v:=by
  grind [ah,ae]
 rw[e]
def CP(k:KP)(n:Int):k.put n (k.u n)=k:=by
 unfold KP.put;rw[da k.u rfl]
theorem aB.at_(k:KP)(h:0<=n/\n<20){j:Nat}(hj:j<22):aB k (0+0+n.toNat*22+j)=(k.u n).cell j:=by
 grind [aB]
def gY(k:KP)(h:0<=n/\n<20:=by omega):0+0+n.toNat*22+0<453/\aB k (0+0+n.toNat*22+0)=iI (k.u n).st:=⟨og,aB.at_ k h og⟩
def mY(k:KP)(h:0<=n/\n<20:=by omega):0+0+n.toNat*22+1<453/\aB k (0+0+n.toNat*22+1)=iI (k.u n).aA:=⟨og,aB.at_ k h og⟩
def dL(k:KP)(h:0<=n/\n<20:=by omega):0+0+n.toNat*22+2<453/\aB k (0+0+n.toNat*22+2)=iI (k.u n).cO:=⟨og,aB.at_ k h og⟩
def yb(k:KP)(h:0<=n/\n<20:=by omega):0+0+n.toNat*22+3<453/\aB k (0+0+n.toNat*22+3)=iI (k.u n).kJ:=⟨og,aB.at_ k h og⟩
def dQ(k:KP)(h:0<=n/\n<20){b:Nat}(e:(k.u n).mem=ay b 0 0):0+0+n.toNat*22+4<453/\aB k (0+0+n.toNat*22+4)=ay b 0 0:=⟨og,(aB.at_ k h og).trans e⟩
def vE(k:KP)(h:0<=n/\n<20:=by omega)(hi:0<=i/\i<6:=by omega):0+0+n.toNat*22+5+i.toNat*1<453/\aB k (0+0+n.toNat*22+5+i.toNat*1)=iI ((k.u n).fd i):=⟨og,by
 rw[show 0+0+n.toNat*22+5+i.toNat*1=0+0+n.toNat*22+(5+i.toNat)from og,aB.at_ k h og]
 unfold PU.cell
 rw[if_neg og,if_neg og,if_neg og,if_neg og,if_neg og,if_pos og,show((5+i.toNat-5:Nat):Int)=i from og]⟩
abbrev Vg(f:Int->Int):Array Value:=IZ f 6
def tW(k:KP)(h:0<=n/\n<20:=by omega):0+0+n.toNat*22+5+6<=453/\dB (aB k) (0+0+n.toNat*22+5) 6= .agg (Vg (k.u n).fd):=by
 refine⟨og,?_⟩;have e:=fun (j:Nat) (hj:j<6)=>aB.at_ k h (j:=5+j) og;unfold dB;simp only[List.range,List.range.loop,List.map_cons,List.map_nil,Nat.add_zero];rw[show 0+0+n.toNat*22+5=0+0+n.toNat*22+(5+0)from rfl,e 0 og];rw[show 0+0+n.toNat*22+(5+0)+1=0+0+n.toNat*22+(5+1)from rfl,e 1 og];rw[show 0+0+n.toNat*22+(5+0)+2=0+0+n.toNat*22+(5+2)from rfl,e 2 og];rw[show 0+0+n.toNat*22+(5+0)+3=0+0+n.toNat*22+(5+3)from rfl,e 3 og];rw[show 0+0+n.toNat*22+(5+0)+4=0+0+n.toNat*22+(5+4)from rfl,e 4 og];rw[show 0+0+n.toNat*22+(5+0)+5=0+0+n.toNat*22+(5+5)from rfl,e 5 og];rfl
def fa(k:KP):0+440<453/\aB k (0+440)=ay k.gb 0 0:=⟨og,rfl⟩
def aB.uS(k:KP):0+441<453/\aB k (0+441)=ay k.sb 0 0:=⟨og,rfl⟩
def fv(k:KP):0+442<453/\aB k (0+442)=ay k.qb 0 0:=⟨og,rfl⟩
def aB.zY(k:KP):0+443<453/\aB k (0+443)=ay k.bb 0 0:=⟨og,rfl⟩
def aB.BO(k:KP):0+444<453/\aB k (0+444)=ay k.tb 0 0:=⟨og,rfl⟩
def aB.Xk(k:KP):0+445<453/\aB k (0+445)=ay k.pi 0 0:=⟨og,rfl⟩
def gw(k:KP):0+446<453/\aB k (0+446)=ay k.ob 0 0:=⟨og,rfl⟩
def Mh(k:KP)(h:0<=z/\z<6):0+447+z.toNat*1<453/\aB k (0+447+z.toNat*1)=k.ms z:=by grind [aB]
def aB.Bl(k:KP)(h:0<=n/\n<20)(u:PU)(C:Nat->Value)(h1:∀ j,j<22->C (0+0+n.toNat*22+j)=u.cell j)(h2:∀ i,(i<n.toNat*22\/n.toNat*22+22<=i)->C i=aB k i):C=aB (k.put n u):=by
 funext i;by_cases c:n.toNat*22<=i/\i<n.toNat*22+22
 ·have e1:=h1 (i-n.toNat*22) og;have e2:=aB.at_ (k.put n u) h (j:=i-n.toNat*22) og;rw[show 0+0+n.toNat*22+(i-n.toNat*22)=i from og]at e1 e2;grind [KP.uB]
 ·rw[h2 i og];unfold aB;grind [KP.BN,KP.put]
def qi(k:KP)(h:0<=n/\n<20){j:Nat}(hj:j<22){v:Value}(u:PU)(hv:u.cell j=v)(ho:∀ i,i<22->¬i=j->u.cell i=(k.u n).cell i):ep (aB k) (0+0+n.toNat*22+j) v=aB (k.put n u):=by
 refine aB.Bl k h u _ (fun i hi=> ?_) fun i hi=> ?_;all_goals grind [ep,aB.at_]
def Mi(k:KP)(h:0<=n/\n<20)(v:Int):0+0+n.toNat*22+0<453/\ep (aB k) (0+0+n.toNat*22+0) (iI v)=aB (k.put n {k.u n with st:=v}):=
 ⟨og,qi k h og _ rfl fun i _ c=>by unfold PU.cell;rw[if_neg c,if_neg c]⟩
def Af(k:KP)(h:0<=n/\n<20)(v:Int):0+0+n.toNat*22+1<453/\ep (aB k) (0+0+n.toNat*22+1) (iI v)=aB (k.put n {k.u n with aA:=v}):=
 ⟨og,qi k h og _ rfl fun i _ c=>by unfold PU.cell;rw[if_neg (c:=i=1) c,if_neg (c:=i=1) c]⟩
def JC(k:KP)(h:0<=n/\n<20)(v:Int):0+0+n.toNat*22+2<453/\ep (aB k) (0+0+n.toNat*22+2) (iI v)=aB (k.put n {k.u n with cO:=v}):=
 ⟨og,qi k h og _ rfl fun i _ c=>by unfold PU.cell;rw[if_neg (c:=i=2) c,if_neg (c:=i=2) c]⟩
def GP(k:KP)(h:0<=n/\n<20)(v:Int):0+0+n.toNat*22+3<453/\ep (aB k) (0+0+n.toNat*22+3) (iI v)=aB (k.put n {k.u n with kJ:=v}):=
 ⟨og,qi k h og _ rfl fun i _ c=>by unfold PU.cell;rw[if_neg (c:=i=3) c,if_neg (c:=i=3) c]⟩
def mB(k:KP)(h:0<=n/\n<20)(hi:0<=i/\i<6)(v:Int):0+0+n.toNat*22+5+i.toNat*1<453/\ep (aB k) (0+0+n.toNat*22+5+i.toNat*1) (iI v)=aB (k.put n {k.u n with fd:=ad (k.u n).fd i v}):=by
 refine⟨og,?_⟩;rw[show 0+0+n.toNat*22+5+i.toNat*1=0+0+n.toNat*22+(5+i.toNat)from og];refine qi k h og _ ?_ fun j hj c=> ?_;all_goals grind [PU.cell,ah,ae]
theorem Dw:∀ (l:List Value) (C:Nat->Value) (i j:Nat),cY C i l j=if i<=j/\j<i+l.length then l.getD (j-i) undef else C j
 | [],C,i,j=>by rw[cY,if_neg (by simp only[List.length_nil];omega)]
 | v::r,C,i,j=>by
  rw[cY,Dw r];by_cases c:j=i
  ·subst c;rw[if_neg og,if_pos sq];unfold ep;rw[if_pos rfl];simp
  ·by_cases d:i+1<=j/\j<i+1+r.length
   ·rw[if_pos d,if_pos eI,show j-i=(j-(i+1))+1 from og];simp
   ·rw[if_neg d,if_neg eI];unfold ep;rw[if_neg c]
def PU.c9(u:PU):Array Value:=((List.range 22).map u.cell).toArray
def aB.EH(k:KP)(h:0<=n/\n<20)(u:PU):0+0+n.toNat*22+22<=453/\cY (aB k) (0+0+n.toNat*22) u.c9.toList=aB (k.put n u):=by
 refine⟨og,aB.Bl k h u _ (fun j hj=> ?_) fun i hi=> ?_⟩
 ·simp_all[Dw,PU.c9]
 ·rw[Dw,if_neg (by simp[PU.c9];omega)]
abbrev kK(n:Int):Nat:=0+0+n.toNat*22+11
def KP.box(k:KP)(n:Int)(b:BS):KP:=k.put n {k.u n with bx:=b}
theorem EI(k:KP)(h:0<=n/\n<20){i:Nat}(hi:i<11):aB k (kK n+i)=Sg.fQ (k.u n).bx i:=by
 grind [PU.cell,aB]
theorem TH(k:KP)(b:BS)(h:0<=n/\n<20){i:Nat}(hi:i<kK n\/kK n+11<=i):aB (k.box n b) i=aB k i:=by
 by_cases c:n.toNat*22<=i/\i<n.toNat*22+22
 ·grind [KP.box,KP.uB,PU.cell,aB]
 ·unfold aB;split
  ·grind [KP.box,KP.BN]
  rfl
section
variable{W w:World}{S:Nat->Nat->Prop}{H F:List aG}
def XM.Ds{b o n:Nat}{C C':Nat->Value}(hC:∀ i,i<n->C i=C' i)(h:XM W S (.cells b o n C::H) w):XM W S (.cells b o n C'::H) w:=Fa.XM.Ds hC h
def kX{b:Nat}{k:KP}(hn:0<=n/\n<20)(hp:cX H [dO b k] F)(h:XM W S H w):XM W S (.cells b (0+kK n) 11 (Sg.fQ (k.u n).bx):: .cells b 0 (kK n) (aB k):: .cells b (0+kK n+11) (453-kK n-11) (fun i=>aB k (kK n+11+i))::F) w:=by
 have Oc:kK n+11<=453:=by unfold kK;omega
 have h2:=XM.part (n:=453) (off:=kK n) (m:=11) Oc (h.cG hp.cG);exact XM.Ds (C':=Sg.fQ (k.u n).bx) (fun i hi=>EI k hn hi) h2
theorem nQ{b:Nat}{k:KP}{x:BS}(hn:0<=n/\n<20)(hp:cX H [Sg.f7 b (0+kK n) x,.cells b 0 (kK n) (aB k),.cells b (0+kK n+11) (453-kK n-11) fun i=>aB k (kK n+11+i)] F)(h:XM W S H w):XM W S (.cells b 0 453 (aB (k.box n x))::F) w:=by
 have Oc:kK n+11<=453:=by unfold kK;omega
 refine XM.Bf (n:=453) (off:=kK n) (m:=11) Oc (fun i hi=> ?_) (fun i hi=> ?_) (fun i hi=> ?_) (h.cG hp.cG) og;all_goals grind [TH,EI,KP.box,KP.uB]
theorem Mj(k:KP)(n:Int):k.box n (k.u n).bx=k:=CP k n
end
def KP.aF(k:KP)(n:Int):Int:=if n<0\/20<=n then 1 else if(k.u n).st=1 then 0 else 2
def bM{k:KP}(h:k.aF n=0):(0<=n/\n<20)/\(k.u n).st=1:=by
 grind [KP.aF]
theorem KP.tX{k:KP}(h:0<=n/\n<20)(e:(k.u n).st=1):k.aF n=0:=by grind [KP.aF]
def KP.GQ(k:KP)(s:Sp.SS)(n q:Int):Int×Int:=
 if k.aF n≠0 then(0,k.aF n)else if(s.find (s.bZ n).1 q).2≠0 then(0,(s.find (s.bZ n).1 q).2)else
 if(k.u (s.find (s.bZ n).1 q).1).st=1 then((s.find (s.bZ n).1 q).1,0)else(0,8)
def vF{s:Sp.SS}{aK:Int->Nat}(h:s.Inv aK){a q:Int}(e:(s.find a q).2=0):(0<=(s.find a q).1/\(s.find a q).1<20)/\s.b8 a q=(s.find a q).1/\(0<=a/\a<6/\s.aa a=true)/\1<=q/\q<=20:=by
 have hb:=h.ZZ a q;unfold Sp.SS.find at e ⊢;split at e
 ·omega
 ·rename_i c;have hi:(0<=a/\a<6)/\s.aa a=true:=by
   have c:s.is a=0:=og;unfold Sp.SS.is at c;grind
  grind
def bxA(b:BS):Array Value:= #[.int .u16 ((Sg.qz b.dc:Nat):Int),.int .u16 ((Sg.qz b.bu:Nat):Int),iI (b.kt 0),iI (b.kt 1),iI (b.kt 2),iI (b.kt 3),iI (b.kt 4),iI (b.kt 5),iI (b.kt 6),iI (b.kt 7),iI (b.kt 8)]
def Mk(k:KP)(h:0<=n/\n<20):0+0+n.toNat*22+11+11<=453/\dB (aB k) (0+0+n.toNat*22+11) 11= .agg (bxA (k.u n).bx):=by
 refine⟨og,?_⟩;have e:=(nM (k.u n).bx).2;grind [bxA,dB,List.map_congr_left,EI]
section
variable{W w:World}{S:Nat->Nat->Prop}{H F:List aG}
def oD{b:Nat}{k:KP}(hn:0<=n/\n<20)(hp:cX H [Sg.f7 b (0+kK n) (k.u n).bx,.cells b 0 (kK n) (aB k),.cells b (0+kK n+11) (453-kK n-11) fun i=>aB k (kK n+11+i)] F)(h:XM W S H w):XM W S (.cells b 0 453 (aB k)::F) w:=by
 grind [nQ,Mj]
end
theorem OF{s:Sp.SS}(h:(s.drop z).1≠0):(s.drop z).2=s:=by
 unfold Sp.SS.drop at h ⊢;grind
def KP.kY(k:KP)(n h i:Int):KP:= {k with u:=fun j=>if 0<=j/\j<i/\(k.u j).st≠0/\(k.u j).aA=n then {k.u j with aA:=h} else k.u j}
theorem yc(k:KP)(n h:Int):k.kY n h 0=k:=by
 have e:(fun j=>if 0<=j/\j<0/\(k.u j).st≠0/\(k.u j).aA=n then {k.u j with aA:=h} else k.u j)=k.u:=by
  grind
 simp_all[KP.kY]
theorem jP(k:KP)(n h:Int){j:Int}(hj:i<=j):(k.kY n h i).u j=k.u j:=by
 grind [KP.kY]
theorem KP.HP(k:KP)(n h:Int)(hi:0<=i)(h1:(k.u i).st≠0)(h2:(k.u i).aA=n):(k.kY n h i).put i {(k.kY n h i).u i with aA:=h} =k.kY n h (i+1):=by
 show({k with u:=ad (k.kY n h i).u i {(k.kY n h i).u i with aA:=h}} :KP)= {k with u:=(k.kY n h (i+1)).u};have e:ad (k.kY n h i).u i {(k.kY n h i).u i with aA:=h} =(k.kY n h (i+1)).u:=by
  grind [ah,ae,KP.kY]
 rw[e]
theorem oe(k:KP)(n h:Int)(hc:¬((k.u i).st≠0/\(k.u i).aA=n)):k.kY n h (i+1)=k.kY n h i:=by
 grind [KP.kY]
structure Xl(b:BS):Prop where
 z:b.dc 0=false
 e:b.first 0=0
 gK:(b.send 3).2=b
theorem Xl.cR:Xl BS.cR:=⟨rfl,dk,by unfold BS.send;rw[if_pos dq,if_pos dq]⟩
def bD{α:Type}(f:Nat->α)(z:Nat)(m:α):Nat->α:=fun j=>if j=z then m else f j
theorem ly{α:Type}(f:Nat->α)(z:Nat)(m:α):bD f z m z=m:=if_pos rfl
theorem iu{α:Type}(f:Nat->α){z j:Nat}(m:α)(h:j≠z):bD f z m j=f j:=if_neg h
theorem ku{α:Type}(f:Nat->α)(z:Nat):bD f z (f z)=f:=by
 grind [bD]
theorem TI(g:Nat->Nat)(z b:Nat):Lc g z b=bD g z b:=by
 grind [wE,td,bD]
abbrev cN(bb:Nat)(f:Nat->Vm.MS)(ps:Nat->Option Addr)(cs:Nat->Nat):Nat->Nat->Value:=fun j=>cF bb (ps j) (Vm.aj (f j).az).length (cs j) (f j).fr (f j).aU
abbrev rN(e:TypeId)(f:Nat->Vm.MS)(ps:Nat->Option Addr)(cs:Nat->Nat):Nat->re:=fun j=>⟨.slice (ps j) (Vm.aj (f j).az).length (cs j),e,3,(Vm.aj (f j).az).length,cE (fG (Vm.aj (f j).az)) ((Vm.aj (f j).az).length*3)⟩
theorem afp(bb:Nat)(f:Nat->Vm.MS)(ps:Nat->Option Addr)(cs:Nat->Nat)(z:Nat)(m:Vm.MS)(p:Option Addr)(c:Nat):Lb (cN bb f ps cs) z (cF bb p (Vm.aj m.az).length c m.fr m.aU)=cN bb (bD f z m) (bD ps z p) (bD cs z c):=by
 grind [I3,I4,bD]
theorem afq(e:TypeId)(f:Nat->Vm.MS)(ps:Nat->Option Addr)(cs:Nat->Nat)(z:Nat)(m:Vm.MS)(p:Option Addr)(c:Nat):Da (rN e f ps cs) z ⟨.slice p (Vm.aj m.az).length c,e,3,(Vm.aj m.az).length,cE (fG (Vm.aj m.az)) ((Vm.aj m.az).length*3)⟩=rN e (bD f z m) (bD ps z p) (bD cs z c):=by
 grind [n9,mO,bD]
theorem Xm(p:Option Addr)(c:Nat)(e:TypeId)(k:Nat)(C:Nat->Value):aN p c e 3 k C=re.D3 ⟨.slice p k c,e,3,k,cE C (k*3)⟩:=rfl
abbrev Ml(P:Nat->Bool)(bb:Nat)(e:TypeId)(mb:Nat->Nat)(f:Nat->Vm.MS)(ps:Nat->Option Addr)(cs:Nat->Nat):List aG:=[.eJ P mb 34 (cN bb f ps cs),.aV P (rN e f ps cs)]
abbrev Xn(bb b:Nat)(e:TypeId)(m:Vm.MS)(p:Option Addr)(c:Nat):List aG:=[ip b bb p c m,aN p c e 3 (Vm.aj m.az).length (fG (Vm.aj m.az))]
section
variable{W w:World}{S:Nat->Nat->Prop}{H H0:List aG}{bb:Nat}{e:TypeId}{mb:Nat->Nat}{f:Nat->Vm.MS}{ps:Nat->Option Addr}{cs:Nat->Nat}{P:Nat->Bool}
def lz{z:Nat}(hz:P z=true)(hp:cX H0 (Ml P bb e mb f ps cs) H)(h:XM W S H0 w):XM W S (.cells (mb z) 0 34 (cF bb (ps z) (Vm.aj (f z).az).length (cs z) (f z).fr (f z).aU)::aN (ps z) (cs z) e 3 (Vm.aj (f z).az).length (fG (Vm.aj (f z).az)):: .eJ (jS P z) mb 34 (cN bb f ps cs):: .aV (jS P z) (rN e f ps cs)::H) w:=by
 have h0:XM W S (.eJ P mb 34 (cN bb f ps cs):: .aV P (rN e f ps cs)::H) w:=h.cG hp.cG;have h1:=D4 z hz h0;have h2:=h1.cG (pk [2]).cG;simp only[List.cons_append,List.nil_append]at h2;have h3:=pI z hz h2;have h4:=h3.cG (pk [2,0,1,0]).cG;simp_all
def Dx{z b:Nat}(m:Vm.MS){p:Option Addr}{c:Nat}(hz:P z=false)(hp:cX H0 (Xn bb b e m p c++Ml P bb e mb f ps cs) H)(h:XM W S H0 w):XM W S (Ml (He P z) bb e (bD mb z b) (bD f z m) (bD ps z p) (bD cs z c)++H) w:=by
 have h:XM W S (.cells b 0 34 (cF bb p (Vm.aj m.az).length c m.fr m.aU)::aN p c e 3 (Vm.aj m.az).length (fG (Vm.aj m.az)):: .eJ P mb 34 (cN bb f ps cs):: .aV P (rN e f ps cs)::H) w:=h.cG hp.cG;have h0:=h.cG (pk [0,1]).cG;simp only[List.cons_append,List.nil_append]at h0;have h1:=Hg z og hz h0;have h2:=h1.cG (pk [1,1]).cG;simp only[List.cons_append,List.nil_append]at h2;rw[Xm]at h2;have h3:=rU z hz h2;have h4:=h3.cG (pk [1,0]).cG;simp_all[afp,afq,TI]
def mZ{z:Nat}(m:Vm.MS){p:Option Addr}{c:Nat}(hz:P z=true)(hp:cX H0 (Xn bb (mb z) e m p c++Ml (jS P z) bb e mb f ps cs) H)(h:XM W S H0 w):XM W S (Ml P bb e mb (bD f z m) (bD ps z p) (bD cs z c)++H) w:=by
 have h1:=Dx m (wD _ _) hp h;grind [Hf,ku]
def TJ{b z:Nat}(m:Vm.MS){p:Option Addr}{c:Nat}(hp:cX H0 (Xn bb b e m p c) H)(h:XM W S H0 w):XM W S (Ml (He (fun _=>false) z) bb e (bD (fun _=>0) z b) (bD (fun _=>m) z m) (bD (fun _=>none) z p) (bD (fun _=>0) z c)++H) w:=by
 have h0:XM W S (Xn bb b e m p c++H) w:=h.cG hp.cG;have h1:XM W S (.eJ (fun _=>false) (fun _=>0) 34 (cN bb (fun _=>m) (fun _=>none) fun _=>0):: .aV (fun _=>false) (rN e (fun _=>m) (fun _=>none) fun _=>0):: .cells b 0 34 (cF bb p (Vm.aj m.az).length c m.fr m.aU)::aN p c e 3 (Vm.aj m.az).length (fG (Vm.aj m.az))::H) w:=D5 (Hh h0);exact Dx m rfl (pk [2,2,0,0]) h1
end
def rJ(a b:Int):Nat->Value:=fun i=>if i=0 then iI a else if i=1 then iI b else undef
def rJ.agg(a b:Int):0+2<=2/\dB (rJ a b) 0 2= .agg #[iI a,iI b]:=⟨og,rfl⟩
theorem rJ.st(a b c d:Int):0+2<=2/\cY (rJ a b) 0 [iI c,iI d]=rJ c d:=⟨og,by
 funext i
 match i with
 | 0=>rfl
 | 1=>rfl
 | i+2=>simp[cY,ep,rJ]⟩
def rJ.Dy(a b:Int):0+0<2/\rJ a b (0+0)=iI a:=⟨og,rfl⟩
theorem rJ.box:∀ i,i<2->cellsOf #[iI 0,iI 0] i=rJ 0 0 i:=fun i h=>match i,h with
 | 0,_=>rfl
 | 1,_=>rfl
 | k+2,h=>absurd h og
def Xo(u:PU):0+5+6<=22/\dB u.cell (0+5) 6= .agg (Vg u.fd):=⟨og,rfl⟩
def PU.agg(u:PU):0+22<=22/\dB u.cell 0 22= .agg u.c9:=by grind [dB,PU.c9]
theorem CQ(u:PU){i:Nat}(h:22<=i:=by omega):u.cell i=undef:=by
 unfold PU.cell;rw[if_neg og,if_neg og,if_neg og,if_neg og,if_neg og,if_neg og];exact LI _ og
theorem OG(u:PU):u.c9.toList.length=22:=by simp[PU.c9]
def PU.EH(v u:PU):0+22<=22/\cY v.cell 0 u.c9.toList=u.cell:=⟨og,by
 funext i
 rw[Dw,OG]
 by_cases h:i<22
 ·rw[if_pos og,Nat.sub_zero]
  unfold PU.c9
  rw[List.getD_eq_getElem?_getD,List.toList_toArray,List.getElem?_map,List.getElem?_range h];rfl
 ·rw[if_neg og,CQ v,CQ u]⟩
theorem PU.box(u:PU):∀ i,i<22->cellsOf u.c9 i=u.cell i:=fun i hi=>by
 simp_all[cellsOf,PU.c9]
section
variable{W w:World}{S:Nat->Nat->Prop}{H H0:List aG}{bb:Nat}{e:TypeId}{mb:Nat->Nat}{f:Nat->Vm.MS}{ps:Nat->Option Addr}{cs:Nat->Nat}{P:Nat->Bool}
def qj{z:Nat}(hz:P z=true)(hp:cX H0 (Xn bb (mb z) e (f z) (ps z) (cs z)++Ml (jS P z) bb e mb f ps cs) H)(h:XM W S H0 w):XM W S (Ml P bb e mb f ps cs++H) w:=by
 have h1:=mZ (f z) hz hp h;simp_all[ku]
end
def KP.gK(k:KP)(n:Int)(nb:Nat):PU:=⟨1,n,(k.u n).cO,0,ay nb 0 0,(k.u n).fd,(k.u n).bx.aW⟩
def vG(k:KP)(h:0<=z/\z<6)(v:Value):0+447+z.toNat*1<453/\ep (aB k) (0+447+z.toNat*1) v=aB {k with ms:=ad k.ms z v} :=⟨og,by
 funext i
 unfold ep
 by_cases c:i=0+447+z.toNat*1
 ·rw[if_pos c,c]
  have:=(Mh {k with ms:=ad k.ms z v} h).2
  rw[this]
  exact(ah _ _ _).symm
 ·rw[if_neg c]
  unfold aB
  refine iK (fun _=>rfl) fun c0=>iK (fun _=>rfl) fun c1=>iK (fun _=>rfl) fun c2=>iK (fun _=>rfl) fun c3=>iK (fun _=>rfl) fun c4=>iK (fun _=>rfl) fun c5=>iK (fun _=>rfl) fun c6=>iK (fun _=>rfl) fun c7=>iK (fun c8=> ?_) fun _=>rfl
  show k.ms ((i-447:Nat):Int)=ad k.ms z v ((i-447:Nat):Int)
  rw[ae _ _ og]⟩
def KP.raw(gb sb qb bb tb pi:Nat):KP:=⟨fun _=>PU.nil,gb,sb,qb,bb,tb,pi,0,fun _=>.pointer none⟩
def vH(k:KP)(i:Nat):Value:=if i=446 then .pointer none else aB k i
def HQ(k:KP):Array Value:=((List.range 453).map (vH k)).toArray
def OH(k:KP):(HQ k).size=453:=by simp[HQ]
def TK(k:KP):∀ i,i<453->cellsOf (HQ k) i=vH k i:=fun i hi=>by simp[cellsOf,HQ,hi]
def vH.BO(k:KP):0+444<453/\vH k (0+444)=ay k.tb 0 0:=⟨og,rfl⟩
def vH.Xk(k:KP):0+445<453/\vH k (0+445)=ay k.pi 0 0:=⟨og,rfl⟩
def OJ(k:KP)(b:Nat):0+446<453/\ep (vH k) (0+446) (ay b 0 0)=aB {k with ob:=b} :=by grind [ep,vH,aB]
def EJ(mb:Nat):PU:=⟨1,-1,0,0,ay mb 0 0,fun _=>0,BS.cR⟩
structure adM(k:KP)(mb:Nat):Prop where
 u:k.u=ad (fun _=>PU.nil) 0 (EJ mb)
def dK:Int->Nat:=ad (fun _=>0) (10+0) (0+1)
def Q1:Fa.SF:=Fa.SF.cR.uN 0 0 100
def Q2:Fa.SF:=Q1.gN dK 0 true
theorem qA:Fa.SF.cR.mR 0 0 100=0:=dk
def adN:Q1.Ok dK 1 0:=by
 have e:Q1=Fa.SF.cR.rk (10+0) 0 100 true:=by unfold Q1 Fa.SF.uN;rw[qA];rfl
 rw[e];exact Fa.SF.QN.add og ⟨og,og⟩ dk ⟨og,og,dk⟩ og
def EK:Q2.Ok dK 1 0:=adN.gN 0 true
theorem abv:(Q2.l8 dK).1=0:=dk
def afr:(Q2.l8 dK).2.Ok dK 1 1:=EK.l8 og og
def G0:Gr.TG:=Gr.TG.cR.bI 0 1 0
def S0:Sp.SS:=(Sp.SS.cR.enter (fun _=>1) 0 0).2.2
end Go.X.Kn

namespace Go.X.Vm
open Go Go.X
variable{w:Bool}{a i n:Int}{k z:Nat}
theorem HR{m:MS}(h:gQ a n):m.rz a n=1:=by unfold MS.rz;rw[if_pos h]
def TL{m:MS}(hb:¬gQ a n)(hi:a<=i/\i<a+n)(h:m.az i≠0):m.rz a n=3:=by
 grind [MS.rz,BI]
def TM{m:MS}(hb:¬gQ a n)(h:∀ j,a<=j->j<a+n->m.az j=0):m.rz a n=0:=by
 grind [MS.rz,yN]
theorem EL{m:MS}(h:gQ a n):m.lM a n=1:=by unfold MS.lM;rw[if_pos h]
def Mm{m:MS}(hb:¬gQ a n)(hi:a<=i/\i<a+n)(h:m.az i=0):m.lM a n=10:=by
 grind [MS.lM,BI]
def OK{m:MS}(hb:¬gQ a n)(h:∀ j,a<=j->j<a+n->m.az j≠0):m.lM a n=0:=by
 grind [MS.lM,yN]
theorem HS{m:MS}(h:m.rz a n≠0):m.map a n w=m:=by grind [MS.map]
theorem OL{m:MS}(h:m.rz a n=0):m.map a n w=m.lay a n w:=by grind [MS.map]
theorem EM{m:MS}(h:m.lM a n≠0):m.mW a n w=m:=by grind [MS.mW]
theorem Mn{m:MS}(h:m.lM a n=0):m.mW a n w=m.lay a n w:=by grind [MS.mW]
def Xp{l:List RG}{f:Int->Int}(hl:qg l f 16)(hn:0<n)(h:∀ j,a<=j->j<a+n->f j=0):∀ r∈l,r.fr+r.n<=a\/a+n<=r.fr:=fun r hr=>by
 have hb:=hl.b r hr;by_cases c:r.fr+r.n<=a\/a+n<=r.fr
 ·omega
 ·have:=hl.h1 r hr (max r.fr a) ⟨og,og⟩;grind [QY]
def EN(l:List RG)(a n:Int):(l.flatMap (nq a n)).length<=2*l.length:=by
 induction l with
 | nil=>simp
 | cons r l ih=>rw[List.flatMap_cons,List.length_append,List.length_cons];have:=Q6 a n r;omega
theorem Xq(f:Int->Int):px f []=f:=by funext i;simp[px]
theorem Xr(f:Int->Bool):eZ f []=f:=by funext i;simp[eZ]
theorem tY{v:VB}{m:MS}(hb:gQ a n):m.dM v a n=(0,1,v,m):=by grind [MS.dM]
def Mo(v:VB){m:MS}(hm:m.Ok)(hb:¬gQ a n):m.dM v a n=((vD v m.fr (lN (fun i=>m.az i != 0) a n.toNat)).1,0,(vD v m.fr (lN (fun i=>m.az i != 0) a n.toNat)).2,⟨fR m.az a n 0,px m.fr (lN (fun i=>m.az i != 0) a n.toNat),eZ m.aU (lN (fun i=>m.az i != 0) a n.toNat)⟩):=by
 unfold MS.dM;have D1:=hb;unfold gQ at D1;have hz:∀ i,i∉lN (fun i=>m.az i != 0) a n.toNat->a<=i/\i<a+n->m.az i=0:=fun i h1 h2=>by
  grind [pM]
 have hs:∀ i,i∈lN (fun i=>m.az i != 0) a n.toNat->a<=i/\i<a+n:=fun i h=>by
  grind [pM]
 have e1:fR m.fr a n 0=px m.fr (lN (fun i=>m.az i != 0) a n.toNat):=by
  grind [fR,px,MS.Ok.un]
 have e2:fR m.aU a n false=eZ m.aU (lN (fun i=>m.az i != 0) a n.toNat):=by
  grind [fR,eZ,MS.Ok.ow,MS.Ok.un]
 grind [Mc,MS.Ok.un]
def MS.qS{m:MS}(h:m.tT a w=true):0<=a/\a<128:=by
 grind [MS.tT]
theorem jX{m:MS}(h:¬(0<=a/\a<128):=by omega):m.tT a w=false:=by
 grind [MS.tT]
theorem pN{m:MS}(hm:m.Ok){k:Int}(hk:atP (aj m.az) (a/8) k)(ha:0<=a/\a<128:=by omega):m.tT a w=(decide (0<=k)&&(!w||(bG (aj m.az) k).w)):=by
 obtain⟨h1,h2⟩:=vC hm.f hk;unfold MS.tT;rw[decide_eq_true ha];by_cases c:k<0
 ·grind
 ·rw[(h2 og).2,decide_eq_true og];cases w<;>cases (bG (aj m.az) k).w<;>rfl
theorem qU{m:MS}(hm:m.Ok){k:Int}(hk:atP (aj m.az) (a/8) k)(ha:0<=a/\a<128:=by omega):m.my a=(decide (0<=k)&&decide (m.fr (a/8)-1<0)):=by
 unfold MS.my;rw[pN hm hk ha];have:=hm.lo (a/8);grind
def CR{v:VB}(h:¬v.take.2.1=0):v.take.1=0/\v.take.2.2=v:=by
 grind [VB.lV,mf]
theorem OM{v:VB}(h:v.take.2.1=0):v.take.2.2.rf=ad v.rf v.take.1 1/\v.take.2.2.ja=Dg v.ja v.take.1 (fun _=>0):=by
 grind [VB.lV,mf]
def VB.Ok.copy{v:VB}(h:v.Ok)(f g:Int):(v.copy f g).Ok:=⟨h.bb,h.rf,fun x j=>by
 show 0<=Dg v.ja f (v.ja g) x j/\Dg v.ja f (v.ja g) x j<256
 unfold Dg;split
 ·exact h.ja g j
 ·exact h.ja x j⟩
def CS{v:VB}(h:v.take.2.1=0){f:Int}(hf:1<v.rf f):1<=v.take.2.2.rf f:=by
 rw[(OM h).1];unfold ad;split<;>omega
theorem iT{v:VB}{m:MS}(h:m.tT a w=false):m.cD v a w=(0,10,v,m):=by grind [MS.cD]
theorem iU{v:VB}{m:MS}(h:m.tT a w=true)(h0:m.fr (a/8)=0)(e:v.take.2.1=0):m.cD v a w=(v.take.1,0,v.take.2.2,m.EB (a/8) v.take.1):=by
 grind [MS.cD]
theorem fM{v:VB}{m:MS}(h:m.tT a w=true)(h0:m.fr (a/8)=0)(e:¬v.take.2.1=0):m.cD v a w=(0,v.take.2.1,v,m):=by
 grind [MS.cD]
theorem dz{v:VB}{m:MS}(h:m.tT a w=true)(h0:¬m.fr (a/8)=0)(q:w=false\/m.aU (a/8)=true):m.cD v a w=(m.fr (a/8)-1,0,v,m):=by
 grind [MS.cD]
theorem MS.lA{v:VB}{m:MS}(h:m.tT a w=true)(h0:¬m.fr (a/8)=0)(q:w=true)(q2:m.aU (a/8)=false)(r:v.rf (m.fr (a/8)-1)<=1):m.cD v a w=(m.fr (a/8)-1,0,v,{m with aU:=ad m.aU (a/8) true}):=by
 grind [MS.cD]
theorem gR{v:VB}{m:MS}(h:m.tT a w=true)(h0:¬m.fr (a/8)=0)(q:w=true)(q2:m.aU (a/8)=false)(r:1<v.rf (m.fr (a/8)-1))(e:¬v.take.2.1=0):m.cD v a w=(0,v.take.2.1,v,m):=by
 grind [MS.cD]
theorem fZ{v:VB}{m:MS}(h:m.tT a w=true)(h0:¬m.fr (a/8)=0)(q:w=true)(q2:m.aU (a/8)=false)(r:1<v.rf (m.fr (a/8)-1))(e:v.take.2.1=0):m.cD v a w=(v.take.1,0,(v.take.2.2.copy v.take.1 (m.fr (a/8)-1)).drop (m.fr (a/8)-1),m.EB (a/8) v.take.1):=by
 grind [MS.cD]
def MS.qV(v:VB)(m:MS)(a:Int)(w:Bool):(m.tT a w=false/\m.cD v a w=(0,10,v,m))\/(m.tT a w=true/\((¬v.take.2.1=0/\m.cD v a w=(0,v.take.2.1,v,m))\/(m.fr (a/8)=0/\v.take.2.1=0/\m.cD v a w=(v.take.1,0,v.take.2.2,m.EB (a/8) v.take.1))\/(¬m.fr (a/8)=0/\(w=false\/m.aU (a/8)=true)/\m.cD v a w=(m.fr (a/8)-1,0,v,m))\/(¬m.fr (a/8)=0/\v.rf (m.fr (a/8)-1)<=1/\w=true/\m.cD v a w=(m.fr (a/8)-1,0,v,{m with aU:=ad m.aU (a/8) true}))\/(¬m.fr (a/8)=0/\v.take.2.1=0/\1<v.rf (m.fr (a/8)-1)/\w=true/\m.cD v a w=(v.take.1,0,(v.take.2.2.copy v.take.1 (m.fr (a/8)-1)).drop (m.fr (a/8)-1),m.EB (a/8) v.take.1)))):=by
 cases h:m.tT a w with
 | false=>exact .inl ⟨rfl,iT h⟩
 | true=>
  refine .inr ⟨rfl,?_⟩;by_cases h0:m.fr (a/8)=0
  ·grind [MS.cD]
  ·grind [dz,MS.lA,fZ,gR]
def MS.Ag(v:VB)(m:MS)(a:Int)(w:Bool):(m.cD v a w).2.2.2.az=m.az:=by
 rcases MS.qV v m a w with⟨_,e⟩ | ⟨_,⟨_,e⟩ | ⟨_,_,e⟩ | ⟨_,_,e⟩ | ⟨_,_,_,e⟩ | ⟨_,_,_,_,e⟩⟩<;>(rw[e];try rfl)
def Ah{v:VB}{m:MS}(hv:v.Ok)(hm:m.Ok)(h:(m.cD v a w).2.1=0):(0<=(m.cD v a w).1/\(m.cD v a w).1<64)/\0<=a/\a<128:=by
 have hl:=hm.lo (a/8);rcases MS.qV v m a w with⟨_,e⟩ | ⟨hr,⟨q,e⟩ | ⟨_,q,e⟩ | ⟨_,_,e⟩ | ⟨_,_,_,e⟩ | ⟨_,q,_,_,e⟩⟩
 ·simp_all
 ·simp_all
 ·rw[e];exact⟨oC hv q,MS.qS hr⟩
 ·rw[e];exact⟨og,MS.qS hr⟩
 ·rw[e];exact⟨og,MS.qS hr⟩
 ·rw[e];exact⟨oC hv q,MS.qS hr⟩
theorem VB.Ok.cD{v:VB}{m:MS}(hv:v.Ok)(a:Int)(w:Bool):(m.cD v a w).2.2.1.Ok:=by
 rcases MS.qV v m a w with⟨_,e⟩ | ⟨_,⟨_,e⟩ | ⟨_,_,e⟩ | ⟨_,_,e⟩ | ⟨_,_,_,e⟩ | ⟨_,q,r,_,e⟩⟩<;>rw[e]
 ·omega
 ·omega
 ·exact hv.take
 ·omega
 ·omega
 ·exact(hv.take.copy _ _).drop (CS q r)
def Xs(rf fr:Int->Int):∀ (k:Nat) (g:Int),rf g<=zW rf fr k g/\zW rf fr k g<=rf g+k
 | 0,g=>by simp[zW]
 | k+1,g=>by
  have:=Xs rf fr k g;rw[zW];split;all_goals grind [ad]
theorem Mp{rf fr:Int->Int}(h:0<=i):zW rf fr (i+1).toNat=if 0<fr i then ad (zW rf fr i.toNat) (fr i-1) (zW rf fr i.toNat (fr i-1)+1)else zW rf fr i.toNat:=by
 rw[show(i+1).toNat=i.toNat+1 from og,zW,show((i.toNat:Nat):Int)=i from og]
def yP{α:Type}(f g:Int->α)(i:Int):Int->α:=fun j=>if 0<=j/\j<i then f j else g j
theorem w7{α:Type}{f g:Int->α}(h:0<=i){v:α}(e:f i=v:=by omega):ad (yP f g i) i v=yP f g (i+1):=by
 grind [ad,yP]
theorem kv(f:Int->Bool)(i:Int){v:Bool}(h:f i=v):ad f i v=f:=by
 grind [ad]
theorem MS.EO{v:VB}{m:MS}(h:¬(m.cD v a false).2.1=0):m.load v a=(0,(m.cD v a false).2.1,(m.cD v a false).2.2):=by grind [MS.load]
theorem MS.JD{v:VB}{m:MS}(h:(m.cD v a false).2.1=0):m.load v a=((m.cD v a false).2.2.1.ja (m.cD v a false).1 (a%8),0,(m.cD v a false).2.2):=by grind [MS.load]
theorem MS.HT{v:VB}{m:MS}{b:Int}(h:¬(m.cD v a true).2.1=0):m.store v a b=((m.cD v a true).2.1,(m.cD v a true).2.2):=by grind [MS.store]
theorem MS.EP{v:VB}{m:MS}{b:Int}(h:(m.cD v a true).2.1=0):m.store v a b=(0,⟨(m.cD v a true).2.2.1.bb,bW (m.cD v a true).2.2.1.ja (m.cD v a true).1 (a%8) b,(m.cD v a true).2.2.1.rf⟩,(m.cD v a true).2.2.2):=by grind [MS.store]
theorem HU{α:Type}(f g:Int->α):yP f g 0=g:=by grind [yP]
def zNs(b:Nat)(p:Option Addr)(n c:Nat):List Value:=ay b 0 0:: .slice p n c::(List.replicate 16 [Value.int .i64 0,Value.bool false]).flatten
def abw(b:Nat)(p:Option Addr)(n c:Nat):∀ i,i<34->cellsOf (zNs b p n c).toArray i=cF b p n c (fun _=>1) (fun _=>false) i:=fun i hi=>by
 unfold cellsOf zNs;by_cases h1:i=1
 ·subst h1;rfl
 ·have e:=Xb b i hi;unfold cellsOf zNl at e;rw[Array.getD_eq_getD_getElem?,List.getElem?_toArray]at e ⊢;grind [cF]
def TN{α:Type}(f:Int->α)(a:Int)(v:α):fR f a (a-a) v=f:=by grind [fR]
def TO{α:Type}{f:Int->α}{v u:α}(h:a<=i)(e:u=v):ad (fR f a (i-a) v) i u=fR f a (i+1-a) v:=by
 grind [ad,fR]
def cM(fr:Int->Int)(g:Int):Nat->Int
 | 0=>0
 | k+1=>cM fr g k+(if fr k=g+1 then 1 else 0)
def ER(fr:Int->Int)(g:Int):∀ k,0<=cM fr g k/\cM fr g k<=k
 | 0=>by simp[cM]
 | k+1=>by have:=ER fr g k;rw[cM];split<;>omega
theorem Q7(fr:Int->Int){g n z:Int} :∀ {k:Nat},(k:Int)<=n->cM (ad fr n z) g k=cM fr g k
 | 0,_=>rfl
 | k+1,h=>by rw[cM,cM,Q7 fr (k:=k) og,ae _ _ og]
theorem Dz(fr:Int->Int){g n z:Int}(h0:0<=n):∀ {k:Nat},n<k->cM (ad fr n z) g k=cM fr g k-(if fr n=g+1 then 1 else 0)+(if z=g+1 then 1 else 0)
 | 0,h=>by simp at h;omega
 | k+1,h=>by
  rw[cM,cM];by_cases c:n=k
  ·subst c;rw[Q7 fr og,ah];omega
  ·rw[Dz fr h0 (k:=k) og,ae _ _ og];omega
def JE{fr:Int->Int}{g i:Int}(h0:0<=i)(e:fr i=g+1):∀ {k:Nat},i<k->1<=cM fr g k
 | 0,h=>by simp at h;omega
 | k+1,h=>by
  rw[cM];by_cases c:i=k
  ·rw[<-c,if_pos e];have:=ER fr g k;omega
  ·have:=JE h0 e (k:=k) og;split<;>omega
def cA(fr:Int->Int)(a g:Int):Nat->Int
 | 0=>0
 | k+1=>cA fr a g k+(if fr (a+k)=g+1 then 1 else 0)
theorem ON(fr:Int->Int){a g:Int}(h0:0<=a)(hg:0<=g):∀ {k:Nat},a+k<=16->cM (fR fr a k 0) g 16=cM fr g 16-cA fr a g k
 | 0,_=>by
  have e:=TN fr a 0;rw[show a-a=((0:Nat):Int)from og]at e;rw[cA,e];omega
 | k+1,h=>by
  have e:fR fr a ((k+1:Nat):Int) 0=ad (fR fr a k 0) (a+k) 0:=by
   have:=TO (f:=fr) (a:=a) (i:=a+k) (v:=0) (u:=0) og rfl;rw[show a+(k:Int)-a=k from og,show a+(k:Int)+1-a=((k+1:Nat):Int)from og]at this;exact this.symm
  have e2:fR fr a k 0 (a+k)=fr (a+k):=by unfold fR;rw[if_neg og]
  rw[e,Dz _ og og,ON fr h0 hg (k:=k) og,e2,cA,if_neg (c:=(0:Int)=g+1) og];omega
structure Acc(v:VB)(F:Int->Int):Prop where
 ok:v.Ok
 rf:∀ g,0<=g->g<64->v.rf g=F g
 us:∀ g,0<=g->g<64->v.bb.eK g=if F g=0 then 0 else 1
theorem Acc.congr{v:VB}{F G:Int->Int}(h:Acc v F)(e:∀ g,0<=g->g<64->F g=G g):Acc v G:=
 ⟨h.ok,fun g a b=>(h.rf g a b).trans (e g a b),fun g a b=>by rw[h.us g a b,e g a b]⟩
def Acc.copy{v:VB}{F:Int->Int}(h:Acc v F)(f g:Int):Acc (v.copy f g) F:=⟨h.ok.copy f g,h.rf,h.us⟩
theorem Acc.take{v:VB}{F:Int->Int}(h:Acc v F)(e:v.take.2.1=0):(0<=v.take.1/\v.take.1<64)/\F v.take.1=0/\Acc v.take.2.2 (ad F v.take.1 1):=by
 have c:(v.bb.take 0).2.1=0:=by
  grind [mf]
 obtain⟨_,hr,hu,_,hn⟩:=h.ok.bb.ED c;have hF:F (v.bb.take 0).1=0:=by
  grind [Acc.us]
 have ho:=h.ok.take;rw[VB.lV c]at ho ⊢;refine⟨hr,hF,ho,fun g a b=> ?_,fun g a b=> ?_⟩
 ·grind [ad,Acc.rf]
 ·show(v.bb.take 0).2.2.eK g=_;rw[hn];grind [ad,Acc.us]
theorem Acc.drop{v:VB}{F:Int->Int}(h:Acc v F){g:Int}(hg:0<=g/\g<64)(h1:1<=F g):Acc (v.drop g) (ad F g (F g-1)):=by
 have hr:=h.rf g hg.1 hg.2;refine⟨h.ok.drop og,fun x a b=> ?_,fun x a b=> ?_⟩
 ·rw[(EF v g).1];unfold ad;split
  ·omega
  ·exact h.rf x a b
 ·have hu:=h.us g hg.1 hg.2;rw[if_neg og]at hu;by_cases c:v.rf g-1=0
  ·rw[wX c];have ht:v.bb.tk g=true:=by
    unfold BB.eK at hu;cases q:v.bb.tk g with
    | true=>rfl
    | false=>rw[q]at hu;simp at hu
   have hw:=(h.ok.bb.Xa (a:=g) (by rw[EE,BB.El og ht])).2.2.1;show(v.bb.qf g).2.eK x=_;rw[hw];unfold ad;split
   ·rw[if_pos og]
   ·exact h.us x a b
  ·rw[wY c];show v.bb.eK x=_;unfold ad;split
   ·rename_i q;subst q;rw[if_neg og];exact hu
   ·exact h.us x a b
theorem Acc.Ju{v:VB}{F:Int->Int}{fr:Int->Int}{a:Int}(hl:∀ i,0<=fr i/\fr i<=64):∀ (k:Nat),Acc v F->(∀ g,0<=g->g<64->cA fr a g k<=F g)->Acc (Ju v fr a k).2 (fun g=>F g-cA fr a g k)
 | 0,h,_=>h.congr fun g _ _=>by simp[cA]
 | k+1,h,hF=>by
  have ih:=Acc.Ju (a:=a) hl k h (fun g a1 b=>by have:=hF g a1 b;rw[cA]at this;split at this<;>omega);rw[Go.X.Vm.Ju];unfold Z1;have hk:=hl (a+k);split
  ·rename_i c;have h1:=hF (fr (a+k)-1) og og;rw[cA,if_pos og]at h1;refine(ih.drop (g:=fr (a+k)-1) og (by show 1<=F _-cA _ _ _ _;omega)).congr fun g x y=> ?_;grind [ad,cA]
  grind [Acc.congr,cA]
theorem Xt{rf fr:Int->Int}{g:Int}(hg:0<=g)(hl:∀ i,0<=fr i):∀ k,zW rf fr k g=rf g+cM fr g k
 | 0=>by simp[zW,cM]
 | k+1=>by
  have ih:=Xt (rf:=rf) hg hl k;have:=hl k;rw[zW,cM];grind [ad]
theorem BP{rf fr:Int->Int}(hl:∀ i,0<=fr i/\fr i<=64){g:Int}(hg:g<0\/64<=g):∀ k,zW rf fr k g=rf g
 | 0=>rfl
 | k+1=>by
  have:=hl k;rw[zW];split
  ·rw[ae _ _ og];exact BP hl hg k
  simp_all[BP]
theorem Acc.jo{v:VB}{F:Int->Int}(h:Acc v F){m:MS}(hm:m.Ok)(hF:∀ g,0<=g->g<64->cM m.fr g 16<=F g/\F g<=1000):Acc (v.jo m) (fun g=>F g+cM m.fr g 16):=by
 have e:∀ g,0<=g->g<64->(v.jo m).rf g=F g+cM m.fr g 16:=fun g a b=>by
  show zW v.rf m.fr 16 g=_;rw[Xt a fun i=>(hm.lo i).1,h.rf g a b]
 refine⟨⟨h.ok.bb,fun g=> ?_,h.ok.ja⟩,e,fun g a b=> ?_⟩
 ·by_cases q:0<=g/\g<64
  ·rw[e g q.1 q.2];have:=hF g q.1 q.2;have:=ER m.fr g 16;omega
  ·show 0<=zW v.rf m.fr 16 g/\_;rw[show(v.jo m).rf g=zW v.rf m.fr 16 g from rfl,BP hm.lo og];exact h.ok.rf g
 ·show v.bb.eK g=_;rw[h.us g a b];have:=hF g a b;have:=ER m.fr g 16;omega
def vI(f:Nat->MS)(g:Int):Nat->Int
 | 0=>0
 | k+1=>vI f g k+cM (f k).fr g 16
def bD{α:Type}(f:Nat->α)(z:Nat)(m:α):Nat->α:=fun j=>if j=z then m else f j
theorem ly{α:Type}(f:Nat->α)(z:Nat)(m:α):bD f z m z=m:=if_pos rfl
theorem iu{α:Type}(f:Nat->α){j:Nat}(m:α)(h:j≠z):bD f z m j=f j:=if_neg h
theorem ku{α:Type}(f:Nat->α)(z:Nat):bD f z (f z)=f:=by
 grind [bD]
def OO(f:Nat->MS)(g:Int):∀ k,0<=vI f g k/\vI f g k<=16*k
 | 0=>by simp[vI]
 | k+1=>by have:=OO f g k;have:=ER (f k).fr g 16;rw[vI];omega
theorem Mq(f:Nat->MS)(g:Int){z:Nat}{m:MS} :∀ {k:Nat},k<=z->vI (bD f z m) g k=vI f g k
 | 0,_=>rfl
 | k+1,h=>by rw[vI,vI,Mq f g (k:=k) og,iu _ _ og]
theorem tZ(f:Nat->MS)(g:Int){z:Nat}{m:MS} :∀ {k:Nat},z<k->vI (bD f z m) g k=vI f g k-cM (f z).fr g 16+cM m.fr g 16
 | 0,h=>og
 | k+1,h=>by
  rw[vI,vI];by_cases c:z=k
  ·subst c;rw[Mq f g (Nat.le_refl _),ly];omega
  ·rw[tZ f g (k:=k) og,iu _ _ og];omega
def BQ(f:Nat->MS)(g:Int){z:Nat} :∀ {k:Nat},z<k->cM (f z).fr g 16<=vI f g k
 | 0,h=>og
 | k+1,h=>by
  rw[vI];have:=OO f g k;have:=ER (f k).fr g 16;by_cases c:z=k
  ·grind
  ·have:=BQ f g (z:=z) (k:=k) og;omega
structure Sys(v:VB)(f:Nat->MS)(k:Nat):Prop where
 jM:Acc v fun g=>vI f g k
 mo:∀ j,j<k->(f j).Ok
theorem MS.Ok.jV{m:MS}(h:m.Ok)(hi:0<m.fr i):0<=i/\i<16:=by
 by_cases c:0<=i/\i<16
 ·exact c
 ·have:=h.un i (h.f.out i og);omega
theorem Sys.In{v:VB}{f:Nat->MS}{k z:Nat}(h:Sys v f k)(hz:z<k):(f z).In v:=fun i hi=>by
 have hm:=h.mo z hz;have hr:=hm.jV hi;have hl:=hm.lo i;rw[h.jM.rf _ og og];have h1:=JE (fr:=(f z).fr) (g:=(f z).fr i-1) hr.1 og (k:=16) og;have h2:=BQ f ((f z).fr i-1) hz;omega
theorem Sys.free{v:VB}{f:Nat->MS}(h:Sys v f k)(hz:z<k){x:Int}(h0:vI f x k=0)(i:Int):(f z).fr i≠x+1\/x+1<=0:=by
 by_cases c:(f z).fr i=x+1/\0<x+1
 ·have hr:=(h.mo z hz).jV (i:=i) og;have h1:=JE (fr:=(f z).fr) (g:=x) hr.1 c.1 (k:=16) og;have h2:=BQ f x hz;omega
 omega
theorem Sys.same{v:VB}{f:Nat->MS}(h:Sys v f k)(hz:z<k){m:MS}(hm:m.Ok)(e:m.fr=(f z).fr):Sys v (bD f z m) k:=
 ⟨h.jM.congr fun g _ _=>by rw[tZ f g hz,e];omega,fun j hj=>by
  unfold bD;split
  ·exact hm
  ·exact h.mo j hj⟩
theorem MS.Ok.EB{m:MS}(h:m.Ok){n x:Int}(hn:m.az n≠0)(hx:0<=x/\x<64)(hf:∀ i,i≠n->m.fr i≠x+1):(m.EB n x).Ok:=by
 refine⟨h.f,fun i=> ?_,fun i hi=> ?_,fun i hi=> ?_,fun i j hi KS=> ?_⟩
 ·show 0<=ad m.fr n (x+1) i/\ad m.fr n (x+1) i<=64;unfold ad;split
  ·omega
  ·exact h.lo i
 ·show ad m.fr n (x+1) i=0;grind [ae,MS.Ok.un,MS.EB]
 ·show ad m.aU n true i=false;have hi:ad m.fr n (x+1) i=0:=hi;grind [ah,ae,MS.Ok.ow]
 ·have hi:0<ad m.fr n (x+1) i:=hi;have KS:ad m.fr n (x+1) i=ad m.fr n (x+1) j:=KS;grind [ah,ae,MS.Ok.inj]
def HV{m:MS}(h:m.tT a w=true):m.az (a/8)≠0:=by
 grind [MS.tT]
def MS.afs{m:MS}(h:m.Ok)(hn:m.fr n≠0):({m with aU:=ad m.aU n true} :MS).Ok:=
 ⟨h.f,h.lo,h.un,fun i hi=>by
  show ad m.aU n true i=false
  have hi:m.fr i=0:=hi
  rw[ae _ _ fun (e:i=n)=>hn (by rw[<-e];exact hi)];exact h.ow i hi,h.inj⟩
theorem Sys.cD{v:VB}{f:Nat->MS}{k z:Nat}(h:Sys v f k)(hz:z<k)(a:Int)(w:Bool):Sys ((f z).cD v a w).2.2.1 (bD f z ((f z).cD v a w).2.2.2) k:=by
 have hm:=h.mo z hz;have hl:=hm.lo (a/8);rcases MS.qV v (f z) a w with⟨_,e⟩ | ⟨hr,⟨_,e⟩ | ⟨h0,q,e⟩ | ⟨_,_,e⟩ | ⟨h0,_,_,e⟩ | ⟨h0,q,r,_,e⟩⟩<;>rw[e]
 ·grind [ku]
 ·grind [ku]
 obtain⟨hx,hF,ha⟩:=h.jM.take q;have hF:vI f v.take.1 k=0:=hF;have NM:=MS.qS hr;refine⟨ha.congr fun g a1 b=> ?_,fun j hj=> ?_⟩
 ·rw[tZ f g hz];show ad (fun g=>vI f g k) v.take.1 1 g=_-_+cM (ad (f z).fr (a/8) (v.take.1+1)) g 16;rw[Dz _ og og,h0,if_neg (c:=(0:Int)=g+1) og];grind [ad]
 rotate_left
 ·grind [ku]
 ·exact h.same hz (MS.afs hm h0) rfl
 obtain⟨hx,hF,ha⟩:=h.jM.take q;have hF:vI f v.take.1 k=0:=hF;have NM:=MS.qS hr;have hy:1<=vI f ((f z).fr (a/8)-1) k:=by
  have h1:=JE (fr:=(f z).fr) (g:=(f z).fr (a/8)-1) (i:=a/8) og og (k:=16) og;have h2:=BQ f ((f z).fr (a/8)-1) hz;omega
 have gJ:(f z).fr (a/8)-1≠v.take.1:=fun e=>by rw[e]at hy;omega
 refine⟨((ha.copy _ _).drop (g:=(f z).fr (a/8)-1) og (by rw[ae _ _ gJ];exact hy)).congr fun g a1 b=> ?_,fun j hj=> ?_⟩
 ·rw[tZ f g hz];show ad (ad (fun g=>vI f g k) v.take.1 1) ((f z).fr (a/8)-1) _ g=_-_+cM (ad (f z).fr (a/8) (v.take.1+1)) g 16;rw[Dz _ og og,ae _ _ gJ];grind [ad]
 rotate_left;all_goals
  unfold bD;split
  ·exact hm.EB (HV hr) hx (fun i _=>by rcases h.free hz hF i with q | q<;>omega)
  grind [Sys.mo]
def aiE{fr:Int->Int}{g:Int}(h0:0<=a)(hg:0<=g)(hk:a+k<=16):cA fr a g k<=cM fr g 16:=by
 have:=ON fr h0 hg hk;have:=ER (fR fr a k 0) g 16;omega
theorem Sys.dM{v:VB}{f:Nat->MS}{k z:Nat}(h:Sys v f k)(hz:z<k)(a n:Int):Sys ((f z).dM v a n).2.2.1 (bD f z ((f z).dM v a n).2.2.2) k:=by
 have hm:=h.mo z hz;by_cases hb:gQ a n
 ·rw[tY hb];rw[ku];exact h
 ·have ho:=hm.dM (v:=v) a n;unfold MS.dM at ho ⊢;rw[if_neg hb]at ho ⊢;unfold gQ at hb;have hn:((n.toNat:Nat):Int)=n:=og;refine⟨(h.jM.Ju hm.lo n.toNat (fun g a1 b=>by
   have:=aiE (fr:=(f z).fr) (a:=a) (g:=g) og a1 (k:=n.toNat) og
   have:=BQ f g hz
   show _<=vI f g k
   omega)).congr fun g a1 b=> ?_,fun j hj=> ?_⟩
  ·rw[tZ f g hz];show vI f g k-_=_-_+cM (fR (f z).fr a n 0) g 16;have:=ON (f z).fr (a:=a) (g:=g) og a1 (k:=n.toNat) og;rw[hn]at this;rw[this];omega
  ·unfold bD;split
   ·exact ho
   ·exact h.mo j hj
theorem Sys.load{v:VB}{f:Nat->MS}{k z:Nat}(h:Sys v f k)(hz:z<k)(a:Int):Sys ((f z).load v a).2.2.1 (bD f z ((f z).load v a).2.2.2) k:=by
 grind [Sys.cD,MS.load]
theorem Sys.store{v:VB}{f:Nat->MS}{k z:Nat}(h:Sys v f k)(hz:z<k)(a b:Int)(hb:0<=b/\b<256):Sys ((f z).store v a b).2.1 (bD f z ((f z).store v a b).2.2) k:=by
 have ht:=h.cD hz a true;by_cases e:((f z).cD v a true).2.1=0
 ·rw[MS.EP e];refine⟨⟨⟨ht.jM.ok.bb,ht.jM.ok.rf,fun x j=> ?_⟩,ht.jM.rf,ht.jM.us⟩,ht.mo⟩;show 0<=bW ((f z).cD v a true).2.2.1.ja ((f z).cD v a true).1 (a%8) b x j/\bW ((f z).cD v a true).2.2.1.ja ((f z).cD v a true).1 (a%8) b x j<256;unfold bW;split
  ·omega
  ·exact ht.jM.ok.ja x j
 grind [MS.store]
def Q8(z:Int):0<=IntKind.u8.wrap z/\IntKind.u8.wrap z<256:=by
 have e:IntKind.u8.wrap z=z%256:=rfl;omega
theorem Sys.cR:Sys VB.cR (fun _=>MS.nil) 1:=by
 have h0:∀ g:Int,0<=g->vI (fun _=>MS.nil) g 1=0:=fun g hg=>by
  rw[vI,vI];have e:∀ k,cM MS.nil.fr g k=0:=fun k=>by
   induction k with
   | zero=>rfl
   | succ k ih=>rw[cM,ih,show MS.nil.fr k=0 from rfl,if_neg og];rfl
  simp_all
 refine⟨⟨VB.Ok.cR,fun g a b=>(h0 g a).symm,fun g a b=> ?_⟩,fun _ _=>MS.Ok.nil⟩;grind [BB.cR,BB.eK,VB.cR]
end Go.X.Vm
