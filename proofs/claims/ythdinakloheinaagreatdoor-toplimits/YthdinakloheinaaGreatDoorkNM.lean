import Derived.Test.YthdinakloheinaaGreatDoorkVBT
import Derived.Test.YthdinakloheinaaGreatDoorkTP
set_option linter.all false
namespace Go.X.Vm
open Go Go.X
variable{i:Int}
def zKl(b:Nat):List Value:=ay b 0 0::(List.replicate 512 (Value.int .u8 0)++List.replicate 64 (Value.int .i64 0))
def VB.cP:VB:=⟨BB.cP,fun _ _=>0,fun _=>0⟩
theorem VB.Ok.cP:VB.cP.Ok:=⟨BB.Inv.cP,fun _=>by simp[VB.cP],fun _ _=>by simp[VB.cP]⟩
def acb(b:Nat):∀ i,i<577->cellsOf (zKl b).toArray i=dI b VB.cP.ij VB.cP.rf i:=fun i hi=>by
 unfold cellsOf zKl dI;rw[Array.getD_eq_getD_getElem?,List.getElem?_toArray];by_cases h0:i=0
 ·grind
 ·rw[if_neg h0,show i=(i-1)+1 from og,List.getElem?_cons_succ];by_cases h1:i-1<512
  ·rw[List.getElem?_append_left (by rw[List.length_replicate];exact h1),List.getElem?_replicate,if_pos h1];rw[if_pos og];rfl
  ·rw[List.getElem?_append_right (by rw[List.length_replicate];omega),List.length_replicate,List.getElem?_replicate,if_pos og];rw[if_neg og,if_pos og];rfl
def zNl(b:Nat):List Value:=ay b 0 0:: .slice none 0 0::(List.replicate 16 [Value.int .i64 0,Value.bool false]).flatten
def Uy(b:Nat):∀ i,i<34->cellsOf (zNl b).toArray i=b7 b none 0 0 (fun _=>1) (fun _=>false) i:=fun i hi=>by
 unfold cellsOf zNl b7;rw[Array.getD_eq_getD_getElem?,List.getElem?_toArray];by_cases h0:i=0
 ·simp_all
 ·rw[if_neg h0];by_cases h1:i=1
  ·simp_all
  ·rw[if_neg h1];have h:∀ k,k<32->((List.replicate 16 [Value.int .i64 0,Value.bool false]).flatten)[k]? =some (if k%2=0 then Value.int .i64 0 else .bool false):=fun k hk=>match k,hk with
    | 0,_=>rfl
    | 1,_=>rfl
    | 2,_=>rfl
    | 3,_=>rfl
    | 4,_=>rfl
    | 5,_=>rfl
    | 6,_=>rfl
    | 7,_=>rfl
    | 8,_=>rfl
    | 9,_=>rfl
    | 10,_=>rfl
    | 11,_=>rfl
    | 12,_=>rfl
    | 13,_=>rfl
    | 14,_=>rfl
    | 15,_=>rfl
    | 16,_=>rfl
    | 17,_=>rfl
    | 18,_=>rfl
    | 19,_=>rfl
    | 20,_=>rfl
    | 21,_=>rfl
    | 22,_=>rfl
    | 23,_=>rfl
    | 24,_=>rfl
    | 25,_=>rfl
    | 26,_=>rfl
    | 27,_=>rfl
    | 28,_=>rfl
    | 29,_=>rfl
    | 30,_=>rfl
    | 31,_=>rfl
    | k+32,h=>absurd h og
   grind
theorem su{kb:Nat}{p:Option Addr}{n c:Nat}{f f':Int->Int}{o o':Int->Bool}(h:∀ i:Int,0<=i->i<16->f i=f' i/\o i=o' i):b7 kb p n c f o=b7 kb p n c f' o':=by
 grind [b7]
def frI(i:Int):Int->Int:=fun j=>if 0<=j/\j<i then 0 else 1
theorem Uz(h:0<=i):ad (frI i) i (-1+1)=frI (i+1):=by
 grind [ad,frI]
theorem UA:ai MS.nil.az=[]:=dk
theorem VB.l7{v:VB}(h:(v.bb.take 0).2.1=0):v.take=((v.bb.take 0).1,0,⟨(v.bb.take 0).2.2,BL v.ij (v.bb.take 0).1 fun _=>0,ad v.rf (v.bb.take 0).1 1⟩):=by grind [VB.take]
theorem mT{v:VB}(h:¬(v.bb.take 0).2.1=0):v.take=(0,(v.bb.take 0).2.1,v):=by grind [VB.take]
def nA{v:VB}(hv:v.Ok)(h:v.take.2.1=0):0<=v.take.1/\v.take.1<64:=by
 by_cases c:(v.bb.take 0).2.1=0
 ·rw[VB.l7 c];exact(hv.bb.Dg c).2.1
 grind [mT]
theorem VB.Ok.take{v:VB}(hv:v.Ok):v.take.2.2.Ok:=by
 by_cases c:(v.bb.take 0).2.1=0
 ·rw[VB.l7 c];refine⟨hv.bb.take 0,fun f=> ?_,fun f j=> ?_⟩
  ·show 0<=ad v.rf _ 1 f/\ad v.rf _ 1 f<=100000;unfold ad;split
   ·omega
   ·exact hv.rf f
  ·show 0<=BL v.ij (v.bb.take 0).1 (fun _=>0) f j/\BL v.ij (v.bb.take 0).1 (fun _=>0) f j<256;unfold BL;split
   ·simp
   ·exact hv.ij f j
 grind [mT]
theorem VB.Ok.drop{v:VB}(hv:v.Ok){f:Int}(h:1<=v.rf f):(v.drop f).Ok:=by
 have hr:∀ g,0<=ad v.rf f (v.rf f-1) g/\ad v.rf f (v.rf f-1) g<=100000:=fun g=>by
  unfold ad;split
  ·have:=hv.rf f;omega
  ·exact hv.rf g
 unfold VB.drop;split
 ·exact⟨hv.bb.sj f,hr,hv.ij⟩
 ·exact⟨hv.bb,hr,hv.ij⟩
theorem Di(v:VB)(f:Int):(v.drop f).rf=ad v.rf f (v.rf f-1)/\(v.drop f).ij=v.ij:=by grind [VB.drop]
theorem Af{v:VB}{f:Int}(h:v.rf f-1=0):v.drop f=⟨(v.bb.sj f).2,v.ij,ad v.rf f (v.rf f-1)⟩:=by grind [VB.drop]
theorem Ag{v:VB}{f:Int}(h:¬v.rf f-1=0):v.drop f=⟨v.bb,v.ij,ad v.rf f (v.rf f-1)⟩:=by grind [VB.drop]
def RG.UB(r:RG)(i:Int):Bool:=decide (r.fr<=i)&&decide (i<r.fr+r.n)
theorem Bj(r:RG)(i:Int):r.UB i=true↔r.has i:=by unfold RG.UB RG.has;simp
def pgA(fr:Int->Int)(bH:Int->Bool):Array Value:=((List.range 32).map fun (j:Nat)=>if j%2=0 then Value.int .i64 (fr ((j/2:Nat):Int)-1)else .bool (bH ((j/2:Nat):Int))).toArray
def Mq(kb:Nat)(p:Option Addr)(n c:Nat)(fr:Int->Int)(bH:Int->Bool):0+2+32<=34/\dv (b7 kb p n c fr bH) (0+2) 32= .agg (pgA fr bH):=by
 refine⟨og,?_⟩;rfl
def ace{fr:Int->Int}{bH:Int->Bool}{z:Int}(h:0<=z/\z<16):(pgA fr bH).extract (z.toNat*2) (z.toNat*2+2)= #[iI (fr z-1),.bool (bH z)]:=by
 have hs:(pgA fr bH).size=32:=by simp[pgA]
 apply Array.ext
 ·grind
 ·intro i h1 h2;have h3:i=0\/i=1:=by simp at h2;omega
  rw[Array.getElem_extract];rcases h3 with rfl | rfl
  ·simp only[pgA,List.getElem_toArray,List.getElem_map,List.getElem_range,Nat.add_zero];grind
  ·simp only[pgA,List.getElem_toArray,List.getElem_map,List.getElem_range];grind
def QF{l:List RG} :(bZ (fm l) (l.length*3)).all one=true:=by
 rw[List.all_eq_true];intro v hv;simp only[bZ,List.mem_map,List.mem_range]at hv;obtain⟨j,hj,rfl⟩:=hv;unfold fm RG.cell;grind [one]
def Sw(f:Int)(w:Bool)(i:Nat):Value:=if i=0 then iI f else if i=1 then .bool w else undef
theorem Sw.f(f:Int)(w:Bool):0+0<2/\Sw f w (0+0)=iI f:=⟨og,rfl⟩
theorem Sw.box(f:Int)(w:Bool):∀ i,i<2->cellsOf #[iI f,.bool w] i=Sw f w i:=fun i h=>by
 match i,h with
 | 0,_=>rfl
 | 1,_=>rfl
 | k+2,h=>omega
theorem Sw.st(f g:Int)(w u:Bool):0+2<=2/\cD (Sw g u) 0 [iI f,.bool w]=Sw f w:=⟨og,by
 funext i
 match i with
 | 0=>rfl
 | 1=>rfl
 | k+2=>simp[cD,dP,Sw]⟩
def QG{l:List RG}(h:GL l):∀ r∈l,0<=r.fr/\r.fr<=16:=fun r hr=>by have:=h.b r hr;omega
section
variable {P:Program} {n:Fr} {Q:Exit->Act->World->Prop} {L:PF} {ops:Md} {rest:List Oper} {ty:TypeId} {pos:String} {af:Array Edge} {d:Nat} {W:World} {S:Nat->Nat->Prop} {H H':List aG}
def jf{t e:TypeId}{x y:Operand}{p:Option Addr}{cap c b:Nat}{jJ:List RG}{r:RG}(hx:ev L x=some (.slice p jJ.length cap))(hy:ev L y=some (.slice (some ⟨b,0,none⟩) 1 c))(ht:P.underlying t=some (.slice e))(hr:rL P e 3=true)(hH:nr H (aL p cap e 3 jJ.length (fm jJ)) H')(hN:lu H (.cells b 0 3 (cellsOf r.cF)))(hk:jJ.length+1<=100000000000)(hd:Nat.blt d n.sz=true)(h:∀ p' cU,XO P n ops Q rest ((d,.slice p' (jJ++[r]).length cU)::L) (XM W S (aL p' cU e 3 (jJ++[r]).length (fm (jJ++[r]))::H'))):XO P n ops Q (⟨some d,.call ⟨.builtin .append,#[x,y],#[t,t]⟩,ty,pos,af,none⟩::rest) L (XM W S H):=
 wH (C2:=fm (jJ++[r])) hx hy ht hr hH hN rfl rfl og hk (fm.app jJ r _ (fun i hi=>by
  match i,hi with
  | 0,_=>rfl
  | 1,_=>rfl
  | 2,_=>rfl
  | k+3,hi=>omega)) hd (fun p' cU=>by
  have e1:jJ.length+1=(jJ++[r]).length:=sq
  rw[e1]
  exact h p' cU)
end
def UC{l:List RG}{m:Nat}(hm:m=l.length){z:Int}(h:0<=z/\z<m):0+z.toNat*3+3<=m*3/\dv (fm l) (0+z.toNat*3) 3= .agg (bF l z).cF:=by
 subst hm;exact fm.agg h
def Ox(a n:Int)(r:RG):(my a n r).length<=2:=by
 grind [my]
theorem vn(l:List RG)(r:RG):mg (l++[r])=EL (mg l) r:=by grind [mg]
def UD:∀ (k:Nat) (l:List RG),l.length=k->(mg l).length<=k
 | 0,l,h=>by rw[List.length_eq_zero_iff]at h;subst h;simp[mg]
 | k+1,l,h=>by
  obtain⟨l',x,rfl⟩:=vl (l:=l) og;rw[vn];have h1:=Ot (mg l') x;have h2:=UD k l' (by simp at h;exact h);omega
def afm:∀ (k:Nat) (l:List RG),l.length=k->(∀ r∈l,0<=r.fr/\0<r.n/\r.fr+r.n<=16)->∀ r∈mg l,0<=r.fr/\0<r.n/\r.fr+r.n<=16
 | 0,l,h,_=>by rw[List.length_eq_zero_iff]at h;subst h;intro r hr;simp[mg]at hr
 | k+1,l,h,hb=>by
  obtain⟨l',x,rfl⟩:=vl (l:=l) og;have ih:=afm k l' (by simp at h;exact h) fun r hr=>hb r (by simp[hr]);have hx:=hb x sq;rw[vn];intro r hr;rcases Nat.eq_zero_or_pos (mg l').length with q | q;all_goals grind [Oo,vl,JW]
theorem ri{l:List RG}(h:0<=i/\i<l.length):l.take (i+1).toNat=l.take i.toNat++[bF l i]:=by
 rw[show(i+1).toNat=i.toNat+1 from og,List.take_add_one,Yu h];rfl
theorem vo{β:Type}(f:RG->List β){l:List RG}(h:0<=i/\i<l.length):(l.take (i+1).toNat).flatMap f=(l.take i.toNat).flatMap f++f (bF l i):=by
 grind [ri]
def acf{a n:Int}{r:RG}(h:¬min (r.fr+r.n) (a+n)<=max r.fr a):my a n r=(if r.fr<max r.fr a then [⟨r.fr,max r.fr a-r.fr,r.w⟩]else [])++(if min (r.fr+r.n) (a+n)<r.fr+r.n then [⟨min (r.fr+r.n) (a+n),r.fr+r.n-min (r.fr+r.n) (a+n),r.w⟩]else []):=by grind [my]
def Yv{a n:Int}{r:RG}(h:min (r.fr+r.n) (a+n)<=max r.fr a):my a n r=[r]/\vm a n r=[]:=by
 unfold my vm;rw[if_pos h,show(min (r.fr+r.n) (a+n)-max r.fr a).toNat=0 from og];exact⟨rfl,rfl⟩
theorem Mr(a:Int){k:Int}(h:0<=k):jE a (k+1).toNat=jE a k.toNat++[a+k]:=by
 rw[show(k+1).toNat=k.toNat+1 from og,jE,show((k.toNat:Nat):Int)=k from og]
theorem Dj(v:VB)(fr:Int->Int)(l:List Int)(i:Int):ui v fr (l++[i])=Yr fr (ui v fr l) i:=by grind [ui]
def QH{l:List Int}(h:0<l.length):∃ l' i,l=l'++[i]:=⟨l.dropLast,l.getLast (by intro e;rw[e]at h;simp at h),(List.dropLast_concat_getLast _).symm⟩
def UE{v:VB}{m:MS}(hv:v.Ok)(hm:m.Ok)(hi:m.In v):∀ (k:Nat) (l:List Int),l.length=k->l.Nodup->(ui v m.fr l).2.Ok/\(0<=(ui v m.fr l).1/\(ui v m.fr l).1<=k)/\∀ g,(∀ i∈l,m.fr i≠g+1)->(ui v m.fr l).2.rf g=v.rf g
 | 0,l,h,_=>by rw[List.length_eq_zero_iff]at h;subst h;exact⟨hv,by simp[ui],fun _ _=>rfl⟩
 | k+1,l,h,hn=>by
  obtain⟨l',i,rfl⟩:=QH (l:=l) og;rw[List.nodup_append]at hn;obtain⟨i1,i2,i3⟩:=UE hv hm hi k l' (by simp at h;exact h) hn.1;rw[Dj];unfold Yr;split
  ·rename_i c;have e:(ui v m.fr l').2.rf (m.fr i-1)=v.rf (m.fr i-1):=i3 _ (fun j hj q=>by
    have:=hm.inj i j c og
    subst this
    exact hn.2.2 i hj i sq rfl)
   refine⟨i1.drop (by rw[e];exact hi i c),⟨by show 0<=(ui v m.fr l').1+1;omega,by show(ui v m.fr l').1+1<=_;omega⟩,fun g hg=> ?_⟩;show((ui v m.fr l').2.drop (m.fr i-1)).rf g=_;rw[(Di _ _).1,ae _ _ (by have:=hg i sq;omega)];exact i3 g fun j hj=>hg j (by simp[hj])
  ·exact⟨i1,⟨i2.1,og⟩,fun g hg=>i3 g fun j hj=>hg j (by simp[hj])⟩
def oB(f:Int->Int)(l:List Int):Int->Int:=fun i=>if i∈l then 0 else f i
def ey(f:Int->Bool)(l:List Int):Int->Bool:=fun i=>if i∈l then false else f i
theorem QI(f:Int->Int)(l:List Int)(i:Int):oB f (l++[i])=ad (oB f l) i (-1+1):=by
 grind [oB,ad]
theorem QJ(f:Int->Bool)(l:List Int)(i:Int):ey f (l++[i])=ad (ey f l) i false:=by
 grind [ey,ad]
theorem QK{f:Int->Int}{l:List Int}(h:f i=0):oB f (l++[i])=oB f l:=by
 grind [oB]
theorem QL{f:Int->Bool}{l:List Int}(h:f i=false):ey f (l++[i])=ey f l:=by
 grind [ey]
def aaF{l:List Int}(h:0<=i/\i<l.length):l.take (i+1).toNat=l.take i.toNat++[gh l i]:=by
 rw[show(i+1).toNat=i.toNat+1 from og,List.take_add_one];grind [gh]
def se{l:List Int}(h:0<=i/\i<l.length):gh l i∈l:=by
 grind [gh]
def Yw{l:List Int}(hs:l.Pairwise fun x y=>x<y)(h:0<=i/\i<l.length):gh l i∉l.take i.toNat:=by
 grind [List.mem_iff_getElem,List.pairwise_iff_getElem,gh]
theorem UF{l:List Int}(hs:l.Pairwise fun x y=>x<y):l.Nodup:=hs.imp fun h e=>og
def Ms{l:List Int}(hs:l.Pairwise fun x y=>x<y)(k:Nat):(l.take k).Nodup:=by grind [UF]
theorem MS.Ok.ep{v:VB}{m:MS}(h:m.Ok)(a n:Int):(m.ep v a n).2.2.2.Ok:=by
 unfold MS.ep;split
 ·omega
 ·rename_i hb;refine⟨h.f.fT hb (.inl rfl),fun i=> ?_,fun i hi=> ?_,fun i hi=> ?_,fun i j hi IL=> ?_⟩
  ·show 0<=fT m.fr a n 0 i/\fT m.fr a n 0 i<=64;unfold fT;split
   ·omega
   ·exact h.lo i
  ·grind [fT,MS.Ok.un]
  all_goals grind [fT,MS.Ok.ow,MS.Ok.inj]
end Go.X.Vm

namespace Go.X.Gr
open Go Go.X
variable{a n:Int}{s:TG}
theorem di{f g:Int->Int} :∀ (k:Nat),(∀ j:Int,0<=j->j<k->f j=g j)->cE f k=cE g k
 | 0,_=>rfl
 | k+1,h=>by
  simp only[cE];rw[di k fun j h0 h1=>h j h0 og,h (k:Int) og og]
theorem rj(f g:Int->Int):∀ (k:Nat),cE (fun j=>f j+g j) k=cE f k+cE g k
 | 0=>rfl
 | k+1=>by simp only[cE];rw[rj f g k];omega
theorem yv(p:Int)(f:Int->Int):∀ (k:Nat),cE (fun j=>p*f j) k=p*cE f k
 | 0=>by simp[cE]
 | k+1=>by simp only[cE];rw[yv p f k,Int.mul_add]
theorem fw{f:Int->Int} :∀ (k:Nat),(∀ j:Int,0<=j->j<k->f j=0)->cE f k=0
 | 0,_=>rfl
 | k+1,h=>by
  simp only[cE];rw[fw k fun j h0 h1=>h j h0 og,h (k:Int) og og];rfl
def B3{f:Int->Int} :∀ (k:Nat),(∀ j:Int,0<=j->j<k->0<=f j)->0<=cE f k
 | 0,_=>Int.le_refl 0
 | k+1,h=>by
  have h1:=B3 k fun j h0 h1=>h j h0 og;grind [cE]
theorem nB(v n:Int)(h0:0<=n):∀ (k:Nat),cE (fun j=>if j=n then v else 0) k=if n<k then v else 0
 | 0=>by simp only[cE];rw[if_neg og]
 | k+1=>by
  simp only[cE];rw[nB v n h0 k];by_cases h:(k:Int)=n
  ·rw[if_neg og,if_pos h,if_pos og];omega
  ·rw[if_neg h];by_cases h2:n<k
   ·rw[if_pos h2,if_pos og];omega
   ·rw[if_neg h2,if_neg og];omega
namespace TG
theorem Ok.Dk(h:s.Ok)(h0:0<=n)(h1:n<10)(h2:s.aa n=true)(h3:n≠0):0<=s.aA n/\s.aA n<10/\s.aa (s.aA n)=true:=by
 grind [Ok.uf]
structure Inv (s:TG):Prop where
 ok:s.Ok
 bH:∀ n,0<=n->n<10->s.aa n=true->0<=s.left s.pr n/\0<=s.left s.pg n
def aaG(h:s.Ok){f:Int->Int}(ho:∀ n,0<=n->n<10->s.aa n=true->0<=s.left f n)(h0:0<=n)(h1:n<10)(h2:s.aa n=true):0<=f n:=by
 obtain⟨d,d0,hd⟩:=h.uf;have ig:∀ (k:Nat) (n:Int),0<=n->n<10->s.aa n=true->4-d n<=k->0<=f n:=by
  intro k;induction k with
  | zero=>
   intro n h0 h1 h2 hk;have h3:=ho n h0 h1 h2;unfold left at h3;rw[fw 10 (fun j j0 j1=>by
    unfold gF
    refine if_neg fun q=> ?_
    have h4:=hd j j0 og q.1
    have h5:=hd n h0 h1 h2
    by_cases hj:j=0
    ·subst hj
     have:=h.qm.2
     rw[q.2]at this;omega
    ·have:=(h4.2.2 hj).2.2.2
     rw[q.2]at this;omega)]at h3
   omega
  | succ k ih=>
   intro n h0 h1 h2 hk;have h3:=ho n h0 h1 h2;unfold left at h3;have h6:=B3 (f:=s.gF f n) 10 (fun j j0 j1=>by
    unfold gF
    split
    ·rename_i q
     have h4:=hd j j0 og q.1
     refine ih j j0 og q.1 ?_
     by_cases hj:j=0
     ·subst hj
      have:=h.qm.2
      rw[q.2]at this;omega
     ·have:=(h4.2.2 hj).2.2.2
      rw[q.2]at this;omega
    ·omega)
   omega
 exact ig 4 n h0 h1 h2 og
def Inv.nn(h:s.Inv)(h0:0<=n)(h1:n<10)(h2:s.aa n=true):0<=s.pr n/\0<=s.pg n:=
 ⟨aaG h.ok (fun n a b c=>(h.bH n a b c).1) h0 h1 h2,aaG h.ok (fun n a b c=>(h.bH n a b c).2) h0 h1 h2⟩
def F9{s:TG} :∀ (l:List Int) (n x:Int),lK s.aA n l->(∀ y∈l,s.aa y=true)->0<=x->
  (l.count x:Int)-cE (fun k=>if s.aa k=true/\s.aA k=x then(l.count k:Int)else 0) 10=if x=n then 1 else 0
 | [],n,x,hw,_,hx=>by
  have hn:n<0:=hw;rw[fw 10 fun j _ _=>sq];grind
 | y::r,n,x,hw,hh,hx=>by
  obtain⟨e1,h0,h1,h2⟩:=hw;subst e1;have ih:=F9 r (s.aA y) x h2 (fun z hz=>hh z (List.mem_cons_of_mem _ hz)) hx;have hy:=hh y sq;have e2:cE (fun k=>if s.aa k=true/\s.aA k=x then((y::r).count k:Int)else 0) 10=cE (fun k=>if s.aa k=true/\s.aA k=x then(r.count k:Int)else 0) 10+cE (fun k=>if k=y then(if s.aA y=x then 1 else 0)else 0) 10:=by
   rw[<-rj];grind
  rw[e2,nB _ _ h0,if_pos og];grind
def yw(h:s.Ok)(h0:0<=n)(h1:n<10)(h2:s.aa n=true)(f:Int->Int)(p:Int){x:Int}(hx:0<=x):s.left (fun y=>f y+p*((s.cX n).count y:Int)) x=s.left f x+if x=n then p else 0:=by
 obtain⟨w1,_,w3⟩:=h.cX h0 h1 h2;have hc:=F9 (s:=s) (s.cX n) n x w1 w3 hx;unfold left;have e:cE (s.gF (fun y=>f y+p*((s.cX n).count y:Int)) x) 10=cE (s.gF f x) 10+p*cE (fun k=>if s.aa k=true/\s.aA k=x then((s.cX n).count k:Int)else 0) 10:=by
  rw[<-yv,<-rj];refine di 10 fun j _ _=> ?_;grind [gF]
 grind
theorem Inv.lay{s:TG}(h:s.Inv){n:Int}(h0:0<=n)(h1:n<10)(h2:s.aa n=true){p m:Int}(hp:0<=s.left s.pr n+p)(hm:0<=s.left s.pg n+m):(s.lay (s.cX n) p m).Inv:=by
 refine⟨h.ok.lay _ _ _,fun x x0 x1 x2=> ?_⟩;have a:=yw h.ok h0 h1 h2 s.pr p x0;have b:=yw h.ok h0 h1 h2 s.pg m x0;have c:=h.bH x x0 x1 x2;have a2:(s.lay (s.cX n) p m).left (s.lay (s.cX n) p m).pr x=s.left s.pr x+if x=n then p else 0:=a
 have b2:(s.lay (s.cX n) p m).left (s.lay (s.cX n) p m).pg x=s.left s.pg x+if x=n then m else 0:=b
 rw[a2,b2];by_cases hx:x=n
 ·subst hx;rw[if_pos rfl,if_pos rfl];exact⟨hp,hm⟩
 ·rw[if_neg hx,if_neg hx];omega
def Inv.aP{s:TG}(h:s.Inv)(n p m:Int):(s.aP n p m).Inv:=by
 unfold TG.aP;split
 ·rename_i h0;obtain⟨⟨n0,n1,n2⟩,p0,p1,m0,m1⟩:=q7 h0;have:=h.bH n n0 n1 n2;exact h.lay n0 n1 n2 og og
 ·exact h
def Mt{p m:Int}(h:s.gk n p m=0):p<=s.left s.pr n/\m<=s.left s.pg n:=by
 grind [gk]
theorem Inv.cR{s:TG}(h:s.Inv)(n p m:Int):(s.cR n p m).Inv:=by
 unfold TG.cR;split
 ·rename_i h0;obtain⟨⟨n0,n1,n2⟩,p0,p1,m0,m1⟩:=vj h0;have:=Mt h0;exact h.lay n0 n1 n2 og og
 ·exact h
def Inv.move{s:TG}(h:s.Inv)(a b p m:Int):(s.move a b p m).Inv:=by
 unfold TG.move;split
 ·exact h
 ·split
  ·exact(h.cR _ _ _).aP _ _ _
  ·exact h
def Inv.jD{s:TG}(h:s.Inv)(n p m:Int):(s.jD n p m).Inv:=by
 unfold TG.jD;split
 ·exact⟨⟨h.ok.qm,h.ok.uf⟩,h.bH⟩
 ·exact h
def Mu(h:s.ud a=0):s.cC a=0/\¬(s.cX a).length=4/\0<=s.gL a/\s.gL a<10/\s.aa (s.gL a)=false/\s.free=some (s.gL a).toNat:=by
 have h':=h;unfold ud at h;split at h
 ·omega
 ·split at h
  ·omega
  ·split at h
   ·omega
   ·rename_i h1 h2 h3;cases hf:s.free with
    | none=>exact absurd hf h3
    | some k=>
     have e:s.gL a=(k:Int):=by unfold gL;rw[if_pos h',hf];rfl
     have Sq:=hf;unfold free dW at Sq;rw[List.find?_range_eq_some]at Sq;have hk:k<10:=by simpa using Sq.2.1
     have hh:s.aa (k:Int)=false:=by simpa using Sq.1
     rw[e];exact⟨og,h2,og,og,hh,sq⟩
theorem Ok.len(h:s.Ok){d:Int->Nat}(d0:d 0=1)(hd:∀ n,0<=n->n<10->s.aa n=true->1<=d n/\d n<=4/\(n≠0->0<=s.aA n/\s.aA n<10/\s.aa (s.aA n)=true/\d n=d (s.aA n)+1))(h0:0<=n)(h1:n<10)(h2:s.aa n=true):(s.cX n).length=d n:=
 (h.Ud 5 (d n) (by have:=(hd n h0 h1 h2).2.1;omega) d d0 hd n h0 h1 h2 rfl).2.1
theorem Ok.put{s:TG}(h:s.Ok){a k:Int}(ha:s.cC a=0)(hl:¬(s.cX a).length=4)(k0:0<=k)(k1:k<10)(hk:s.aa k=false):(s.put k a).Ok:=by
 obtain⟨a0,a1,a2⟩:=jq ha;obtain⟨d,d0,hd⟩:=h.uf;have hlen:=h.len d0 hd a0 a1 a2;have hda:=hd a a0 a1 a2;have hk0:k≠0:=fun e=>by subst e;rw[h.qm.1]at hk;cases hk
 have hka:a≠k:=fun e=>by subst e;rw[a2]at hk;cases hk
 refine⟨⟨?_,?_⟩,fun x=>if x=k then d a+1 else d x,?_,fun n n0 n1 n2=> ?_⟩
 ·show ad s.aa k true 0=true;grind [ae]
 ·show ad s.aA k a 0= -1;grind [ae,Ok.qm]
 ·grind
 ·have e1:(s.put k a).aA n=ad s.aA k a n:=rfl;have e2:∀ x,(s.put k a).aa x=ad s.aa k true x:=fun _=>rfl;grind [aj,ae]
theorem yx(h:s.Ok){k:Int}(hk:s.aa k=false)(f:Int->Int){x:Int}(hx:s.aa x=true):(s.put k a).left (ad f k 0) x=s.left f x:=by
 have hxk:x≠k:=fun e=>by subst e;rw[hx]at hk;cases hk
 unfold left;rw[ae _ _ hxk];congr 1;refine di 10 fun j j0 j1=> ?_;unfold gF;show(if ad s.aa k true j=true/\ad s.aA k a j=x then ad f k 0 j else 0)=_;grind [ad]
theorem yy(h:s.Ok){k:Int}(hk:s.aa k=false)(hk0:0<=k)(hka:a≠k)(f:Int->Int):(s.put k a).left (ad f k 0) k=0:=by
 unfold left;rw[aj,fw]
 ·rfl
 ·intro j j0 j1;unfold gF;show(if ad s.aa k true j=true/\ad s.aA k a j=k then ad f k 0 j else 0)=0;grind [Ok.qm,Ok.Dk,ad]
theorem Inv.add{s:TG}(h:s.Inv)(a:Int):(s.add a).Inv:=by
 unfold TG.add;split
 ·rename_i h0;obtain⟨e1,e2,e3,e4,e5,_⟩:=Mu h0;have tv:=h.ok.put e1 e2 e3 e4 e5;refine⟨tv,fun x x0 x1 x2=> ?_⟩;show 0<=(s.put (s.gL a) a).left (ad s.pr (s.gL a) 0) x/\0<=(s.put (s.gL a) a).left (ad s.pg (s.gL a) 0) x;by_cases hx:x=s.gL a
  ·have ha:a≠s.gL a:=fun e=>by
    have:=(jq e1).2.2;rw[e,e5]at this;cases this
   rw[hx,yy h.ok e5 e3 ha,yy h.ok e5 e3 ha];omega
  ·have wE:s.aa x=true:=by
    have:(s.put (s.gL a) a).aa x=ad s.aa (s.gL a) true x:=rfl;rw[this,ae _ _ hx]at x2;exact x2
   rw[yx h.ok e5 _ wE,yx h.ok e5 _ wE];exact h.bH x x0 x1 wE
 ·exact h
def Ah(h:s.dz n=0):s.cC n=0/\n≠0/\¬ 0<s.pr n/\¬ 0<s.pg n/\s.Hr n=false:=by
 grind [dz]
theorem UG(h:s.Hr n=false){j:Int}(j0:0<=j)(j1:j<10)(j2:s.aa j=true):s.aA j≠n:=fun e=>by
 grind [On]
theorem Ok.drop{t:TG}(h:s.Ok)(hn:n≠0)(hk:s.Hr n=false)(hh:t.aa=ad s.aa n false)(hp:∀ x,x≠n->t.aA x=s.aA x):t.Ok:=by
 obtain⟨d,d0,hd⟩:=h.uf;refine⟨⟨by rw[hh,ae _ _ (Ne.symm hn)];exact h.qm.1,by rw[hp 0 (Ne.symm hn)];exact h.qm.2⟩,d,d0,fun x x0 x1 x2=> ?_⟩;have hx:x≠n:=fun e=>by subst e;rw[hh,aj]at x2;cases x2
 rw[hh,ae _ _ hx]at x2;have h4:=hd x x0 x1 x2;rw[hp x hx];refine⟨h4.1,h4.2.1,fun q=> ?_⟩;obtain⟨p0,p1,p2,p3⟩:=h4.2.2 q;refine⟨p0,p1,?_,p3⟩;rw[hh,ae _ _ (UG hk x0 x1 x2)];exact p2
def Inv.du{s:TG}(h:s.Inv)(n:Int):(s.du n).Inv:=by
 unfold TG.du;split
 ·rename_i h0;obtain⟨e1,e2,e3,e4,e5⟩:=Ah h0;obtain⟨n0,n1,n2⟩:=jq e1;have hnn:=h.nn n0 n1 n2;refine⟨h.ok.drop (t:=s.Bb n) e2 e5 rfl fun x hx=>ae _ _ hx,fun x x0 x1 x2=> ?_⟩;have hx:x≠n:=fun e=>by
   subst e;have:(s.Bb x).aa x=ad s.aa x false x:=rfl;rw[this,aj]at x2;cases x2
  have x3:s.aa x=true:=by
   have:(s.Bb n).aa x=ad s.aa n false x:=rfl;rw[this,ae _ _ hx]at x2;exact x2
  have ig:∀ f:Int->Int,f n=0->(s.Bb n).left (ad f n 0) x=s.left f x:=fun f hf=>by
   unfold left;rw[ae _ _ hx];congr 1;refine di 10 fun j j0 j1=> ?_;unfold gF;show(if ad s.aa n false j=true/\ad s.aA n 0 j=x then ad f n 0 j else 0)=_;by_cases hj:j=n
   ·subst hj;rw[aj];simp[hf]
   ·rw[ae _ _ hj,ae _ _ hj,ae _ _ hj]
  have h9:=h.bH x x0 x1 x3;show 0<=(s.Bb n).left (ad s.pr n 0) x/\0<=(s.Bb n).left (ad s.pg n 0) x;rw[ig _ og,ig _ og];exact h9
 ·exact h
theorem Ai(n:Int):TG.cP.aa n=decide (n=0):=by
 rfl
theorem Inv.cP:TG.cP.Inv:=by
 have hh:∀ n:Int,TG.cP.aa n=true->n=0:=fun n h=>by rw[Ai]at h;simpa using h
 refine⟨⟨⟨by rw[Ai];rfl,rfl⟩,fun _=>1,rfl,fun n n0 n1 n2=> ?_⟩,fun n n0 n1 n2=> ?_⟩
 ·grind
 ·have:=hh n n2;subst this;decide+kernel
theorem bU.cP:TG.cP.bU 0:=fun n h0 h1=>by
 have:n=0\/n=1\/n=2\/n=3\/n=4\/n=5\/n=6\/n=7\/n=8\/n=9:=og;rcases this with rfl | rfl | rfl | rfl | rfl | rfl | rfl | rfl | rfl | rfl<;>decide+kernel
theorem bU.add{s:TG}{B:Int}(h:s.bU B)(hB:0<=B)(a:Int):(s.add a).bU B:=by
 unfold TG.add;split
 ·intro n h0 h1;show-B<=ad s.pr _ 0 n/\ad s.pr _ 0 n<=B/\ -B<=ad s.pg _ 0 n/\ad s.pg _ 0 n<=B;grind [ad,bU]
 omega
def bU.du{s:TG}{B:Int}(h:s.bU B)(hB:0<=B)(a:Int):(s.du a).bU B:=by
 unfold TG.du;split
 ·intro n h0 h1;show-B<=ad s.pr _ 0 n/\ad s.pr _ 0 n<=B/\ -B<=ad s.pg _ 0 n/\ad s.pg _ 0 n<=B;grind [ad,bU]
 omega
def bU.jD{s:TG}{B:Int}(h:s.bU B)(n p m:Int):(s.jD n p m).bU B:=by
 unfold TG.jD;split<;>exact h
def bU.move{s:TG}{B:Int}(h:s.bU B)(hO:s.Ok)(a b p m:Int):(s.move a b p m).bU (B+640):=by
 unfold TG.move;split
 ·grind [bU]
 ·split
  ·exact((h.cR hO a p m).aP hO.cR b p m).mono og
  grind [bU]
end TG
end Go.X.Gr

namespace Go.X.Kn
open Go Go.X Go.X.Sg Go.X.Vm
variable{i n z:Int}
structure PU where
 st:Int
 aA:Int
 cB:Int
 km:Int
 mem:Value
 fd:Int->Int
 bx:BS
structure KP where
 u:Int->PU
 gb:Nat
 sb:Nat
 qb:Nat
 bb:Nat
 tb:Nat
 pi:Nat
 ob:Nat
 ms:Int->Value
def PU.nil:PU:=⟨0,0,0,0,.pointer none,fun _=>0,BS.cP⟩
def PU.cell(u:PU)(j:Nat):Value:=
 if j=0 then iI u.st else if j=1 then iI u.aA else if j=2 then iI u.cB else if j=3 then iI u.km else
 if j=4 then u.mem else if j<11 then iI (u.fd ((j-5:Nat):Int))else Sg.fF u.bx (j-11)
def aD(k:KP)(i:Nat):Value:=
 if i<440 then(k.u ((i/22:Nat):Int)).cell (i%22)else
 if i=440 then ay k.gb 0 0 else if i=441 then ay k.sb 0 0 else if i=442 then ay k.qb 0 0 else if i=443 then ay k.bb 0 0 else
 if i=444 then ay k.tb 0 0 else if i=445 then ay k.pi 0 0 else if i=446 then ay k.ob 0 0 else
 if i<453 then k.ms ((i-447:Nat):Int)else undef
def KP.put(k:KP)(n:Int)(u:PU):KP:= {k with u:=ad k.u n u}
theorem KP.sW(k:KP)(n:Int)(u:PU):(k.put n u).u n=u:=aj _ _ _
theorem KP.Aj(k:KP){m:Int}(u:PU)(h:¬m=n):(k.put n u).u m=k.u m:=ae _ _ h
theorem KP.HE(k:KP)(n:Int)(u v:PU):(k.put n u).put n v=k.put n v:=by
 show({k with u:=ad (ad k.u n u) n v} :KP)= {k with u:=ad k.u n v};have e:ad (ad k.u n u) n v=ad k.u n v:=by
  grind [aj,ae]
 rw[e]
def Bk(k:KP)(n:Int):k.put n (k.u n)=k:=by
 unfold KP.put;rw[cH k.u rfl]
theorem aD.at_(k:KP)(h:0<=n/\n<20){j:Nat}(hj:j<22):aD k (0+0+n.toNat*22+j)=(k.u n).cell j:=by
 grind [aD]
def gB(k:KP)(h:0<=n/\n<20:=by omega):0+0+n.toNat*22+0<453/\aD k (0+0+n.toNat*22+0)=iI (k.u n).st:=⟨og,aD.at_ k h og⟩
def me(k:KP)(h:0<=n/\n<20:=by omega):0+0+n.toNat*22+1<453/\aD k (0+0+n.toNat*22+1)=iI (k.u n).aA:=⟨og,aD.at_ k h og⟩
def dw(k:KP)(h:0<=n/\n<20:=by omega):0+0+n.toNat*22+2<453/\aD k (0+0+n.toNat*22+2)=iI (k.u n).cB:=⟨og,aD.at_ k h og⟩
def wg(k:KP)(h:0<=n/\n<20:=by omega):0+0+n.toNat*22+3<453/\aD k (0+0+n.toNat*22+3)=iI (k.u n).km:=⟨og,aD.at_ k h og⟩
def dm(k:KP)(h:0<=n/\n<20){b:Nat}(e:(k.u n).mem=ay b 0 0):0+0+n.toNat*22+4<453/\aD k (0+0+n.toNat*22+4)=ay b 0 0:=⟨og,(aD.at_ k h og).trans e⟩
def uj(k:KP)(h:0<=n/\n<20:=by omega)(hi:0<=i/\i<6:=by omega):0+0+n.toNat*22+5+i.toNat*1<453/\aD k (0+0+n.toNat*22+5+i.toNat*1)=iI ((k.u n).fd i):=⟨og,by
 rw[show 0+0+n.toNat*22+5+i.toNat*1=0+0+n.toNat*22+(5+i.toNat)from og,aD.at_ k h og]
 unfold PU.cell
 rw[if_neg og,if_neg og,if_neg og,if_neg og,if_neg og,if_pos og,show((5+i.toNat-5:Nat):Int)=i from og]⟩
abbrev Sx(f:Int->Int):Array Value:=wF f 6
def sx(k:KP)(h:0<=n/\n<20:=by omega):0+0+n.toNat*22+5+6<=453/\dv (aD k) (0+0+n.toNat*22+5) 6= .agg (Sx (k.u n).fd):=by
 refine⟨og,?_⟩;have e:=fun (j:Nat) (hj:j<6)=>aD.at_ k h (j:=5+j) og;unfold dv;simp only[List.range,List.range.loop,List.map_cons,List.map_nil,Nat.add_zero];rw[show 0+0+n.toNat*22+5=0+0+n.toNat*22+(5+0)from rfl,e 0 og];rw[show 0+0+n.toNat*22+(5+0)+1=0+0+n.toNat*22+(5+1)from rfl,e 1 og];rw[show 0+0+n.toNat*22+(5+0)+2=0+0+n.toNat*22+(5+2)from rfl,e 2 og];rw[show 0+0+n.toNat*22+(5+0)+3=0+0+n.toNat*22+(5+3)from rfl,e 3 og];rw[show 0+0+n.toNat*22+(5+0)+4=0+0+n.toNat*22+(5+4)from rfl,e 4 og];rw[show 0+0+n.toNat*22+(5+0)+5=0+0+n.toNat*22+(5+5)from rfl,e 5 og];rfl
def eA(k:KP):0+440<453/\aD k (0+440)=ay k.gb 0 0:=⟨og,rfl⟩
def aD.uk(k:KP):0+441<453/\aD k (0+441)=ay k.sb 0 0:=⟨og,rfl⟩
def eB(k:KP):0+442<453/\aD k (0+442)=ay k.qb 0 0:=⟨og,rfl⟩
def aD.Ae(k:KP):0+443<453/\aD k (0+443)=ay k.bb 0 0:=⟨og,rfl⟩
def aD.BM(k:KP):0+444<453/\aD k (0+444)=ay k.tb 0 0:=⟨og,rfl⟩
def gN(k:KP):0+446<453/\aD k (0+446)=ay k.ob 0 0:=⟨og,rfl⟩
def J2(k:KP)(h:0<=z/\z<6):0+447+z.toNat*1<453/\aD k (0+447+z.toNat*1)=k.ms z:=by grind [aD]
def aD.zI(k:KP)(h:0<=n/\n<20)(u:PU)(C:Nat->Value)(h1:∀ j,j<22->C (0+0+n.toNat*22+j)=u.cell j)(h2:∀ i,(i<n.toNat*22\/n.toNat*22+22<=i)->C i=aD k i):C=aD (k.put n u):=by
 funext i;by_cases c:n.toNat*22<=i/\i<n.toNat*22+22
 ·have e1:=h1 (i-n.toNat*22) og;have e2:=aD.at_ (k.put n u) h (j:=i-n.toNat*22) og;rw[show 0+0+n.toNat*22+(i-n.toNat*22)=i from og]at e1 e2;grind [KP.sW]
 ·rw[h2 i og];unfold aD;grind [KP.Aj,KP.put]
def pq(k:KP)(h:0<=n/\n<20){j:Nat}(hj:j<22){v:Value}(u:PU)(hv:u.cell j=v)(ho:∀ i,i<22->¬i=j->u.cell i=(k.u n).cell i):dP (aD k) (0+0+n.toNat*22+j) v=aD (k.put n u):=by
 refine aD.zI k h u _ (fun i hi=> ?_) fun i hi=> ?_;all_goals grind [dP,aD.at_]
def J3(k:KP)(h:0<=n/\n<20)(v:Int):0+0+n.toNat*22+0<453/\dP (aD k) (0+0+n.toNat*22+0) (iI v)=aD (k.put n {k.u n with st:=v}):=
 ⟨og,pq k h og _ rfl fun i _ c=>by unfold PU.cell;rw[if_neg c,if_neg c]⟩
def yz(k:KP)(h:0<=n/\n<20)(v:Int):0+0+n.toNat*22+1<453/\dP (aD k) (0+0+n.toNat*22+1) (iI v)=aD (k.put n {k.u n with aA:=v}):=
 ⟨og,pq k h og _ rfl fun i _ c=>by unfold PU.cell;rw[if_neg (c:=i=1) c,if_neg (c:=i=1) c]⟩
def HF(k:KP)(h:0<=n/\n<20)(v:Int):0+0+n.toNat*22+2<453/\dP (aD k) (0+0+n.toNat*22+2) (iI v)=aD (k.put n {k.u n with cB:=v}):=
 ⟨og,pq k h og _ rfl fun i _ c=>by unfold PU.cell;rw[if_neg (c:=i=2) c,if_neg (c:=i=2) c]⟩
def E9(k:KP)(h:0<=n/\n<20)(v:Int):0+0+n.toNat*22+3<453/\dP (aD k) (0+0+n.toNat*22+3) (iI v)=aD (k.put n {k.u n with km:=v}):=
 ⟨og,pq k h og _ rfl fun i _ c=>by unfold PU.cell;rw[if_neg (c:=i=3) c,if_neg (c:=i=3) c]⟩
def lM(k:KP)(h:0<=n/\n<20)(hi:0<=i/\i<6)(v:Int):0+0+n.toNat*22+5+i.toNat*1<453/\dP (aD k) (0+0+n.toNat*22+5+i.toNat*1) (iI v)=aD (k.put n {k.u n with fd:=ad (k.u n).fd i v}):=by
 refine⟨og,?_⟩;rw[show 0+0+n.toNat*22+5+i.toNat*1=0+0+n.toNat*22+(5+i.toNat)from og];refine pq k h og _ ?_ fun j hj c=> ?_;all_goals grind [PU.cell,aj,ae]
theorem B4:∀ (l:List Value) (C:Nat->Value) (i j:Nat),cD C i l j=if i<=j/\j<i+l.length then l.getD (j-i) undef else C j
 | [],C,i,j=>by rw[cD,if_neg (by simp only[List.length_nil];omega)]
 | v::r,C,i,j=>by
  rw[cD,B4 r];by_cases c:j=i
  ·subst c;rw[if_neg og,if_pos sq];unfold dP;rw[if_pos rfl];simp
  ·by_cases d:i+1<=j/\j<i+1+r.length
   ·rw[if_pos d,if_pos eW,show j-i=(j-(i+1))+1 from og];simp
   ·rw[if_neg d,if_neg eW];unfold dP;rw[if_neg c]
def PU.cF(u:PU):Array Value:=((List.range 22).map u.cell).toArray
def aD.Dm(k:KP)(h:0<=n/\n<20)(u:PU):0+0+n.toNat*22+22<=453/\cD (aD k) (0+0+n.toNat*22) u.cF.toList=aD (k.put n u):=by
 refine⟨og,aD.zI k h u _ (fun j hj=> ?_) fun i hi=> ?_⟩
 ·simp_all[B4,PU.cF]
 ·rw[B4,if_neg (by simp[PU.cF];omega)]
abbrev jV(n:Int):Nat:=0+0+n.toNat*22+11
def KP.box(k:KP)(n:Int)(b:BS):KP:=k.put n {k.u n with bx:=b}
theorem Dn(k:KP)(h:0<=n/\n<20){i:Nat}(hi:i<11):aD k (jV n+i)=Sg.fF (k.u n).bx i:=by
 grind [PU.cell,aD]
theorem QM(k:KP)(b:BS)(h:0<=n/\n<20){i:Nat}(hi:i<jV n\/jV n+11<=i):aD (k.box n b) i=aD k i:=by
 by_cases c:n.toNat*22<=i/\i<n.toNat*22+22
 ·grind [KP.box,KP.sW,PU.cell,aD]
 ·unfold aD;split
  ·grind [KP.box,KP.Aj]
  rfl
section
variable {W w:World} {S:Nat->Nat->Prop} {H F:List aG}
def XM.BX{b o n:Nat}{C C':Nat->Value}(hC:∀ i,i<n->C i=C' i)(h:XM W S (.cells b o n C::H) w):XM W S (.cells b o n C'::H) w:=Fa.XM.BX hC h
def kn{b:Nat}{k:KP}(hn:0<=n/\n<20)(hp:cG H [.cells b 0 453 (aD k)] F)(h:XM W S H w):XM W S (.cells b (0+jV n) 11 (Sg.fF (k.u n).bx):: .cells b 0 (jV n) (aD k):: .cells b (0+jV n+11) (453-jV n-11) (fun i=>aD k (jV n+11+i))::F) w:=by
 have L5:jV n+11<=453:=by unfold jV;omega
 have h2:=XM.part (n:=453) (off:=jV n) (m:=11) L5 (h.cb hp.cb);exact XM.BX (C':=Sg.fF (k.u n).bx) (fun i hi=>Dn k hn hi) h2
theorem mU{b:Nat}{k:KP}{x:BS}(hn:0<=n/\n<20)(hp:cG H [.cells b (0+jV n) 11 (Sg.fF x),.cells b 0 (jV n) (aD k),.cells b (0+jV n+11) (453-jV n-11) fun i=>aD k (jV n+11+i)] F)(h:XM W S H w):XM W S (.cells b 0 453 (aD (k.box n x))::F) w:=by
 have L5:jV n+11<=453:=by unfold jV;omega
 refine XM.BF (n:=453) (off:=jV n) (m:=11) L5 (fun i hi=> ?_) (fun i hi=> ?_) (fun i hi=> ?_) (h.cb hp.cb) og;all_goals grind [QM,Dn,KP.box,KP.sW]
theorem J4(k:KP)(n:Int):k.box n (k.u n).bx=k:=Bk k n
end
def KP.aB(k:KP)(n:Int):Int:=if n<0\/20<=n then 1 else if(k.u n).st=1 then 0 else 2
def bE{k:KP}(h:k.aB n=0):(0<=n/\n<20)/\(k.u n).st=1:=by
 grind [KP.aB]
def KP.Oy{k:KP}(h:0<=n/\n<20)(e:(k.u n).st=1):k.aB n=0:=by grind [KP.aB]
def KP.Ga(k:KP)(s:Sp.SS)(n q:Int):Int×Int:=
 if k.aB n≠0 then(0,k.aB n)else if(s.find (s.bS n).1 q).2≠0 then(0,(s.find (s.bS n).1 q).2)else
 if(k.u (s.find (s.bS n).1 q).1).st=1 then((s.find (s.bS n).1 q).1,0)else(0,8)
def Bl{s:Sp.SS}{aV:Int->Nat}(h:s.Inv aV){a q:Int}(e:(s.find a q).2=0):(0<=(s.find a q).1/\(s.find a q).1<20)/\s.dE a q=(s.find a q).1/\(0<=a/\a<6/\s.aa a=true)/\1<=q/\q<=20:=by
 have hb:=h.W8 a q;unfold Sp.SS.find at e ⊢;split at e
 ·omega
 ·rename_i c;have hi:(0<=a/\a<6)/\s.aa a=true:=by
   have c:s.is a=0:=og;unfold Sp.SS.is at c;grind
  grind
def Yx(b:BS):Array Value:= #[.int .u16 ((Sg.pM b.dX:Nat):Int),.int .u16 ((Sg.pM b.bj:Nat):Int),iI (b.kf 0),iI (b.kf 1),iI (b.kf 2),iI (b.kf 3),iI (b.kf 4),iI (b.kf 5),iI (b.kf 6),iI (b.kf 7),iI (b.kf 8)]
def J5(k:KP)(h:0<=n/\n<20):0+0+n.toNat*22+11+11<=453/\dv (aD k) (0+0+n.toNat*22+11) 11= .agg (Yx (k.u n).bx):=by
 refine⟨og,?_⟩;have e:=(mP (k.u n).bx).2;grind [Yx,dv,List.map_congr_left,Dn]
section
variable {W w:World} {S:Nat->Nat->Prop} {H F:List aG}
def nD{b:Nat}{k:KP}(hn:0<=n/\n<20)(hp:cG H [.cells b (0+jV n) 11 (Sg.fF (k.u n).bx),.cells b 0 (jV n) (aD k),.cells b (0+jV n+11) (453-jV n-11) fun i=>aD k (jV n+11+i)] F)(h:XM W S H w):XM W S (.cells b 0 453 (aD k)::F) w:=by
 grind [mU,J4]
end
theorem Mv{s:Sp.SS}(h:(s.drop z).1≠0):(s.drop z).2=s:=by
 unfold Sp.SS.drop at h ⊢;grind
def KP.kL(k:KP)(n h i:Int):KP:= {k with u:=fun j=>if 0<=j/\j<i/\(k.u j).st≠0/\(k.u j).aA=n then {k.u j with aA:=h} else k.u j}
theorem wh(k:KP)(n h:Int):k.kL n h 0=k:=by
 have e:(fun j=>if 0<=j/\j<0/\(k.u j).st≠0/\(k.u j).aA=n then {k.u j with aA:=h} else k.u j)=k.u:=by
  grind
 simp_all[KP.kL]
theorem jg(k:KP)(n h:Int){j:Int}(hj:i<=j):(k.kL n h i).u j=k.u j:=by
 grind [KP.kL]
theorem KP.Gb(k:KP)(n h:Int)(hi:0<=i)(h1:(k.u i).st≠0)(h2:(k.u i).aA=n):(k.kL n h i).put i {(k.kL n h i).u i with aA:=h} =k.kL n h (i+1):=by
 show({k with u:=ad (k.kL n h i).u i {(k.kL n h i).u i with aA:=h}} :KP)= {k with u:=(k.kL n h (i+1)).u};have e:ad (k.kL n h i).u i {(k.kL n h i).u i with aA:=h} =(k.kL n h (i+1)).u:=by
  grind [aj,ae,KP.kL]
 rw[e]
theorem nj(k:KP)(n h:Int)(hc:¬((k.u i).st≠0/\(k.u i).aA=n)):k.kL n h (i+1)=k.kL n h i:=by
 grind [KP.kL]
structure UH (b:BS):Prop where
 z:b.dX 0=false
 e:b.first 0=0
 gF:(b.send 3).2=b
theorem UH.cP:UH BS.cP:=⟨rfl,dk,by unfold BS.send;rw[if_pos dq,if_pos dq]⟩
def bu{α:Type}(f:Nat->α)(z:Nat)(m:α):Nat->α:=fun j=>if j=z then m else f j
theorem lz{α:Type}(f:Nat->α)(z:Nat)(m:α):bu f z m z=m:=if_pos rfl
theorem iA{α:Type}(f:Nat->α){z j:Nat}(m:α)(h:j≠z):bu f z m j=f j:=if_neg h
theorem jG{α:Type}(f:Nat->α)(z:Nat):bu f z (f z)=f:=by
 grind [bu]
theorem QN(g:Nat->Nat)(z b:Nat):I8 g z b=bu g z b:=by
 grind [u5,rO,bu]
abbrev cN(bb:Nat)(f:Nat->Vm.MS)(ps:Nat->Option Addr)(cs:Nat->Nat):Nat->Nat->Value:=fun j=>b7 bb (ps j) (Vm.ai (f j).az).length (cs j) (f j).fr (f j).bH
abbrev rN(e:TypeId)(f:Nat->Vm.MS)(ps:Nat->Option Addr)(cs:Nat->Nat):Nat->qh:=fun j=>⟨.slice (ps j) (Vm.ai (f j).az).length (cs j),e,3,(Vm.ai (f j).az).length,bZ (fm (Vm.ai (f j).az)) ((Vm.ai (f j).az).length*3)⟩
theorem acg(bb:Nat)(f:Nat->Vm.MS)(ps:Nat->Option Addr)(cs:Nat->Nat)(z:Nat)(m:Vm.MS)(p:Option Addr)(c:Nat):I7 (cN bb f ps cs) z (b7 bb p (Vm.ai m.az).length c m.fr m.bH)=cN bb (bu f z m) (bu ps z p) (bu cs z c):=by
 grind [G9,Ha,bu]
theorem ach(e:TypeId)(f:Nat->Vm.MS)(ps:Nat->Option Addr)(cs:Nat->Nat)(z:Nat)(m:Vm.MS)(p:Option Addr)(c:Nat):BE (rN e f ps cs) z ⟨.slice p (Vm.ai m.az).length c,e,3,(Vm.ai m.az).length,bZ (fm (Vm.ai m.az)) ((Vm.ai m.az).length*3)⟩=rN e (bu f z m) (bu ps z p) (bu cs z c):=by
 grind [ng,lV,bu]
theorem UI(p:Option Addr)(c:Nat)(e:TypeId)(k:Nat)(C:Nat->Value):aL p c e 3 k C=qh.CA ⟨.slice p k c,e,3,k,bZ C (k*3)⟩:=rfl
abbrev J6(P:Nat->Bool)(bb:Nat)(e:TypeId)(mb:Nat->Nat)(f:Nat->Vm.MS)(ps:Nat->Option Addr)(cs:Nat->Nat):List aG:=[.dG P mb 34 (cN bb f ps cs),.aQ P (rN e f ps cs)]
abbrev UJ(bb b:Nat)(e:TypeId)(m:Vm.MS)(p:Option Addr)(c:Nat):List aG:=[.cells b 0 34 (b7 bb p (Vm.ai m.az).length c m.fr m.bH),aL p c e 3 (Vm.ai m.az).length (fm (Vm.ai m.az))]
section
variable {W w:World} {S:Nat->Nat->Prop} {H H0:List aG} {bb:Nat} {e:TypeId} {mb:Nat->Nat} {f:Nat->Vm.MS} {ps:Nat->Option Addr} {cs:Nat->Nat} {P:Nat->Bool}
def jR{z:Nat}(hz:P z=true)(hp:cG H0 (J6 P bb e mb f ps cs) H)(h:XM W S H0 w):XM W S (.cells (mb z) 0 34 (b7 bb (ps z) (Vm.ai (f z).az).length (cs z) (f z).fr (f z).bH)::aL (ps z) (cs z) e 3 (Vm.ai (f z).az).length (fm (Vm.ai (f z).az)):: .dG (ji P z) mb 34 (cN bb f ps cs):: .aQ (ji P z) (rN e f ps cs)::H) w:=by
 have h0:XM W S (.dG P mb 34 (cN bb f ps cs):: .aQ P (rN e f ps cs)::H) w:=h.cb hp.cb;have h1:=CB z hz h0;have h2:=h1.cb (pk [2]).cb;simp only[List.cons_append,List.nil_append]at h2;have h3:=oK z hz h2;have h4:=h3.cb (pk [2,0,1,0]).cb;simp_all
def B5{z b:Nat}(m:Vm.MS){p:Option Addr}{c:Nat}(hz:P z=false)(hp:cG H0 (UJ bb b e m p c++J6 P bb e mb f ps cs) H)(h:XM W S H0 w):XM W S (J6 (Fz P z) bb e (bu mb z b) (bu f z m) (bu ps z p) (bu cs z c)++H) w:=by
 have h:XM W S (.cells b 0 34 (b7 bb p (Vm.ai m.az).length c m.fr m.bH)::aL p c e 3 (Vm.ai m.az).length (fm (Vm.ai m.az)):: .dG P mb 34 (cN bb f ps cs):: .aQ P (rN e f ps cs)::H) w:=h.cb hp.cb;have h0:=h.cb (pk [0,1]).cb;simp only[List.cons_append,List.nil_append]at h0;have h1:=FB z og hz h0;have h2:=h1.cb (pk [1,1]).cb;simp only[List.cons_append,List.nil_append]at h2;rw[UI]at h2;have h3:=qG z hz h2;have h4:=h3.cb (pk [1,0]).cb;simp_all[acg,ach,QN]
def mf{z:Nat}(m:Vm.MS){p:Option Addr}{c:Nat}(hz:P z=true)(hp:cG H0 (UJ bb (mb z) e m p c++J6 (ji P z) bb e mb f ps cs) H)(h:XM W S H0 w):XM W S (J6 P bb e mb (bu f z m) (bu ps z p) (bu cs z c)++H) w:=by
 have h1:=B5 m (uZ _ _) hp h;grind [FA,jG]
def QO{b z:Nat}(m:Vm.MS){p:Option Addr}{c:Nat}(hp:cG H0 (UJ bb b e m p c) H)(h:XM W S H0 w):XM W S (J6 (Fz (fun _=>false) z) bb e (bu (fun _=>0) z b) (bu (fun _=>m) z m) (bu (fun _=>none) z p) (bu (fun _=>0) z c)++H) w:=by
 have h0:XM W S (UJ bb b e m p c++H) w:=h.cb hp.cb;have h1:XM W S (.dG (fun _=>false) (fun _=>0) 34 (cN bb (fun _=>m) (fun _=>none) fun _=>0):: .aQ (fun _=>false) (rN e (fun _=>m) (fun _=>none) fun _=>0):: .cells b 0 34 (b7 bb p (Vm.ai m.az).length c m.fr m.bH)::aL p c e 3 (Vm.ai m.az).length (fm (Vm.ai m.az))::H) w:=CC (FD h0);exact B5 m rfl (pk [2,2,0,0]) h1
end
def tB(a b:Int):Nat->Value:=fun i=>if i=0 then iI a else if i=1 then iI b else undef
def tB.agg(a b:Int):0+2<=2/\dv (tB a b) 0 2= .agg #[iI a,iI b]:=⟨og,rfl⟩
theorem tB.st(a b c d:Int):0+2<=2/\cD (tB a b) 0 [iI c,iI d]=tB c d:=⟨og,by
 funext i
 match i with
 | 0=>rfl
 | 1=>rfl
 | i+2=>simp[cD,dP,tB]⟩
def tB.B6(a b:Int):0+0<2/\tB a b (0+0)=iI a:=⟨og,rfl⟩
theorem tB.box:∀ i,i<2->cellsOf #[iI 0,iI 0] i=tB 0 0 i:=fun i h=>match i,h with
 | 0,_=>rfl
 | 1,_=>rfl
 | k+2,h=>absurd h og
def UK(u:PU):0+5+6<=22/\dv u.cell (0+5) 6= .agg (Sx u.fd):=⟨og,rfl⟩
def PU.agg(u:PU):0+22<=22/\dv u.cell 0 22= .agg u.cF:=by grind [dv,PU.cF]
theorem Bm(u:PU){i:Nat}(h:22<=i:=by omega):u.cell i=undef:=by
 unfold PU.cell;rw[if_neg og,if_neg og,if_neg og,if_neg og,if_neg og,if_neg og];exact JB _ og
theorem Mw(u:PU):u.cF.toList.length=22:=by simp[PU.cF]
def PU.Dm(v u:PU):0+22<=22/\cD v.cell 0 u.cF.toList=u.cell:=⟨og,by
 funext i
 rw[B4,Mw]
 by_cases h:i<22
 ·rw[if_pos og,Nat.sub_zero]
  unfold PU.cF
  rw[List.getD_eq_getElem?_getD,List.toList_toArray,List.getElem?_map,List.getElem?_range h];rfl
 ·rw[if_neg og,Bm v,Bm u]⟩
theorem PU.box(u:PU):∀ i,i<22->cellsOf u.cF i=u.cell i:=fun i hi=>by
 simp_all[cellsOf,PU.cF]
section
variable {W w:World} {S:Nat->Nat->Prop} {H H0:List aG} {bb:Nat} {e:TypeId} {mb:Nat->Nat} {f:Nat->Vm.MS} {ps:Nat->Option Addr} {cs:Nat->Nat} {P:Nat->Bool}
def nF{z:Nat}(hz:P z=true)(hp:cG H0 (UJ bb (mb z) e (f z) (ps z) (cs z)++J6 (ji P z) bb e mb f ps cs) H)(h:XM W S H0 w):XM W S (J6 P bb e mb f ps cs++H) w:=by
 have h1:=mf (f z) hz hp h;simp_all[jG]
end
def KP.gF(k:KP)(n:Int)(nb:Nat):PU:=⟨1,n,(k.u n).cB,0,ay nb 0 0,(k.u n).fd,(k.u n).bx.bA⟩
def uo(k:KP)(h:0<=z/\z<6)(v:Value):0+447+z.toNat*1<453/\dP (aD k) (0+447+z.toNat*1) v=aD {k with ms:=ad k.ms z v} :=⟨og,by
 funext i
 unfold dP
 by_cases c:i=0+447+z.toNat*1
 ·rw[if_pos c,c]
  have:=(J2 {k with ms:=ad k.ms z v} h).2
  rw[this]
  exact(aj _ _ _).symm
 ·rw[if_neg c]
  unfold aD
  refine gj (fun _=>rfl) fun c0=>gj (fun _=>rfl) fun c1=>gj (fun _=>rfl) fun c2=>gj (fun _=>rfl) fun c3=>gj (fun _=>rfl) fun c4=>gj (fun _=>rfl) fun c5=>gj (fun _=>rfl) fun c6=>gj (fun _=>rfl) fun c7=>gj (fun c8=> ?_) fun _=>rfl
  show k.ms ((i-447:Nat):Int)=ad k.ms z v ((i-447:Nat):Int)
  rw[ae _ _ og]⟩
def KP.raw(gb sb qb bb tb pi:Nat):KP:=⟨fun _=>PU.nil,gb,sb,qb,bb,tb,pi,0,fun _=>.pointer none⟩
def yA(k:KP)(i:Nat):Value:=if i=446 then .pointer none else aD k i
def Gc(k:KP):Array Value:=((List.range 453).map (yA k)).toArray
def Mx(k:KP):(Gc k).size=453:=by simp[Gc]
def QP(k:KP):∀ i,i<453->cellsOf (Gc k) i=yA k i:=fun i hi=>by simp[cellsOf,Gc,hi]
def yA.BM(k:KP):0+444<453/\yA k (0+444)=ay k.tb 0 0:=⟨og,rfl⟩
def J7(k:KP):0+445<453/\yA k (0+445)=ay k.pi 0 0:=⟨og,rfl⟩
def My(k:KP)(b:Nat):0+446<453/\dP (yA k) (0+446) (ay b 0 0)=aD {k with ob:=b} :=by grind [dP,yA,aD]
def Dp(mb:Nat):PU:=⟨1,-1,0,0,ay mb 0 0,fun _=>0,BS.cP⟩
structure aaH (k:KP) (mb:Nat):Prop where
 u:k.u=ad (fun _=>PU.nil) 0 (Dp mb)
def dK:Int->Nat:=ad (fun _=>0) (10+0) (0+1)
def Q1:Fa.SF:=Fa.SF.cP.te 0 0 100
def Q2:Fa.SF:=Q1.gq dK 0 true
theorem qA:Fa.SF.cP.lZ 0 0 100=0:=dk
def aaI:Q1.Ok dK 1 0:=by
 have e:Q1=Fa.SF.cP.ql (10+0) 0 100 true:=by unfold Q1 Fa.SF.te;rw[qA];rfl
 rw[e];exact Fa.SF.Og.add og ⟨og,og⟩ dk ⟨og,og,dk⟩ og
def Dq:Q2.Ok dK 1 0:=aaI.gq 0 true
theorem Yy:(Q2.lR dK).1=0:=dk
def aci:(Q2.lR dK).2.Ok dK 1 1:=Dq.lR og og
def G0:Gr.TG:=Gr.TG.cP.aP 0 1 0
def S0:Sp.SS:=(Sp.SS.cP.enter (fun _=>1) 0 0).2.2
end Go.X.Kn

namespace Go.X.Vm
open Go Go.X
variable{w:Bool}{a i n:Int}{k z:Nat}
theorem Gd{m:MS}(h:gM a n):m.qp a n=1:=by unfold MS.qp;rw[if_pos h]
def QQ{m:MS}(hb:¬gM a n)(hi:a<=i/\i<a+n)(h:m.az i≠0):m.qp a n=3:=by
 grind [MS.qp,Ac]
def QR{m:MS}(hb:¬gM a n)(h:∀ j,a<=j->j<a+n->m.az j=0):m.qp a n=0:=by
 grind [MS.qp,w6]
theorem Dr{m:MS}(h:gM a n):m.lg a n=1:=by unfold MS.lg;rw[if_pos h]
def J8{m:MS}(hb:¬gM a n)(hi:a<=i/\i<a+n)(h:m.az i=0):m.lg a n=10:=by
 grind [MS.lg,Ac]
def Mz{m:MS}(hb:¬gM a n)(h:∀ j,a<=j->j<a+n->m.az j≠0):m.lg a n=0:=by
 grind [MS.lg,w6]
theorem Ge{m:MS}(h:m.qp a n≠0):m.map a n w=m:=by grind [MS.map]
theorem MA{m:MS}(h:m.qp a n=0):m.map a n w=m.lay a n w:=by grind [MS.map]
theorem Ds{m:MS}(h:m.lg a n≠0):m.mS a n w=m:=by grind [MS.mS]
theorem J9{m:MS}(h:m.lg a n=0):m.mS a n w=m.lay a n w:=by grind [MS.mS]
def UL{l:List RG}{f:Int->Int}(hl:pj l f 16)(hn:0<n)(h:∀ j,a<=j->j<a+n->f j=0):∀ r∈l,r.fr+r.n<=a\/a+n<=r.fr:=fun r hr=>by
 have hb:=hl.b r hr;by_cases c:r.fr+r.n<=a\/a+n<=r.fr
 ·omega
 ·have:=hl.h1 r hr (max r.fr a) ⟨og,og⟩;grind [Oq]
def Dt(l:List RG)(a n:Int):(l.flatMap (my a n)).length<=2*l.length:=by
 induction l with
 | nil=>simp
 | cons r l ih=>rw[List.flatMap_cons,List.length_append,List.length_cons];have:=Ox a n r;omega
theorem UM(f:Int->Int):oB f []=f:=by funext i;simp[oB]
theorem UN(f:Int->Bool):ey f []=f:=by funext i;simp[ey]
theorem sy{v:VB}{m:MS}(hb:gM a n):m.ep v a n=(0,1,v,m):=by grind [MS.ep]
def Ka(v:VB){m:MS}(hm:m.Ok)(hb:¬gM a n):m.ep v a n=((ui v m.fr (lh (fun i=>m.az i != 0) a n.toNat)).1,0,(ui v m.fr (lh (fun i=>m.az i != 0) a n.toNat)).2,⟨fT m.az a n 0,oB m.fr (lh (fun i=>m.az i != 0) a n.toNat),ey m.bH (lh (fun i=>m.az i != 0) a n.toNat)⟩):=by
 unfold MS.ep;have Cy:=hb;unfold gM at Cy;have hz:∀ i,i∉lh (fun i=>m.az i != 0) a n.toNat->a<=i/\i<a+n->m.az i=0:=fun i h1 h2=>by
  grind [oO]
 have hs:∀ i,i∈lh (fun i=>m.az i != 0) a n.toNat->a<=i/\i<a+n:=fun i h=>by
  grind [oO]
 have e1:fT m.fr a n 0=oB m.fr (lh (fun i=>m.az i != 0) a n.toNat):=by
  grind [fT,oB,MS.Ok.un]
 have e2:fT m.bH a n false=ey m.bH (lh (fun i=>m.az i != 0) a n.toNat):=by
  grind [fT,ey,MS.Ok.ow,MS.Ok.un]
 grind [JZ,MS.Ok.un]
def MS.p6{m:MS}(h:m.sV a w=true):0<=a/\a<128:=by
 grind [MS.sV]
theorem jr{m:MS}(h:¬(0<=a/\a<128):=by omega):m.sV a w=false:=by
 grind [MS.sV]
theorem oP{m:MS}(hm:m.Ok){k:Int}(hk:atP (ai m.az) (a/8) k)(ha:0<=a/\a<128:=by omega):m.sV a w=(decide (0<=k)&&(!w||(bF (ai m.az) k).w)):=by
 obtain⟨h1,h2⟩:=uh hm.f hk;unfold MS.sV;rw[decide_eq_true ha];by_cases c:k<0
 ·grind
 ·rw[(h2 og).2,decide_eq_true og];cases w<;>cases (bF (ai m.az) k).w<;>rfl
theorem p7{m:MS}(hm:m.Ok){k:Int}(hk:atP (ai m.az) (a/8) k)(ha:0<=a/\a<128:=by omega):m.l9 a=(decide (0<=k)&&decide (m.fr (a/8)-1<0)):=by
 unfold MS.l9;rw[oP hm hk ha];have:=hm.lo (a/8);grind
def Bn{v:VB}(h:¬v.take.2.1=0):v.take.1=0/\v.take.2.2=v:=by
 grind [VB.l7,mT]
theorem MB{v:VB}(h:v.take.2.1=0):v.take.2.2.rf=ad v.rf v.take.1 1/\v.take.2.2.ij=BL v.ij v.take.1 (fun _=>0):=by
 grind [VB.l7,mT]
def VB.Ok.copy{v:VB}(h:v.Ok)(f g:Int):(v.copy f g).Ok:=⟨h.bb,h.rf,fun x j=>by
 show 0<=BL v.ij f (v.ij g) x j/\BL v.ij f (v.ij g) x j<256
 unfold BL;split
 ·exact h.ij g j
 ·exact h.ij x j⟩
def Bo{v:VB}(h:v.take.2.1=0){f:Int}(hf:1<v.rf f):1<=v.take.2.2.rf f:=by
 rw[(MB h).1];unfold ad;split<;>omega
theorem iB{v:VB}{m:MS}(h:m.sV a w=false):m.b6 v a w=(0,10,v,m):=by grind [MS.b6]
theorem iC{v:VB}{m:MS}(h:m.sV a w=true)(h0:m.fr (a/8)=0)(e:v.take.2.1=0):m.b6 v a w=(v.take.1,0,v.take.2.2,m.Dd (a/8) v.take.1):=by
 grind [MS.b6]
theorem fA{v:VB}{m:MS}(h:m.sV a w=true)(h0:m.fr (a/8)=0)(e:¬v.take.2.1=0):m.b6 v a w=(0,v.take.2.1,v,m):=by
 grind [MS.b6]
theorem de{v:VB}{m:MS}(h:m.sV a w=true)(h0:¬m.fr (a/8)=0)(q:w=false\/m.bH (a/8)=true):m.b6 v a w=(m.fr (a/8)-1,0,v,m):=by
 grind [MS.b6]
theorem MS.kH{v:VB}{m:MS}(h:m.sV a w=true)(h0:¬m.fr (a/8)=0)(q:w=true)(q2:m.bH (a/8)=false)(r:v.rf (m.fr (a/8)-1)<=1):m.b6 v a w=(m.fr (a/8)-1,0,v,{m with bH:=ad m.bH (a/8) true}):=by
 grind [MS.b6]
theorem gu{v:VB}{m:MS}(h:m.sV a w=true)(h0:¬m.fr (a/8)=0)(q:w=true)(q2:m.bH (a/8)=false)(r:1<v.rf (m.fr (a/8)-1))(e:¬v.take.2.1=0):m.b6 v a w=(0,v.take.2.1,v,m):=by
 grind [MS.b6]
theorem fN{v:VB}{m:MS}(h:m.sV a w=true)(h0:¬m.fr (a/8)=0)(q:w=true)(q2:m.bH (a/8)=false)(r:1<v.rf (m.fr (a/8)-1))(e:v.take.2.1=0):m.b6 v a w=(v.take.1,0,(v.take.2.2.copy v.take.1 (m.fr (a/8)-1)).drop (m.fr (a/8)-1),m.Dd (a/8) v.take.1):=by
 grind [MS.b6]
def MS.p8(v:VB)(m:MS)(a:Int)(w:Bool):(m.sV a w=false/\m.b6 v a w=(0,10,v,m))\/(m.sV a w=true/\((¬v.take.2.1=0/\m.b6 v a w=(0,v.take.2.1,v,m))\/(m.fr (a/8)=0/\v.take.2.1=0/\m.b6 v a w=(v.take.1,0,v.take.2.2,m.Dd (a/8) v.take.1))\/(¬m.fr (a/8)=0/\(w=false\/m.bH (a/8)=true)/\m.b6 v a w=(m.fr (a/8)-1,0,v,m))\/(¬m.fr (a/8)=0/\v.rf (m.fr (a/8)-1)<=1/\w=true/\m.b6 v a w=(m.fr (a/8)-1,0,v,{m with bH:=ad m.bH (a/8) true}))\/(¬m.fr (a/8)=0/\v.take.2.1=0/\1<v.rf (m.fr (a/8)-1)/\w=true/\m.b6 v a w=(v.take.1,0,(v.take.2.2.copy v.take.1 (m.fr (a/8)-1)).drop (m.fr (a/8)-1),m.Dd (a/8) v.take.1)))):=by
 cases h:m.sV a w with
 | false=>exact .inl ⟨rfl,iB h⟩
 | true=>
  refine .inr ⟨rfl,?_⟩;by_cases h0:m.fr (a/8)=0
  ·grind [MS.b6]
  ·grind [de,MS.kH,fN,gu]
def MS.yB(v:VB)(m:MS)(a:Int)(w:Bool):(m.b6 v a w).2.2.2.az=m.az:=by
 rcases MS.p8 v m a w with⟨_,e⟩ | ⟨_,⟨_,e⟩ | ⟨_,_,e⟩ | ⟨_,_,e⟩ | ⟨_,_,_,e⟩ | ⟨_,_,_,_,e⟩⟩<;>(rw[e];try rfl)
def yC{v:VB}{m:MS}(hv:v.Ok)(hm:m.Ok)(h:(m.b6 v a w).2.1=0):(0<=(m.b6 v a w).1/\(m.b6 v a w).1<64)/\0<=a/\a<128:=by
 have hl:=hm.lo (a/8);rcases MS.p8 v m a w with⟨_,e⟩ | ⟨hr,⟨q,e⟩ | ⟨_,q,e⟩ | ⟨_,_,e⟩ | ⟨_,_,_,e⟩ | ⟨_,q,_,_,e⟩⟩
 ·simp_all
 ·simp_all
 ·rw[e];exact⟨nA hv q,MS.p6 hr⟩
 ·rw[e];exact⟨og,MS.p6 hr⟩
 ·rw[e];exact⟨og,MS.p6 hr⟩
 ·rw[e];exact⟨nA hv q,MS.p6 hr⟩
theorem VB.Ok.b6{v:VB}{m:MS}(hv:v.Ok)(a:Int)(w:Bool):(m.b6 v a w).2.2.1.Ok:=by
 rcases MS.p8 v m a w with⟨_,e⟩ | ⟨_,⟨_,e⟩ | ⟨_,_,e⟩ | ⟨_,_,e⟩ | ⟨_,_,_,e⟩ | ⟨_,q,r,_,e⟩⟩<;>rw[e]
 ·omega
 ·omega
 ·exact hv.take
 ·omega
 ·omega
 ·exact(hv.take.copy _ _).drop (Bo q r)
def UO(rf fr:Int->Int):∀ (k:Nat) (g:Int),rf g<=yq rf fr k g/\yq rf fr k g<=rf g+k
 | 0,g=>by simp[yq]
 | k+1,g=>by
  have:=UO rf fr k g;rw[yq];split;all_goals grind [ad]
theorem Kb{rf fr:Int->Int}(h:0<=i):yq rf fr (i+1).toNat=if 0<fr i then ad (yq rf fr i.toNat) (fr i-1) (yq rf fr i.toNat (fr i-1)+1)else yq rf fr i.toNat:=by
 rw[show(i+1).toNat=i.toNat+1 from og,yq,show((i.toNat:Nat):Int)=i from og]
def w7{α:Type}(f g:Int->α)(i:Int):Int->α:=fun j=>if 0<=j/\j<i then f j else g j
theorem vq{α:Type}{f g:Int->α}(h:0<=i){v:α}(e:f i=v:=by omega):ad (w7 f g i) i v=w7 f g (i+1):=by
 grind [ad,w7]
theorem jH(f:Int->Bool)(i:Int){v:Bool}(h:f i=v):ad f i v=f:=by
 grind [ad]
theorem MS.Du{v:VB}{m:MS}(h:¬(m.b6 v a false).2.1=0):m.load v a=(0,(m.b6 v a false).2.1,(m.b6 v a false).2.2):=by grind [MS.load]
theorem MS.HG{v:VB}{m:MS}(h:(m.b6 v a false).2.1=0):m.load v a=((m.b6 v a false).2.2.1.ij (m.b6 v a false).1 (a%8),0,(m.b6 v a false).2.2):=by grind [MS.load]
theorem MS.Gf{v:VB}{m:MS}{b:Int}(h:¬(m.b6 v a true).2.1=0):m.store v a b=((m.b6 v a true).2.1,(m.b6 v a true).2.2):=by grind [MS.store]
theorem MS.Dv{v:VB}{m:MS}{b:Int}(h:(m.b6 v a true).2.1=0):m.store v a b=(0,⟨(m.b6 v a true).2.2.1.bb,cL (m.b6 v a true).2.2.1.ij (m.b6 v a true).1 (a%8) b,(m.b6 v a true).2.2.1.rf⟩,(m.b6 v a true).2.2.2):=by grind [MS.store]
theorem Gg{α:Type}(f g:Int->α):w7 f g 0=g:=by grind [w7]
def zNs(b:Nat)(p:Option Addr)(n c:Nat):List Value:=ay b 0 0:: .slice p n c::(List.replicate 16 [Value.int .i64 0,Value.bool false]).flatten
def Yz(b:Nat)(p:Option Addr)(n c:Nat):∀ i,i<34->cellsOf (zNs b p n c).toArray i=b7 b p n c (fun _=>1) (fun _=>false) i:=fun i hi=>by
 unfold cellsOf zNs;by_cases h1:i=1
 ·subst h1;rfl
 ·have e:=Uy b i hi;unfold cellsOf zNl at e;rw[Array.getD_eq_getD_getElem?,List.getElem?_toArray]at e ⊢;grind [b7]
def QT{α:Type}(f:Int->α)(a:Int)(v:α):fT f a (a-a) v=f:=by grind [fT]
def QU{α:Type}{f:Int->α}{v u:α}(h:a<=i)(e:u=v):ad (fT f a (i-a) v) i u=fT f a (i+1-a) v:=by
 grind [ad,fT]
def cM(fr:Int->Int)(g:Int):Nat->Int
 | 0=>0
 | k+1=>cM fr g k+(if fr k=g+1 then 1 else 0)
def Dw(fr:Int->Int)(g:Int):∀ k,0<=cM fr g k/\cM fr g k<=k
 | 0=>by simp[cM]
 | k+1=>by have:=Dw fr g k;rw[cM];split<;>omega
theorem Oz(fr:Int->Int){g n z:Int} :∀ {k:Nat},(k:Int)<=n->cM (ad fr n z) g k=cM fr g k
 | 0,_=>rfl
 | k+1,h=>by rw[cM,cM,Oz fr (k:=k) og,ae _ _ og]
theorem B7(fr:Int->Int){g n z:Int}(h0:0<=n):∀ {k:Nat},n<k->cM (ad fr n z) g k=cM fr g k-(if fr n=g+1 then 1 else 0)+(if z=g+1 then 1 else 0)
 | 0,h=>by simp at h;omega
 | k+1,h=>by
  rw[cM,cM];by_cases c:n=k
  ·subst c;rw[Oz fr og,aj];omega
  ·rw[B7 fr h0 (k:=k) og,ae _ _ og];omega
def HH{fr:Int->Int}{g i:Int}(h0:0<=i)(e:fr i=g+1):∀ {k:Nat},i<k->1<=cM fr g k
 | 0,h=>by simp at h;omega
 | k+1,h=>by
  rw[cM];by_cases c:i=k
  ·rw[<-c,if_pos e];have:=Dw fr g k;omega
  ·have:=HH h0 e (k:=k) og;split<;>omega
def cA(fr:Int->Int)(a g:Int):Nat->Int
 | 0=>0
 | k+1=>cA fr a g k+(if fr (a+k)=g+1 then 1 else 0)
theorem MD(fr:Int->Int){a g:Int}(h0:0<=a)(hg:0<=g):∀ {k:Nat},a+k<=16->cM (fT fr a k 0) g 16=cM fr g 16-cA fr a g k
 | 0,_=>by
  have e:=QT fr a 0;rw[show a-a=((0:Nat):Int)from og]at e;rw[cA,e];omega
 | k+1,h=>by
  have e:fT fr a ((k+1:Nat):Int) 0=ad (fT fr a k 0) (a+k) 0:=by
   have:=QU (f:=fr) (a:=a) (i:=a+k) (v:=0) (u:=0) og rfl;rw[show a+(k:Int)-a=k from og,show a+(k:Int)+1-a=((k+1:Nat):Int)from og]at this;exact this.symm
  have e2:fT fr a k 0 (a+k)=fr (a+k):=by unfold fT;rw[if_neg og]
  rw[e,B7 _ og og,MD fr h0 hg (k:=k) og,e2,cA,if_neg (c:=(0:Int)=g+1) og];omega
structure Acc (v:VB) (F:Int->Int):Prop where
 ok:v.Ok
 rf:∀ g,0<=g->g<64->v.rf g=F g
 us:∀ g,0<=g->g<64->v.bb.ew g=if F g=0 then 0 else 1
theorem Acc.congr{v:VB}{F G:Int->Int}(h:Acc v F)(e:∀ g,0<=g->g<64->F g=G g):Acc v G:=
 ⟨h.ok,fun g a b=>(h.rf g a b).trans (e g a b),fun g a b=>by rw[h.us g a b,e g a b]⟩
def Acc.copy{v:VB}{F:Int->Int}(h:Acc v F)(f g:Int):Acc (v.copy f g) F:=⟨h.ok.copy f g,h.rf,h.us⟩
theorem Acc.take{v:VB}{F:Int->Int}(h:Acc v F)(e:v.take.2.1=0):(0<=v.take.1/\v.take.1<64)/\F v.take.1=0/\Acc v.take.2.2 (ad F v.take.1 1):=by
 have c:(v.bb.take 0).2.1=0:=by
  grind [mT]
 obtain⟨_,hr,hu,_,hn⟩:=h.ok.bb.Dg c;have hF:F (v.bb.take 0).1=0:=by
  grind [Acc.us]
 have ho:=h.ok.take;rw[VB.l7 c]at ho ⊢;refine⟨hr,hF,ho,fun g a b=> ?_,fun g a b=> ?_⟩
 ·grind [ad,Acc.rf]
 ·show(v.bb.take 0).2.2.ew g=_;rw[hn];grind [ad,Acc.us]
theorem Acc.drop{v:VB}{F:Int->Int}(h:Acc v F){g:Int}(hg:0<=g/\g<64)(h1:1<=F g):Acc (v.drop g) (ad F g (F g-1)):=by
 have hr:=h.rf g hg.1 hg.2;refine⟨h.ok.drop og,fun x a b=> ?_,fun x a b=> ?_⟩
 ·rw[(Di v g).1];unfold ad;split
  ·omega
  ·exact h.rf x a b
 ·have hu:=h.us g hg.1 hg.2;rw[if_neg og]at hu;by_cases c:v.rf g-1=0
  ·rw[Af c];have ht:v.bb.tk g=true:=by
    unfold BB.ew at hu;cases q:v.bb.tk g with
    | true=>rfl
    | false=>rw[q]at hu;simp at hu
   have hw:=(h.ok.bb.Ux (a:=g) (by rw[Dh,BB.CS og ht])).2.2.1;show(v.bb.sj g).2.ew x=_;rw[hw];unfold ad;split
   ·rw[if_pos og]
   ·exact h.us x a b
  ·rw[Ag c];show v.bb.ew x=_;unfold ad;split
   ·rename_i q;subst q;rw[if_neg og];exact hu
   ·exact h.us x a b
theorem Acc.Mo{v:VB}{F:Int->Int}{fr:Int->Int}{a:Int}(hl:∀ i,0<=fr i/\fr i<=64):∀ (k:Nat),Acc v F->(∀ g,0<=g->g<64->cA fr a g k<=F g)->Acc (Mo v fr a k).2 (fun g=>F g-cA fr a g k)
 | 0,h,_=>h.congr fun g _ _=>by simp[cA]
 | k+1,h,hF=>by
  have ih:=Acc.Mo (a:=a) hl k h (fun g a1 b=>by have:=hF g a1 b;rw[cA]at this;split at this<;>omega);rw[Go.X.Vm.Mo];unfold Yr;have hk:=hl (a+k);split
  ·rename_i c;have h1:=hF (fr (a+k)-1) og og;rw[cA,if_pos og]at h1;refine(ih.drop (g:=fr (a+k)-1) og (by show 1<=F _-cA _ _ _ _;omega)).congr fun g x y=> ?_;grind [ad,cA]
  grind [Acc.congr,cA]
theorem UP{rf fr:Int->Int}{g:Int}(hg:0<=g)(hl:∀ i,0<=fr i):∀ k,yq rf fr k g=rf g+cM fr g k
 | 0=>by simp[yq,cM]
 | k+1=>by
  have ih:=UP (rf:=rf) hg hl k;have:=hl k;rw[yq,cM];grind [ad]
theorem Ak{rf fr:Int->Int}(hl:∀ i,0<=fr i/\fr i<=64){g:Int}(hg:g<0\/64<=g):∀ k,yq rf fr k g=rf g
 | 0=>rfl
 | k+1=>by
  have:=hl k;rw[yq];split
  ·rw[ae _ _ og];exact Ak hl hg k
  simp_all[Ak]
theorem Acc.jl{v:VB}{F:Int->Int}(h:Acc v F){m:MS}(hm:m.Ok)(hF:∀ g,0<=g->g<64->cM m.fr g 16<=F g/\F g<=1000):Acc (v.jl m) (fun g=>F g+cM m.fr g 16):=by
 have e:∀ g,0<=g->g<64->(v.jl m).rf g=F g+cM m.fr g 16:=fun g a b=>by
  show yq v.rf m.fr 16 g=_;rw[UP a fun i=>(hm.lo i).1,h.rf g a b]
 refine⟨⟨h.ok.bb,fun g=> ?_,h.ok.ij⟩,e,fun g a b=> ?_⟩
 ·by_cases q:0<=g/\g<64
  ·rw[e g q.1 q.2];have:=hF g q.1 q.2;have:=Dw m.fr g 16;omega
  ·show 0<=yq v.rf m.fr 16 g/\_;rw[show(v.jl m).rf g=yq v.rf m.fr 16 g from rfl,Ak hm.lo og];exact h.ok.rf g
 ·show v.bb.ew g=_;rw[h.us g a b];have:=hF g a b;have:=Dw m.fr g 16;omega
def w8(f:Nat->MS)(g:Int):Nat->Int
 | 0=>0
 | k+1=>w8 f g k+cM (f k).fr g 16
def bu{α:Type}(f:Nat->α)(z:Nat)(m:α):Nat->α:=fun j=>if j=z then m else f j
theorem lz{α:Type}(f:Nat->α)(z:Nat)(m:α):bu f z m z=m:=if_pos rfl
theorem iA{α:Type}(f:Nat->α){j:Nat}(m:α)(h:j≠z):bu f z m j=f j:=if_neg h
theorem jG{α:Type}(f:Nat->α)(z:Nat):bu f z (f z)=f:=by
 grind [bu]
def ME(f:Nat->MS)(g:Int):∀ k,0<=w8 f g k/\w8 f g k<=16*k
 | 0=>by simp[w8]
 | k+1=>by have:=ME f g k;have:=Dw (f k).fr g 16;rw[w8];omega
theorem Kc(f:Nat->MS)(g:Int){z:Nat}{m:MS} :∀ {k:Nat},k<=z->w8 (bu f z m) g k=w8 f g k
 | 0,_=>rfl
 | k+1,h=>by rw[w8,w8,Kc f g (k:=k) og,iA _ _ og]
theorem sB(f:Nat->MS)(g:Int){z:Nat}{m:MS} :∀ {k:Nat},z<k->w8 (bu f z m) g k=w8 f g k-cM (f z).fr g 16+cM m.fr g 16
 | 0,h=>og
 | k+1,h=>by
  rw[w8,w8];by_cases c:z=k
  ·subst c;rw[Kc f g (Nat.le_refl _),lz];omega
  ·rw[sB f g (k:=k) og,iA _ _ og];omega
def Al(f:Nat->MS)(g:Int){z:Nat} :∀ {k:Nat},z<k->cM (f z).fr g 16<=w8 f g k
 | 0,h=>og
 | k+1,h=>by
  rw[w8];have:=ME f g k;have:=Dw (f k).fr g 16;by_cases c:z=k
  ·grind
  ·have:=Al f g (z:=z) (k:=k) og;omega
structure Sys (v:VB) (f:Nat->MS) (k:Nat):Prop where
 jJ:Acc v fun g=>w8 f g k
 mo:∀ j,j<k->(f j).Ok
theorem MS.Ok.nV{m:MS}(h:m.Ok)(hi:0<m.fr i):0<=i/\i<16:=by
 by_cases c:0<=i/\i<16
 ·exact c
 ·have:=h.un i (h.f.out i og);omega
theorem Sys.In{v:VB}{f:Nat->MS}{k z:Nat}(h:Sys v f k)(hz:z<k):(f z).In v:=fun i hi=>by
 have hm:=h.mo z hz;have hr:=hm.nV hi;have hl:=hm.lo i;rw[h.jJ.rf _ og og];have h1:=HH (fr:=(f z).fr) (g:=(f z).fr i-1) hr.1 og (k:=16) og;have h2:=Al f ((f z).fr i-1) hz;omega
theorem Sys.free{v:VB}{f:Nat->MS}(h:Sys v f k)(hz:z<k){x:Int}(h0:w8 f x k=0)(i:Int):(f z).fr i≠x+1\/x+1<=0:=by
 by_cases c:(f z).fr i=x+1/\0<x+1
 ·have hr:=(h.mo z hz).nV (i:=i) og;have h1:=HH (fr:=(f z).fr) (g:=x) hr.1 c.1 (k:=16) og;have h2:=Al f x hz;omega
 omega
theorem Sys.same{v:VB}{f:Nat->MS}(h:Sys v f k)(hz:z<k){m:MS}(hm:m.Ok)(e:m.fr=(f z).fr):Sys v (bu f z m) k:=
 ⟨h.jJ.congr fun g _ _=>by rw[sB f g hz,e];omega,fun j hj=>by
  unfold bu;split
  ·exact hm
  ·exact h.mo j hj⟩
theorem MS.Ok.Dd{m:MS}(h:m.Ok){n x:Int}(hn:m.az n≠0)(hx:0<=x/\x<64)(hf:∀ i,i≠n->m.fr i≠x+1):(m.Dd n x).Ok:=by
 refine⟨h.f,fun i=> ?_,fun i hi=> ?_,fun i hi=> ?_,fun i j hi IL=> ?_⟩
 ·show 0<=ad m.fr n (x+1) i/\ad m.fr n (x+1) i<=64;unfold ad;split
  ·omega
  ·exact h.lo i
 ·show ad m.fr n (x+1) i=0;grind [ae,MS.Ok.un,MS.Dd]
 ·show ad m.bH n true i=false;have hi:ad m.fr n (x+1) i=0:=hi;grind [aj,ae,MS.Ok.ow]
 ·have hi:0<ad m.fr n (x+1) i:=hi;have IL:ad m.fr n (x+1) i=ad m.fr n (x+1) j:=IL;grind [aj,ae,MS.Ok.inj]
def Gh{m:MS}(h:m.sV a w=true):m.az (a/8)≠0:=by
 grind [MS.sV]
def MS.acj{m:MS}(h:m.Ok)(hn:m.fr n≠0):({m with bH:=ad m.bH n true} :MS).Ok:=
 ⟨h.f,h.lo,h.un,fun i hi=>by
  show ad m.bH n true i=false
  have hi:m.fr i=0:=hi
  rw[ae _ _ fun (e:i=n)=>hn (by rw[<-e];exact hi)];exact h.ow i hi,h.inj⟩
theorem Sys.b6{v:VB}{f:Nat->MS}{k z:Nat}(h:Sys v f k)(hz:z<k)(a:Int)(w:Bool):Sys ((f z).b6 v a w).2.2.1 (bu f z ((f z).b6 v a w).2.2.2) k:=by
 have hm:=h.mo z hz;have hl:=hm.lo (a/8);rcases MS.p8 v (f z) a w with⟨_,e⟩ | ⟨hr,⟨_,e⟩ | ⟨h0,q,e⟩ | ⟨_,_,e⟩ | ⟨h0,_,_,e⟩ | ⟨h0,q,r,_,e⟩⟩<;>rw[e]
 ·grind [jG]
 ·grind [jG]
 ·obtain⟨hx,hF,ha⟩:=h.jJ.take q;have hF:w8 f v.take.1 k=0:=hF;have MF:=MS.p6 hr;refine⟨ha.congr fun g a1 b=> ?_,fun j hj=> ?_⟩
  ·rw[sB f g hz];show ad (fun g=>w8 f g k) v.take.1 1 g=_-_+cM (ad (f z).fr (a/8) (v.take.1+1)) g 16;rw[B7 _ og og,h0,if_neg (c:=(0:Int)=g+1) og];grind [ad]
  ·unfold bu;split
   ·exact hm.Dd (Gh hr) hx (fun i _=>by rcases h.free hz hF i with q | q<;>omega)
   grind [Sys.mo]
 ·grind [jG]
 ·exact h.same hz (MS.acj hm h0) rfl
 ·obtain⟨hx,hF,ha⟩:=h.jJ.take q;have hF:w8 f v.take.1 k=0:=hF;have MF:=MS.p6 hr;have hy:1<=w8 f ((f z).fr (a/8)-1) k:=by
   have h1:=HH (fr:=(f z).fr) (g:=(f z).fr (a/8)-1) (i:=a/8) og og (k:=16) og;have h2:=Al f ((f z).fr (a/8)-1) hz;omega
  have gY:(f z).fr (a/8)-1≠v.take.1:=fun e=>by rw[e]at hy;omega
  refine⟨((ha.copy _ _).drop (g:=(f z).fr (a/8)-1) og (by rw[ae _ _ gY];exact hy)).congr fun g a1 b=> ?_,fun j hj=> ?_⟩
  ·rw[sB f g hz];show ad (ad (fun g=>w8 f g k) v.take.1 1) ((f z).fr (a/8)-1) _ g=_-_+cM (ad (f z).fr (a/8) (v.take.1+1)) g 16;rw[B7 _ og og,ae _ _ gY];grind [ad]
  ·unfold bu;split
   ·exact hm.Dd (Gh hr) hx (fun i _=>by rcases h.free hz hF i with q | q<;>omega)
   grind [Sys.mo]
def afn{fr:Int->Int}{g:Int}(h0:0<=a)(hg:0<=g)(hk:a+k<=16):cA fr a g k<=cM fr g 16:=by
 have:=MD fr h0 hg hk;have:=Dw (fT fr a k 0) g 16;omega
theorem Sys.ep{v:VB}{f:Nat->MS}{k z:Nat}(h:Sys v f k)(hz:z<k)(a n:Int):Sys ((f z).ep v a n).2.2.1 (bu f z ((f z).ep v a n).2.2.2) k:=by
 have hm:=h.mo z hz;by_cases hb:gM a n
 ·rw[sy hb];rw[jG];exact h
 ·have ho:=hm.ep (v:=v) a n;unfold MS.ep at ho ⊢;rw[if_neg hb]at ho ⊢;unfold gM at hb;have hn:((n.toNat:Nat):Int)=n:=og;refine⟨(h.jJ.Mo hm.lo n.toNat (fun g a1 b=>by
   have:=afn (fr:=(f z).fr) (a:=a) (g:=g) og a1 (k:=n.toNat) og
   have:=Al f g hz
   show _<=w8 f g k
   omega)).congr fun g a1 b=> ?_,fun j hj=> ?_⟩
  ·rw[sB f g hz];show w8 f g k-_=_-_+cM (fT (f z).fr a n 0) g 16;have:=MD (f z).fr (a:=a) (g:=g) og a1 (k:=n.toNat) og;rw[hn]at this;rw[this];omega
  ·unfold bu;split
   ·exact ho
   ·exact h.mo j hj
theorem Sys.load{v:VB}{f:Nat->MS}{k z:Nat}(h:Sys v f k)(hz:z<k)(a:Int):Sys ((f z).load v a).2.2.1 (bu f z ((f z).load v a).2.2.2) k:=by
 grind [Sys.b6,MS.load]
theorem Sys.store{v:VB}{f:Nat->MS}{k z:Nat}(h:Sys v f k)(hz:z<k)(a b:Int)(hb:0<=b/\b<256):Sys ((f z).store v a b).2.1 (bu f z ((f z).store v a b).2.2) k:=by
 have ht:=h.b6 hz a true;by_cases e:((f z).b6 v a true).2.1=0
 ·rw[MS.Dv e];refine⟨⟨⟨ht.jJ.ok.bb,ht.jJ.ok.rf,fun x j=> ?_⟩,ht.jJ.rf,ht.jJ.us⟩,ht.mo⟩;show 0<=cL ((f z).b6 v a true).2.2.1.ij ((f z).b6 v a true).1 (a%8) b x j/\cL ((f z).b6 v a true).2.2.1.ij ((f z).b6 v a true).1 (a%8) b x j<256;unfold cL;split
  ·omega
  ·exact ht.jJ.ok.ij x j
 grind [MS.store]
def OA(z:Int):0<=IntKind.u8.wrap z/\IntKind.u8.wrap z<256:=by
 have e:IntKind.u8.wrap z=z%256:=rfl;omega
theorem Sys.cP:Sys VB.cP (fun _=>MS.nil) 1:=by
 have h0:∀ g:Int,0<=g->w8 (fun _=>MS.nil) g 1=0:=fun g hg=>by
  rw[w8,w8];have e:∀ k,cM MS.nil.fr g k=0:=fun k=>by
   induction k with
   | zero=>rfl
   | succ k ih=>rw[cM,ih,show MS.nil.fr k=0 from rfl,if_neg og];rfl
  simp_all
 refine⟨⟨VB.Ok.cP,fun g a b=>(h0 g a).symm,fun g a b=> ?_⟩,fun _ _=>MS.Ok.nil⟩;grind [BB.cP,BB.ew,VB.cP]
end Go.X.Vm

namespace Go.X.Tr
open Go Go.X
variable{w:Bool}{s t x:ByteArray}{d k m n:Int}{l:List ByteArray}{i:Nat}
structure PS where
 b:Int->ByteArray
 e:Int->Int->Int
structure PS.Inv (K:Int) (s:PS):Prop where
 e0:∀ n,0<=s.e n 0/\s.e n 0<=K
 e1:∀ n,0<=s.e n 1/\s.e n 1<=K
 cl:∀ n,s.e n 0+s.e n 1=0->s.b n=⟨#[]⟩
 len:∀ n,(s.b n).size<=12
theorem PS.Inv.mono{K K':Int}{s:PS}(h:s.Inv K)(hk:K<=K'):s.Inv K':=
 ⟨fun n=>⟨(h.e0 n).1,by have:=(h.e0 n).2;omega⟩,fun n=>⟨(h.e1 n).1,by have:=(h.e1 n).2;omega⟩,h.cl,h.len⟩
def PS.cP:PS:=⟨fun _=>⟨#[]⟩,fun _ _=>0⟩
theorem PS.Inv.cP:PS.cP.Inv 0:=⟨fun _=>by simp[PS.cP],fun _=>by simp[PS.cP],fun _ _=>rfl,fun _=>by simp[PS.cP,ByteArray.size]⟩
def PS.is(s:PS)(n:Int):Int:=if n<0\/8<=n then 1 else if s.e n 0+s.e n 1=0 then 2 else 0
def PS.make(s:PS):Int×Int×PS:=match dW (fun k=>s.e k 0+s.e k 1==0) 8 with
 | some k=>(k,0,{s with e:=cL (cL s.e k 0 1) k 1 1})
 | none=>(0,4,s)
def IH(w:Bool):Int:=if w then 1 else 0
def PS.mL(s:PS)(n:Int)(w:Bool)(d:Int):Int×PS:=
 if s.is n≠0 then(s.is n,s)else if s.e n (IH w)=0 then(8,s)else
  (0,{b:=if s.e n 0+s.e n 1+d=0 then ad s.b n ⟨#[]⟩else s.b,e:=cL s.e n (IH w) (s.e n (IH w)+d)})
def PS.mV(s:PS)(n m:Int):ByteArray×Int×PS:=
 if s.is n≠0 then(⟨#[]⟩,s.is n,s)else if s.e n 0=0 then(⟨#[]⟩,8,s)else if m<0 then(⟨#[]⟩,1,s)else
 if s.b n=⟨#[]⟩/\s.e n 1>0/\m>0 then(⟨#[]⟩,13,s)else
  ((s.b n).extract 0 (min m (s.b n).size).toNat,0,{s with b:=ad s.b n ((s.b n).extract (min m (s.b n).size).toNat (s.b n).size)})
def PS.cm(s:PS)(n:Int)(t:ByteArray):Int×Int×PS:=
 if s.is n≠0 then(0,s.is n,s)else if s.e n 1=0 then(0,8,s)else if s.e n 0=0 then(0,12,s)else
 if min (t.size:Int) (12-(s.b n).size)=0/\t.size>0 then(0,13,s)else
  (min (t.size:Int) (12-(s.b n).size),0,{s with b:=ad s.b n (s.b n++t.extract 0 (min (t.size:Int) (12-(s.b n).size)).toNat)})
def BN(f:Int->Bool):Nat->Int
 | 0=>0
 | n+1=>BN f n+if f n then 1 else 0
def YA(f:Int->Bool)(n:Nat):0<=BN f n/\BN f n<=n:=by
 induction n with
 | zero=>simp[BN]
 | succ n ih=>simp only[BN];split<;>omega
def bK(s:PS)(i:Nat):Value:=
 if i%3=0/\i/3<8 then .string (s.b ((i/3:Nat):Int))else
 if 1<=i/\(i-1)%3=0/\(i-1)/3<8 then iI (s.e (((i-1)/3:Nat):Int) 0)else
 if 2<=i/\(i-2)%3=0/\(i-2)/3<8 then iI (s.e (((i-2)/3:Nat):Int) 1)else
 undef
def dR(s:PS)(z0:Int)(q0:0<=z0/\z0<8:=by omega):(((0+0)+z0.toNat*3)+0)<24/\bK s (((0+0)+z0.toNat*3)+0)= .string (s.b z0):=by
 grind [bK]
def iM(s:PS)(z0:Int)(q0:0<=z0/\z0<8)(v:ByteArray):(((0+0)+z0.toNat*3)+0)<24/\dP (bK s) (((0+0)+z0.toNat*3)+0) (.string (v))=bK ({s with b:=ad s.b z0 v}):=by
 grind [dP,ad,bK]
def eH(s:PS)(z0:Int)(q0:0<=z0/\z0<8:=by omega):(((0+0)+z0.toNat*3)+1)<24/\bK s (((0+0)+z0.toNat*3)+1)=iI (s.e z0 0):=by
 grind [bK]
def mh(s:PS)(z0:Int)(q0:0<=z0/\z0<8)(v:Int):(((0+0)+z0.toNat*3)+1)<24/\dP (bK s) (((0+0)+z0.toNat*3)+1) (iI (v))=bK ({s with e:=cL s.e z0 0 v}):=by
 grind [dP,cL,bK]
def eb(s:PS)(z0:Int)(q0:0<=z0/\z0<8:=by omega):(((0+0)+z0.toNat*3)+2)<24/\bK s (((0+0)+z0.toNat*3)+2)=iI (s.e z0 1):=by
 grind [bK]
def lG(s:PS)(z0:Int)(q0:0<=z0/\z0<8)(v:Int):(((0+0)+z0.toNat*3)+2)<24/\dP (bK s) (((0+0)+z0.toNat*3)+2) (iI (v))=bK ({s with e:=cL s.e z0 1 v}):=by
 grind [dP,cL,bK]
theorem lN{s:PS}(h:s.is n≠0):s.mL n w d=(s.is n,s):=by simp[PS.mL,h]
theorem jI{s:PS}(h:s.is n=0)(he:s.e n (IH w)=0):s.mL n w d=(8,s):=by grind [PS.mL]
theorem PS.B8{s:PS}(h:s.is n=0)(he:¬s.e n (IH w)=0)(hz:¬s.e n 0+s.e n 1+d=0:=by omega):s.mL n w d=(0,{s with e:=cL s.e n (IH w) (s.e n (IH w)+d)}):=by
 grind [PS.mL]
theorem PS.vr{s:PS}(h:s.is n=0)(he:¬s.e n (IH w)=0)(hz:s.e n 0+s.e n 1+d=0:=by omega):s.mL n w d=(0,{b:=ad s.b n ⟨#[]⟩,e:=cL s.e n (IH w) (s.e n (IH w)+d)}):=by
 grind [PS.mL]
theorem PS.jC(s:PS)(n:Int):(s.is n=0/\0<=n/\n<8/\¬s.e n 0+s.e n 1=0)\/(s.is n=1/\(n<0\/8<=n))\/(s.is n=2/\0<=n/\n<8/\s.e n 0+s.e n 1=0):=by
 grind [PS.is]
def B9{g:Int->Int->Int}(h0:g n 0=0:=by omega)(h1:g n 1=0:=by omega):cL (cL g n 0 0) n 1 0=g:=by
 grind [cL]
theorem Kd{s:PS}(h:s.is n≠0):s.mV n m=(⟨#[]⟩,s.is n,s):=by simp[PS.mV,h]
theorem Fb{s:PS}(h:s.is n=0)(h0:s.e n 0=0):s.mV n m=(⟨#[]⟩,8,s):=by grind [PS.mV]
theorem Fc{s:PS}(h:s.is n=0)(h0:¬s.e n 0=0)(hm:m<0):s.mV n m=(⟨#[]⟩,1,s):=by grind [PS.mV]
theorem Fe{s:PS}(h:s.is n=0)(h0:¬s.e n 0=0)(hm:¬m<0)(ha:s.b n=⟨#[]⟩/\s.e n 1>0/\m>0):s.mV n m=(⟨#[]⟩,13,s):=by
 grind [PS.mV]
theorem PS.HI{s:PS}(h:s.is n=0)(h0:¬s.e n 0=0)(hm:¬m<0)(ha:¬(s.b n=⟨#[]⟩/\s.e n 1>0/\m>0)):s.mV n m=((s.b n).extract 0 (min m (s.b n).size).toNat,0,{s with b:=ad s.b n ((s.b n).extract (min m (s.b n).size).toNat (s.b n).size)}):=by
 grind [PS.mV]
theorem HJ{s:PS}(h:s.is n≠0):s.cm n t=(0,s.is n,s):=by simp[PS.cm,h]
theorem Dx{s:PS}(h:s.is n=0)(h0:s.e n 1=0):s.cm n t=(0,8,s):=by grind [PS.cm]
theorem BO{s:PS}(h:s.is n=0)(h0:¬s.e n 1=0)(h1:s.e n 0=0):s.cm n t=(0,12,s):=by grind [PS.cm]
theorem Dy{s:PS}(h:s.is n=0)(h0:¬s.e n 1=0)(h1:¬s.e n 0=0)(ha:min (t.size:Int) (12-(s.b n).size)=0/\t.size>0):s.cm n t=(0,13,s):=by
 grind [PS.cm]
theorem PS.Ke{s:PS}(h:s.is n=0)(h0:¬s.e n 1=0)(h1:¬s.e n 0=0)(ha:¬(min (t.size:Int) (12-(s.b n).size)=0/\t.size>0)):s.cm n t=(min (t.size:Int) (12-(s.b n).size),0,{s with b:=ad s.b n (s.b n++t.extract 0 (min (t.size:Int) (12-(s.b n).size)).toNat)}):=by
 grind [PS.cm]
theorem PS.QV{s:PS}(h0:0<=k/\k<8)(hp:s.e k 0+s.e k 1=0)(hn:∀ j:Int,0<=j->j<k->s.e j 0+s.e j 1≠0):s.make=(k,0,{s with e:=cL (cL s.e k 0 1) k 1 1}):=by
 unfold PS.make;rw[fx h0.1 h0.2 (by simpa using hp) fun j h1 h2=>by simpa using hn j h1 h2];grind
theorem HK{s:PS}(hn:∀ j:Int,0<=j->j<8->s.e j 0+s.e j 1≠0):s.make=(0,4,s):=by
 grind [PS.make,fy]
def QW{s:PS}{K:Int}(hI:s.Inv K)(h0:0<=k/\k<8)(hp:s.e k 0+s.e k 1=0):0+0+k.toNat*3+3<=24/\cD (bK s) (0+0+k.toNat*3) [.string ⟨#[]⟩,iI 1,iI 1]=bK {s with e:=cL (cL s.e k 0 1) k 1 1} :=by
 refine⟨og,?_⟩;have e1:=(iM s k h0 ⟨#[]⟩).2;have hb:ad s.b k ⟨#[]⟩=s.b:=by
  grind [ad,PS.Inv.cl]
 rw[hb]at e1;have e2:=(mh s k h0 1).2;have e3:=(lG {s with e:=cL s.e k 0 1} k h0 1).2;simp_all[cD]
def Gi(s:PS)(h0:0<=k/\k<8:=by omega):0+0+k.toNat*3+3<=24/\cD (bK s) (0+0+k.toNat*3) [.string ⟨#[]⟩,iI 0,iI 0]=bK {b:=ad s.b k ⟨#[]⟩,e:=cL (cL s.e k 0 0) k 1 0} :=by
 refine⟨og,?_⟩;have e1:=(iM s k h0 ⟨#[]⟩).2;have e2:=(mh {s with b:=ad s.b k ⟨#[]⟩} k h0 0).2;have e3:=(lG {b:=ad s.b k ⟨#[]⟩,e:=cL s.e k 0 0} k h0 0).2;grind [cD]
abbrev blt(a b:ByteArray):Bool:=Op.bytesLess a.toList b.toList
theorem HL(a b:ByteArray):blt a b=true↔a.toList<b.toList:=by unfold blt;rw[Go.Proofs.bytesLess_eq,decide_eq_true_eq]
theorem toList_inj{a b:ByteArray}(h:a.toList=b.toList):a=b:=by
 grind [toList_beq]
theorem MG(a:ByteArray):blt a a=false:=by
 grind [HL]
theorem QX{a b c:ByteArray}(h1:blt a b=true)(h2:blt b c=true):blt a c=true:=by grind [HL]
theorem QY(a b:ByteArray):blt a b=true\/a=b\/blt b a=true:=by
 grind [HL,toList_inj]
abbrev oH(l:List ByteArray)(i:Nat):ByteArray:=l.getD i ByteArray.empty
def fv(l:List ByteArray):Prop:=∀ i j,i<j->j<l.length->blt (oH l i) (oH l j)=true
def eC:List ByteArray->ByteArray->Nat
 | [],_=>0
 | y::r,x=>if blt y x=true then eC r x+1 else 0
theorem oC:∀ (l:List ByteArray) (x:ByteArray),eC l x<=l.length
 | [],_=>Nat.le_refl _
 | y::r,x=>by
  unfold eC;split
  ·simp;exact oC r x
  ·omega
theorem yD:∀ (l:List ByteArray) (x:ByteArray) (i:Nat),i<eC l x->blt (oH l i) x=true
 | [],_,i,h=>by simp[eC]at h
 | y::r,x,i,h=>by
  unfold eC at h;split at h
  ·cases i with
   | zero=>simpa [oH]using (by assumption:blt y x=true)
   | succ i=>simpa [oH]using yD r x i og
  ·omega
theorem Ca:∀ (l:List ByteArray) (x:ByteArray),eC l x<l.length->blt (oH l (eC l x)) x=false
 | [],_,h=>by simp at h
 | y::r,x,h=>by
  unfold eC at h ⊢;split
  ·rename_i c;rw[if_pos c]at h;simpa [oH]using Ca r x (by simpa using h)
  ·rename_i c;simpa [oH]using c
theorem HM(hl:fv l)(x:ByteArray)(h:eC l x<=i)(hi:i<l.length):blt (oH l i) x=false:=by
 grind [Ca,QX,fv]
def pt(l:List ByteArray)(x:ByteArray):Bool:=decide (eC l x<l.length/\oH l (eC l x)=x)
def HN(IP:Nat->Bool)(k N:Nat)(h1:∀ t,t<k->IP t=true)(h2:∀ t,k<=t->t<N->IP t=false):∀ (f lo hi:Nat),hi-lo<=f->lo<=k->k<=hi->hi<=N->Go.Lib.bsGo IP f lo hi=k
 | 0,lo,hi,hf,a,b,_=>by unfold Go.Lib.bsGo;omega
 | f+1,lo,hi,hf,a,b,c=>by
  unfold Go.Lib.bsGo;by_cases h:lo<hi
  ·rw[if_pos h];by_cases q:(lo+hi)/2<k
   ·rw[h1 _ q,if_pos rfl];exact HN IP k N h1 h2 f _ _ og og b c
   ·rw[h2 _ og og,if_neg sq];exact HN IP k N h1 h2 f _ _ og a og og
  ·rw[if_neg h];omega
theorem Dz(hl:fv l)(x:ByteArray):bsS l x=eC l x:=
 HN _ (eC l x) l.length (fun t ht=>yD l x t ht) (fun t ht hn=>HM hl x ht hn) _ _ _ og og (oC l x) (Nat.le_refl _)
def yE(hl:fv l)(x:ByteArray):Jf l x=pt l x:=by
 grind [Jf,pt,Dz]
theorem mi :pt l x=true↔eC l x<l.length/\oH l (eC l x)=x:=by grind [pt]
theorem YB(hl:fv l)(hi:i<l.length)(h:oH l i=x):i=eC l x:=by
 rcases Nat.lt_trichotomy i (eC l x)with c | c | c
 ·have:=yD l x i c;grind [MG]
 ·omega
 grind [Ca,fv]
theorem YC(hl:fv l)(h:pt l x=false)(hi:i<l.length):oH l i≠x:=fun e=>by
 grind [YB,mi]
theorem YD(hl:fv l)(h:pt l x=false)(h1:eC l x<=i)(hi:i<l.length):blt x (oH l i)=true:=by
 grind [QY,HM,YC]
theorem DA(l:List ByteArray)(p:Nat)(x:ByteArray)(j:Nat)(hp:p<=l.length):oH (l.insertIdx p x) j=if j<p then oH l j else if j=p then x else oH l (j-1):=by
 grind
theorem Gj(l:List ByteArray)(p j:Nat):oH (l.eraseIdx p) j=if j<p then oH l j else oH l (j+1):=by
 grind
theorem fv.insert(hl:fv l)(h:pt l x=false):fv (l.insertIdx (eC l x) x):=fun i j IL hj=>by
 have hp:=oC l x;rw[List.length_insertIdx,if_pos hp]at hj;rw[DA _ _ _ _ hp,DA _ _ _ _ hp];by_cases c1:j<eC l x
 ·grind [fv]
 ·rw[if_neg c1];by_cases c2:j=eC l x
  ·rw[if_pos c2,if_pos og];exact yD l x i og
  grind [YD,fv]
theorem fv.OB(hl:fv l)(p:Nat)(hp:p<l.length):fv (l.eraseIdx p):=fun i j IL hj=>by
 grind [Gj,fv]
theorem fv.nil:fv []:=fun i j _ h=>by simp at h
def YE(c:UInt8):Bool:=(decide (97<=c.toNat)&&decide (c.toNat<=122))||(decide (48<=c.toNat)&&decide (c.toNat<=57))||decide (c.toNat=46)
def ko(s:ByteArray):Bool:=(List.range s.size).all (fun i=>YE (s.get! i))&&(decide (1<=s.size/\s.size<=8)&&(decide (s≠⟨#[46]⟩)&&decide (s≠⟨#[46,46]⟩)))
def UQ{j:Nat}{u:UInt8}(h:s[j]? =some u):s.get! j=u:=by
 have hj:j<s.size:=by
  grind
 rw[getElem?_pos s j hj]at h;have h2:=Option.some.inj h;rw[<-h2];show s.data[j]! =s.data[j];simp_all
def Kf{j:Nat}(h:j<s.size):∃ u,s[j]? =some u:=⟨s[j],getElem?_pos s j h⟩
theorem yF :s=⟨#[]⟩↔s.size=0:=by
 constructor
 ·rintro rfl;rfl
 ·intro h;cases s with
  | mk d=>congr 1;exact Array.eq_empty_of_size_eq_zero h
structure FF where
 aO:Int->Int
 dJ:Int->Int
 bM:Int->Int
 bj:Int->Int
 up:Int->Int
 data:Int->ByteArray
 aI:Int->List ByteArray
 kids:Int->List Int
 roots:List Int
structure FC extends FF where
 nP:Int->Option Addr
 nC:Int->Nat
 kP:Int->Option Addr
 kC:Int->Nat
 rP:Option Addr
 rC:Nat
def W9(d:ByteArray)(at_:Nat)(x:ByteArray):ByteArray:=⟨((List.range (max d.size (at_+x.size))).map fun i=>if at_<=i/\i<at_+x.size then x.get! (i-at_)else if i<d.size then d.get! i else 0).toArray⟩
namespace FF
def cC(s:FF)(n k:Int):Int:=if n<0\/40<=n then 1 else if s.aO n=0 then 2 else if 0<k/\s.aO n≠k then 11 else 0
def wi(s:FF):Nat->Int
 | 0=> -1
 | k+1=>if s.aO (39-(k:Int))=0 then 39-(k:Int)else wi s k
def free(s:FF):Int:=wi s 40
def jF(s:FF)(z k t l u:Int):FF:=⟨ad s.aO z k,ad s.dJ z t,ad s.bM z l,ad s.bj z 0,ad s.up z u,ad s.data z ByteArray.empty,ad s.aI z [],ad s.kids z [],s.roots⟩
def rk(s:FF)(z:Int):FF:=if s.bM z=0/\s.bj z=0 then s.jF z 0 0 0 0 else s
def qq(s:FF):Int:=if s.roots.length=4 then 4 else if s.free<0 then 4 else 0
def yG(s:FF):FF:=if s.qq=0 then {s.jF s.free 2 (s.roots.length:Int) 1 s.free with roots:=s.roots++[s.free]} else s
def xa(s:FF):Int:=if s.qq=0 then(s.roots.length:Int)else 0
def mG(s:FF)(t:Int):Int:=if t<0\/4<=t then 1 else if(s.roots.length:Int)<=t then 2 else 0
def fV(s:FF)(t:Int):Int:=if s.mG t=0 then gh s.roots t else 0
def tm(s:FF)(n:Int)(x:ByteArray)(k:Int):FF:= {s with aI:=ad s.aI n ((s.aI n).insertIdx (eC (s.aI n) x) x),kids:=ad s.kids n ((s.kids n).insertIdx (eC (s.aI n) x) k)}
def ey(s:FF)(n:Int)(x:ByteArray):FF:= {s with aI:=ad s.aI n ((s.aI n).eraseIdx (eC (s.aI n) x)),kids:=ad s.kids n ((s.kids n).eraseIdx (eC (s.aI n) x))}
def fK(s:FF)(n:Int)(x:ByteArray):Int:=if s.cC n 2≠0 then s.cC n 2 else if pt (s.aI n) x=true then 0 else 2
def bO(s:FF)(n:Int)(x:ByteArray):Int:=if s.fK n x=0 then gh (s.kids n) (eC (s.aI n) x)else 0
def fi(s:FF)(n:Int)(x:ByteArray):Int:=if s.cC n 2≠0 then s.cC n 2 else if ko x=false then 9 else if pt (s.aI n) x=true then 3 else if(s.aI n).length=8 then 4 else 0
def mH(s:FF)(n:Int)(x:ByteArray)(k:Int):Int:=if k≠1/\k≠2 then 1 else if s.fi n x≠0 then s.fi n x else if s.free<0 then 4 else 0
def pw(s:FF)(n:Int)(x:ByteArray)(k:Int):Int:=if s.mH n x k=0 then s.free else 0
def make(s:FF)(n:Int)(x:ByteArray)(k:Int):FF:=if s.mH n x k=0 then(s.jF s.free k (s.dJ n) 1 n).tm n x s.free else s
def uq(s:FF)(gF n:Int)(x:ByteArray):Int:=if s.cC gF 1≠0 then s.cC gF 1 else if s.fi n x≠0 then s.fi n x else if s.dJ gF≠s.dJ n then 11 else 0
def DB(s:FF)(gF n:Int)(x:ByteArray):FF:=if s.uq gF n x=0 then {s.tm n x gF with bM:=ad s.bM gF (s.bM gF+1)} else s
def MH(s:FF)(k:Int):Prop:=s.aO k=2/\(0<(s.kids k).length\/0<s.bj k)
instance (s:FF) (k:Int):Decidable (s.MH k):=by unfold MH;infer_instance
def dz(s:FF)(n:Int)(x:ByteArray):Int:=if s.fK n x≠0 then s.fK n x else if s.MH (s.bO n x)then 5 else 0
def du(s:FF)(n:Int)(x:ByteArray):FF:=if s.dz n x=0 then rk {s.ey n x with bM:=ad s.bM (s.bO n x) (s.bM (s.bO n x)-1)} (s.bO n x)else s
def Am(s:FF):Nat->Int->Int->Bool
 | 0,n,k=>decide (n=k)
 | f+1,n,k=>if n=k then true else if s.up n=n then false else Am s f (s.up n) k
def Kg(d:Int->Nat)(s:FF)(n k:Int):Bool:=Am s (d n) n k
def fX(d:Int->Nat)(s:FF)(n:Int)(x:ByteArray)(to:Int):Int:=if s.fK n x≠0 then s.fK n x else if s.cC to 2≠0 then s.cC to 2 else if s.dJ n≠s.dJ to then 11 else if s.aO (s.bO n x)=2/\Kg d s to (s.bO n x)=true then 5 else 0
def eN(d:Int->Nat)(s:FF)(n:Int)(x:ByteArray)(to:Int)(y:ByteArray):Int:=if s.fX d n x to≠0 then s.fX d n x to else(s.ey n x).fi to y
def move(d:Int->Nat)(s:FF)(n:Int)(x:ByteArray)(to:Int)(y:ByteArray):FF:=
 if s.fX d n x to≠0 then s else if(s.ey n x).fi to y≠0 then(s.ey n x).tm n x (s.bO n x)else
  if s.aO (s.bO n x)=2 then {(s.ey n x).tm to y (s.bO n x)with up:=ad s.up (s.bO n x) to} else(s.ey n x).tm to y (s.bO n x)
def ea(s:FF)(n:Int):FF:=if s.cC n 0=0 then {s with bj:=ad s.bj n (s.bj n+1)} else s
def DC(s:FF)(n:Int):Int:=if s.cC n 0≠0 then s.cC n 0 else if s.bj n=0 then 8 else 0
def kQ(s:FF)(n:Int):FF:=if s.DC n=0 then rk {s with bj:=ad s.bj n (s.bj n-1)} n else s
def mj(s:FF)(n at_ m:Int):Int:=if s.cC n 1≠0 then s.cC n 1 else if at_<0\/m<0 then 1 else 0
def kM(s:FF)(n at_ m:Int):ByteArray:=if s.mj n at_ m=0 then(s.data n).extract (min at_ (s.data n).size).toNat (min at_ (s.data n).size+min m ((s.data n).size-min at_ (s.data n).size)).toNat else ByteArray.empty
def fg(s:FF)(n at_:Int)(x:ByteArray):Int:=if s.cC n 1≠0 then s.cC n 1 else if at_<0 then 1 else if 40<at_\/40-at_<(x.size:Int)then 4 else 0
def cm(s:FF)(n at_:Int)(x:ByteArray):FF:=if s.fg n at_ x=0/\x≠ByteArray.empty then {s with data:=ad s.data n (W9 (s.data n) at_.toNat x)} else s
def dB:FF:=⟨fun _=>0,fun _=>0,fun _=>0,fun _=>0,fun _=>0,fun _=>ByteArray.empty,fun _=>[],fun _=>[],[]⟩
def HO(f:Int->List Int)(k:Int):Nat->Nat
 | 0=>0
 | n+1=>HO f k n+(f (n:Int)).count k
def nG(s:FF)(k:Int):Nat:=HO s.kids k 40+s.roots.count k
structure Sh (s:FF):Prop where
 js:∀ n,0<=n->n<40->fv (s.aI n)/\(s.aI n).length=(s.kids n).length/\(s.aI n).length<=8/\(s.aO n≠2->s.aI n=[])
 kids:∀ n,0<=n->n<40->∀ k∈s.kids n,0<=k/\k<40
 data:∀ n,0<=n->n<40->(s.data n).size<=40
 roots:s.roots.length<=4/\∀ r∈s.roots,0<=r/\r<40
 num:∀ n,0<=n->n<40-> -1000000<=s.bM n/\s.bM n<=1000000/\0<=s.bj n/\s.bj n<=1000000
structure dV (s:FF) (d:Int->Nat) (e q:Int):Prop where
 kinds:∀ n,0<=n->n<40->s.aO n=0\/s.aO n=1\/s.aO n=2
 js:∀ n,0<=n->n<40->fv (s.aI n)/\(s.aI n).length=(s.kids n).length/\(s.aI n).length<=8/\(s.aO n≠2->s.aI n=[])
 MI:∀ n,0<=n->n<40->∀ x∈s.aI n,ko x=true
 kids:∀ n,0<=n->n<40->∀ k∈s.kids n,0<=k/\k<40/\s.aO k≠0/\s.dJ k=s.dJ n/\(s.aO k=2->s.up k=n/\d n<d k)
 data:∀ n,0<=n->n<40->(s.data n).size<=40/\(s.aO n≠1->s.data n=ByteArray.empty)
 roots:s.roots.length<=4/\∀ r∈s.roots,0<=r/\r<40/\s.aO r=2/\s.up r=r
 up:∀ n,0<=n->n<40->s.aO n=2->n≠e->n≠q->(n∈s.roots/\s.up n=n)\/(0<=s.up n/\s.up n<40/\s.aO (s.up n)=2/\n∈s.kids (s.up n)/\d (s.up n)<d n)
 num:∀ n,0<=n->n<40->0<=s.bj n/\s.bM n=(s.nG n:Int)+(if n=e then 1 else 0)
 zero:∀ n,0<=n->n<40->s.aO n=0->s.bM n=0/\s.bj n=0
 pos:∀ n,0<=n->n<40->s.aO n≠0->n≠q->0<s.bM n\/0<s.bj n
 Kh:∀ n,0<=n->n<40->s.aO n=2->n≠q->s.bM n=1
abbrev Inv(s:FF)(d:Int->Nat):Prop:=s.dV d (-1) (-1)
def yH{s:FF}(h:s.cC n 0=0):0<=n/\n<40/\s.aO n≠0:=by
 grind [cC]
def jt{s:FF}(h:s.cC n k=0):0<=n/\n<40/\s.aO n≠0/\(0<k->s.aO n=k):=by
 grind [cC]
theorem UR{s:FF}(h:s.cC n 0≠0):s.cC n 0=s.cC n k:=by
 grind [cC]
def ack(s:FF)(n k:Int):0<=s.cC n k:=by grind [cC]
end FF
def au:Nat->Bool:=fun i=>Nat.blt i 40
def FC.aX(e:TypeId)(s:FC):Nat->qh:=fun i=>⟨.slice (s.nP (i:Int)) (s.aI (i:Int)).length (s.nC (i:Int)),e,1,(s.aI (i:Int)).length,strs (s.aI (i:Int))⟩
def FC.aY(e:TypeId)(s:FC):Nat->qh:=fun i=>⟨.slice (s.kP (i:Int)) (s.kids (i:Int)).length (s.kC (i:Int)),e,1,(s.kids (i:Int)).length,fS (s.kids (i:Int))⟩
def FC.dB:FC:=⟨FF.dB,fun _=>none,fun _=>0,fun _=>none,fun _=>0,none,0⟩
end Go.X.Tr
