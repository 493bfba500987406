import Derived.Test.YthdinakloheinaaGreatDoorkVBT
import Derived.Test.YthdinakloheinaaGreatDoorkFO
namespace Go.X.Vm
open Go Go.X
def NS(b:Nat):List Value:=ptr b 0 0::(List.replicate 512 (Value.int .u8 0)++List.replicate 64 (Value.int .i64 0))
def VB.init:VB:=⟨BB.init,fun _ _=>0,fun _=>0⟩
theorem VB.Ok.init:VB.init.Ok:=⟨BB.Inv.init,fun _=>by simp[VB.init],fun _ _=>by simp[VB.init]⟩
theorem LV(b:Nat):∀ i,i<577→cellsOf (NS b).toArray i=bu b VB.init.by_ VB.init.rf i:=fun i hi=>by
 unfold cellsOf NS bu
 rw[Array.getD_eq_getD_getElem?,List.getElem?_toArray]
 by_cases h0:i=0
 ·subst h0;rfl
 ·rw[if_neg h0,show i=(i-1)+1 from by omega,List.getElem?_cons_succ]
  by_cases h1:i-1<512
  ·rw[List.getElem?_append_left (by rw[List.length_replicate];exact h1),List.getElem?_replicate,if_pos h1]
   rw[if_pos (by omega)];rfl
  ·rw[List.getElem?_append_right (by rw[List.length_replicate];omega),List.length_replicate,List.getElem?_replicate,if_pos (by omega)]
   rw[if_neg (by omega),if_pos (by omega)];rfl
def ND(b:Nat):List Value:=ptr b 0 0:: .slice none 0 0::(List.replicate 16 [Value.int .i64 0,Value.bool false]).flatten
theorem FH(b:Nat):∀ i,i<34→cellsOf (ND b).toArray i=bE b none 0 0 (fun _=>1) (fun _=>false) i:=fun i hi=>by
 unfold cellsOf ND bE
 rw[Array.getD_eq_getD_getElem?,List.getElem?_toArray]
 by_cases h0:i=0
 ·subst h0;rfl
 ·rw[if_neg h0]
  by_cases h1:i=1
  ·subst h1;rfl
  ·rw[if_neg h1]
   have h:∀ k,k<32→((List.replicate 16 [Value.int .i64 0,Value.bool false]).flatten)[k]? =some (if k%2=0 then Value.int .i64 0 else .bool false):=fun k hk=>match k,hk with
    | 0,_=>rfl
    | 1,_=>rfl
    | 2,_=>rfl
    | 3,_=>rfl
    | 4,_=>rfl
    | 5,_=>rfl
    | 6,_=>rfl
    | 7,_=>rfl
    | 8,_=>rfl
    | 9,_=>rfl
    | 10,_=>rfl
    | 11,_=>rfl
    | 12,_=>rfl
    | 13,_=>rfl
    | 14,_=>rfl
    | 15,_=>rfl
    | 16,_=>rfl
    | 17,_=>rfl
    | 18,_=>rfl
    | 19,_=>rfl
    | 20,_=>rfl
    | 21,_=>rfl
    | 22,_=>rfl
    | 23,_=>rfl
    | 24,_=>rfl
    | 25,_=>rfl
    | 26,_=>rfl
    | 27,_=>rfl
    | 28,_=>rfl
    | 29,_=>rfl
    | 30,_=>rfl
    | 31,_=>rfl
    | k+32,h=>absurd h (by omega)
   rw[show i=(i-2)+1+1 from by omega,List.getElem?_cons_succ,List.getElem?_cons_succ,h _ (by omega)]
   by_cases h2:(i-2)%2=0
   ·rw[if_pos h2,if_pos (by omega)];rfl
   ·rw[if_neg h2,if_neg (by omega),if_pos (by omega)];rfl
theorem kj{kb:Nat}{p:Option Addr}{n c:Nat}{f f':Int→Int}{o o':Int→Bool}(h:∀ i:Int,0≤i→i<16→f i=f' i∧o i=o' i):bE kb p n c f o=bE kb p n c f' o':=by
 funext j
 unfold bE
 refine au (fun _=>rfl) (fun _=>au (fun _=>rfl) (fun _=>au (fun d=> ?_) (fun _=>au (fun d=> ?_) (fun _=>rfl))))
 ·have:=(h (((j-2)/2:Nat):Int) (by omega) (by omega)).1
  simp only[this]
 ·have:=(h (((j-3)/2:Nat):Int) (by omega) (by omega)).2
  simp only[this]
def Jv(i:Int):Int→Int:=fun j=>if 0≤j∧j<i then 0 else 1
theorem Gh{i:Int}(h:0≤i):aa (Jv i) i (-1+1)=Jv (i+1):=by
 funext j
 unfold aa Jv
 by_cases c:j=i
 ·rw[if_pos c,if_pos (by omega)];rfl
 ·rw[if_neg c]
  by_cases d:0≤j∧j<i
  ·rw[if_pos d,if_pos (by omega)]
  ·rw[if_neg d,if_neg (by omega)]
theorem EF:runs MS.nil.aI=[]:=by decide+kernel
theorem VB.l6{v:VB}(h:(v.bb.take 0).2.1=0):v.take=((v.bb.take 0).1,0,⟨(v.bb.take 0).2.2,Ea v.by_ (v.bb.take 0).1 (fun _=>0),aa v.rf (v.bb.take 0).1 1⟩):=by unfold VB.take;rw[if_neg (by simp[h])]
theorem VB.AD{v:VB}(h:¬(v.bb.take 0).2.1=0):v.take=(0,(v.bb.take 0).2.1,v):=by unfold VB.take;rw[if_pos h]
theorem VB.Ok.take{v:VB}(hv:v.Ok):v.take.2.2.Ok:=by
 by_cases c:(v.bb.take 0).2.1=0
 ·rw[VB.l6 c]
  refine⟨hv.bb.take 0,fun f=> ?_,fun f j=> ?_⟩
  ·show 0≤aa v.rf _ 1 f∧aa v.rf _ 1 f≤100000
   unfold aa;split
   ·omega
   ·exact hv.rf f
  ·show 0≤Ea v.by_ (v.bb.take 0).1 (fun _=>0) f j∧Ea v.by_ (v.bb.take 0).1 (fun _=>0) f j<256
   unfold Ea;split
   ·simp
   ·exact hv.by_ f j
 ·rw[VB.AD c];exact hv
theorem VB.Ok.drop{v:VB}(hv:v.Ok){f:Int}(h:1≤v.rf f):(v.drop f).Ok:=by
 have hr:∀ g,0≤aa v.rf f (v.rf f-1) g∧aa v.rf f (v.rf f-1) g≤100000:=fun g=>by
  unfold aa;split
  ·have:=hv.rf f;omega
  ·exact hv.rf g
 unfold VB.drop;split
 ·exact⟨hv.bb.kI f,hr,hv.by_⟩
 ·exact⟨hv.bb,hr,hv.by_⟩
theorem VB.Au(v:VB)(f:Int):(v.drop f).rf=aa v.rf f (v.rf f-1)∧(v.drop f).by_=v.by_:=by unfold VB.drop;split<;>exact⟨rfl,rfl⟩
theorem VB.EV{v:VB}{f:Int}(h:v.rf f-1=0):v.drop f=⟨(v.bb.kI f).2,v.by_,aa v.rf f (v.rf f-1)⟩:=by unfold VB.drop;rw[if_pos h]
theorem VB.F6{v:VB}{f:Int}(h:¬v.rf f-1=0):v.drop f=⟨v.bb,v.by_,aa v.rf f (v.rf f-1)⟩:=by unfold VB.drop;rw[if_neg h]
def JF(fr:Int→Int)(own:Int→Bool):Array Value:=((List.range 32).map fun (j:Nat)=>if j%2=0 then Value.int .i64 (fr ((j/2:Nat):Int)-1)else .bool (own ((j/2:Nat):Int))).toArray
theorem zo(kb:Nat)(p:Option Addr)(n c:Nat)(fr:Int→Int)(own:Int→Bool):0+2+32≤34∧cq (bE kb p n c fr own) (0+2) 32= .agg (JF fr own):=by
 refine⟨by omega,?_⟩
 unfold cq JF
 congr 2
theorem LN{fr:Int→Int}{own:Int→Bool}{z:Int}(h:0≤z∧z<16):(JF fr own).extract (z.toNat*2) (z.toNat*2+2)= #[.int .i64 (fr z-1),.bool (own z)]:=by
 have hs:(JF fr own).size=32:=by simp[JF]
 apply Array.ext
 ·simp[hs];omega
 ·intro i h1 h2
  have h3:i=0∨i=1:=by simp at h2;omega
  rw[Array.getElem_extract]
  rcases h3 with rfl | rfl
  ·simp only[JF,List.getElem_toArray,List.getElem_map,List.getElem_range,Nat.add_zero]
   rw[if_pos (by omega),show((z.toNat*2/2:Nat):Int)=z from by omega];try rfl
  ·simp only[JF,List.getElem_toArray,List.getElem_map,List.getElem_range]
   rw[if_neg (by omega),show(((z.toNat*2+1)/2:Nat):Int)=z from by omega];try rfl
theorem Cf{l:List RG} :(bz (dD l) (l.length*3)).all one=true:=by
 rw[List.all_eq_true]
 intro v hv
 simp only[bz,List.mem_map,List.mem_range]at hv
 obtain⟨j,hj,rfl⟩:=hv
 unfold dD RG.cell
 have:j%3=0∨j%3=1∨j%3=2:=by omega
 rcases this with q | q | q<;>rw[q]<;>rfl
def Bk(f:Int)(w:Bool)(i:Nat):Value:=if i=0 then .int .i64 f else if i=1 then .bool w else undef
theorem Bk.f(f:Int)(w:Bool):0+0<2∧Bk f w (0+0)= .int .i64 f:=⟨by omega,rfl⟩
theorem Bk.w(f:Int)(w:Bool):0+1<2∧Bk f w (0+1)= .bool w:=⟨by omega,rfl⟩
theorem Bk.box(f:Int)(w:Bool):∀ i,i<2→cellsOf #[.int .i64 f,.bool w] i=Bk f w i:=fun i h=>by
 match i,h with
 | 0,_=>rfl
 | 1,_=>rfl
 | k+2,h=>omega
theorem Bk.st(f g:Int)(w u:Bool):0+2≤2∧bQ (Bk g u) 0 [.int .i64 f,.bool w]=Bk f w:=⟨by omega,by
 funext i
 match i with
 | 0=>rfl
 | 1=>rfl
 | k+2=>simp[bQ,cH,Bk]⟩
theorem C9{l:List RG}(h:GL l):∀ r∈l,0≤r.fr∧r.fr≤16:=fun r hr=>by have:=h.b r hr;omega
section
variable {P:Program} {n:Fr} {Q:Exit→Act→World→Prop} {L:PF} {ops:Md} {rest:List Oper} {ty:TypeId} {pos:String} {af:Array Edge} {d:Nat} {W:World} {S:Nat→Nat→Prop} {H H':List ax}
theorem XO.jZ{t e:TypeId}{x y:Operand}{p:Option Addr}{cap c b:Nat}{acc:List RG}{r:RG}(hx:ev L x=some (.slice p acc.length cap))(hy:ev L y=some (.slice (some ⟨b,0,none⟩) 1 c))(ht:P.underlying t=some (.slice e))(hr:kV P e 3=true)(hH:dX H (bj p cap e 3 acc.length (dD acc)) H')(hN:Has H (.cells b 0 3 (cellsOf r.arr)))(hk:acc.length+1≤100000000000)(hd:Nat.blt d n.sz=true)(h:∀ p' cap',XO P n ops Q rest ((d,.slice p' (acc++[r]).length cap')::L) (XM W S (bj p' cap' e 3 (acc++[r]).length (dD (acc++[r]))::H'))):XO P n ops Q (⟨some d,.call ⟨.builtin .append,#[x,y],#[t,t]⟩,ty,pos,af,none⟩::rest) L (XM W S H):=
 XO.AA (C2:=dD (acc++[r])) hx hy ht hr hH hN rfl rfl (by omega) hk (dD.app acc r _ (fun i hi=>by
  match i,hi with
  | 0,_=>rfl
  | 1,_=>rfl
  | 2,_=>rfl
  | k+3,hi=>omega)) hd (fun p' cap'=>by
  have e1:acc.length+1=(acc++[r]).length:=by simp
  rw[e1]
  exact h p' cap')
end
theorem dD.NP{l:List RG}{m:Nat}(hm:m=l.length){z:Int}(h:0≤z∧z<m):0+z.toNat*3+3≤m*3∧cq (dD l) (0+z.toNat*3) 3= .agg (rat l z).arr:=by
 subst hm;exact dD.agg h
theorem AS(a n:Int)(r:RG):(gn a n r).length≤2:=by
 unfold gn
 split
 ·simp
 ·rw[List.length_append];split<;>split<;>simp
theorem lQ(l:List RG)(r:RG):mg (l++[r])=yz (mg l) r:=by unfold mg;rw[List.foldl_append];rfl
theorem DT:∀ (k:Nat) (l:List RG),l.length=k→(mg l).length≤k
 | 0,l,h=>by rw[List.length_eq_zero_iff]at h;subst h;simp[mg]
 | k+1,l,h=>by
  obtain⟨l',x,rfl⟩:=iY (l:=l) (by omega)
  rw[lQ]
  have h1:=Az (mg l') x
  have h2:=DT k l' (by simp at h;exact h)
  omega
theorem Mp:∀ (k:Nat) (l:List RG),l.length=k→(∀ r∈l,0≤r.fr∧0<r.n∧r.fr+r.n≤16)→∀ r∈mg l,0≤r.fr∧0<r.n∧r.fr+r.n≤16
 | 0,l,h,_=>by rw[List.length_eq_zero_iff]at h;subst h;intro r hr;simp[mg]at hr
 | k+1,l,h,hb=>by
  obtain⟨l',x,rfl⟩:=iY (l:=l) (by omega)
  have ih:=Mp k l' (by simp at h;exact h) (fun r hr=>hb r (by simp[hr]))
  have hx:=hb x (by simp)
  rw[lQ]
  intro r hr
  rcases Nat.eq_zero_or_pos (mg l').length with q | q
  ·rw[List.length_eq_zero_iff]at q;rw[q,ng]at hr
   simp only[List.mem_singleton]at hr;subst hr;exact hx
  ·obtain⟨m',y,hy⟩:=iY q
   rw[hy,fy]at hr
   rw[hy]at ih
   have hyb:=ih y (by simp)
   split at hr
   ·rename_i c
    rcases List.mem_append.1 hr with hr | hr
    ·exact ih r (by simp[hr])
    ·simp only[List.mem_singleton]at hr;subst hr;simp;omega
   ·simp only[List.mem_append,List.mem_cons,List.not_mem_nil,or_false]at hr
    rcases hr with hr | rfl | rfl
    ·exact ih r (by simp[hr])
    ·exact hyb
    ·exact hx
theorem iB{l:List RG}{i:Int}(h:0≤i∧i<l.length):l.take (i+1).toNat=l.take i.toNat++[rat l i]:=by
 rw[show(i+1).toNat=i.toNat+1 from by omega,List.take_add_one,IA h];rfl
theorem lI{β:Type}(f:RG→List β){l:List RG}{i:Int}(h:0≤i∧i<l.length):(l.take (i+1).toNat).flatMap f=(l.take i.toNat).flatMap f++f (rat l i):=by
 rw[iB h];simp
theorem Lf{a n:Int}{r:RG}(h:¬min (r.fr+r.n) (a+n)≤max r.fr a):gn a n r=(if r.fr<max r.fr a then [⟨r.fr,max r.fr a-r.fr,r.w⟩]else [])++(if min (r.fr+r.n) (a+n)<r.fr+r.n then [⟨min (r.fr+r.n) (a+n),r.fr+r.n-min (r.fr+r.n) (a+n),r.w⟩]else []):=by unfold gn;rw[if_neg h]
theorem HX{a n:Int}{r:RG}(h:min (r.fr+r.n) (a+n)≤max r.fr a):gn a n r=[r]∧mr a n r=[]:=by
 unfold gn mr;rw[if_pos h,show(min (r.fr+r.n) (a+n)-max r.fr a).toNat=0 from by omega];exact⟨rfl,rfl⟩
theorem zK(a:Int){k:Int}(h:0≤k):eC a (k+1).toNat=eC a k.toNat++[a+k]:=by
 rw[show(k+1).toNat=k.toNat+1 from by omega,eC,show((k.toNat:Nat):Int)=k from by omega]
theorem rY(v:VB)(fr:Int→Int)(l:List Int)(i:Int):kY v fr (l++[i])=JV fr (kY v fr l) i:=by unfold kY;rw[List.foldl_append];rfl
theorem BM{l:List Int}(h:0<l.length):∃ l' i,l=l'++[i]:=⟨l.dropLast,l.getLast (by intro e;rw[e]at h;simp at h),(List.dropLast_concat_getLast _).symm⟩
theorem FB{v:VB}{m:MS}(hv:v.Ok)(hm:m.Ok)(hi:m.In v):∀ (k:Nat) (l:List Int),l.length=k→l.Nodup→(kY v m.fr l).2.Ok∧(0≤(kY v m.fr l).1∧(kY v m.fr l).1≤k)∧∀ g,(∀ i∈l,m.fr i≠g+1)→(kY v m.fr l).2.rf g=v.rf g
 | 0,l,h,_=>by rw[List.length_eq_zero_iff]at h;subst h;exact⟨hv,by simp[kY],fun _ _=>rfl⟩
 | k+1,l,h,hn=>by
  obtain⟨l',i,rfl⟩:=BM (l:=l) (by omega)
  rw[List.nodup_append]at hn
  obtain⟨i1,i2,i3⟩:=FB hv hm hi k l' (by simp at h;exact h) hn.1
  rw[rY]
  unfold JV
  split
  ·rename_i c
   have e:(kY v m.fr l').2.rf (m.fr i-1)=v.rf (m.fr i-1):=i3 _ (fun j hj q=>by
    have:=hm.inj i j c (by omega)
    subst this
    exact hn.2.2 i hj i (by simp) rfl)
   refine⟨i1.drop (by rw[e];exact hi i c),⟨by show 0≤(kY v m.fr l').1+1;omega,by show(kY v m.fr l').1+1≤_;omega⟩,fun g hg=> ?_⟩
   show((kY v m.fr l').2.drop (m.fr i-1)).rf g=_
   rw[(VB.Au _ _).1,ad _ _ (by have:=hg i (by simp);omega)]
   exact i3 g (fun j hj=>hg j (by simp[hj]))
  ·exact⟨i1,⟨i2.1,by omega⟩,fun g hg=>i3 g (fun j hj=>hg j (by simp[hj]))⟩
def iv(f:Int→Int)(l:List Int):Int→Int:=fun i=>if i∈l then 0 else f i
def di(f:Int→Bool)(l:List Int):Int→Bool:=fun i=>if i∈l then false else f i
theorem CI(f:Int→Int)(l:List Int)(i:Int):iv f (l++[i])=aa (iv f l) i (-1+1):=by
 funext j;unfold iv aa
 by_cases h:j=i
 ·subst h;simp
 ·simp[h]
theorem Cj(f:Int→Bool)(l:List Int)(i:Int):di f (l++[i])=aa (di f l) i false:=by
 funext j;unfold di aa
 by_cases h:j=i
 ·subst h;simp
 ·simp[h]
theorem Dc{f:Int→Int}{l:List Int}{i:Int}(h:f i=0):iv f (l++[i])=iv f l:=by
 funext j;unfold iv
 by_cases c:j=i
 ·subst c;simp[h]
 ·simp[c]
theorem BP{f:Int→Bool}{l:List Int}{i:Int}(h:f i=false):di f (l++[i])=di f l:=by
 funext j;unfold di
 by_cases c:j=i
 ·subst c;simp[h]
 ·simp[c]
theorem JM{l:List Int}{i:Int}(h:0≤i∧i<l.length):l.take (i+1).toNat=l.take i.toNat++[ep l i]:=by
 rw[show(i+1).toNat=i.toNat+1 from by omega,List.take_add_one]
 unfold ep
 rw[List.getD_eq_getElem?_getD,List.getElem?_eq_getElem (by omega)];rfl
theorem ja{l:List Int}{i:Int}(h:0≤i∧i<l.length):ep l i∈l:=by
 unfold ep
 rw[List.getD_eq_getElem?_getD,List.getElem?_eq_getElem (by omega)];simp
theorem Iu{l:List Int}(hs:l.Pairwise (fun x y=>x<y)){i:Int}(h:0≤i∧i<l.length):ep l i∉l.take i.toNat:=by
 intro hm
 obtain⟨k,hk,e⟩:=List.mem_iff_getElem.1 hm
 simp only[List.length_take]at hk
 rw[List.getElem_take]at e
 have:=List.pairwise_iff_getElem.1 hs k i.toNat (by omega) (by omega) (by omega)
 unfold ep at e
 rw[List.getD_eq_getElem?_getD,List.getElem?_eq_getElem (by omega)]at e
 simp at e
 omega
theorem Et{l:List Int}(hs:l.Pairwise (fun x y=>x<y)):l.Nodup:=hs.imp (fun h e=>by omega)
theorem yJ{l:List Int}(hs:l.Pairwise (fun x y=>x<y))(k:Nat):(l.take k).Nodup:=(Et hs).sublist (List.take_sublist _ _)
theorem MS.Ok.ew{v:VB}{m:MS}(h:m.Ok)(a n:Int):(m.ew v a n).2.2.2.Ok:=by
 unfold MS.ew
 split
 ·exact h
 ·rename_i hb
  refine⟨h.f.dy hb (.inl rfl),fun i=> ?_,fun i hi=> ?_,fun i hi=> ?_,fun i j hi hij=> ?_⟩
  ·show 0≤dy m.fr a n 0 i∧dy m.fr a n 0 i≤64
   unfold dy;split
   ·omega
   ·exact h.lo i
  ·show dy m.fr a n 0 i=0
   have hi:dy m.aI a n 0 i=0:=hi
   unfold dy at hi ⊢;split
   ·rfl
   ·rename_i c;rw[if_neg c]at hi;exact h.un i hi
  ·show dy m.own a n false i=false
   have hi:dy m.fr a n 0 i=0:=hi
   unfold dy at hi ⊢;split
   ·rfl
   ·rename_i c;rw[if_neg c]at hi;exact h.ow i hi
  ·have hi:0<dy m.fr a n 0 i:=hi
   have hij:dy m.fr a n 0 i=dy m.fr a n 0 j:=hij
   unfold dy at hi hij
   split at hi
   ·omega
   ·rename_i c
    rw[if_neg c]at hij
    split at hij
    ·omega
    ·exact h.inj i j hi hij
end Go.X.Vm

namespace Go.X.Fa
open Go Go.X
namespace SF
def kG(s:SF)(n p w:Int)(h:Bool):SF:=⟨aa s.here n h,aa s.par n p,aa s.wt n w,aa s.v n 0,aa s.ran n 0,aa s.awake n false,aa s.floor n 0,aa s.frz n false,aa s.quota n 0,aa s.period n 0,aa s.used n 0,s.now,aa s.was n false⟩
def gj(s:SF)(n p w:Int):Int:=if n<0∨20≤n∨w<1∨1000<w then 1 else if s.here (10+n)=true then 3 else s.vO p
def mV(s:SF)(n p w:Int):SF:=if s.gj n p w=0 then s.kG (10+n) p w true else s
def ei(d:Int→Nat)(s:SF)(n:Int)(on:Bool):SF:=if s.pw n=0 then look d {s with awake:=aa s.awake (10+n) on} (10+n)else s
def sj(d:Int→Nat)(s:SF)(n:Int):SF:=if s.pw n=0 then(s.ei d n false).kG (10+n) 0 0 false else s
def nR(s:SF)(n g:Int):Int:=if s.pw n≠0 then s.pw n else s.vO g
def N8(d:Int→Nat)(s:SF)(n g:Int):SF:= {s.ei d n false with par:=aa (s.ei d n false).par (10+n) g,v:=aa (s.ei d n false).v (10+n) 0,awake:=aa (s.ei d n false).awake (10+n) (s.awake (10+n))}
def move(d:Int→Nat)(s:SF)(n g:Int):SF:=if s.nR n g=0 then look (aa d (10+n) (d g+1)) (N8 d s n g) (10+n)else s
theorem Jl{s:SF}{n:Int}(h:s.vO n=0):0≤n∧n<10∧s.here n=true:=by
 unfold vO at h
 split at h
 ·omega
 ·split at h
  ·exact⟨by omega,by omega,by assumption⟩
  ·omega
theorem DQ{s:SF}{n:Int}(h:s.pw n=0):0≤n∧n<20∧s.here (10+n)=true:=by
 unfold pw at h
 split at h
 ·omega
 ·split at h
  ·exact⟨by omega,by omega,by assumption⟩
  ·omega
theorem Kv{s:SF}{n:Int}(h0:0≤n)(h1:n<20)(h2:s.here (10+n)=true):s.pw n=0:=by unfold pw;rw[if_neg (by omega),if_pos h2]
theorem fb:∀ (k:Nat) (s:SF) (n:Int),(dR k s n).here=s.here∧(dR k s n).par=s.par∧(dR k s n).wt=s.wt∧(dR k s n).ran=s.ran∧(dR k s n).awake=s.awake∧(dR k s n).floor=s.floor∧(dR k s n).frz=s.frz∧(dR k s n).quota=s.quota∧(dR k s n).period=s.period∧(dR k s n).used=s.used∧(dR k s n).now=s.now
 | 0,s,n=>⟨rfl,rfl,rfl,rfl,rfl,rfl,rfl,rfl,rfl,rfl,rfl⟩
 | k+1,s,n=>by
  by_cases h:n≤0
  ·rw[gy _ _ h];exact⟨rfl,rfl,rfl,rfl,rfl,rfl,rfl,rfl,rfl,rfl,rfl⟩
  ·rw[iO _ _ (by omega)]
   exact fb k (s.kS n) (s.par n)
theorem uq{d:Int→Nat} :∀ (k:Nat) (s:SF) (n:Int),s.Inv d→(n=0∨(0<n∧n<30∧s.here n=true))→(dR k s n).Inv d
 | 0,s,n,h,_=>h
 | k+1,s,n,h,hn=>by
  rcases hn with rfl | ⟨n0,n1,n2⟩
  ·rw[gy _ _ (by omega)];exact h
  ·rw[iO _ _ n0]
   obtain⟨p0,p1,p2,_⟩:=h.up n n0 n1 n2
   refine uq k (s.kS n) (s.par n) (h.kS n0 n1 n2) ?_
   by_cases c:s.par n=0
   ·exact .inl c
   ·exact .inr ⟨by omega,by omega,p2⟩
def gP(s:SF):Prop:=∀ n,0<n→n<30→s.here n=true→s.was n=s.ready n
end SF
def gQ(u:ao.U):Array Value:=((List.range 76).map (ao.cell u)).toArray
abbrev rm(h:Bool)(p w:Int):ao.U:=⟨h,p,w,0,0,false,0,false,0,0,0,QS.void,none,0⟩
theorem eS{c:Prop}[Decidable c]{a b:Value}(h1:c→one a=true)(h2:¬c→one b=true):one (if c then a else b)=true:=by
 by_cases h:c
 ·rw[if_pos h];exact h1 h
 ·rw[if_neg h];exact h2 h
theorem GH(s:QS)(p:Option Addr)(c i:Nat)(hi:i<65):one (dC s p c i)=true:=eS (fun _=>rfl) (fun _=>eS (fun _=>rfl) (fun h=>absurd hi h))
theorem Fu(u:ao.U)(j:Nat)(hj:j<76):one (ao.cell u j)=true:=
 eS (fun _=>rfl) (fun _=>eS (fun _=>rfl) (fun _=>eS (fun _=>rfl) (fun _=>eS (fun _=>rfl) (fun _=>eS (fun _=>rfl) (fun _=>eS (fun _=>rfl) (fun _=>eS (fun c=>GH _ _ _ _ (by omega)) (fun _=>eS (fun _=>rfl) (fun _=>eS (fun _=>rfl) (fun _=>eS (fun _=>rfl) (fun _=>eS (fun _=>rfl) (fun _=>eS (fun _=>rfl) (fun _=>by exact absurd hj (by omega)))))))))))))
theorem mP(u:ao.U):(gQ u).toList.all one=true∧(gQ u).size=76:=by
 refine⟨List.all_eq_true.2 fun x hx=> ?_,by simp[gQ]⟩
 simp only[gQ,List.mem_map,List.mem_range]at hx
 obtain⟨j,hj,rfl⟩:=hx
 exact Fu u j hj
theorem qQ(s:SC)(z p w:Int)(h:Bool)(hz:0≤z∧z<30):0+0+z.toNat*76+76≤2281∧bQ (ao s) (0+0+z.toNat*76) (gQ (rm h p w)).toList=ao ⟨s.toSF.kG z p w h,aa s.Q z QS.void,aa s.P z none,aa s.C z 0⟩:=
 ao.E9 s ⟨s.toSF.kG z p w h,aa s.Q z QS.void,aa s.P z none,aa s.C z 0⟩ z hz _ (by simp[gQ]) (fun j hj=>by
  have e:ao.un ⟨s.toSF.kG z p w h,aa s.Q z QS.void,aa s.P z none,aa s.C z 0⟩ z=rm h p w:=by
   unfold ao.un SF.kG
   simp only[ae]
  rw[e]
  simp[gQ,hj]) (fun y hy=>by
  unfold ao.un SF.kG
  simp only[ad _ _ hy]) rfl
theorem SC.jy.new{s:SC}(h:s.jy){z:Int}(hw:s.was z=false)(hk:∀ i,s.was i=true→s.par i≠z)(p w:Int)(hh:Bool):SC.jy ⟨s.toSF.kG z p w hh,aa s.Q z QS.void,aa s.P z none,aa s.C z 0⟩:=fun g g0 g1=>by
 show ib (aa s.Q z QS.void g) ((s.toSF.kG z p w hh).mq g)
 by_cases c:g=z
 ·subst c
  rw[ae]
  refine ib.void.ext (fun i _ _=> ?_) (fun i _ _ hi=>by cases hi)
  show(aa s.was g false i&&decide (aa s.par g p i=g))=false
  by_cases ci:i=g
  ·subst ci;rw[ae];rfl
  ·rw[ad _ _ ci,ad _ _ ci]
   cases q:s.was i with
   | false=>rfl
   | true=>simp[hk i q]
 ·rw[ad _ _ c]
  refine(h g g0 g1).ext (fun i _ _=> ?_) (fun i _ _ hi=> ?_)
  ·show(aa s.was z false i&&decide (aa s.par z p i=g))=(s.was i&&decide (s.par i=g))
   by_cases ci:i=z
   ·subst ci;rw[ae,hw];rfl
   ·rw[ad _ _ ci,ad _ _ ci]
  ·show aa s.v z 0 i=s.v i
   have ci:¬i=z:=fun e=>by
    subst e
    have:=((SF.ln _ _ _).1 hi).1
    rw[hw]at this;cases this
   rw[ad _ _ ci]
def SF.void:SF:=⟨fun _=>false,fun _=>0,fun _=>0,fun _=>0,fun _=>0,fun _=>false,fun _=>0,fun _=>false,fun _=>0,fun _=>0,fun _=>0,0,fun _=>false⟩
def SC.void:SC:=⟨SF.void,fun _=>QS.void,fun _=>none,fun _=>0⟩
def DU:Array Value:=((List.range 2281).map (ao SC.void)).toArray
theorem C7:DU.size=2281:=by simp[DU]
theorem Eg:∀ i,i<2281→cellsOf DU i=ao SC.void i:=fun i hi=>by simp[cellsOf,DU,hi]
def SF.init:SF:=SF.void.kG 0 (-1) 1 true
theorem SC.jy.void:SC.void.jy:=fun g _ _=>ib.void.ext (fun i _ _=>rfl) (fun i _ _ hi=>by cases hi)
end Go.X.Fa

namespace Go.X.Fa
open Go Go.X
namespace SF
theorem tT{d:Int→Nat} :∀ (k:Nat) (s:SF) (n:Int),s.Inv d→(n=0∨(0<n∧n<30∧s.here n=true))→∀ i,(n=0∨d n<d i)→(dR k s n).was i=s.was i∧(dR k s n).v i=s.v i
 | 0,s,n,_,_,i,_=>⟨rfl,rfl⟩
 | k+1,s,n,h,hn,i,hi=>by
  rcases hn with rfl | ⟨n0,n1,n2⟩
  ·rw[gy _ _ (by omega)];exact⟨rfl,rfl⟩
  ·rw[iO _ _ n0]
   obtain⟨p0,p1,p2,p3⟩:=h.up n n0 n1 n2
   have hd:d n<d i:=by
    rcases hi with q | q
    ·omega
    ·exact q
   have hin:¬i=n:=fun e=>by subst e;omega
   have ih:=tT k (s.kS n) (s.par n) (h.kS n0 n1 n2) (by
    by_cases c:s.par n=0
    ·exact .inl c
    ·exact .inr ⟨by omega,by omega,p2⟩) i (.inr (by omega))
   have e1:(s.kS n).was i=s.was i:=ad _ _ hin
   have e2:(s.kS n).v i=s.v i:=ad _ _ hin
   rw[ih.1,ih.2,e1,e2];exact⟨rfl,rfl⟩
theorem A6{s:SF}{d:Int→Nat}(h:s.Inv d){n:Int}(n0:0<n)(n1:n<30)(n2:s.here n=true):(look d s n).was n=s.ready n:=by
 unfold look
 rw[iO _ _ n0]
 obtain⟨p0,p1,p2,p3⟩:=h.up n n0 n1 n2
 have e:=(tT (d n) (s.kS n) (s.par n) (h.kS n0 n1 n2) (by
  by_cases c:s.par n=0
  ·exact .inl c
  ·exact .inr ⟨by omega,by omega,p2⟩) n (.inr p3)).1
 rw[e]
 exact ae _ _ _
theorem nm{s:SF}{d:Int→Nat}(h:s.Inv d){n:Int}(hn:n=0∨(0<n∧n<30∧s.here n=true)):(look d s n).Inv d:=uq _ _ _ h hn
theorem BH(d:Int→Nat)(s:SF)(n:Int):(look d s n).here=s.here:=(fb _ _ _).1
theorem GN(d:Int→Nat)(s:SF)(n:Int):(look d s n).par=s.par:=(fb _ _ _).2.1
def MP(s:SF)(g b:Int):Prop:=s.was b=true∧s.par b=g∧∀ i,s.was i=true→s.par i=g→¬k7 (s.v i) i (s.v b) b
theorem MP.uniq{s:SF}{g b b':Int}(h:s.MP g b)(h':s.MP g b'):b=b':=by
 have h1:=h.2.2 b' h'.1 h'.2.1
 have h2:=h'.2.2 b h.1 h.2.1
 unfold k7 at h1 h2
 omega
theorem mW(s:SF)(g:Int):∀ (k:Nat),k≤29→(fE s g k<0→∀ i,29-(k:Int)<i→i≤29→¬(s.was i=true∧s.par i=g))∧
  (¬fE s g k<0→29-(k:Int)<fE s g k∧fE s g k≤29∧s.was (fE s g k)=true∧s.par (fE s g k)=g∧∀ i,29-(k:Int)<i→i≤29→s.was i=true→s.par i=g→¬k7 (s.v i) i (s.v (fE s g k)) (fE s g k))
 | 0,_=>⟨fun _ i h1 h2=>by omega,fun h=>absurd (by show(-1:Int)<0;omega) h⟩
 | k+1,hk=>by
  obtain⟨h1,h2⟩:=mW s g k (by omega)
  have e:fE s g (k+1)=if s.was (29-(k:Int))=true∧s.par (29-(k:Int))=g∧(fE s g k<0∨s.v (29-(k:Int))≤s.v (fE s g k))then 29-(k:Int)else fE s g k:=rfl
  by_cases c:s.was (29-(k:Int))=true∧s.par (29-(k:Int))=g∧(fE s g k<0∨s.v (29-(k:Int))≤s.v (fE s g k))
  ·rw[e,if_pos c]
   refine⟨fun q=>by omega,fun _=>⟨by push_cast;omega,by omega,c.1,c.2.1,fun i i0 i1 i2 i3 hl=> ?_⟩⟩
   by_cases ci:i=29-(k:Int)
   ·subst ci;unfold k7 at hl;omega
   ·by_cases cb:fE s g k<0
    ·exact h1 cb i (by push_cast at i0;omega) i1 ⟨i2,i3⟩
    ·have h3:=h2 cb
     have h4:=h3.2.2.2.2 i (by push_cast at i0;omega) i1 i2 i3
     rcases c.2.2 with q | q
     ·exact cb q
     ·unfold k7 at hl h4;omega
  ·rw[e,if_neg c]
   refine⟨fun q i i0 i1 i2=> ?_,fun q=> ?_⟩
   ·by_cases ci:i=29-(k:Int)
    ·subst ci;exact c ⟨i2.1,i2.2,.inl q⟩
    ·exact h1 q i (by push_cast at i0;omega) i1 i2
   ·obtain⟨g1,g2,g3,g4,g5⟩:=h2 q
    refine⟨by push_cast;omega,g2,g3,g4,fun i i0 i1 i2 i3 hl=> ?_⟩
    by_cases ci:i=29-(k:Int)
    ·subst ci
     have:¬s.v (29-(k:Int))≤s.v (fE s g k):=fun z=>c ⟨i2,i3,.inr z⟩
     unfold k7 at hl;omega
    ·exact g5 i (by push_cast at i0;omega) i1 i2 i3 hl
theorem Bz{s:SF}{g:Int}(hw:∀ i,s.was i=true→0<i∧i<30)(h:s.cW g<0):∀ i,s.was i=true→s.par i≠g:=fun i hi e=>by
 have:=hw i hi
 exact(mW s g 29 (by omega)).1 h i (by omega) (by omega) ⟨hi,e⟩
theorem nT{s:SF}{g:Int}(hw:∀ i,s.was i=true→0<i∧i<30)(h:¬s.cW g<0):s.MP g (s.cW g)∧0<s.cW g∧s.cW g<30:=by
 obtain⟨h1,h2,h3,h4,h5⟩:=(mW s g 29 (by omega)).2 h
 exact⟨⟨h3,h4,fun i i2 i3=>by
  have:=hw i i2
  exact h5 i (by omega) (by omega) i2 i3⟩,by have:29-((29:Nat):Int)<fE s g 29:=h1;unfold cW;omega,by unfold cW;omega⟩
theorem maxD_le(d:Int→Nat):∀ (k:Nat) (n:Int),0≤n→n<k→d n≤maxD d k
 | 0,n,h0,h1=>by omega
 | k+1,n,h0,h1=>by
  show d n≤max (maxD d k) (d (k:Int))
  by_cases c:n=(k:Int)
  ·subst c;omega
  ·have:=maxD_le d k n h0 (by omega);omega
theorem AI(s:SF)(k:Nat){a:Int}(h:10≤a):AR s k a=a:=by
 cases k with
 | zero=>rfl
 | succ k=>show(if 10≤a then a else _)=a;rw[if_pos h]
theorem zh(s:SF)(k:Nat){a:Int}(h:¬ 10≤a)(hb:¬s.cW a<0):AR s (k+1) a=AR s k (s.cW a):=by
 show(if 10≤a then a else if s.cW a<0 then-1 else AR s k (s.cW a))=_
 rw[if_neg h,if_neg hb]
theorem FW(s:SF)(k:Nat){a:Int}(h:¬ 10≤a)(hb:s.cW a<0):AR s (k+1) a= -1:=by
 show(if 10≤a then a else if s.cW a<0 then-1 else AR s k (s.cW a))=_
 rw[if_neg h,if_pos hb]
theorem uI(k:Nat)(s:SF){n:Int}(h:n≤0):nF k s n=s:=by
 cases k with
 | zero=>rfl
 | succ k=>show(if n≤0 then s else _)=s;rw[if_pos h]
theorem Bt(k:Nat)(s:SF){n:Int}(h:0<n):nF (k+1) s n=nF k (s.oA n) (s.par n):=by
 show(if n≤0 then s else nF k (s.oA n) (s.par n))=_
 rw[if_neg (by omega)]
def LK(s:SF):Nat→Int→Prop
 | 0,n=>n≤0
 | k+1,n=>n≤0∨(s.was n=true∧LK s k (s.par n))
theorem Inv.oA{s:SF}{d:Int→Nat}(h:s.Inv d){n:Int}(h0:0<n)(h1:n<30)(h2:s.here n=true):(s.oA n).Inv d:=by
 refine⟨h.h0,h.up,fun i hi=> ?_,h.quo,h.wt⟩
 have e:(s.oA n).was i=aa s.was n ((s.ie n).ready n) i:=rfl
 rw[e]at hi
 by_cases c:i=n
 ·subst c;exact⟨h0,h1,h2⟩
 ·rw[ad _ _ c]at hi;exact h.was i hi
theorem AZ{s:SF}{d:Int→Nat}(h:s.Inv d){n:Int} :∀ (k:Nat) (m:Int),(m=0∨(0<m∧m<30∧s.here m=true))→d m<d n→LK s k m→LK (s.oA n) k m
 | 0,m,_,_,hu=>hu
 | k+1,m,hm,hd,hu=>by
  rcases hu with hu | ⟨hu1,hu2⟩
  ·exact .inl hu
  ·rcases hm with rfl | ⟨m0,m1,m2⟩
   ·exact .inl (Int.le_refl _)
   ·refine .inr ⟨?_,?_⟩
    ·show aa s.was n _ m=true
     rw[ad _ _ (fun e=>by subst e;omega)];exact hu1
    ·obtain⟨p0,p1,p2,p3⟩:=h.up m m0 m1 m2
     exact AZ h k (s.par m) (by
      by_cases c:s.par m=0
      ·exact .inl c
      ·exact .inr ⟨by omega,by omega,p2⟩) (by omega) hu2
theorem ma{f:Int→Int}{n v i lo hi:Int}(h1:lo≤f i∧f i≤hi)(h2:lo≤v∧v≤hi):lo≤aa f n v i∧aa f n v i≤hi:=by
 by_cases c:i=n
 ·subst c;rw[ae];exact h2
 ·rw[ad _ _ c];exact h1
theorem Small.mono{s:SF}{B B':Int}(h:s.Small B)(hb:B≤B'):s.Small B':=fun n n0 n1=>by have:=h n n0 n1;omega
theorem Small.oA{s:SF}{d:Int→Nat}(hI:s.Inv d){B:Int}(h:s.Small B){n:Int}(h0:0<n)(h1:n<30)(h2:s.here n=true):(s.oA n).Small (B+1048576):=fun i i0 i1=>by
 obtain⟨p0,p1,p2,_⟩:=hI.up n h0 h1 h2
 have hw:=hI.wt n (by omega) h1 h2
 have hn:=h n (by omega) h1
 have hg:=h (s.par n) p0 (by omega)
 have hi:=h i i0 i1
 have hq:0≤1048576/s.wt n∧1048576/s.wt n≤1048576:=⟨Int.ediv_nonneg (by omega) (by omega),Int.ediv_le_self _ (by omega)⟩
 have a1:0≤aa s.v n (s.v n+1048576/s.wt n) i∧aa s.v n (s.v n+1048576/s.wt n) i≤B+1048576:=ma (by omega) (by omega)
 have a2:0≤aa s.floor (s.par n) (max (s.floor (s.par n)) (s.v n)) i∧aa s.floor (s.par n) (max (s.floor (s.par n)) (s.v n)) i≤B+1048576:=ma (by omega) (by omega)
 have a3:0≤aa s.ran n (s.ran n+1) i∧aa s.ran n (s.ran n+1) i≤B+1048576:=ma (by omega) (by omega)
 have a4:0≤(if 0<s.quota n then aa s.used n (s.used n+1)else s.used) i∧(if 0<s.quota n then aa s.used n (s.used n+1)else s.used) i≤B+1048576:=by
  by_cases c:0<s.quota n
  ·rw[if_pos c];exact ma (by omega) (by omega)
  ·rw[if_neg c];omega
 exact⟨a1.1,a1.2,a2.1,a2.2,a3.1,a3.2,a4.1,a4.2⟩
theorem Small.kS{s:SF}{d:Int→Nat}(hI:s.Inv d){B:Int}(h:s.Small B){n:Int}(h0:0<n)(h1:n<30)(h2:s.here n=true):(s.kS n).Small B:=fun i i0 i1=>by
 obtain⟨p0,p1,p2,_⟩:=hI.up n h0 h1 h2
 have hn:=h n (by omega) h1
 have hg:=h (s.par n) p0 (by omega)
 have hi:=h i i0 i1
 have key:0≤(s.kS n).v i∧(s.kS n).v i≤B:=by
  show 0≤aa s.v n (if s.ready n=true∧s.was n=false then max (s.v n) (s.floor (s.par n))else s.v n) i∧aa s.v n (if s.ready n=true∧s.was n=false then max (s.v n) (s.floor (s.par n))else s.v n) i≤B
  refine ma (by omega) ?_
  split<;>omega
 exact⟨key.1,key.2,hi.2.2⟩
theorem Small.dR{d:Int→Nat}{B:Int} :∀ (k:Nat) (s:SF) (n:Int),s.Inv d→s.Small B→(n=0∨(0<n∧n<30∧s.here n=true))→(SF.dR k s n).Small B
 | 0,s,n,_,h,_=>h
 | k+1,s,n,hI,h,hn=>by
  rcases hn with rfl | ⟨n0,n1,n2⟩
  ·rw[gy _ _ (by omega)];exact h
  ·rw[iO _ _ n0]
   obtain⟨p0,p1,p2,_⟩:=hI.up n n0 n1 n2
   refine Small.dR k (s.kS n) (s.par n) (hI.kS n0 n1 n2) (h.kS hI n0 n1 n2) ?_
   by_cases c:s.par n=0
   ·exact .inl c
   ·exact .inr ⟨by omega,by omega,p2⟩
end SF
theorem SC.jy.first{s:SC}(h:s.jy)(hw:∀ i,s.was i=true→0<i∧i<30){g:Int}(g0:0≤g)(g1:g<30):((s.Q g).first.2.2=true↔¬s.toSF.cW g<0)∧(¬s.toSF.cW g<0→(s.Q g).first.1=s.toSF.cW g):=by
 have hq:=h g g0 g1
 by_cases hn:(s.Q g).n=0
 ·have e:(s.Q g).first=(0,0,false):=by unfold QS.first;rw[if_pos hn]
  have hb:s.toSF.cW g<0:=by
   apply Classical.byContradiction
   intro c
   obtain⟨⟨b1,b2,_⟩,b3,b4⟩:=SF.nT hw c
   have:=hq.len.2 ⟨_,by omega,by omega,(SF.ln _ _ _).2 ⟨b1,b2⟩⟩
   omega
  rw[e]
  exact⟨⟨fun q=>(by cases q),fun q=>absurd hb q⟩,fun q=>absurd hb q⟩
 ·have e:(s.Q g).first=((s.Q g).I 0,(s.Q g).K 0,true):=by unfold QS.first;rw[if_neg hn]
  obtain⟨⟨a0,a1⟩,a2,a3⟩:=hq.head (by omega)
  obtain⟨c1,c2⟩:=(SF.ln _ _ _).1 a2
  have hb:¬s.toSF.cW g<0:=fun q=>SF.Bz hw q _ c1 c2
  have hB:s.toSF.MP g ((s.Q g).I 0):=⟨c1,c2,fun i i1 i2=>by
   have:=hw i i1
   exact a3 i (by omega) (by omega) ((SF.ln _ _ _).2 ⟨i1,i2⟩)⟩
  rw[e]
  exact⟨⟨fun _=>hb,fun _=>rfl⟩,fun _=>hB.uniq (SF.nT hw hb).1⟩
theorem SF.Inv.Ny{s:SF}{d:Int→Nat}(h:s.Inv d){n g:Int}(hn:10≤n∧n<30)(hg:0≤g∧g<10∧s.here g=true)(hw:s.was n=false)(v:Int→Int)(aw:Int→Bool):SF.Inv {s with par:=aa s.par n g,v:=v,awake:=aw} (aa d n (d g+1)):=by
 refine⟨h.h0,fun i i0 i1 i2=> ?_,h.was,h.quo,h.wt⟩
 show 0≤aa s.par n g i∧aa s.par n g i<10∧s.here (aa s.par n g i)=true∧aa d n (d g+1) (aa s.par n g i)<aa d n (d g+1) i
 by_cases c:i=n
 ·subst c
  rw[ae,ae,ad _ _ (by omega)]
  exact⟨hg.1,hg.2.1,hg.2.2,by omega⟩
 ·obtain⟨p0,p1,p2,p3⟩:=h.up i i0 i1 i2
  rw[ad _ _ c,ad _ _ c,ad _ _ (by omega)]
  exact⟨p0,p1,p2,p3⟩
namespace SF
theorem HU{s x:SF}{d:Int→Nat}{n:Int}(h1:1≤n)(he:x=hQ d s (n-1).toNat)(h:x.here n=true∧0<x.quota n∧x.now%x.period n=0):hQ d s (n+1-1).toNat=look d {x with used:=aa x.used n 0} n:=by
 rw[show(n+1-1).toNat=(n-1).toNat+1 from by omega]
 show k6 d (hQ d s (n-1).toNat) (((n-1).toNat:Int)+1)=_
 rw[←he,show(((n-1).toNat:Nat):Int)+1=n from by omega]
 unfold k6
 rw[if_pos h]
theorem u6{s x:SF}{d:Int→Nat}{n:Int}(h1:1≤n)(he:x=hQ d s (n-1).toNat)(h:¬(x.here n=true∧0<x.quota n∧x.now%x.period n=0)):hQ d s (n+1-1).toNat=x:=by
 rw[show(n+1-1).toNat=(n-1).toNat+1 from by omega]
 show k6 d (hQ d s (n-1).toNat) (((n-1).toNat:Int)+1)=_
 rw[←he,show(((n-1).toNat:Nat):Int)+1=n from by omega]
 unfold k6
 rw[if_neg h]
theorem Small.used{s:SF}{B:Int}(hB:0≤B)(h:s.Small B)(n:Int):SF.Small {s with used:=aa s.used n 0} B:=fun i i0 i1=>by
 have hi:=h i i0 i1
 have:=ma (f:=s.used) (n:=n) (v:=0) (i:=i) (lo:=0) (hi:=B) (by omega) (by omega)
 exact⟨hi.1,hi.2.1,hi.2.2.1,hi.2.2.2.1,hi.2.2.2.2.1,hi.2.2.2.2.2.1,this.1,this.2⟩
theorem Dh{s:SF}{d:Int→Nat}(hI:s.Inv d)(hs:s.gP){a:Int}(h0:0<a)(h1:a<10)(hw:s.was a=true):¬s.cW a<0:=fun hb=>by
 obtain⟨_,a1,a2⟩:=hI.was a hw
 have h2:=hs a h0 a1 a2
 rw[hw]at h2
 unfold ready at h2
 rw[if_neg (by omega)]at h2
 have hk:s.dI a=true:=by
  cases q:s.dI a with
  | true=>rfl
  | false=>rw[q]at h2;simp at h2
 obtain⟨i,i0,i1,i2,i3⟩:=(s.iL a).1 hk
 exact Bz (fun j hj=>⟨(hI.was j hj).1,(hI.was j hj).2.1⟩) hb i i2 i3
end SF
end Go.X.Fa

namespace Go.X.Fa
open Go Go.X
theorem XM.Je{W w:World}{S:Nat→Nat→Prop}{H:List ax}(e:TypeId)(h:XM W S H w):XM W S (.fam aL (SC.void.rows e)::H) w:=by
 have hr:w.ownsRow 0 e 2 (.slice none 0 0) 0 []:=(h.dH e 2).good.1 (.row (.slice none 0 0) e 2 0 []) (by simp)
 refine⟨⟨fun x hx=> ?_,List.pairwise_cons.2 ⟨fun x hx _ b o h1 h2=> ?_,h.good.2⟩⟩,h.keep,fun x hx hw b o hb=> ?_⟩
 ·rcases List.mem_cons.1 hx with rfl | hx
  ·exact⟨fun i _=>hr,fun i j b _ _ _ h1 _=>by cases h1⟩
  ·exact h.good.1 x hx
 ·obtain⟨i,_,hb⟩:=h1;cases hb
 ·rcases List.mem_cons.1 hx with rfl | hx
  ·obtain⟨i,_,hb⟩:=hb;cases hb
  ·exact h.mine x hx hw b o hb
def SF.Tk(s:SF):Prop:=∀ n,10≤n→n<30→s.floor n=0∧s.frz n=false∧s.quota n=0∧s.period n=0∧s.used n=0
namespace SF
theorem w7{s:SF}{d:Int→Nat}(hI:s.Inv d){n:Int}(i1:0≤n)(i2:n<20)(i3:s.here (10+n)=true):(s.ei d n false).Inv d∧(s.ei d n false).was (10+n)=false∧(s.ei d n false).here=s.here∧(s.ei d n false).par=s.par∧(s.ei d n false).wt=s.wt∧(s.ei d n false).ran=s.ran∧(s.ei d n false).floor=s.floor∧(s.ei d n false).frz=s.frz∧(s.ei d n false).quota=s.quota∧(s.ei d n false).period=s.period∧(s.ei d n false).used=s.used∧(s.ei d n false).now=s.now∧(s.ei d n false).awake=aa s.awake (10+n) false:=by
 have e:s.ei d n false=look d {s with awake:=aa s.awake (10+n) false} (10+n):=by unfold ei;rw[if_pos (Kv i1 i2 i3)]
 have hA:SF.Inv {s with awake:=aa s.awake (10+n) false} d:=⟨hI.h0,hI.up,hI.was,hI.quo,hI.wt⟩
 obtain⟨a1,a2,a3,a4,a5,a6,a7,a8,a9,a10,a11⟩:=fb (d (10+n)+1) {s with awake:=aa s.awake (10+n) false} (10+n)
 rw[e]
 refine⟨nm hA (.inr ⟨by omega,by omega,i3⟩),?_,a1,a2,a3,a4,a6,a7,a8,a9,a10,a11,a5⟩
 rw[A6 hA (by omega) (by omega) i3]
 unfold ready
 rw[if_pos (by omega)]
 exact ae _ _ _
theorem HN{s:SF}{n:Int}(h:s.pw n=0)(d:Int→Nat)(on:Bool):s.ei d n on=look d {s with awake:=aa s.awake (10+n) on} (10+n):=by unfold ei;rw[if_pos h]
end SF
end Go.X.Fa
