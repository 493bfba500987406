import Derived.Test.YthdinakloheinaaGreatDoorXMore
import Derived.Shelf.Slices.Cells
import Derived.Shelf.Slices.Empties
import Derived.Shelf.Slices.Clone
import Derived.Shelf.Spec.SearchS
import Derived.Shelf.Spec.SlicesInsertGrow
import Derived.Laws.MakeOwn
import Derived.Lib.SlBytesRow
set_option linter.all false
namespace Go.X
open Go Go.Proofs Go.Shelf
variable{cur:Array Value}{xs:List Value}{cap g i j k:Nat}{w:World}
def strs(l:List ByteArray):List Value:=l.map Value.string
def ke(l:List ByteArray)(z:Int):ByteArray:=l.getD z.toNat ByteArray.empty
def rk{l:List ByteArray}{z:Int}(h:0<=z/\z<l.length:=by omega):(strs l)[0+z.toNat*1]? =some (.string (ke l z)):=by
 grind [strs,ke]
abbrev jN(p:Option Addr)(cap:Nat)(e:TypeId)(l:List ByteArray):aK:=.row (.slice p l.length cap) e 1 l.length (strs l)
def IX(A:Array Value):Nat->List Value->Array Value
 | _,[]=>A
 | o,v::r=>IX (A.setIfInBounds o v) (o+1) r
theorem iK:∀ (vs:List Value) (A:Array Value) (o:Nat),(IX A o vs).size=A.size
 | [],A,o=>rfl
 | v::r,A,o=>by rw[IX,iK r];simp
theorem px:∀ (vs:List Value) (A:Array Value) (o i:Nat),o+vs.length<=A.size->(IX A o vs)[i]? =if o<=i/\i<o+vs.length then vs[i-o]? else A[i]?
 | [],A,o,i,_=>by rw[IX,if_neg (by simp only[List.length_nil];omega)]
 | v::r,A,o,i,h=>by
  simp only[List.length_cons]at h ⊢;rw[IX,px r _ (o+1) i (by simp;omega)];by_cases c:i=o
  ·subst c;rw[if_neg og,if_pos og,Array.getElem?_setIfInBounds];simp;try omega
  ·by_cases q:o<=i/\i<o+(r.length+1)
   ·rw[if_pos og,if_pos q,show i-o=(i-(o+1))+1 by omega,List.getElem?_cons_succ]
   ·rw[if_neg og,if_neg q,Array.getElem?_setIfInBounds,if_neg fun e=>c e.symm]
def ep{g:Nat}{t:TypeId}{fz:Nat×Nat} :∀ (vs:List Value) (o:Nat) (w:World) (cur:Array Value),w.heap[g]? =some (.cells cur t fz)->(w.setCells g o vs).heap[g]? =some (.cells (IX cur o vs) t fz)
 | [],o,w,cur,h=>h
 | v::r,o,w,cur,h=>by
  rw[World.setCells,IX];exact ep r (o+1) _ _ (by simp[World.setCell,Array.getElem?_modify,h])
def fY{g:Nat}{t:TypeId}{fz:Nat×Nat}{S:Nat->Nat->Prop}(hS:∀ o,S g o):∀ (vs:List Value) (o:Nat) (w:World) (cur:Array Value),w.heap[g]? =some (.cells cur t fz)->gH w (w.setCells g o vs) S
 | [],o,w,cur,h=>gH.refl _ _
 | v::r,o,w,cur,h=>by
  rw[World.setCells];have h1:gH w (w.setCell ⟨g,o,none⟩ v) S:=by
   have:=gH.setCell (i:=0) (o:=o) h v (S:=S) (hS _);omega
  have h2:(w.setCell ⟨g,o,none⟩ v).heap[g]? =some (.cells (cur.setIfInBounds o v) t fz):=by simp[World.setCell,Array.getElem?_modify,h]
  exact h1.trans (fY hS r (o+1) _ _ h2) (fun _ _ q _=>q) fun _ _ q _=>q
theorem gH.ka{a b:World}{S T:Nat->Nat->Prop}(h:gH a b S)(hST:∀ x o,S x o->T x o):gH a b T:=
 ⟨h.os,h.tape,h.output,h.size,fun b hb hn=>h.same b hb fun o q=>hn o (hST b o q),fun b A t fz hA=>by
  obtain⟨A',h1,h2,h3⟩:=h.part b A t fz hA
  exact⟨A',h1,h2,fun o hn=>h3 o fun q=>hn (hST b o q)⟩⟩
section
variable {P:Program} {ρ:Ren}
structure Left (w w':World) (v v':Value) (e:TypeId) (k':Nat) (xs':List Value):Prop where
 row:(aK.row v' e 1 k' xs').holds w'
 eK:gH w w' fun b _=>v.ownBlock=some b
 bu:∀ b,v'.ownBlock=some b->v.ownBlock=some b\/w.heap.size<=b
theorem Left.xm{w':World}{v v':Value}{e:TypeId}{k':Nat}{xs':List Value}{H:List aK}(h:Left w w' v v' e k' xs')(hg:Good (.row v e 1 k xs::H) w):XM w (bZ (.row v e 1 k xs::H)) (.row v' e 1 k' xs'::H) w':=
 (kH hg).cg .aa rfl (fun b o ha=>h.bu b ha) (h.eK.ka fun _ _ q=>q) h.row
def qo{p:Option Addr}{e:TypeId}(h:(aK.row (.slice p k cap) e 1 k xs).holds w):(p=none/\cap=0/\k=0/\xs=[])\/∃ g cur,p=some ⟨g,0,none⟩/\w.heap[g]? =some (.cells cur e (0,0))/\k<=cap/\cap<=maxLen/\cur.size=cap/\xs.length=k/\cur.toList.take k=xs:=by
 rcases h.2 with⟨hv,rfl⟩ | ⟨g,cL,cur,hv,_,h1,h2,h3,h4,h5⟩
 ·simp only[Value.slice.injEq]at hv;obtain⟨rfl,_,rfl⟩:=hv;exact .inl ⟨rfl,rfl,rfl,List.eq_nil_of_length_eq_zero (by simpa using h.1)⟩
 grind
def iu{e:TypeId}(h:w.heap[g]? =some (.cells cur e (0,0)))(j:Nat):w.frozen? ⟨g,j,none⟩=false:=by
 simp[World.frozen?,h]
def xo{e:TypeId}(h:w.heap[g]? =some (.cells cur e (0,0)))(hj:j<cur.size:=by omega):(w.cell? ⟨g,j,none⟩).isSome=true:=by
 simp[World.cell?,h,hj]
theorem zj(xs:List Value)(x:Value)(i j:Nat)(hi:i<=xs.length:=by omega):(xs.take i++x::xs.drop i)[j]? =if j<i then xs[j]? else if j=i then some x else xs[j-1]? :=by
 grind
def rm{e:TypeId}{x:Value}(h1:w.heap[g]? =some (.cells cur e (0,0)))(h2:k+1<=cap)(h3:cap<=maxLen)(h4:cur.size=cap)(h5:cur.toList.take k=xs)(h6:xs.length=k)(hi:i<=k)(q:Nat):Left w ((((w.drewN q).setCells g (0+(i+1)) (xs.drop i))).setCells g (0+i) [x]) (.slice (some ⟨g,0,none⟩) k cap) (.slice (some ⟨g,0,none⟩) (k+1) cap) e (k+1) (xs.take i++x::xs.drop i):=by
 have a0:(w.drewN q).heap[g]? =some (.cells cur e (0,0)):=h1;have a1:=ep (xs.drop i) (0+(i+1)) _ _ a0;have a2:=ep [x] (0+i) _ _ a1;have hl:(xs.drop i).length=k-i:=by simp[h6]
 refine⟨⟨by simp[h6];omega,.inr ⟨g,cap,_,rfl,Nat.zero_le _,a2,h2,h3,by rw[iK,iK,h4];simp,?_⟩⟩,?_,fun b hb=>.inl hb⟩
 ·apply List.ext_getElem?;intro j;rw[zj _ _ _ _,Nat.mul_one];by_cases hj:j<k+1
  ·rw[List.getElem?_take_of_lt hj,Array.getElem?_toList,px _ _ _ _ (by rw[iK];simp;omega),px _ _ _ _ (by rw[hl];omega)];grind
  grind
 ·have k1:gH w (w.drewN q) (fun b _=>(Value.slice (some ⟨g,0,none⟩) k cap).ownBlock=some b):=⟨rfl,rfl,rfl,Nat.le_refl _,fun _ _ _=>rfl,fun _ A _ _ h=>⟨A,h,rfl,fun _ _=>rfl⟩⟩;have k2:=fY (S:=fun b _=>(Value.slice (some ⟨g,0,none⟩) k cap).ownBlock=some b) (fun _=>rfl) (xs.drop i) (0+(i+1)) _ _ a0;have k3:=fY (S:=fun b _=>(Value.slice (some ⟨g,0,none⟩) k cap).ownBlock=some b) (fun _=>rfl) [x] (0+i) _ _ a1;exact(k1.trans k2 (fun _ _ q _=>q) fun _ _ q _=>q).trans k3 (fun _ _ q _=>q) fun _ _ q _=>q
def Fh{w':World}{p:Option Addr}{C:Nat}{e:TypeId}{x:Value}(hk:gH w w' fun _ _=>False)(h1:w'.heap[w.heap.size]? =some (.cells cur e (0,0)))(h2:k+1<=C)(h3:C<=maxLen)(h4:cur.size=C)(h6:xs.length=k)(hi:i<=k)(h5:∀ j,j<k+1->cur[j]? =(xs.take i++x::xs.drop i)[j]?):Left w w' (.slice p k cap) (.slice (some ⟨w.heap.size,0,none⟩) (k+1) C) e (k+1) (xs.take i++x::xs.drop i):=by
 have hl:(xs.take i++x::xs.drop i).length=k+1:=by simp;omega
 refine⟨⟨by rw[hl];omega,.inr ⟨w.heap.size,C,cur,rfl,Nat.zero_le _,h1,h2,h3,by rw[h4];omega,?_⟩⟩,hk.ka fun _ _ q=>q.elim,fun b hb=>.inr (by simp only[Value.ownBlock,Option.some.injEq]at hb;omega)⟩;apply List.ext_getElem?;grind
set_option maxHeartbeats 1000000 in
def Es(L:Lays2.n22 P ρ)(p:Option Addr)(cap:Nat)(l:List ByteArray)(i:Nat)(hi:i<=l.length)(x:ByteArray)(vb:Nat)(e2:TypeId)(hl:l.length<=1000000):Spec P (ρ.f 22) [.slice p l.length cap,.int .i64 i,.slice (some ⟨vb,0,none⟩) 1 1] [jN p cap (ρ.t 9) l,.row (.slice (some ⟨vb,0,none⟩) 1 1) e2 1 1 [.string x]] (fun v H1=>∃ p' cL,v= .slice p' (l.length+1) cL/\H1=[.row (.slice p' (l.length+1) cL) (ρ.t 9) 1 (l.length+1) (strs (l.insertIdx i x)),.row (.slice (some ⟨vb,0,none⟩) 1 1) e2 1 1 [.string x]]):=by
 intro w hw;have gL:(jN p cap (ρ.t 9) l).holds w:=hw.1 _ sq;have Sz:(aK.row (.slice (some ⟨vb,0,none⟩) 1 1) e2 1 1 [.string x]).holds w:=hw.1 _ sq;obtain⟨W6,q1,_,_,q4,q5⟩:=od Sz;have W7:∀ j v,([.string x]:List Value)[j]? =some v->w.cell? ⟨vb,0+j,none⟩=some v:=fun j v hj=>cell_of_row Sz hj;have W8:∀ v∈([.string x]:List Value),v.oneCell'=true:=fun v hv=>by
  simp only[List.mem_singleton]at hv;subst hv;rfl
 have aa1:strs (l.insertIdx i x)=(strs l).take i++ .string x::(strs l).drop i:=by
  unfold strs;apply List.ext_getElem?;grind
 have hlen:(strs l).length=l.length:=by simp[strs]
 have fin:∀ {ee:Ending} {w':World} {p':Option Addr} {cL:Nat},ee= .returned (.slice p' (l.length+1) cL)->Left w w' (.slice p l.length cap) (.slice p' (l.length+1) cL) (ρ.t 9) (l.length+1) ((strs l).take i++ .string x::(strs l).drop i)->
   ∃ v H',ee= .returned v/\(∃ p' cL,v= .slice p' (l.length+1) cL/\H'=[aK.row (.slice p' (l.length+1) cL) (ρ.t 9) 1 (l.length+1) (strs (l.insertIdx i x)),.row (.slice (some ⟨vb,0,none⟩) 1 1) e2 1 1 [.string x]])/\H'.all aK.wr=true/\XM w (bZ [jN p cap (ρ.t 9) l,.row (.slice (some ⟨vb,0,none⟩) 1 1) e2 1 1 [.string x]]) H' w':=fun he hL=>
  ⟨_,_,he,⟨_,_,rfl,rfl⟩,rfl,by rw[aa1];exact hL.xm hw⟩
 have hzero:∀ k,(Builtin.zeroCells (Value.string ⟨#[]⟩).cells k).size=k:=fun k=>by rw[size_zeroCells];simp[Value.cells]
 have grown:∀ (w':World) (C:Nat) (cur:Array Value),gH w w' (fun _ _=>False)->w'.heap[w.heap.size]? =some (.cells cur (ρ.t 9) (0,0))->l.length+1<=C->C<=maxLen->cur.size=C->(∀ j,j<l.length+1->cur[j]? =((strs l).take i++ .string x::(strs l).drop i)[j]?)->
   Left w w' (.slice p l.length cap) (.slice (some ⟨w.heap.size,0,none⟩) (l.length+1) C) (ρ.t 9) (l.length+1) ((strs l).take i++ .string x::(strs l).drop i):=fun w' C cur a1 a2 a3 a4 a5 a6=>Fh a1 a2 a3 a4 a5 hlen hi a6
 have GW:i=l.length->cap<l.length+1->l.length<=cap->(p=none->l.length=0)->(∀ a,p=some a->∀ j v,(strs l)[j]? =some v->w.cell? (a.add j)=some v)->Calls P (ρ.f 22) #[.slice p l.length cap,.int .i64 i,.slice (some ⟨vb,0,none⟩) 1 1] w fun e w'=>∃ v H',e= .returned v/\(∃ p' cL,v= .slice p' (l.length+1) cL/\H'=[aK.row (.slice p' (l.length+1) cL) (ρ.t 9) 1 (l.length+1) (strs (l.insertIdx i x)),.row (.slice (some ⟨vb,0,none⟩) 1 1) e2 1 1 [.string x]])/\H'.all aK.wr=true/\XM w (bZ [jN p cap (ρ.t 9) l,.row (.slice (some ⟨vb,0,none⟩) 1 1) e2 1 1 [.string x]]) H' w':=by
  intro SA lD GX W9 Bw;subst SA;refine(Any2.slices_Insert_string_end_grow L p l.length cap vb 0 1 1 (strs l) [.string x] w og GX lD og hlen rfl W9 Bw W7 W8).mono fun ee w' ⟨he,dG⟩=> ?_;subst dG;have Ls:=grownCap_ge w (l.length+1) cap (ρ.t 9);have Pj:grownCap w (l.length+1) cap (ρ.t 9)<=maxLen:=grownCap_le_maxLen w (l.length+1) cap (ρ.t 9) (by simp only[maxLen];omega);refine fin he (grown _ _ _ (uz (jL w.drew _ _)) (heap_alloc_new w.drew _) Ls Pj ?_ fun j hj=> ?_);all_goals grind
 rcases qo gL with⟨rfl,rfl,hk,hx⟩ | ⟨g,cur,rfl,h1,h2,h3,h4,h5,h6⟩
 ·simp_all
 ·have gK:vb≠g:=fun e=>by
   have hp:=List.pairwise_cons.1 hw.2;exact hp.1 (aK.row (.slice (some ⟨vb,0,none⟩) 1 1) e2 1 1 [.string x]) sq rfl g 0 rfl (by simp only[aK.fT,Value.ownBlock];rw[e])
  have Bw:∀ j v,(strs l)[j]? =some v->w.cell? ⟨g,0+j,none⟩=some v:=fun j v hj=>cell_of_row gL hj;have h1c:∀ v∈strs l,v.oneCell'=true:=fun v hv=>by
   obtain⟨y,_,rfl⟩:=List.mem_map.1 hv;rfl
  have GY:cap<=9223372036854775807:=by simp only[maxLen]at h3;omega
  by_cases lD:l.length+1<=cap
  ·by_cases SA:i=l.length
   ·subst SA;refine(Any2.slices_Insert_string_end_room L g 0 l.length cap vb 0 1 1 [.string x] w og lD GY rfl (fun j hj=>xo h1) (fun j _=>iu h1 _) W7 W8).mono fun ee w' ⟨he,dG⟩=> ?_;subst dG;have hL:=rm (i:=l.length) (x:=.string x) h1 lD h3 h4 h6 h5 og 0;rw[List.drop_of_length_le (show(strs l).length<=l.length by omega)]at hL;rw[List.drop_of_length_le (show(strs l).length<=l.length by omega)]at fin;exact fin he hL
   ·refine(Any2.slices_Insert_string_shift L g 0 l.length cap i vb 0 1 1 (strs l) [.string x] w og og lD GY gK hlen rfl Bw (fun j hj=>xo h1) (fun j _=>iu h1 _) W7 h1c W8 e2 (ρ.t 9) W6.size cur.size
     (by simp[World.shape?,q1]) (by simp[World.shape?,h1]) og (iu q1 _) (iu q1 _)).mono fun ee w' ⟨he,dG⟩=> ?_
    subst dG;exact fin he (rm (i:=i) (x:=.string x) h1 lD h3 h4 h6 h5 og 1)
  ·by_cases SA:i=l.length
   ·refine GW SA og h2 (fun q=>by cases q) (fun a ha j v hj=> ?_);obtain rfl:a=⟨g,0,none⟩:=(Option.some.inj ha).symm;have:=Bw j v hj;have e0:(⟨g,0,none⟩:Addr).add j=⟨g,0+j,none⟩:=by cases j<;>simp[Addr.add]
    simp_all
   ·refine(Any2.slices_Insert_string_grow L g 0 l.length cap i vb 0 1 1 (strs l) [.string x] w og og h2 og og hlen rfl Bw W7 h1c W8).mono fun ee w' ⟨he,dG⟩=> ?_;have Ls:=grownCap_ge w (l.length+1) cap (ρ.t 9);have Pj:grownCap w (l.length+1) cap (ρ.t 9)<=maxLen:=grownCap_le_maxLen w (l.length+1) cap (ρ.t 9) (by simp only[maxLen];omega);generalize hA:((strs l).take i).toArray++Builtin.zeroCells (Value.string ⟨#[]⟩).cells (l.length+1-i)++Builtin.zeroCells (Value.string ⟨#[]⟩).cells (grownCap w (l.length+1) cap (ρ.t 9)-(l.length+1))=A0 at dG;have hAs:A0.size=grownCap w (l.length+1) cap (ρ.t 9):=by
     grind
    have b0:(w.alloc (.cells A0 (ρ.t 9))).drew.heap[w.heap.size]? =some (.cells A0 (ρ.t 9) (0,0)):=heap_alloc_new w _;have b1:=ep [.string x] i _ _ b0;have b2:(((w.alloc (.cells A0 (ρ.t 9))).drew.setCells w.heap.size i [.string x]).drew).heap[w.heap.size]? =_:=b1;have b3:=ep ((strs l).drop i) (i+1) _ _ b2;subst dG;refine fin he (grown _ _ _ ?_ b3 Ls Pj (by rw[iK,iK,hAs]) fun j hj=> ?_)
    ·have k0:gH w (w.alloc (.cells A0 (ρ.t 9))).drew (fun _ _=>False):=by
      have:=jL w (.cells A0 (ρ.t 9)) fun _ _=>False;exact⟨this.os,this.tape,this.output,this.size,this.same,this.part⟩
     have k1:=fY (S:=fun b _=>b=w.heap.size) (fun _=>rfl) [.string x] i _ _ b0;have k1':gH (w.alloc (.cells A0 (ρ.t 9))).drew (((w.alloc (.cells A0 (ρ.t 9))).drew.setCells w.heap.size i [.string x]).drew) (fun b _=>b=w.heap.size):=⟨k1.os,k1.tape,k1.output,k1.size,k1.same,k1.part⟩;have k2:=fY (S:=fun b _=>b=w.heap.size) (fun _=>rfl) ((strs l).drop i) (i+1) _ _ b2;exact k0.trans (k1'.trans k2 (fun _ _ q _=>q) fun _ _ q _=>q) (fun _ _ q _=>q) fun y o q hy=>og
    ·have hd:((strs l).drop i).length=l.length-i:=by simp[hlen]
     rw[zj _ _ _ _,px _ _ _ _ (by rw[iK,hAs,hd];omega),px _ _ _ _ (by rw[hAs];simp;omega)];grind
set_option maxHeartbeats 1000000 in
def LA(L:Lays2.n21 P ρ)(p:Option Addr)(cap:Nat)(l:List Int)(i:Nat)(hi:i<=l.length)(x:Int)(vb:Nat)(e2:TypeId)(hl:l.length<=1000000):Spec P (ρ.f 21) [.slice p l.length cap,.int .i64 i,.slice (some ⟨vb,0,none⟩) 1 1] [db p cap (ρ.t 3) l,.row (.slice (some ⟨vb,0,none⟩) 1 1) e2 1 1 [.int .i64 x]] (fun v H1=>∃ p' cL,v= .slice p' (l.length+1) cL/\H1=[.row (.slice p' (l.length+1) cL) (ρ.t 3) 1 (l.length+1) (fL (l.insertIdx i x)),.row (.slice (some ⟨vb,0,none⟩) 1 1) e2 1 1 [.int .i64 x]]):=by
 intro w hw;have gL:(db p cap (ρ.t 3) l).holds w:=hw.1 _ sq;have Sz:(aK.row (.slice (some ⟨vb,0,none⟩) 1 1) e2 1 1 [.int .i64 x]).holds w:=hw.1 _ sq;obtain⟨W6,q1,_,_,q4,q5⟩:=od Sz;have W7:∀ j v,([.int .i64 x]:List Value)[j]? =some v->w.cell? ⟨vb,0+j,none⟩=some v:=fun j v hj=>cell_of_row Sz hj;have W8:∀ v∈([.int .i64 x]:List Value),v.oneCell'=true:=fun v hv=>by
  simp only[List.mem_singleton]at hv;subst hv;rfl
 have aa1:fL (l.insertIdx i x)=(fL l).take i++ .int .i64 x::(fL l).drop i:=by
  unfold fL;apply List.ext_getElem?;grind
 have hlen:(fL l).length=l.length:=by simp[fL]
 have fin:∀ {ee:Ending} {w':World} {p':Option Addr} {cL:Nat},ee= .returned (.slice p' (l.length+1) cL)->Left w w' (.slice p l.length cap) (.slice p' (l.length+1) cL) (ρ.t 3) (l.length+1) ((fL l).take i++ .int .i64 x::(fL l).drop i)->
   ∃ v H',ee= .returned v/\(∃ p' cL,v= .slice p' (l.length+1) cL/\H'=[aK.row (.slice p' (l.length+1) cL) (ρ.t 3) 1 (l.length+1) (fL (l.insertIdx i x)),.row (.slice (some ⟨vb,0,none⟩) 1 1) e2 1 1 [.int .i64 x]])/\H'.all aK.wr=true/\XM w (bZ [db p cap (ρ.t 3) l,.row (.slice (some ⟨vb,0,none⟩) 1 1) e2 1 1 [.int .i64 x]]) H' w':=fun he hL=>
  ⟨_,_,he,⟨_,_,rfl,rfl⟩,rfl,by rw[aa1];exact hL.xm hw⟩
 have hzero:∀ k,(Builtin.zeroCells (Value.int .i64 0).cells k).size=k:=fun k=>by rw[size_zeroCells];simp[Value.cells]
 have grown:∀ (w':World) (C:Nat) (cur:Array Value),gH w w' (fun _ _=>False)->w'.heap[w.heap.size]? =some (.cells cur (ρ.t 3) (0,0))->l.length+1<=C->C<=maxLen->cur.size=C->(∀ j,j<l.length+1->cur[j]? =((fL l).take i++ .int .i64 x::(fL l).drop i)[j]?)->
   Left w w' (.slice p l.length cap) (.slice (some ⟨w.heap.size,0,none⟩) (l.length+1) C) (ρ.t 3) (l.length+1) ((fL l).take i++ .int .i64 x::(fL l).drop i):=fun w' C cur a1 a2 a3 a4 a5 a6=>Fh a1 a2 a3 a4 a5 hlen hi a6
 have GW:i=l.length->cap<l.length+1->l.length<=cap->(p=none->l.length=0)->(∀ a,p=some a->∀ j v,(fL l)[j]? =some v->w.cell? (a.add j)=some v)->Calls P (ρ.f 21) #[.slice p l.length cap,.int .i64 i,.slice (some ⟨vb,0,none⟩) 1 1] w fun e w'=>∃ v H',e= .returned v/\(∃ p' cL,v= .slice p' (l.length+1) cL/\H'=[aK.row (.slice p' (l.length+1) cL) (ρ.t 3) 1 (l.length+1) (fL (l.insertIdx i x)),.row (.slice (some ⟨vb,0,none⟩) 1 1) e2 1 1 [.int .i64 x]])/\H'.all aK.wr=true/\XM w (bZ [db p cap (ρ.t 3) l,.row (.slice (some ⟨vb,0,none⟩) 1 1) e2 1 1 [.int .i64 x]]) H' w':=by
  intro SA lD GX W9 Bw;subst SA;refine(Any2.slices_Insert_int_end_grow L p l.length cap vb 0 1 1 (fL l) [.int .i64 x] w og GX lD og hlen rfl W9 Bw W7 W8).mono fun ee w' ⟨he,dG⟩=> ?_;subst dG;have Ls:=grownCap_ge w (l.length+1) cap (ρ.t 3);have Pj:grownCap w (l.length+1) cap (ρ.t 3)<=maxLen:=grownCap_le_maxLen w (l.length+1) cap (ρ.t 3) (by simp only[maxLen];omega);refine fin he (grown _ _ _ (uz (jL w.drew _ _)) (heap_alloc_new w.drew _) Ls Pj ?_ fun j hj=> ?_);all_goals grind
 rcases qo gL with⟨rfl,rfl,hk,hx⟩ | ⟨g,cur,rfl,h1,h2,h3,h4,h5,h6⟩
 ·simp_all
 ·have gK:vb≠g:=fun e=>by
   have hp:=List.pairwise_cons.1 hw.2;exact hp.1 (aK.row (.slice (some ⟨vb,0,none⟩) 1 1) e2 1 1 [.int .i64 x]) sq rfl g 0 rfl (by simp only[aK.fT,Value.ownBlock];rw[e])
  have Bw:∀ j v,(fL l)[j]? =some v->w.cell? ⟨g,0+j,none⟩=some v:=fun j v hj=>cell_of_row gL hj;have h1c:∀ v∈fL l,v.oneCell'=true:=fun v hv=>by
   obtain⟨y,_,rfl⟩:=List.mem_map.1 hv;rfl
  have GY:cap<=9223372036854775807:=by simp only[maxLen]at h3;omega
  by_cases lD:l.length+1<=cap
  ·by_cases SA:i=l.length
   ·subst SA;refine(Any2.slices_Insert_int_end_room L g 0 l.length cap vb 0 1 1 [.int .i64 x] w og lD GY rfl (fun j hj=>xo h1) (fun j _=>iu h1 _) W7 W8).mono fun ee w' ⟨he,dG⟩=> ?_;subst dG;have hL:=rm (i:=l.length) (x:=.int .i64 x) h1 lD h3 h4 h6 h5 og 0;rw[List.drop_of_length_le (show(fL l).length<=l.length by omega)]at hL;rw[List.drop_of_length_le (show(fL l).length<=l.length by omega)]at fin;exact fin he hL
   ·refine(Any2.slices_Insert_int_shift L g 0 l.length cap i vb 0 1 1 (fL l) [.int .i64 x] w og og lD GY gK hlen rfl Bw (fun j hj=>xo h1) (fun j _=>iu h1 _) W7 h1c W8 e2 (ρ.t 3) W6.size cur.size
     (by simp[World.shape?,q1]) (by simp[World.shape?,h1]) og (iu q1 _) (iu q1 _)).mono fun ee w' ⟨he,dG⟩=> ?_
    subst dG;exact fin he (rm (i:=i) (x:=.int .i64 x) h1 lD h3 h4 h6 h5 og 1)
  ·by_cases SA:i=l.length
   ·refine GW SA og h2 (fun q=>by cases q) (fun a ha j v hj=> ?_);obtain rfl:a=⟨g,0,none⟩:=(Option.some.inj ha).symm;have:=Bw j v hj;have e0:(⟨g,0,none⟩:Addr).add j=⟨g,0+j,none⟩:=by cases j<;>simp[Addr.add]
    simp_all
   ·refine(Any2.slices_Insert_int_grow L g 0 l.length cap i vb 0 1 1 (fL l) [.int .i64 x] w og og h2 og og hlen rfl Bw W7 h1c W8).mono fun ee w' ⟨he,dG⟩=> ?_;have Ls:=grownCap_ge w (l.length+1) cap (ρ.t 3);have Pj:grownCap w (l.length+1) cap (ρ.t 3)<=maxLen:=grownCap_le_maxLen w (l.length+1) cap (ρ.t 3) (by simp only[maxLen];omega);generalize hA:((fL l).take i).toArray++Builtin.zeroCells (Value.int .i64 0).cells (l.length+1-i)++Builtin.zeroCells (Value.int .i64 0).cells (grownCap w (l.length+1) cap (ρ.t 3)-(l.length+1))=A0 at dG;have hAs:A0.size=grownCap w (l.length+1) cap (ρ.t 3):=by
     grind
    have b0:(w.alloc (.cells A0 (ρ.t 3))).drew.heap[w.heap.size]? =some (.cells A0 (ρ.t 3) (0,0)):=heap_alloc_new w _;have b1:=ep [.int .i64 x] i _ _ b0;have b2:(((w.alloc (.cells A0 (ρ.t 3))).drew.setCells w.heap.size i [.int .i64 x]).drew).heap[w.heap.size]? =_:=b1;have b3:=ep ((fL l).drop i) (i+1) _ _ b2;subst dG;refine fin he (grown _ _ _ ?_ b3 Ls Pj (by rw[iK,iK,hAs]) fun j hj=> ?_)
    ·have k0:gH w (w.alloc (.cells A0 (ρ.t 3))).drew (fun _ _=>False):=by
      have:=jL w (.cells A0 (ρ.t 3)) fun _ _=>False;exact⟨this.os,this.tape,this.output,this.size,this.same,this.part⟩
     have k1:=fY (S:=fun b _=>b=w.heap.size) (fun _=>rfl) [.int .i64 x] i _ _ b0;have k1':gH (w.alloc (.cells A0 (ρ.t 3))).drew (((w.alloc (.cells A0 (ρ.t 3))).drew.setCells w.heap.size i [.int .i64 x]).drew) (fun b _=>b=w.heap.size):=⟨k1.os,k1.tape,k1.output,k1.size,k1.same,k1.part⟩;have k2:=fY (S:=fun b _=>b=w.heap.size) (fun _=>rfl) ((fL l).drop i) (i+1) _ _ b2;exact k0.trans (k1'.trans k2 (fun _ _ q _=>q) fun _ _ q _=>q) (fun _ _ q _=>q) fun y o q hy=>og
    ·have hd:((fL l).drop i).length=l.length-i:=by simp[hlen]
     rw[zj _ _ _ _,px _ _ _ _ (by rw[iK,hAs,hd];omega),px _ _ _ _ (by rw[hAs];simp;omega)];grind
def bsS(l:List ByteArray)(x:ByteArray):Nat:=Lib.bsGo (fun t=>Op.bytesLess (l.getD t ByteArray.empty).toList x.toList) l.length 0 l.length
def IY(l:List ByteArray)(x:ByteArray):Bool:=decide (bsS l x<l.length/\l.getD (bsS l x) ByteArray.empty=x)
theorem xq{l:List ByteArray}(h:j<l.length):(strs l)[j]? =some (.string (l.getD j ByteArray.empty)):=by grind [strs]
def SB{l:List Int}(h:j<l.length):(fL l)[j]? =some (.int .i64 (l.getD j 0)):=by grind [fL]
def LB(L:Lays2.n26 P ρ)(p:Option Addr)(cap:Nat)(e:TypeId)(l:List ByteArray)(x:ByteArray)(hl:l.length<=1000000):Spec P (ρ.f 26) [.slice p l.length cap,.string x] [jN p cap e l] (fun v H1=>v= .tuple #[.int .i64 (bsS l x),.bool (IY l x)]/\H1=[jN p cap e l]):=by
 intro w hw;have gL:(jN p cap e l).holds w:=hw.1 _ sq;have nil:l=[]->Calls P (ρ.f 26) [.slice p l.length cap,.string x].toArray w fun ee w'=>∃ v H',ee= .returned v/\(v= .tuple #[.int .i64 (bsS l x),.bool (IY l x)]/\H'=[jN p cap e l])/\H'.all aK.wr=true/\XM w (bZ [jN p cap e l]) H' w':=fun h=>by
  subst h;refine(Any2.slices_BinarySearch_string_empty L p cap x w).mono fun ee w' ⟨he,dG⟩=>⟨_,_,he,⟨rfl,rfl⟩,rfl,?_⟩;grind [kH]
 rcases qo gL with⟨rfl,rfl,hk,hx⟩ | ⟨g,cur,rfl,h1,h2,h3,h4,h5,h6⟩
 ·simp_all
 ·refine(Any2.slices_BinarySearch_string L g 0 l.length cap (fun t=>l.getD t ByteArray.empty) x w og fun j hj=>cell_of_row gL (xq hj)).mono fun ee w' ⟨he,q,dG⟩=>⟨_,_,he,⟨rfl,rfl⟩,rfl,?_⟩;subst dG;exact(kH hw).drawn q
theorem IZ{q:Nat}{e:TypeId}{ys:List Value}(h1:w.heap[g]? =some (.cells cur e (0,0)))(h2:k<=cap)(h3:cap<=maxLen)(h4:cur.size=cap)(h6:xs.length=k)(hi:i<k)(hy:ys.length=k)(ht:ys.take (k-1)=xs.eraseIdx i):Left w ((w.drewN q).setCells g 0 ys) (.slice (some ⟨g,0,none⟩) k cap) (.slice (some ⟨g,0,none⟩) (k-1) cap) e (k-1) (xs.eraseIdx i):=by
 have a0:(w.drewN q).heap[g]? =some (.cells cur e (0,0)):=h1;have a1:=ep ys 0 _ _ a0;have hl:(xs.eraseIdx i).length=k-1:=by rw[List.length_eraseIdx,if_pos og,h6]
 refine⟨⟨by rw[hl];omega,.inr ⟨g,cap,_,rfl,Nat.zero_le _,a1,og,h3,by rw[iK,h4];omega,?_⟩⟩,?_,fun b hb=>.inl hb⟩
 ·rw[<-ht,Nat.mul_one];apply List.ext_getElem?;intro j;by_cases hj:j<k-1
  ·rw[List.getElem?_take_of_lt hj,List.getElem?_take_of_lt hj,Array.getElem?_toList,px _ _ _ _ og,if_pos og,Nat.sub_zero]
  grind
 ·have k1:gH w (w.drewN q) (fun b _=>(Value.slice (some ⟨g,0,none⟩) k cap).ownBlock=some b):=⟨rfl,rfl,rfl,Nat.le_refl _,fun _ _ _=>rfl,fun _ A _ _ h=>⟨A,h,rfl,fun _ _=>rfl⟩⟩;exact k1.trans (fY (S:=fun b _=>(Value.slice (some ⟨g,0,none⟩) k cap).ownBlock=some b) (fun _=>rfl) ys 0 _ _ a0) (fun _ _ q _=>q) fun _ _ q _=>q
def LC(L:Lays2.n23 P ρ)(p:Option Addr)(cap:Nat)(l:List Int)(i:Nat)(hi:i<l.length)(e:TypeId)(hl:l.length<=1000000):Spec P (ρ.f 23) [.slice p l.length cap,.int .i64 i,.int .i64 (i+1)] [db p cap e l] (fun v H1=>v= .slice p (l.length-1) cap/\H1=[.row (.slice p (l.length-1) cap) e 1 (l.length-1) (fL (l.eraseIdx i))]):=by
 intro w hw;have gL:(db p cap e l).holds w:=hw.1 _ sq;rcases qo gL with⟨rfl,rfl,hk,hx⟩ | ⟨g,cur,rfl,h1,h2,h3,h4,h5,h6⟩
 ·omega
 ·have GY:cap<=9223372036854775807:=by simp only[maxLen]at h3;omega
  refine(Any.slices_Delete_int_cells L g 0 l.length cap i (i+1) l w (Nat.le_refl _) h2 GY og og (fun j hj=>cell_of_row gL (SB hj)) fun j _=>iu h1 _).mono fun ee w' ⟨he,q,dG⟩=>⟨_,_,(by rw[he];congr 2;omega),⟨rfl,rfl⟩,rfl,?_⟩;subst dG;have Xa:fL (l.eraseIdx i)=(fL l).eraseIdx i:=by unfold fL;simp[List.eraseIdx_eq_take_drop_succ,List.map_take,List.map_drop]
  grind [Left.xm,IZ,fL]
def Et(L:Lays2.n24 P ρ)(p:Option Addr)(cap:Nat)(l:List ByteArray)(i:Nat)(hi:i<l.length)(e:TypeId)(hl:l.length<=1000000):Spec P (ρ.f 24) [.slice p l.length cap,.int .i64 i,.int .i64 (i+1)] [jN p cap e l] (fun v H1=>v= .slice p (l.length-1) cap/\H1=[.row (.slice p (l.length-1) cap) e 1 (l.length-1) (strs (l.eraseIdx i))]):=by
 intro w hw;have gL:(jN p cap e l).holds w:=hw.1 _ sq;rcases qo gL with⟨rfl,rfl,hk,hx⟩ | ⟨g,cur,rfl,h1,h2,h3,h4,h5,h6⟩
 ·omega
 ·have GY:cap<=9223372036854775807:=by simp only[maxLen]at h3;omega
  refine(Any.slices_Delete_string_cells L g 0 l.length cap i (i+1) (fun t=>l.getD t ByteArray.empty) w h2 GY og og (fun j hj=>cell_of_row gL (xq hj)) fun j _=>iu h1 _).mono fun ee w' ⟨he,q,dG⟩=>⟨_,_,(by rw[he];congr 2;omega),⟨rfl,rfl⟩,rfl,?_⟩;subst dG;have Xa:strs (l.eraseIdx i)=(strs l).eraseIdx i:=by unfold strs;simp[List.eraseIdx_eq_take_drop_succ,List.map_take,List.map_drop]
  have hso:(Lib.strsOf (fun t=>l.getD t ByteArray.empty) l.length).map encStr=strs l:=by
   apply List.ext_getElem?;intro j;by_cases hj:j<l.length
   ·rw[xq hj];simp[Lib.strsOf,hj,encStr]
   ·rw[List.getElem?_eq_none (by simp[Lib.strsOf];omega),List.getElem?_eq_none (by simp[strs];omega)]
  grind [Left.xm,IZ,List.map_take,List.map_drop]
def Pv{base:Nat}{e:TypeId}{sz n:Nat}{v:Value}(h:w.ownsRow base e sz v n xs):w.ownsRow 0 e sz v n xs:=
 ⟨h.1,h.2.imp id fun ⟨g,cap,cur,h1,_,h2⟩=>⟨g,cap,cur,h1,Nat.zero_le _,h2⟩⟩
def GZ(L:Lays2.n16 P ρ)(p:Option Addr)(cap:Nat)(e:TypeId)(l:List ByteArray)(hl:l.length<=1000000):Spec P (ρ.f 16) [.slice p l.length cap] [jN p cap e l] (fun v H1=>∃ p' cL,v= .slice p' l.length cL/\H1=[jN p' cL (ρ.t 9) l,jN p cap e l]):=by
 intro w hw;have gL:(jN p cap e l).holds w:=hw.1 _ sq;rcases qo gL with⟨rfl,rfl,hk,hx⟩ | ⟨g,cur,rfl,h1,h2,h3,h4,h5,h6⟩
 ·have hn:=List.eq_nil_of_length_eq_zero hk;subst hn;refine(Any.slices_Clone_string_nil L 0 0 w).mono fun ee w' ⟨he,dG⟩=>⟨_,_,he,⟨_,_,rfl,rfl⟩,rfl,?_⟩;subst dG;exact(kH hw).fc _ _
 ·refine(Any.slices_Clone_string L g 0 l.length cap l w (Nat.le_refl _) og fun j hj=>cell_of_row gL (xq hj)).mono fun ee w' ⟨v',he,aa3,hnn,hb⟩=> ?_;rcases aa3.2 with⟨hv,_⟩ | ⟨g2,vW,W6,rfl,hg2,bU⟩
  ·simp_all
  ·rw[List.take_length]at aa3;refine⟨_,_,he,⟨_,_,rfl,rfl⟩,rfl,(kH hw).fresh (fun b o Cc=>by simp only[aK.fT,Value.ownBlock,Option.some.injEq]at Cc;omega) ?_ (Pv aa3)⟩;exact⟨hb.os,hb.tape,hb.output,hb.size,fun b Cc _=>hb.block b Cc,fun b A t fz hA=>⟨A,by rw[hb.block b (eh hA)];exact hA,rfl,fun _ _=>rfl⟩⟩
end
end Go.X

namespace Go.X
open Go Go.Proofs
variable{x y:Operand}
def Cl(P:Program)(t:TypeId):Bool:=match P.underlying t with
 | some (.slice e)=>(match P.underlying e with
   | some (.int .u8)=>true
   | _=>false)&&(match P.info? e with
   | some i=>Nat.beq i.size 1&&Nat.ble i.bytes 1000&&(match i.zero with
     | some (.int .u8 z)=>decide (z=0)
     | _=>false)
   | none=>false)
 | _=>false
def rn{P:Program}{t:TypeId}(h:Cl P t=true):∃ e i,P.underlying t=some (.slice e)/\P.underlying e=some (.int .u8)/\P.info? e=some i/\i.size=1/\i.bytes<=1000/\i.zero=some (.int .u8 0):=by
 unfold Cl at h;split at h
 ·rename_i e ht;simp only[Bool.and_eq_true]at h;obtain⟨h1,h2⟩:=h;split at h1
  ·rename_i he;split at h2
   ·rename_i i hi;simp only[Bool.and_eq_true]at h2;obtain⟨⟨h3,h4⟩,h5⟩:=h2;split at h5;all_goals simp_all
   simp_all
  simp_all
 simp_all
def bv(b:UInt8):Value:=.int .u8 (b.toNat:Int)
section
variable {P:Program} {n:Fr} {Q:Exit->Act->World->Prop} {L:PF} {ops:Md} {bU:List Oper} {ty:TypeId} {pos:String} {af:Array Edge} {d:Nat} {W:World} {S:Nat->Nat->Prop} {H H':List aK} {φ:World->Prop} {gd:Option (Nat×Bool)}
def XO.Px{t:TypeId}{kl kc:IntKind}{l:Int}(hx:ev L x=some (.int kl l))(hy:ev L y=some (.int kc l))(hl:0<=l/\l<=1000000)(ht:Cl P t=true)(hd:Nat.blt d n.sz=true)(h:∀ b,XO P n ops Q bU ((d,.slice (some ⟨b,0,none⟩) l.toNat l.toNat)::L) (XM W S (.cells b 0 l.toNat (fun _=>bv 0)::H))):XO P n ops Q (⟨some d,.makeSlice t x y,ty,pos,af,none⟩::bU) L (XM W S H):=
 XO.op rfl fun a w ha hw=>by
  obtain⟨e,i,h1,h2,h3,h4,h5,h6⟩:=rn ht;have Nq:(madeCells (Value.int .u8 0).cells (l.toNat*i.size)).size=l.toNat:=by rw[size_madeCells,h4,Nat.mul_one]
  have nL:=hw.alloc (madeCells (Value.int .u8 0).cells (l.toNat*i.size)) e (fun _=>bv 0) (fun j hj=>by
   have hc:(Value.int IntKind.u8 0).cells= #[Value.int .u8 0]:=rfl
   rw[size_madeCells]at hj
   unfold madeCells
   rw[hc,Array.getElem?_map,Array.getElem?_range,if_pos hj]
   simp[bv,Nat.mod_one])
  rw[Nq]at nL;have hb:(i.bytes:Int)*l<=281474976710656:=by
   have:(i.bytes:Int)*l<=1000*1000000:=Int.mul_le_mul og hl.2 hl.1 og;omega
  have hr:=run_make (P:=P) w t e i _ h1 h3 h6 kl kc l l hl.1 (Int.le_refl _) hb og;unfold Oper.wp;have:(execOp a.eval ⟨some d,.makeSlice t x y,ty,pos,af,none⟩).run P w= .ok (.value (.slice (some ⟨w.heap.size,0,none⟩) l.toNat l.toNat)) (w.alloc (.cells (madeCells (Value.int .u8 0).cells (l.toNat*i.size)) e)):=by
   simp[execOp,ay ha hx,ay ha hy,hr]
  rw[this];exact h _ _ _ (ha.put hd _) nL
def XO.NF{dT sT:TypeId}{b m k c o:Nat}{s:ByteArray}{C C':Nat->Value}(hx:ev L x=some (.slice (some ⟨b,o,none⟩) k c))(hy:ev L y=some (.string s))(ht:Cl P dT=true)(hk:s.size<=k)(ho:o+s.size<=m)(hH:nK H (.cells b 0 m C) (.cells b 0 m C') H')(hC:cB C o (s.data.toList.map bv)=C')(hd:Nat.blt d n.sz=true)(h:XO P n ops Q bU ((d,.int .i64 (s.size:Int))::L) (XM W S H')):XO P n ops Q (⟨some d,.call ⟨.builtin .copy,#[x,y],#[dT,sT]⟩,ty,pos,af,none⟩::bU) L (XM W S H):=
 XO.op rfl fun a w ha hw=>by
  obtain⟨e,i,h1,h2,h3,h4,h5,h6⟩:=rn ht;obtain⟨H1,hdl,hp⟩:=hH.ZM;have hlen:(s.data.toList.map bv).length=s.size:=by rw[List.length_map,<-ByteArray.size_data];simp
  obtain⟨w',hr,nL⟩:=lC (P:=P) (s.data.toList.map bv) o 0 C w (hw.b8 hdl.b8) (by rw[hlen];omega) (by
   rw[List.all_eq_true]
   intro v hv
   simp only[List.mem_map]at hv
   obtain⟨u,_,rfl⟩:=hv
   rfl)
  simp only[Nat.add_zero,Nat.zero_add]at nL hr;rw[hC]at nL;unfold Oper.wp;have Xb:Nat.min s.size k=s.size:=Nat.min_eq_left hk;have htk:List.take s.size (List.map (fun b:UInt8=>Value.int IntKind.u8 (b.toNat:Int)) s.data.toList)=s.data.toList.map bv:=by
   rw[List.take_of_length_le (by rw[List.length_map,<-ByteArray.size_data];simp)];rfl
  have:(execOp a.eval ⟨some d,.call ⟨.builtin .copy,#[x,y],#[dT,sT]⟩,ty,pos,af,none⟩).run P w= .ok (.value (.int .i64 (s.size:Int))) w':=by
   simp[execOp,resolve,invoke,builtin,ay ha hx,ay ha hy,Builtin.copy_,run_underlying h1,Builtin.lenOf,Builtin.firstCells,sizeOf,typeInfo,h3,Xb];rw[htk,hr];simp[Result.andThen,goInt]
  rw[this];exact h _ _ (ha.put hd _) (nL.b8 hp)
def Py{t:TypeId}{b m c:Nat}{kk:IntKind}{z:Int}(hx:ev L x=some (.slice (some ⟨b,0,none⟩) m c))(hy:ev L y=some (.int kk z))(ht:Cl P t=true)(hz:0<=z/\z<m/\m<=c):bd P n L φ ⟨some d,.slice t x (some y) none none,ty,pos,af,gd⟩ (.slice (some ⟨b,z.toNat,none⟩) (m-z.toNat) (c-z.toNat)):=fun a w ha _=>by
 obtain⟨e,i,h1,h2,h3,h4,h5,h6⟩:=rn ht;obtain⟨k,rfl⟩:∃ k:Nat,z=(k:Int):=⟨z.toNat,og⟩;have hs:fk P e=some 1:=by unfold fk;rw[h3];simp[h4]
 have hk1:k<=m:=og;have Eg:¬c-k=0:=og;simp[execOp,ay ha hx,ay ha hy,Instr.sliceAt,run_underlying h1,Instr.slice,Instr.sliceBounds,Instr.sliceBound,asIntOf,hk1,run_sizeOf hs,Eg,Addr.add,hz.2.2];grind
def Xc{s t:TypeId}{b m k c:Nat}{C:Nat->Value}{B:ByteArray}(hx:ev L x=some (.slice (some ⟨b,0,none⟩) k c))(hk:k=B.size)(hH:∀ w,φ w->(aK.cells b 0 m C).holds w)(hC:B.size<=m/\∀ (i:Nat) (h:i<B.size),C i=bv B[i])(hs:Cl P s=true)(ht:P.underlying t=some .string):bd P n L φ ⟨some d,.convert s t x,ty,pos,af,gd⟩ (.string B):=fun a w ha hw=>by
 subst hk;obtain⟨e,i,h1,h2,h3,h4,h5,h6⟩:=rn hs;have hb:Go.Lib.Bytes w b 0 B:=fun j hj=>by
  have:=ec (hH w hw) (i:=j);grind [bv]
 have hr:=Go.Lib.run_convert_whole (P:=P) w s e t h1 h2 ht b 0 B hb c;simp[execOp,ay ha hx,hr]
end
end Go.X
