import Derived.Test.YthdinakloheinaaGreatDoorXFam
import Derived.Shelf.Slices.Cells
import Derived.Shelf.Slices.Empties
import Derived.Shelf.Slices.Clone
import Derived.Shelf.Spec.SearchS
import Derived.Shelf.Spec.SlicesInsertGrow
import Derived.Laws.MakeOwn
import Derived.Lib.SlBytesRow
set_option linter.all false
namespace Go.X
open Go Go.Proofs Go.Shelf
variable{cur:Array Value}{xs:List Value}{cap g i j k:Nat}{w:World}
def strs(l:List ByteArray):List Value:=l.map Value.string
def ki(l:List ByteArray)(z:Int):ByteArray:=l.getD z.toNat ByteArray.empty
def rk{l:List ByteArray}{z:Int}(h:0<=z/\z<l.length:=by omega):(strs l)[0+z.toNat*1]? =some (.string (ki l z)):=by
 have h2:z.toNat<l.length:=og;simp[strs,ki,List.getD,h2]
abbrev jR(p:Option Addr)(cap:Nat)(e:TypeId)(l:List ByteArray):aB:=.row (.slice p l.length cap) e 1 l.length (strs l)
def Is(A:Array Value):Nat->List Value->Array Value
 | _,[]=>A
 | o,v::r=>Is (A.setIfInBounds o v) (o+1) r
theorem iK:∀ (vs:List Value) (A:Array Value) (o:Nat),(Is A o vs).size=A.size
 | [],A,o=>rfl
 | v::r,A,o=>by rw[Is,iK r];simp
theorem px:∀ (vs:List Value) (A:Array Value) (o i:Nat),o+vs.length<=A.size->(Is A o vs)[i]? =if o<=i/\i<o+vs.length then vs[i-o]? else A[i]?
 | [],A,o,i,_=>by rw[Is,if_neg (by simp only[List.length_nil];omega)]
 | v::r,A,o,i,h=>by
  simp only[List.length_cons]at h ⊢;rw[Is,px r _ (o+1) i (by simp;omega)];by_cases c:i=o
  ·subst c;rw[if_neg og,if_pos og,Array.getElem?_setIfInBounds];simp;try omega
  ·by_cases q:o<=i/\i<o+(r.length+1)
   ·rw[if_pos og,if_pos q,show i-o=(i-(o+1))+1 by omega,List.getElem?_cons_succ]
   ·rw[if_neg og,if_neg q,Array.getElem?_setIfInBounds,if_neg fun e=>c e.symm]
def er{g:Nat}{t:TypeId}{fz:Nat×Nat} :∀ (vs:List Value) (o:Nat) (w:World) (cur:Array Value),w.heap[g]? =some (.cells cur t fz)->(w.setCells g o vs).heap[g]? =some (.cells (Is cur o vs) t fz)
 | [],o,w,cur,h=>h
 | v::r,o,w,cur,h=>by
  rw[World.setCells,Is];exact er r (o+1) _ _ (by simp[World.setCell,Array.getElem?_modify,h])
def fR{g:Nat}{t:TypeId}{fz:Nat×Nat}{S:Nat->Nat->Prop}(hS:∀ o,S g o):∀ (vs:List Value) (o:Nat) (w:World) (cur:Array Value),w.heap[g]? =some (.cells cur t fz)->gy w (w.setCells g o vs) S
 | [],o,w,cur,h=>gy.refl _ _
 | v::r,o,w,cur,h=>by
  rw[World.setCells];have h1:gy w (w.setCell ⟨g,o,none⟩ v) S:=by
   have:=gy.setCell (i:=0) (o:=o) h v (S:=S) (hS _);rwa[Nat.add_zero]at this
  have h2:(w.setCell ⟨g,o,none⟩ v).heap[g]? =some (.cells (cur.setIfInBounds o v) t fz):=by simp[World.setCell,Array.getElem?_modify,h]
  exact h1.trans (fR hS r (o+1) _ _ h2) (fun _ _ q _=>q) fun _ _ q _=>q
theorem gy.kh{a b:World}{S T:Nat->Nat->Prop}(h:gy a b S)(hST:∀ x o,S x o->T x o):gy a b T:=
 ⟨h.os,h.tape,h.output,h.size,fun b hb hn=>h.same b hb fun o q=>hn o (hST b o q),fun b A t fz hA=>by
  obtain⟨A',h1,h2,h3⟩:=h.part b A t fz hA
  exact⟨A',h1,h2,fun o hn=>h3 o fun q=>hn (hST b o q)⟩⟩
section
variable {P:Program} {ρ:Ren}
structure Left (w w':World) (v v':Value) (e:TypeId) (k':Nat) (xs':List Value):Prop where
 row:(aB.row v' e 1 k' xs').holds w'
 eG:gy w w' fun b _=>v.ownBlock=some b
 aS:∀ b,v'.ownBlock=some b->v.ownBlock=some b\/w.heap.size<=b
def Left.xm{w':World}{v v':Value}{e:TypeId}{k':Nat}{xs':List Value}{H:List aB}(h:Left w w' v v' e k' xs')(hg:Good (.row v e 1 k xs::H) w):XM w (ck (.row v e 1 k xs::H)) (.row v' e 1 k' xs'::H) w':=
 (kJ hg).b7 .aa rfl (fun b o ha=>h.aS b ha) (h.eG.kh fun _ _ q=>q) h.row
def qt{p:Option Addr}{e:TypeId}(h:(aB.row (.slice p k cap) e 1 k xs).holds w):(p=none/\cap=0/\k=0/\xs=[])\/∃ g cur,p=some ⟨g,0,none⟩/\w.heap[g]? =some (.cells cur e (0,0))/\k<=cap/\cap<=maxLen/\cur.size=cap/\xs.length=k/\cur.toList.take k=xs:=by
 rcases h.2 with⟨hv,rfl⟩ | ⟨g,cJ,cur,hv,_,h1,h2,h3,h4,h5⟩
 ·simp only[Value.slice.injEq]at hv;obtain⟨rfl,_,rfl⟩:=hv;exact .inl ⟨rfl,rfl,rfl,List.eq_nil_of_length_eq_zero (by simpa using h.1)⟩
 ·simp only[Value.slice.injEq,true_and]at hv;obtain⟨rfl,rfl⟩:=hv;exact .inr ⟨g,cur,rfl,h1,h2,h3,by simpa using h4,by simpa using h.1,by simpa using h5⟩
def iq{e:TypeId}(h:w.heap[g]? =some (.cells cur e (0,0)))(j:Nat):w.frozen? ⟨g,j,none⟩=false:=by
 simp[World.frozen?,h]
def wQ{e:TypeId}(h:w.heap[g]? =some (.cells cur e (0,0)))(hj:j<cur.size:=by omega):(w.cell? ⟨g,j,none⟩).isSome=true:=by
 simp[World.cell?,h,hj]
theorem Sa(h:cur.toList.take k=xs)(hk:k<=cur.size)(hi:i<k):cur[i]? =xs[i]? :=by
 rw[<-h,List.getElem?_take_of_lt hi,Array.getElem?_toList]
theorem qu(xs:List Value)(x:Value)(i j:Nat)(hi:i<=xs.length:=by omega):(xs.take i++x::xs.drop i)[j]? =if j<i then xs[j]? else if j=i then some x else xs[j-1]? :=by
 by_cases c:j<i
 ·rw[if_pos c,List.getElem?_append_left (by simp;omega),List.getElem?_take_of_lt c]
 ·rw[if_neg c,List.getElem?_append_right (by simp;omega)];simp only[List.length_take,Nat.min_eq_left hi];by_cases q:j=i
  ·subst q;rw[if_pos rfl];simp
  ·rw[if_neg q,show j-i=(j-i-1)+1 by omega,List.getElem?_cons_succ,List.getElem?_drop,show i+(j-i-1)=j-1 by omega]
def rm{e:TypeId}{x:Value}(h1:w.heap[g]? =some (.cells cur e (0,0)))(h2:k+1<=cap)(h3:cap<=maxLen)(h4:cur.size=cap)(h5:cur.toList.take k=xs)(h6:xs.length=k)(hi:i<=k)(q:Nat):Left w ((((w.drewN q).setCells g (0+(i+1)) (xs.drop i))).setCells g (0+i) [x]) (.slice (some ⟨g,0,none⟩) k cap) (.slice (some ⟨g,0,none⟩) (k+1) cap) e (k+1) (xs.take i++x::xs.drop i):=by
 have a0:(w.drewN q).heap[g]? =some (.cells cur e (0,0)):=h1;have a1:=er (xs.drop i) (0+(i+1)) _ _ a0;have a2:=er [x] (0+i) _ _ a1;have hl:(xs.drop i).length=k-i:=by simp[h6]
 refine⟨⟨by simp[h6];omega,.inr ⟨g,cap,_,rfl,Nat.zero_le _,a2,h2,h3,by rw[iK,iK,h4];simp,?_⟩⟩,?_,fun b hb=>.inl hb⟩
 ·apply List.ext_getElem?;intro j;rw[qu _ _ _ _,Nat.mul_one];by_cases hj:j<k+1
  ·rw[List.getElem?_take_of_lt hj,Array.getElem?_toList,px _ _ _ _ (by rw[iK];simp;omega),px _ _ _ _ (by rw[hl];omega)];by_cases c:j<i
   ·rw[if_neg (by simp;omega),if_neg og,if_pos c,Sa h5 og og]
   ·rw[if_neg c];by_cases q2:j=i
    ·subst q2;rw[if_pos sq,if_pos rfl];simp
    ·rw[if_neg (by simp;omega),if_pos (by rw[hl];omega),if_neg q2,List.getElem?_drop];congr 1;omega
  ·rw[List.getElem?_take_eq_none og,if_neg og,if_neg og,List.getElem?_eq_none og]
 ·have k1:gy w (w.drewN q) (fun b _=>(Value.slice (some ⟨g,0,none⟩) k cap).ownBlock=some b):=⟨rfl,rfl,rfl,Nat.le_refl _,fun _ _ _=>rfl,fun _ A _ _ h=>⟨A,h,rfl,fun _ _=>rfl⟩⟩;have k2:=fR (S:=fun b _=>(Value.slice (some ⟨g,0,none⟩) k cap).ownBlock=some b) (fun _=>rfl) (xs.drop i) (0+(i+1)) _ _ a0;have k3:=fR (S:=fun b _=>(Value.slice (some ⟨g,0,none⟩) k cap).ownBlock=some b) (fun _=>rfl) [x] (0+i) _ _ a1;exact(k1.trans k2 (fun _ _ q _=>q) fun _ _ q _=>q).trans k3 (fun _ _ q _=>q) fun _ _ q _=>q
def EY{w':World}{p:Option Addr}{C:Nat}{e:TypeId}{x:Value}(hk:gy w w' fun _ _=>False)(h1:w'.heap[w.heap.size]? =some (.cells cur e (0,0)))(h2:k+1<=C)(h3:C<=maxLen)(h4:cur.size=C)(h6:xs.length=k)(hi:i<=k)(h5:∀ j,j<k+1->cur[j]? =(xs.take i++x::xs.drop i)[j]?):Left w w' (.slice p k cap) (.slice (some ⟨w.heap.size,0,none⟩) (k+1) C) e (k+1) (xs.take i++x::xs.drop i):=by
 have hl:(xs.take i++x::xs.drop i).length=k+1:=by simp;omega
 refine⟨⟨by rw[hl];omega,.inr ⟨w.heap.size,C,cur,rfl,Nat.zero_le _,h1,h2,h3,by rw[h4];omega,?_⟩⟩,hk.kh fun _ _ q=>q.elim,fun b hb=>.inr (by simp only[Value.ownBlock,Option.some.injEq]at hb;omega)⟩;apply List.ext_getElem?;intro j;by_cases hj:j<k+1
 ·rw[List.getElem?_take_of_lt og,Array.getElem?_toList];exact h5 j hj
 ·rw[List.getElem?_take_eq_none og,List.getElem?_eq_none og]
set_option maxHeartbeats 1000000 in
def Eb(L:Lays2.n22 P ρ)(p:Option Addr)(cap:Nat)(l:List ByteArray)(i:Nat)(hi:i<=l.length)(x:ByteArray)(vb:Nat)(e2:TypeId)(hl:l.length<=1000000):Spec P (ρ.f 22) [.slice p l.length cap,.int .i64 i,.slice (some ⟨vb,0,none⟩) 1 1] [jR p cap (ρ.t 9) l,.row (.slice (some ⟨vb,0,none⟩) 1 1) e2 1 1 [.string x]] (fun v H1=>∃ p' cJ,v= .slice p' (l.length+1) cJ/\H1=[.row (.slice p' (l.length+1) cJ) (ρ.t 9) 1 (l.length+1) (strs (l.insertIdx i x)),.row (.slice (some ⟨vb,0,none⟩) 1 1) e2 1 1 [.string x]]):=by
 intro w hw;have gB:(jR p cap (ρ.t 9) l).holds w:=hw.1 _ sq;have Sb:(aB.row (.slice (some ⟨vb,0,none⟩) 1 1) e2 1 1 [.string x]).holds w:=hw.1 _ sq;obtain⟨WN,q1,_,_,q4,q5⟩:=oe Sb;have WO:∀ j v,([.string x]:List Value)[j]? =some v->w.cell? ⟨vb,0+j,none⟩=some v:=fun j v hj=>cell_of_row Sb hj;have WQ:∀ v∈([.string x]:List Value),v.oneCell'=true:=fun v hv=>by
  simp only[List.mem_singleton]at hv;subst hv;rfl
 have aaD:strs (l.insertIdx i x)=(strs l).take i++ .string x::(strs l).drop i:=by
  unfold strs;apply List.ext_getElem?;intro j;rw[qu _ _ _ _ (by simpa using hi),List.getElem?_map,List.getElem?_insertIdx];by_cases c:j<i
  ·rw[if_pos c,if_pos c,List.getElem?_map]
  ·rw[if_neg c,if_neg c];by_cases q:j=i
   ·subst q;rw[if_pos rfl,if_pos rfl,if_pos (by simpa using hi)];rfl
   ·rw[if_neg q,if_neg q,List.getElem?_map]
 have hlen:(strs l).length=l.length:=by simp[strs]
 have fin:∀ {ee:Ending} {w':World} {p':Option Addr} {cJ:Nat},ee= .returned (.slice p' (l.length+1) cJ)->Left w w' (.slice p l.length cap) (.slice p' (l.length+1) cJ) (ρ.t 9) (l.length+1) ((strs l).take i++ .string x::(strs l).drop i)->
   ∃ v H',ee= .returned v/\(∃ p' cJ,v= .slice p' (l.length+1) cJ/\H'=[aB.row (.slice p' (l.length+1) cJ) (ρ.t 9) 1 (l.length+1) (strs (l.insertIdx i x)),.row (.slice (some ⟨vb,0,none⟩) 1 1) e2 1 1 [.string x]])/\H'.all aB.wr=true/\XM w (ck [jR p cap (ρ.t 9) l,.row (.slice (some ⟨vb,0,none⟩) 1 1) e2 1 1 [.string x]]) H' w':=fun he hL=>
  ⟨_,_,he,⟨_,_,rfl,rfl⟩,rfl,by rw[aaD];exact hL.xm hw⟩
 have hzero:∀ k,(Builtin.zeroCells (Value.string ⟨#[]⟩).cells k).size=k:=fun k=>by rw[size_zeroCells];simp[Value.cells]
 have grown:∀ (w':World) (C:Nat) (cur:Array Value),gy w w' (fun _ _=>False)->w'.heap[w.heap.size]? =some (.cells cur (ρ.t 9) (0,0))->l.length+1<=C->C<=maxLen->cur.size=C->(∀ j,j<l.length+1->cur[j]? =((strs l).take i++ .string x::(strs l).drop i)[j]?)->
   Left w w' (.slice p l.length cap) (.slice (some ⟨w.heap.size,0,none⟩) (l.length+1) C) (ρ.t 9) (l.length+1) ((strs l).take i++ .string x::(strs l).drop i):=fun w' C cur a1 a2 a3 a4 a5 a6=>EY a1 a2 a3 a4 a5 hlen hi a6
 have wR:i=l.length->cap<l.length+1->l.length<=cap->(p=none->l.length=0)->(∀ a,p=some a->∀ j v,(strs l)[j]? =some v->w.cell? (a.add j)=some v)->Calls P (ρ.f 22) #[.slice p l.length cap,.int .i64 i,.slice (some ⟨vb,0,none⟩) 1 1] w fun e w'=>∃ v H',e= .returned v/\(∃ p' cJ,v= .slice p' (l.length+1) cJ/\H'=[aB.row (.slice p' (l.length+1) cJ) (ρ.t 9) 1 (l.length+1) (strs (l.insertIdx i x)),.row (.slice (some ⟨vb,0,none⟩) 1 1) e2 1 1 [.string x]])/\H'.all aB.wr=true/\XM w (ck [jR p cap (ρ.t 9) l,.row (.slice (some ⟨vb,0,none⟩) 1 1) e2 1 1 [.string x]]) H' w':=by
  intro Sc lJ Gj WR BN;subst Sc;refine(Any2.slices_Insert_string_end_grow L p l.length cap vb 0 1 1 (strs l) [.string x] w og Gj lJ og hlen rfl WR BN WO WQ).mono fun ee w' ⟨he,dP⟩=> ?_;subst dP;have K2:=grownCap_ge w (l.length+1) cap (ρ.t 9);have OP:grownCap w (l.length+1) cap (ρ.t 9)<=maxLen:=grownCap_le_maxLen w (l.length+1) cap (ρ.t 9) (by simp only[maxLen];omega);refine fin he (grown _ _ _ (uk (jQ w.drew _ _)) (heap_alloc_new w.drew _) K2 OP ?_ fun j hj=> ?_)
  ·rw[Array.size_append,hzero];simp[hlen];omega
  ·rw[Array.getElem?_append_left (by simp[hlen];omega),List.getElem?_toArray,List.take_of_length_le og,List.drop_of_length_le og]
 rcases qt gB with⟨rfl,rfl,hk,hx⟩ | ⟨g,cur,rfl,h1,h2,h3,h4,h5,h6⟩
 ·exact wR og og og (fun _=>hk) fun a ha=>by cases ha
 ·have fM:vb≠g:=fun e=>by
   have hp:=List.pairwise_cons.1 hw.2;exact hp.1 (aB.row (.slice (some ⟨vb,0,none⟩) 1 1) e2 1 1 [.string x]) sq rfl g 0 rfl (by simp only[aB.fO,Value.ownBlock];rw[e])
  have BN:∀ j v,(strs l)[j]? =some v->w.cell? ⟨g,0+j,none⟩=some v:=fun j v hj=>cell_of_row gB hj;have h1c:∀ v∈strs l,v.oneCell'=true:=fun v hv=>by
   obtain⟨y,_,rfl⟩:=List.mem_map.1 hv;rfl
  have Gk:cap<=9223372036854775807:=by simp only[maxLen]at h3;omega
  by_cases lJ:l.length+1<=cap
  ·by_cases Sc:i=l.length
   ·subst Sc;refine(Any2.slices_Insert_string_end_room L g 0 l.length cap vb 0 1 1 [.string x] w og lJ Gk rfl (fun j hj=>wQ h1) (fun j _=>iq h1 _) WO WQ).mono fun ee w' ⟨he,dP⟩=> ?_;subst dP;have hL:=rm (i:=l.length) (x:=.string x) h1 lJ h3 h4 h6 h5 og 0;rw[List.drop_of_length_le (show(strs l).length<=l.length by omega)]at hL;rw[List.drop_of_length_le (show(strs l).length<=l.length by omega)]at fin;exact fin he hL
   ·refine(Any2.slices_Insert_string_shift L g 0 l.length cap i vb 0 1 1 (strs l) [.string x] w og og lJ Gk fM hlen rfl BN (fun j hj=>wQ h1) (fun j _=>iq h1 _) WO h1c WQ e2 (ρ.t 9) WN.size cur.size
     (by simp[World.shape?,q1]) (by simp[World.shape?,h1]) og (iq q1 _) (iq q1 _)).mono fun ee w' ⟨he,dP⟩=> ?_
    subst dP;exact fin he (rm (i:=i) (x:=.string x) h1 lJ h3 h4 h6 h5 og 1)
  ·by_cases Sc:i=l.length
   ·refine wR Sc og h2 (fun q=>by cases q) (fun a ha j v hj=> ?_);obtain rfl:a=⟨g,0,none⟩:=(Option.some.inj ha).symm;have:=BN j v hj;have e0:(⟨g,0,none⟩:Addr).add j=⟨g,0+j,none⟩:=by cases j<;>simp[Addr.add]
    rw[e0];exact this
   ·refine(Any2.slices_Insert_string_grow L g 0 l.length cap i vb 0 1 1 (strs l) [.string x] w og og h2 og og hlen rfl BN WO h1c WQ).mono fun ee w' ⟨he,dP⟩=> ?_;have K2:=grownCap_ge w (l.length+1) cap (ρ.t 9);have OP:grownCap w (l.length+1) cap (ρ.t 9)<=maxLen:=grownCap_le_maxLen w (l.length+1) cap (ρ.t 9) (by simp only[maxLen];omega);generalize hA:((strs l).take i).toArray++Builtin.zeroCells (Value.string ⟨#[]⟩).cells (l.length+1-i)++Builtin.zeroCells (Value.string ⟨#[]⟩).cells (grownCap w (l.length+1) cap (ρ.t 9)-(l.length+1))=A0 at dP;have hAs:A0.size=grownCap w (l.length+1) cap (ρ.t 9):=by
     rw[<-hA,Array.size_append,Array.size_append,hzero,hzero];simp[hlen];omega
    have b0:(w.alloc (.cells A0 (ρ.t 9))).drew.heap[w.heap.size]? =some (.cells A0 (ρ.t 9) (0,0)):=heap_alloc_new w _;have b1:=er [.string x] i _ _ b0;have b2:(((w.alloc (.cells A0 (ρ.t 9))).drew.setCells w.heap.size i [.string x]).drew).heap[w.heap.size]? =_:=b1;have b3:=er ((strs l).drop i) (i+1) _ _ b2;subst dP;refine fin he (grown _ _ _ ?_ b3 K2 OP (by rw[iK,iK,hAs]) fun j hj=> ?_)
    ·have k0:gy w (w.alloc (.cells A0 (ρ.t 9))).drew (fun _ _=>False):=by
      have:=jQ w (.cells A0 (ρ.t 9)) fun _ _=>False;exact⟨this.os,this.tape,this.output,this.size,this.same,this.part⟩
     have k1:=fR (S:=fun b _=>b=w.heap.size) (fun _=>rfl) [.string x] i _ _ b0;have k1':gy (w.alloc (.cells A0 (ρ.t 9))).drew (((w.alloc (.cells A0 (ρ.t 9))).drew.setCells w.heap.size i [.string x]).drew) (fun b _=>b=w.heap.size):=⟨k1.os,k1.tape,k1.output,k1.size,k1.same,k1.part⟩;have k2:=fR (S:=fun b _=>b=w.heap.size) (fun _=>rfl) ((strs l).drop i) (i+1) _ _ b2;exact k0.trans (k1'.trans k2 (fun _ _ q _=>q) fun _ _ q _=>q) (fun _ _ q _=>q) fun y o q hy=>og
    ·have hd:((strs l).drop i).length=l.length-i:=by simp[hlen]
     rw[qu _ _ _ _,px _ _ _ _ (by rw[iK,hAs,hd];omega),px _ _ _ _ (by rw[hAs];simp;omega)];by_cases c:j<i
     ·rw[if_neg og,if_neg (by simp;omega),if_pos c,<-hA,Array.getElem?_append_left (by rw[Array.size_append,hzero];simp[hlen];omega),Array.getElem?_append_left (by simp[hlen];omega),List.getElem?_toArray,List.getElem?_take_of_lt c]
     ·rw[if_neg c];by_cases q:j=i
      ·subst q;rw[if_neg og,if_pos sq,if_pos rfl];simp
      ·rw[if_pos (by rw[hd];omega),if_neg q,List.getElem?_drop];congr 1;omega
set_option maxHeartbeats 1000000 in
def K9(L:Lays2.n21 P ρ)(p:Option Addr)(cap:Nat)(l:List Int)(i:Nat)(hi:i<=l.length)(x:Int)(vb:Nat)(e2:TypeId)(hl:l.length<=1000000):Spec P (ρ.f 21) [.slice p l.length cap,.int .i64 i,.slice (some ⟨vb,0,none⟩) 1 1] [dE p cap (ρ.t 3) l,.row (.slice (some ⟨vb,0,none⟩) 1 1) e2 1 1 [.int .i64 x]] (fun v H1=>∃ p' cJ,v= .slice p' (l.length+1) cJ/\H1=[.row (.slice p' (l.length+1) cJ) (ρ.t 3) 1 (l.length+1) (fI (l.insertIdx i x)),.row (.slice (some ⟨vb,0,none⟩) 1 1) e2 1 1 [.int .i64 x]]):=by
 intro w hw;have gB:(dE p cap (ρ.t 3) l).holds w:=hw.1 _ sq;have Sb:(aB.row (.slice (some ⟨vb,0,none⟩) 1 1) e2 1 1 [.int .i64 x]).holds w:=hw.1 _ sq;obtain⟨WN,q1,_,_,q4,q5⟩:=oe Sb;have WO:∀ j v,([.int .i64 x]:List Value)[j]? =some v->w.cell? ⟨vb,0+j,none⟩=some v:=fun j v hj=>cell_of_row Sb hj;have WQ:∀ v∈([.int .i64 x]:List Value),v.oneCell'=true:=fun v hv=>by
  simp only[List.mem_singleton]at hv;subst hv;rfl
 have aaD:fI (l.insertIdx i x)=(fI l).take i++ .int .i64 x::(fI l).drop i:=by
  unfold fI;apply List.ext_getElem?;intro j;rw[qu _ _ _ _ (by simpa using hi),List.getElem?_map,List.getElem?_insertIdx];by_cases c:j<i
  ·rw[if_pos c,if_pos c,List.getElem?_map]
  ·rw[if_neg c,if_neg c];by_cases q:j=i
   ·subst q;rw[if_pos rfl,if_pos rfl,if_pos (by simpa using hi)];rfl
   ·rw[if_neg q,if_neg q,List.getElem?_map]
 have hlen:(fI l).length=l.length:=by simp[fI]
 have fin:∀ {ee:Ending} {w':World} {p':Option Addr} {cJ:Nat},ee= .returned (.slice p' (l.length+1) cJ)->Left w w' (.slice p l.length cap) (.slice p' (l.length+1) cJ) (ρ.t 3) (l.length+1) ((fI l).take i++ .int .i64 x::(fI l).drop i)->
   ∃ v H',ee= .returned v/\(∃ p' cJ,v= .slice p' (l.length+1) cJ/\H'=[aB.row (.slice p' (l.length+1) cJ) (ρ.t 3) 1 (l.length+1) (fI (l.insertIdx i x)),.row (.slice (some ⟨vb,0,none⟩) 1 1) e2 1 1 [.int .i64 x]])/\H'.all aB.wr=true/\XM w (ck [dE p cap (ρ.t 3) l,.row (.slice (some ⟨vb,0,none⟩) 1 1) e2 1 1 [.int .i64 x]]) H' w':=fun he hL=>
  ⟨_,_,he,⟨_,_,rfl,rfl⟩,rfl,by rw[aaD];exact hL.xm hw⟩
 have hzero:∀ k,(Builtin.zeroCells (Value.int .i64 0).cells k).size=k:=fun k=>by rw[size_zeroCells];simp[Value.cells]
 have grown:∀ (w':World) (C:Nat) (cur:Array Value),gy w w' (fun _ _=>False)->w'.heap[w.heap.size]? =some (.cells cur (ρ.t 3) (0,0))->l.length+1<=C->C<=maxLen->cur.size=C->(∀ j,j<l.length+1->cur[j]? =((fI l).take i++ .int .i64 x::(fI l).drop i)[j]?)->
   Left w w' (.slice p l.length cap) (.slice (some ⟨w.heap.size,0,none⟩) (l.length+1) C) (ρ.t 3) (l.length+1) ((fI l).take i++ .int .i64 x::(fI l).drop i):=fun w' C cur a1 a2 a3 a4 a5 a6=>EY a1 a2 a3 a4 a5 hlen hi a6
 have wR:i=l.length->cap<l.length+1->l.length<=cap->(p=none->l.length=0)->(∀ a,p=some a->∀ j v,(fI l)[j]? =some v->w.cell? (a.add j)=some v)->Calls P (ρ.f 21) #[.slice p l.length cap,.int .i64 i,.slice (some ⟨vb,0,none⟩) 1 1] w fun e w'=>∃ v H',e= .returned v/\(∃ p' cJ,v= .slice p' (l.length+1) cJ/\H'=[aB.row (.slice p' (l.length+1) cJ) (ρ.t 3) 1 (l.length+1) (fI (l.insertIdx i x)),.row (.slice (some ⟨vb,0,none⟩) 1 1) e2 1 1 [.int .i64 x]])/\H'.all aB.wr=true/\XM w (ck [dE p cap (ρ.t 3) l,.row (.slice (some ⟨vb,0,none⟩) 1 1) e2 1 1 [.int .i64 x]]) H' w':=by
  intro Sc lJ Gj WR BN;subst Sc;refine(Any2.slices_Insert_int_end_grow L p l.length cap vb 0 1 1 (fI l) [.int .i64 x] w og Gj lJ og hlen rfl WR BN WO WQ).mono fun ee w' ⟨he,dP⟩=> ?_;subst dP;have K2:=grownCap_ge w (l.length+1) cap (ρ.t 3);have OP:grownCap w (l.length+1) cap (ρ.t 3)<=maxLen:=grownCap_le_maxLen w (l.length+1) cap (ρ.t 3) (by simp only[maxLen];omega);refine fin he (grown _ _ _ (uk (jQ w.drew _ _)) (heap_alloc_new w.drew _) K2 OP ?_ fun j hj=> ?_)
  ·rw[Array.size_append,hzero];simp[hlen];omega
  ·rw[Array.getElem?_append_left (by simp[hlen];omega),List.getElem?_toArray,List.take_of_length_le og,List.drop_of_length_le og]
 rcases qt gB with⟨rfl,rfl,hk,hx⟩ | ⟨g,cur,rfl,h1,h2,h3,h4,h5,h6⟩
 ·exact wR og og og (fun _=>hk) fun a ha=>by cases ha
 ·have fM:vb≠g:=fun e=>by
   have hp:=List.pairwise_cons.1 hw.2;exact hp.1 (aB.row (.slice (some ⟨vb,0,none⟩) 1 1) e2 1 1 [.int .i64 x]) sq rfl g 0 rfl (by simp only[aB.fO,Value.ownBlock];rw[e])
  have BN:∀ j v,(fI l)[j]? =some v->w.cell? ⟨g,0+j,none⟩=some v:=fun j v hj=>cell_of_row gB hj;have h1c:∀ v∈fI l,v.oneCell'=true:=fun v hv=>by
   obtain⟨y,_,rfl⟩:=List.mem_map.1 hv;rfl
  have Gk:cap<=9223372036854775807:=by simp only[maxLen]at h3;omega
  by_cases lJ:l.length+1<=cap
  ·by_cases Sc:i=l.length
   ·subst Sc;refine(Any2.slices_Insert_int_end_room L g 0 l.length cap vb 0 1 1 [.int .i64 x] w og lJ Gk rfl (fun j hj=>wQ h1) (fun j _=>iq h1 _) WO WQ).mono fun ee w' ⟨he,dP⟩=> ?_;subst dP;have hL:=rm (i:=l.length) (x:=.int .i64 x) h1 lJ h3 h4 h6 h5 og 0;rw[List.drop_of_length_le (show(fI l).length<=l.length by omega)]at hL;rw[List.drop_of_length_le (show(fI l).length<=l.length by omega)]at fin;exact fin he hL
   ·refine(Any2.slices_Insert_int_shift L g 0 l.length cap i vb 0 1 1 (fI l) [.int .i64 x] w og og lJ Gk fM hlen rfl BN (fun j hj=>wQ h1) (fun j _=>iq h1 _) WO h1c WQ e2 (ρ.t 3) WN.size cur.size
     (by simp[World.shape?,q1]) (by simp[World.shape?,h1]) og (iq q1 _) (iq q1 _)).mono fun ee w' ⟨he,dP⟩=> ?_
    subst dP;exact fin he (rm (i:=i) (x:=.int .i64 x) h1 lJ h3 h4 h6 h5 og 1)
  ·by_cases Sc:i=l.length
   ·refine wR Sc og h2 (fun q=>by cases q) (fun a ha j v hj=> ?_);obtain rfl:a=⟨g,0,none⟩:=(Option.some.inj ha).symm;have:=BN j v hj;have e0:(⟨g,0,none⟩:Addr).add j=⟨g,0+j,none⟩:=by cases j<;>simp[Addr.add]
    rw[e0];exact this
   ·refine(Any2.slices_Insert_int_grow L g 0 l.length cap i vb 0 1 1 (fI l) [.int .i64 x] w og og h2 og og hlen rfl BN WO h1c WQ).mono fun ee w' ⟨he,dP⟩=> ?_;have K2:=grownCap_ge w (l.length+1) cap (ρ.t 3);have OP:grownCap w (l.length+1) cap (ρ.t 3)<=maxLen:=grownCap_le_maxLen w (l.length+1) cap (ρ.t 3) (by simp only[maxLen];omega);generalize hA:((fI l).take i).toArray++Builtin.zeroCells (Value.int .i64 0).cells (l.length+1-i)++Builtin.zeroCells (Value.int .i64 0).cells (grownCap w (l.length+1) cap (ρ.t 3)-(l.length+1))=A0 at dP;have hAs:A0.size=grownCap w (l.length+1) cap (ρ.t 3):=by
     rw[<-hA,Array.size_append,Array.size_append,hzero,hzero];simp[hlen];omega
    have b0:(w.alloc (.cells A0 (ρ.t 3))).drew.heap[w.heap.size]? =some (.cells A0 (ρ.t 3) (0,0)):=heap_alloc_new w _;have b1:=er [.int .i64 x] i _ _ b0;have b2:(((w.alloc (.cells A0 (ρ.t 3))).drew.setCells w.heap.size i [.int .i64 x]).drew).heap[w.heap.size]? =_:=b1;have b3:=er ((fI l).drop i) (i+1) _ _ b2;subst dP;refine fin he (grown _ _ _ ?_ b3 K2 OP (by rw[iK,iK,hAs]) fun j hj=> ?_)
    ·have k0:gy w (w.alloc (.cells A0 (ρ.t 3))).drew (fun _ _=>False):=by
      have:=jQ w (.cells A0 (ρ.t 3)) fun _ _=>False;exact⟨this.os,this.tape,this.output,this.size,this.same,this.part⟩
     have k1:=fR (S:=fun b _=>b=w.heap.size) (fun _=>rfl) [.int .i64 x] i _ _ b0;have k1':gy (w.alloc (.cells A0 (ρ.t 3))).drew (((w.alloc (.cells A0 (ρ.t 3))).drew.setCells w.heap.size i [.int .i64 x]).drew) (fun b _=>b=w.heap.size):=⟨k1.os,k1.tape,k1.output,k1.size,k1.same,k1.part⟩;have k2:=fR (S:=fun b _=>b=w.heap.size) (fun _=>rfl) ((fI l).drop i) (i+1) _ _ b2;exact k0.trans (k1'.trans k2 (fun _ _ q _=>q) fun _ _ q _=>q) (fun _ _ q _=>q) fun y o q hy=>og
    ·have hd:((fI l).drop i).length=l.length-i:=by simp[hlen]
     rw[qu _ _ _ _,px _ _ _ _ (by rw[iK,hAs,hd];omega),px _ _ _ _ (by rw[hAs];simp;omega)];by_cases c:j<i
     ·rw[if_neg og,if_neg (by simp;omega),if_pos c,<-hA,Array.getElem?_append_left (by rw[Array.size_append,hzero];simp[hlen];omega),Array.getElem?_append_left (by simp[hlen];omega),List.getElem?_toArray,List.getElem?_take_of_lt c]
     ·rw[if_neg c];by_cases q:j=i
      ·subst q;rw[if_neg og,if_pos sq,if_pos rfl];simp
      ·rw[if_pos (by rw[hd];omega),if_neg q,List.getElem?_drop];congr 1;omega
def bsS(l:List ByteArray)(x:ByteArray):Nat:=Lib.bsGo (fun t=>Op.bytesLess (l.getD t ByteArray.empty).toList x.toList) l.length 0 l.length
def It(l:List ByteArray)(x:ByteArray):Bool:=decide (bsS l x<l.length/\l.getD (bsS l x) ByteArray.empty=x)
theorem wS{l:List ByteArray}(h:j<l.length):(strs l)[j]? =some (.string (l.getD j ByteArray.empty)):=by simp[strs,List.getD,h]
def Se{l:List Int}(h:j<l.length):(fI l)[j]? =some (.int .i64 (l.getD j 0)):=by simp[fI,List.getD,h]
def La(L:Lays2.n26 P ρ)(p:Option Addr)(cap:Nat)(e:TypeId)(l:List ByteArray)(x:ByteArray)(hl:l.length<=1000000):Spec P (ρ.f 26) [.slice p l.length cap,.string x] [jR p cap e l] (fun v H1=>v= .tuple #[.int .i64 (bsS l x),.bool (It l x)]/\H1=[jR p cap e l]):=by
 intro w hw;have gB:(jR p cap e l).holds w:=hw.1 _ sq;have nil:l=[]->Calls P (ρ.f 26) [.slice p l.length cap,.string x].toArray w fun ee w'=>∃ v H',ee= .returned v/\(v= .tuple #[.int .i64 (bsS l x),.bool (It l x)]/\H'=[jR p cap e l])/\H'.all aB.wr=true/\XM w (ck [jR p cap e l]) H' w':=fun h=>by
  subst h;refine(Any2.slices_BinarySearch_string_empty L p cap x w).mono fun ee w' ⟨he,dP⟩=>⟨_,_,he,⟨rfl,rfl⟩,rfl,?_⟩;subst dP;exact kJ hw
 rcases qt gB with⟨rfl,rfl,hk,hx⟩ | ⟨g,cur,rfl,h1,h2,h3,h4,h5,h6⟩
 ·exact nil (List.eq_nil_of_length_eq_zero hk)
 ·refine(Any2.slices_BinarySearch_string L g 0 l.length cap (fun t=>l.getD t ByteArray.empty) x w og fun j hj=>cell_of_row gB (wS hj)).mono fun ee w' ⟨he,q,dP⟩=>⟨_,_,he,⟨rfl,rfl⟩,rfl,?_⟩;subst dP;exact(kJ hw).drawn q
def Iu{q:Nat}{e:TypeId}{ys:List Value}(h1:w.heap[g]? =some (.cells cur e (0,0)))(h2:k<=cap)(h3:cap<=maxLen)(h4:cur.size=cap)(h6:xs.length=k)(hi:i<k)(hy:ys.length=k)(ht:ys.take (k-1)=xs.eraseIdx i):Left w ((w.drewN q).setCells g 0 ys) (.slice (some ⟨g,0,none⟩) k cap) (.slice (some ⟨g,0,none⟩) (k-1) cap) e (k-1) (xs.eraseIdx i):=by
 have a0:(w.drewN q).heap[g]? =some (.cells cur e (0,0)):=h1;have a1:=er ys 0 _ _ a0;have hl:(xs.eraseIdx i).length=k-1:=by rw[List.length_eraseIdx,if_pos og,h6]
 refine⟨⟨by rw[hl];omega,.inr ⟨g,cap,_,rfl,Nat.zero_le _,a1,og,h3,by rw[iK,h4];omega,?_⟩⟩,?_,fun b hb=>.inl hb⟩
 ·rw[<-ht,Nat.mul_one];apply List.ext_getElem?;intro j;by_cases hj:j<k-1
  ·rw[List.getElem?_take_of_lt hj,List.getElem?_take_of_lt hj,Array.getElem?_toList,px _ _ _ _ og,if_pos og,Nat.sub_zero]
  ·rw[List.getElem?_take_eq_none og,List.getElem?_take_eq_none og]
 ·have k1:gy w (w.drewN q) (fun b _=>(Value.slice (some ⟨g,0,none⟩) k cap).ownBlock=some b):=⟨rfl,rfl,rfl,Nat.le_refl _,fun _ _ _=>rfl,fun _ A _ _ h=>⟨A,h,rfl,fun _ _=>rfl⟩⟩;exact k1.trans (fR (S:=fun b _=>(Value.slice (some ⟨g,0,none⟩) k cap).ownBlock=some b) (fun _=>rfl) ys 0 _ _ a0) (fun _ _ q _=>q) fun _ _ q _=>q
def Lb(L:Lays2.n23 P ρ)(p:Option Addr)(cap:Nat)(l:List Int)(i:Nat)(hi:i<l.length)(e:TypeId)(hl:l.length<=1000000):Spec P (ρ.f 23) [.slice p l.length cap,.int .i64 i,.int .i64 (i+1)] [dE p cap e l] (fun v H1=>v= .slice p (l.length-1) cap/\H1=[.row (.slice p (l.length-1) cap) e 1 (l.length-1) (fI (l.eraseIdx i))]):=by
 intro w hw;have gB:(dE p cap e l).holds w:=hw.1 _ sq;rcases qt gB with⟨rfl,rfl,hk,hx⟩ | ⟨g,cur,rfl,h1,h2,h3,h4,h5,h6⟩
 ·omega
 ·have Gk:cap<=9223372036854775807:=by simp only[maxLen]at h3;omega
  refine(Any.slices_Delete_int_cells L g 0 l.length cap i (i+1) l w (Nat.le_refl _) h2 Gk og og (fun j hj=>cell_of_row gB (Se hj)) fun j _=>iq h1 _).mono fun ee w' ⟨he,q,dP⟩=>⟨_,_,(by rw[he];congr 2;omega),⟨rfl,rfl⟩,rfl,?_⟩;subst dP;have Lc:fI (l.eraseIdx i)=(fI l).eraseIdx i:=by unfold fI;simp[List.eraseIdx_eq_take_drop_succ,List.map_take,List.map_drop]
  rw[Lc];refine Left.xm (Iu h1 h2 h3 h4 (by simp[fI]) hi ?_ ?_) hw
  ·simp;omega
  ·rw[<-Lc,List.take_length,List.eraseIdx_eq_take_drop_succ];unfold fI;rw[<-List.map_take,List.take_append_of_le_length (by simp;omega),List.take_of_length_le (by simp;omega)]
def Ec(L:Lays2.n24 P ρ)(p:Option Addr)(cap:Nat)(l:List ByteArray)(i:Nat)(hi:i<l.length)(e:TypeId)(hl:l.length<=1000000):Spec P (ρ.f 24) [.slice p l.length cap,.int .i64 i,.int .i64 (i+1)] [jR p cap e l] (fun v H1=>v= .slice p (l.length-1) cap/\H1=[.row (.slice p (l.length-1) cap) e 1 (l.length-1) (strs (l.eraseIdx i))]):=by
 intro w hw;have gB:(jR p cap e l).holds w:=hw.1 _ sq;rcases qt gB with⟨rfl,rfl,hk,hx⟩ | ⟨g,cur,rfl,h1,h2,h3,h4,h5,h6⟩
 ·omega
 ·have Gk:cap<=9223372036854775807:=by simp only[maxLen]at h3;omega
  refine(Any.slices_Delete_string_cells L g 0 l.length cap i (i+1) (fun t=>l.getD t ByteArray.empty) w h2 Gk og og (fun j hj=>cell_of_row gB (wS hj)) fun j _=>iq h1 _).mono fun ee w' ⟨he,q,dP⟩=>⟨_,_,(by rw[he];congr 2;omega),⟨rfl,rfl⟩,rfl,?_⟩;subst dP;have Lc:strs (l.eraseIdx i)=(strs l).eraseIdx i:=by unfold strs;simp[List.eraseIdx_eq_take_drop_succ,List.map_take,List.map_drop]
  have hso:(Lib.strsOf (fun t=>l.getD t ByteArray.empty) l.length).map encStr=strs l:=by
   apply List.ext_getElem?;intro j;by_cases hj:j<l.length
   ·rw[wS hj];simp[Lib.strsOf,hj,encStr]
   ·rw[List.getElem?_eq_none (by simp[Lib.strsOf];omega),List.getElem?_eq_none (by simp[strs];omega)]
  have B0:=Lib.strsOf_length (fun t=>l.getD t ByteArray.empty) l.length;generalize Lib.strsOf (fun t=>l.getD t ByteArray.empty) l.length=Z at hso B0 ⊢;rw[Lc];refine Left.xm (Iu h1 h2 h3 h4 (by simp[strs]) hi ?_ ?_) hw
  ·simp[B0];omega
  ·rw[List.eraseIdx_eq_take_drop_succ,<-hso,<-List.map_take,List.take_append_of_le_length (by simp[B0];omega),List.take_of_length_le (by simp[B0];omega)];simp[List.map_take,List.map_drop]
def O0{base:Nat}{e:TypeId}{sz n:Nat}{v:Value}(h:w.ownsRow base e sz v n xs):w.ownsRow 0 e sz v n xs:=
 ⟨h.1,h.2.imp id fun ⟨g,cap,cur,h1,_,h2⟩=>⟨g,cap,cur,h1,Nat.zero_le _,h2⟩⟩
def Gl(L:Lays2.n16 P ρ)(p:Option Addr)(cap:Nat)(e:TypeId)(l:List ByteArray)(hl:l.length<=1000000):Spec P (ρ.f 16) [.slice p l.length cap] [jR p cap e l] (fun v H1=>∃ p' cJ,v= .slice p' l.length cJ/\H1=[jR p' cJ (ρ.t 9) l,jR p cap e l]):=by
 intro w hw;have gB:(jR p cap e l).holds w:=hw.1 _ sq;rcases qt gB with⟨rfl,rfl,hk,hx⟩ | ⟨g,cur,rfl,h1,h2,h3,h4,h5,h6⟩
 ·have hn:=List.eq_nil_of_length_eq_zero hk;subst hn;refine(Any.slices_Clone_string_nil L 0 0 w).mono fun ee w' ⟨he,dP⟩=>⟨_,_,he,⟨_,_,rfl,rfl⟩,rfl,?_⟩;subst dP;exact(kJ hw).ft _ _
 ·refine(Any.slices_Clone_string L g 0 l.length cap l w (Nat.le_refl _) og fun j hj=>cell_of_row gB (wS hj)).mono fun ee w' ⟨v',he,aaF,hnn,hb⟩=> ?_;rcases aaF.2 with⟨hv,_⟩ | ⟨g2,pf,WN,rfl,hg2,bU⟩
  ·exact absurd hv hnn
  ·rw[List.take_length]at aaF;refine⟨_,_,he,⟨_,_,rfl,rfl⟩,rfl,(kJ hw).fresh (fun b o vN=>by simp only[aB.fO,Value.ownBlock,Option.some.injEq]at vN;omega) ?_ (O0 aaF)⟩;exact⟨hb.os,hb.tape,hb.output,hb.size,fun b vN _=>hb.block b vN,fun b A t fz hA=>⟨A,by rw[hb.block b (di hA)];exact hA,rfl,fun _ _=>rfl⟩⟩
end
end Go.X

namespace Go.X
open Go Go.Proofs
variable{x y:Operand}
def B1(P:Program)(t:TypeId):Bool:=match P.underlying t with
 | some (.slice e)=>(match P.underlying e with
   | some (.int .u8)=>true
   | _=>false)&&(match P.info? e with
   | some i=>Nat.beq i.size 1&&Nat.ble i.bytes 1000&&(match i.zero with
     | some (.int .u8 z)=>decide (z=0)
     | _=>false)
   | none=>false)
 | _=>false
def rn{P:Program}{t:TypeId}(h:B1 P t=true):∃ e i,P.underlying t=some (.slice e)/\P.underlying e=some (.int .u8)/\P.info? e=some i/\i.size=1/\i.bytes<=1000/\i.zero=some (.int .u8 0):=by
 unfold B1 at h;split at h
 ·rename_i e ht;simp only[Bool.and_eq_true]at h;obtain⟨h1,h2⟩:=h;split at h1
  ·rename_i he;split at h2
   ·rename_i i hi;simp only[Bool.and_eq_true]at h2;obtain⟨⟨h3,h4⟩,h5⟩:=h2;split at h5
    ·rename_i z hz;have:z=0:=of_decide_eq_true h5;subst this;exact⟨e,i,ht,he,hi,Nat.eq_of_beq_eq_true h3,Nat.le_of_ble_eq_true h4,hz⟩
    ·cases h5
   ·cases h2
  ·cases h1
 ·cases h
def bv(b:UInt8):Value:=.int .u8 (b.toNat:Int)
section
variable {P:Program} {n:Fr} {Q:Exit->Act->World->Prop} {L:PF} {ops:Md} {bU:List Oper} {ty:TypeId} {pos:String} {af:Array Edge} {d:Nat} {W:World} {S:Nat->Nat->Prop} {H H':List aB} {φ:World->Prop} {gd:Option (Nat×Bool)}
def XO.O1{t:TypeId}{kl kc:IntKind}{l:Int}(hx:ev L x=some (.int kl l))(hy:ev L y=some (.int kc l))(hl:0<=l/\l<=1000000)(ht:B1 P t=true)(hd:Nat.blt d n.sz=true)(h:∀ b,XO P n ops Q bU ((d,.slice (some ⟨b,0,none⟩) l.toNat l.toNat)::L) (XM W S (.cells b 0 l.toNat (fun _=>bv 0)::H))):XO P n ops Q (⟨some d,.makeSlice t x y,ty,pos,af,none⟩::bU) L (XM W S H):=
 XO.op rfl fun a w ha hw=>by
  obtain⟨e,i,h1,h2,h3,h4,h5,h6⟩:=rn ht;have KF:(madeCells (Value.int .u8 0).cells (l.toNat*i.size)).size=l.toNat:=by rw[size_madeCells,h4,Nat.mul_one]
  have mz:=hw.alloc (madeCells (Value.int .u8 0).cells (l.toNat*i.size)) e (fun _=>bv 0) (fun j hj=>by
   have hc:(Value.int IntKind.u8 0).cells= #[Value.int .u8 0]:=rfl
   rw[size_madeCells]at hj
   unfold madeCells
   rw[hc,Array.getElem?_map,Array.getElem?_range,if_pos hj]
   simp[bv,Nat.mod_one])
  rw[KF]at mz;have hb:(i.bytes:Int)*l<=281474976710656:=by
   have:(i.bytes:Int)*l<=1000*1000000:=Int.mul_le_mul og hl.2 hl.1 og;omega
  have hr:=run_make (P:=P) w t e i _ h1 h3 h6 kl kc l l hl.1 (Int.le_refl _) hb og;unfold Oper.wp;have:(execOp a.eval ⟨some d,.makeSlice t x y,ty,pos,af,none⟩).run P w= .ok (.value (.slice (some ⟨w.heap.size,0,none⟩) l.toNat l.toNat)) (w.alloc (.cells (madeCells (Value.int .u8 0).cells (l.toNat*i.size)) e)):=by
   simp[execOp,au ha hx,au ha hy,hr]
  rw[this];exact h _ _ _ (ha.put hd _) mz
def XO.Na{dT sT:TypeId}{b m k c o:Nat}{s:ByteArray}{C C':Nat->Value}(hx:ev L x=some (.slice (some ⟨b,o,none⟩) k c))(hy:ev L y=some (.string s))(ht:B1 P dT=true)(hk:s.size<=k)(ho:o+s.size<=m)(hH:nL H (.cells b 0 m C) (.cells b 0 m C') H')(hC:cC C o (s.data.toList.map bv)=C')(hd:Nat.blt d n.sz=true)(h:XO P n ops Q bU ((d,.int .i64 (s.size:Int))::L) (XM W S H')):XO P n ops Q (⟨some d,.call ⟨.builtin .copy,#[x,y],#[dT,sT]⟩,ty,pos,af,none⟩::bU) L (XM W S H):=
 XO.op rfl fun a w ha hw=>by
  obtain⟨e,i,h1,h2,h3,h4,h5,h6⟩:=rn ht;obtain⟨H1,hdl,hp⟩:=hH.Zm;have hlen:(s.data.toList.map bv).length=s.size:=by rw[List.length_map,<-ByteArray.size_data];simp
  obtain⟨w',hr,mz⟩:=lI (P:=P) (s.data.toList.map bv) o 0 C w (hw.b8 hdl.b8) (by rw[hlen];omega) (by
   rw[List.all_eq_true]
   intro v hv
   simp only[List.mem_map]at hv
   obtain⟨u,_,rfl⟩:=hv
   rfl)
  simp only[Nat.add_zero,Nat.zero_add]at mz hr;rw[hC]at mz;unfold Oper.wp;have WS:Nat.min s.size k=s.size:=Nat.min_eq_left hk;have htk:List.take s.size (List.map (fun b:UInt8=>Value.int IntKind.u8 (b.toNat:Int)) s.data.toList)=s.data.toList.map bv:=by
   rw[List.take_of_length_le (by rw[List.length_map,<-ByteArray.size_data];simp)];rfl
  have:(execOp a.eval ⟨some d,.call ⟨.builtin .copy,#[x,y],#[dT,sT]⟩,ty,pos,af,none⟩).run P w= .ok (.value (.int .i64 (s.size:Int))) w':=by
   simp[execOp,resolve,invoke,builtin,au ha hx,au ha hy,Builtin.copy_,run_underlying h1,Builtin.lenOf,Builtin.firstCells,sizeOf,typeInfo,h3,WS];rw[htk,hr];simp[Result.andThen,goInt]
  rw[this];exact h _ _ (ha.put hd _) (mz.b8 hp)
def O2{t:TypeId}{b m c:Nat}{kk:IntKind}{z:Int}(hx:ev L x=some (.slice (some ⟨b,0,none⟩) m c))(hy:ev L y=some (.int kk z))(ht:B1 P t=true)(hz:0<=z/\z<m/\m<=c):aZ P n L φ ⟨some d,.slice t x (some y) none none,ty,pos,af,gd⟩ (.slice (some ⟨b,z.toNat,none⟩) (m-z.toNat) (c-z.toNat)):=fun a w ha _=>by
 obtain⟨e,i,h1,h2,h3,h4,h5,h6⟩:=rn ht;obtain⟨k,rfl⟩:∃ k:Nat,z=(k:Int):=⟨z.toNat,og⟩;have hs:fb P e=some 1:=by unfold fb;rw[h3];simp[h4]
 have hk1:k<=m:=og;have Ib:¬c-k=0:=og;simp[execOp,au ha hx,au ha hy,Instr.sliceAt,run_underlying h1,Instr.slice,Instr.sliceBounds,Instr.sliceBound,asIntOf,hk1,run_sizeOf hs,Ib,Addr.add,hz.2.2];rw[if_neg og];split
 ·rename_i q;rw[q]
 ·rfl
def WT{s t:TypeId}{b m k c:Nat}{C:Nat->Value}{B:ByteArray}(hx:ev L x=some (.slice (some ⟨b,0,none⟩) k c))(hk:k=B.size)(hH:∀ w,φ w->(aB.cells b 0 m C).holds w)(hC:B.size<=m/\∀ (i:Nat) (h:i<B.size),C i=bv B[i])(hs:B1 P s=true)(ht:P.underlying t=some .string):aZ P n L φ ⟨some d,.convert s t x,ty,pos,af,gd⟩ (.string B):=fun a w ha hw=>by
 subst hk;obtain⟨e,i,h1,h2,h3,h4,h5,h6⟩:=rn hs;have hb:Go.Lib.Bytes w b 0 B:=fun j hj=>by
  have:=dX (hH w hw) (i:=j);rw[this,hC.2 j hj];rfl
 have hr:=Go.Lib.run_convert_whole (P:=P) w s e t h1 h2 ht b 0 B hb c;simp[execOp,au ha hx,hr]
end
end Go.X
