import Derived.Test.YthdinakloheinaaGreatDoorXRange
import Derived.Laws.StructEq
set_option linter.all false
namespace Go.X
open Go Go.RowKit Go.Proofs
variable{v:Value}
section
variable {P:Program} {n:Fr} {Q:Exit->Act->World->Prop} {L:PF} {W:World} {S:Nat->Nat->Prop} {H:List aG}
def Tg(tmps:Array Value):ResultVar->Sem Value
 | .tmp t=>pure (tmps.getD t undef)
 | .cell a t=>do loadVar t (<-asAddr (tmps.getD a undef))
theorem wL(fn:Func)(tmps:Array Value):results fn tmps=(do
  let vs<-fn.results.mapM (Tg tmps)
  pure (if h:vs.size=1 then vs[0]else .tuple vs)):=by
 have:Tg tmps=(fun
  | .tmp t=>pure (tmps.getD t undef)
  | .cell a t=>do loadVar t (<-asAddr (tmps.getD a undef))):=by
  funext x;cases x<;>rfl
 rw[this];rfl
def sO(P:Program)(n:Fr)(L:PF)(M:World->Prop)(r:ResultVar)(v:Value):Prop:=
 ∀ a w,qg n L a->M w->(Tg a.tmps r).run P w= .ok v w
def sO.tmp{M:World->Prop}{t:Nat}{v:Value}(h:lk L t=some v):sO P n L M (.tmp t) v:=fun a w ha _=>by
 show(pure (a.tmps.getD t undef):Sem Value).run P w=_;rw[ha.2.2 t v h];rfl
theorem sO.cell{c b o i m:Nat}{t:TypeId}{C:Nat->Value}{v:Value}(hv:lk L c=some (ay b o i))(hH:lu H (.cells b o m C))(hC:i<m/\C i=v)(ht:jU P t=true):sO P n L (XM W S H) (.cell c t) v:=fun a w ha hw=>by
 have hc:=ef (hw.fa.1 _ hH.mem) hC.1;rw[hC.2]at hc;show(do loadVar t (<-asAddr (a.tmps.getD c undef)):Sem Value).run P w=_;rw[ha.2.2 c _ hv];simp[asAddr,ay,gD ht hc]
def sO.agg{c b o i m sz:Nat}{t:TypeId}{C:Nat->Value}(hv:lk L c=some (ay b o i))(hH:lu H (.cells b o m C))(hC:i+sz<=m/\dv C i sz=v)(ht:nT P t=true)(hs:fp P t=some sz):sO P n L (XM W S H) (.cell c t) v:=fun a w ha hw=>by
 have hl:=jy (P:=P) (w:=w) (b:=b) (o:=o) (i:=i) (C:=C) ht hs fun l hl=>ef (hw.fa.1 _ hH.mem);rw[hC.2]at hl;show(do loadVar t (<-asAddr (a.tmps.getD c undef)):Sem Value).run P w=_;rw[ha.2.2 c _ hv];simp[asAddr,ay,hl]
def jz{k:Nat}{ps:List Nat}{cs:List (Nat×Nat)}{fn:Func}{R:Ending->World->Prop}{M:World->Prop}{r:ResultVar}(hr:fn.results= #[r])(h1:sO P (fr k ps cs) L M r v)(h:∀ w,M w->R (.returned v) w):XE (fr k ps cs) (bodyPost P fn R) .ret L M:=fun a w ha hw=>by
 refine⟨ha.1,v,?_,h w hw⟩;have e1:=h1 a w ha hw;rw[wL,hr];simp[e1]
def dC{k:Nat}{ps:List Nat}{cs:List (Nat×Nat)}{fn:Func}{R:Ending->World->Prop}{M:World->Prop}{r r':ResultVar}{v':Value}(hr:fn.results= #[r,r'])(h1:sO P (fr k ps cs) L M r v)(h2:sO P (fr k ps cs) L M r' v')(h:∀ w,M w->R (.returned (.tuple #[v,v'])) w):XE (fr k ps cs) (bodyPost P fn R) .ret L M:=fun a w ha hw=>by
 refine⟨ha.1,.tuple #[v,v'],?_,h w hw⟩;have e1:=h1 a w ha hw;have e2:=h2 a w ha hw;rw[wL,hr];simp[e1,e2]
def aF(v:Value):Nat->Value:=cellsOf #[v]
def aF.ld(v:Value):0<1/\aF v 0=v:=⟨og,rfl⟩
theorem aF.st(u v:Value):0<1/\dP (aF u) 0 v=aF v:=⟨og,by
 funext i
 cases i with
 | zero=>rfl
 | succ i=>simp[dP,aF,cellsOf]⟩
def G8{f:Int->Bool}{m:Nat}{z:Int}(h:0<=z/\z<m:=by omega):(PX f m)[z.toNat]? =some (.bool (f z)):=by
 have h1:z.toNat<m:=og;have h2:((z.toNat:Nat):Int)=z:=og;simp[PX,h1,h2]
end
section
variable {P:Program} {Q:Exit->Act->World->Prop} {L:PF} {n:Fr} {M:World->Prop} {ty:TypeId} {pos:String} {af:Array Edge} {d:Nat} {ops:Md} {rest:List Oper}
def YieldAt.weak{F:Fence}{m:Nat}{l:Nat}{args:Array Value}{w:World}{R R':Ending->World->Prop}(h:YieldAt F m P l args w R)(hr:∀ e w',R e w'->R' e w'):YieldAt F m P l args w R':=by
 obtain⟨fn,tmps,assign,body,h1,h2⟩:=h;exact⟨fn,tmps,assign,body,h1,h2.mono hr⟩
def nw{g:FuncId}(hc:dc P g=true):∀ args w,(callFunc g args).run P w= .ok (.enter g args) w:=fun args w=>by
 unfold dc at hc;cases hf:P.funcs[g]? with
 | none=>simp[hf]at hc
 | some fn=>
  simp only[hf,Bool.and_eq_true]at hc;obtain⟨h1,h2⟩:=hc;have h3:¬fn.name= "runtime.NumGoroutine" :=by simpa using h1
  have h4:¬fn.body=none:=by cases hb:fn.body<;>simp_all
  simp[callFunc,run_program,hf,h3,h4]
theorem Xv{w:World}{a:Addr}(h:w.cell? a=some v):a.block<w.heap.size:=by
 unfold World.cell? at h;cases ho:w.heap[a.block]? with
 | none=>simp[ho]at h
 | some o=>exact dH ho
end
end Go.X

namespace Go.X
open Go
def ji(p:Nat->Bool)(i:Nat):Nat->Bool:=fun j=>p j&& !Nat.beq j i
def Fz(p:Nat->Bool)(i:Nat):Nat->Bool:=fun j=>p j||Nat.beq j i
def BE(r:Nat->qh)(i:Nat)(x:qh):Nat->qh:=fun j=>bif Nat.beq j i then x else r j
theorem Xw{i j:Nat}(h:¬i=j):Nat.beq i j=false:=by
 cases hb:Nat.beq i j with
 | false=>rfl
 | true=>exact absurd (Nat.eq_of_beq_eq_true hb) h
def uZ(p:Nat->Bool)(i:Nat):ji p i i=false:=by simp[ji]
theorem iW{p:Nat->Bool}{i j:Nat} :ji p i j=true↔p j=true/\j≠i:=by
 simp only[ji,Bool.and_eq_true,Bool.not_eq_true',ne_eq];constructor
 ·rintro⟨h1,h2⟩;exact⟨h1,fun e=>by subst e;simp at h2⟩
 ·rintro⟨h1,h2⟩;exact⟨h1,Xw h2⟩
theorem jO{p:Nat->Bool}{i j:Nat} :Fz p i j=true↔p j=true\/j=i:=by
 simp only[Fz,Bool.or_eq_true];constructor
 ·rintro(h | h)
  ·exact .inl h
  ·exact .inr (by simpa using h)
 ·rintro(h | h)
  ·exact .inl h
  ·exact .inr (by simpa using h)
theorem ng(r:Nat->qh)(i:Nat)(x:qh):BE r i x i=x:=by simp[BE]
theorem lV(r:Nat->qh){i j:Nat}(x:qh)(h:j≠i):BE r i x j=r j:=by
 simp[BE,Xw h]
theorem FA{p:Nat->Bool}{i:Nat}(h:p i=true):Fz (ji p i) i=p:=by
 funext j;rw[Bool.eq_iff_iff,jO,iW];constructor
 ·rintro(h1 | rfl)
  ·exact h1.1
  ·exact h
 ·intro hj;by_cases c:j=i
  ·exact .inr c
  ·exact .inl ⟨hj,c⟩
abbrev qh.CA(x:qh):aG:=.row x.v x.e x.sz x.k x.xs
section
variable {W w:World} {S:Nat->Nat->Prop} {H:List aG}
def oK{p:Nat->Bool}{r:Nat->qh}(i:Nat)(hp:p i=true)(h:XM W S (.aQ p r::H) w):XM W S ((r i).CA:: .aQ (ji p i) r::H) w:=by
 obtain⟨⟨hh,pQ⟩,hk,hm⟩:=h;rw[List.pairwise_cons]at pQ;have hf:(aG.aQ p r).holds w:=hh _ sq;have ha1:∀ b o,((r i).CA).gp b o->(aG.aQ p r).gp b o:=fun b o hb=>⟨i,hp,hb⟩;have ha2:∀ b o,(aG.aQ (ji p i) r).gp b o->(aG.aQ p r).gp b o:=fun b o ⟨j,hj,hb⟩=>⟨j,(iW.1 hj).1,hb⟩;refine⟨⟨fun e he=> ?_,List.pairwise_cons.2 ⟨fun e he _ b o h1 h2=> ?_,List.pairwise_cons.2 ⟨fun e he hw b o h1 h2=>pQ.1 e he (by simp[aG.wr]) b o (ha2 b o h1) h2,pQ.2⟩⟩⟩,hk,fun e he hw b o hb=> ?_⟩
 ·rcases List.mem_cons.1 he with rfl | he
  ·exact hf.1 i hp
  ·rcases List.mem_cons.1 he with rfl | he
   ·exact⟨fun j hj=>hf.1 j (iW.1 hj).1,fun j k b hj hk=>hf.2 j k b (iW.1 hj).1 (iW.1 hk).1⟩
   ·exact hh e (List.mem_cons_of_mem _ he)
 ·rcases List.mem_cons.1 he with rfl | he
  ·obtain⟨j,hj,hb⟩:=h2;have IY:=iW.1 hj;exact hf.2 i j b hp IY.1 (Ne.symm IY.2) h1 hb
  ·exact pQ.1 e he (by simp[aG.wr]) b o (ha1 b o h1) h2
 ·rcases List.mem_cons.1 he with rfl | he
  ·exact hm _ sq rfl b o (ha1 b o hb)
  ·rcases List.mem_cons.1 he with rfl | he
   ·exact hm _ sq rfl b o (ha2 b o hb)
   ·exact hm e (List.mem_cons_of_mem _ he) hw b o hb
def qG{p:Nat->Bool}{r:Nat->qh}(i:Nat){x:qh}(hp:p i=false)(h:XM W S (x.CA:: .aQ p r::H) w):XM W S (.aQ (Fz p i) (BE r i x)::H) w:=by
 obtain⟨⟨hh,pQ⟩,hk,hm⟩:=h;rw[List.pairwise_cons,List.pairwise_cons]at pQ;obtain⟨hx,Sq,PN⟩:=pQ;have hf:(aG.aQ p r).holds w:=hh _ sq;have gY:∀ j,p j=true->j≠i:=fun j hj e=>by subst e;rw[hp]at hj;cases hj
 have har:∀ b o,(aG.aQ (Fz p i) (BE r i x)).gp b o->x.CA.gp b o\/(aG.aQ p r).gp b o:=fun b o ⟨j,hj,hb⟩=>by
  rcases jO.1 hj with h1 | rfl
  ·rw[lV _ _ (gY j h1)]at hb;exact .inr ⟨j,h1,hb⟩
  ·rw[ng]at hb;exact .inl hb
 refine⟨⟨fun e he=> ?_,List.pairwise_cons.2 ⟨fun e he _ b o h1 h2=> ?_,PN⟩⟩,hk,fun e he hw b o hb=> ?_⟩
 ·rcases List.mem_cons.1 he with rfl | he
  ·refine⟨fun j hj=> ?_,fun j k b hj BV hjk h1 h2=> ?_⟩
   ·rcases jO.1 hj with h1 | rfl
    ·rw[lV _ _ (gY j h1)];exact hf.1 j h1
    ·rw[ng];exact hh x.CA sq
   ·have hxf:∀ l,p l=true->x.v.ownBlock=some b->(r l).v.ownBlock=some b->False:=fun l hl e1 e2=>hx (.aQ p r) sq (by simp[aG.wr]) b 0 e1 ⟨l,hl,e2⟩;rcases jO.1 hj with q1 | rfl
    ·rw[lV _ _ (gY j q1)]at h1;rcases jO.1 BV with q2 | rfl
     ·rw[lV _ _ (gY k q2)]at h2;exact hf.2 j k b q1 q2 hjk h1 h2
     ·rw[ng]at h2;exact hxf j q1 h2 h1
    ·rw[ng]at h1;rcases jO.1 BV with q2 | rfl
     ·rw[lV _ _ (gY k q2)]at h2;exact hxf k q2 h1 h2
     ·exact hjk rfl
  ·exact hh e (by simp[he])
 ·rcases har b o h1 with h3 | h3
  ·exact hx e (by simp[he]) (by simp[aG.wr]) b o h3 h2
  ·exact Sq e he (by simp[aG.wr]) b o h3 h2
 ·rcases List.mem_cons.1 he with rfl | he
  ·rcases har b o hb with h3 | h3
   ·exact hm x.CA sq rfl b o h3
   ·exact hm _ sq rfl b o h3
  ·exact hm e (by simp[he]) hw b o hb
theorem XM.part{b o n off m:Nat}{C:Nat->Value}(hn:off+m<=n)(h:XM W S (.cells b o n C::H) w):XM W S (.cells b (o+off) m (fun i=>C (off+i)):: .cells b o off C:: .cells b (o+off+m) (n-off-m) (fun i=>C (off+m+i))::H) w:=by
 obtain⟨⟨hh,pQ⟩,hk,hm⟩:=h;rw[List.pairwise_cons]at pQ;obtain⟨A,t,lo,hi,h1,h2⟩:=hh (.cells b o n C) sq;have sub:∀ (o' n':Nat) (C':Nat->Value),o<=o'->o'+n'<=o+n->∀ b' i,(aG.cells b o' n' C').gp b' i->(aG.cells b o n C).gp b' i:=fun o' n' C' h3 h4 b' i ⟨e1,e2,e3⟩=>⟨e1,og,og⟩;have s1:=sub (o+off) m (fun i=>C (off+i)) og og;have s2:=sub o off C og og;have s3:=sub (o+off+m) (n-off-m) (fun i=>C (off+m+i)) og og;refine⟨⟨fun e he=> ?_,?_⟩,hk,fun e he hw b' i hb=> ?_⟩
 ·simp only[List.mem_cons]at he;rcases he with rfl | rfl | rfl | he
  ·refine⟨A,t,lo,hi,h1,fun i IA=> ?_⟩;have:=h2 (off+i) og;rw[show o+off+i=o+(off+i)from og];exact this
  ·exact⟨A,t,lo,hi,h1,fun i IA=>h2 i og⟩
  ·refine⟨A,t,lo,hi,h1,fun i IA=> ?_⟩;have:=h2 (off+m+i) og;rw[show o+off+m+i=o+(off+m+i)from og];exact this
  ·exact hh e (by simp[he])
 ·refine List.pairwise_cons.2 ⟨fun e he _ b' i h3 h4=> ?_,List.pairwise_cons.2 ⟨fun e he _ b' i h3 h4=> ?_,List.pairwise_cons.2 ⟨fun e he _ b' i h3 h4=>pQ.1 e he (by simp[aG.wr]) b' i (s3 b' i h3) h4,pQ.2⟩⟩⟩
  ·simp only[List.mem_cons]at he;rcases he with rfl | rfl | he
   ·obtain⟨_,a1,a2⟩:=h3;obtain⟨_,a3,a4⟩:=h4;omega
   ·obtain⟨_,a1,a2⟩:=h3;obtain⟨_,a3,a4⟩:=h4;omega
   ·exact pQ.1 e he (by simp[aG.wr]) b' i (s1 b' i h3) h4
  ·simp only[List.mem_cons]at he;rcases he with rfl | he
   ·obtain⟨_,a1,a2⟩:=h3;obtain⟨_,a3,a4⟩:=h4;omega
   ·exact pQ.1 e he (by simp[aG.wr]) b' i (s2 b' i h3) h4
 ·simp only[List.mem_cons]at he;rcases he with rfl | rfl | rfl | he
  ·exact hm (.cells b o n C) sq rfl b' i (s1 b' i hb)
  ·exact hm (.cells b o n C) sq rfl b' i (s2 b' i hb)
  ·exact hm (.cells b o n C) sq rfl b' i (s3 b' i hb)
  ·exact hm e (by simp[he]) hw b' i hb
def XM.BF{b o n off m:Nat}{C C1 C2 C3:Nat->Value}(hn:off+m<=n)(e1:∀ i,i<off->C i=C1 i)(e2:∀ i,i<m->C (off+i)=C2 i)(e3:∀ i,i<n-off-m->C (off+m+i)=C3 i)(h:XM W S (.cells b (o+off) m C2:: .cells b o off C1:: .cells b (o+off+m) (n-off-m) C3::H) w)(hm0:0<m):XM W S (.cells b o n C::H) w:=by
 obtain⟨⟨hh,pQ⟩,hk,hm⟩:=h;simp only[List.pairwise_cons]at pQ;obtain⟨p1,p2,p3,p4⟩:=pQ;obtain⟨A,t,lo,hi,h1,h2⟩:=hh (.cells b (o+off) m C2) sq;obtain⟨A',t',lo',IA,h1',h2'⟩:=hh (.cells b o off C1) sq;obtain⟨A'',t'',akF,akG,abo,ahb⟩:=hh (.cells b (o+off+m) (n-off-m) C3) sq;rw[h1]at h1' abo;simp only[Option.some.injEq,Obj.cells.injEq,Prod.mk.injEq]at h1' abo;obtain⟨rfl,rfl,rfl,rfl⟩:=h1';obtain⟨rfl,rfl,rfl,rfl⟩:=abo;have cut:∀ b' i,(aG.cells b o n C).gp b' i->(aG.cells b (o+off) m C2).gp b' i\/(aG.cells b o off C1).gp b' i\/(aG.cells b (o+off+m) (n-off-m) C3).gp b' i:=fun b' i ⟨q1,q2,q3⟩=>by
  by_cases c1:i<o+off
  ·exact .inr (.inl ⟨q1,q2,c1⟩)
  ·by_cases c2:i<o+off+m
   ·exact .inl ⟨q1,og,c2⟩
   ·exact .inr (.inr ⟨q1,og,og⟩)
 refine⟨⟨fun e he=> ?_,List.pairwise_cons.2 ⟨fun e he _ b' i h3 h4=> ?_,p4⟩⟩,hk,fun e he hw b' i hb=> ?_⟩
 ·rcases List.mem_cons.1 he with rfl | he
  ·refine⟨A,t,lo,hi,h1,fun i P3=> ?_⟩;by_cases c1:i<off
   ·rw[e1 i c1];exact h2' i c1
   ·by_cases c2:i<off+m
    ·have:=h2 (i-off) og;have e:=e2 (i-off) og;rw[show off+(i-off)=i from og]at e;rw[show o+off+(i-off)=o+i from og]at this;rw[e];exact this
    ·have:=ahb (i-off-m) og;have e:=e3 (i-off-m) og;rw[show off+m+(i-off-m)=i from og]at e;rw[show o+off+m+(i-off-m)=o+i from og]at this;rw[e];exact this
  ·exact hh e (by simp[he])
 ·rcases cut b' i h3 with h | h | h
  ·exact p1 e (by simp[he]) (by simp[aG.wr]) b' i h h4
  ·exact p2 e (by simp[he]) (by simp[aG.wr]) b' i h h4
  ·exact p3 e he (by simp[aG.wr]) b' i h h4
 ·rcases List.mem_cons.1 he with rfl | he
  ·rcases cut b' i hb with h | h | h
   ·exact hm _ sq rfl b' i h
   ·exact hm (.cells b o off C1) sq rfl b' i h
   ·exact hm (.cells b (o+off+m) (n-off-m) C3) sq rfl b' i h
  ·exact hm e (by simp[he]) hw b' i hb
def I7(C:Nat->Nat->Value)(i:Nat)(x:Nat->Value):Nat->Nat->Value:=fun j=>bif Nat.beq j i then x else C j
def I8(g:Nat->Nat)(i b:Nat):Nat->Nat:=fun j=>bif Nat.beq j i then b else g j
theorem G9(C:Nat->Nat->Value)(i:Nat)(x:Nat->Value):I7 C i x i=x:=by simp[I7]
theorem Ha(C:Nat->Nat->Value){i j:Nat}(x:Nat->Value)(h:j≠i):I7 C i x j=C j:=by simp[I7,Xw h]
theorem u5(g:Nat->Nat)(i b:Nat):I8 g i b i=b:=by simp[I8]
theorem rO(g:Nat->Nat){i j:Nat}(b:Nat)(h:j≠i):I8 g i b j=g j:=by simp[I8,Xw h]
def CB{p:Nat->Bool}{g:Nat->Nat}{n:Nat}{C:Nat->Nat->Value}(i:Nat)(hp:p i=true)(h:XM W S (.dG p g n C::H) w):XM W S (.cells (g i) 0 n (C i):: .dG (ji p i) g n C::H) w:=by
 obtain⟨⟨hh,pQ⟩,hk,hm⟩:=h;rw[List.pairwise_cons]at pQ;have hf:(aG.dG p g n C).holds w:=hh _ sq;have ha1:∀ b o,(aG.cells (g i) 0 n (C i)).gp b o->(aG.dG p g n C).gp b o:=fun b o ⟨e1,e2,e3⟩=>⟨i,hp,e1,og⟩;have ha2:∀ b o,(aG.dG (ji p i) g n C).gp b o->(aG.dG p g n C).gp b o:=fun b o ⟨j,hj,hb⟩=>⟨j,(iW.1 hj).1,hb⟩;refine⟨⟨fun e he=> ?_,List.pairwise_cons.2 ⟨fun e he _ b o h1 h2=> ?_,List.pairwise_cons.2 ⟨fun e he hw b o h1 h2=>pQ.1 e he (by simp[aG.wr]) b o (ha2 b o h1) h2,pQ.2⟩⟩⟩,hk,fun e he hw b o hb=> ?_⟩
 ·rcases List.mem_cons.1 he with rfl | he
  ·obtain⟨A,t,lo,hi,h1,h2⟩:=hf.1 i hp;exact⟨A,t,lo,hi,h1,fun j hj=>by rw[Nat.zero_add];exact h2 j hj⟩
  ·rcases List.mem_cons.1 he with rfl | he
   ·exact⟨fun j hj=>hf.1 j (iW.1 hj).1,fun j k hj hk=>hf.2 j k (iW.1 hj).1 (iW.1 hk).1⟩
   ·exact hh e (List.mem_cons_of_mem _ he)
 ·rcases List.mem_cons.1 he with rfl | he
  ·obtain⟨j,hj,hb,_⟩:=h2;have IY:=iW.1 hj;exact hf.2 i j hp IY.1 (Ne.symm IY.2) (h1.1.symm.trans hb)
  ·exact pQ.1 e he (by simp[aG.wr]) b o (ha1 b o h1) h2
 ·rcases List.mem_cons.1 he with rfl | he
  ·exact hm _ sq rfl b o (ha1 b o hb)
  ·rcases List.mem_cons.1 he with rfl | he
   ·exact hm (.dG p g n C) sq rfl b o (ha2 b o hb)
   ·exact hm e (List.mem_cons_of_mem _ he) hw b o hb
def FB{p:Nat->Bool}{g:Nat->Nat}{n b0:Nat}{C:Nat->Nat->Value}{x:Nat->Value}(i:Nat)(hn:0<n)(hp:p i=false)(h:XM W S (.cells b0 0 n x:: .dG p g n C::H) w):XM W S (.dG (Fz p i) (I8 g i b0) n (I7 C i x)::H) w:=by
 obtain⟨⟨hh,pQ⟩,hk,hm⟩:=h;rw[List.pairwise_cons,List.pairwise_cons]at pQ;obtain⟨hx,Sq,PN⟩:=pQ;have hf:(aG.dG p g n C).holds w:=hh _ sq;have hc:(aG.cells b0 0 n x).holds w:=hh _ sq;have gY:∀ j,p j=true->j≠i:=fun j hj e=>by subst e;rw[hp]at hj;cases hj
 have hxb:∀ j,p j=true->g j≠b0:=fun j hj e=>hx (.dG p g n C) sq (by simp[aG.wr]) b0 0 ⟨rfl,og,og⟩ ⟨j,hj,e.symm,hn⟩;have har:∀ b o,(aG.dG (Fz p i) (I8 g i b0) n (I7 C i x)).gp b o->(aG.cells b0 0 n x).gp b o\/(aG.dG p g n C).gp b o:=fun b o ⟨j,hj,hb,ho⟩=>by
  rcases jO.1 hj with h1 | rfl
  ·rw[rO _ _ (gY j h1)]at hb;exact .inr ⟨j,h1,hb,ho⟩
  ·rw[u5]at hb;exact .inl ⟨hb,og,og⟩
 refine⟨⟨fun e he=> ?_,List.pairwise_cons.2 ⟨fun e he _ b o h1 h2=> ?_,PN⟩⟩,hk,fun e he hw b o hb=> ?_⟩
 ·rcases List.mem_cons.1 he with rfl | he
  ·refine⟨fun j hj=> ?_,fun j k hj BV hjk=> ?_⟩
   ·rcases jO.1 hj with h1 | rfl
    ·rw[rO _ _ (gY j h1),Ha _ _ (gY j h1)];exact hf.1 j h1
    ·rw[u5,G9];obtain⟨A,t,lo,hi,h1,h2⟩:=hc;exact⟨A,t,lo,hi,h1,fun m W2=>by have:=h2 m W2;rwa[Nat.zero_add]at this⟩
   ·rcases jO.1 hj with q1 | rfl
    ·rw[rO _ _ (gY j q1)];rcases jO.1 BV with q2 | rfl
     ·rw[rO _ _ (gY k q2)];exact hf.2 j k q1 q2 hjk
     ·rw[u5];exact hxb j q1
    ·rw[u5];rcases jO.1 BV with q2 | rfl
     ·rw[rO _ _ (gY k q2)];exact fun e=>hxb k q2 e.symm
     ·exact absurd rfl hjk
  ·exact hh e (by simp[he])
 ·rcases har b o h1 with h3 | h3
  ·exact hx e (by simp[he]) (by simp[aG.wr]) b o h3 h2
  ·exact Sq e he (by simp[aG.wr]) b o h3 h2
 ·rcases List.mem_cons.1 he with rfl | he
  ·rcases har b o hb with h3 | h3
   ·exact hm (.cells b0 0 n x) sq rfl b o h3
   ·exact hm _ sq rfl b o h3
  ·exact hm e (by simp[he]) hw b o hb
def CC{g:Nat->Nat}{n:Nat}{C:Nat->Nat->Value}(h:XM W S H w):XM W S (.dG (fun _=>false) g n C::H) w:=by
 obtain⟨⟨hh,pQ⟩,hk,hm⟩:=h;refine⟨⟨fun e he=> ?_,List.pairwise_cons.2 ⟨fun e _ _ b o h1 _=> ?_,pQ⟩⟩,hk,fun e he hw b o hb=> ?_⟩
 ·rcases List.mem_cons.1 he with rfl | he
  ·exact⟨fun i hi=>(by cases hi),fun i j hi=>(by cases hi)⟩
  ·exact hh e he
 ·obtain⟨i,hi,_⟩:=h1;cases hi
 ·rcases List.mem_cons.1 he with rfl | he
  ·obtain⟨i,hi,_⟩:=hb;cases hi
  ·exact hm e he hw b o hb
def FD{r:Nat->qh}(h:XM W S H w):XM W S (.aQ (fun _=>false) r::H) w:=by
 obtain⟨⟨hh,pQ⟩,hk,hm⟩:=h;refine⟨⟨fun e he=> ?_,List.pairwise_cons.2 ⟨fun e _ _ b o h1 _=> ?_,pQ⟩⟩,hk,fun e he hw b o hb=> ?_⟩
 ·rcases List.mem_cons.1 he with rfl | he
  ·exact⟨fun i hi=>(by cases hi),fun i j b hi=>(by cases hi)⟩
  ·exact hh e he
 ·obtain⟨i,hi,_⟩:=h1;cases hi
 ·rcases List.mem_cons.1 he with rfl | he
  ·obtain⟨i,hi,_⟩:=hb;cases hi
  ·exact hm e he hw b o hb
end
end Go.X

namespace Go.X
open Go
variable{s:ByteArray}{op:Op}{x y:Operand}
inductive SV where
 | int (k:IntKind) (z:Int)
 | str (s:ByteArray)
 | ay (b o i:Nat)
 | nil
 | err (T:TypeId) (e:Int)
 | ifc (T:TypeId) (v:Value)
 | pn
 | tt
 | ff
 | NZ (p:Prop) [inst:Decidable p]
 | bool (b:Bool)
 | slc (p:Option Addr) (n c:Nat)
 | un
 | val (v:Value)
def aR:SV->Value
 | .int k z=>.int k z
 | .str s=>.string s
 | .ay b o i=>Go.X.ay b o i
 | .nil=>.nilIface
 | .err T e=>ax T e
 | .ifc T v=>.iface T v
 | .pn=>.pointer none
 | .tt=>.bool true
 | .ff=>.bool false
 | @SV.NZ p i=>.bool (@decide p i)
 | .bool b=>.bool b
 | .slc p n c=>.slice p n c
 | .un=>undef
 | .val v=>v
def bI:List SV->List Value
 | []=>[]
 | s::r=>(aR s)::bI r
inductive SW where
 | one (s:SV)
 | tup (l:List SV)
def aS:SW->Value
 | .one s=>(aR s)
 | .tup l=>.tuple (bI l).toArray
abbrev SF:=List (Nat×SW)
def dn:SF->PF
 | []=>[]
 | (i,s)::r=>(i,(aS s))::dn r
def sk:SF->Nat->Option SW
 | [],_=>none
 | (i,s)::r,j=>match Nat.beq i j with
  | true=>some s
  | false=>sk r j
theorem AZ:∀ {L:SF} {j:Nat} {s:SW},sk L j=some s->lk (dn L) j=some (aS s)
 | [],_,_,h=>by simp[sk]at h
 | (i,t)::r,j,s,h=>by
  simp only[sk]at h;simp only[dn,lk];cases hb:Nat.beq i j with
  | true=>simp only[hb,Option.some.injEq]at h;subst h;rfl
  | false=>simp only[hb]at h;exact AZ h
def bN:Value->SV
 | .int k z=>.int k z
 | .string s=>.str s
 | .nilIface=>.nil
 | .pointer none=>.pn
 | .bool true=>.tt
 | .bool false=>.ff
 | .slice p n c=>.slc p n c
 | v=>.val v
def Xx(v:Value):aR (bN v)=v:=by
 unfold bN;split<;>rfl
def sv(L:SF):Operand->Option SW
 | .tmp t=>sk L t
 | .const v=>some (.one (bN v))
 | .global g=>some (.one (.val (.pointer (some ⟨g,0,none⟩))))
 | .func f=>some (.one (.val (.func (.func f) #[] #[])))
theorem dh{L:SF}{s:SW}(h:sv L x=some s):ev (dn L) x=some (aS s):=by
 cases x with
 | tmp t=>exact AZ h
 | const v=>simp only[sv,Option.some.injEq]at h;subst h;exact congrArg some (Xx v).symm
 | global g=>simp only[sv,Option.some.injEq]at h;subst h;rfl
 | func f=>simp only[sv,Option.some.injEq]at h;subst h;rfl
inductive BT where
 | lf
 | nd (k:Nat) (vs:List Nat) (l r:BT)
def BT.nth:List Nat->Nat->Option Nat
 | [],_=>none
 | v::_,0=>some v
 | _::r,j+1=>BT.nth r j
def BT.get:BT->Nat->Option Nat
 | .lf,_=>none
 | .nd k vs l r,j=>match Nat.blt j k with
  | true=>l.get j
  | false=>match BT.nth vs (Nat.sub j k)with
   | some v=>some v
   | none=>r.get j
def BT.fM(f:Nat->Nat->Bool):Nat->List Nat->Bool
 | _,[]=>true
 | k,v::r=>f k v&&BT.fM f (k+1) r
def BT.all(f:Nat->Nat->Bool):BT->Bool
 | .lf=>true
 | .nd k vs l r=>BT.fM f k vs&&l.all f&&r.all f
def A1{f:Nat->Nat->Bool} :∀ {vs:List Nat} {k i v:Nat},BT.fM f k vs=true->BT.nth vs i=some v->f (k+i) v=true
 | [],_,_,_,_,h=>by simp[BT.nth]at h
 | u::r,k,0,v,ha,h=>by
  simp only[BT.nth,Option.some.injEq]at h;subst h;simp only[BT.fM,Bool.and_eq_true]at ha;exact ha.1
 | u::r,k,i+1,v,ha,h=>by
  simp only[BT.nth]at h;simp only[BT.fM,Bool.and_eq_true]at ha;have:=A1 ha.2 h;rwa[Nat.add_right_comm]at this
def jj{f:Nat->Nat->Bool} :∀ {t:BT} {j v:Nat},t.all f=true->t.get j=some v->f j v=true
 | .lf,_,_,_,h=>by simp[BT.get]at h
 | .nd k vs l r,j,v,ha,h=>by
  simp only[BT.all,Bool.and_eq_true]at ha;simp only[BT.get]at h;cases hc:Nat.blt j k with
  | true=>simp only[hc]at h;exact jj ha.1.2 h
  | false=>
   simp only[hc]at h;cases hn:BT.nth vs (Nat.sub j k)with
   | none=>simp only[hn]at h;exact jj ha.2 h
   | some u=>
    simp only[hn,Option.some.injEq]at h;subst h;have h1:=A1 ha.1.1 hn;have h2:¬j<k:=fun q=>by rw[show Nat.blt j k=true from Nat.ble_eq_true_of_le q]at hc;cases hc
    rwa[show k+Nat.sub j k=j from by show k+(j-k)=j;omega]at h1
structure I9 where
 fo:BT
 un:BT
 sz:BT
 an:BT
 asz:BT
 sl:BT
 fn:BT
def tH(P:Program)(t c:Nat):Bool:=match P.underlying t with
 | some (.interface _)=>Nat.beq c 1
 | some (.pointer _)=>Nat.beq c 2
 | some .string=>Nat.beq c 3
 | some (.slice _)=>Nat.beq c 4
 | some .bool=>Nat.beq c 5
 | some (.struct _)=>Nat.beq c 7
 | some (.array _ _)=>Nat.beq c 7
 | some _=>Nat.beq c 6
 | none=>false
def I9.ok(P:Program)(t:I9):Bool:=t.fo.all (fun k v=>match eK P (k/64) (k%64)with
 | some u=>Nat.beq u v
 | none=>false)&&t.un.all (tH P)&&t.sz.all (fun k v=>match fp P k with
 | some u=>Nat.beq u v
 | none=>false)&&t.an.all (fun k v=>match vP P k with
 | some u=>Nat.beq u.1 v
 | none=>false)&&t.asz.all (fun k v=>match vP P k with
 | some u=>Nat.beq u.2 v
 | none=>false)&&t.sl.all (fun k v=>match uW P k with
 | some u=>Nat.beq u.2 v
 | none=>false)&&t.fn.all fun k _=>dc P k
class Tb (P:Program) where
 t:I9
 ok:t.ok P=true
def Tb.fo{P:Program}[h:Tb P]{s f k:Nat}(hf:f<64)(hk:h.t.fo.get (s*64+f)=some k):eK P s f=some k:=by
 have h1:=h.ok;simp only[I9.ok,Bool.and_eq_true]at h1;have h2:=jj h1.1.1.1.1.1.1 hk;rw[show(s*64+f)/64=s from og,show(s*64+f)%64=f from og]at h2;cases hx:eK P s f with
 | none=>simp[hx]at h2
 | some u=>simp only[hx]at h2;rw[Nat.eq_of_beq_eq_true h2]
theorem Tb.un{P:Program}[h:Tb P]{t c:Nat}(hk:h.t.un.get t=some c):tH P t c=true:=by
 have h1:=h.ok;simp only[I9.ok,Bool.and_eq_true]at h1;exact jj h1.1.1.1.1.1.2 hk
theorem Tb.sz{P:Program}[h:Tb P]{t c:Nat}(hk:h.t.sz.get t=some c):fp P t=some c:=by
 have h1:=h.ok;simp only[I9.ok,Bool.and_eq_true]at h1;have h2:=jj h1.1.1.1.1.2 hk;cases hx:fp P t with
 | none=>simp[hx]at h2
 | some u=>simp only[hx]at h2;rw[Nat.eq_of_beq_eq_true h2]
def Tb.ar{P:Program}[h:Tb P]{t c s:Nat}(hk:h.t.an.get t=some c)(hs:h.t.asz.get t=some s):vP P t=some (c,s):=by
 have h1:=h.ok;simp only[I9.ok,Bool.and_eq_true]at h1;have h2:=jj h1.1.1.1.2 hk;have h3:=jj h1.1.1.2 hs;cases hx:vP P t with
 | none=>simp[hx]at h2
 | some u=>simp only[hx]at h2 h3;rw[<-Nat.eq_of_beq_eq_true h2,<-Nat.eq_of_beq_eq_true h3]
def Tb.sl{P:Program}[h:Tb P]{t c:Nat}(hk:h.t.sl.get t=some c):∃ e,uW P t=some (e,c):=by
 have h1:=h.ok;simp only[I9.ok,Bool.and_eq_true]at h1;have h2:=jj h1.1.2 hk;cases hx:uW P t with
 | none=>simp[hx]at h2
 | some u=>simp only[hx]at h2;exact⟨u.1,by rw[<-Nat.eq_of_beq_eq_true h2]⟩
def Tb.fn{P:Program}[h:Tb P]{t c:Nat}(hk:h.t.fn.get t=some c):dc P t=true:=by
 have h1:=h.ok;simp only[I9.ok,Bool.and_eq_true]at h1;exact jj h1.2 hk
def Xy{P:Program}{t c:Nat}(h:tH P t c=true)(hc:Nat.blt c 7=true):jU P t=true:=by
 unfold tH at h;unfold jU;split at h<;>first | (rename_i e;rw[e];done) | skip
 all_goals first | (have:=Nat.eq_of_beq_eq_true h;subst this;simp at hc;done) | skip
 all_goals first | (rename_i e;rw[e];split<;>simp_all;done) | (simp_all;done)
def LQ{P:Program}{t:Nat}(h:tH P t 7=true):nT P t=true:=by
 unfold tH at h;unfold nT;split at h<;>first | (rename_i e;rw[e];done) | (simp at h;done)
def un1{P:Program}{t:Nat}(h:tH P t 1=true):∃ ms,P.underlying t=some (.interface ms):=by
 unfold tH at h;split at h<;>first | exact⟨_,aq⟩ | cases h
def un2{P:Program}{t:Nat}(h:tH P t 2=true):∃ e,P.underlying t=some (.pointer e):=by
 unfold tH at h;split at h<;>first | exact⟨_,aq⟩ | cases h
def un3{P:Program}{t:Nat}(h:tH P t 3=true):P.underlying t=some .string:=by
 unfold tH at h;split at h<;>first | assumption | cases h
def un4{P:Program}{t:Nat}(h:tH P t 4=true):∃ e,P.underlying t=some (.slice e):=by
 unfold tH at h;split at h<;>first | exact⟨_,aq⟩ | cases h
def unV{P:Program}{t c:Nat}(h:tH P t c=true)(hc:Nat.beq c 1=false):∃ ds,P.underlying t=some ds/\∀ ms,ds≠ .interface ms:=by
 cases hu:P.underlying t with
 | none=>simp[tH,hu]at h
 | some ds=>
  refine⟨ds,rfl,fun ms e=> ?_⟩;subst e;simp only[tH,hu]at h;rw[hc]at h;cases h
def Th:List SV->Nat->Option SW
 | [],_=>none
 | s::_,0=>some (.one s)
 | _::r,k+1=>Th r k
def Ja:∀ {l:List SV} {k:Nat} {s:SW},Th l k=some s->LH (bI l) k=some (aS s)
 | [],_,_,h=>by simp[Th]at h
 | _::_,0,_,h=>by simp only[Th,Option.some.injEq]at h;subst h;rfl
 | _::r,k+1,_,h=>Ja (l:=r) h
def aeO(a b:Int):BinOp->Option SW
 | .eql=>some (.one (.NZ (a=b)))
 | .neq=>some (.one (.NZ (a≠b)))
 | .lss=>some (.one (.NZ (a<b)))
 | .leq=>some (.one (.NZ (a<=b)))
 | .gtr=>some (.one (.NZ (a>b)))
 | .geq=>some (.one (.NZ (a>=b)))
 | _=>none
def aeP(a b:ByteArray):BinOp->Option SW
 | .eql=>some (.one (.NZ (a=b)))
 | .neq=>some (.one (.NZ (a≠b)))
 | .lss=>some (.one (.bool (Op.bytesLess a.toList b.toList)))
 | _=>none
def ES(T:I9)(t c:Nat)(r:SV)(r':SV):BinOp->Option SW
 | .eql=>match T.un.get t with
  | some d=>match Nat.beq d c with
   | true=>some (.one r)
   | false=>none
  | none=>none
 | .neq=>match T.un.get t with
  | some d=>match Nat.beq d c with
   | true=>some (.one r')
   | false=>none
  | none=>none
 | _=>none
def zB:Operand->Bool
 | .const .nilIface=>true
 | _=>false
def N0:Operand->Bool
 | .const (.pointer none)=>true
 | _=>false
def Ti(T:I9)(L:SF)(op:BinOp)(t:TypeId)(x y:Operand):Option SW:=match sv L x with
 | some (.one (.int k a))=>match sv L y with
  | some (.one (.int k' b))=>match decEq k k' with
   | .isTrue _=>aeO a b op
   | .isFalse _=>none
  | _=>none
 | some (.one (.str a))=>match sv L y with
  | some (.one (.str b))=>aeP a b op
  | _=>none
 | some (.one (.err _ e))=>match zB y with
  | true=>ES T t 1 (.NZ (e=0)) (.NZ (e≠0)) op
  | false=>none
 | some (.one .nil)=>match zB y with
  | true=>ES T t 1 .tt .ff op
  | false=>none
 | some (.one (.ifc _ _))=>match zB y with
  | true=>ES T t 1 .ff .tt op
  | false=>none
 | some (.one (.ay _ _ _))=>match N0 y with
  | true=>ES T t 2 .ff .tt op
  | false=>none
 | some (.one .pn)=>match N0 y with
  | true=>ES T t 2 .tt .ff op
  | false=>none
 | _=>none
def Tj(T:I9)(L:SF)(b:Builtin)(xs:Array Operand)(ts:Array TypeId):Option SW:=match b with
 | .len=>match xs.toList with
  | [x]=>match ts.toList with
   | [t]=>match T.un.get t with
    | some c=>match sv L x with
     | some (.one (.str s))=>match Nat.beq c 3 with
      | true=>some (.one (.int .i64 s.size))
      | false=>none
     | some (.one (.slc _ n _))=>match Nat.beq c 4 with
      | true=>some (.one (.int .i64 n))
      | false=>none
     | _=>none
    | none=>none
   | _=>none
  | _=>none
 | .min=>match xs.toList with
  | [x,y]=>match ts.toList with
   | [_,_]=>match sv L x with
    | some (.one (.int k a))=>match sv L y with
     | some (.one (.int k' b))=>match decEq k k' with
      | .isTrue _=>some (.one (.int k (min a b)))
      | .isFalse _=>none
     | _=>none
    | _=>none
   | _=>none
  | _=>none
 | .max=>match xs.toList with
  | [x,y]=>match ts.toList with
   | [_,_]=>match sv L x with
    | some (.one (.int k a))=>match sv L y with
     | some (.one (.int k' b))=>match decEq k k' with
      | .isTrue _=>some (.one (.int k (max a b)))
      | .isFalse _=>none
     | _=>none
    | _=>none
   | _=>none
  | _=>none
 | _=>none
def aam:SW->Option SW
 | .one .tt=>some (.one .ff)
 | .one .ff=>some (.one .tt)
 | .one (@SV.NZ p _)=>some (.one (.NZ (¬p)))
 | .one (.bool b)=>some (.one (.bool (!b)))
 | _=>none
def aan(u v:SW):SW->Option SW
 | .one .tt=>some u
 | .one .ff=>some v
 | _=>none
def Tl(T:I9)(L:SF):Op->Option SW
 | .move x=>sv L x
 | .assign x=>sv L x
 | .pick c x y=>match sv L x with
  | some u=>match sv L y with
   | some v=>match sv L c with
    | some t=>aan u v t
    | none=>none
   | none=>none
  | none=>none
 | .nilCheck x=>match sv L x with
  | some (.one (.ay b o i))=>some (.one (.ay b o i))
  | _=>none
 | .extract x k=>match sv L x with
  | some (.tup l)=>Th l k
  | _=>none
 | .fieldAddr s x f=>match sv L x with
  | some (.one (.ay b o i))=>match Nat.blt f 64 with
   | true=>match T.fo.get (s*64+f)with
    | some k=>some (.one (.ay b o (i+k)))
    | none=>none
   | false=>none
  | _=>none
 | .binOp op t x y _=>Ti T L op t x y
 | .unOp op _ x=>match op with
  | .not=>match sv L x with
   | some s=>aam s
   | none=>none
  | _=>none
 | .makeInterface t x=>match sv L x with
  | some (.one s)=>match T.un.get t with
   | some c=>match Nat.beq c 1 with
    | true=>none
    | false=>some (.one (.ifc t (aR s)))
   | none=>none
  | _=>none
 | .call c=>match c with
  | ⟨.builtin b,xs,ts⟩=>Tj T L b xs ts
  | _=>none
 | _=>none
def abq(s:ByteArray):Option SW->Option SW->Option (Prop×SW)
 | some (.one (.int _ z)),some (.one (.int _ z'))=>some (0<=z/\z<=z'/\z'<=s.size,.one (.str (s.extract z.toNat z'.toNat)))
 | _,_=>none
def abr(s:ByteArray):Option SW->Option (Prop×SW)
 | some (.one (.int _ z))=>some (0<=z/\z<=s.size,.one (.str (s.extract z.toNat s.size)))
 | _=>none
def abt(s:ByteArray):Option SW->Option (Prop×SW)
 | some (.one (.int _ z))=>some (0<=z/\z<=s.size,.one (.str (s.extract 0 z.toNat)))
 | _=>none
def arI(a b:Int):BinOp->Option (Prop×SW)
 | .add=>some (-9223372036854775808<=a+b/\a+b<=9223372036854775807,.one (.int .i64 (a+b)))
 | .sub=>some (-9223372036854775808<=a-b/\a-b<=9223372036854775807,.one (.int .i64 (a-b)))
 | .mul=>some (-9223372036854775808<=a*b/\a*b<=9223372036854775807,.one (.int .i64 (a*b)))
 | _=>none
def Tm(T:I9)(L:SF):Op->Option (Prop×SW)
 | .binOp op _ x y _=>match sv L x with
  | some (.one (.int .i64 a))=>match sv L y with
   | some (.one (.int .i64 b))=>arI a b op
   | _=>none
  | some (.one (.str a))=>match sv L y with
   | some (.one (.str b))=>match op with
    | .add=>some (a.size+b.size<=9223372036854775807,.one (.str (a++b)))
    | _=>none
   | _=>none
  | _=>none
 | .unOp op _ x=>match op with
  | .neg=>match sv L x with
   | some (.one (.int .i64 a))=>some (-9223372036854775808<=0-a/\0-a<=9223372036854775807,.one (.int .i64 (0-a)))
   | _=>none
  | _=>none
 | .indexAddr t x y=>match sv L y with
  | some (.one (.int _ z))=>match sv L x with
   | some (.one (.ay b o i))=>match T.an.get t with
    | some m=>match T.asz.get t with
     | some s=>some (0<=z/\z<m,.one (.ay b o (i+z.toNat*s)))
     | none=>none
    | none=>none
   | some (.one (.slc (some ⟨b,o,none⟩) n _))=>match T.sl.get t with
    | some s=>some (0<=z/\z<n,.one (.ay b o (0+z.toNat*s)))
    | none=>none
   | _=>none
  | _=>none
 | .slice t x lo hi mx=>match mx with
  | none=>match T.un.get t with
   | some c=>match Nat.beq c 3 with
    | true=>match sv L x with
     | some (.one (.str s))=>match lo with
      | none=>match hi with
       | none=>none
       | some y=>abt s (sv L y)
      | some y=>match hi with
       | none=>abr s (sv L y)
       | some u=>abq s (sv L y) (sv L u)
     | _=>none
    | false=>none
   | none=>none
  | some _=>none
 | _=>none
def svs(L:SF):List Operand->Option (List SW)
 | []=>some []
 | x::r=>match sv L x with
  | some s=>match svs L r with
   | some l=>some (s::l)
   | none=>none
  | none=>none
def N1:List SW->List Value
 | []=>[]
 | s::r=>(aS s)::N1 r
theorem N2{L:SF} :∀ {xs:List Operand} {l:List SW},svs L xs=some l->PO (dn L) xs=some (N1 l)
 | [],l,h=>by simp only[svs,Option.some.injEq]at h;subst h;rfl
 | x::r,l,h=>by
  simp only[svs]at h;split at h
  ·rename_i s hx;split at h
   ·rename_i l' hr;simp only[Option.some.injEq]at h;subst h;simp only[PO,dh hx,N2 hr,N1]
   ·cases h
  ·cases h
section
variable {P:Program} {n:Fr} {L:SF} {ty:TypeId} {pos:String} {af:Array Edge} {d:Nat} {gd:Option (Nat×Bool)} {φ:World->Prop}
theorem qH{a b:Nat}(h:Nat.beq a b=true):a=b:=Nat.eq_of_beq_eq_true h
def Tn[h:Tb P]{op:BinOp}{t t':TypeId}{s:SW}(hs:Ti h.t L op t x y=some s):bd P n (dn L) φ ⟨some d,.binOp op t x y t',ty,pos,af,gd⟩ (aS s):=by
 unfold Ti at hs;split at hs
 ·rename_i k a hx;split at hs
  ·rename_i k' b hy;split at hs
   ·rename_i hk _;subst hk;cases op<;>simp only[aeO,Option.some.injEq]at hs<;>first | cases hs;done | (subst hs;exact SL (dh hx) (dh hy) rfl)
   ·cases hs
  ·cases hs
 ·rename_i a hx;split at hs
  ·rename_i b hy;cases op<;>simp only[aeP,Option.some.injEq]at hs<;>first | cases hs;done | (subst hs;exact SQ (dh hx) (dh hy) rfl)
  ·cases hs
 ·rename_i T e hx;split at hs
  ·rename_i hn;have hy:y= .const .nilIface:=by unfold zB at hn;split at hn<;>first | rfl | cases hn
   subst hy;cases op<;>simp only[ES]at hs<;>first | cases hs;done | (split at hs<;>first | cases hs;done | (split at hs<;>first | cases hs;done | (
    rename_i hg _ hb
    obtain⟨ms,hu⟩:=un1 (by rw[<-qH hb];exact Tb.un hg)
    simp only[Option.some.injEq]at hs
    subst hs
    exact SX (dh hx) hu rfl)))
  ·cases hs
 ·rename_i hx;split at hs
  ·rename_i hn;have hy:y= .const .nilIface:=by unfold zB at hn;split at hn<;>first | rfl | cases hn
   subst hy;cases op<;>simp only[ES]at hs<;>first | cases hs;done | (split at hs<;>first | cases hs;done | (split at hs<;>first | cases hs;done | (
    rename_i hg _ hb
    obtain⟨ms,hu⟩:=un1 (by rw[<-qH hb];exact Tb.un hg)
    simp only[Option.some.injEq]at hs
    subst hs
    exact IW (dh hx) hu rfl)))
  ·cases hs
 ·rename_i T v hx;split at hs
  ·rename_i hn;have hy:y= .const .nilIface:=by unfold zB at hn;split at hn<;>first | rfl | cases hn
   subst hy;cases op<;>simp only[ES]at hs<;>first | cases hs;done | (split at hs<;>first | cases hs;done | (split at hs<;>first | cases hs;done | (
    rename_i hg _ hb
    obtain⟨ms,hu⟩:=un1 (by rw[<-qH hb];exact Tb.un hg)
    simp only[Option.some.injEq]at hs
    subst hs
    exact Ct (dh hx) hu rfl)))
  ·cases hs
 ·rename_i b o i hx;split at hs
  ·rename_i hn;have hy:y= .const (.pointer none):=by unfold N0 at hn;split at hn<;>first | rfl | cases hn
   subst hy;cases op<;>simp only[ES]at hs<;>first | cases hs;done | (split at hs<;>first | cases hs;done | (split at hs<;>first | cases hs;done | (
    rename_i hg _ hb
    obtain⟨ms,hu⟩:=un2 (by rw[<-qH hb];exact Tb.un hg)
    simp only[Option.some.injEq]at hs
    subst hs
    exact PT (dh hx) hu rfl)))
  ·cases hs
 ·rename_i hx;split at hs
  ·rename_i hn;have hy:y= .const (.pointer none):=by unfold N0 at hn;split at hn<;>first | rfl | cases hn
   subst hy;cases op<;>simp only[ES]at hs<;>first | cases hs;done | (split at hs<;>first | cases hs;done | (split at hs<;>first | cases hs;done | (
    rename_i hg _ hb
    obtain⟨ms,hu⟩:=un2 (by rw[<-qH hb];exact Tb.un hg)
    simp only[Option.some.injEq]at hs
    subst hs
    exact PV (dh hx) hu rfl)))
  ·cases hs
 ·cases hs
theorem Jb{α:Type}{xs:Array α}{l:List α}(h:xs.toList=l):xs=l.toArray:=by rw[<-h]
def To[h:Tb P]{b:Builtin}{xs:Array Operand}{ts:Array TypeId}{s:SW}(hs:Tj h.t L b xs ts=some s):bd P n (dn L) φ ⟨some d,.call ⟨.builtin b,xs,ts⟩,ty,pos,af,gd⟩ (aS s)/\cC (.call ⟨.builtin b,xs,ts⟩)=false:=by
 unfold Tj at hs;split at hs
 ·refine⟨?_,rfl⟩;split at hs
  ·rename_i x Lu;split at hs
   ·rename_i t hts;split at hs
    ·rename_i c hc;split at hs
     ·rename_i a hx;split at hs
      ·rename_i hb;simp only[Option.some.injEq]at hs;subst hs;rw[Jb Lu,Jb hts];exact SP (dh hx) (un3 (by rw[<-qH hb];exact Tb.un hc))
      ·cases hs
     ·rename_i p k c2 hx;split at hs
      ·rename_i hb;simp only[Option.some.injEq]at hs;subst hs;rw[Jb Lu,Jb hts];obtain⟨e,hu⟩:=un4 (by rw[<-qH hb];exact Tb.un hc);exact Xo (dh hx) hu
      ·cases hs
     ·cases hs
    ·cases hs
   ·cases hs
  ·cases hs
 ·refine⟨?_,rfl⟩;split at hs
  ·rename_i x y Lu;split at hs
   ·rename_i t1 t2 hts;split at hs
    ·rename_i k a hx;split at hs
     ·rename_i k' b hy;split at hs
      ·rename_i hk _;subst hk;simp only[Option.some.injEq]at hs;subst hs;rw[Jb Lu,Jb hts];exact V.min2 (dh hx) (dh hy)
      ·cases hs
     ·cases hs
    ·cases hs
   ·cases hs
  ·cases hs
 ·refine⟨?_,rfl⟩;split at hs
  ·rename_i x y Lu;split at hs
   ·rename_i t1 t2 hts;split at hs
    ·rename_i k a hx;split at hs
     ·rename_i k' b hy;split at hs
      ·rename_i hk _;subst hk;simp only[Option.some.injEq]at hs;subst hs;rw[Jb Lu,Jb hts];exact V.max2 (dh hx) (dh hy)
      ·cases hs
     ·cases hs
    ·cases hs
   ·cases hs
  ·cases hs
 ·cases hs
def Tp[h:Tb P]{s:SW}(hs:Tl h.t L op=some s):bd P n (dn L) φ ⟨some d,op,ty,pos,af,gd⟩ (aS s)/\cC op=false:=by
 unfold Tl at hs;split at hs
 ·exact⟨V.move (dh hs),rfl⟩
 ·exact⟨V.assign (dh hs),rfl⟩
 ·refine⟨?_,rfl⟩;split at hs
  ·rename_i u hx;split at hs
   ·rename_i v hy;split at hs
    ·rename_i t hc;unfold aan at hs;split at hs
     ·simp only[Option.some.injEq]at hs;subst hs;exact V.pick (t:=true) (dh hc) (dh hx) (dh hy) rfl
     ·simp only[Option.some.injEq]at hs;subst hs;exact V.pick (t:=false) (dh hc) (dh hx) (dh hy) rfl
     ·cases hs
    ·cases hs
   ·cases hs
  ·cases hs
 ·refine⟨?_,rfl⟩;split at hs
  ·rename_i b o i hx;simp only[Option.some.injEq]at hs;subst hs;exact bB (dh hx)
  ·cases hs
 ·refine⟨?_,rfl⟩;split at hs
  ·rename_i l hx;exact V.extract (dh hx) (by simpa using Ja hs)
  ·cases hs
 ·refine⟨?_,rfl⟩;split at hs
  ·rename_i b o i hx;split at hs
   ·rename_i hf;split at hs
    ·rename_i k hk;simp only[Option.some.injEq]at hs;subst hs;exact V.fieldAddr (dh hx) (Tb.fo (by simpa using hf) hk)
    ·cases hs
   ·cases hs
  ·cases hs
 ·exact⟨Tn hs,rfl⟩
 ·refine⟨?_,rfl⟩;split at hs
  ·split at hs
   ·rename_i t hx;unfold aam at hs;split at hs
    ·simp only[Option.some.injEq]at hs;subst hs;exact V.not (b:=true) (dh hx)
    ·simp only[Option.some.injEq]at hs;subst hs;exact V.not (b:=false) (dh hx)
    ·simp only[Option.some.injEq]at hs;subst hs;exact abf (dh hx)
    ·simp only[Option.some.injEq]at hs;subst hs;exact V.not (dh hx)
    ·cases hs
   ·cases hs
  ·cases hs
 ·refine⟨?_,rfl⟩;split at hs
  ·rename_i u hx;split at hs
   ·rename_i c hc;split at hs
    ·cases hs
    ·rename_i hb;simp only[Option.some.injEq]at hs;subst hs;obtain⟨ds,hu,hn⟩:=unV (Tb.un hc) hb;exact AX (dh hx) hu hn
   ·cases hs
  ·cases hs
 ·split at hs
  ·exact To hs
  ·cases hs
 ·cases hs
def Xz{u:Operand}{t:TypeId}{q:Prop}{v:SW}(ht:P.underlying t=some .string)(hx:ev (dn L) x=some (.string s))(h:abq s (sv L y) (sv L u)=some (q,v))(hq:q):bd P n (dn L) φ ⟨some d,.slice t x (some y) (some u) none,ty,pos,af,gd⟩ (aS v):=by
 unfold abq at h;split at h
 ·rename_i k z k' z' hy hu;simp only[Option.some.injEq,Prod.mk.injEq]at h;obtain⟨rfl,rfl⟩:=h;exact SU hx (dh hy) (dh hu) ht hq
 ·cases h
def XA{t:TypeId}{q:Prop}{v:SW}(ht:P.underlying t=some .string)(hx:ev (dn L) x=some (.string s))(h:abr s (sv L y)=some (q,v))(hq:q):bd P n (dn L) φ ⟨some d,.slice t x (some y) none none,ty,pos,af,gd⟩ (aS v):=by
 unfold abr at h;split at h
 ·rename_i k z hy;simp only[Option.some.injEq,Prod.mk.injEq]at h;obtain⟨rfl,rfl⟩:=h;exact IV hx (dh hy) ht hq
 ·cases h
def XD{t:TypeId}{q:Prop}{v:SW}(ht:P.underlying t=some .string)(hx:ev (dn L) x=some (.string s))(h:abt s (sv L y)=some (q,v))(hq:q):bd P n (dn L) φ ⟨some d,.slice t x none (some y) none,ty,pos,af,gd⟩ (aS v):=by
 unfold abt at h;split at h
 ·rename_i k z hy;simp only[Option.some.injEq,Prod.mk.injEq]at h;obtain⟨rfl,rfl⟩:=h;exact PR hx (dh hy) ht hq
 ·cases h
def Tq[h:Tb P]{q:Prop}{v:SW}(hs:Tm h.t L op=some (q,v))(hq:q):bd P n (dn L) φ ⟨some d,op,ty,pos,af,gd⟩ (aS v)/\cC op=false:=by
 unfold Tm at hs;split at hs
 ·refine⟨?_,rfl⟩;split at hs
  ·rename_i a hx;split at hs
   ·rename_i b hy;unfold arI at hs;split at hs
    ·simp only[Option.some.injEq,Prod.mk.injEq]at hs;obtain⟨rfl,rfl⟩:=hs;exact V.add (dh hx) (dh hy) _ (IntWalk.i64_in _ hq)
    ·simp only[Option.some.injEq,Prod.mk.injEq]at hs;obtain⟨rfl,rfl⟩:=hs;exact V.sub (dh hx) (dh hy) _ (IntWalk.i64_in _ hq)
    ·simp only[Option.some.injEq,Prod.mk.injEq]at hs;obtain⟨rfl,rfl⟩:=hs;exact V.mul (dh hx) (dh hy) _ (IntWalk.i64_in _ hq)
    ·cases hs
   ·cases hs
  ·rename_i a hx;split at hs
   ·rename_i b hy;split at hs
    ·simp only[Option.some.injEq,Prod.mk.injEq]at hs;obtain⟨rfl,rfl⟩:=hs;exact SR (dh hx) (dh hy) hq
    ·cases hs
   ·cases hs
  ·cases hs
 ·refine⟨?_,rfl⟩;split at hs
  ·split at hs
   ·rename_i a hx;simp only[Option.some.injEq,Prod.mk.injEq]at hs;obtain⟨rfl,rfl⟩:=hs;exact V.neg (dh hx) _ (IntWalk.i64_in _ hq)
   ·cases hs
  ·cases hs
 ·refine⟨?_,rfl⟩;split at hs
  ·rename_i k z hy;split at hs
   ·rename_i b o i hx;split at hs
    ·rename_i m hm;split at hs
     ·rename_i s hs';simp only[Option.some.injEq,Prod.mk.injEq]at hs;obtain⟨rfl,rfl⟩:=hs;exact jh (dh hx) (dh hy) (Tb.ar hm hs') hq
     ·cases hs
    ·cases hs
   ·rename_i b o m c hx;split at hs
    ·rename_i s hs';simp only[Option.some.injEq,Prod.mk.injEq]at hs;obtain⟨rfl,rfl⟩:=hs;obtain⟨e,he⟩:=Tb.sl hs';exact Fu (dh hx) (dh hy) he hq
    ·cases hs
   ·cases hs
  ·cases hs
 ·refine⟨?_,rfl⟩;split at hs
  ·split at hs
   ·rename_i c hc;split at hs
    ·rename_i hb;have ht:=un3 (P:=P) (by rw[<-qH hb];exact Tb.un hc);split at hs
     ·rename_i s hx;split at hs
      ·split at hs
       ·cases hs
       ·exact XD ht (dh hx) hs hq
      ·split at hs
       ·exact XA ht (dh hx) hs hq
       ·exact Xz ht (dh hx) hs hq
     ·cases hs
    ·cases hs
   ·cases hs
  ·cases hs
 ·cases hs
end
inductive Fm where
 | sq (c:Code)
 | blk (i:Nat)
 | th (T:Act->World->Prop)
def kV(P:Program)(Q0:Exit->Act->World->Prop):List Fm->Exit->Act->World->Prop
 | []=>Q0
 | .sq y::K=>Exit.then (y.wp P (kV P Q0 K)) (kV P Q0 K)
 | .blk i::K=>Exit.inBlock i (kV P Q0 K)
 | .th T::K=>Exit.then T (kV P Q0 K)
inductive St where
 | c (x:Code)
 | o (md:Md) (l:List Oper)
 | e (x:Exit)
def abv:Nat->List Nat->Bool
 | _,[]=>false
 | i,j::r=>match Nat.beq i j with
  | true=>true
  | false=>abv i r
def tJ(ps:List Nat):SF->SF->(SF->Prop)->Prop
 | [],jJ,k=>k jJ
 | (i,s)::r,jJ,k=>match abv i ps with
  | true=>match sk jJ i with
   | some _=>tJ ps r jJ k
   | none=>tJ ps r ((i,s)::jJ) k
  | false=>tJ ps r jJ k
def Jc:List Oper->Nat->Option Nat
 | [],_=>none
 | o::_,0=>o.dst
 | _::r,k+1=>Jc r k
def Jd:∀ {l:List Oper} {j d:Nat},Jc l j=some d->(l[j]?).bind (·.dst)=some d
 | [],_,_,h=>by simp[Jc]at h
 | _::_,0,_,h=>by simpa [Jc]using h
 | _::r,k+1,_,h=>by simpa using Jd (l:=r) h
def CD:Code->Nat
 | .region i _ _=>i
 | .seq a _=>CD a
 | .block _ c=>CD c
 | .loop c=>CD c
 | .cond _ a _=>CD a
 | _=>0
def aeR:Code->Nat
 | .region _ _ _=>0
 | .seq _ _=>1
 | .cond _ _ _=>2
 | .block _ _=>3
 | .loop _=>4
 | _=>5
def abw(i k:Nat):List (Nat×Nat)->Bool
 | []=>false
 | (j,l)::r=>match Nat.beq i j with
  | true=>match Nat.beq k l with
   | true=>true
   | false=>abw i k r
  | false=>abw i k r
def Sd(q R X:Prop):Prop:=(q/\R)\/X
section
variable (P:Program) (n:Fr) (Q0:Exit->Act->World->Prop) (M:World->Prop) (K:List Fm) (md:Md) (r:List Oper) (L:SF)
def LdG(t:TypeId)(d:Nat)(x:Operand)(ty:TypeId)(pos:String)(af:Array Edge)(b o i:Nat):Prop:=
 ev (dn L) x=some (ay b o i)->jU P t=true->Nat.blt d n.sz=true->XO P n md (kV P Q0 K) (⟨some d,.load t x,ty,pos,af,none⟩::r) (dn L) M
def LdA(t:TypeId)(d:Nat)(x:Operand)(ty:TypeId)(pos:String)(af:Array Edge)(b o i k:Nat):Prop:=
 ev (dn L) x=some (ay b o i)->nT P t=true->fp P t=some k->Nat.blt d n.sz=true->XO P n md (kV P Q0 K) (⟨some d,.load t x,ty,pos,af,none⟩::r) (dn L) M
def StG(t:TypeId)(x y:Operand)(ty:TypeId)(pos:String)(af:Array Edge)(b o i k:Nat)(s:SV):Prop:=
 ev (dn L) x=some (ay b o i)->ev (dn L) y=some (aR s)->fp P t=some k->XO P n md (kV P Q0 K) (⟨none,.store t x y,ty,pos,af,none⟩::r) (dn L) M
def CaG(d:Nat)(f:FuncId)(xs:List Operand)(oH:Array TypeId)(ty:TypeId)(pos:String)(af:Array Edge)(vs:List Value):Prop:=
 PO (dn L) xs=some vs->dc P f=true->Nat.blt d n.sz=true->XO P n md (kV P Q0 K) (⟨some d,.call ⟨.value (.func f),xs.toArray,oH⟩,ty,pos,af,none⟩::r) (dn L) M
def halt(T:I9)(dst:Option Tmp)(op:Op)(ty:TypeId)(pos:String)(af:Array Edge)(ho:Prop):Prop:=match op with
   | .load t x=>match dst with
    | some d=>match sv L x with
     | some (.one (.ay b o i))=>match T.un.get t with
      | some c=>match Nat.blt c 7 with
       | true=>LdG P n Q0 M K md r L t d x ty pos af b o i
       | false=>match Nat.beq c 7 with
        | true=>match T.sz.get t with
         | some k=>LdA P n Q0 M K md r L t d x ty pos af b o i k
         | none=>ho
        | false=>ho
      | none=>ho
     | _=>ho
    | none=>ho
   | .store t x y=>match dst with
    | none=>match sv L x with
     | some (.one (.ay b o i))=>match sv L y with
      | some (.one s)=>match T.sz.get t with
       | some k=>StG P n Q0 M K md r L t x y ty pos af b o i k s
       | none=>ho
      | _=>ho
     | _=>ho
    | some _=>ho
   | .call c=>match c with
    | ⟨.value (.func f),xs,oH⟩=>match dst with
     | some d=>match T.fn.get f with
      | some _=>match svs L xs.toList with
       | some l=>CaG P n Q0 M K md r L d f xs.toList oH ty pos af (N1 l)
       | none=>ho
      | none=>ho
     | none=>ho
    | _=>ho
   | _=>ho
end
def N3{P:Program}[h:Tb P]{n:Fr}{Q0:Exit->Act->World->Prop}{M:World->Prop}{K:List Fm}{md:Md}{r:List Oper}{L:SF}{dst:Option Tmp}{ty:TypeId}{pos:String}{af:Array Edge}(hd:∀ d,dst=some d->Nat.blt d n.sz=true)(hh:halt P n Q0 M K md r L h.t dst op ty pos af (XO P n md (kV P Q0 K) (⟨dst,op,ty,pos,af,none⟩::r) (dn L) M)):XO P n md (kV P Q0 K) (⟨dst,op,ty,pos,af,none⟩::r) (dn L) M:=by
 unfold halt at hh
 ·split at hh
  ·split at hh
   ·split at hh
    ·rename_i hx;split at hh
     ·rename_i hc;split at hh
      ·rename_i hb;exact hh (dh hx) (Xy (Tb.un hc) hb) (hd _ rfl)
      ·split at hh
       ·rename_i hb;split at hh
        ·rename_i hk;exact hh (dh hx) (LQ (by rw[<-qH hb];exact Tb.un hc)) (Tb.sz hk) (hd _ rfl)
        ·exact hh
       ·exact hh
     ·exact hh
    ·exact hh
   ·exact hh
  ·split at hh
   ·split at hh
    ·rename_i hx;split at hh
     ·rename_i hy;split at hh
      ·rename_i hk;exact hh (dh hx) (dh hy) (Tb.sz hk)
      ·exact hh
     ·exact hh
    ·exact hh
   ·exact hh
  ·split at hh
   ·split at hh
    ·split at hh
     ·rename_i hf;split at hh
      ·rename_i hl;exact hh (N2 hl) (Tb.fn hf) (hd _ rfl)
      ·exact hh
     ·exact hh
    ·exact hh
   ·exact hh
  ·exact hh
section
variable (P:Program) (n:Fr) (Q0:Exit->Act->World->Prop) (M:World->Prop)
def ic[h:Tb P]:Nat->List Fm->St->SF->Prop
 | 0,K,.c x,L=>XC P n x (kV P Q0 K) (dn L) M
 | 0,K,.o md l,L=>XO P n md (kV P Q0 K) l (dn L) M
 | 0,K,.e x,L=>XE n (kV P Q0 K) x (dn L) M
 | f+1,K,.c x,L=>match x with
  | .seq a b=>match n.cs with
   | []=>ic f (.sq b::K) (.c a) L
   | c::cs=>match abw (CD a) (aeR a) (c::cs)with
    | true=>XC P n (.seq a b) (kV P Q0 K) (dn L) M
    | false=>ic f (.sq b::K) (.c a) L
  | .skip=>ic f K (.e .normal) L
  | .ret=>ic f K (.e .ret) L
  | .exit i=>ic f K (.e (.exit i)) L
  | .block i c=>ic f (.blk i::K) (.c c) L
  | .region i ops dr=>match dr with
   | false=>ic f K (.o (.cl ops) ops.toList) L
   | true=>XC P n (.region i ops true) (kV P Q0 K) (dn L) M
  | .cond c a b=>match sv L c with
   | some (.one .tt)=>ic f K (.c a) L
   | some (.one .ff)=>ic f K (.c b) L
   | _=>XC P n (.cond c a b) (kV P Q0 K) (dn L) M
  | y=>XC P n y (kV P Q0 K) (dn L) M
 | f+1,K,.e x,L=>match K with
  | []=>XE n Q0 x (dn L) M
  | .sq y::K'=>match x with
   | .normal=>tJ n.ps L [] fun L'=>ic f K' (.c y) L'
   | .ret=>ic f K' (.e .ret) L
   | .exit i=>ic f K' (.e (.exit i)) L
   | x=>XE n (kV P Q0 (.sq y::K')) x (dn L) M
  | .blk i::K'=>match x with
   | .normal=>ic f K' (.e .normal) L
   | .ret=>ic f K' (.e .ret) L
   | .exit j=>match Nat.beq j i with
    | true=>ic f K' (.e .normal) L
    | false=>ic f K' (.e (.exit j)) L
   | x=>XE n (kV P Q0 (.blk i::K')) x (dn L) M
  | .th T::K'=>match x with
   | .ret=>ic f K' (.e .ret) L
   | .exit i=>ic f K' (.e (.exit i)) L
   | x=>XE n (kV P Q0 (.th T::K')) x (dn L) M
 | f+1,K,.o md l,L=>match l with
  | []=>ic f K (.e .normal) L
  | ⟨dst,op,ty,pos,af,gd⟩::r=>match gd with
   | some (j,want)=>match Jc md.a.toList j with
    | some dj=>match sk L dj with
     | some (.one .tt)=>match want with
      | true=>ic f K (.o md (⟨dst,op,ty,pos,af,none⟩::r)) L
      | false=>match dst with
       | some d=>match Nat.blt d n.sz with
        | true=>ic f K (.o md r) ((d,.one .un)::L)
        | false=>XO P n md (kV P Q0 K) (⟨some d,op,ty,pos,af,some (j,false)⟩::r) (dn L) M
       | none=>XO P n md (kV P Q0 K) (⟨none,op,ty,pos,af,some (j,false)⟩::r) (dn L) M
     | some (.one .ff)=>match want with
      | false=>ic f K (.o md (⟨dst,op,ty,pos,af,none⟩::r)) L
      | true=>match dst with
       | some d=>match Nat.blt d n.sz with
        | true=>ic f K (.o md r) ((d,.one .un)::L)
        | false=>XO P n md (kV P Q0 K) (⟨some d,op,ty,pos,af,some (j,true)⟩::r) (dn L) M
       | none=>XO P n md (kV P Q0 K) (⟨none,op,ty,pos,af,some (j,true)⟩::r) (dn L) M
     | some (.one .un)=>match dst with
       | some d=>match Nat.blt d n.sz with
        | true=>ic f K (.o md r) ((d,.one .un)::L)
        | false=>XO P n md (kV P Q0 K) (⟨some d,op,ty,pos,af,some (j,want)⟩::r) (dn L) M
       | none=>XO P n md (kV P Q0 K) (⟨none,op,ty,pos,af,some (j,want)⟩::r) (dn L) M
     | _=>XO P n md (kV P Q0 K) (⟨dst,op,ty,pos,af,some (j,want)⟩::r) (dn L) M
    | none=>XO P n md (kV P Q0 K) (⟨dst,op,ty,pos,af,some (j,want)⟩::r) (dn L) M
   | none=>match dst with
    | some d=>match Nat.blt d n.sz with
     | true=>match Tl h.t L op with
      | some s=>ic f K (.o md r) ((d,s)::L)
      | none=>match Tm h.t L op with
       | some (q,s)=>Sd q (ic f K (.o md r) ((d,s)::L)) (XO P n md (kV P Q0 K) (⟨some d,op,ty,pos,af,none⟩::r) (dn L) M)
       | none=>halt P n Q0 M K md r L h.t (some d) op ty pos af (XO P n md (kV P Q0 K) (⟨some d,op,ty,pos,af,none⟩::r) (dn L) M)
     | false=>XO P n md (kV P Q0 K) (⟨some d,op,ty,pos,af,none⟩::r) (dn L) M
    | none=>halt P n Q0 M K md r L h.t none op ty pos af (XO P n md (kV P Q0 K) (⟨none,op,ty,pos,af,none⟩::r) (dn L) M)
end
def ahf(P:Program)(n:Fr)(Q0:Exit->Act->World->Prop)(M:World->Prop)(K:List Fm)(L:PF):St->Prop
 | .c x=>XC P n x (kV P Q0 K) L M
 | .o md l=>XO P n md (kV P Q0 K) l L M
 | .e x=>XE n (kV P Q0 K) x L M
theorem CE:∀ {L:SF} {j:Nat},sk L j=none->lk (dn L) j=none
 | [],_,_=>rfl
 | (i,t)::r,j,h=>by
  simp only[sk]at h;simp only[dn,lk];cases hb:Nat.beq i j with
  | true=>simp[hb]at h
  | false=>simp only[hb]at h;exact CE h
def xG{ps:List Nat} :∀ {L jJ:SF} {k:SF->Prop},tJ ps L jJ k->∃ L',k L'/\∀ i v,lk (dn L') i=some v->(match lk (dn jJ) i with
 | some u=>u=v
 | none=>abv i ps=true/\lk (dn L) i=some v)
 | [],jJ,k,h=>⟨jJ,h,fun i v q=>by rw[q]⟩
 | (j,s)::r,jJ,k,h=>by
  simp only[tJ]at h;split at h
  ·split at h
   ·rename_i u hu;obtain⟨L',h1,h2⟩:=xG h;refine⟨L',h1,fun i v q=> ?_⟩;have:=h2 i v q;cases ha:lk (dn jJ) i with
    | some x=>rw[ha]at this;exact this
    | none=>
     rw[ha]at this;refine⟨this.1,?_⟩;simp only[dn,lk];cases hb:Nat.beq j i with
     | true=>have:=qH hb;subst this;rw[AZ hu]at ha;cases ha
     | false=>exact this.2
   ·rename_i hm _ hu;obtain⟨L',h1,h2⟩:=xG h;refine⟨L',h1,fun i v q=> ?_⟩;have:=h2 i v q;simp only[dn,lk]at this ⊢;cases hb:Nat.beq j i with
    | true=>
     have e:=qH hb;subst e;simp only[hb,cond_true]at this ⊢;rw[CE hu];exact⟨hm,congrArg some this⟩
    | false=>simp only[hb,cond_false]at this ⊢;exact this
  ·rename_i hm;obtain⟨L',h1,h2⟩:=xG h;refine⟨L',h1,fun i v q=> ?_⟩;have:=h2 i v q;cases ha:lk (dn jJ) i with
   | some x=>rw[ha]at this;exact this
   | none=>
    rw[ha]at this;refine⟨this.1,?_⟩;simp only[dn,lk];cases hb:Nat.beq j i with
    | true=>have e:=qH hb;subst e;rw[hm]at this;cases this.1
    | false=>exact this.2
section
variable {P:Program} {n:Fr} {Q0:Exit->Act->World->Prop} {M:World->Prop}
def cx[Tb P]:∀ (f:Nat) (K:List Fm) (s:St) (L:SF),ic P n Q0 M f K s L->ahf P n Q0 M K (dn L) s
 | 0,K,.c x,L,h=>h
 | 0,K,.o md l,L,h=>h
 | 0,K,.e x,L,h=>h
 | f+1,K,.c x,L,h=>by
  simp only[ic]at h;split at h
  ·split at h
   ·exact XC.seq (cx f _ (.c _) L h)
   ·split at h
    ·exact h
    ·exact XC.seq (cx f _ (.c _) L h)
  ·exact XC.skip (cx f _ (.e _) L h)
  ·exact XC.ret (cx f _ (.e _) L h)
  ·exact XC.exit (cx f _ (.e _) L h)
  ·exact XC.block (cx f _ (.c _) L h)
  ·split at h
   ·rename_i ops _;exact XC.region (l:=ops.toList) (cx f _ (.o _ _) L h)
   ·exact h
  ·split at h
   ·rename_i hc;exact Cm (t:=true) (dh hc) rfl (cx f _ (.c _) L h)
   ·rename_i hc;exact Cn (t:=false) (dh hc) rfl (cx f _ (.c _) L h)
   ·exact h
  ·exact h
 | f+1,K,.e x,L,h=>by
  simp only[ic]at h;split at h
  ·exact h
  ·rename_i K' y;split at h
   ·obtain⟨L',h1,h2⟩:=xG h;refine XE.next (XC.fE (dn L') (fun i v q=> ?_) (cx f _ (.c _) L' h1));exact(h2 i v q).2
   ·exact rJ (cx f _ (.e _) L h)
   ·exact pP (cx f _ (.e _) L h)
   ·exact h
  ·rename_i K' i;split at h
   ·exact gG (cx f _ (.e _) L h)
   ·exact lI (cx f _ (.e _) L h)
   ·split at h
    ·rename_i hb;have:=qH hb;subst this;exact xB (cx f _ (.e _) L h)
    ·rename_i hb;exact EN hb (cx f _ (.e _) L h)
   ·exact h
  ·rename_i K' T;split at h
   ·exact rJ (cx f _ (.e _) L h)
   ·exact pP (cx f _ (.e _) L h)
   ·exact h
 | f+1,K,.o md l,L,h=>by
  simp only[ic]at h;split at h
  ·exact XO.nil (cx f _ (.e _) L h)
  ·rename_i dst op ty pos af gd r;split at h
   ·rename_i j want;split at h
    ·rename_i dj hdj;have hj:(md.a[j]?).bind (·.dst)=some dj:=by
      have:=Jd hdj;simpa using this
     split at h
     ·rename_i hs;split at h
      ·exact XO.xD rfl hj (AZ hs) (cx f _ (.o _ _) L h)
      ·split at h
       ·split at h
        ·rename_i hd;exact XO.qz rfl rfl hd hj (AZ hs) (cx f _ (.o _ _) ((_,.one .un)::L) h)
        ·exact h
       ·exact h
     ·rename_i hs;split at h
      ·exact XO.xD rfl hj (AZ hs) (cx f _ (.o _ _) L h)
      ·split at h
       ·split at h
        ·rename_i hd;exact XO.qz rfl rfl hd hj (AZ hs) (cx f _ (.o _ _) ((_,.one .un)::L) h)
        ·exact h
       ·exact h
     ·rename_i hs;split at h
      ·split at h
       ·rename_i hd;exact EO rfl rfl hd hj (AZ hs) (cx f _ (.o _ _) ((_,.one .un)::L) h)
       ·exact h
      ·exact h
     ·exact h
    ·exact h
   ·split at h
    ·split at h
     ·rename_i hd;split at h
      ·rename_i s hs;obtain⟨h1,h2⟩:=Tp (P:=P) (n:=n) (φ:=fun _=>True) (d:=_) (ty:=ty) (pos:=pos) (af:=af) (gd:=none) hs;exact XO.v h1 (by rw[hd,h2];rfl) (cx f _ (.o _ _) ((_,s)::L) h)
      ·split at h
       ·rename_i q s hs;rcases h with h | h
        ·obtain⟨h1,h2⟩:=Tq (P:=P) (n:=n) (φ:=fun _=>True) (d:=_) (ty:=ty) (pos:=pos) (af:=af) (gd:=none) hs h.1;exact XO.v h1 (by rw[hd,h2];rfl) (cx f _ (.o _ _) ((_,s)::L) h.2)
        ·exact h
       ·exact N3 (fun x hx=>by cases hx;exact hd) h
     ·exact h
    ·exact N3 (fun x hx=>by cases hx) h
def u6{ps:List Nat}{k k':SF->Prop}(h:∀ L,k L->k' L):∀ {L jJ:SF},tJ ps L jJ k->tJ ps L jJ k'
 | [],_,q=>h _ q
 | (i,s)::r,jJ,q=>by
  simp only[tJ]at q ⊢;split at q
  ·split at q
   ·exact u6 h q
   ·exact u6 h q
  ·exact u6 h q
def u7{ps:List Nat}{k:SF->Prop}(h:∀ L,k L):∀ {L jJ:SF},tJ ps L jJ k
 | [],_=>h _
 | (i,s)::r,jJ=>by
  simp only[tJ];split
  ·split
   ·exact u7 h
   ·exact u7 h
  ·exact u7 h
def P4{M':World->Prop}(hm:∀ w,M w->M' w){K:List Fm}{md:Md}{r:List Oper}{L:SF}{T:I9}{dst:Option Tmp}{ty:TypeId}{pos:String}{af:Array Edge}(h:halt P n Q0 M' K md r L T dst op ty pos af (XO P n md (kV P Q0 K) (⟨dst,op,ty,pos,af,none⟩::r) (dn L) M')):halt P n Q0 M K md r L T dst op ty pos af (XO P n md (kV P Q0 K) (⟨dst,op,ty,pos,af,none⟩::r) (dn L) M):=by
 unfold halt at h ⊢;repeat' (split at h)
 all_goals first
  | exact XO.mono hm h
  | exact fun a b c=>XO.mono hm (h a b c)
  | exact fun a b c d=>XO.mono hm (h a b c d)
def Ts(hm:∀ w,¬M w){K:List Fm}{md:Md}{r:List Oper}{L:SF}{T:I9}{dst:Option Tmp}{ty:TypeId}{pos:String}{af:Array Edge} :halt P n Q0 M K md r L T dst op ty pos af (XO P n md (kV P Q0 K) (⟨dst,op,ty,pos,af,none⟩::r) (dn L) M):=by
 unfold halt;repeat' split
 all_goals first
  | exact fun a w _ hw=>absurd hw (hm w)
  | exact fun _ _ _ a w _ hw=>absurd hw (hm w)
  | exact fun _ _ _ _ a w _ hw=>absurd hw (hm w)
def o4[Tb P]{M':World->Prop}(hm:∀ w,M w->M' w):∀ (f:Nat) (K:List Fm) (s:St) (L:SF),ic P n Q0 M' f K s L->ic P n Q0 M f K s L
 | 0,K,.c x,L,h=>XC.mono hm h
 | 0,K,.o md l,L,h=>XO.mono hm h
 | 0,K,.e x,L,h=>XE.mono hm h
 | f+1,K,.c x,L,h=>by
  simp only[ic]at h ⊢;repeat' (split at h)
  all_goals first
   | exact XC.mono hm h
   | exact o4 hm f _ _ _ h
 | f+1,K,.e x,L,h=>by
  simp only[ic]at h ⊢;repeat' (split at h)
  all_goals first
   | exact XE.mono hm h
   | exact o4 hm f _ _ _ h
   | exact u6 (fun L'=>o4 hm f _ _ _) h
 | f+1,K,.o md l,L,h=>by
  simp only[ic]at h ⊢;repeat' (split at h)
  all_goals first
   | exact XO.mono hm h
   | exact o4 hm f _ _ _ h
   | exact P4 hm h
   | exact h.imp (fun q=>⟨q.1,o4 hm f _ _ _ q.2⟩) (XO.mono hm)
def xH[Tb P](hm:∀ w,¬M w):∀ (f:Nat) (K:List Fm) (s:St) (L:SF),ic P n Q0 M f K s L
 | 0,K,.c x,L=>fun a w _ hw=>absurd hw (hm w)
 | 0,K,.o md l,L=>fun a w _ hw=>absurd hw (hm w)
 | 0,K,.e x,L=>fun a w _ hw=>absurd hw (hm w)
 | f+1,K,.c x,L=>by
  simp only[ic];repeat' split
  all_goals first
   | exact xH hm f _ _ _
   | exact fun a w _ hw=>absurd hw (hm w)
 | f+1,K,.e x,L=>by
  simp only[ic];repeat' split
  all_goals first
   | exact xH hm f _ _ _
   | exact u7 fun L'=>xH hm f _ _ _
   | exact fun a w _ hw=>absurd hw (hm w)
 | f+1,K,.o md l,L=>by
  simp only[ic];repeat' split
  all_goals first
   | exact xH hm f _ _ _
   | exact Ts hm
   | exact .inr fun a w _ hw=>absurd hw (hm w)
   | exact fun a w _ hw=>absurd hw (hm w)
def xJ[Tb P]{φ:Prop}(hφ:∀ w,M w->φ){f:Nat}{K:List Fm}{s:St}{L:SF}(h:φ->ic P n Q0 M f K s L):ic P n Q0 M f K s L:=by
 by_cases c:∃ w,M w
 ·obtain⟨w,hw⟩:=c;exact h (hφ w hw)
 ·exact xH (fun w hw=>c ⟨w,hw⟩) f K s L
end
end Go.X
