import Derived.Test.YthdinakloheinaaGreatDoorXRange
import Derived.Laws.StructEq
set_option linter.all false
namespace Go.X
open Go Go.RowKit Go.Proofs
variable{v:Value}
section
variable {P:Program} {n:Fr} {Q:Exit->Act->World->Prop} {L:PF} {W:World} {S:Nat->Nat->Prop} {H:List aF}
def Tp(tmps:Array Value):ResultVar->Sem Value
 | .tmp t=>pure (tmps.getD t undef)
 | .cell a t=>do loadVar t (<-asAddr (tmps.getD a undef))
theorem wK(fn:Func)(tmps:Array Value):results fn tmps=(do
  let vs<-fn.results.mapM (Tp tmps)
  pure (if h:vs.size=1 then vs[0]else .tuple vs)):=by
 have:Tp tmps=(fun
  | .tmp t=>pure (tmps.getD t undef)
  | .cell a t=>do loadVar t (<-asAddr (tmps.getD a undef))):=by
  funext x;cases x<;>rfl
 rw[this];rfl
def sL(P:Program)(n:Fr)(L:PF)(M:World->Prop)(r:ResultVar)(v:Value):Prop:=
 ∀ a w,pY n L a->M w->(Tp a.tmps r).run P w= .ok v w
def sL.tmp{M:World->Prop}{t:Nat}{v:Value}(h:lk L t=some v):sL P n L M (.tmp t) v:=fun a w ha _=>by
 show(pure (a.tmps.getD t undef):Sem Value).run P w=_;rw[ha.2.2 t v h];rfl
theorem sL.cell{c b o i m:Nat}{t:TypeId}{C:Nat->Value}{v:Value}(hv:lk L c=some (az b o i))(hH:lh H (.cells b o m C))(hC:i<m/\C i=v)(ht:jR P t=true):sL P n L (XM W S H) (.cell c t) v:=fun a w ha hw=>by
 have hc:=ed (hw.fa.1 _ hH.mem) hC.1;rw[hC.2]at hc;show(do loadVar t (<-asAddr (a.tmps.getD c undef)):Sem Value).run P w=_;rw[ha.2.2 c _ hv];simp[asAddr,az,gz ht hc]
def sL.agg{c b o i m sz:Nat}{t:TypeId}{C:Nat->Value}(hv:lk L c=some (az b o i))(hH:lh H (.cells b o m C))(hC:i+sz<=m/\de C i sz=v)(ht:n5 P t=true)(hs:fm P t=some sz):sL P n L (XM W S H) (.cell c t) v:=fun a w ha hw=>by
 have hl:=jy (P:=P) (w:=w) (b:=b) (o:=o) (i:=i) (C:=C) ht hs fun l hl=>ed (hw.fa.1 _ hH.mem);rw[hC.2]at hl;show(do loadVar t (<-asAddr (a.tmps.getD c undef)):Sem Value).run P w=_;rw[ha.2.2 c _ hv];simp[asAddr,az,hl]
def jz{k:Nat}{ps:List Nat}{cs:List (Nat×Nat)}{fn:Func}{R:Ending->World->Prop}{M:World->Prop}{r:ResultVar}(hr:fn.results= #[r])(h1:sL P (fr k ps cs) L M r v)(h:∀ w,M w->R (.returned v) w):XE (fr k ps cs) (bodyPost P fn R) .ret L M:=fun a w ha hw=>by
 refine⟨ha.1,v,?_,h w hw⟩;have e1:=h1 a w ha hw;rw[wK,hr];simp[e1]
def dY{k:Nat}{ps:List Nat}{cs:List (Nat×Nat)}{fn:Func}{R:Ending->World->Prop}{M:World->Prop}{r r':ResultVar}{v':Value}(hr:fn.results= #[r,r'])(h1:sL P (fr k ps cs) L M r v)(h2:sL P (fr k ps cs) L M r' v')(h:∀ w,M w->R (.returned (.tuple #[v,v'])) w):XE (fr k ps cs) (bodyPost P fn R) .ret L M:=fun a w ha hw=>by
 refine⟨ha.1,.tuple #[v,v'],?_,h w hw⟩;have e1:=h1 a w ha hw;have e2:=h2 a w ha hw;rw[wK,hr];simp[e1,e2]
def aB(v:Value):Nat->Value:=cellsOf #[v]
def aB.ld(v:Value):0<1/\aB v 0=v:=⟨og,rfl⟩
theorem aB.st(u v:Value):0<1/\dJ (aB u) 0 v=aB v:=⟨og,by
 funext i
 cases i with
 | zero=>rfl
 | succ i=>simp[dJ,aB,cellsOf]⟩
def GW{f:Int->Bool}{m:Nat}{z:Int}(h:0<=z/\z<m:=by omega):(P1 f m)[z.toNat]? =some (.bool (f z)):=by
 have h1:z.toNat<m:=og;have h2:((z.toNat:Nat):Int)=z:=og;simp[P1,h1,h2]
end
section
variable {P:Program} {Q:Exit->Act->World->Prop} {L:PF} {n:Fr} {M:World->Prop} {ty:TypeId} {pos:String} {af:Array Edge} {d:Nat} {ops:Md} {rest:List Oper}
def YieldAt.weak{F:Fence}{m:Nat}{l:Nat}{args:Array Value}{w:World}{R R':Ending->World->Prop}(h:YieldAt F m P l args w R)(hr:∀ e w',R e w'->R' e w'):YieldAt F m P l args w R':=by
 obtain⟨fn,tmps,assign,body,h1,h2⟩:=h;exact⟨fn,tmps,assign,body,h1,h2.mono hr⟩
def nw{g:FuncId}(hc:cX P g=true):∀ args w,(callFunc g args).run P w= .ok (.enter g args) w:=fun args w=>by
 unfold cX at hc;cases hf:P.funcs[g]? with
 | none=>simp[hf]at hc
 | some fn=>
  simp only[hf,Bool.and_eq_true]at hc;obtain⟨h1,h2⟩:=hc;have h3:¬fn.name= "runtime.NumGoroutine" :=by simpa using h1
  have h4:¬fn.body=none:=by cases hb:fn.body<;>simp_all
  simp[callFunc,run_program,hf,h3,h4]
theorem XG{w:World}{a:Addr}(h:w.cell? a=some v):a.block<w.heap.size:=by
 unfold World.cell? at h;cases ho:w.heap[a.block]? with
 | none=>simp[ho]at h
 | some o=>exact dy ho
end
end Go.X

namespace Go.X
open Go
def ji(p:Nat->Bool)(i:Nat):Nat->Bool:=fun j=>p j&& !Nat.beq j i
def Fl(p:Nat->Bool)(i:Nat):Nat->Bool:=fun j=>p j||Nat.beq j i
def BA(r:Nat->pZ)(i:Nat)(x:pZ):Nat->pZ:=fun j=>bif Nat.beq j i then x else r j
theorem XH{i j:Nat}(h:¬i=j):Nat.beq i j=false:=by
 cases hb:Nat.beq i j with
 | false=>rfl
 | true=>exact absurd (Nat.eq_of_beq_eq_true hb) h
def uY(p:Nat->Bool)(i:Nat):ji p i i=false:=by simp[ji]
theorem iS{p:Nat->Bool}{i j:Nat} :ji p i j=true↔p j=true/\j≠i:=by
 simp only[ji,Bool.and_eq_true,Bool.not_eq_true',ne_eq];constructor
 ·rintro⟨h1,h2⟩;exact⟨h1,fun e=>by subst e;simp at h2⟩
 ·rintro⟨h1,h2⟩;exact⟨h1,XH h2⟩
theorem jK{p:Nat->Bool}{i j:Nat} :Fl p i j=true↔p j=true\/j=i:=by
 simp only[Fl,Bool.or_eq_true];constructor
 ·rintro(h | h)
  ·exact .inl h
  ·exact .inr (by simpa using h)
 ·rintro(h | h)
  ·exact .inl h
  ·exact .inr (by simpa using h)
theorem nf(r:Nat->pZ)(i:Nat)(x:pZ):BA r i x i=x:=by simp[BA]
theorem lT(r:Nat->pZ){i j:Nat}(x:pZ)(h:j≠i):BA r i x j=r j:=by
 simp[BA,XH h]
theorem Fo{p:Nat->Bool}{i:Nat}(h:p i=true):Fl (ji p i) i=p:=by
 funext j;rw[Bool.eq_iff_iff,jK,iS];constructor
 ·rintro(h1 | rfl)
  ·exact h1.1
  ·exact h
 ·intro hj;by_cases c:j=i
  ·exact .inr c
  ·exact .inl ⟨hj,c⟩
abbrev pZ.Cx(x:pZ):aF:=.row x.v x.e x.sz x.k x.xs
section
variable {W w:World} {S:Nat->Nat->Prop} {H:List aF}
def oC{p:Nat->Bool}{r:Nat->pZ}(i:Nat)(hp:p i=true)(h:XM W S (.aW p r::H) w):XM W S ((r i).Cx:: .aW (ji p i) r::H) w:=by
 obtain⟨⟨hh,pK⟩,hk,hm⟩:=h;rw[List.pairwise_cons]at pK;have hf:(aF.aW p r).holds w:=hh _ sq;have ha1:∀ b o,((r i).Cx).gm b o->(aF.aW p r).gm b o:=fun b o hb=>⟨i,hp,hb⟩;have ha2:∀ b o,(aF.aW (ji p i) r).gm b o->(aF.aW p r).gm b o:=fun b o ⟨j,hj,hb⟩=>⟨j,(iS.1 hj).1,hb⟩;refine⟨⟨fun e he=> ?_,List.pairwise_cons.2 ⟨fun e he _ b o h1 h2=> ?_,List.pairwise_cons.2 ⟨fun e he hw b o h1 h2=>pK.1 e he (by simp[aF.wr]) b o (ha2 b o h1) h2,pK.2⟩⟩⟩,hk,fun e he hw b o hb=> ?_⟩
 ·rcases List.mem_cons.1 he with rfl | he
  ·exact hf.1 i hp
  ·rcases List.mem_cons.1 he with rfl | he
   ·exact⟨fun j hj=>hf.1 j (iS.1 hj).1,fun j k b hj hk=>hf.2 j k b (iS.1 hj).1 (iS.1 hk).1⟩
   ·exact hh e (List.mem_cons_of_mem _ he)
 ·rcases List.mem_cons.1 he with rfl | he
  ·obtain⟨j,hj,hb⟩:=h2;have IM:=iS.1 hj;exact hf.2 i j b hp IM.1 (Ne.symm IM.2) h1 hb
  ·exact pK.1 e he (by simp[aF.wr]) b o (ha1 b o h1) h2
 ·rcases List.mem_cons.1 he with rfl | he
  ·exact hm _ sq rfl b o (ha1 b o hb)
  ·rcases List.mem_cons.1 he with rfl | he
   ·exact hm _ sq rfl b o (ha2 b o hb)
   ·exact hm e (List.mem_cons_of_mem _ he) hw b o hb
def qy{p:Nat->Bool}{r:Nat->pZ}(i:Nat){x:pZ}(hp:p i=false)(h:XM W S (x.Cx:: .aW p r::H) w):XM W S (.aW (Fl p i) (BA r i x)::H) w:=by
 obtain⟨⟨hh,pK⟩,hk,hm⟩:=h;rw[List.pairwise_cons,List.pairwise_cons]at pK;obtain⟨hx,Sq,PT⟩:=pK;have hf:(aF.aW p r).holds w:=hh _ sq;have fN:∀ j,p j=true->j≠i:=fun j hj e=>by subst e;rw[hp]at hj;cases hj
 have har:∀ b o,(aF.aW (Fl p i) (BA r i x)).gm b o->x.Cx.gm b o\/(aF.aW p r).gm b o:=fun b o ⟨j,hj,hb⟩=>by
  rcases jK.1 hj with h1 | rfl
  ·rw[lT _ _ (fN j h1)]at hb;exact .inr ⟨j,h1,hb⟩
  ·rw[nf]at hb;exact .inl hb
 refine⟨⟨fun e he=> ?_,List.pairwise_cons.2 ⟨fun e he _ b o h1 h2=> ?_,PT⟩⟩,hk,fun e he hw b o hb=> ?_⟩
 ·rcases List.mem_cons.1 he with rfl | he
  ·refine⟨fun j hj=> ?_,fun j k b hj BU hjk h1 h2=> ?_⟩
   ·rcases jK.1 hj with h1 | rfl
    ·rw[lT _ _ (fN j h1)];exact hf.1 j h1
    ·rw[nf];exact hh x.Cx sq
   ·have hxf:∀ l,p l=true->x.v.ownBlock=some b->(r l).v.ownBlock=some b->False:=fun l hl e1 e2=>hx (.aW p r) sq (by simp[aF.wr]) b 0 e1 ⟨l,hl,e2⟩;rcases jK.1 hj with q1 | rfl
    ·rw[lT _ _ (fN j q1)]at h1;rcases jK.1 BU with q2 | rfl
     ·rw[lT _ _ (fN k q2)]at h2;exact hf.2 j k b q1 q2 hjk h1 h2
     ·rw[nf]at h2;exact hxf j q1 h2 h1
    ·rw[nf]at h1;rcases jK.1 BU with q2 | rfl
     ·rw[lT _ _ (fN k q2)]at h2;exact hxf k q2 h1 h2
     ·exact hjk rfl
  ·exact hh e (by simp[he])
 ·rcases har b o h1 with h3 | h3
  ·exact hx e (by simp[he]) (by simp[aF.wr]) b o h3 h2
  ·exact Sq e he (by simp[aF.wr]) b o h3 h2
 ·rcases List.mem_cons.1 he with rfl | he
  ·rcases har b o hb with h3 | h3
   ·exact hm x.Cx sq rfl b o h3
   ·exact hm _ sq rfl b o h3
  ·exact hm e (by simp[he]) hw b o hb
theorem XM.part{b o n off m:Nat}{C:Nat->Value}(hn:off+m<=n)(h:XM W S (.cells b o n C::H) w):XM W S (.cells b (o+off) m (fun i=>C (off+i)):: .cells b o off C:: .cells b (o+off+m) (n-off-m) (fun i=>C (off+m+i))::H) w:=by
 obtain⟨⟨hh,pK⟩,hk,hm⟩:=h;rw[List.pairwise_cons]at pK;obtain⟨A,t,lo,hi,h1,h2⟩:=hh (.cells b o n C) sq;have sub:∀ (o' n':Nat) (C':Nat->Value),o<=o'->o'+n'<=o+n->∀ b' i,(aF.cells b o' n' C').gm b' i->(aF.cells b o n C).gm b' i:=fun o' n' C' h3 h4 b' i ⟨e1,e2,e3⟩=>⟨e1,og,og⟩;have s1:=sub (o+off) m (fun i=>C (off+i)) og og;have s2:=sub o off C og og;have s3:=sub (o+off+m) (n-off-m) (fun i=>C (off+m+i)) og og;refine⟨⟨fun e he=> ?_,?_⟩,hk,fun e he hw b' i hb=> ?_⟩
 ·simp only[List.mem_cons]at he;rcases he with rfl | rfl | rfl | he
  ·refine⟨A,t,lo,hi,h1,fun i Ir=> ?_⟩;have:=h2 (off+i) og;rw[show o+off+i=o+(off+i)from og];exact this
  ·exact⟨A,t,lo,hi,h1,fun i Ir=>h2 i og⟩
  ·refine⟨A,t,lo,hi,h1,fun i Ir=> ?_⟩;have:=h2 (off+m+i) og;rw[show o+off+m+i=o+(off+m+i)from og];exact this
  ·exact hh e (by simp[he])
 ·refine List.pairwise_cons.2 ⟨fun e he _ b' i h3 h4=> ?_,List.pairwise_cons.2 ⟨fun e he _ b' i h3 h4=> ?_,List.pairwise_cons.2 ⟨fun e he _ b' i h3 h4=>pK.1 e he (by simp[aF.wr]) b' i (s3 b' i h3) h4,pK.2⟩⟩⟩
  ·simp only[List.mem_cons]at he;rcases he with rfl | rfl | he
   ·obtain⟨_,a1,a2⟩:=h3;obtain⟨_,a3,a4⟩:=h4;omega
   ·obtain⟨_,a1,a2⟩:=h3;obtain⟨_,a3,a4⟩:=h4;omega
   ·exact pK.1 e he (by simp[aF.wr]) b' i (s1 b' i h3) h4
  ·simp only[List.mem_cons]at he;rcases he with rfl | he
   ·obtain⟨_,a1,a2⟩:=h3;obtain⟨_,a3,a4⟩:=h4;omega
   ·exact pK.1 e he (by simp[aF.wr]) b' i (s2 b' i h3) h4
 ·simp only[List.mem_cons]at he;rcases he with rfl | rfl | rfl | he
  ·exact hm (.cells b o n C) sq rfl b' i (s1 b' i hb)
  ·exact hm (.cells b o n C) sq rfl b' i (s2 b' i hb)
  ·exact hm (.cells b o n C) sq rfl b' i (s3 b' i hb)
  ·exact hm e (by simp[he]) hw b' i hb
def XM.wL{b o n off m:Nat}{C C1 C2 C3:Nat->Value}(hn:off+m<=n)(e1:∀ i,i<off->C i=C1 i)(e2:∀ i,i<m->C (off+i)=C2 i)(e3:∀ i,i<n-off-m->C (off+m+i)=C3 i)(h:XM W S (.cells b (o+off) m C2:: .cells b o off C1:: .cells b (o+off+m) (n-off-m) C3::H) w)(hm0:0<m):XM W S (.cells b o n C::H) w:=by
 obtain⟨⟨hh,pK⟩,hk,hm⟩:=h;simp only[List.pairwise_cons]at pK;obtain⟨p1,p2,p3,p4⟩:=pK;obtain⟨A,t,lo,hi,h1,h2⟩:=hh (.cells b (o+off) m C2) sq;obtain⟨A',t',lo',Ir,h1',h2'⟩:=hh (.cells b o off C1) sq;obtain⟨A'',t'',akN,akO,abv,ahv⟩:=hh (.cells b (o+off+m) (n-off-m) C3) sq;rw[h1]at h1' abv;simp only[Option.some.injEq,Obj.cells.injEq,Prod.mk.injEq]at h1' abv;obtain⟨rfl,rfl,rfl,rfl⟩:=h1';obtain⟨rfl,rfl,rfl,rfl⟩:=abv;have cut:∀ b' i,(aF.cells b o n C).gm b' i->(aF.cells b (o+off) m C2).gm b' i\/(aF.cells b o off C1).gm b' i\/(aF.cells b (o+off+m) (n-off-m) C3).gm b' i:=fun b' i ⟨q1,q2,q3⟩=>by
  by_cases c1:i<o+off
  ·exact .inr (.inl ⟨q1,q2,c1⟩)
  ·by_cases c2:i<o+off+m
   ·exact .inl ⟨q1,og,c2⟩
   ·exact .inr (.inr ⟨q1,og,og⟩)
 refine⟨⟨fun e he=> ?_,List.pairwise_cons.2 ⟨fun e he _ b' i h3 h4=> ?_,p4⟩⟩,hk,fun e he hw b' i hb=> ?_⟩
 ·rcases List.mem_cons.1 he with rfl | he
  ·refine⟨A,t,lo,hi,h1,fun i P7=> ?_⟩;by_cases c1:i<off
   ·rw[e1 i c1];exact h2' i c1
   ·by_cases c2:i<off+m
    ·have:=h2 (i-off) og;have e:=e2 (i-off) og;rw[show off+(i-off)=i from og]at e;rw[show o+off+(i-off)=o+i from og]at this;rw[e];exact this
    ·have:=ahv (i-off-m) og;have e:=e3 (i-off-m) og;rw[show off+m+(i-off-m)=i from og]at e;rw[show o+off+m+(i-off-m)=o+i from og]at this;rw[e];exact this
  ·exact hh e (by simp[he])
 ·rcases cut b' i h3 with h | h | h
  ·exact p1 e (by simp[he]) (by simp[aF.wr]) b' i h h4
  ·exact p2 e (by simp[he]) (by simp[aF.wr]) b' i h h4
  ·exact p3 e he (by simp[aF.wr]) b' i h h4
 ·rcases List.mem_cons.1 he with rfl | he
  ·rcases cut b' i hb with h | h | h
   ·exact hm _ sq rfl b' i h
   ·exact hm (.cells b o off C1) sq rfl b' i h
   ·exact hm (.cells b (o+off+m) (n-off-m) C3) sq rfl b' i h
  ·exact hm e (by simp[he]) hw b' i hb
def IY(C:Nat->Nat->Value)(i:Nat)(x:Nat->Value):Nat->Nat->Value:=fun j=>bif Nat.beq j i then x else C j
def IZ(g:Nat->Nat)(i b:Nat):Nat->Nat:=fun j=>bif Nat.beq j i then b else g j
theorem GX(C:Nat->Nat->Value)(i:Nat)(x:Nat->Value):IY C i x i=x:=by simp[IY]
theorem GY(C:Nat->Nat->Value){i j:Nat}(x:Nat->Value)(h:j≠i):IY C i x j=C j:=by simp[IY,XH h]
theorem uZ(g:Nat->Nat)(i b:Nat):IZ g i b i=b:=by simp[IZ]
theorem rH(g:Nat->Nat){i j:Nat}(b:Nat)(h:j≠i):IZ g i b j=g j:=by simp[IZ,XH h]
def Cy{p:Nat->Bool}{g:Nat->Nat}{n:Nat}{C:Nat->Nat->Value}(i:Nat)(hp:p i=true)(h:XM W S (.dR p g n C::H) w):XM W S (.cells (g i) 0 n (C i):: .dR (ji p i) g n C::H) w:=by
 obtain⟨⟨hh,pK⟩,hk,hm⟩:=h;rw[List.pairwise_cons]at pK;have hf:(aF.dR p g n C).holds w:=hh _ sq;have ha1:∀ b o,(aF.cells (g i) 0 n (C i)).gm b o->(aF.dR p g n C).gm b o:=fun b o ⟨e1,e2,e3⟩=>⟨i,hp,e1,og⟩;have ha2:∀ b o,(aF.dR (ji p i) g n C).gm b o->(aF.dR p g n C).gm b o:=fun b o ⟨j,hj,hb⟩=>⟨j,(iS.1 hj).1,hb⟩;refine⟨⟨fun e he=> ?_,List.pairwise_cons.2 ⟨fun e he _ b o h1 h2=> ?_,List.pairwise_cons.2 ⟨fun e he hw b o h1 h2=>pK.1 e he (by simp[aF.wr]) b o (ha2 b o h1) h2,pK.2⟩⟩⟩,hk,fun e he hw b o hb=> ?_⟩
 ·rcases List.mem_cons.1 he with rfl | he
  ·obtain⟨A,t,lo,hi,h1,h2⟩:=hf.1 i hp;exact⟨A,t,lo,hi,h1,fun j hj=>by rw[Nat.zero_add];exact h2 j hj⟩
  ·rcases List.mem_cons.1 he with rfl | he
   ·exact⟨fun j hj=>hf.1 j (iS.1 hj).1,fun j k hj hk=>hf.2 j k (iS.1 hj).1 (iS.1 hk).1⟩
   ·exact hh e (List.mem_cons_of_mem _ he)
 ·rcases List.mem_cons.1 he with rfl | he
  ·obtain⟨j,hj,hb,_⟩:=h2;have IM:=iS.1 hj;exact hf.2 i j hp IM.1 (Ne.symm IM.2) (h1.1.symm.trans hb)
  ·exact pK.1 e he (by simp[aF.wr]) b o (ha1 b o h1) h2
 ·rcases List.mem_cons.1 he with rfl | he
  ·exact hm _ sq rfl b o (ha1 b o hb)
  ·rcases List.mem_cons.1 he with rfl | he
   ·exact hm (.dR p g n C) sq rfl b o (ha2 b o hb)
   ·exact hm e (List.mem_cons_of_mem _ he) hw b o hb
def Fp{p:Nat->Bool}{g:Nat->Nat}{n b0:Nat}{C:Nat->Nat->Value}{x:Nat->Value}(i:Nat)(hn:0<n)(hp:p i=false)(h:XM W S (.cells b0 0 n x:: .dR p g n C::H) w):XM W S (.dR (Fl p i) (IZ g i b0) n (IY C i x)::H) w:=by
 obtain⟨⟨hh,pK⟩,hk,hm⟩:=h;rw[List.pairwise_cons,List.pairwise_cons]at pK;obtain⟨hx,Sq,PT⟩:=pK;have hf:(aF.dR p g n C).holds w:=hh _ sq;have hc:(aF.cells b0 0 n x).holds w:=hh _ sq;have fN:∀ j,p j=true->j≠i:=fun j hj e=>by subst e;rw[hp]at hj;cases hj
 have hxb:∀ j,p j=true->g j≠b0:=fun j hj e=>hx (.dR p g n C) sq (by simp[aF.wr]) b0 0 ⟨rfl,og,og⟩ ⟨j,hj,e.symm,hn⟩;have har:∀ b o,(aF.dR (Fl p i) (IZ g i b0) n (IY C i x)).gm b o->(aF.cells b0 0 n x).gm b o\/(aF.dR p g n C).gm b o:=fun b o ⟨j,hj,hb,ho⟩=>by
  rcases jK.1 hj with h1 | rfl
  ·rw[rH _ _ (fN j h1)]at hb;exact .inr ⟨j,h1,hb,ho⟩
  ·rw[uZ]at hb;exact .inl ⟨hb,og,og⟩
 refine⟨⟨fun e he=> ?_,List.pairwise_cons.2 ⟨fun e he _ b o h1 h2=> ?_,PT⟩⟩,hk,fun e he hw b o hb=> ?_⟩
 ·rcases List.mem_cons.1 he with rfl | he
  ·refine⟨fun j hj=> ?_,fun j k hj BU hjk=> ?_⟩
   ·rcases jK.1 hj with h1 | rfl
    ·rw[rH _ _ (fN j h1),GY _ _ (fN j h1)];exact hf.1 j h1
    ·rw[uZ,GX];obtain⟨A,t,lo,hi,h1,h2⟩:=hc;exact⟨A,t,lo,hi,h1,fun m LR=>by have:=h2 m LR;rwa[Nat.zero_add]at this⟩
   ·rcases jK.1 hj with q1 | rfl
    ·rw[rH _ _ (fN j q1)];rcases jK.1 BU with q2 | rfl
     ·rw[rH _ _ (fN k q2)];exact hf.2 j k q1 q2 hjk
     ·rw[uZ];exact hxb j q1
    ·rw[uZ];rcases jK.1 BU with q2 | rfl
     ·rw[rH _ _ (fN k q2)];exact fun e=>hxb k q2 e.symm
     ·exact absurd rfl hjk
  ·exact hh e (by simp[he])
 ·rcases har b o h1 with h3 | h3
  ·exact hx e (by simp[he]) (by simp[aF.wr]) b o h3 h2
  ·exact Sq e he (by simp[aF.wr]) b o h3 h2
 ·rcases List.mem_cons.1 he with rfl | he
  ·rcases har b o hb with h3 | h3
   ·exact hm (.cells b0 0 n x) sq rfl b o h3
   ·exact hm _ sq rfl b o h3
  ·exact hm e (by simp[he]) hw b o hb
def Cz{g:Nat->Nat}{n:Nat}{C:Nat->Nat->Value}(h:XM W S H w):XM W S (.dR (fun _=>false) g n C::H) w:=by
 obtain⟨⟨hh,pK⟩,hk,hm⟩:=h;refine⟨⟨fun e he=> ?_,List.pairwise_cons.2 ⟨fun e _ _ b o h1 _=> ?_,pK⟩⟩,hk,fun e he hw b o hb=> ?_⟩
 ·rcases List.mem_cons.1 he with rfl | he
  ·exact⟨fun i hi=>(by cases hi),fun i j hi=>(by cases hi)⟩
  ·exact hh e he
 ·obtain⟨i,hi,_⟩:=h1;cases hi
 ·rcases List.mem_cons.1 he with rfl | he
  ·obtain⟨i,hi,_⟩:=hb;cases hi
  ·exact hm e he hw b o hb
def Fq{r:Nat->pZ}(h:XM W S H w):XM W S (.aW (fun _=>false) r::H) w:=by
 obtain⟨⟨hh,pK⟩,hk,hm⟩:=h;refine⟨⟨fun e he=> ?_,List.pairwise_cons.2 ⟨fun e _ _ b o h1 _=> ?_,pK⟩⟩,hk,fun e he hw b o hb=> ?_⟩
 ·rcases List.mem_cons.1 he with rfl | he
  ·exact⟨fun i hi=>(by cases hi),fun i j b hi=>(by cases hi)⟩
  ·exact hh e he
 ·obtain⟨i,hi,_⟩:=h1;cases hi
 ·rcases List.mem_cons.1 he with rfl | he
  ·obtain⟨i,hi,_⟩:=hb;cases hi
  ·exact hm e he hw b o hb
end
end Go.X

namespace Go.X
open Go
variable{s:ByteArray}{op:Op}{x y:Operand}
inductive SV where
 | int (k:IntKind) (z:Int)
 | str (s:ByteArray)
 | az (b o i:Nat)
 | nil
 | err (T:TypeId) (e:Int)
 | ifc (T:TypeId) (v:Value)
 | pn
 | tt
 | ff
 | N3 (p:Prop) [inst:Decidable p]
 | bool (b:Bool)
 | slc (p:Option Addr) (n c:Nat)
 | un
 | val (v:Value)
def aS:SV->Value
 | .int k z=>.int k z
 | .str s=>.string s
 | .az b o i=>Go.X.az b o i
 | .nil=>.nilIface
 | .err T e=>ay T e
 | .ifc T v=>.iface T v
 | .pn=>.pointer none
 | .tt=>.bool true
 | .ff=>.bool false
 | @SV.N3 p i=>.bool (@decide p i)
 | .bool b=>.bool b
 | .slc p n c=>.slice p n c
 | .un=>undef
 | .val v=>v
def bG:List SV->List Value
 | []=>[]
 | s::r=>(aS s)::bG r
inductive SW where
 | one (s:SV)
 | tup (l:List SV)
def aU:SW->Value
 | .one s=>(aS s)
 | .tup l=>.tuple (bG l).toArray
abbrev SF:=List (Nat×SW)
def dn:SF->PF
 | []=>[]
 | (i,s)::r=>(i,(aU s))::dn r
def sk:SF->Nat->Option SW
 | [],_=>none
 | (i,s)::r,j=>match Nat.beq i j with
  | true=>some s
  | false=>sk r j
theorem AQ:∀ {L:SF} {j:Nat} {s:SW},sk L j=some s->lk (dn L) j=some (aU s)
 | [],_,_,h=>by simp[sk]at h
 | (i,t)::r,j,s,h=>by
  simp only[sk]at h;simp only[dn,lk];cases hb:Nat.beq i j with
  | true=>simp only[hb,Option.some.injEq]at h;subst h;rfl
  | false=>simp only[hb]at h;exact AQ h
def bN:Value->SV
 | .int k z=>.int k z
 | .string s=>.str s
 | .nilIface=>.nil
 | .pointer none=>.pn
 | .bool true=>.tt
 | .bool false=>.ff
 | .slice p n c=>.slc p n c
 | v=>.val v
def XJ(v:Value):aS (bN v)=v:=by
 unfold bN;split<;>rfl
def sv(L:SF):Operand->Option SW
 | .tmp t=>sk L t
 | .const v=>some (.one (bN v))
 | .global g=>some (.one (.val (.pointer (some ⟨g,0,none⟩))))
 | .func f=>some (.one (.val (.func (.func f) #[] #[])))
theorem db{L:SF}{s:SW}(h:sv L x=some s):ev (dn L) x=some (aU s):=by
 cases x with
 | tmp t=>exact AQ h
 | const v=>simp only[sv,Option.some.injEq]at h;subst h;exact congrArg some (XJ v).symm
 | global g=>simp only[sv,Option.some.injEq]at h;subst h;rfl
 | func f=>simp only[sv,Option.some.injEq]at h;subst h;rfl
inductive BT where
 | lf
 | nd (k:Nat) (vs:List Nat) (l r:BT)
def BT.nth:List Nat->Nat->Option Nat
 | [],_=>none
 | v::_,0=>some v
 | _::r,j+1=>BT.nth r j
def BT.get:BT->Nat->Option Nat
 | .lf,_=>none
 | .nd k vs l r,j=>match Nat.blt j k with
  | true=>l.get j
  | false=>match BT.nth vs (Nat.sub j k)with
   | some v=>some v
   | none=>r.get j
def BT.gB(f:Nat->Nat->Bool):Nat->List Nat->Bool
 | _,[]=>true
 | k,v::r=>f k v&&BT.gB f (k+1) r
def BT.all(f:Nat->Nat->Bool):BT->Bool
 | .lf=>true
 | .nd k vs l r=>BT.gB f k vs&&l.all f&&r.all f
def AR{f:Nat->Nat->Bool} :∀ {vs:List Nat} {k i v:Nat},BT.gB f k vs=true->BT.nth vs i=some v->f (k+i) v=true
 | [],_,_,_,_,h=>by simp[BT.nth]at h
 | u::r,k,0,v,ha,h=>by
  simp only[BT.nth,Option.some.injEq]at h;subst h;simp only[BT.gB,Bool.and_eq_true]at ha;exact ha.1
 | u::r,k,i+1,v,ha,h=>by
  simp only[BT.nth]at h;simp only[BT.gB,Bool.and_eq_true]at ha;have:=AR ha.2 h;rwa[Nat.add_right_comm]at this
def jj{f:Nat->Nat->Bool} :∀ {t:BT} {j v:Nat},t.all f=true->t.get j=some v->f j v=true
 | .lf,_,_,_,h=>by simp[BT.get]at h
 | .nd k vs l r,j,v,ha,h=>by
  simp only[BT.all,Bool.and_eq_true]at ha;simp only[BT.get]at h;cases hc:Nat.blt j k with
  | true=>simp only[hc]at h;exact jj ha.1.2 h
  | false=>
   simp only[hc]at h;cases hn:BT.nth vs (Nat.sub j k)with
   | none=>simp only[hn]at h;exact jj ha.2 h
   | some u=>
    simp only[hn,Option.some.injEq]at h;subst h;have h1:=AR ha.1.1 hn;have h2:¬j<k:=fun q=>by rw[show Nat.blt j k=true from Nat.ble_eq_true_of_le q]at hc;cases hc
    rwa[show k+Nat.sub j k=j from by show k+(j-k)=j;omega]at h1
structure I0 where
 fo:BT
 un:BT
 sz:BT
 an:BT
 asz:BT
 sl:BT
 fn:BT
def tC(P:Program)(t c:Nat):Bool:=match P.underlying t with
 | some (.interface _)=>Nat.beq c 1
 | some (.pointer _)=>Nat.beq c 2
 | some .string=>Nat.beq c 3
 | some (.slice _)=>Nat.beq c 4
 | some .bool=>Nat.beq c 5
 | some (.struct _)=>Nat.beq c 7
 | some (.array _ _)=>Nat.beq c 7
 | some _=>Nat.beq c 6
 | none=>false
def I0.ok(P:Program)(t:I0):Bool:=t.fo.all (fun k v=>match eI P (k/64) (k%64)with
 | some u=>Nat.beq u v
 | none=>false)&&t.un.all (tC P)&&t.sz.all (fun k v=>match fm P k with
 | some u=>Nat.beq u v
 | none=>false)&&t.an.all (fun k v=>match vS P k with
 | some u=>Nat.beq u.1 v
 | none=>false)&&t.asz.all (fun k v=>match vS P k with
 | some u=>Nat.beq u.2 v
 | none=>false)&&t.sl.all (fun k v=>match uV P k with
 | some u=>Nat.beq u.2 v
 | none=>false)&&t.fn.all fun k _=>cX P k
class Tb (P:Program) where
 t:I0
 ok:t.ok P=true
def Tb.fo{P:Program}[h:Tb P]{s f k:Nat}(hf:f<64)(hk:h.t.fo.get (s*64+f)=some k):eI P s f=some k:=by
 have h1:=h.ok;simp only[I0.ok,Bool.and_eq_true]at h1;have h2:=jj h1.1.1.1.1.1.1 hk;rw[show(s*64+f)/64=s from og,show(s*64+f)%64=f from og]at h2;cases hx:eI P s f with
 | none=>simp[hx]at h2
 | some u=>simp only[hx]at h2;rw[Nat.eq_of_beq_eq_true h2]
theorem Tb.un{P:Program}[h:Tb P]{t c:Nat}(hk:h.t.un.get t=some c):tC P t c=true:=by
 have h1:=h.ok;simp only[I0.ok,Bool.and_eq_true]at h1;exact jj h1.1.1.1.1.1.2 hk
theorem Tb.sz{P:Program}[h:Tb P]{t c:Nat}(hk:h.t.sz.get t=some c):fm P t=some c:=by
 have h1:=h.ok;simp only[I0.ok,Bool.and_eq_true]at h1;have h2:=jj h1.1.1.1.1.2 hk;cases hx:fm P t with
 | none=>simp[hx]at h2
 | some u=>simp only[hx]at h2;rw[Nat.eq_of_beq_eq_true h2]
def Tb.ar{P:Program}[h:Tb P]{t c s:Nat}(hk:h.t.an.get t=some c)(hs:h.t.asz.get t=some s):vS P t=some (c,s):=by
 have h1:=h.ok;simp only[I0.ok,Bool.and_eq_true]at h1;have h2:=jj h1.1.1.1.2 hk;have h3:=jj h1.1.1.2 hs;cases hx:vS P t with
 | none=>simp[hx]at h2
 | some u=>simp only[hx]at h2 h3;rw[<-Nat.eq_of_beq_eq_true h2,<-Nat.eq_of_beq_eq_true h3]
def Tb.sl{P:Program}[h:Tb P]{t c:Nat}(hk:h.t.sl.get t=some c):∃ e,uV P t=some (e,c):=by
 have h1:=h.ok;simp only[I0.ok,Bool.and_eq_true]at h1;have h2:=jj h1.1.2 hk;cases hx:uV P t with
 | none=>simp[hx]at h2
 | some u=>simp only[hx]at h2;exact⟨u.1,by rw[<-Nat.eq_of_beq_eq_true h2]⟩
def Tb.fn{P:Program}[h:Tb P]{t c:Nat}(hk:h.t.fn.get t=some c):cX P t=true:=by
 have h1:=h.ok;simp only[I0.ok,Bool.and_eq_true]at h1;exact jj h1.2 hk
def XK{P:Program}{t c:Nat}(h:tC P t c=true)(hc:Nat.blt c 7=true):jR P t=true:=by
 unfold tC at h;unfold jR;split at h<;>first | (rename_i e;rw[e];done) | skip
 all_goals first | (have:=Nat.eq_of_beq_eq_true h;subst this;simp at hc;done) | skip
 all_goals first | (rename_i e;rw[e];split<;>simp_all;done) | (simp_all;done)
def LS{P:Program}{t:Nat}(h:tC P t 7=true):n5 P t=true:=by
 unfold tC at h;unfold n5;split at h<;>first | (rename_i e;rw[e];done) | (simp at h;done)
def un1{P:Program}{t:Nat}(h:tC P t 1=true):∃ ms,P.underlying t=some (.interface ms):=by
 unfold tC at h;split at h<;>first | exact⟨_,aq⟩ | cases h
def un2{P:Program}{t:Nat}(h:tC P t 2=true):∃ e,P.underlying t=some (.pointer e):=by
 unfold tC at h;split at h<;>first | exact⟨_,aq⟩ | cases h
def un3{P:Program}{t:Nat}(h:tC P t 3=true):P.underlying t=some .string:=by
 unfold tC at h;split at h<;>first | assumption | cases h
def un4{P:Program}{t:Nat}(h:tC P t 4=true):∃ e,P.underlying t=some (.slice e):=by
 unfold tC at h;split at h<;>first | exact⟨_,aq⟩ | cases h
def unV{P:Program}{t c:Nat}(h:tC P t c=true)(hc:Nat.beq c 1=false):∃ ds,P.underlying t=some ds/\∀ ms,ds≠ .interface ms:=by
 cases hu:P.underlying t with
 | none=>simp[tC,hu]at h
 | some ds=>
  refine⟨ds,rfl,fun ms e=> ?_⟩;subst e;simp only[tC,hu]at h;rw[hc]at h;cases h
def Tq:List SV->Nat->Option SW
 | [],_=>none
 | s::_,0=>some (.one s)
 | _::r,k+1=>Tq r k
def I1:∀ {l:List SV} {k:Nat} {s:SW},Tq l k=some s->LI (bG l) k=some (aU s)
 | [],_,_,h=>by simp[Tq]at h
 | _::_,0,_,h=>by simp only[Tq,Option.some.injEq]at h;subst h;rfl
 | _::r,k+1,_,h=>I1 (l:=r) h
def ae1(a b:Int):BinOp->Option SW
 | .eql=>some (.one (.N3 (a=b)))
 | .neq=>some (.one (.N3 (a≠b)))
 | .lss=>some (.one (.N3 (a<b)))
 | .leq=>some (.one (.N3 (a<=b)))
 | .gtr=>some (.one (.N3 (a>b)))
 | .geq=>some (.one (.N3 (a>=b)))
 | _=>none
def ae2(a b:ByteArray):BinOp->Option SW
 | .eql=>some (.one (.N3 (a=b)))
 | .neq=>some (.one (.N3 (a≠b)))
 | .lss=>some (.one (.bool (Op.bytesLess a.toList b.toList)))
 | _=>none
def EA(T:I0)(t c:Nat)(r:SV)(r':SV):BinOp->Option SW
 | .eql=>match T.un.get t with
  | some d=>match Nat.beq d c with
   | true=>some (.one r)
   | false=>none
  | none=>none
 | .neq=>match T.un.get t with
  | some d=>match Nat.beq d c with
   | true=>some (.one r')
   | false=>none
  | none=>none
 | _=>none
def zC:Operand->Bool
 | .const .nilIface=>true
 | _=>false
def N4:Operand->Bool
 | .const (.pointer none)=>true
 | _=>false
def Ts(T:I0)(L:SF)(op:BinOp)(t:TypeId)(x y:Operand):Option SW:=match sv L x with
 | some (.one (.int k a))=>match sv L y with
  | some (.one (.int k' b))=>match decEq k k' with
   | .isTrue _=>ae1 a b op
   | .isFalse _=>none
  | _=>none
 | some (.one (.str a))=>match sv L y with
  | some (.one (.str b))=>ae2 a b op
  | _=>none
 | some (.one (.err _ e))=>match zC y with
  | true=>EA T t 1 (.N3 (e=0)) (.N3 (e≠0)) op
  | false=>none
 | some (.one .nil)=>match zC y with
  | true=>EA T t 1 .tt .ff op
  | false=>none
 | some (.one (.ifc _ _))=>match zC y with
  | true=>EA T t 1 .ff .tt op
  | false=>none
 | some (.one (.az _ _ _))=>match N4 y with
  | true=>EA T t 2 .ff .tt op
  | false=>none
 | some (.one .pn)=>match N4 y with
  | true=>EA T t 2 .tt .ff op
  | false=>none
 | _=>none
def Tt(T:I0)(L:SF)(b:Builtin)(xs:Array Operand)(ts:Array TypeId):Option SW:=match b with
 | .len=>match xs.toList with
  | [x]=>match ts.toList with
   | [t]=>match T.un.get t with
    | some c=>match sv L x with
     | some (.one (.str s))=>match Nat.beq c 3 with
      | true=>some (.one (.int .i64 s.size))
      | false=>none
     | some (.one (.slc _ n _))=>match Nat.beq c 4 with
      | true=>some (.one (.int .i64 n))
      | false=>none
     | _=>none
    | none=>none
   | _=>none
  | _=>none
 | .min=>match xs.toList with
  | [x,y]=>match ts.toList with
   | [_,_]=>match sv L x with
    | some (.one (.int k a))=>match sv L y with
     | some (.one (.int k' b))=>match decEq k k' with
      | .isTrue _=>some (.one (.int k (min a b)))
      | .isFalse _=>none
     | _=>none
    | _=>none
   | _=>none
  | _=>none
 | .max=>match xs.toList with
  | [x,y]=>match ts.toList with
   | [_,_]=>match sv L x with
    | some (.one (.int k a))=>match sv L y with
     | some (.one (.int k' b))=>match decEq k k' with
      | .isTrue _=>some (.one (.int k (max a b)))
      | .isFalse _=>none
     | _=>none
    | _=>none
   | _=>none
  | _=>none
 | _=>none
def aav:SW->Option SW
 | .one .tt=>some (.one .ff)
 | .one .ff=>some (.one .tt)
 | .one (@SV.N3 p _)=>some (.one (.N3 (¬p)))
 | .one (.bool b)=>some (.one (.bool (!b)))
 | _=>none
def aaw(u v:SW):SW->Option SW
 | .one .tt=>some u
 | .one .ff=>some v
 | _=>none
def Tu(T:I0)(L:SF):Op->Option SW
 | .move x=>sv L x
 | .assign x=>sv L x
 | .pick c x y=>match sv L x with
  | some u=>match sv L y with
   | some v=>match sv L c with
    | some t=>aaw u v t
    | none=>none
   | none=>none
  | none=>none
 | .nilCheck x=>match sv L x with
  | some (.one (.az b o i))=>some (.one (.az b o i))
  | _=>none
 | .extract x k=>match sv L x with
  | some (.tup l)=>Tq l k
  | _=>none
 | .fieldAddr s x f=>match sv L x with
  | some (.one (.az b o i))=>match Nat.blt f 64 with
   | true=>match T.fo.get (s*64+f)with
    | some k=>some (.one (.az b o (i+k)))
    | none=>none
   | false=>none
  | _=>none
 | .binOp op t x y _=>Ts T L op t x y
 | .unOp op _ x=>match op with
  | .not=>match sv L x with
   | some s=>aav s
   | none=>none
  | _=>none
 | .makeInterface t x=>match sv L x with
  | some (.one s)=>match T.un.get t with
   | some c=>match Nat.beq c 1 with
    | true=>none
    | false=>some (.one (.ifc t (aS s)))
   | none=>none
  | _=>none
 | .call c=>match c with
  | ⟨.builtin b,xs,ts⟩=>Tt T L b xs ts
  | _=>none
 | _=>none
def abx(s:ByteArray):Option SW->Option SW->Option (Prop×SW)
 | some (.one (.int _ z)),some (.one (.int _ z'))=>some (0<=z/\z<=z'/\z'<=s.size,.one (.str (s.extract z.toNat z'.toNat)))
 | _,_=>none
def aby(s:ByteArray):Option SW->Option (Prop×SW)
 | some (.one (.int _ z))=>some (0<=z/\z<=s.size,.one (.str (s.extract z.toNat s.size)))
 | _=>none
def abz(s:ByteArray):Option SW->Option (Prop×SW)
 | some (.one (.int _ z))=>some (0<=z/\z<=s.size,.one (.str (s.extract 0 z.toNat)))
 | _=>none
def arI(a b:Int):BinOp->Option (Prop×SW)
 | .add=>some (-9223372036854775808<=a+b/\a+b<=9223372036854775807,.one (.int .i64 (a+b)))
 | .sub=>some (-9223372036854775808<=a-b/\a-b<=9223372036854775807,.one (.int .i64 (a-b)))
 | .mul=>some (-9223372036854775808<=a*b/\a*b<=9223372036854775807,.one (.int .i64 (a*b)))
 | _=>none
def Tv(T:I0)(L:SF):Op->Option (Prop×SW)
 | .binOp op _ x y _=>match sv L x with
  | some (.one (.int .i64 a))=>match sv L y with
   | some (.one (.int .i64 b))=>arI a b op
   | _=>none
  | some (.one (.str a))=>match sv L y with
   | some (.one (.str b))=>match op with
    | .add=>some (a.size+b.size<=9223372036854775807,.one (.str (a++b)))
    | _=>none
   | _=>none
  | _=>none
 | .unOp op _ x=>match op with
  | .neg=>match sv L x with
   | some (.one (.int .i64 a))=>some (-9223372036854775808<=0-a/\0-a<=9223372036854775807,.one (.int .i64 (0-a)))
   | _=>none
  | _=>none
 | .indexAddr t x y=>match sv L y with
  | some (.one (.int _ z))=>match sv L x with
   | some (.one (.az b o i))=>match T.an.get t with
    | some m=>match T.asz.get t with
     | some s=>some (0<=z/\z<m,.one (.az b o (i+z.toNat*s)))
     | none=>none
    | none=>none
   | some (.one (.slc (some ⟨b,o,none⟩) n _))=>match T.sl.get t with
    | some s=>some (0<=z/\z<n,.one (.az b o (0+z.toNat*s)))
    | none=>none
   | _=>none
  | _=>none
 | .slice t x lo hi mx=>match mx with
  | none=>match T.un.get t with
   | some c=>match Nat.beq c 3 with
    | true=>match sv L x with
     | some (.one (.str s))=>match lo with
      | none=>match hi with
       | none=>none
       | some y=>abz s (sv L y)
      | some y=>match hi with
       | none=>aby s (sv L y)
       | some u=>abx s (sv L y) (sv L u)
     | _=>none
    | false=>none
   | none=>none
  | some _=>none
 | _=>none
def svs(L:SF):List Operand->Option (List SW)
 | []=>some []
 | x::r=>match sv L x with
  | some s=>match svs L r with
   | some l=>some (s::l)
   | none=>none
  | none=>none
def N5:List SW->List Value
 | []=>[]
 | s::r=>(aU s)::N5 r
theorem N6{L:SF} :∀ {xs:List Operand} {l:List SW},svs L xs=some l->PV (dn L) xs=some (N5 l)
 | [],l,h=>by simp only[svs,Option.some.injEq]at h;subst h;rfl
 | x::r,l,h=>by
  simp only[svs]at h;split at h
  ·rename_i s hx;split at h
   ·rename_i l' hr;simp only[Option.some.injEq]at h;subst h;simp only[PV,db hx,N6 hr,N5]
   ·cases h
  ·cases h
section
variable {P:Program} {n:Fr} {L:SF} {ty:TypeId} {pos:String} {af:Array Edge} {d:Nat} {gd:Option (Nat×Bool)} {φ:World->Prop}
theorem qz{a b:Nat}(h:Nat.beq a b=true):a=b:=Nat.eq_of_beq_eq_true h
def Tw[h:Tb P]{op:BinOp}{t t':TypeId}{s:SW}(hs:Ts h.t L op t x y=some s):aZ P n (dn L) φ ⟨some d,.binOp op t x y t',ty,pos,af,gd⟩ (aU s):=by
 unfold Ts at hs;split at hs
 ·rename_i k a hx;split at hs
  ·rename_i k' b hy;split at hs
   ·rename_i hk _;subst hk;cases op<;>simp only[ae1,Option.some.injEq]at hs<;>first | cases hs;done | (subst hs;exact SU (db hx) (db hy) rfl)
   ·cases hs
  ·cases hs
 ·rename_i a hx;split at hs
  ·rename_i b hy;cases op<;>simp only[ae2,Option.some.injEq]at hs<;>first | cases hs;done | (subst hs;exact S8 (db hx) (db hy) rfl)
  ·cases hs
 ·rename_i T e hx;split at hs
  ·rename_i hn;have hy:y= .const .nilIface:=by unfold zC at hn;split at hn<;>first | rfl | cases hn
   subst hy;cases op<;>simp only[EA]at hs<;>first | cases hs;done | (split at hs<;>first | cases hs;done | (split at hs<;>first | cases hs;done | (
    rename_i hg _ hb
    obtain⟨ms,hu⟩:=un1 (by rw[<-qz hb];exact Tb.un hg)
    simp only[Option.some.injEq]at hs
    subst hs
    exact Tc (db hx) hu rfl)))
  ·cases hs
 ·rename_i hx;split at hs
  ·rename_i hn;have hy:y= .const .nilIface:=by unfold zC at hn;split at hn<;>first | rfl | cases hn
   subst hy;cases op<;>simp only[EA]at hs<;>first | cases hs;done | (split at hs<;>first | cases hs;done | (split at hs<;>first | cases hs;done | (
    rename_i hg _ hb
    obtain⟨ms,hu⟩:=un1 (by rw[<-qz hb];exact Tb.un hg)
    simp only[Option.some.injEq]at hs
    subst hs
    exact IK (db hx) hu rfl)))
  ·cases hs
 ·rename_i T v hx;split at hs
  ·rename_i hn;have hy:y= .const .nilIface:=by unfold zC at hn;split at hn<;>first | rfl | cases hn
   subst hy;cases op<;>simp only[EA]at hs<;>first | cases hs;done | (split at hs<;>first | cases hs;done | (split at hs<;>first | cases hs;done | (
    rename_i hg _ hb
    obtain⟨ms,hu⟩:=un1 (by rw[<-qz hb];exact Tb.un hg)
    simp only[Option.some.injEq]at hs
    subst hs
    exact Cq (db hx) hu rfl)))
  ·cases hs
 ·rename_i b o i hx;split at hs
  ·rename_i hn;have hy:y= .const (.pointer none):=by unfold N4 at hn;split at hn<;>first | rfl | cases hn
   subst hy;cases op<;>simp only[EA]at hs<;>first | cases hs;done | (split at hs<;>first | cases hs;done | (split at hs<;>first | cases hs;done | (
    rename_i hg _ hb
    obtain⟨ms,hu⟩:=un2 (by rw[<-qz hb];exact Tb.un hg)
    simp only[Option.some.injEq]at hs
    subst hs
    exact PY (db hx) hu rfl)))
  ·cases hs
 ·rename_i hx;split at hs
  ·rename_i hn;have hy:y= .const (.pointer none):=by unfold N4 at hn;split at hn<;>first | rfl | cases hn
   subst hy;cases op<;>simp only[EA]at hs<;>first | cases hs;done | (split at hs<;>first | cases hs;done | (split at hs<;>first | cases hs;done | (
    rename_i hg _ hb
    obtain⟨ms,hu⟩:=un2 (by rw[<-qz hb];exact Tb.un hg)
    simp only[Option.some.injEq]at hs
    subst hs
    exact PZ (db hx) hu rfl)))
  ·cases hs
 ·cases hs
theorem I2{α:Type}{xs:Array α}{l:List α}(h:xs.toList=l):xs=l.toArray:=by rw[<-h]
def Tx[h:Tb P]{b:Builtin}{xs:Array Operand}{ts:Array TypeId}{s:SW}(hs:Tt h.t L b xs ts=some s):aZ P n (dn L) φ ⟨some d,.call ⟨.builtin b,xs,ts⟩,ty,pos,af,gd⟩ (aU s)/\cF (.call ⟨.builtin b,xs,ts⟩)=false:=by
 unfold Tt at hs;split at hs
 ·refine⟨?_,rfl⟩;split at hs
  ·rename_i x Ls;split at hs
   ·rename_i t hts;split at hs
    ·rename_i c hc;split at hs
     ·rename_i a hx;split at hs
      ·rename_i hb;simp only[Option.some.injEq]at hs;subst hs;rw[I2 Ls,I2 hts];exact S7 (db hx) (un3 (by rw[<-qz hb];exact Tb.un hc))
      ·cases hs
     ·rename_i p k c2 hx;split at hs
      ·rename_i hb;simp only[Option.some.injEq]at hs;subst hs;rw[I2 Ls,I2 hts];obtain⟨e,hu⟩:=un4 (by rw[<-qz hb];exact Tb.un hc);exact Xv (db hx) hu
      ·cases hs
     ·cases hs
    ·cases hs
   ·cases hs
  ·cases hs
 ·refine⟨?_,rfl⟩;split at hs
  ·rename_i x y Ls;split at hs
   ·rename_i t1 t2 hts;split at hs
    ·rename_i k a hx;split at hs
     ·rename_i k' b hy;split at hs
      ·rename_i hk _;subst hk;simp only[Option.some.injEq]at hs;subst hs;rw[I2 Ls,I2 hts];exact V.min2 (db hx) (db hy)
      ·cases hs
     ·cases hs
    ·cases hs
   ·cases hs
  ·cases hs
 ·refine⟨?_,rfl⟩;split at hs
  ·rename_i x y Ls;split at hs
   ·rename_i t1 t2 hts;split at hs
    ·rename_i k a hx;split at hs
     ·rename_i k' b hy;split at hs
      ·rename_i hk _;subst hk;simp only[Option.some.injEq]at hs;subst hs;rw[I2 Ls,I2 hts];exact V.max2 (db hx) (db hy)
      ·cases hs
     ·cases hs
    ·cases hs
   ·cases hs
  ·cases hs
 ·cases hs
def Ty[h:Tb P]{s:SW}(hs:Tu h.t L op=some s):aZ P n (dn L) φ ⟨some d,op,ty,pos,af,gd⟩ (aU s)/\cF op=false:=by
 unfold Tu at hs;split at hs
 ·exact⟨V.move (db hs),rfl⟩
 ·exact⟨V.assign (db hs),rfl⟩
 ·refine⟨?_,rfl⟩;split at hs
  ·rename_i u hx;split at hs
   ·rename_i v hy;split at hs
    ·rename_i t hc;unfold aaw at hs;split at hs
     ·simp only[Option.some.injEq]at hs;subst hs;exact V.pick (t:=true) (db hc) (db hx) (db hy) rfl
     ·simp only[Option.some.injEq]at hs;subst hs;exact V.pick (t:=false) (db hc) (db hx) (db hy) rfl
     ·cases hs
    ·cases hs
   ·cases hs
  ·cases hs
 ·refine⟨?_,rfl⟩;split at hs
  ·rename_i b o i hx;simp only[Option.some.injEq]at hs;subst hs;exact bC (db hx)
  ·cases hs
 ·refine⟨?_,rfl⟩;split at hs
  ·rename_i l hx;exact V.extract (db hx) (by simpa using I1 hs)
  ·cases hs
 ·refine⟨?_,rfl⟩;split at hs
  ·rename_i b o i hx;split at hs
   ·rename_i hf;split at hs
    ·rename_i k hk;simp only[Option.some.injEq]at hs;subst hs;exact V.fieldAddr (db hx) (Tb.fo (by simpa using hf) hk)
    ·cases hs
   ·cases hs
  ·cases hs
 ·exact⟨Tw hs,rfl⟩
 ·refine⟨?_,rfl⟩;split at hs
  ·split at hs
   ·rename_i t hx;unfold aav at hs;split at hs
    ·simp only[Option.some.injEq]at hs;subst hs;exact V.not (b:=true) (db hx)
    ·simp only[Option.some.injEq]at hs;subst hs;exact V.not (b:=false) (db hx)
    ·simp only[Option.some.injEq]at hs;subst hs;exact abm (db hx)
    ·simp only[Option.some.injEq]at hs;subst hs;exact V.not (db hx)
    ·cases hs
   ·cases hs
  ·cases hs
 ·refine⟨?_,rfl⟩;split at hs
  ·rename_i u hx;split at hs
   ·rename_i c hc;split at hs
    ·cases hs
    ·rename_i hb;simp only[Option.some.injEq]at hs;subst hs;obtain⟨ds,hu,hn⟩:=unV (Tb.un hc) hb;exact AO (db hx) hu hn
   ·cases hs
  ·cases hs
 ·split at hs
  ·exact Tx hs
  ·cases hs
 ·cases hs
def XL{u:Operand}{t:TypeId}{q:Prop}{v:SW}(ht:P.underlying t=some .string)(hx:ev (dn L) x=some (.string s))(h:abx s (sv L y) (sv L u)=some (q,v))(hq:q):aZ P n (dn L) φ ⟨some d,.slice t x (some y) (some u) none,ty,pos,af,gd⟩ (aU v):=by
 unfold abx at h;split at h
 ·rename_i k z k' z' hy hu;simp only[Option.some.injEq,Prod.mk.injEq]at h;obtain⟨rfl,rfl⟩:=h;exact Ta hx (db hy) (db hu) ht hq
 ·cases h
def XN{t:TypeId}{q:Prop}{v:SW}(ht:P.underlying t=some .string)(hx:ev (dn L) x=some (.string s))(h:aby s (sv L y)=some (q,v))(hq:q):aZ P n (dn L) φ ⟨some d,.slice t x (some y) none none,ty,pos,af,gd⟩ (aU v):=by
 unfold aby at h;split at h
 ·rename_i k z hy;simp only[Option.some.injEq,Prod.mk.injEq]at h;obtain⟨rfl,rfl⟩:=h;exact IJ hx (db hy) ht hq
 ·cases h
def XP{t:TypeId}{q:Prop}{v:SW}(ht:P.underlying t=some .string)(hx:ev (dn L) x=some (.string s))(h:abz s (sv L y)=some (q,v))(hq:q):aZ P n (dn L) φ ⟨some d,.slice t x none (some y) none,ty,pos,af,gd⟩ (aU v):=by
 unfold abz at h;split at h
 ·rename_i k z hy;simp only[Option.some.injEq,Prod.mk.injEq]at h;obtain⟨rfl,rfl⟩:=h;exact PX hx (db hy) ht hq
 ·cases h
def Tz[h:Tb P]{q:Prop}{v:SW}(hs:Tv h.t L op=some (q,v))(hq:q):aZ P n (dn L) φ ⟨some d,op,ty,pos,af,gd⟩ (aU v)/\cF op=false:=by
 unfold Tv at hs;split at hs
 ·refine⟨?_,rfl⟩;split at hs
  ·rename_i a hx;split at hs
   ·rename_i b hy;unfold arI at hs;split at hs
    ·simp only[Option.some.injEq,Prod.mk.injEq]at hs;obtain⟨rfl,rfl⟩:=hs;exact V.add (db hx) (db hy) _ (IntWalk.i64_in _ hq)
    ·simp only[Option.some.injEq,Prod.mk.injEq]at hs;obtain⟨rfl,rfl⟩:=hs;exact V.sub (db hx) (db hy) _ (IntWalk.i64_in _ hq)
    ·simp only[Option.some.injEq,Prod.mk.injEq]at hs;obtain⟨rfl,rfl⟩:=hs;exact V.mul (db hx) (db hy) _ (IntWalk.i64_in _ hq)
    ·cases hs
   ·cases hs
  ·rename_i a hx;split at hs
   ·rename_i b hy;split at hs
    ·simp only[Option.some.injEq,Prod.mk.injEq]at hs;obtain⟨rfl,rfl⟩:=hs;exact S9 (db hx) (db hy) hq
    ·cases hs
   ·cases hs
  ·cases hs
 ·refine⟨?_,rfl⟩;split at hs
  ·split at hs
   ·rename_i a hx;simp only[Option.some.injEq,Prod.mk.injEq]at hs;obtain⟨rfl,rfl⟩:=hs;exact V.neg (db hx) _ (IntWalk.i64_in _ hq)
   ·cases hs
  ·cases hs
 ·refine⟨?_,rfl⟩;split at hs
  ·rename_i k z hy;split at hs
   ·rename_i b o i hx;split at hs
    ·rename_i m hm;split at hs
     ·rename_i s hs';simp only[Option.some.injEq,Prod.mk.injEq]at hs;obtain⟨rfl,rfl⟩:=hs;exact jh (db hx) (db hy) (Tb.ar hm hs') hq
     ·cases hs
    ·cases hs
   ·rename_i b o m c hx;split at hs
    ·rename_i s hs';simp only[Option.some.injEq,Prod.mk.injEq]at hs;obtain⟨rfl,rfl⟩:=hs;obtain⟨e,he⟩:=Tb.sl hs';exact Fh (db hx) (db hy) he hq
    ·cases hs
   ·cases hs
  ·cases hs
 ·refine⟨?_,rfl⟩;split at hs
  ·split at hs
   ·rename_i c hc;split at hs
    ·rename_i hb;have ht:=un3 (P:=P) (by rw[<-qz hb];exact Tb.un hc);split at hs
     ·rename_i s hx;split at hs
      ·split at hs
       ·cases hs
       ·exact XP ht (db hx) hs hq
      ·split at hs
       ·exact XN ht (db hx) hs hq
       ·exact XL ht (db hx) hs hq
     ·cases hs
    ·cases hs
   ·cases hs
  ·cases hs
 ·cases hs
end
inductive Fm where
 | sq (c:Code)
 | blk (i:Nat)
 | th (T:Act->World->Prop)
def kT(P:Program)(Q0:Exit->Act->World->Prop):List Fm->Exit->Act->World->Prop
 | []=>Q0
 | .sq y::K=>Exit.then (y.wp P (kT P Q0 K)) (kT P Q0 K)
 | .blk i::K=>Exit.inBlock i (kT P Q0 K)
 | .th T::K=>Exit.then T (kT P Q0 K)
inductive St where
 | c (x:Code)
 | o (md:Md) (l:List Oper)
 | e (x:Exit)
def abB:Nat->List Nat->Bool
 | _,[]=>false
 | i,j::r=>match Nat.beq i j with
  | true=>true
  | false=>abB i r
def tD(ps:List Nat):SF->SF->(SF->Prop)->Prop
 | [],ja,k=>k ja
 | (i,s)::r,ja,k=>match abB i ps with
  | true=>match sk ja i with
   | some _=>tD ps r ja k
   | none=>tD ps r ((i,s)::ja) k
  | false=>tD ps r ja k
def I3:List Oper->Nat->Option Nat
 | [],_=>none
 | o::_,0=>o.dst
 | _::r,k+1=>I3 r k
def I4:∀ {l:List Oper} {j d:Nat},I3 l j=some d->(l[j]?).bind (·.dst)=some d
 | [],_,_,h=>by simp[I3]at h
 | _::_,0,_,h=>by simpa [I3]using h
 | _::r,k+1,_,h=>by simpa using I4 (l:=r) h
def CA:Code->Nat
 | .region i _ _=>i
 | .seq a _=>CA a
 | .block _ c=>CA c
 | .loop c=>CA c
 | .cond _ a _=>CA a
 | _=>0
def ae4:Code->Nat
 | .region _ _ _=>0
 | .seq _ _=>1
 | .cond _ _ _=>2
 | .block _ _=>3
 | .loop _=>4
 | _=>5
def abC(i k:Nat):List (Nat×Nat)->Bool
 | []=>false
 | (j,l)::r=>match Nat.beq i j with
  | true=>match Nat.beq k l with
   | true=>true
   | false=>abC i k r
  | false=>abC i k r
def Sd(q R X:Prop):Prop:=(q/\R)\/X
section
variable (P:Program) (n:Fr) (Q0:Exit->Act->World->Prop) (M:World->Prop) (K:List Fm) (md:Md) (r:List Oper) (L:SF)
def LdG(t:TypeId)(d:Nat)(x:Operand)(ty:TypeId)(pos:String)(af:Array Edge)(b o i:Nat):Prop:=
 ev (dn L) x=some (az b o i)->jR P t=true->Nat.blt d n.sz=true->XO P n md (kT P Q0 K) (⟨some d,.load t x,ty,pos,af,none⟩::r) (dn L) M
def LdA(t:TypeId)(d:Nat)(x:Operand)(ty:TypeId)(pos:String)(af:Array Edge)(b o i k:Nat):Prop:=
 ev (dn L) x=some (az b o i)->n5 P t=true->fm P t=some k->Nat.blt d n.sz=true->XO P n md (kT P Q0 K) (⟨some d,.load t x,ty,pos,af,none⟩::r) (dn L) M
def StG(t:TypeId)(x y:Operand)(ty:TypeId)(pos:String)(af:Array Edge)(b o i k:Nat)(s:SV):Prop:=
 ev (dn L) x=some (az b o i)->ev (dn L) y=some (aS s)->fm P t=some k->XO P n md (kT P Q0 K) (⟨none,.store t x y,ty,pos,af,none⟩::r) (dn L) M
def CaG(d:Nat)(f:FuncId)(xs:List Operand)(oA:Array TypeId)(ty:TypeId)(pos:String)(af:Array Edge)(vs:List Value):Prop:=
 PV (dn L) xs=some vs->cX P f=true->Nat.blt d n.sz=true->XO P n md (kT P Q0 K) (⟨some d,.call ⟨.value (.func f),xs.toArray,oA⟩,ty,pos,af,none⟩::r) (dn L) M
def halt(T:I0)(dst:Option Tmp)(op:Op)(ty:TypeId)(pos:String)(af:Array Edge)(ho:Prop):Prop:=match op with
   | .load t x=>match dst with
    | some d=>match sv L x with
     | some (.one (.az b o i))=>match T.un.get t with
      | some c=>match Nat.blt c 7 with
       | true=>LdG P n Q0 M K md r L t d x ty pos af b o i
       | false=>match Nat.beq c 7 with
        | true=>match T.sz.get t with
         | some k=>LdA P n Q0 M K md r L t d x ty pos af b o i k
         | none=>ho
        | false=>ho
      | none=>ho
     | _=>ho
    | none=>ho
   | .store t x y=>match dst with
    | none=>match sv L x with
     | some (.one (.az b o i))=>match sv L y with
      | some (.one s)=>match T.sz.get t with
       | some k=>StG P n Q0 M K md r L t x y ty pos af b o i k s
       | none=>ho
      | _=>ho
     | _=>ho
    | some _=>ho
   | .call c=>match c with
    | ⟨.value (.func f),xs,oA⟩=>match dst with
     | some d=>match T.fn.get f with
      | some _=>match svs L xs.toList with
       | some l=>CaG P n Q0 M K md r L d f xs.toList oA ty pos af (N5 l)
       | none=>ho
      | none=>ho
     | none=>ho
    | _=>ho
   | _=>ho
end
def N7{P:Program}[h:Tb P]{n:Fr}{Q0:Exit->Act->World->Prop}{M:World->Prop}{K:List Fm}{md:Md}{r:List Oper}{L:SF}{dst:Option Tmp}{ty:TypeId}{pos:String}{af:Array Edge}(hd:∀ d,dst=some d->Nat.blt d n.sz=true)(hh:halt P n Q0 M K md r L h.t dst op ty pos af (XO P n md (kT P Q0 K) (⟨dst,op,ty,pos,af,none⟩::r) (dn L) M)):XO P n md (kT P Q0 K) (⟨dst,op,ty,pos,af,none⟩::r) (dn L) M:=by
 unfold halt at hh
 ·split at hh
  ·split at hh
   ·split at hh
    ·rename_i hx;split at hh
     ·rename_i hc;split at hh
      ·rename_i hb;exact hh (db hx) (XK (Tb.un hc) hb) (hd _ rfl)
      ·split at hh
       ·rename_i hb;split at hh
        ·rename_i hk;exact hh (db hx) (LS (by rw[<-qz hb];exact Tb.un hc)) (Tb.sz hk) (hd _ rfl)
        ·exact hh
       ·exact hh
     ·exact hh
    ·exact hh
   ·exact hh
  ·split at hh
   ·split at hh
    ·rename_i hx;split at hh
     ·rename_i hy;split at hh
      ·rename_i hk;exact hh (db hx) (db hy) (Tb.sz hk)
      ·exact hh
     ·exact hh
    ·exact hh
   ·exact hh
  ·split at hh
   ·split at hh
    ·split at hh
     ·rename_i hf;split at hh
      ·rename_i hl;exact hh (N6 hl) (Tb.fn hf) (hd _ rfl)
      ·exact hh
     ·exact hh
    ·exact hh
   ·exact hh
  ·exact hh
section
variable (P:Program) (n:Fr) (Q0:Exit->Act->World->Prop) (M:World->Prop)
def gZ[h:Tb P]:Nat->List Fm->St->SF->Prop
 | 0,K,.c x,L=>XC P n x (kT P Q0 K) (dn L) M
 | 0,K,.o md l,L=>XO P n md (kT P Q0 K) l (dn L) M
 | 0,K,.e x,L=>XE n (kT P Q0 K) x (dn L) M
 | f+1,K,.c x,L=>match x with
  | .seq a b=>match n.cs with
   | []=>gZ f (.sq b::K) (.c a) L
   | c::cs=>match abC (CA a) (ae4 a) (c::cs)with
    | true=>XC P n (.seq a b) (kT P Q0 K) (dn L) M
    | false=>gZ f (.sq b::K) (.c a) L
  | .skip=>gZ f K (.e .normal) L
  | .ret=>gZ f K (.e .ret) L
  | .exit i=>gZ f K (.e (.exit i)) L
  | .block i c=>gZ f (.blk i::K) (.c c) L
  | .region i ops dr=>match dr with
   | false=>gZ f K (.o (.cl ops) ops.toList) L
   | true=>XC P n (.region i ops true) (kT P Q0 K) (dn L) M
  | .cond c a b=>match sv L c with
   | some (.one .tt)=>gZ f K (.c a) L
   | some (.one .ff)=>gZ f K (.c b) L
   | _=>XC P n (.cond c a b) (kT P Q0 K) (dn L) M
  | y=>XC P n y (kT P Q0 K) (dn L) M
 | f+1,K,.e x,L=>match K with
  | []=>XE n Q0 x (dn L) M
  | .sq y::K'=>match x with
   | .normal=>tD n.ps L [] fun L'=>gZ f K' (.c y) L'
   | .ret=>gZ f K' (.e .ret) L
   | .exit i=>gZ f K' (.e (.exit i)) L
   | x=>XE n (kT P Q0 (.sq y::K')) x (dn L) M
  | .blk i::K'=>match x with
   | .normal=>gZ f K' (.e .normal) L
   | .ret=>gZ f K' (.e .ret) L
   | .exit j=>match Nat.beq j i with
    | true=>gZ f K' (.e .normal) L
    | false=>gZ f K' (.e (.exit j)) L
   | x=>XE n (kT P Q0 (.blk i::K')) x (dn L) M
  | .th T::K'=>match x with
   | .ret=>gZ f K' (.e .ret) L
   | .exit i=>gZ f K' (.e (.exit i)) L
   | x=>XE n (kT P Q0 (.th T::K')) x (dn L) M
 | f+1,K,.o md l,L=>match l with
  | []=>gZ f K (.e .normal) L
  | ⟨dst,op,ty,pos,af,gd⟩::r=>match gd with
   | some (j,want)=>match I3 md.a.toList j with
    | some dj=>match sk L dj with
     | some (.one .tt)=>match want with
      | true=>gZ f K (.o md (⟨dst,op,ty,pos,af,none⟩::r)) L
      | false=>match dst with
       | some d=>match Nat.blt d n.sz with
        | true=>gZ f K (.o md r) ((d,.one .un)::L)
        | false=>XO P n md (kT P Q0 K) (⟨some d,op,ty,pos,af,some (j,false)⟩::r) (dn L) M
       | none=>XO P n md (kT P Q0 K) (⟨none,op,ty,pos,af,some (j,false)⟩::r) (dn L) M
     | some (.one .ff)=>match want with
      | false=>gZ f K (.o md (⟨dst,op,ty,pos,af,none⟩::r)) L
      | true=>match dst with
       | some d=>match Nat.blt d n.sz with
        | true=>gZ f K (.o md r) ((d,.one .un)::L)
        | false=>XO P n md (kT P Q0 K) (⟨some d,op,ty,pos,af,some (j,true)⟩::r) (dn L) M
       | none=>XO P n md (kT P Q0 K) (⟨none,op,ty,pos,af,some (j,true)⟩::r) (dn L) M
     | some (.one .un)=>match dst with
       | some d=>match Nat.blt d n.sz with
        | true=>gZ f K (.o md r) ((d,.one .un)::L)
        | false=>XO P n md (kT P Q0 K) (⟨some d,op,ty,pos,af,some (j,want)⟩::r) (dn L) M
       | none=>XO P n md (kT P Q0 K) (⟨none,op,ty,pos,af,some (j,want)⟩::r) (dn L) M
     | _=>XO P n md (kT P Q0 K) (⟨dst,op,ty,pos,af,some (j,want)⟩::r) (dn L) M
    | none=>XO P n md (kT P Q0 K) (⟨dst,op,ty,pos,af,some (j,want)⟩::r) (dn L) M
   | none=>match dst with
    | some d=>match Nat.blt d n.sz with
     | true=>match Tu h.t L op with
      | some s=>gZ f K (.o md r) ((d,s)::L)
      | none=>match Tv h.t L op with
       | some (q,s)=>Sd q (gZ f K (.o md r) ((d,s)::L)) (XO P n md (kT P Q0 K) (⟨some d,op,ty,pos,af,none⟩::r) (dn L) M)
       | none=>halt P n Q0 M K md r L h.t (some d) op ty pos af (XO P n md (kT P Q0 K) (⟨some d,op,ty,pos,af,none⟩::r) (dn L) M)
     | false=>XO P n md (kT P Q0 K) (⟨some d,op,ty,pos,af,none⟩::r) (dn L) M
    | none=>halt P n Q0 M K md r L h.t none op ty pos af (XO P n md (kT P Q0 K) (⟨none,op,ty,pos,af,none⟩::r) (dn L) M)
end
def ahz(P:Program)(n:Fr)(Q0:Exit->Act->World->Prop)(M:World->Prop)(K:List Fm)(L:PF):St->Prop
 | .c x=>XC P n x (kT P Q0 K) L M
 | .o md l=>XO P n md (kT P Q0 K) l L M
 | .e x=>XE n (kT P Q0 K) x L M
theorem CB:∀ {L:SF} {j:Nat},sk L j=none->lk (dn L) j=none
 | [],_,_=>rfl
 | (i,t)::r,j,h=>by
  simp only[sk]at h;simp only[dn,lk];cases hb:Nat.beq i j with
  | true=>simp[hb]at h
  | false=>simp only[hb]at h;exact CB h
def xD{ps:List Nat} :∀ {L ja:SF} {k:SF->Prop},tD ps L ja k->∃ L',k L'/\∀ i v,lk (dn L') i=some v->(match lk (dn ja) i with
 | some u=>u=v
 | none=>abB i ps=true/\lk (dn L) i=some v)
 | [],ja,k,h=>⟨ja,h,fun i v q=>by rw[q]⟩
 | (j,s)::r,ja,k,h=>by
  simp only[tD]at h;split at h
  ·split at h
   ·rename_i u hu;obtain⟨L',h1,h2⟩:=xD h;refine⟨L',h1,fun i v q=> ?_⟩;have:=h2 i v q;cases ha:lk (dn ja) i with
    | some x=>rw[ha]at this;exact this
    | none=>
     rw[ha]at this;refine⟨this.1,?_⟩;simp only[dn,lk];cases hb:Nat.beq j i with
     | true=>have:=qz hb;subst this;rw[AQ hu]at ha;cases ha
     | false=>exact this.2
   ·rename_i hm _ hu;obtain⟨L',h1,h2⟩:=xD h;refine⟨L',h1,fun i v q=> ?_⟩;have:=h2 i v q;simp only[dn,lk]at this ⊢;cases hb:Nat.beq j i with
    | true=>
     have e:=qz hb;subst e;simp only[hb,cond_true]at this ⊢;rw[CB hu];exact⟨hm,congrArg some this⟩
    | false=>simp only[hb,cond_false]at this ⊢;exact this
  ·rename_i hm;obtain⟨L',h1,h2⟩:=xD h;refine⟨L',h1,fun i v q=> ?_⟩;have:=h2 i v q;cases ha:lk (dn ja) i with
   | some x=>rw[ha]at this;exact this
   | none=>
    rw[ha]at this;refine⟨this.1,?_⟩;simp only[dn,lk];cases hb:Nat.beq j i with
    | true=>have e:=qz hb;subst e;rw[hm]at this;cases this.1
    | false=>exact this.2
section
variable {P:Program} {n:Fr} {Q0:Exit->Act->World->Prop} {M:World->Prop}
def cy[Tb P]:∀ (f:Nat) (K:List Fm) (s:St) (L:SF),gZ P n Q0 M f K s L->ahz P n Q0 M K (dn L) s
 | 0,K,.c x,L,h=>h
 | 0,K,.o md l,L,h=>h
 | 0,K,.e x,L,h=>h
 | f+1,K,.c x,L,h=>by
  simp only[gZ]at h;split at h
  ·split at h
   ·exact XC.seq (cy f _ (.c _) L h)
   ·split at h
    ·exact h
    ·exact XC.seq (cy f _ (.c _) L h)
  ·exact XC.skip (cy f _ (.e _) L h)
  ·exact XC.ret (cy f _ (.e _) L h)
  ·exact XC.exit (cy f _ (.e _) L h)
  ·exact XC.block (cy f _ (.c _) L h)
  ·split at h
   ·rename_i ops _;exact XC.region (l:=ops.toList) (cy f _ (.o _ _) L h)
   ·exact h
  ·split at h
   ·rename_i hc;exact Cj (t:=true) (db hc) rfl (cy f _ (.c _) L h)
   ·rename_i hc;exact Ck (t:=false) (db hc) rfl (cy f _ (.c _) L h)
   ·exact h
  ·exact h
 | f+1,K,.e x,L,h=>by
  simp only[gZ]at h;split at h
  ·exact h
  ·rename_i K' y;split at h
   ·obtain⟨L',h1,h2⟩:=xD h;refine XE.next (XC.fA (dn L') (fun i v q=> ?_) (cy f _ (.c _) L' h1));exact(h2 i v q).2
   ·exact rD (cy f _ (.e _) L h)
   ·exact pJ (cy f _ (.e _) L h)
   ·exact h
  ·rename_i K' i;split at h
   ·exact gF (cy f _ (.e _) L h)
   ·exact lD (cy f _ (.e _) L h)
   ·split at h
    ·rename_i hb;have:=qz hb;subst this;exact xy (cy f _ (.e _) L h)
    ·rename_i hb;exact Ew hb (cy f _ (.e _) L h)
   ·exact h
  ·rename_i K' T;split at h
   ·exact rD (cy f _ (.e _) L h)
   ·exact pJ (cy f _ (.e _) L h)
   ·exact h
 | f+1,K,.o md l,L,h=>by
  simp only[gZ]at h;split at h
  ·exact XO.nil (cy f _ (.e _) L h)
  ·rename_i dst op ty pos af gd r;split at h
   ·rename_i j want;split at h
    ·rename_i dj hdj;have hj:(md.a[j]?).bind (·.dst)=some dj:=by
      have:=I4 hdj;simpa using this
     split at h
     ·rename_i hs;split at h
      ·exact XO.xA rfl hj (AQ hs) (cy f _ (.o _ _) L h)
      ·split at h
       ·split at h
        ·rename_i hd;exact XO.qs rfl rfl hd hj (AQ hs) (cy f _ (.o _ _) ((_,.one .un)::L) h)
        ·exact h
       ·exact h
     ·rename_i hs;split at h
      ·exact XO.xA rfl hj (AQ hs) (cy f _ (.o _ _) L h)
      ·split at h
       ·split at h
        ·rename_i hd;exact XO.qs rfl rfl hd hj (AQ hs) (cy f _ (.o _ _) ((_,.one .un)::L) h)
        ·exact h
       ·exact h
     ·rename_i hs;split at h
      ·split at h
       ·rename_i hd;exact Ex rfl rfl hd hj (AQ hs) (cy f _ (.o _ _) ((_,.one .un)::L) h)
       ·exact h
      ·exact h
     ·exact h
    ·exact h
   ·split at h
    ·split at h
     ·rename_i hd;split at h
      ·rename_i s hs;obtain⟨h1,h2⟩:=Ty (P:=P) (n:=n) (φ:=fun _=>True) (d:=_) (ty:=ty) (pos:=pos) (af:=af) (gd:=none) hs;exact XO.v h1 (by rw[hd,h2];rfl) (cy f _ (.o _ _) ((_,s)::L) h)
      ·split at h
       ·rename_i q s hs;rcases h with h | h
        ·obtain⟨h1,h2⟩:=Tz (P:=P) (n:=n) (φ:=fun _=>True) (d:=_) (ty:=ty) (pos:=pos) (af:=af) (gd:=none) hs h.1;exact XO.v h1 (by rw[hd,h2];rfl) (cy f _ (.o _ _) ((_,s)::L) h.2)
        ·exact h
       ·exact N7 (fun x hx=>by cases hx;exact hd) h
     ·exact h
    ·exact N7 (fun x hx=>by cases hx) h
def u5{ps:List Nat}{k k':SF->Prop}(h:∀ L,k L->k' L):∀ {L ja:SF},tD ps L ja k->tD ps L ja k'
 | [],_,q=>h _ q
 | (i,s)::r,ja,q=>by
  simp only[tD]at q ⊢;split at q
  ·split at q
   ·exact u5 h q
   ·exact u5 h q
  ·exact u5 h q
def u6{ps:List Nat}{k:SF->Prop}(h:∀ L,k L):∀ {L ja:SF},tD ps L ja k
 | [],_=>h _
 | (i,s)::r,ja=>by
  simp only[tD];split
  ·split
   ·exact u6 h
   ·exact u6 h
  ·exact u6 h
def P8{M':World->Prop}(hm:∀ w,M w->M' w){K:List Fm}{md:Md}{r:List Oper}{L:SF}{T:I0}{dst:Option Tmp}{ty:TypeId}{pos:String}{af:Array Edge}(h:halt P n Q0 M' K md r L T dst op ty pos af (XO P n md (kT P Q0 K) (⟨dst,op,ty,pos,af,none⟩::r) (dn L) M')):halt P n Q0 M K md r L T dst op ty pos af (XO P n md (kT P Q0 K) (⟨dst,op,ty,pos,af,none⟩::r) (dn L) M):=by
 unfold halt at h ⊢;repeat' (split at h)
 all_goals first
  | exact XO.mono hm h
  | exact fun a b c=>XO.mono hm (h a b c)
  | exact fun a b c d=>XO.mono hm (h a b c d)
def TA(hm:∀ w,¬M w){K:List Fm}{md:Md}{r:List Oper}{L:SF}{T:I0}{dst:Option Tmp}{ty:TypeId}{pos:String}{af:Array Edge} :halt P n Q0 M K md r L T dst op ty pos af (XO P n md (kT P Q0 K) (⟨dst,op,ty,pos,af,none⟩::r) (dn L) M):=by
 unfold halt;repeat' split
 all_goals first
  | exact fun a w _ hw=>absurd hw (hm w)
  | exact fun _ _ _ a w _ hw=>absurd hw (hm w)
  | exact fun _ _ _ _ a w _ hw=>absurd hw (hm w)
def oQ[Tb P]{M':World->Prop}(hm:∀ w,M w->M' w):∀ (f:Nat) (K:List Fm) (s:St) (L:SF),gZ P n Q0 M' f K s L->gZ P n Q0 M f K s L
 | 0,K,.c x,L,h=>XC.mono hm h
 | 0,K,.o md l,L,h=>XO.mono hm h
 | 0,K,.e x,L,h=>XE.mono hm h
 | f+1,K,.c x,L,h=>by
  simp only[gZ]at h ⊢;repeat' (split at h)
  all_goals first
   | exact XC.mono hm h
   | exact oQ hm f _ _ _ h
 | f+1,K,.e x,L,h=>by
  simp only[gZ]at h ⊢;repeat' (split at h)
  all_goals first
   | exact XE.mono hm h
   | exact oQ hm f _ _ _ h
   | exact u5 (fun L'=>oQ hm f _ _ _) h
 | f+1,K,.o md l,L,h=>by
  simp only[gZ]at h ⊢;repeat' (split at h)
  all_goals first
   | exact XO.mono hm h
   | exact oQ hm f _ _ _ h
   | exact P8 hm h
   | exact h.imp (fun q=>⟨q.1,oQ hm f _ _ _ q.2⟩) (XO.mono hm)
def xE[Tb P](hm:∀ w,¬M w):∀ (f:Nat) (K:List Fm) (s:St) (L:SF),gZ P n Q0 M f K s L
 | 0,K,.c x,L=>fun a w _ hw=>absurd hw (hm w)
 | 0,K,.o md l,L=>fun a w _ hw=>absurd hw (hm w)
 | 0,K,.e x,L=>fun a w _ hw=>absurd hw (hm w)
 | f+1,K,.c x,L=>by
  simp only[gZ];repeat' split
  all_goals first
   | exact xE hm f _ _ _
   | exact fun a w _ hw=>absurd hw (hm w)
 | f+1,K,.e x,L=>by
  simp only[gZ];repeat' split
  all_goals first
   | exact xE hm f _ _ _
   | exact u6 fun L'=>xE hm f _ _ _
   | exact fun a w _ hw=>absurd hw (hm w)
 | f+1,K,.o md l,L=>by
  simp only[gZ];repeat' split
  all_goals first
   | exact xE hm f _ _ _
   | exact TA hm
   | exact .inr fun a w _ hw=>absurd hw (hm w)
   | exact fun a w _ hw=>absurd hw (hm w)
def xF[Tb P]{φ:Prop}(hφ:∀ w,M w->φ){f:Nat}{K:List Fm}{s:St}{L:SF}(h:φ->gZ P n Q0 M f K s L):gZ P n Q0 M f K s L:=by
 by_cases c:∃ w,M w
 ·obtain⟨w,hw⟩:=c;exact h (hφ w hw)
 ·exact xE (fun w hw=>c ⟨w,hw⟩) f K s L
end
end Go.X
