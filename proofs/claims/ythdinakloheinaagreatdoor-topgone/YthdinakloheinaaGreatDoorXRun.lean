import Derived.Test.YthdinakloheinaaGreatDoorXRange
import Derived.Laws.StructEq
set_option linter.all false
namespace Go.X
open Go Go.RowKit Go.Proofs
variable{v:Value}
section
variable{P:Program}{n:Fr}{Q:Exit->Act->World->Prop}{L:PF}{W:World}{S:Nat->Nat->Prop}{H:List aG}
def VO(tmps:Array Value):ResultVar->Sem Value
 | .tmp t=>pure (tmps.getD t undef)
 | .cell a t=>do loadVar t (<-asAddr (tmps.getD a undef))
theorem yw(fn:Func)(tmps:Array Value):results fn tmps=(do
  let vs<-fn.results.mapM (VO tmps)
  pure (if h:vs.size=1 then vs[0]else .tuple vs)):=by
 have:VO tmps=(fun
  | .tmp t=>pure (tmps.getD t undef)
  | .cell a t=>do loadVar t (<-asAddr (tmps.getD a undef))):=by
  funext x;cases x<;>rfl
 rw[this];rfl
def uv(P:Program)(n:Fr)(L:PF)(M:World->Prop)(r:ResultVar)(v:Value):Prop:=
 ∀ a w,ra n L a->M w->(VO a.tmps r).run P w= .ok v w
def uv.tmp{M:World->Prop}{t:Nat}{v:Value}(h:lk L t=some v):uv P n L M (.tmp t) v:=fun a w ha _=>by
 show(pure (a.tmps.getD t undef):Sem Value).run P w=_;rw[ha.2.2 t v h];rfl
theorem uv.cell{c b o i m:Nat}{t:TypeId}{C:Nat->Value}{v:Value}(hv:lk L c=some (ay b o i))(hH:lR H (.cells b o m C))(hC:i<m/\C i=v)(ht:jL P t=true):uv P n L (XM W S H) (.cell c t) v:=fun a w ha hw=>by
 have hc:=eS (hw.fB.1 _ hH.mem) hC.1;rw[hC.2]at hc;show(do loadVar t (<-asAddr (a.tmps.getD c undef)):Sem Value).run P w=_;rw[ha.2.2 c _ hv];simp[asAddr,ay,gZ ht hc]
def uv.agg{c b o i m sz:Nat}{t:TypeId}{C:Nat->Value}(hv:lk L c=some (ay b o i))(hH:lR H (.cells b o m C))(hC:i+sz<=m/\dB C i sz=v)(ht:oM P t=true)(hs:fE P t=some sz):uv P n L (XM W S H) (.cell c t) v:=fun a w ha hw=>by
 have hl:=ke (P:=P) (w:=w) (b:=b) (o:=o) (i:=i) (C:=C) ht hs fun l hl=>eS (hw.fB.1 _ hH.mem);rw[hC.2]at hl;show(do loadVar t (<-asAddr (a.tmps.getD c undef)):Sem Value).run P w=_;rw[ha.2.2 c _ hv];simp[asAddr,ay,hl]
def kf{k:Nat}{ps:List Nat}{cs:List (Nat×Nat)}{fn:Func}{R:Ending->World->Prop}{M:World->Prop}{r:ResultVar}(hr:fn.results= #[r])(h1:uv P (fr k ps cs) L M r v)(h:∀ w,M w->R (.returned v) w):XE (fr k ps cs) (bodyPost P fn R) .ret L M:=fun a w ha hw=>by
 refine⟨ha.1,v,?_,h w hw⟩;have e1:=h1 a w ha hw;rw[yw,hr];simp[e1]
def dU{k:Nat}{ps:List Nat}{cs:List (Nat×Nat)}{fn:Func}{R:Ending->World->Prop}{M:World->Prop}{r r':ResultVar}{v':Value}(hr:fn.results= #[r,r'])(h1:uv P (fr k ps cs) L M r v)(h2:uv P (fr k ps cs) L M r' v')(h:∀ w,M w->R (.returned (.tuple #[v,v'])) w):XE (fr k ps cs) (bodyPost P fn R) .ret L M:=fun a w ha hw=>by
 refine⟨ha.1,.tuple #[v,v'],?_,h w hw⟩;have e1:=h1 a w ha hw;have e2:=h2 a w ha hw;rw[yw,hr];simp[e1,e2]
def aD(v:Value):Nat->Value:=cellsOf #[v]
abbrev ce(b0:Nat)(v:Value):aG:=.cells b0 0 1 (aD v)
def aD.ld(v:Value):0<1/\aD v 0=v:=⟨og,rfl⟩
theorem aD.st(u v:Value):0<1/\ep (aD u) 0 v=aD v:=⟨og,by
 funext i
 cases i with
 | zero=>rfl
 | succ i=>simp[ep,aD,cellsOf]⟩
def I2{f:Int->Bool}{m:Nat}{z:Int}(h:0<=z/\z<m:=by omega):(Sw f m)[z.toNat]? =some (.bool (f z)):=by
 have h1:z.toNat<m:=og;have h2:((z.toNat:Nat):Int)=z:=og;simp[Sw,h1,h2]
end
section
variable{P:Program}{Q:Exit->Act->World->Prop}{L:PF}{n:Fr}{M:World->Prop}{ty:TypeId}{pos:String}{af:Array Edge}{d:Nat}{ops:Md}{rest:List Oper}
def YieldAt.weak{F:Fence}{m:Nat}{l:Nat}{args:Array Value}{w:World}{R R':Ending->World->Prop}(h:YieldAt F m P l args w R)(hr:∀ e w',R e w'->R' e w'):YieldAt F m P l args w R':=by
 obtain⟨fn,tmps,assign,body,h1,h2⟩:=h;exact⟨fn,tmps,assign,body,h1,h2.mono hr⟩
def oA{g:FuncId}(hc:dg P g=true):∀ args w,(callFunc g args).run P w= .ok (.enter g args) w:=fun args w=>by
 unfold dg at hc;cases hf:P.funcs[g]? with
 | none=>simp[hf]at hc
 | some fn=>
  simp only[hf,Bool.and_eq_true]at hc;obtain⟨h1,h2⟩:=hc;have h3:¬fn.name= "runtime.NumGoroutine" :=by simpa using h1
  have h4:¬fn.body=none:=by cases hb:fn.body<;>simp_all
  simp[callFunc,run_program,hf,h3,h4]
theorem aaq{w:World}{a:Addr}(h:w.cell? a=some v):a.block<w.heap.size:=by
 unfold World.cell? at h;cases ho:w.heap[a.block]? with
 | none=>simp[ho]at h
 | some o=>exact dV ho
end
end Go.X

namespace Go.X
open Go
def jS(p:Nat->Bool)(i:Nat):Nat->Bool:=fun j=>p j&& !Nat.beq j i
def He(p:Nat->Bool)(i:Nat):Nat->Bool:=fun j=>p j||Nat.beq j i
def Da(r:Nat->re)(i:Nat)(x:re):Nat->re:=fun j=>bif Nat.beq j i then x else r j
theorem aar{i j:Nat}(h:¬i=j):Nat.beq i j=false:=by
 cases hb:Nat.beq i j with
 | false=>rfl
 | true=>exact absurd (Nat.eq_of_beq_eq_true hb) h
def wD(p:Nat->Bool)(i:Nat):jS p i i=false:=by simp[jS]
theorem jx{p:Nat->Bool}{i j:Nat} :jS p i j=true↔p j=true/\j≠i:=by
 simp only[jS,Bool.and_eq_true,Bool.not_eq_true',ne_eq];constructor
 ·rintro⟨h1,h2⟩;exact⟨h1,fun e=>by subst e;simp at h2⟩
 ·rintro⟨h1,h2⟩;exact⟨h1,aar h2⟩
theorem kB{p:Nat->Bool}{i j:Nat} :He p i j=true↔p j=true\/j=i:=by
 simp only[He,Bool.or_eq_true];constructor;rotate_left;rotate_left;all_goals
  rintro(h | h)
  ·exact .inl h
  ·exact .inr (by simpa using h)
theorem n9(r:Nat->re)(i:Nat)(x:re):Da r i x i=x:=by simp[Da]
theorem mO(r:Nat->re){i j:Nat}(x:re)(h:j≠i):Da r i x j=r j:=by
 simp[Da,aar h]
theorem Hf{p:Nat->Bool}{i:Nat}(h:p i=true):He (jS p i) i=p:=by
 funext j;rw[Bool.eq_iff_iff,kB,jx];constructor
 ·rintro(h1 | rfl)
  ·exact h1.1
  ·exact h
 ·intro hj;by_cases c:j=i
  ·exact .inr c
  ·exact .inl ⟨hj,c⟩
abbrev re.D3(x:re):aG:=.row x.v x.e x.sz x.k x.xs
section
variable{W w:World}{S:Nat->Nat->Prop}{H:List aG}
def pI{p:Nat->Bool}{r:Nat->re}(i:Nat)(hp:p i=true)(h:XM W S (.aV p r::H) w):XM W S ((r i).D3:: .aV (jS p i) r::H) w:=by
 obtain⟨⟨hh,pe⟩,hk,hm⟩:=h;rw[List.pairwise_cons]at pe;have hf:(aG.aV p r).holds w:=hh _ sq;have ha1:∀ b o,((r i).D3).gL b o->(aG.aV p r).gL b o:=fun b o hb=>⟨i,hp,hb⟩;have ha2:∀ b o,(aG.aV (jS p i) r).gL b o->(aG.aV p r).gL b o:=fun b o ⟨j,hj,hb⟩=>⟨j,(jx.1 hj).1,hb⟩;refine⟨⟨fun e he=> ?_,List.pairwise_cons.2 ⟨fun e he _ b o h1 h2=> ?_,List.pairwise_cons.2 ⟨fun e he hw b o h1 h2=>pe.1 e he (by simp[aG.wr]) b o (ha2 b o h1) h2,pe.2⟩⟩⟩,hk,fun e he hw b o hb=> ?_⟩
 ·rcases List.mem_cons.1 he with rfl | he
  ·exact hf.1 i hp
  ·rcases List.mem_cons.1 he with rfl | he
   ·exact⟨fun j hj=>hf.1 j (jx.1 hj).1,fun j k b hj hk=>hf.2 j k b (jx.1 hj).1 (jx.1 hk).1⟩
   ·exact hh e (List.mem_cons_of_mem _ he)
 ·rcases List.mem_cons.1 he with rfl | he
  ·obtain⟨j,hj,hb⟩:=h2;have K3:=jx.1 hj;exact hf.2 i j b hp K3.1 (Ne.symm K3.2) h1 hb
  ·exact pe.1 e he (by simp[aG.wr]) b o (ha1 b o h1) h2
 ·rcases List.mem_cons.1 he with rfl | he
  ·exact hm _ sq rfl b o (ha1 b o hb)
  ·rcases List.mem_cons.1 he with rfl | he
   ·exact hm _ sq rfl b o (ha2 b o hb)
   ·exact hm e (List.mem_cons_of_mem _ he) hw b o hb
def rU{p:Nat->Bool}{r:Nat->re}(i:Nat){x:re}(hp:p i=false)(h:XM W S (x.D3:: .aV p r::H) w):XM W S (.aV (He p i) (Da r i x)::H) w:=by
 obtain⟨⟨hh,pe⟩,hk,hm⟩:=h;rw[List.pairwise_cons,List.pairwise_cons]at pe;obtain⟨hx,Va,Sm⟩:=pe;have hf:(aG.aV p r).holds w:=hh _ sq;have gJ:∀ j,p j=true->j≠i:=fun j hj e=>by subst e;rw[hp]at hj;cases hj
 have har:∀ b o,(aG.aV (He p i) (Da r i x)).gL b o->x.D3.gL b o\/(aG.aV p r).gL b o:=fun b o ⟨j,hj,hb⟩=>by
  rcases kB.1 hj with h1 | rfl
  ·rw[mO _ _ (gJ j h1)]at hb;exact .inr ⟨j,h1,hb⟩
  ·rw[n9]at hb;exact .inl hb
 refine⟨⟨fun e he=> ?_,List.pairwise_cons.2 ⟨fun e he _ b o h1 h2=> ?_,Sm⟩⟩,hk,fun e he hw b o hb=> ?_⟩
 ·rcases List.mem_cons.1 he with rfl | he
  ·refine⟨fun j hj=> ?_,fun j k b hj Dr hjk h1 h2=> ?_⟩
   ·rcases kB.1 hj with h1 | rfl
    ·rw[mO _ _ (gJ j h1)];exact hf.1 j h1
    ·rw[n9];exact hh x.D3 sq
   ·have hxf:∀ l,p l=true->x.v.ownBlock=some b->(r l).v.ownBlock=some b->False:=fun l hl e1 e2=>hx (.aV p r) sq (by simp[aG.wr]) b 0 e1 ⟨l,hl,e2⟩;rcases kB.1 hj with q1 | rfl
    ·rw[mO _ _ (gJ j q1)]at h1;rcases kB.1 Dr with q2 | rfl
     ·rw[mO _ _ (gJ k q2)]at h2;exact hf.2 j k b q1 q2 hjk h1 h2
     ·rw[n9]at h2;exact hxf j q1 h2 h1
    ·rw[n9]at h1;rcases kB.1 Dr with q2 | rfl
     ·rw[mO _ _ (gJ k q2)]at h2;exact hxf k q2 h1 h2
     ·exact hjk rfl
  ·exact hh e (by simp[he])
 ·rcases har b o h1 with h3 | h3
  ·exact hx e (by simp[he]) (by simp[aG.wr]) b o h3 h2
  ·exact Va e he (by simp[aG.wr]) b o h3 h2
 ·rcases List.mem_cons.1 he with rfl | he
  ·rcases har b o hb with h3 | h3
   ·exact hm x.D3 sq rfl b o h3
   ·exact hm _ sq rfl b o h3
  ·exact hm e (by simp[he]) hw b o hb
theorem XM.part{b o n off m:Nat}{C:Nat->Value}(hn:off+m<=n)(h:XM W S (.cells b o n C::H) w):XM W S (.cells b (o+off) m (fun i=>C (off+i)):: .cells b o off C:: .cells b (o+off+m) (n-off-m) (fun i=>C (off+m+i))::H) w:=by
 obtain⟨⟨hh,pe⟩,hk,hm⟩:=h;rw[List.pairwise_cons]at pe;obtain⟨A,t,lo,hi,h1,h2⟩:=hh (.cells b o n C) sq;have sub:∀ (o' n':Nat) (C':Nat->Value),o<=o'->o'+n'<=o+n->∀ b' i,(aG.cells b o' n' C').gL b' i->(aG.cells b o n C).gL b' i:=fun o' n' C' h3 h4 b' i ⟨e1,e2,e3⟩=>⟨e1,og,og⟩;have s1:=sub (o+off) m (fun i=>C (off+i)) og og;have s2:=sub o off C og og;have s3:=sub (o+off+m) (n-off-m) (fun i=>C (off+m+i)) og og;refine⟨⟨fun e he=> ?_,?_⟩,hk,fun e he hw b' i hb=> ?_⟩
 ·simp only[List.mem_cons]at he;rcases he with rfl | rfl | rfl | he
  ·refine⟨A,t,lo,hi,h1,fun i KF=> ?_⟩;have:=h2 (off+i) og;rw[show o+off+i=o+(off+i)from og];exact this
  ·exact⟨A,t,lo,hi,h1,fun i KF=>h2 i og⟩
  ·refine⟨A,t,lo,hi,h1,fun i KF=> ?_⟩;have:=h2 (off+m+i) og;rw[show o+off+m+i=o+(off+m+i)from og];exact this
  ·exact hh e (by simp[he])
 refine List.pairwise_cons.2 ⟨fun e he _ b' i h3 h4=> ?_,List.pairwise_cons.2 ⟨fun e he _ b' i h3 h4=> ?_,List.pairwise_cons.2 ⟨fun e he _ b' i h3 h4=>pe.1 e he (by simp[aG.wr]) b' i (s3 b' i h3) h4,pe.2⟩⟩⟩
 simp only[List.mem_cons]at he;rcases he with rfl | rfl | he;rotate_left;rotate_left
 ·exact pe.1 e he (by simp[aG.wr]) b' i (s1 b' i h3) h4
 simp only[List.mem_cons]at he;rcases he with rfl | he;rotate_left
 ·exact pe.1 e he (by simp[aG.wr]) b' i (s2 b' i h3) h4
 ·simp only[List.mem_cons]at he;rcases he with rfl | rfl | rfl | he
  ·exact hm (.cells b o n C) sq rfl b' i (s1 b' i hb)
  ·exact hm (.cells b o n C) sq rfl b' i (s2 b' i hb)
  ·exact hm (.cells b o n C) sq rfl b' i (s3 b' i hb)
  ·exact hm e (by simp[he]) hw b' i hb
 all_goals obtain⟨_,a1,a2⟩:=h3;obtain⟨_,a3,a4⟩:=h4;omega
def XM.Bf{b o n off m:Nat}{C C1 C2 C3:Nat->Value}(hn:off+m<=n)(e1:∀ i,i<off->C i=C1 i)(e2:∀ i,i<m->C (off+i)=C2 i)(e3:∀ i,i<n-off-m->C (off+m+i)=C3 i)(h:XM W S (.cells b (o+off) m C2:: .cells b o off C1:: .cells b (o+off+m) (n-off-m) C3::H) w)(hm0:0<m):XM W S (.cells b o n C::H) w:=by
 obtain⟨⟨hh,pe⟩,hk,hm⟩:=h;simp only[List.pairwise_cons]at pe;obtain⟨p1,p2,p3,p4⟩:=pe;obtain⟨A,t,lo,hi,h1,h2⟩:=hh (.cells b (o+off) m C2) sq;obtain⟨A',t',lo',KF,h1',h2'⟩:=hh (.cells b o off C1) sq;obtain⟨A'',t'',aod,aoe,aev,akG⟩:=hh (.cells b (o+off+m) (n-off-m) C3) sq;rw[h1]at h1' aev;simp only[Option.some.injEq,Obj.cells.injEq,Prod.mk.injEq]at h1' aev;obtain⟨rfl,rfl,rfl,rfl⟩:=h1';obtain⟨rfl,rfl,rfl,rfl⟩:=aev;have cut:∀ b' i,(aG.cells b o n C).gL b' i->(aG.cells b (o+off) m C2).gL b' i\/(aG.cells b o off C1).gL b' i\/(aG.cells b (o+off+m) (n-off-m) C3).gL b' i:=fun b' i ⟨q1,q2,q3⟩=>by
  by_cases c1:i<o+off
  ·exact .inr (.inl ⟨q1,q2,c1⟩)
  ·by_cases c2:i<o+off+m
   ·exact .inl ⟨q1,og,c2⟩
   ·exact .inr (.inr ⟨q1,og,og⟩)
 refine⟨⟨fun e he=> ?_,List.pairwise_cons.2 ⟨fun e he _ b' i h3 h4=> ?_,p4⟩⟩,hk,fun e he hw b' i hb=> ?_⟩
 ·rcases List.mem_cons.1 he with rfl | he
  ·refine⟨A,t,lo,hi,h1,fun i SD=> ?_⟩;by_cases c1:i<off
   ·rw[e1 i c1];exact h2' i c1
   ·by_cases c2:i<off+m
    ·have:=h2 (i-off) og;have e:=e2 (i-off) og;rw[show off+(i-off)=i from og]at e;rw[show o+off+(i-off)=o+i from og]at this;rw[e];exact this
    ·have:=akG (i-off-m) og;have e:=e3 (i-off-m) og;rw[show off+m+(i-off-m)=i from og]at e;rw[show o+off+m+(i-off-m)=o+i from og]at this;rw[e];exact this
  ·exact hh e (by simp[he])
 ·rcases cut b' i h3 with h | h | h
  ·exact p1 e (by simp[he]) (by simp[aG.wr]) b' i h h4
  ·exact p2 e (by simp[he]) (by simp[aG.wr]) b' i h h4
  ·exact p3 e he (by simp[aG.wr]) b' i h h4
 ·rcases List.mem_cons.1 he with rfl | he
  ·rcases cut b' i hb with h | h | h
   ·exact hm _ sq rfl b' i h
   ·exact hm (.cells b o off C1) sq rfl b' i h
   ·exact hm (.cells b (o+off+m) (n-off-m) C3) sq rfl b' i h
  ·exact hm e (by simp[he]) hw b' i hb
def Lb(C:Nat->Nat->Value)(i:Nat)(x:Nat->Value):Nat->Nat->Value:=fun j=>bif Nat.beq j i then x else C j
def Lc(g:Nat->Nat)(i b:Nat):Nat->Nat:=fun j=>bif Nat.beq j i then b else g j
theorem I3(C:Nat->Nat->Value)(i:Nat)(x:Nat->Value):Lb C i x i=x:=by simp[Lb]
theorem I4(C:Nat->Nat->Value){i j:Nat}(x:Nat->Value)(h:j≠i):Lb C i x j=C j:=by simp[Lb,aar h]
theorem wE(g:Nat->Nat)(i b:Nat):Lc g i b i=b:=by simp[Lc]
theorem td(g:Nat->Nat){i j:Nat}(b:Nat)(h:j≠i):Lc g i b j=g j:=by simp[Lc,aar h]
def D4{p:Nat->Bool}{g:Nat->Nat}{n:Nat}{C:Nat->Nat->Value}(i:Nat)(hp:p i=true)(h:XM W S (.eJ p g n C::H) w):XM W S (.cells (g i) 0 n (C i):: .eJ (jS p i) g n C::H) w:=by
 obtain⟨⟨hh,pe⟩,hk,hm⟩:=h;rw[List.pairwise_cons]at pe;have hf:(aG.eJ p g n C).holds w:=hh _ sq;have ha1:∀ b o,(aG.cells (g i) 0 n (C i)).gL b o->(aG.eJ p g n C).gL b o:=fun b o ⟨e1,e2,e3⟩=>⟨i,hp,e1,og⟩;have ha2:∀ b o,(aG.eJ (jS p i) g n C).gL b o->(aG.eJ p g n C).gL b o:=fun b o ⟨j,hj,hb⟩=>⟨j,(jx.1 hj).1,hb⟩;refine⟨⟨fun e he=> ?_,List.pairwise_cons.2 ⟨fun e he _ b o h1 h2=> ?_,List.pairwise_cons.2 ⟨fun e he hw b o h1 h2=>pe.1 e he (by simp[aG.wr]) b o (ha2 b o h1) h2,pe.2⟩⟩⟩,hk,fun e he hw b o hb=> ?_⟩
 ·rcases List.mem_cons.1 he with rfl | he
  ·obtain⟨A,t,lo,hi,h1,h2⟩:=hf.1 i hp;exact⟨A,t,lo,hi,h1,fun j hj=>by rw[Nat.zero_add];exact h2 j hj⟩
  ·rcases List.mem_cons.1 he with rfl | he
   ·exact⟨fun j hj=>hf.1 j (jx.1 hj).1,fun j k hj hk=>hf.2 j k (jx.1 hj).1 (jx.1 hk).1⟩
   ·exact hh e (List.mem_cons_of_mem _ he)
 ·rcases List.mem_cons.1 he with rfl | he
  ·obtain⟨j,hj,hb,_⟩:=h2;have K3:=jx.1 hj;exact hf.2 i j hp K3.1 (Ne.symm K3.2) (h1.1.symm.trans hb)
  ·exact pe.1 e he (by simp[aG.wr]) b o (ha1 b o h1) h2
 ·rcases List.mem_cons.1 he with rfl | he
  ·exact hm _ sq rfl b o (ha1 b o hb)
  ·rcases List.mem_cons.1 he with rfl | he
   ·exact hm (.eJ p g n C) sq rfl b o (ha2 b o hb)
   ·exact hm e (List.mem_cons_of_mem _ he) hw b o hb
def Hg{p:Nat->Bool}{g:Nat->Nat}{n b0:Nat}{C:Nat->Nat->Value}{x:Nat->Value}(i:Nat)(hn:0<n)(hp:p i=false)(h:XM W S (.cells b0 0 n x:: .eJ p g n C::H) w):XM W S (.eJ (He p i) (Lc g i b0) n (Lb C i x)::H) w:=by
 obtain⟨⟨hh,pe⟩,hk,hm⟩:=h;rw[List.pairwise_cons,List.pairwise_cons]at pe;obtain⟨hx,Va,Sm⟩:=pe;have hf:(aG.eJ p g n C).holds w:=hh _ sq;have hc:(aG.cells b0 0 n x).holds w:=hh _ sq;have gJ:∀ j,p j=true->j≠i:=fun j hj e=>by subst e;rw[hp]at hj;cases hj
 have hxb:∀ j,p j=true->g j≠b0:=fun j hj e=>hx (.eJ p g n C) sq (by simp[aG.wr]) b0 0 ⟨rfl,og,og⟩ ⟨j,hj,e.symm,hn⟩;have har:∀ b o,(aG.eJ (He p i) (Lc g i b0) n (Lb C i x)).gL b o->(aG.cells b0 0 n x).gL b o\/(aG.eJ p g n C).gL b o:=fun b o ⟨j,hj,hb,ho⟩=>by
  rcases kB.1 hj with h1 | rfl
  ·rw[td _ _ (gJ j h1)]at hb;exact .inr ⟨j,h1,hb,ho⟩
  ·rw[wE]at hb;exact .inl ⟨hb,og,og⟩
 refine⟨⟨fun e he=> ?_,List.pairwise_cons.2 ⟨fun e he _ b o h1 h2=> ?_,Sm⟩⟩,hk,fun e he hw b o hb=> ?_⟩
 ·rcases List.mem_cons.1 he with rfl | he
  ·refine⟨fun j hj=> ?_,fun j k hj Dr hjk=> ?_⟩
   ·rcases kB.1 hj with h1 | rfl
    ·rw[td _ _ (gJ j h1),I4 _ _ (gJ j h1)];exact hf.1 j h1
    ·rw[wE,I3];obtain⟨A,t,lo,hi,h1,h2⟩:=hc;exact⟨A,t,lo,hi,h1,fun m ZV=>by have:=h2 m ZV;rwa[Nat.zero_add]at this⟩
   ·rcases kB.1 hj with q1 | rfl
    ·rw[td _ _ (gJ j q1)];rcases kB.1 Dr with q2 | rfl
     ·rw[td _ _ (gJ k q2)];exact hf.2 j k q1 q2 hjk
     ·rw[wE];exact hxb j q1
    ·rw[wE];rcases kB.1 Dr with q2 | rfl
     ·rw[td _ _ (gJ k q2)];exact fun e=>hxb k q2 e.symm
     ·exact absurd rfl hjk
  ·exact hh e (by simp[he])
 ·rcases har b o h1 with h3 | h3
  ·exact hx e (by simp[he]) (by simp[aG.wr]) b o h3 h2
  ·exact Va e he (by simp[aG.wr]) b o h3 h2
 ·rcases List.mem_cons.1 he with rfl | he
  ·rcases har b o hb with h3 | h3
   ·exact hm (.cells b0 0 n x) sq rfl b o h3
   ·exact hm _ sq rfl b o h3
  ·exact hm e (by simp[he]) hw b o hb
def D5{g:Nat->Nat}{n:Nat}{C:Nat->Nat->Value}(h:XM W S H w):XM W S (.eJ (fun _=>false) g n C::H) w:=by
 obtain⟨⟨hh,pe⟩,hk,hm⟩:=h;refine⟨⟨fun e he=> ?_,List.pairwise_cons.2 ⟨fun e _ _ b o h1 _=> ?_,pe⟩⟩,hk,fun e he hw b o hb=> ?_⟩
 ·rcases List.mem_cons.1 he with rfl | he
  ·exact⟨fun i hi=>(by cases hi),fun i j hi=>(by cases hi)⟩
  ·exact hh e he
 ·obtain⟨i,hi,_⟩:=h1;cases hi
 ·rcases List.mem_cons.1 he with rfl | he
  ·obtain⟨i,hi,_⟩:=hb;cases hi
  ·exact hm e he hw b o hb
def Hh{r:Nat->re}(h:XM W S H w):XM W S (.aV (fun _=>false) r::H) w:=by
 obtain⟨⟨hh,pe⟩,hk,hm⟩:=h;refine⟨⟨fun e he=> ?_,List.pairwise_cons.2 ⟨fun e _ _ b o h1 _=> ?_,pe⟩⟩,hk,fun e he hw b o hb=> ?_⟩
 ·rcases List.mem_cons.1 he with rfl | he
  ·exact⟨fun i hi=>(by cases hi),fun i j b hi=>(by cases hi)⟩
  ·exact hh e he
 ·obtain⟨i,hi,_⟩:=h1;cases hi
 ·rcases List.mem_cons.1 he with rfl | he
  ·obtain⟨i,hi,_⟩:=hb;cases hi
  ·exact hm e he hw b o hb
end
end Go.X

namespace Go.X
open Go
variable{s:ByteArray}{op:Op}{x y:Operand}
inductive SV where
 | int (k:IntKind) (z:Int)
 | str (s:ByteArray)
 | ay (b o i:Nat)
 | nil
 | err (T:TypeId) (e:Int)
 | ifc (T:TypeId) (v:Value)
 | pn
 | tt
 | ff
 | Qv (p:Prop) [inst:Decidable p]
 | bool (b:Bool)
 | slc (p:Option Addr) (n c:Nat)
 | un
 | val (v:Value)
def aQ:SV->Value
 | .int k z=>.int k z
 | .str s=>.string s
 | .ay b o i=>Go.X.ay b o i
 | .nil=>.nilIface
 | .err T e=>ax T e
 | .ifc T v=>.iface T v
 | .pn=>.pointer none
 | .tt=>.bool true
 | .ff=>.bool false
 | @SV.Qv p i=>.bool (@decide p i)
 | .bool b=>.bool b
 | .slc p n c=>.slice p n c
 | .un=>undef
 | .val v=>v
def bH:List SV->List Value
 | []=>[]
 | s::r=>(aQ s)::bH r
inductive SW where
 | one (s:SV)
 | tup (l:List SV)
def aR:SW->Value
 | .one s=>(aQ s)
 | .tup l=>.tuple (bH l).toArray
abbrev SF:=List (Nat×SW)
def dn:SF->PF
 | []=>[]
 | (i,s)::r=>(i,(aR s))::dn r
def sk:SF->Nat->Option SW
 | [],_=>none
 | (i,s)::r,j=>match Nat.beq i j with
  | true=>some s
  | false=>sk r j
theorem Cv:∀ {L:SF} {j:Nat} {s:SW},sk L j=some s->lk (dn L) j=some (aR s)
 | [],_,_,h=>by simp[sk]at h
 | (i,t)::r,j,s,h=>by
  simp only[sk]at h;simp only[dn,lk];cases hb:Nat.beq i j with
  | true=>simp only[hb,Option.some.injEq]at h;subst h;rfl
  | false=>simp only[hb]at h;exact Cv h
def bQ:Value->SV
 | .int k z=>.int k z
 | .string s=>.str s
 | .nilIface=>.nil
 | .pointer none=>.pn
 | .bool true=>.tt
 | .bool false=>.ff
 | .slice p n c=>.slc p n c
 | v=>.val v
def aas(v:Value):aQ (bQ v)=v:=by
 unfold bQ;split<;>rfl
def sv(L:SF):Operand->Option SW
 | .tmp t=>sk L t
 | .const v=>some (.one (bQ v))
 | .global g=>some (.one (.val (.pointer (some ⟨g,0,none⟩))))
 | .func f=>some (.one (.val (.func (.func f) #[] #[])))
theorem dC{L:SF}{s:SW}(h:sv L x=some s):ev (dn L) x=some (aR s):=by
 cases x with
 | tmp t=>exact Cv h
 | const v=>simp only[sv,Option.some.injEq]at h;subst h;exact congrArg some (aas v).symm
 | global g=>simp only[sv,Option.some.injEq]at h;subst h;rfl
 | func f=>simp only[sv,Option.some.injEq]at h;subst h;rfl
inductive BT where
 | lf
 | nd (k:Nat) (vs:List Nat) (l r:BT)
def BT.nth:List Nat->Nat->Option Nat
 | [],_=>none
 | v::_,0=>some v
 | _::r,j+1=>BT.nth r j
def BT.get:BT->Nat->Option Nat
 | .lf,_=>none
 | .nd k vs l r,j=>match Nat.blt j k with
  | true=>l.get j
  | false=>match BT.nth vs (Nat.sub j k)with
   | some v=>some v
   | none=>r.get j
def BT.fF(f:Nat->Nat->Bool):Nat->List Nat->Bool
 | _,[]=>true
 | k,v::r=>f k v&&BT.fF f (k+1) r
def BT.all(f:Nat->Nat->Bool):BT->Bool
 | .lf=>true
 | .nd k vs l r=>BT.fF f k vs&&l.all f&&r.all f
def Cw{f:Nat->Nat->Bool} :∀ {vs:List Nat} {k i v:Nat},BT.fF f k vs=true->BT.nth vs i=some v->f (k+i) v=true
 | [],_,_,_,_,h=>by simp[BT.nth]at h
 | u::r,k,0,v,ha,h=>by
  simp only[BT.nth,Option.some.injEq]at h;subst h;simp only[BT.fF,Bool.and_eq_true]at ha;exact ha.1
 | u::r,k,i+1,v,ha,h=>by
  simp only[BT.nth]at h;simp only[BT.fF,Bool.and_eq_true]at ha;have:=Cw ha.2 h;rwa[Nat.add_right_comm]at this
def jT{f:Nat->Nat->Bool} :∀ {t:BT} {j v:Nat},t.all f=true->t.get j=some v->f j v=true
 | .lf,_,_,_,h=>by simp[BT.get]at h
 | .nd k vs l r,j,v,ha,h=>by
  simp only[BT.all,Bool.and_eq_true]at ha;simp only[BT.get]at h;cases hc:Nat.blt j k with
  | true=>simp only[hc]at h;exact jT ha.1.2 h
  | false=>
   simp only[hc]at h;cases hn:BT.nth vs (Nat.sub j k)with
   | none=>simp only[hn]at h;exact jT ha.2 h
   | some u=>
    simp only[hn,Option.some.injEq]at h;subst h;have h1:=Cw ha.1.1 hn;have h2:¬j<k:=fun q=>by rw[show Nat.blt j k=true from Nat.ble_eq_true_of_le q]at hc;cases hc
    rwa[show k+Nat.sub j k=j from by show k+(j-k)=j;omega]at h1
structure Ld where
 fo:BT
 un:BT
 sz:BT
 an:BT
 asz:BT
 sl:BT
 fn:BT
def u9(P:Program)(t c:Nat):Bool:=match P.underlying t with
 | some (.interface _)=>Nat.beq c 1
 | some (.pointer _)=>Nat.beq c 2
 | some .string=>Nat.beq c 3
 | some (.slice _)=>Nat.beq c 4
 | some .bool=>Nat.beq c 5
 | some (.struct _)=>Nat.beq c 7
 | some (.array _ _)=>Nat.beq c 7
 | some _=>Nat.beq c 6
 | none=>false
def Ld.ok(P:Program)(t:Ld):Bool:=t.fo.all (fun k v=>match ey P (k/64) (k%64)with
 | some u=>Nat.beq u v
 | none=>false)&&t.un.all (u9 P)&&t.sz.all (fun k v=>match fE P k with
 | some u=>Nat.beq u v
 | none=>false)&&t.an.all (fun k v=>match xN P k with
 | some u=>Nat.beq u.1 v
 | none=>false)&&t.asz.all (fun k v=>match xN P k with
 | some u=>Nat.beq u.2 v
 | none=>false)&&t.sl.all (fun k v=>match wz P k with
 | some u=>Nat.beq u.2 v
 | none=>false)&&t.fn.all fun k _=>dg P k
class Tb(P:Program) where
 t:Ld
 ok:t.ok P=true
def Tb.fo{P:Program}[h:Tb P]{s f k:Nat}(hf:f<64)(hk:h.t.fo.get (s*64+f)=some k):ey P s f=some k:=by
 have h1:=h.ok;simp only[Ld.ok,Bool.and_eq_true]at h1;have h2:=jT h1.1.1.1.1.1.1 hk;rw[show(s*64+f)/64=s from og,show(s*64+f)%64=f from og]at h2;cases hx:ey P s f with
 | none=>simp[hx]at h2
 | some u=>simp only[hx]at h2;rw[Nat.eq_of_beq_eq_true h2]
theorem Tb.un{P:Program}[h:Tb P]{t c:Nat}(hk:h.t.un.get t=some c):u9 P t c=true:=by
 have h1:=h.ok;simp only[Ld.ok,Bool.and_eq_true]at h1;exact jT h1.1.1.1.1.1.2 hk
theorem Tb.sz{P:Program}[h:Tb P]{t c:Nat}(hk:h.t.sz.get t=some c):fE P t=some c:=by
 have h1:=h.ok;simp only[Ld.ok,Bool.and_eq_true]at h1;have h2:=jT h1.1.1.1.1.2 hk;cases hx:fE P t with
 | none=>simp[hx]at h2
 | some u=>simp only[hx]at h2;rw[Nat.eq_of_beq_eq_true h2]
def Tb.ar{P:Program}[h:Tb P]{t c s:Nat}(hk:h.t.an.get t=some c)(hs:h.t.asz.get t=some s):xN P t=some (c,s):=by
 have h1:=h.ok;simp only[Ld.ok,Bool.and_eq_true]at h1;have h2:=jT h1.1.1.1.2 hk;have h3:=jT h1.1.1.2 hs;cases hx:xN P t with
 | none=>simp[hx]at h2
 | some u=>simp only[hx]at h2 h3;rw[<-Nat.eq_of_beq_eq_true h2,<-Nat.eq_of_beq_eq_true h3]
def Tb.sl{P:Program}[h:Tb P]{t c:Nat}(hk:h.t.sl.get t=some c):∃ e,wz P t=some (e,c):=by
 have h1:=h.ok;simp only[Ld.ok,Bool.and_eq_true]at h1;have h2:=jT h1.1.2 hk;cases hx:wz P t with
 | none=>simp[hx]at h2
 | some u=>simp only[hx]at h2;exact⟨u.1,by rw[<-Nat.eq_of_beq_eq_true h2]⟩
def Tb.fn{P:Program}[h:Tb P]{t c:Nat}(hk:h.t.fn.get t=some c):dg P t=true:=by
 have h1:=h.ok;simp only[Ld.ok,Bool.and_eq_true]at h1;exact jT h1.2 hk
def aat{P:Program}{t c:Nat}(h:u9 P t c=true)(hc:Nat.blt c 7=true):jL P t=true:=by
 unfold u9 at h;unfold jL;split at h<;>first | (rename_i e;rw[e];done) | skip
 all_goals first | (have:=Nat.eq_of_beq_eq_true h;subst this;simp at hc;done) | skip
 all_goals first | (rename_i e;rw[e];split<;>simp_all;done) | (simp_all;done)
def N1{P:Program}{t:Nat}(h:u9 P t 7=true):oM P t=true:=by
 unfold u9 at h;unfold oM;split at h<;>first | (rename_i e;rw[e];done) | (simp at h;done)
def un1{P:Program}{t:Nat}(h:u9 P t 1=true):∃ ms,P.underlying t=some (.interface ms):=by
 unfold u9 at h;split at h<;>first | exact⟨_,aq⟩ | cases h
def un2{P:Program}{t:Nat}(h:u9 P t 2=true):∃ e,P.underlying t=some (.pointer e):=by
 unfold u9 at h;split at h<;>first | exact⟨_,aq⟩ | cases h
def un3{P:Program}{t:Nat}(h:u9 P t 3=true):P.underlying t=some .string:=by
 unfold u9 at h;split at h<;>first | assumption | cases h
def un4{P:Program}{t:Nat}(h:u9 P t 4=true):∃ e,P.underlying t=some (.slice e):=by
 unfold u9 at h;split at h<;>first | exact⟨_,aq⟩ | cases h
def unV{P:Program}{t c:Nat}(h:u9 P t c=true)(hc:Nat.beq c 1=false):∃ ds,P.underlying t=some ds/\∀ ms,ds≠ .interface ms:=by
 cases hu:P.underlying t with
 | none=>simp[u9,hu]at h
 | some ds=>
  refine⟨ds,rfl,fun ms e=> ?_⟩;subst e;simp only[u9,hu]at h;rw[hc]at h;cases h
def VP:List SV->Nat->Option SW
 | [],_=>none
 | s::_,0=>some (.one s)
 | _::r,k+1=>VP r k
def Le:∀ {l:List SV} {k:Nat} {s:SW},VP l k=some s->NT (bH l) k=some (aR s)
 | [],_,_,h=>by simp[VP]at h
 | _::_,0,_,h=>by simp only[VP,Option.some.injEq]at h;subst h;rfl
 | _::r,k+1,_,h=>Le (l:=r) h
def ah5(a b:Int):BinOp->Option SW
 | .eql=>some (.one (.Qv (a=b)))
 | .neq=>some (.one (.Qv (a≠b)))
 | .lss=>some (.one (.Qv (a<b)))
 | .leq=>some (.one (.Qv (a<=b)))
 | .gtr=>some (.one (.Qv (a>b)))
 | .geq=>some (.one (.Qv (a>=b)))
 | _=>none
def ah6(a b:ByteArray):BinOp->Option SW
 | .eql=>some (.one (.Qv (a=b)))
 | .neq=>some (.one (.Qv (a≠b)))
 | .lss=>some (.one (.bool (Op.bytesLess a.toList b.toList)))
 | _=>none
def Gp(T:Ld)(t c:Nat)(r:SV)(r':SV):BinOp->Option SW
 | .eql=>match T.un.get t with
  | some d=>match Nat.beq d c with
   | true=>some (.one r)
   | false=>none
  | none=>none
 | .neq=>match T.un.get t with
  | some d=>match Nat.beq d c with
   | true=>some (.one r')
   | false=>none
  | none=>none
 | _=>none
def Bg:Operand->Bool
 | .const .nilIface=>true
 | _=>false
def Qw:Operand->Bool
 | .const (.pointer none)=>true
 | _=>false
def VQ(T:Ld)(L:SF)(op:BinOp)(t:TypeId)(x y:Operand):Option SW:=match sv L x with
 | some (.one (.int k a))=>match sv L y with
  | some (.one (.int k' b))=>match decEq k k' with
   | .isTrue _=>ah5 a b op
   | .isFalse _=>none
  | _=>none
 | some (.one (.str a))=>match sv L y with
  | some (.one (.str b))=>ah6 a b op
  | _=>none
 | some (.one (.err _ e))=>match Bg y with
  | true=>Gp T t 1 (.Qv (e=0)) (.Qv (e≠0)) op
  | false=>none
 | some (.one .nil)=>match Bg y with
  | true=>Gp T t 1 .tt .ff op
  | false=>none
 | some (.one (.ifc _ _))=>match Bg y with
  | true=>Gp T t 1 .ff .tt op
  | false=>none
 | some (.one (.ay _ _ _))=>match Qw y with
  | true=>Gp T t 2 .ff .tt op
  | false=>none
 | some (.one .pn)=>match Qw y with
  | true=>Gp T t 2 .tt .ff op
  | false=>none
 | _=>none
def VR(T:Ld)(L:SF)(b:Builtin)(xs:Array Operand)(ts:Array TypeId):Option SW:=match b with
 | .len=>match xs.toList with
  | [x]=>match ts.toList with
   | [t]=>match T.un.get t with
    | some c=>match sv L x with
     | some (.one (.str s))=>match Nat.beq c 3 with
      | true=>some (.one (.int .i64 s.size))
      | false=>none
     | some (.one (.slc _ n _))=>match Nat.beq c 4 with
      | true=>some (.one (.int .i64 n))
      | false=>none
     | _=>none
    | none=>none
   | _=>none
  | _=>none
 | .min=>match xs.toList with
  | [x,y]=>match ts.toList with
   | [_,_]=>match sv L x with
    | some (.one (.int k a))=>match sv L y with
     | some (.one (.int k' b))=>match decEq k k' with
      | .isTrue _=>some (.one (.int k (min a b)))
      | .isFalse _=>none
     | _=>none
    | _=>none
   | _=>none
  | _=>none
 | .max=>match xs.toList with
  | [x,y]=>match ts.toList with
   | [_,_]=>match sv L x with
    | some (.one (.int k a))=>match sv L y with
     | some (.one (.int k' b))=>match decEq k k' with
      | .isTrue _=>some (.one (.int k (max a b)))
      | .isFalse _=>none
     | _=>none
    | _=>none
   | _=>none
  | _=>none
 | _=>none
def adr:SW->Option SW
 | .one .tt=>some (.one .ff)
 | .one .ff=>some (.one .tt)
 | .one (@SV.Qv p _)=>some (.one (.Qv (¬p)))
 | .one (.bool b)=>some (.one (.bool (!b)))
 | _=>none
def ads(u v:SW):SW->Option SW
 | .one .tt=>some u
 | .one .ff=>some v
 | _=>none
def VS(T:Ld)(L:SF):Op->Option SW
 | .move x=>sv L x
 | .assign x=>sv L x
 | .pick c x y=>match sv L x with
  | some u=>match sv L y with
   | some v=>match sv L c with
    | some t=>ads u v t
    | none=>none
   | none=>none
  | none=>none
 | .nilCheck x=>match sv L x with
  | some (.one (.ay b o i))=>some (.one (.ay b o i))
  | _=>none
 | .extract x k=>match sv L x with
  | some (.tup l)=>VP l k
  | _=>none
 | .fieldAddr s x f=>match sv L x with
  | some (.one (.ay b o i))=>match Nat.blt f 64 with
   | true=>match T.fo.get (s*64+f)with
    | some k=>some (.one (.ay b o (i+k)))
    | none=>none
   | false=>none
  | _=>none
 | .binOp op t x y _=>VQ T L op t x y
 | .unOp op _ x=>match op with
  | .not=>match sv L x with
   | some s=>adr s
   | none=>none
  | _=>none
 | .makeInterface t x=>match sv L x with
  | some (.one s)=>match T.un.get t with
   | some c=>match Nat.beq c 1 with
    | true=>none
    | false=>some (.one (.ifc t (aQ s)))
   | none=>none
  | _=>none
 | .call c=>match c with
  | ⟨.builtin b,xs,ts⟩=>VR T L b xs ts
  | _=>none
 | _=>none
def aex(s:ByteArray):Option SW->Option SW->Option (Prop×SW)
 | some (.one (.int _ z)),some (.one (.int _ z'))=>some (0<=z/\z<=z'/\z'<=s.size,.one (.str (s.extract z.toNat z'.toNat)))
 | _,_=>none
def aey(s:ByteArray):Option SW->Option (Prop×SW)
 | some (.one (.int _ z))=>some (0<=z/\z<=s.size,.one (.str (s.extract z.toNat s.size)))
 | _=>none
def aez(s:ByteArray):Option SW->Option (Prop×SW)
 | some (.one (.int _ z))=>some (0<=z/\z<=s.size,.one (.str (s.extract 0 z.toNat)))
 | _=>none
def arI(a b:Int):BinOp->Option (Prop×SW)
 | .add=>some (-9223372036854775808<=a+b/\a+b<=9223372036854775807,.one (.int .i64 (a+b)))
 | .sub=>some (-9223372036854775808<=a-b/\a-b<=9223372036854775807,.one (.int .i64 (a-b)))
 | .mul=>some (-9223372036854775808<=a*b/\a*b<=9223372036854775807,.one (.int .i64 (a*b)))
 | _=>none
def VT(T:Ld)(L:SF):Op->Option (Prop×SW)
 | .binOp op _ x y _=>match sv L x with
  | some (.one (.int .i64 a))=>match sv L y with
   | some (.one (.int .i64 b))=>arI a b op
   | _=>none
  | some (.one (.str a))=>match sv L y with
   | some (.one (.str b))=>match op with
    | .add=>some (a.size+b.size<=9223372036854775807,.one (.str (a++b)))
    | _=>none
   | _=>none
  | _=>none
 | .unOp op _ x=>match op with
  | .neg=>match sv L x with
   | some (.one (.int .i64 a))=>some (-9223372036854775808<=0-a/\0-a<=9223372036854775807,.one (.int .i64 (0-a)))
   | _=>none
  | _=>none
 | .indexAddr t x y=>match sv L y with
  | some (.one (.int _ z))=>match sv L x with
   | some (.one (.ay b o i))=>match T.an.get t with
    | some m=>match T.asz.get t with
     | some s=>some (0<=z/\z<m,.one (.ay b o (i+z.toNat*s)))
     | none=>none
    | none=>none
   | some (.one (.slc (some ⟨b,o,none⟩) n _))=>match T.sl.get t with
    | some s=>some (0<=z/\z<n,.one (.ay b o (0+z.toNat*s)))
    | none=>none
   | _=>none
  | _=>none
 | .slice t x lo hi mx=>match mx with
  | none=>match T.un.get t with
   | some c=>match Nat.beq c 3 with
    | true=>match sv L x with
     | some (.one (.str s))=>match lo with
      | none=>match hi with
       | none=>none
       | some y=>aez s (sv L y)
      | some y=>match hi with
       | none=>aey s (sv L y)
       | some u=>aex s (sv L y) (sv L u)
     | _=>none
    | false=>none
   | none=>none
  | some _=>none
 | _=>none
def svs(L:SF):List Operand->Option (List SW)
 | []=>some []
 | x::r=>match sv L x with
  | some s=>match svs L r with
   | some l=>some (s::l)
   | none=>none
  | none=>none
def Qx:List SW->List Value
 | []=>[]
 | s::r=>(aR s)::Qx r
theorem Qy{L:SF} :∀ {xs:List Operand} {l:List SW},svs L xs=some l->Sn (dn L) xs=some (Qx l)
 | [],l,h=>by simp only[svs,Option.some.injEq]at h;subst h;rfl
 | x::r,l,h=>by
  simp only[svs]at h;split at h
  ·rename_i s hx;split at h
   ·rename_i l' hr;simp only[Option.some.injEq]at h;subst h;simp only[Sn,dC hx,Qy hr,Qx]
   ·cases h
  ·cases h
section
variable{P:Program}{n:Fr}{L:SF}{ty:TypeId}{pos:String}{af:Array Edge}{d:Nat}{gd:Option (Nat×Bool)}{φ:World->Prop}
theorem rV{a b:Nat}(h:Nat.beq a b=true):a=b:=Nat.eq_of_beq_eq_true h
def VU[h:Tb P]{op:BinOp}{t t':TypeId}{s:SW}(hs:VQ h.t L op t x y=some s):bj P n (dn L) φ ⟨some d,.binOp op t x y t',ty,pos,af,gd⟩ (aR s):=by
 unfold VQ at hs;split at hs
 ·rename_i k a hx;split at hs
  ·rename_i k' b hy;split at hs
   ·rename_i hk _;subst hk;cases op<;>simp only[ah5,Option.some.injEq]at hs<;>first | cases hs;done | (subst hs;exact Vt (dC hx) (dC hy) rfl)
   ·cases hs
  ·cases hs
 ·rename_i a hx;split at hs
  ·rename_i b hy;cases op<;>simp only[ah6,Option.some.injEq]at hs<;>first | cases hs;done | (subst hs;exact Vz (dC hx) (dC hy) rfl)
  ·cases hs
 ·rename_i T e hx;split at hs
  ·rename_i hn;have hy:y= .const .nilIface:=by unfold Bg at hn;split at hn<;>first | rfl | cases hn
   subst hy;cases op<;>simp only[Gp]at hs<;>first | cases hs;done | (split at hs<;>first | cases hs;done | (split at hs<;>first | cases hs;done | (
    rename_i hg _ hb
    obtain⟨ms,hu⟩:=un1 (by rw[<-rV hb];exact Tb.un hg)
    simp only[Option.some.injEq]at hs
    subst hs
    exact VD (dC hx) hu rfl)))
  ·cases hs
 ·rename_i hx;split at hs
  ·rename_i hn;have hy:y= .const .nilIface:=by unfold Bg at hn;split at hn<;>first | rfl | cases hn
   subst hy;cases op<;>simp only[Gp]at hs<;>first | cases hs;done | (split at hs<;>first | cases hs;done | (split at hs<;>first | cases hs;done | (
    rename_i hg _ hb
    obtain⟨ms,hu⟩:=un1 (by rw[<-rV hb];exact Tb.un hg)
    simp only[Option.some.injEq]at hs
    subst hs
    exact K1 (dC hx) hu rfl)))
  ·cases hs
 ·rename_i T v hx;split at hs
  ·rename_i hn;have hy:y= .const .nilIface:=by unfold Bg at hn;split at hn<;>first | rfl | cases hn
   subst hy;cases op<;>simp only[Gp]at hs<;>first | cases hs;done | (split at hs<;>first | cases hs;done | (split at hs<;>first | cases hs;done | (
    rename_i hg _ hb
    obtain⟨ms,hu⟩:=un1 (by rw[<-rV hb];exact Tb.un hg)
    simp only[Option.some.injEq]at hs
    subst hs
    exact DW (dC hx) hu rfl)))
  ·cases hs
 ·rename_i b o i hx;split at hs
  ·rename_i hn;have hy:y= .const (.pointer none):=by unfold Qw at hn;split at hn<;>first | rfl | cases hn
   subst hy;cases op<;>simp only[Gp]at hs<;>first | cases hs;done | (split at hs<;>first | cases hs;done | (split at hs<;>first | cases hs;done | (
    rename_i hg _ hb
    obtain⟨ms,hu⟩:=un2 (by rw[<-rV hb];exact Tb.un hg)
    simp only[Option.some.injEq]at hs
    subst hs
    exact Ss (dC hx) hu rfl)))
  ·cases hs
 ·rename_i hx;split at hs
  ·rename_i hn;have hy:y= .const (.pointer none):=by unfold Qw at hn;split at hn<;>first | rfl | cases hn
   subst hy;cases op<;>simp only[Gp]at hs<;>first | cases hs;done | (split at hs<;>first | cases hs;done | (split at hs<;>first | cases hs;done | (
    rename_i hg _ hb
    obtain⟨ms,hu⟩:=un2 (by rw[<-rV hb];exact Tb.un hg)
    simp only[Option.some.injEq]at hs
    subst hs
    exact Su (dC hx) hu rfl)))
  ·cases hs
 ·cases hs
theorem Lf{α:Type}{xs:Array α}{l:List α}(h:xs.toList=l):xs=l.toArray:=by rw[<-h]
def VV[h:Tb P]{b:Builtin}{xs:Array Operand}{ts:Array TypeId}{s:SW}(hs:VR h.t L b xs ts=some s):bj P n (dn L) φ ⟨some d,.call ⟨.builtin b,xs,ts⟩,ty,pos,af,gd⟩ (aR s)/\cQ (.call ⟨.builtin b,xs,ts⟩)=false:=by
 unfold VR at hs;split at hs
 ·refine⟨?_,rfl⟩;split at hs
  ·rename_i x NG;split at hs
   ·rename_i t hts;split at hs
    ·rename_i c hc;split at hs
     ·rename_i a hx;split at hs
      ·rename_i hb;simp only[Option.some.injEq]at hs;subst hs;rw[Lf NG,Lf hts];exact Vy (dC hx) (un3 (by rw[<-rV hb];exact Tb.un hc))
      ·cases hs
     ·rename_i p k c2 hx;split at hs
      ·rename_i hb;simp only[Option.some.injEq]at hs;subst hs;rw[Lf NG,Lf hts];obtain⟨e,hu⟩:=un4 (by rw[<-rV hb];exact Tb.un hc);exact aaj (dC hx) hu
      ·cases hs
     ·cases hs
    ·cases hs
   ·cases hs
  ·cases hs
 ·refine⟨?_,rfl⟩;split at hs
  ·rename_i x y NG;split at hs
   ·rename_i t1 t2 hts;split at hs
    ·rename_i k a hx;split at hs
     ·rename_i k' b hy;split at hs
      ·rename_i hk _;subst hk;simp only[Option.some.injEq]at hs;subst hs;rw[Lf NG,Lf hts];exact V.min2 (dC hx) (dC hy)
      ·cases hs
     ·cases hs
    ·cases hs
   ·cases hs
  ·cases hs
 ·refine⟨?_,rfl⟩;split at hs
  ·rename_i x y NG;split at hs
   ·rename_i t1 t2 hts;split at hs
    ·rename_i k a hx;split at hs
     ·rename_i k' b hy;split at hs
      ·rename_i hk _;subst hk;simp only[Option.some.injEq]at hs;subst hs;rw[Lf NG,Lf hts];exact V.max2 (dC hx) (dC hy)
      ·cases hs
     ·cases hs
    ·cases hs
   ·cases hs
  ·cases hs
 ·cases hs
def VW[h:Tb P]{s:SW}(hs:VS h.t L op=some s):bj P n (dn L) φ ⟨some d,op,ty,pos,af,gd⟩ (aR s)/\cQ op=false:=by
 unfold VS at hs;split at hs
 ·exact⟨V.move (dC hs),rfl⟩
 ·exact⟨V.assign (dC hs),rfl⟩
 ·refine⟨?_,rfl⟩;split at hs
  ·rename_i u hx;split at hs
   ·rename_i v hy;split at hs
    ·rename_i t hc;unfold ads at hs;split at hs
     ·simp only[Option.some.injEq]at hs;subst hs;exact V.pick (t:=true) (dC hc) (dC hx) (dC hy) rfl
     ·simp only[Option.some.injEq]at hs;subst hs;exact V.pick (t:=false) (dC hc) (dC hx) (dC hy) rfl
     ·cases hs
    ·cases hs
   ·cases hs
  ·cases hs
 ·refine⟨?_,rfl⟩;split at hs
  ·rename_i b o i hx;simp only[Option.some.injEq]at hs;subst hs;exact aX (dC hx)
  ·cases hs
 ·refine⟨?_,rfl⟩;split at hs
  ·rename_i l hx;exact V.extract (dC hx) (by simpa using Le hs)
  ·cases hs
 ·refine⟨?_,rfl⟩;split at hs
  ·rename_i b o i hx;split at hs
   ·rename_i hf;split at hs
    ·rename_i k hk;simp only[Option.some.injEq]at hs;subst hs;exact V.fieldAddr (dC hx) (Tb.fo (by simpa using hf) hk)
    ·cases hs
   ·cases hs
  ·cases hs
 ·exact⟨VU hs,rfl⟩
 ·refine⟨?_,rfl⟩;split at hs
  ·split at hs
   ·rename_i t hx;unfold adr at hs;split at hs
    ·simp only[Option.some.injEq]at hs;subst hs;exact V.not (b:=true) (dC hx)
    ·simp only[Option.some.injEq]at hs;subst hs;exact V.not (b:=false) (dC hx)
    ·simp only[Option.some.injEq]at hs;subst hs;exact aen (dC hx)
    ·simp only[Option.some.injEq]at hs;subst hs;exact V.not (dC hx)
    ·cases hs
   ·cases hs
  ·cases hs
 ·refine⟨?_,rfl⟩;split at hs
  ·rename_i u hx;split at hs
   ·rename_i c hc;split at hs
    ·cases hs
    ·rename_i hb;simp only[Option.some.injEq]at hs;subst hs;obtain⟨ds,hu,hn⟩:=unV (Tb.un hc) hb;exact Ct (dC hx) hu hn
   ·cases hs
  ·cases hs
 ·split at hs
  ·exact VV hs
  ·cases hs
 ·cases hs
def aau{u:Operand}{t:TypeId}{q:Prop}{v:SW}(ht:P.underlying t=some .string)(hx:ev (dn L) x=some (.string s))(h:aex s (sv L y) (sv L u)=some (q,v))(hq:q):bj P n (dn L) φ ⟨some d,.slice t x (some y) (some u) none,ty,pos,af,gd⟩ (aR v):=by
 unfold aex at h;split at h
 ·rename_i k z k' z' hy hu;simp only[Option.some.injEq,Prod.mk.injEq]at h;obtain⟨rfl,rfl⟩:=h;exact VC hx (dC hy) (dC hu) ht hq
 ·cases h
def aav{t:TypeId}{q:Prop}{v:SW}(ht:P.underlying t=some .string)(hx:ev (dn L) x=some (.string s))(h:aey s (sv L y)=some (q,v))(hq:q):bj P n (dn L) φ ⟨some d,.slice t x (some y) none none,ty,pos,af,gd⟩ (aR v):=by
 unfold aey at h;split at h
 ·rename_i k z hy;simp only[Option.some.injEq,Prod.mk.injEq]at h;obtain⟨rfl,rfl⟩:=h;exact K0 hx (dC hy) ht hq
 ·cases h
def aaw{t:TypeId}{q:Prop}{v:SW}(ht:P.underlying t=some .string)(hx:ev (dn L) x=some (.string s))(h:aez s (sv L y)=some (q,v))(hq:q):bj P n (dn L) φ ⟨some d,.slice t x none (some y) none,ty,pos,af,gd⟩ (aR v):=by
 unfold aez at h;split at h
 ·rename_i k z hy;simp only[Option.some.injEq,Prod.mk.injEq]at h;obtain⟨rfl,rfl⟩:=h;exact Sr hx (dC hy) ht hq
 ·cases h
def VX[h:Tb P]{q:Prop}{v:SW}(hs:VT h.t L op=some (q,v))(hq:q):bj P n (dn L) φ ⟨some d,op,ty,pos,af,gd⟩ (aR v)/\cQ op=false:=by
 unfold VT at hs;split at hs
 ·refine⟨?_,rfl⟩;split at hs
  ·rename_i a hx;split at hs
   ·rename_i b hy;unfold arI at hs;split at hs
    ·simp only[Option.some.injEq,Prod.mk.injEq]at hs;obtain⟨rfl,rfl⟩:=hs;exact V.add (dC hx) (dC hy) _ (IntWalk.i64_in _ hq)
    ·simp only[Option.some.injEq,Prod.mk.injEq]at hs;obtain⟨rfl,rfl⟩:=hs;exact V.sub (dC hx) (dC hy) _ (IntWalk.i64_in _ hq)
    ·simp only[Option.some.injEq,Prod.mk.injEq]at hs;obtain⟨rfl,rfl⟩:=hs;exact V.mul (dC hx) (dC hy) _ (IntWalk.i64_in _ hq)
    ·cases hs
   ·cases hs
  ·rename_i a hx;split at hs
   ·rename_i b hy;split at hs
    ·simp only[Option.some.injEq,Prod.mk.injEq]at hs;obtain⟨rfl,rfl⟩:=hs;exact VA (dC hx) (dC hy) hq
    ·cases hs
   ·cases hs
  ·cases hs
 ·refine⟨?_,rfl⟩;split at hs
  ·split at hs
   ·rename_i a hx;simp only[Option.some.injEq,Prod.mk.injEq]at hs;obtain⟨rfl,rfl⟩:=hs;exact V.neg (dC hx) _ (IntWalk.i64_in _ hq)
   ·cases hs
  ·cases hs
 ·refine⟨?_,rfl⟩;split at hs
  ·rename_i k z hy;split at hs
   ·rename_i b o i hx;split at hs
    ·rename_i m hm;split at hs
     ·rename_i s hs';simp only[Option.some.injEq,Prod.mk.injEq]at hs;obtain⟨rfl,rfl⟩:=hs;exact jR (dC hx) (dC hy) (Tb.ar hm hs') hq
     ·cases hs
    ·cases hs
   ·rename_i b o m c hx;split at hs
    ·rename_i s hs';simp only[Option.some.injEq,Prod.mk.injEq]at hs;obtain⟨rfl,rfl⟩:=hs;obtain⟨e,he⟩:=Tb.sl hs';exact Ha (dC hx) (dC hy) he hq
    ·cases hs
   ·cases hs
  ·cases hs
 ·refine⟨?_,rfl⟩;split at hs
  ·split at hs
   ·rename_i c hc;split at hs
    ·rename_i hb;have ht:=un3 (P:=P) (by rw[<-rV hb];exact Tb.un hc);split at hs
     ·rename_i s hx;split at hs
      ·split at hs
       ·cases hs
       ·exact aaw ht (dC hx) hs hq
      ·split at hs
       ·exact aav ht (dC hx) hs hq
       ·exact aau ht (dC hx) hs hq
     ·cases hs
    ·cases hs
   ·cases hs
  ·cases hs
 ·cases hs
end
inductive Fm where
 | sq (c:Code)
 | blk (i:Nat)
 | th (T:Act->World->Prop)
def lJ(P:Program)(Q0:Exit->Act->World->Prop):List Fm->Exit->Act->World->Prop
 | []=>Q0
 | .sq y::K=>Exit.then (y.wp P (lJ P Q0 K)) (lJ P Q0 K)
 | .blk i::K=>Exit.inBlock i (lJ P Q0 K)
 | .th T::K=>Exit.then T (lJ P Q0 K)
inductive St where
 | c (x:Code)
 | o (md:Md) (l:List Oper)
 | e (x:Exit)
def aeB:Nat->List Nat->Bool
 | _,[]=>false
 | i,j::r=>match Nat.beq i j with
  | true=>true
  | false=>aeB i r
def va(ps:List Nat):SF->SF->(SF->Prop)->Prop
 | [],jM,k=>k jM
 | (i,s)::r,jM,k=>match aeB i ps with
  | true=>match sk jM i with
   | some _=>va ps r jM k
   | none=>va ps r ((i,s)::jM) k
  | false=>va ps r jM k
def Lg:List Oper->Nat->Option Nat
 | [],_=>none
 | o::_,0=>o.dst
 | _::r,k+1=>Lg r k
def Lh:∀ {l:List Oper} {j d:Nat},Lg l j=some d->(l[j]?).bind (·.dst)=some d
 | [],_,_,h=>by simp[Lg]at h
 | _::_,0,_,h=>by simpa [Lg]using h
 | _::r,k+1,_,h=>by simpa using Lh (l:=r) h
def D6:Code->Nat
 | .region i _ _=>i
 | .seq a _=>D6 a
 | .block _ c=>D6 c
 | .loop c=>D6 c
 | .cond _ a _=>D6 a
 | _=>0
def ah8:Code->Nat
 | .region _ _ _=>0
 | .seq _ _=>1
 | .cond _ _ _=>2
 | .block _ _=>3
 | .loop _=>4
 | _=>5
def aeC(i k:Nat):List (Nat×Nat)->Bool
 | []=>false
 | (j,l)::r=>match Nat.beq i j with
  | true=>match Nat.beq k l with
   | true=>true
   | false=>aeC i k r
  | false=>aeC i k r
def Sd(q R X:Prop):Prop:=(q/\R)\/X
section
variable(P:Program)(n:Fr)(Q0:Exit->Act->World->Prop)(M:World->Prop)(K:List Fm)(md:Md)(r:List Oper)(L:SF)
def LdG(t:TypeId)(d:Nat)(x:Operand)(ty:TypeId)(pos:String)(af:Array Edge)(b o i:Nat):Prop:=
 ev (dn L) x=some (ay b o i)->jL P t=true->Nat.blt d n.sz=true->XO P n md (lJ P Q0 K) (⟨some d,.load t x,ty,pos,af,none⟩::r) (dn L) M
def LdA(t:TypeId)(d:Nat)(x:Operand)(ty:TypeId)(pos:String)(af:Array Edge)(b o i k:Nat):Prop:=
 ev (dn L) x=some (ay b o i)->oM P t=true->fE P t=some k->Nat.blt d n.sz=true->XO P n md (lJ P Q0 K) (⟨some d,.load t x,ty,pos,af,none⟩::r) (dn L) M
def StG(t:TypeId)(x y:Operand)(ty:TypeId)(pos:String)(af:Array Edge)(b o i k:Nat)(s:SV):Prop:=
 ev (dn L) x=some (ay b o i)->ev (dn L) y=some (aQ s)->fE P t=some k->XO P n md (lJ P Q0 K) (⟨none,.store t x y,ty,pos,af,none⟩::r) (dn L) M
def CaG(d:Nat)(f:FuncId)(xs:List Operand)(pG:Array TypeId)(ty:TypeId)(pos:String)(af:Array Edge)(vs:List Value):Prop:=
 Sn (dn L) xs=some vs->dg P f=true->Nat.blt d n.sz=true->XO P n md (lJ P Q0 K) (⟨some d,.call ⟨.value (.func f),xs.toArray,pG⟩,ty,pos,af,none⟩::r) (dn L) M
def halt(T:Ld)(dst:Option Tmp)(op:Op)(ty:TypeId)(pos:String)(af:Array Edge)(ho:Prop):Prop:=match op with
   | .load t x=>match dst with
    | some d=>match sv L x with
     | some (.one (.ay b o i))=>match T.un.get t with
      | some c=>match Nat.blt c 7 with
       | true=>LdG P n Q0 M K md r L t d x ty pos af b o i
       | false=>match Nat.beq c 7 with
        | true=>match T.sz.get t with
         | some k=>LdA P n Q0 M K md r L t d x ty pos af b o i k
         | none=>ho
        | false=>ho
      | none=>ho
     | _=>ho
    | none=>ho
   | .store t x y=>match dst with
    | none=>match sv L x with
     | some (.one (.ay b o i))=>match sv L y with
      | some (.one s)=>match T.sz.get t with
       | some k=>StG P n Q0 M K md r L t x y ty pos af b o i k s
       | none=>ho
      | _=>ho
     | _=>ho
    | some _=>ho
   | .call c=>match c with
    | ⟨.value (.func f),xs,pG⟩=>match dst with
     | some d=>match T.fn.get f with
      | some _=>match svs L xs.toList with
       | some l=>CaG P n Q0 M K md r L d f xs.toList pG ty pos af (Qx l)
       | none=>ho
      | none=>ho
     | none=>ho
    | _=>ho
   | _=>ho
end
def Qz{P:Program}[h:Tb P]{n:Fr}{Q0:Exit->Act->World->Prop}{M:World->Prop}{K:List Fm}{md:Md}{r:List Oper}{L:SF}{dst:Option Tmp}{ty:TypeId}{pos:String}{af:Array Edge}(hd:∀ d,dst=some d->Nat.blt d n.sz=true)(hh:halt P n Q0 M K md r L h.t dst op ty pos af (XO P n md (lJ P Q0 K) (⟨dst,op,ty,pos,af,none⟩::r) (dn L) M)):XO P n md (lJ P Q0 K) (⟨dst,op,ty,pos,af,none⟩::r) (dn L) M:=by
 unfold halt at hh
 ·split at hh
  ·split at hh
   ·split at hh
    ·rename_i hx;split at hh
     ·rename_i hc;split at hh
      ·rename_i hb;exact hh (dC hx) (aat (Tb.un hc) hb) (hd _ rfl)
      ·split at hh
       ·rename_i hb;split at hh
        ·rename_i hk;exact hh (dC hx) (N1 (by rw[<-rV hb];exact Tb.un hc)) (Tb.sz hk) (hd _ rfl)
        ·exact hh
       ·exact hh
     ·exact hh
    ·exact hh
   ·exact hh
  ·split at hh
   ·split at hh
    ·rename_i hx;split at hh
     ·rename_i hy;split at hh
      ·rename_i hk;exact hh (dC hx) (dC hy) (Tb.sz hk)
      ·exact hh
     ·exact hh
    ·exact hh
   ·exact hh
  ·split at hh
   ·split at hh
    ·split at hh
     ·rename_i hf;split at hh
      ·rename_i hl;exact hh (Qy hl) (Tb.fn hf) (hd _ rfl)
      ·exact hh
     ·exact hh
    ·exact hh
   ·exact hh
  ·exact hh
section
variable(P:Program)(n:Fr)(Q0:Exit->Act->World->Prop)(M:World->Prop)
def iB[h:Tb P]:Nat->List Fm->St->SF->Prop
 | 0,K,.c x,L=>XC P n x (lJ P Q0 K) (dn L) M
 | 0,K,.o md l,L=>XO P n md (lJ P Q0 K) l (dn L) M
 | 0,K,.e x,L=>XE n (lJ P Q0 K) x (dn L) M
 | f+1,K,.c x,L=>match x with
  | .seq a b=>match n.cs with
   | []=>iB f (.sq b::K) (.c a) L
   | c::cs=>match aeC (D6 a) (ah8 a) (c::cs)with
    | true=>XC P n (.seq a b) (lJ P Q0 K) (dn L) M
    | false=>iB f (.sq b::K) (.c a) L
  | .skip=>iB f K (.e .normal) L
  | .ret=>iB f K (.e .ret) L
  | .exit i=>iB f K (.e (.exit i)) L
  | .block i c=>iB f (.blk i::K) (.c c) L
  | .region i ops dr=>match dr with
   | false=>iB f K (.o (.cl ops) ops.toList) L
   | true=>XC P n (.region i ops true) (lJ P Q0 K) (dn L) M
  | .cond c a b=>match sv L c with
   | some (.one .tt)=>iB f K (.c a) L
   | some (.one .ff)=>iB f K (.c b) L
   | _=>XC P n (.cond c a b) (lJ P Q0 K) (dn L) M
  | y=>XC P n y (lJ P Q0 K) (dn L) M
 | f+1,K,.e x,L=>match K with
  | []=>XE n Q0 x (dn L) M
  | .sq y::K'=>match x with
   | .normal=>va n.ps L [] fun L'=>iB f K' (.c y) L'
   | .ret=>iB f K' (.e .ret) L
   | .exit i=>iB f K' (.e (.exit i)) L
   | x=>XE n (lJ P Q0 (.sq y::K')) x (dn L) M
  | .blk i::K'=>match x with
   | .normal=>iB f K' (.e .normal) L
   | .ret=>iB f K' (.e .ret) L
   | .exit j=>match Nat.beq j i with
    | true=>iB f K' (.e .normal) L
    | false=>iB f K' (.e (.exit j)) L
   | x=>XE n (lJ P Q0 (.blk i::K')) x (dn L) M
  | .th T::K'=>match x with
   | .ret=>iB f K' (.e .ret) L
   | .exit i=>iB f K' (.e (.exit i)) L
   | x=>XE n (lJ P Q0 (.th T::K')) x (dn L) M
 | f+1,K,.o md l,L=>match l with
  | []=>iB f K (.e .normal) L
  | ⟨dst,op,ty,pos,af,gd⟩::r=>match gd with
   | some (j,want)=>match Lg md.a.toList j with
    | some dj=>match sk L dj with
     | some (.one .tt)=>match want with
      | true=>iB f K (.o md (⟨dst,op,ty,pos,af,none⟩::r)) L
      | false=>match dst with
       | some d=>match Nat.blt d n.sz with
        | true=>iB f K (.o md r) ((d,.one .un)::L)
        | false=>XO P n md (lJ P Q0 K) (⟨some d,op,ty,pos,af,some (j,false)⟩::r) (dn L) M
       | none=>XO P n md (lJ P Q0 K) (⟨none,op,ty,pos,af,some (j,false)⟩::r) (dn L) M
     | some (.one .ff)=>match want with
      | false=>iB f K (.o md (⟨dst,op,ty,pos,af,none⟩::r)) L
      | true=>match dst with
       | some d=>match Nat.blt d n.sz with
        | true=>iB f K (.o md r) ((d,.one .un)::L)
        | false=>XO P n md (lJ P Q0 K) (⟨some d,op,ty,pos,af,some (j,true)⟩::r) (dn L) M
       | none=>XO P n md (lJ P Q0 K) (⟨none,op,ty,pos,af,some (j,true)⟩::r) (dn L) M
     | some (.one .un)=>match dst with
       | some d=>match Nat.blt d n.sz with
        | true=>iB f K (.o md r) ((d,.one .un)::L)
        | false=>XO P n md (lJ P Q0 K) (⟨some d,op,ty,pos,af,some (j,want)⟩::r) (dn L) M
       | none=>XO P n md (lJ P Q0 K) (⟨none,op,ty,pos,af,some (j,want)⟩::r) (dn L) M
     | _=>XO P n md (lJ P Q0 K) (⟨dst,op,ty,pos,af,some (j,want)⟩::r) (dn L) M
    | none=>XO P n md (lJ P Q0 K) (⟨dst,op,ty,pos,af,some (j,want)⟩::r) (dn L) M
   | none=>match dst with
    | some d=>match Nat.blt d n.sz with
     | true=>match VS h.t L op with
      | some s=>iB f K (.o md r) ((d,s)::L)
      | none=>match VT h.t L op with
       | some (q,s)=>Sd q (iB f K (.o md r) ((d,s)::L)) (XO P n md (lJ P Q0 K) (⟨some d,op,ty,pos,af,none⟩::r) (dn L) M)
       | none=>halt P n Q0 M K md r L h.t (some d) op ty pos af (XO P n md (lJ P Q0 K) (⟨some d,op,ty,pos,af,none⟩::r) (dn L) M)
     | false=>XO P n md (lJ P Q0 K) (⟨some d,op,ty,pos,af,none⟩::r) (dn L) M
    | none=>halt P n Q0 M K md r L h.t none op ty pos af (XO P n md (lJ P Q0 K) (⟨none,op,ty,pos,af,none⟩::r) (dn L) M)
end
def akK(P:Program)(n:Fr)(Q0:Exit->Act->World->Prop)(M:World->Prop)(K:List Fm)(L:PF):St->Prop
 | .c x=>XC P n x (lJ P Q0 K) L M
 | .o md l=>XO P n md (lJ P Q0 K) l L M
 | .e x=>XE n (lJ P Q0 K) x L M
theorem D7:∀ {L:SF} {j:Nat},sk L j=none->lk (dn L) j=none
 | [],_,_=>rfl
 | (i,t)::r,j,h=>by
  simp only[sk]at h;simp only[dn,lk];cases hb:Nat.beq i j with
  | true=>simp[hb]at h
  | false=>simp only[hb]at h;exact D7 h
def zq{ps:List Nat} :∀ {L jM:SF} {k:SF->Prop},va ps L jM k->∃ L',k L'/\∀ i v,lk (dn L') i=some v->(match lk (dn jM) i with
 | some u=>u=v
 | none=>aeB i ps=true/\lk (dn L) i=some v)
 | [],jM,k,h=>⟨jM,h,fun i v q=>by rw[q]⟩
 | (j,s)::r,jM,k,h=>by
  simp only[va]at h;split at h
  ·split at h
   ·rename_i u hu;obtain⟨L',h1,h2⟩:=zq h;refine⟨L',h1,fun i v q=> ?_⟩;have:=h2 i v q;cases ha:lk (dn jM) i with
    | some x=>rw[ha]at this;exact this
    | none=>
     rw[ha]at this;refine⟨this.1,?_⟩;simp only[dn,lk];cases hb:Nat.beq j i with
     | true=>have:=rV hb;subst this;rw[Cv hu]at ha;cases ha
     | false=>exact this.2
   ·rename_i hm _ hu;obtain⟨L',h1,h2⟩:=zq h;refine⟨L',h1,fun i v q=> ?_⟩;have:=h2 i v q;simp only[dn,lk]at this ⊢;cases hb:Nat.beq j i with
    | true=>
     have e:=rV hb;subst e;simp only[hb,cond_true]at this ⊢;rw[D7 hu];exact⟨hm,congrArg some this⟩
    | false=>simp only[hb,cond_false]at this ⊢;exact this
  ·rename_i hm;obtain⟨L',h1,h2⟩:=zq h;refine⟨L',h1,fun i v q=> ?_⟩;have:=h2 i v q;cases ha:lk (dn jM) i with
   | some x=>rw[ha]at this;exact this
   | none=>
    rw[ha]at this;refine⟨this.1,?_⟩;simp only[dn,lk];cases hb:Nat.beq j i with
    | true=>have e:=rV hb;subst e;rw[hm]at this;cases this.1
    | false=>exact this.2
section
variable{P:Program}{n:Fr}{Q0:Exit->Act->World->Prop}{M:World->Prop}
def cK[Tb P]:∀ (f:Nat) (K:List Fm) (s:St) (L:SF),iB P n Q0 M f K s L->akK P n Q0 M K (dn L) s
 | 0,K,.c x,L,h=>h
 | 0,K,.o md l,L,h=>h
 | 0,K,.e x,L,h=>h
 | f+1,K,.c x,L,h=>by
  simp only[iB]at h;split at h
  ·split at h
   ·exact XC.seq (cK f _ (.c _) L h)
   ·split at h
    ·exact h
    ·exact XC.seq (cK f _ (.c _) L h)
  ·exact XC.skip (cK f _ (.e _) L h)
  ·exact XC.ret (cK f _ (.e _) L h)
  ·exact XC.exit (cK f _ (.e _) L h)
  ·exact XC.block (cK f _ (.c _) L h)
  ·split at h
   ·rename_i ops _;exact XC.region (l:=ops.toList) (cK f _ (.o _ _) L h)
   ·exact h
  ·split at h
   ·rename_i hc;exact DP (t:=true) (dC hc) rfl (cK f _ (.c _) L h)
   ·rename_i hc;exact DQ (t:=false) (dC hc) rfl (cK f _ (.c _) L h)
   ·exact h
  ·exact h
 | f+1,K,.e x,L,h=>by
  simp only[iB]at h;split at h
  ·exact h
  ·rename_i K' y;split at h
   ·obtain⟨L',h1,h2⟩:=zq h;refine XE.next (XC.fq (dn L') (fun i v q=> ?_) (cK f _ (.c _) L' h1));exact(h2 i v q).2
   ·exact sX (cK f _ (.e _) L h)
   ·exact qG (cK f _ (.e _) L h)
   ·exact h
  ·rename_i K' i;split at h
   ·exact ib (cK f _ (.e _) L h)
   ·exact mn (cK f _ (.e _) L h)
   ·split at h
    ·rename_i hb;have:=rV hb;subst this;exact zl (cK f _ (.e _) L h)
    ·rename_i hb;exact Gj hb (cK f _ (.e _) L h)
   ·exact h
  ·rename_i K' T;split at h
   ·exact sX (cK f _ (.e _) L h)
   ·exact qG (cK f _ (.e _) L h)
   ·exact h
 | f+1,K,.o md l,L,h=>by
  simp only[iB]at h;split at h
  ·exact XO.nil (cK f _ (.e _) L h)
  ·rename_i dst op ty pos af gd r;split at h
   ·rename_i j want;split at h
    ·rename_i dj hdj;have hj:(md.a[j]?).bind (·.dst)=some dj:=by
      have:=Lh hdj;simpa using this
     split at h
     ·rename_i hs;split at h
      ·exact XO.zm rfl hj (Cv hs) (cK f _ (.o _ _) L h)
      ·split at h
       ·split at h
        ·rename_i hd;exact XO.rL rfl rfl hd hj (Cv hs) (cK f _ (.o _ _) ((_,.one .un)::L) h)
        ·exact h
       ·exact h
     ·rename_i hs;split at h
      ·exact XO.zm rfl hj (Cv hs) (cK f _ (.o _ _) L h)
      ·split at h
       ·split at h
        ·rename_i hd;exact XO.rL rfl rfl hd hj (Cv hs) (cK f _ (.o _ _) ((_,.one .un)::L) h)
        ·exact h
       ·exact h
     ·rename_i hs;split at h
      ·split at h
       ·rename_i hd;exact Gk rfl rfl hd hj (Cv hs) (cK f _ (.o _ _) ((_,.one .un)::L) h)
       ·exact h
      ·exact h
     ·exact h
    ·exact h
   ·split at h
    ·split at h
     ·rename_i hd;split at h
      ·rename_i s hs;obtain⟨h1,h2⟩:=VW (P:=P) (n:=n) (φ:=fun _=>True) (d:=_) (ty:=ty) (pos:=pos) (af:=af) (gd:=none) hs;exact XO.v h1 (by rw[hd,h2];rfl) (cK f _ (.o _ _) ((_,s)::L) h)
      ·split at h
       ·rename_i q s hs;rcases h with h | h
        ·obtain⟨h1,h2⟩:=VX (P:=P) (n:=n) (φ:=fun _=>True) (d:=_) (ty:=ty) (pos:=pos) (af:=af) (gd:=none) hs h.1;exact XO.v h1 (by rw[hd,h2];rfl) (cK f _ (.o _ _) ((_,s)::L) h.2)
        ·exact h
       ·exact Qz (fun x hx=>by cases hx;exact hd) h
     ·exact h
    ·exact Qz (fun x hx=>by cases hx) h
def wF{ps:List Nat}{k k':SF->Prop}(h:∀ L,k L->k' L):∀ {L jM:SF},va ps L jM k->va ps L jM k'
 | [],_,q=>h _ q
 | (i,s)::r,jM,q=>by
  simp only[va]at q ⊢;split at q
  ·split at q
   ·exact wF h q
   ·exact wF h q
  ·exact wF h q
def wG{ps:List Nat}{k:SF->Prop}(h:∀ L,k L):∀ {L jM:SF},va ps L jM k
 | [],_=>h _
 | (i,s)::r,jM=>by
  simp only[va];split
  ·split
   ·exact wG h
   ·exact wG h
  ·exact wG h
def SE{M':World->Prop}(hm:∀ w,M w->M' w){K:List Fm}{md:Md}{r:List Oper}{L:SF}{T:Ld}{dst:Option Tmp}{ty:TypeId}{pos:String}{af:Array Edge}(h:halt P n Q0 M' K md r L T dst op ty pos af (XO P n md (lJ P Q0 K) (⟨dst,op,ty,pos,af,none⟩::r) (dn L) M')):halt P n Q0 M K md r L T dst op ty pos af (XO P n md (lJ P Q0 K) (⟨dst,op,ty,pos,af,none⟩::r) (dn L) M):=by
 unfold halt at h ⊢;repeat' (split at h)
 all_goals first
  | exact XO.mono hm h
  | exact fun a b c=>XO.mono hm (h a b c)
  | exact fun a b c d=>XO.mono hm (h a b c d)
def VY(hm:∀ w,¬M w){K:List Fm}{md:Md}{r:List Oper}{L:SF}{T:Ld}{dst:Option Tmp}{ty:TypeId}{pos:String}{af:Array Edge} :halt P n Q0 M K md r L T dst op ty pos af (XO P n md (lJ P Q0 K) (⟨dst,op,ty,pos,af,none⟩::r) (dn L) M):=by
 unfold halt;repeat' split
 all_goals first
  | exact fun a w _ hw=>absurd hw (hm w)
  | exact fun _ _ _ a w _ hw=>absurd hw (hm w)
  | exact fun _ _ _ _ a w _ hw=>absurd hw (hm w)
def pY[Tb P]{M':World->Prop}(hm:∀ w,M w->M' w):∀ (f:Nat) (K:List Fm) (s:St) (L:SF),iB P n Q0 M' f K s L->iB P n Q0 M f K s L
 | 0,K,.c x,L,h=>XC.mono hm h
 | 0,K,.o md l,L,h=>XO.mono hm h
 | 0,K,.e x,L,h=>XE.mono hm h
 | f+1,K,.c x,L,h=>by
  simp only[iB]at h ⊢;repeat' (split at h)
  all_goals first
   | exact XC.mono hm h
   | exact pY hm f _ _ _ h
 | f+1,K,.e x,L,h=>by
  simp only[iB]at h ⊢;repeat' (split at h)
  all_goals first
   | exact XE.mono hm h
   | exact pY hm f _ _ _ h
   | exact wF (fun L'=>pY hm f _ _ _) h
 | f+1,K,.o md l,L,h=>by
  simp only[iB]at h ⊢;repeat' (split at h)
  all_goals first
   | exact XO.mono hm h
   | exact pY hm f _ _ _ h
   | exact SE hm h
   | exact h.imp (fun q=>⟨q.1,pY hm f _ _ _ q.2⟩) (XO.mono hm)
def zt[Tb P](hm:∀ w,¬M w):∀ (f:Nat) (K:List Fm) (s:St) (L:SF),iB P n Q0 M f K s L
 | 0,K,.c x,L=>fun a w _ hw=>absurd hw (hm w)
 | 0,K,.o md l,L=>fun a w _ hw=>absurd hw (hm w)
 | 0,K,.e x,L=>fun a w _ hw=>absurd hw (hm w)
 | f+1,K,.c x,L=>by
  simp only[iB];repeat' split
  all_goals first
   | exact zt hm f _ _ _
   | exact fun a w _ hw=>absurd hw (hm w)
 | f+1,K,.e x,L=>by
  simp only[iB];repeat' split
  all_goals first
   | exact zt hm f _ _ _
   | exact wG fun L'=>zt hm f _ _ _
   | exact fun a w _ hw=>absurd hw (hm w)
 | f+1,K,.o md l,L=>by
  simp only[iB];repeat' split
  all_goals first
   | exact zt hm f _ _ _
   | exact VY hm
   | exact .inr fun a w _ hw=>absurd hw (hm w)
   | exact fun a w _ hw=>absurd hw (hm w)
def zu[Tb P]{φ:Prop}(hφ:∀ w,M w->φ){f:Nat}{K:List Fm}{s:St}{L:SF}(h:φ->iB P n Q0 M f K s L):iB P n Q0 M f K s L:=by
 by_cases c:∃ w,M w
 ·obtain⟨w,hw⟩:=c;exact h (hφ w hw)
 ·exact zt (fun w hw=>c ⟨w,hw⟩) f K s L
end
end Go.X
