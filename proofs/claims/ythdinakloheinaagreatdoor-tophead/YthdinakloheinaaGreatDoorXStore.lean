import Derived.Test.YthdinakloheinaaGreatDoorXCore
set_option linter.all false
namespace Go.X
variable{op:BinOp}{k:IntKind}{y:Operand}
abbrev iI(z:Int):Value:=.int .i64 z
open Go
structure pQ where
 v:Value
 e:TypeId
 sz:Nat
 k:Nat
 xs:List Value
inductive aB where
 | cells (b o n:Nat) (C:Nat->Value)
 | ro (b o n:Nat) (C:Nat->Value)
 | row (v:Value) (e:TypeId) (sz k:Nat) (xs:List Value)
 | mark (D:Nat)
 | bk (p:Nat->Bool) (r:Nat->pQ)
 | eb (p:Nat->Bool) (b:Nat->Nat) (n:Nat) (C:Nat->Nat->Value)
def aB.wr:aB->Bool
 | .ro .. =>false
 | .mark _=>false
 | _=>true
def aB.fO:aB->Nat->Nat->Prop
 | .cells b o n _,b',i=>b'=b/\o<=i/\i<o+n
 | .ro b o n _,b',i=>b'=b/\o<=i/\i<o+n
 | .row v _ _ _ _,b',_=>v.ownBlock=some b'
 | .mark D,b',_=>b'=D
 | .bk p r,b',_=>∃ i,p i=true/\(r i).v.ownBlock=some b'
 | .eb p g n _,b',o=>∃ i,p i=true/\b'=g i/\o<n
def aB.holds(w:World):aB->Prop
 | .cells b o n C=>∃ A t lo hi,w.heap[b]? =some (.cells A t (lo,hi))/\∀ i,i<n->A[o+i]? =some (C i)/\¬(lo<=o+i/\o+i<hi)
 | .ro b o n C=>∃ A t fz,w.heap[b]? =some (.cells A t fz)/\∀ i,i<n->A[o+i]? =some (C i)
 | .row v e sz k xs=>w.ownsRow 0 e sz v k xs
 | .mark D=>w.heap[D]? =some (.deferred (some []))
 | .bk p r=>(∀ i,p i=true->w.ownsRow 0 (r i).e (r i).sz (r i).v (r i).k (r i).xs)/\∀ i j b,p i=true->p j=true->i≠j->(r i).v.ownBlock=some b->(r j).v.ownBlock=some b->False
 | .eb p g n C=>(∀ i,p i=true->∃ A t lo hi,w.heap[g i]? =some (.cells A t (lo,hi))/\∀ j,j<n->A[j]? =some (C i j)/\¬(lo<=j/\j<hi))/\∀ i j,p i=true->p j=true->i≠j->g i≠g j
def BJ(e e':aB):Prop:=(e.wr||e'.wr)=true->∀ b o,e.fO b o->e'.fO b o->False
theorem BJ.symm{e e':aB}(h:BJ e e'):BJ e' e:=fun hw b o h1 h2=>h (by rw[Bool.or_comm];exact hw) b o h2 h1
def Good(H:List aB)(w:World):Prop:=(∀ e∈H,e.holds w)/\H.Pairwise BJ
structure gy (w w':World) (S:Nat->Nat->Prop):Prop where
 os:w'.os=w.os
 tape:w'.tape=w.tape
 output:w'.output=w.output
 size:w.heap.size<=w'.heap.size
 same:∀ b,b<w.heap.size->(∀ o,¬S b o)->w'.heap[b]? =w.heap[b]?
 part:∀ b A t fz,w.heap[b]? =some (.cells A t fz)->∃ A',w'.heap[b]? =some (.cells A' t fz)/\A'.size=A.size/\∀ o,¬S b o->A'[o]? =A[o]?
theorem gy.refl(w:World)(S:Nat->Nat->Prop):gy w w S:=
 ⟨rfl,rfl,rfl,Nat.le_refl _,fun _ _ _=>rfl,fun _ A _ _ h=>⟨A,h,rfl,fun _ _=>rfl⟩⟩
theorem di{w:World}{b:Nat}{o:Obj}(h:w.heap[b]? =some o):b<w.heap.size:=(Array.getElem?_eq_some_iff.1 h).1
def gy.trans{a b c:World}{S T U:Nat->Nat->Prop}(h:gy a b S)(k:gy b c T)(hS:∀ x o,S x o->x<a.heap.size->U x o)(hT:∀ x o,T x o->x<a.heap.size->U x o):gy a c U:=
  ⟨k.os.trans h.os,k.tape.trans h.tape,k.output.trans h.output,Nat.le_trans h.size k.size,
   fun x hx hn=>(k.same x (Nat.lt_of_lt_of_le hx h.size) fun o ho=>hn o (hT x o ho hx)).trans (h.same x hx fun o ho=>hn o (hS x o ho hx)),
   fun x A t fz hA=>by
    obtain⟨A',h1,h2,h3⟩:=h.part x A t fz hA
    obtain⟨A'',k1,k2,k3⟩:=k.part x A' t fz h1
    have hx:=di hA
    exact⟨A'',k1,k2.trans h2,fun o ho=>(k3 o fun q=>ho (hT x o q hx)).trans (h3 o fun q=>ho (hS x o q hx))⟩⟩
def aB.lt{e:aB}{w:World}(h:e.holds w){b o:Nat}(ha:e.fO b o):b<w.heap.size:=by
 cases e with
 | cells b' o' n C=>obtain⟨A,t,lo,hi,h1,_⟩:=h;obtain⟨rfl,_⟩:=ha;exact di h1
 | ro b' o' n C=>obtain⟨A,t,fz,h1,_⟩:=h;obtain⟨rfl,_⟩:=ha;exact di h1
 | row v e sz k xs=>exact(World.ownsRow.lt h b ha).2
 | mark D=>obtain rfl:=ha;exact di h
 | bk p r=>obtain⟨i,hi,hb⟩:=ha;exact(World.ownsRow.lt (h.1 i hi) b hb).2
 | eb p g n C=>obtain⟨i,hi,rfl,_⟩:=ha;obtain⟨A,t,lo,HN,h1,_⟩:=h.1 i hi;exact di h1
def Gb{w w':World}{S:Nat->Nat->Prop}{v:Value}{e:TypeId}{sz k:Nat}{xs:List Value}(h:w.ownsRow 0 e sz v k xs)(hk:gy w w' S)(ha:∀ b o,v.ownBlock=some b->¬S b o):w'.ownsRow 0 e sz v k xs:=by
 refine⟨h.1,?_⟩;rcases h.2 with hn | ⟨g,cap,cur,rfl,hb,hg,bU⟩
 ·exact .inl hn
 ·refine .inr ⟨g,cap,cur,rfl,hb,?_,bU⟩;rw[hk.same g (di hg) fun o=>ha g o rfl];exact hg
theorem aB.OG{e:aB}{w w':World}{S:Nat->Nat->Prop}(h:e.holds w)(hk:gy w w' S)(ha:∀ b o,e.fO b o->¬S b o):e.holds w':=by
 cases e with
 | cells b o n C=>
  obtain⟨A,t,lo,hi,h1,h2⟩:=h;obtain⟨A',k1,k2,k3⟩:=hk.part b A t _ h1;refine⟨A',t,lo,hi,k1,fun i HN=> ?_⟩;obtain⟨h3,h4⟩:=h2 i HN;exact⟨by rw[k3 (o+i) (ha b (o+i) ⟨rfl,og,og⟩)];exact h3,h4⟩
 | ro b o n C=>
  obtain⟨A,t,fz,h1,h2⟩:=h;obtain⟨A',k1,k2,k3⟩:=hk.part b A t _ h1;exact⟨A',t,fz,k1,fun i HN=>by rw[k3 (o+i) (ha b (o+i) ⟨rfl,og,og⟩)];exact h2 i HN⟩
 | row v e sz k xs=>
  refine⟨h.1,?_⟩;rcases h.2 with hn | ⟨g,cap,cur,rfl,hb,hg,bU⟩
  ·exact .inl hn
  ·refine .inr ⟨g,cap,cur,rfl,hb,?_,bU⟩;rw[hk.same g (di hg) fun o=>ha g o rfl];exact hg
 | mark D=>exact(hk.same D (di h) fun o=>ha D o rfl).trans h
 | bk p r=>exact⟨fun i hi=>Gb (h.1 i hi) hk fun b o hb=>ha b o ⟨i,hi,hb⟩,h.2⟩
 | eb p g n C=>
  refine⟨fun i hi=> ?_,h.2⟩;obtain⟨A,t,lo,HN,h1,h2⟩:=h.1 i hi;obtain⟨A',k1,k2,k3⟩:=hk.part (g i) A t _ h1;exact⟨A',t,lo,HN,k1,fun j hj=>⟨by rw[k3 j (ha (g i) j ⟨i,hi,rfl,hj⟩)];exact(h2 j hj).1,(h2 j hj).2⟩⟩
structure XM (W:World) (S:Nat->Nat->Prop) (H:List aB) (w:World):Prop where
 eY:Good H w
 eG:gy W w S
 D8:∀ e∈H,e.wr=true->∀ b o,e.fO b o->W.heap.size<=b\/S b o
def ck(H:List aB)(b o:Nat):Prop:=∃ e∈H,e.wr=true/\e.fO b o
def kJ{H:List aB}{w:World}(h:Good H w):XM w (ck H) H w:=
 ⟨h,gy.refl _ _,fun e he hw _ _ ha=>.inr ⟨e,he,hw,ha⟩⟩
def gy.drewN{W w:World}{S:Nat->Nat->Prop}(h:gy W w S)(k:Nat):gy W {w with drawn:=w.drawn+k} S:=
 ⟨h.os,h.tape,h.output,h.size,h.same,h.part⟩
def aB.H3{e:aB}{w:World}(k:Nat)(h:e.holds w):e.holds {w with drawn:=k} :=by
 cases e with
 | cells b o n C=>exact h
 | ro b o n C=>exact h
 | row v e sz k xs=>exact h
 | mark D=>exact h
 | bk p r=>exact h
 | eb p g n C=>exact h
def XM.drawn{W w:World}{S:Nat->Nat->Prop}{H:List aB}(h:XM W S H w)(k:Nat):XM W S H {w with drawn:=w.drawn+k} :=
 ⟨⟨fun e he=>aB.H3 _ (h.eY.1 e he),h.eY.2⟩,h.eG.drewN k,h.D8⟩
inductive kR:List aB->aB->Prop where
 | aa {e H} :kR (e::H) e
 | ao {x e H} :kR H e->kR (x::H) e
theorem kR.mem{H:List aB}{e:aB}(h:kR H e):e∈H:=by
 induction h with
 | aa=>simp
 | ao _ ih=>exact List.mem_cons_of_mem _ ih
inductive nc:List aB->aB->List aB->Prop where
 | aa {e H} :nc (e::H) e H
 | ao {x e H H'} :nc H e H'->nc (x::H) e (x::H')
def nc.b8{H H':List aB}{e:aB}(h:nc H e H'):H.Perm (e::H'):=by
 induction h with
 | aa=>exact .refl _
 | ao _ ih=>exact(List.Perm.cons _ ih).trans (List.Perm.swap _ _ _)
inductive cO:List aB->List aB->List aB->Prop where
 | nil {H} :cO H [] H
 | cons {e es H H' F} :nc H e H'->cO H' es F->cO H (e::es) F
class Dl (n:Nat) (H:List aB) (e:outParam aB) (F:outParam (List aB)):Prop where
 d:nc H e F
instance {e:aB} {H:List aB} :Dl 0 (e::H) e H:=⟨.aa⟩
instance {n:Nat} {e x:aB} {H F:List aB} [i:Dl n H e F]:Dl (n+1) (x::H) e (x::F):=⟨.ao i.d⟩
instance {n:Nat} {e x y z v:aB} {H F:List aB} [i:Dl n H e F]:Dl (n+4) (x::y::z::v::H) e (x::y::z::v::F):=⟨.ao (.ao (.ao (.ao i.d)))⟩
instance {n:Nat} {e x:aB} {A B F:List aB} [i:Dl n (x::(A++B)) e F]:Dl n (x::A++B) e F:=⟨i.d⟩
instance {n:Nat} {e:aB} {B F:List aB} [i:Dl n B e F]:Dl n ([]++B) e F:=⟨i.d⟩
instance {n:Nat} {e:aB} {A B F:List aB} [i:Dl n (A++B) e F]:Dl n (A.append B) e F:=⟨i.d⟩
instance {n:Nat} {e:aB} {A B C F:List aB} [i:Dl n (A++(B++C)) e F]:Dl n (A++B++C) e F:=⟨by have:=i.d;rwa[<-List.append_assoc]at this⟩
instance {n:Nat} {e:aB} {A B F:List aB} [i:Dl n (A++B) e F]:Dl n (A.drop 0++B) e F:=⟨i.d⟩
instance {n k:Nat} {e x:aB} {A B F:List aB} [i:Dl n (A.drop k++B) e F]:Dl n ((x::A).drop (k+1)++B) e F:=⟨i.d⟩
class Pk (l:List Nat) (H:List aB) (E F:outParam (List aB)):Prop where
 d:cO H E F
instance {H:List aB} :Pk [] H [] H:=⟨.nil⟩
instance {n:Nat} {l:List Nat} {e:aB} {H G E F:List aB} [i:Dl n H e G] [j:Pk l G E F]:Pk (n::l) H (e::E) F:=⟨.cons i.d j.d⟩
def pk(l:List Nat){H E F:List aB}[i:Pk l H E F]:cO H E F:=i.d
class Pz (n:Nat) (H:List aB) (E F:outParam (List aB)):Prop where
 d:cO H E F
instance {H:List aB} :Pz 0 H [] H:=⟨.nil⟩
instance {n:Nat} {e:aB} {H E F:List aB} [i:Pz n H E F]:Pz (n+1) (e::H) (e::E) F:=⟨.cons .aa i.d⟩
instance {n:Nat} {x:aB} {A B E F:List aB} [i:Pz (n+1) (x::(A++B)) E F]:Pz (n+1) (x::A++B) E F:=⟨i.d⟩
instance {n:Nat} {B E F:List aB} [i:Pz (n+1) B E F]:Pz (n+1) ([]++B) E F:=⟨i.d⟩
instance {n:Nat} {A B E F:List aB} [i:Pz (n+1) (A++B) E F]:Pz (n+1) (A.append B) E F:=⟨i.d⟩
instance {n:Nat} {A B E F:List aB} [i:Pz (n+1) (A++B) E F]:Pz (n+1) (A.drop 0++B) E F:=⟨i.d⟩
instance {n k:Nat} {x:aB} {A B E F:List aB} [i:Pz (n+1) (A.drop k++B) E F]:Pz (n+1) ((x::A).drop (k+1)++B) E F:=⟨i.d⟩
def pz(n:Nat){H E F:List aB}[i:Pz n H E F]:cO H E F:=i.d
def cO.b8{H E F:List aB}(h:cO H E F):H.Perm (E++F):=by
 induction h with
 | nil=>exact .refl _
 | cons d _ ih=>exact d.b8.trans (List.Perm.cons _ ih)
def D9{H H':List aB}(hp:H.Perm H')(h:H.Pairwise BJ):H'.Pairwise BJ:=
 (hp.pairwise_iff fun h=>BJ.symm h).1 h
def Good.b8{H H':List aB}{w:World}(hp:H.Perm H')(h:Good H w):Good H' w:=
 ⟨fun e he=>h.1 e (hp.mem_iff.2 he),D9 hp h.2⟩
def XM.b8{W w:World}{S:Nat->Nat->Prop}{H H':List aB}(hp:H.Perm H')(h:XM W S H w):XM W S H' w:=
 ⟨h.eY.b8 hp,h.eG,fun e he=>h.D8 e (hp.mem_iff.2 he)⟩
theorem XM.left{W w:World}{S:Nat->Nat->Prop}{E F:List aB}(h:XM W S (E++F) w):XM W S E w:=
 ⟨⟨fun e he=>h.eY.1 e (List.mem_append.2 (.inl he)),(List.pairwise_append.1 h.eY.2).1⟩,h.eG,fun e he=>h.D8 e (List.mem_append.2 (.inl he))⟩
theorem XM.pick{W w:World}{S:Nat->Nat->Prop}{H E F:List aB}(hp:cO H E F)(h:XM W S H w):XM W S E w:=(h.b8 hp.b8).left
theorem XM.b7{W w w':World}{S:Nat->Nat->Prop}{H H':List aB}{e e':aB}(h:XM W S H w)(hd:nc H e H')(hw:e.wr=true)(ha:∀ b o,e'.fO b o->e.fO b o\/w.heap.size<=b)(hk:gy w w' fun b o=>e.fO b o)(Rq:e'.holds w'):XM W S (e'::H') w':=by
 have h1:=h.b8 hd.b8;obtain⟨⟨hh,mi⟩,vg,ss⟩:=h1;rw[List.pairwise_cons]at mi;obtain⟨Rn,agq⟩:=mi;have mj:∀ x∈H',x.holds w':=fun x hx=>aB.OG (hh x (List.mem_cons_of_mem _ hx)) hk fun b o Rr Rs=>Rn x hx (by simp[hw]) b o Rs Rr;refine⟨⟨?_,?_⟩,?_,?_⟩
 ·intro x hx;rcases List.mem_cons.1 hx with rfl | hx
  ·exact Rq
  ·exact mj x hx
 ·refine List.pairwise_cons.2 ⟨fun x hx _ b o h1 h2=> ?_,agq⟩;rcases ha b o h1 with h3 | h3
  ·exact Rn x hx (by simp[hw]) b o h3 h2
  ·have:=aB.lt (hh x (List.mem_cons_of_mem _ hx)) h2;omega
 ·refine vg.trans hk (fun x o hs _=>hs) (fun x o hs hx=> ?_);rcases ss e sq hw x o hs with h3 | h3
  ·omega
  ·exact h3
 ·intro x hx HO b o hb;rcases List.mem_cons.1 hx with rfl | hx
  ·rcases ha b o hb with h3 | h3
   ·exact ss e sq hw b o h3
   ·have:=vg.size;exact .inl og
  ·exact ss x (List.mem_cons_of_mem _ hx) HO b o hb
def XM.fresh{W w w':World}{S:Nat->Nat->Prop}{H:List aB}{e':aB}(h:XM W S H w)(ha:∀ b o,e'.fO b o->w.heap.size<=b)(hk:gy w w' fun _ _=>False)(Rq:e'.holds w'):XM W S (e'::H) w':=by
 obtain⟨⟨hh,mi⟩,vg,ss⟩:=h;refine⟨⟨?_,?_⟩,?_,?_⟩
 ·intro x hx;rcases List.mem_cons.1 hx with rfl | hx
  ·exact Rq
  ·exact aB.OG (hh x hx) hk fun _ _ _ q=>q
 ·refine List.pairwise_cons.2 ⟨fun x hx _ b o h1 h2=> ?_,mi⟩;have:=aB.lt (hh x hx) h2;have:=ha b o h1;omega
 ·exact vg.trans hk (fun x o hs _=>hs) fun x o hs hx=>hs.elim
 ·intro x hx HO b o hb;rcases List.mem_cons.1 hx with rfl | hx
  ·have:=ha b o hb;have:=vg.size;exact .inl og
  ·exact ss x hx HO b o hb
def Spec(P:Program)(f:FuncId)(args:List Value)(pre:List aB)(post:Value->List aB->Prop):Prop:=
 ∀ w,Good pre w->Calls P f args.toArray w fun e w'=>∃ v H',e= .returned v/\post v H'/\H'.all aB.wr=true/\XM w (ck pre) H' w'
def XM.yN{W w w':World}{S:Nat->Nat->Prop}{H pre F H':List aB}(h:XM W S H w)(hp:cO H pre F)(hc:XM w (ck pre) H' w')(OH:∀ e∈H',e.wr=true):XM W S (H'++F) w':=by
 have h1:=h.b8 hp.b8;obtain⟨⟨hh,mi⟩,vg,ss⟩:=h1;obtain⟨adN,OJ,Rn⟩:=List.pairwise_append.1 mi;have hF:∀ x∈F,x.holds w':=fun x hx=>aB.OG (hh x (List.mem_append.2 (.inr hx))) hc.eG fun b o Rr ⟨e,he,MV,Rs⟩=>Rn e he x hx (by simp[MV]) b o Rs Rr;refine⟨⟨?_,?_⟩,?_,?_⟩
 ·intro x hx;rcases List.mem_append.1 hx with hx | hx
  ·exact hc.eY.1 x hx
  ·exact hF x hx
 ·refine List.pairwise_append.2 ⟨hc.eY.2,OJ,fun e he x hx _ b o h1 h2=> ?_⟩;rcases hc.D8 e he (OH e he) b o h1 with h3 | ⟨e',Rq,MV,Rs⟩
  ·have:=aB.lt (hh x (List.mem_append.2 (.inr hx))) h2;omega
  ·exact Rn e' Rq x hx (by simp[MV]) b o Rs h2
 ·refine vg.trans hc.eG (fun x o hs _=>hs) (fun x o ⟨e,he,MV,Rs⟩ hx=> ?_);rcases ss e (List.mem_append.2 (.inl he)) MV x o Rs with h3 | h3
  ·omega
  ·exact h3
 ·intro x hx HO b o hb;rcases List.mem_append.1 hx with hx | hx
  ·rcases hc.D8 x hx HO b o hb with h3 | ⟨e,he,MV,Rs⟩
   ·have:=vg.size;exact .inl og
   ·exact ss e (List.mem_append.2 (.inl he)) MV b o Rs
  ·exact ss x (List.mem_append.2 (.inr hx)) HO b o hb
def XM.Wm{W w w':World}{S:Nat->Nat->Prop}{H E R F H':List aB}(h:XM W S H w)(hp:cO H (E++R) F)(hR:∀ e∈R,e.wr=false)(hc:XM w (ck (E++R)) H' w')(OH:∀ e∈H',e.wr=true):XM W S (H'++(R++F)) w':=by
 have h1:=h.b8 hp.b8;have wK:∀ x∈R,∀ b o,x.fO b o->¬ck (E++R) b o:=fun x hx b o Rr ⟨e,he,MV,Rs⟩=>by
  have mi:=h1.eY.2;rw[List.append_assoc]at mi;obtain⟨_,_,Rn⟩:=List.pairwise_append.1 mi;rcases List.mem_append.1 he with Rq | Rq
  ·exact Rn e Rq x (List.mem_append.2 (.inl hx)) (by simp[MV]) b o Rs Rr
  ·rw[hR e Rq]at MV;cases MV
 have h2:=h.yN hp hc OH;obtain⟨⟨hh,mi⟩,vg,ss⟩:=h2;obtain⟨adN,OJ,Rn⟩:=List.pairwise_append.1 mi;have hR':∀ x∈R,x.holds w':=fun x hx=>aB.OG (h1.eY.1 x (by simp[hx])) hc.eG (wK x hx);refine⟨⟨?_,?_⟩,vg,?_⟩
 ·intro x hx;rcases List.mem_append.1 hx with hx | hx
  ·exact hh x (by simp[hx])
  ·rcases List.mem_append.1 hx with hx | hx
   ·exact hR' x hx
   ·exact hh x (by simp[hx])
 ·have adO:=h1.eY.2;rw[List.append_assoc]at adO;obtain⟨_,hrf,_⟩:=List.pairwise_append.1 adO;refine List.pairwise_append.2 ⟨adN,hrf,fun e he x hx _ b o h3 h4=> ?_⟩;rcases List.mem_append.1 hx with hx | hx
  ·rcases hc.D8 e he (OH e he) b o h3 with h5 | h5
   ·have:=aB.lt (h1.eY.1 x (by simp[hx])) h4;omega
   ·exact wK x hx b o h4 h5
  ·exact Rn e he x hx (by simp[OH e he]) b o h3 h4
 ·intro x hx HO b o hb;rcases List.mem_append.1 hx with hx | hx
  ·exact ss x (by simp[hx]) HO b o hb
  ·rcases List.mem_append.1 hx with hx | hx
   ·rw[hR x hx]at HO;cases HO
   ·exact ss x (by simp[hx]) HO b o hb
def aA(b o i:Nat):Value:=.pointer (some ⟨b,o+i,none⟩)
def one:Value->Bool
 | .agg _=>false
 | .tuple _=>false
 | _=>true
theorem yO{v:Value}(h:one v=true):v.cells= #[v]:=by cases v<;>simp_all[one,Value.cells]
def dL(C:Nat->Value)(i:Nat)(v:Value):Nat->Value:=fun j=>if j=i then v else C j
def cZ(C:Nat->Value)(i n:Nat):Value:=.agg ((List.range n).map fun j=>C (i+j)).toArray
def KY:List Value->Nat->Option Value
 | [],_=>none
 | v::_,0=>some v
 | _::r,k+1=>KY r k
def EO:∀ {l:List Value} {k:Nat} {v:Value},KY l k=some v->l[k]? =some v
 | [],_,_,h=>by simp[KY]at h
 | u::_,0,_,h=>by simpa [KY]using h
 | _::r,k+1,_,h=>by simpa using EO (l:=r) h
def Rt{vs:Array Value}{k:Nat}{v:Value}(h:KY vs.toList k=some v):vs[k]? =some v:=by simpa using EO h
def jD(P:Program)(t:TypeId):Bool:=match P.underlying t with
 | some (.struct _)=>false
 | some (.array _ _)=>false
 | some _=>true
 | none=>false
def ny(P:Program)(t:TypeId):Bool:=match P.underlying t with
 | some (.struct _)=>true
 | some (.array _ _)=>true
 | _=>false
def fb(P:Program)(t:TypeId):Option Nat:=(P.info? t).map (·.size)
def eK(P:Program)(s:TypeId)(f:Nat):Option Nat:=match P.underlying s with
 | some (.struct fs)=>match fs[f]? with
  | some fld=>match fb P fld.type with
   | some 0=>none
   | some _=>some fld.offset
   | none=>none
  | none=>none
 | _=>none
def vh(P:Program)(t:TypeId):Option (Nat×Nat):=match P.underlying t with
 | some (.array n e)=>(fb P e).map fun s=>(n,s)
 | _=>none
def uj(P:Program)(t:TypeId):Option (TypeId×Nat):=match P.underlying t with
 | some (.slice e)=>(fb P e).map fun s=>(e,s)
 | _=>none
def BK(P:Program)(t:TypeId):Option Value:=(P.info? t).bind (·.zero)
def c9(P:Program)(f:FuncId):Bool:=match P.funcs[f]? with
 | some fn=>fn.name != "runtime.NumGoroutine" &&fn.body.isSome
 | none=>false
section
variable {P:Program} {w:World}
theorem jP{t:TypeId}(h:jD P t=true):(isAgg t).run P w= .ok false w:=by
 unfold jD at h;cases hu:P.underlying t with
 | none=>simp[hu]at h
 | some d=>simp only[hu]at h;simp only[isAgg,Sem.run_bind,run_underlying hu,Result.andThen_ok];cases d<;>simp_all
theorem vi{t:TypeId}(h:ny P t=true):(isAgg t).run P w= .ok true w:=by
 unfold ny at h;cases hu:P.underlying t with
 | none=>simp[hu]at h
 | some d=>simp only[hu]at h;simp only[isAgg,Sem.run_bind,run_underlying hu,Result.andThen_ok];cases d<;>simp_all
theorem run_sizeOf{t n:Nat}(h:fb P t=some n):(sizeOf t).run P w= .ok n w:=by
 unfold fb at h;cases hi:P.info? t with
 | none=>simp[hi]at h
 | some i=>simp[hi]at h;simp[sizeOf,typeInfo,hi,h]
theorem run_typeInfo{t:Nat}{i:TypeInfo}(h:P.info? t=some i):(typeInfo t).run P w= .ok i w:=by simp[typeInfo,h]
theorem pR{t:Nat}{v:Value}(h:BK P t=some v):(zeroValue t).run P w= .ok v w:=by
 unfold BK at h;cases hi:P.info? t with
 | none=>simp[hi]at h
 | some i=>simp[hi]at h;simp[zeroValue,typeInfo,hi,h]
theorem oE(b o i k:Nat):(⟨b,o+i,none⟩:Addr).add k=⟨b,o+(i+k),none⟩:=by
 unfold Addr.add;split
 ·subst_vars;rfl
 ·simp only[Nat.add_assoc]
end
section
variable {P:Program} {w:World}
def run_equalIn_bool(k:Nat){t:TypeId}(a b:Bool)(ht:P.underlying t=some .bool):(Op.equalIn (k+1) t (.bool a) (.bool b)).run P w= .ok (a==b) w:=by
 simp only[Op.equalIn,Sem.run_bind,run_underlying ht,Result.andThen_ok,Sem.run_pure]
def run_equal_bool{t:TypeId}(a b:Bool)(ht:P.underlying t=some .bool):(Op.equal t (.bool a) (.bool b)).run P w= .ok (a==b) w:=
 run_equalIn_bool 9999 a b ht
end
def aZ(P:Program)(n:Fr)(L:PF)(φ:World->Prop)(o:Oper)(v:Value):Prop:=
 ∀ a w,pd n L a->φ w->(execOp a.eval o).run P w= .ok (.value v) w
section
variable {P:Program} {n:Fr} {Q:Exit->Act->World->Prop} {L:PF} {ops:Md} {bU:List Oper} {ty:TypeId} {pos:String} {af:Array Edge} {d:Nat} {φ:World->Prop} {gd:Option (Nat×Bool)}
def V.move{x:Operand}{v:Value}(hx:ev L x=some v):aZ P n L φ (⟨some d,.move x,ty,pos,af,gd⟩) (v):=
   (fun a w ha _=>by simp[execOp,au ha hx])
def V.assign{x:Operand}{v:Value}(hx:ev L x=some v):aZ P n L φ (⟨some d,.assign x,ty,pos,af,gd⟩) (v):=
   (fun a w ha _=>by simp[execOp,au ha hx])
theorem V.pick{c x y:Operand}{t:Bool}{u v r:Value}(hc:ev L c=some (.bool t))(hx:ev L x=some u)(hy:ev L y=some v)(hr:(bif t then u else v)=r):aZ P n L φ (⟨some d,.pick c x y,ty,pos,af,gd⟩) (r):=
   (fun a w ha _=>by subst hr;cases t<;>simp[execOp,au ha hx,au ha hy,au ha hc,asBool])
def bD{x:Operand}{b o i:Nat}(hx:ev L x=some (aA b o i)):aZ P n L φ (⟨some d,.nilCheck x,ty,pos,af,gd⟩) (aA b o i):=
   (fun a w ha _=>by simp[execOp,au ha hx,aA])
theorem V.extract{x:Operand}{vs:Array Value}{k:Nat}{v:Value}(hx:ev L x=some (.tuple vs))(hk':KY vs.toList k=some v):aZ P n L φ (⟨some d,.extract x k,ty,pos,af,gd⟩) (v):=
   (fun a w ha _=>by have hk:=Rt hk';simp[execOp,au ha hx,Instr.extract,hk])
def V.fieldAddr{s:TypeId}{x:Operand}{f b o i k:Nat}(hx:ev L x=some (aA b o i))(hf:eK P s f=some k):aZ P n L φ (⟨some d,.fieldAddr s x f,ty,pos,af,gd⟩) (aA b o (i+k)):=
   (fun a w ha _=>by
    unfold eK at hf
    cases hu:P.underlying s with
    | none=>simp[hu]at hf
    | some ds=>
      simp only[hu]at hf
      cases ds<;>simp only[]at hf<;>try cases hf
      rename_i fs
      cases hfl:fs[f]? with
      | none=>simp[hfl]at hf
      | some fld=>
        simp only[hfl]at hf
        cases hs:fb P fld.type with
        | none=>simp[hs]at hf
        | some z=>
          cases z with
          | zero=>simp[hs]at hf
          | succ z=>
            simp only[hs,Option.some.injEq]at hf
            subst hf
            simp[execOp,au ha hx,Instr.fieldAt,run_underlying hu,hfl,Instr.sureAddr,aA,fieldPlace,run_sizeOf hs,oE])
def ja{t:TypeId}{x:Operand}{b o i m sz:Nat}{z:Int}(hx:ev L x=some (aA b o i))(hy:ev L y=some (.int k z))(ht:vh P t=some (m,sz))(hz:0<=z/\z<m):aZ P n L φ (⟨some d,.indexAddr t x y,ty,pos,af,gd⟩) (aA b o (i+z.toNat*sz)):=
   (fun a w ha _=>by
    unfold vh at ht
    cases hu:P.underlying t with
    | none=>simp[hu]at ht
    | some ds=>
      simp only[hu]at ht
      cases ds<;>simp only[]at ht<;>try cases ht
      rename_i m' e
      cases hs:fb P e with
      | none=>simp[hs]at ht
      | some s=>
        simp only[hs,Option.map_some,Option.some.injEq,Prod.mk.injEq]at ht
        obtain⟨rfl,rfl⟩:=ht
        simp[execOp,au ha hx,au ha hy,Instr.indexAt,asIntOf,run_underlying hu,Instr.sureAddr,aA,hz,run_sizeOf hs,oE])
def EP{t e:TypeId}{x:Operand}{b o sz len cap:Nat}{z:Int}(hx:ev L x=some (.slice (some ⟨b,o,none⟩) len cap))(hy:ev L y=some (.int k z))(ht:uj P t=some (e,sz))(hz:0<=z/\z<len):aZ P n L φ (⟨some d,.indexAddr t x y,ty,pos,af,gd⟩) (aA b o (0+z.toNat*sz)):=
   (fun a w ha _=>by
    unfold uj at ht
    cases hu:P.underlying t with
    | none=>simp[hu]at ht
    | some ds=>
      simp only[hu]at ht
      cases ds<;>simp only[]at ht<;>try cases ht
      rename_i e'
      cases hs:fb P e' with
      | none=>simp[hs]at ht
      | some s=>
        simp only[hs,Option.map_some,Option.some.injEq,Prod.mk.injEq]at ht
        obtain⟨rfl,rfl⟩:=ht
        have:=oE b o 0 (z.toNat*s)
        simp only[Nat.add_zero]at this
        simp[execOp,au ha hx,au ha hy,Instr.indexAt,asIntOf,run_underlying hu,aA,hz,run_sizeOf hs,this])
def qk{t t':TypeId}{x:Operand}{u v r:Value}(hx:ev L x=some u)(hy:ev L y=some v)(hr:∀ (w:World) (a:Act),a.eval x=u->a.eval y=v->(execOp a.eval ⟨some d,.binOp op t x y t',ty,pos,af,gd⟩).run P w= .ok (.value r) w):aZ P n L φ (⟨some d,.binOp op t x y t',ty,pos,af,gd⟩) r:=
 fun a w ha _=>hr w a (au ha hx) (au ha hy)
theorem V.add{t t':TypeId}{x y:Operand}{k:IntKind}{a b:Int}(hx:ev L x=some (.int k a))(hy:ev L y=some (.int k b))(r:Int)(hw:k.wrap (a+b)=r):aZ P n L φ (⟨some d,.binOp .add t x y t',ty,pos,af,gd⟩) (.int k r):=
 qk hx hy fun w A hx hy=>by simp[execOp,eqGuard,hx,hy,binOp,Op.intArith,hw]
theorem V.sub{t t':TypeId}{x y:Operand}{k:IntKind}{a b:Int}(hx:ev L x=some (.int k a))(hy:ev L y=some (.int k b))(r:Int)(hw:k.wrap (a-b)=r):aZ P n L φ (⟨some d,.binOp .sub t x y t',ty,pos,af,gd⟩) (.int k r):=
 qk hx hy fun w A hx hy=>by simp[execOp,eqGuard,hx,hy,binOp,Op.intArith,hw]
def V.mul{t t':TypeId}{x y:Operand}{k:IntKind}{a b:Int}(hx:ev L x=some (.int k a))(hy:ev L y=some (.int k b))(r:Int)(hw:k.wrap (a*b)=r):aZ P n L φ (⟨some d,.binOp .mul t x y t',ty,pos,af,gd⟩) (.int k r):=
 qk hx hy fun w A hx hy=>by simp[execOp,eqGuard,hx,hy,binOp,Op.intArith,hw]
theorem Wn(a b:Int):(a==b)=decide (a=b):=rfl
theorem Wo(a b:Int):(a != b)= !decide (a=b):=rfl
def Ru{t t':TypeId}{x:Operand}{a b:Int}{r:Bool}(hx:ev L x=some (.int k a))(hy:ev L y=some (.int k b))(hr:(match op with | .eql=>some (decide (a=b)) | .neq=>some (decide (a≠b)) | .lss=>some (decide (a<b)) | .leq=>some (decide (a<=b)) | .gtr=>some (decide (a>b)) | .geq=>some (decide (a>=b)) | _=>none)=some r):aZ P n L φ (⟨some d,.binOp op t x y t',ty,pos,af,gd⟩) (.bool r):=
 qk hx hy (fun w A hx hy=>by
  cases op<;>simp only[Option.some.injEq]at hr<;>(try cases hr)<;>
   simp[execOp,eqGuard,hx,hy,binOp,Op.intCmp,Wn,Wo])
def V.not{t:TypeId}{x:Operand}{b:Bool}(hx:ev L x=some (.bool b)):aZ P n L φ (⟨some d,.unOp .not t x,ty,pos,af,gd⟩) (.bool (!b)):=
   (fun a w ha _=>by simp[execOp,au ha hx,Op.unary])
def aam{t:TypeId}{x:Operand}{p:Prop}[Decidable p](hx:ev L x=some (.bool (decide p))):aZ P n L φ (⟨some d,.unOp .not t x,ty,pos,af,gd⟩) (.bool (decide (¬p))):=
   (fun a w ha _=>by simp[execOp,au ha hx,Op.unary])
def V.neg{t:TypeId}{x:Operand}{k:IntKind}{a:Int}(hx:ev L x=some (.int k a))(r:Int)(hw:k.wrap (0-a)=r):aZ P n L φ (⟨some d,.unOp .neg t x,ty,pos,af,gd⟩) (.int k r):=
   (fun A w ha _=>by
    have dP:k.wrap (-a)=r:=by rw[<-hw];congr 1;omega
    simp[execOp,au ha hx,Op.unary,Op.intArith,dP])
def Rv{t t':TypeId}{x:Operand}{a b r:Bool}(hx:ev L x=some (.bool a))(hy:ev L y=some (.bool b))(ht:P.underlying t=some .bool)(hr:(match op with | .eql=>some (a==b) | .neq=>some (!(a==b)) | _=>none)=some r):aZ P n L φ (⟨some d,.binOp op t x y t',ty,pos,af,gd⟩) (.bool r):=
 qk hx hy (fun w A hx hy=>by
  have he:=run_equal_bool (P:=P) (w:=w) a b ht
  cases op<;>simp only[Option.some.injEq]at hr<;>(try cases hr)<;>
   simp[execOp,eqGuard,hx,hy,binOp,he])
def Ag{t:TypeId}{x:Operand}{v:Value}{ds:TypeDesc}(hx:ev L x=some v)(ht:P.underlying t=some ds)(hn:∀ ms,ds≠ .interface ms):aZ P n L φ (⟨some d,.makeInterface t x,ty,pos,af,gd⟩) (.iface t v):=
   (fun a w ha _=>by
    simp only[execOp,au ha hx,Instr.makeInterface,Sem.run_bind,run_underlying ht,Result.andThen_ok]
    cases ds<;>simp_all)
variable {W:World} {S:Nat->Nat->Prop} {H H':List aB}
theorem dX{w:World}{b o m i:Nat}{C:Nat->Value}(h:(aB.cells b o m C).holds w)(hi:i<m:=by omega):w.cell? ⟨b,o+i,none⟩=some (C i):=by
 obtain⟨A,t,lo,HN,h1,h2⟩:=h;simp[World.cell?,h1,(h2 i hi).1]
def BL{w:World}{b o m i:Nat}{C:Nat->Value}(h:(aB.ro b o m C).holds w)(hi:i<m):w.cell? ⟨b,o+i,none⟩=some (C i):=by
 obtain⟨A,t,fz,h1,h2⟩:=h;simp[World.cell?,h1,h2 i hi]
theorem fT{w:World}{t:TypeId}{a:Addr}{v:Value}(ht:jD P t=true)(hc:w.cell? a=some v):(loadVar t a).run P w= .ok v w:=by
 simp[loadVar,jP ht,run_load,hc]
def fc{W:World}{S:Nat->Nat->Prop}{H:List aB}{e:aB}(hH:kR H e)(w:World)(h:XM W S H w):e.holds w:=h.eY.1 _ hH.mem
def ek{e:aB}(w:World)(h:e.holds w):e.holds w:=h
theorem V.load{t:TypeId}{x:Operand}{b o i m:Nat}{C:Nat->Value}{v:Value}(hx:ev L x=some (aA b o i))(hH:∀ w,φ w->(aB.cells b o m C).holds w)(hv:i<m/\C i=v)(ht:jD P t=true):aZ P n L φ (⟨some d,.load t x,ty,pos,af,gd⟩) v:=fun a w ha hw=>by
 have hc:=dX (hH w hw) hv.1;rw[hv.2]at hc;simp[execOp,au ha hx,Instr.loadAt,Instr.sureAddr,aA,fT ht hc]
def Rw{t:TypeId}{x:Operand}{b o i m:Nat}{C:Nat->Value}{v:Value}(hx:ev L x=some (aA b o i))(hH:∀ w,φ w->(aB.ro b o m C).holds w)(hv:i<m/\C i=v)(ht:jD P t=true):aZ P n L φ (⟨some d,.load t x,ty,pos,af,gd⟩) v:=fun a w ha hw=>by
 have hc:=BL (hH w hw) hv.1;rw[hv.2]at hc;simp[execOp,au ha hx,Instr.loadAt,Instr.sureAddr,aA,fT ht hc]
theorem run_loadCellsFrom(b o i:Nat)(C:Nat->Value){w:World} :∀ (k j:Nat) (jL:Array Value),(∀ l,j<=l->l<j+k->w.cell? ⟨b,o+(i+l),none⟩=some (C (i+l)))->
  (loadCellsFrom ⟨b,o+i,none⟩ j k jL).run P w= .ok (jL++((List.range' j k).map fun l=>C (i+l)).toArray) w
 | 0,j,jL,_=>by simp[loadCellsFrom]
 | k+1,j,jL,h=>by
  simp only[loadCellsFrom,Sem.run_bind,oE,run_load,h j (Nat.le_refl _) og,Result.andThen_ok];rw[run_loadCellsFrom b o i C k (j+1) _ fun l h1 h2=>h l og og];simp[List.range'_succ]
def js{w:World}{t:TypeId}{b o i sz:Nat}{C:Nat->Value}(ht:ny P t=true)(hs:fb P t=some sz)(hc:∀ l,l<sz->w.cell? ⟨b,o+(i+l),none⟩=some (C (i+l))):(loadVar t ⟨b,o+i,none⟩).run P w= .ok (cZ C i sz) w:=by
 simp only[loadVar,Sem.run_bind,vi ht,Result.andThen_ok,run_sizeOf hs,if_true,loadCells];rw[run_loadCellsFrom b o i C sz 0 #[] fun l _ h2=>hc l og];simp[cZ,List.range_eq_range']
def eB{t:TypeId}{x:Operand}{b o i m sz:Nat}{C:Nat->Value}{v:Value}(hx:ev L x=some (aA b o i))(hH:∀ w,φ w->(aB.cells b o m C).holds w)(hv:i+sz<=m/\cZ C i sz=v)(ht:ny P t=true)(hs:fb P t=some sz):aZ P n L φ (⟨some d,.load t x,ty,pos,af,gd⟩) v:=fun a w ha hw=>by
 have hr:=js (P:=P) (w:=w) (b:=b) (o:=o) (i:=i) (C:=C) ht hs fun l hl=>dX (hH w hw);rw[hv.2]at hr;simp[execOp,au ha hx,Instr.loadAt,Instr.sureAddr,aA,hr]
def H4{t:TypeId}{x:Operand}{b o i m sz:Nat}{C:Nat->Value}{v:Value}(hx:ev L x=some (aA b o i))(hH:∀ w,φ w->(aB.ro b o m C).holds w)(hv:i+sz<=m/\cZ C i sz=v)(ht:ny P t=true)(hs:fb P t=some sz):aZ P n L φ (⟨some d,.load t x,ty,pos,af,gd⟩) v:=fun a w ha hw=>by
 have hr:=js (P:=P) (w:=w) (b:=b) (o:=o) (i:=i) (C:=C) ht hs fun l hl=>BL (hH w hw) og;rw[hv.2]at hr;simp[execOp,au ha hx,Instr.loadAt,Instr.sureAddr,aA,hr]
theorem XO.v{ops:Md}{bU:List Oper}{M:World->Prop}{op:Op}{v:Value}(hv:aZ P n L (fun _=>True) ⟨some d,op,ty,pos,af,none⟩ v)(hd:(Nat.blt d n.sz&& !cI op)=true)
  (h:XO P n ops Q bU ((d,v)::L) M):XO P n ops Q (⟨some d,op,ty,pos,af,none⟩::bU) L M:=XO.val hd (fun a w ha=>hv a w ha trivial) h
theorem XO.l{ops:Md}{bU:List Oper}{M:World->Prop}{op:Op}{v:Value}(hv:aZ P n L M ⟨some d,op,ty,pos,af,none⟩ v)(hd:(Nat.blt d n.sz&&(!cI op&&isR op))=true)
  (h:XO P n ops Q bU ((d,v)::L) M):XO P n ops Q (⟨some d,op,ty,pos,af,none⟩::bU) L M:=XO.agp hd hv h
end
end Go.X

namespace Go.X
open Go
variable{f:FuncId}{v:Value}
inductive nL:List aB->aB->aB->List aB->Prop where
 | aa {e e' H} :nL (e::H) e e' (e'::H)
 | ao {x e e' H H'} :nL H e e' H'->nL (x::H) e e' (x::H')
def nL.Zm{H H2:List aB}{e e':aB}(h:nL H e e' H2):∃ H',nc H e H'/\(e'::H').Perm H2:=by
 induction h with
 | aa=>exact⟨_,.aa,.refl _⟩
 | ao _ ih=>obtain⟨H',h1,h2⟩:=ih;exact⟨_,.ao h1,(List.Perm.swap _ _ _).trans (List.Perm.cons _ h2)⟩
def cC(C:Nat->Value)(i:Nat):List Value->Nat->Value
 | []=>C
 | v::r=>cC (dL C i v) (i+1) r
theorem oF(h:one v=true):v.oneCell'=true:=by cases v<;>simp_all[one,Value.oneCell']
theorem gy.setCell{w:World}{b o i:Nat}{A:Array Value}{t:TypeId}{fz:Nat×Nat}(h:w.heap[b]? =some (.cells A t fz))(v:Value){S:Nat->Nat->Prop}(hS:S b (o+i)):gy w (w.setCell ⟨b,o+i,none⟩ v) S:=by
 refine⟨rfl,rfl,rfl,by simp[World.setCell],fun x hx hn=> ?_,fun x A' t' fz' hA=> ?_⟩
 ·have:x≠b:=fun e=>by subst e;exact hn _ hS
  simp only[World.setCell,Array.getElem?_modify];rw[if_neg fun e=>this e.symm]
 ·by_cases hx:x=b
  ·subst hx;rw[h]at hA;simp only[Option.some.injEq,Obj.cells.injEq]at hA;obtain⟨rfl,rfl,rfl⟩:=hA;refine⟨A.setIfInBounds (o+i) v,?_,sq,fun j hj=> ?_⟩
   ·simp[World.setCell,Array.getElem?_modify,h]
   ·have:o+i≠j:=fun e=>by subst e;exact hj hS
    rw[Array.getElem?_setIfInBounds_ne this]
  ·refine⟨A',?_,rfl,fun _ _=>rfl⟩;simp only[World.setCell,Array.getElem?_modify];rw[if_neg fun e=>hx e.symm];exact hA
theorem XM.setCell{W w:World}{S:Nat->Nat->Prop}{H H':List aB}{b o m i:Nat}{C:Nat->Value}(h:XM W S H w)(hd:nc H (.cells b o m C) H')(hi:i<m)(v:Value):XM W S (.cells b o m (dL C i v)::H') (w.setCell ⟨b,o+i,none⟩ v):=by
 have hh:(aB.cells b o m C).holds w:=h.eY.1 _ (hd.b8.mem_iff.2 sq);obtain⟨A,t,lo,HN,h1,h2⟩:=hh;refine h.b7 (e':=.cells b o m (dL C i v)) hd rfl (fun b' o' ha=>.inl ha) (gy.setCell h1 v ⟨rfl,og,og⟩) ?_;refine⟨A.setIfInBounds (o+i) v,t,lo,HN,by simp[World.setCell,Array.getElem?_modify,h1],fun j hj=>⟨?_,(h2 j hj).2⟩⟩;have KF:o+i<A.size:=(Array.getElem?_eq_some_iff.1 (h2 i hi).1).1;by_cases HW:j=i
 ·subst HW;simp[dL,KF]
 ·rw[Array.getElem?_setIfInBounds_ne og];simp[dL,HW,(h2 j hj).1]
section
variable {P:Program} {n:Fr} {Q:Exit->Act->World->Prop} {L:PF} {ops:Md} {bU:List Oper} {ty:TypeId} {pos:String} {af:Array Edge} {d:Nat}
variable {W:World} {S:Nat->Nat->Prop} {H H':List aB}
theorem nA{w:World}{b o m i:Nat}{C:Nat->Value}(h:(aB.cells b o m C).holds w)(hi:i<m)(hv:one v=true):(store ⟨b,o+i,none⟩ v).run P w= .ok () (w.setCell ⟨b,o+i,none⟩ v):=by
 rw[run_store P w _ v .plain (oF hv),dX h hi];obtain⟨A,t,lo,HN,h1,h2⟩:=h;have:w.frozen? ⟨b,o+i,none⟩=false:=by
  have:=(h2 i hi).2;simp only[World.frozen?,h1];simp;omega
 simp[this]
def lI{b o m:Nat} :∀ (vs:List Value) (i j:Nat) (C:Nat->Value) (w:World),XM W S (.cells b o m C::H) w->i+j+vs.length<=m->vs.all one=true->
  ∃ w',(storeCells ⟨b,o+i,none⟩ vs j).run P w= .ok () w'/\XM W S (.cells b o m (cC C (i+j) vs)::H) w'
 | [],i,j,C,w,h,_,_=>⟨w,by simp[storeCells],h⟩
 | v::r,i,j,C,w,h,hl,h1=>by
  simp only[List.all_cons,Bool.and_eq_true]at h1;simp only[List.length_cons]at hl;have h2:=h.setCell .aa (i:=i+j) og v;obtain⟨w',hr,hx⟩:=lI r i (j+1) _ _ h2 og h1.2;refine⟨w',?_,by simpa only[cC,Nat.add_assoc]using hx⟩;simp only[storeCells,Sem.run_bind,oE];rw[nA (show(aB.cells b o m C).holds w from h.eY.1 _ sq) og h1.1];exact hr
theorem XO.store{t:TypeId}{x y:Operand}{b o i m:Nat}{C C':Nat->Value}{v:Value}(hx:ev L x=some (aA b o i))(hy:ev L y=some v)(hH:nL H (.cells b o m C) (.cells b o m C') H')(hi:i<m/\dL C i v=C')(hv:one v=true)(hs:fb P t=some 1)(h:XO P n ops Q bU L (XM W S H')):XO P n ops Q (⟨none,.store t x y,ty,pos,af,none⟩::bU) L (XM W S H):=
 XO.op rfl fun a w ha hw=>by
  obtain⟨H1,hd,hp⟩:=hH.Zm;have h2:=hw.setCell hd hi.1 v;rw[hi.2]at h2;have dP:=hw.b8 hd.b8;have hr:=nA (P:=P) (show(aB.cells b o m C).holds w from dP.eY.1 _ sq) hi.1 hv;unfold Oper.wp;have:(execOp a.eval ⟨none,.store t x y,ty,pos,af,none⟩).run P w= .ok .skip (w.setCell ⟨b,o+i,none⟩ v):=by
   have hz:(⟨b,o+i,none⟩:Addr).add 0=⟨b,o+i,none⟩:=rfl;simp[execOp,au ha hx,au ha hy,Instr.storeAt,Instr.sureAddr,aA,storeVar,yO hv,run_sizeOf hs,storeCells,hz,hr]
  rw[this];exact h _ _ ha (h2.b8 hp)
def XO.gM{t:TypeId}{x y:Operand}{b o i m sz:Nat}{C C':Nat->Value}{cs:Array Value}(hx:ev L x=some (aA b o i))(hy:ev L y=some (.agg cs))(hH:nL H (.cells b o m C) (.cells b o m C') H')(hi:i+sz<=m/\cC C i cs.toList=C')(hv:cs.toList.all one=true/\cs.size=sz)(hs:fb P t=some sz)(h:XO P n ops Q bU L (XM W S H')):XO P n ops Q (⟨none,.store t x y,ty,pos,af,none⟩::bU) L (XM W S H):=
 XO.op rfl fun a w ha hw=>by
  obtain⟨H1,hd,hp⟩:=hH.Zm;obtain⟨w',hr,mz⟩:=lI (P:=P) cs.toList i 0 C w (hw.b8 hd.b8) (by simp;omega) hv.1;simp only[Nat.add_zero]at mz;rw[hi.2]at mz;unfold Oper.wp;have:(execOp a.eval ⟨none,.store t x y,ty,pos,af,none⟩).run P w= .ok .skip w':=by
   simp[execOp,au ha hx,au ha hy,Instr.storeAt,Instr.sureAddr,aA,storeVar,Value.cells,run_sizeOf hs,hv.2,hr]
  rw[this];exact h _ _ ha (mz.b8 hp)
theorem XM.alloc{w:World}(h:XM W S H w)(A:Array Value)(t:TypeId)(C:Nat->Value)(hC:∀ i,i<A.size->A[i]? =some (C i)):XM W S (.cells w.heap.size 0 A.size C::H) (w.alloc (.cells A t)):=by
 refine h.fresh (fun b o hb=>by obtain⟨rfl,_⟩:=hb;exact Nat.le_refl _) ?_ ?_
 ·refine⟨rfl,rfl,rfl,sq,fun b hb _=>heap_alloc_old w _ hb,fun b A' t' fz hA=>⟨A',?_,rfl,fun _ _=>rfl⟩⟩;rw[heap_alloc_old w _ (di hA)];exact hA
 ·exact⟨A,t,0,0,heap_alloc_new w _,fun i hi=>⟨by simpa using hC i hi,og⟩⟩
def cellsOf(A:Array Value):Nat->Value:=fun i=>A.getD i undef
theorem gN(A:Array Value)(i:Nat)(h:i<A.size):A[i]? =some (cellsOf A i):=by simp[cellsOf,h]
def XO.bJ{t:TypeId}{z:Value}{m:Nat}{C:Nat->Value}(hC:∀ i,i<m->cellsOf z.cells i=C i)(h:∀ b,XO P n ops Q bU ((d,aA b 0 0)::L) (XM W S (.cells b 0 m C::H)))(hz:BK P t=some z:=by kernel_rfl)(hm:z.cells.size=m:=by exact rfl)(hd:Nat.blt d n.sz=true:=by exact rfl):XO P n ops Q (⟨some d,.alloc t,ty,pos,af,none⟩::bU) L (XM W S H):=
 XO.op rfl fun a w ha hw=>by
  have hx:=hw.alloc z.cells t C fun i hi=>by rw[gN _ _ hi,hC i (hm▸hi)]
  rw[hm]at hx;unfold Oper.wp;have:(execOp a.eval ⟨some d,.alloc t,ty,pos,af,none⟩).run P w= .ok (.value (aA w.heap.size 0 0)) (w.alloc (.cells z.cells t)):=by
   simp[execOp,Instr.alloc,pR hz,newVar,newRow,newObj,Sem.run,aA]
  rw[this];exact h _ _ _ (ha.put hd _) hx
theorem XO.box{t:TypeId}{x:Operand}{v:Value}{m:Nat}{C:Nat->Value}(hx:ev L x=some v)(hm:v.cells.size=m)(hC:∀ i,i<m->cellsOf v.cells i=C i)(hd:Nat.blt d n.sz=true)(h:∀ b,XO P n ops Q bU ((d,aA b 0 0)::L) (XM W S (.cells b 0 m C::H))):XO P n ops Q (⟨some d,.box t x,ty,pos,af,none⟩::bU) L (XM W S H):=
 XO.op rfl fun a w ha hw=>by
  have mz:=hw.alloc v.cells t C fun i hi=>by rw[gN _ _ hi,hC i (hm▸hi)]
  rw[hm]at mz;unfold Oper.wp;have:(execOp a.eval ⟨some d,.box t x,ty,pos,af,none⟩).run P w= .ok (.value (aA w.heap.size 0 0)) (w.alloc (.cells v.cells t)):=by
   simp[execOp,au ha hx,Instr.box,newVar,newRow,newObj,Sem.run,aA]
  rw[this];exact h _ _ _ (ha.put hd _) mz
def V.build{t:TypeId}{parts:Array (Nat×Operand)}{vs:Array (Nat×Value)}{v:Value}(hp:parts.toList.mapM (fun x=>(ev L x.2).map fun u=>(x.1,u))=some vs.toList)(hb:∀ w,(Instr.build t vs).run P w= .ok v w){φ:World->Prop}{gd:Option (Nat×Bool)} :aZ P n L φ ⟨some d,.build t parts,ty,pos,af,gd⟩ v:=fun a w ha _=>by
  have:parts.map (fun x=>(x.1,a.eval x.2))=vs:=by
   apply Array.toList_inj.1;rw[Array.toList_map];generalize parts.toList=l at hp;generalize vs.toList=us at hp ⊢;clear hb;induction l generalizing us with
   | nil=>simp at hp;subst hp;rfl
   | cons x r ih=>
    simp only[List.mapM_cons,Option.bind_eq_bind]at hp;cases he:ev L x.2 with
    | none=>simp[he]at hp
    | some u=>
     simp only[he,Option.map_some,Option.bind_some]at hp;cases hr:r.mapM (fun x=>(ev L x.2).map fun u=>(x.1,u))with
     | none=>simp[hr]at hp
     | some us'=>
      simp[hr]at hp;subst hp;simp only[List.map_cons];rw[ih us' hr,au ha he]
  have h2:(execOp a.eval ⟨some d,.build t parts,ty,pos,af,gd⟩).run P w= .ok (.value v) w:=by
   have:parts.map (fun (i,x)=>(i,a.eval x))=vs:=this;simp[execOp,this,hb]
  exact h2
def OK(L:PF):List Operand->Option (List Value)
 | []=>some []
 | x::r=>match ev L x,OK L r with
  | some v,some vs=>some (v::vs)
  | _,_=>none
theorem ql{a:Act}(ha:pd n L a):∀ (xs:List Operand) (vs:List Value),OK L xs=some vs->xs.map a.eval=vs
 | [],vs,h=>by simp[OK]at h;subst h;rfl
 | x::r,vs,h=>by
  simp only[OK]at h;cases hx:ev L x with
  | none=>simp[hx]at h
  | some v=>
   cases hr:OK L r with
   | none=>simp[hx,hr]at h
   | some us=>
    simp[hx,hr]at h;subst h;simp only[List.map_cons,au ha hx,ql ha r us hr]
theorem wM{w:World}{a:Act}{xs:List Operand}{vs:List Value}{oc:Array TypeId}{dst:Option Nat}(hc:c9 P f=true)(he:xs.map a.eval=vs):(execOp a.eval ⟨dst,.call ⟨.value (.func f),xs.toArray,oc⟩,ty,pos,af,none⟩).run P w= .ok (.enter f vs.toArray) w:=by
 unfold c9 at hc;cases hf:P.funcs[f]? with
 | none=>simp[hf]at hc
 | some fn=>
  simp only[hf,Bool.and_eq_true]at hc;obtain⟨h1,h2⟩:=hc;have h3:¬fn.name= "runtime.NumGoroutine" :=by simpa using h1
  have h4:¬fn.body=none:=by cases hb:fn.body<;>simp_all
  have h5:xs.toArray.map a.eval=vs.toArray:=by rw[<-he];simp
  simp[execOp,resolve,Act.eval,Deferred.ofValue,invoke,callFunc,run_program,hf,h3,h4,he]
def XO.call{f:FuncId}{xs:List Operand}{vs:List Value}{oc:Array TypeId}{pre F:List aB}{post:Value->List aB->Prop}(he:OK L xs=some vs)(hs:Spec P f vs pre post)(hp:cO H pre F)(hc:c9 P f=true)(hd:Nat.blt d n.sz=true)(h:∀ v H1,post v H1->XO P n ops Q bU ((d,v)::L) (XM W S (H1++F))):XO P n ops Q (⟨some d,.call ⟨.value (.func f),xs.toArray,oc⟩,ty,pos,af,none⟩::bU) L (XM W S H):=
 XO.op rfl fun a w ha hw=>by
  unfold Oper.wp;rw[wM hc (ql ha xs vs he)];show Calls P f vs.toArray w _;refine(hs w (hw.pick hp).eY).mono ?_;rintro e w' ⟨v,H1,rfl,sS,KG,hx⟩;exact h v H1 sS _ _ (ha.put hd v) (hw.yN hp hx fun e he=>List.all_eq_true.1 KG e he)
def XO.adQ{xs:List Operand}{vs:List Value}{oc:Array TypeId}{pre F:List aB}{post:Value->List aB->Prop}(k:Nat)(he:OK L xs=some vs)(hs:Spec P f vs pre post)(hp:cO H pre F)(hR:(pre.drop k).all (fun e=> !e.wr)=true)(hc:c9 P f=true)(hd:Nat.blt d n.sz=true)(h:∀ v H1,post v H1->XO P n ops Q bU ((d,v)::L) (XM W S (H1++(pre.drop k++F)))):XO P n ops Q (⟨some d,.call ⟨.value (.func f),xs.toArray,oc⟩,ty,pos,af,none⟩::bU) L (XM W S H):=
 XO.op rfl fun a w ha hw=>by
  unfold Oper.wp;rw[wM hc (ql ha xs vs he)];show Calls P f vs.toArray w _;refine(hs w (hw.pick hp).eY).mono ?_;rintro e w' ⟨v,H1,rfl,sS,KG,hx⟩;have adR:pre=pre.take k++pre.drop k:=(List.take_append_drop k pre).symm;have hR':∀ e∈pre.drop k,e.wr=false:=fun e he=>by
   have:=List.all_eq_true.1 hR e he;simpa using this
  have hp':cO H (pre.take k++pre.drop k) F:=by rw[<-adR];exact hp
  have mz:XM w (ck (pre.take k++pre.drop k)) H1 w':=by rw[<-adR];exact hx
  exact h v H1 sS _ _ (ha.put hd v) (hw.Wm hp' hR' mz fun e he=>List.all_eq_true.1 KG e he)
def Spec.Rx{args:List Value}{pre:List aB}{post Zn:Value->List aB->Prop}(h:Spec P f args pre post)(hp:∀ v H1,post v H1->Zn v H1):Spec P f args pre Zn:=
 fun w hg=>(h w hg).mono fun _ _ ⟨v,H1,he,hq,hr⟩=>⟨v,H1,he,hp v H1 hq,hr⟩
def ai{post:Value->List aB->Prop}{H1 F:List aB}(hp:cO H H1 F)(H5:H1.all aB.wr=true)(h:post v H1):
  ∀ w,XM W S H w->∃ v' H',Ending.returned v= .returned v'/\post v' H'/\H'.all aB.wr=true/\XM W S H' w:=fun _ hw=>⟨v,H1,rfl,h,H5,hw.pick hp⟩
end
end Go.X
