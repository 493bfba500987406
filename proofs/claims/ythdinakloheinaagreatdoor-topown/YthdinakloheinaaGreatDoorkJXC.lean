import Derived.Stop.LaidErr
import Derived.Test.YthdinakloheinaaGreatDoorkJX2
set_option linter.all false
/- TopOwn holds. -/
namespace Go.Proofs.YthdinakloheinaaGreatDoor
open Go Go.ChangeShapes Go.WideShapes Go.ChangeAt Go.RowKit Go.Deep Go.X Go.X.Kn
variable{W:World}
theorem aX:ownKnob Tryz.prog.godebug=none:=kq
def aai:laidOutB Tryz.prog=true:=kq
def Sl{H:Type}{enc:TypeId×Value->H}{base:Nat}{spare:Nat->Bool}{bj:Bool}{fuel:Nat}{cs:List Value}{x:DataW H×List MemPlace}(h:DataW.trod enc Tryz.prog W base spare bj fuel 22 cs=some x):cs=[.slice none 0 0]\/∃ (a:Addr) (len cap:Nat),cs=[.slice (some a) len cap]/\len<=cap/\∀ i,i<len->∃ x:iU,x.ok/\∀ j,j<8->W.cell? (a.add (i*8+j))=some (fB x j):=by
 rcases xL Tryz.underlying22 Tryz.underlying31 kq kq h with⟨h0,_⟩ | ⟨a,len,cap,m,D,Pl,BR,_,hl,_,hm,_,hi⟩
 ·exact .inl h0
 ·refine .inr ⟨a,len,cap,BR,hl,fun i hil=> ?_⟩;have him:i<m:=by rw[hm];split<;>omega
  obtain⟨ys,n,_,_,_,hf⟩:=hi i him;obtain⟨v0,y0,c0,_,t0⟩:=hf 0 _ rfl;obtain⟨v1,y1,c1,_,t1⟩:=hf 1 _ rfl;obtain⟨v2,y2,c2,_,t2⟩:=hf 2 _ rfl;obtain⟨v3,y3,c3,_,t3⟩:=hf 3 _ rfl;obtain⟨v4,y4,c4,_,t4⟩:=hf 4 _ rfl;obtain⟨v5,y5,c5,_,t5⟩:=hf 5 _ rfl;obtain⟨v6,y6,c6,_,t6⟩:=hf 6 _ rfl;obtain⟨v7,y7,c7,_,t7⟩:=hf 7 _ rfl;obtain⟨s0,e0,_,z0⟩:=DataW.trod_string Tryz.underlying9 t0;obtain⟨n1,e1,_,z1⟩:=DataW.trod_int Tryz.underlying3 t1;obtain⟨n2,e2,_,z2⟩:=DataW.trod_int Tryz.underlying3 t2;obtain⟨n3,e3,_,z3⟩:=DataW.trod_int Tryz.underlying3 t3;obtain⟨n4,e4,_,z4⟩:=DataW.trod_int Tryz.underlying29 t4;obtain⟨b5,e5,_⟩:=DataW.trod_bool Tryz.underlying4 t5;obtain⟨s6,e6,_,z6⟩:=DataW.trod_string Tryz.underlying9 t6;obtain⟨s7,e7,_,z7⟩:=DataW.trod_string Tryz.underlying9 t7;simp only[List.cons.injEq,and_true]at e0 e1 e2 e3 e4 e5 e6 e7;subst e0;subst e1;subst e2;subst e3;subst e4;subst e5;subst e6;subst e7;refine⟨⟨s0,n1,n2,n3,n4,b5,s6,s7⟩,⟨L4 z1,L4 z2,L4 z3,abJ z4,z6,z7,z0⟩,fun j hj=> ?_⟩;match j,hj with
  | 0,_=>exact c0
  | 1,_=>exact c1
  | 2,_=>exact c2
  | 3,_=>exact c3
  | 4,_=>exact c4
  | 5,_=>exact c5
  | 6,_=>exact c6
  | 7,_=>exact c7
  | k+8,h=>exact absurd h og
def agE:Tryz.prog.globalNamed "math/bits.deBruijn32tab" =some 0:=kq
def W7:(Tryz.prog.globals[0]?).map (·.type)=some 256:=kq
def aea:Tryz.prog.cellsOf 256=32:=kq
def aeb:Tryz.prog.cellsOf 5=1:=kq
def agF(h:laidMetH Tryz.prog Rows.topOwnRow.laid W):Lib.TabIs Tryz.prog W "math/bits.deBruijn32tab" .u8 [0,1,28,2,29,14,24,3,30,22,20,15,25,17,4,8,31,27,13,23,21,19,16,7,26,12,18,6,11,5,10,9]:=
 Lib.tabIs_of_head agE W7 Tryz.underlying256 Tryz.underlying5 aeb aea h
def xx(h:laidMetH Tryz.prog Rows.topOwnRow.laid W):(aF.ro 0 0 32 Go.X.Sg.dw).holds W:=
 tG (a:=⟨0,0,none⟩) dq (fun i hi=>by
  have:=(agF h).cell agE i (by simpa using hi)
  have e:(Addr.add ⟨0,0,none⟩ i)=⟨0,i,none⟩:=by
   cases i with
   | zero=>rfl
   | succ i=>simp[Addr.add]
  rw[e,this];rfl)
def oJ{e:aF}{H:List aF}{w:World}(he:e.holds w)(hw:e.wr=false)(hH:∀ x∈H,x.wr=false)(h:X.Good H w):X.Good (e::H) w:=by
 refine And.intro (fun x hx=> ?_) (List.pairwise_cons.2 (And.intro (fun x hx hb=> ?_) h.2))
 ·cases List.mem_cons.1 hx with
  | inl q=>rw[q];exact he
  | inr q=>exact h.1 x q
 ·rw[hw,hH x hx]at hb;cases hb
def abf:Tryz.prog.globalNamed "math/bits.deBruijn64tab" =some 1:=kq
def Sm:(Tryz.prog.globals[1]?).map (·.type)=some 299:=kq
def aaj:Tryz.prog.cellsOf 299=64:=kq
def aak:Tryz.prog.cellsOf 5=1:=kq
def aec(h:laidMetH Tryz.prog Rows.topOwnRow.laid W):Lib.TabIs Tryz.prog W "math/bits.deBruijn64tab" .u8 [0,1,56,2,57,49,28,3,61,58,42,50,38,29,17,4,62,47,59,36,45,43,51,22,53,39,33,30,24,18,12,5,63,55,48,27,60,41,37,16,46,35,44,21,52,32,23,11,54,26,40,15,34,20,31,10,25,14,19,9,13,8,7,6]:=
 Lib.tabIs_of_head abf Sm Tryz.underlying299 Tryz.underlying5 aak aaj (laidMet.tail h)
def uU(h:laidMetH Tryz.prog Rows.topOwnRow.laid W):(aF.ro 1 0 64 Go.X.Vm.gL).holds W:=
 tG (a:=⟨1,0,none⟩) dq (fun i hi=>by
  have:=(aec h).cell abf i (by simpa using hi)
  have e:(Addr.add ⟨1,0,none⟩ i)=⟨1,i,none⟩:=by
   cases i with
   | zero=>rfl
   | succ i=>simp[Addr.add]
  rw[e,this];rfl)
def ro2{e1 e2:aF}(h1:e1.wr=false)(h2:e2.wr=false):∀ x∈[e1,e2],x.wr=false:=fun x hx=>by
 rcases List.mem_cons.1 hx with q | q
 ·rw[q];exact h1
 ·rw[List.mem_singleton.1 q];exact h2
set_option maxRecDepth 100000 in
def BQ(H:Type)(enc:TypeId×Value->H)(W:World)(base:Nat)(args:Array Value)(ds gs:List (DataW H))(before:List MemPlace)(aal:∀ (j:Nat) t v,Tryz.f6.params[j]? =some t->args[j]? =some v->Value.okWide Tryz.prog W .any base t v)(hW:DataW.Whole enc Tryz.prog Tryz.f6.params.toList Rows.topOwnSpec.vars false W args.toList ds gs before)(hL:laidMetH Tryz.prog Rows.topOwnRow.laid W):Calls Tryz.prog 6 args W fun e W'=>∃ v,e= .returned v/\Rows.topOwnSpec.post enc Tryz.prog Tryz.f6 false true false false W args v W':=by
 have hW':=hW;obtain⟨p,q,hA0,hV,rfl,hfz,hnd⟩:=hW;have hA:DataW.TrodAll enc Tryz.prog W 0 (fun _=>true) true Tryz.f6.params.toList args.toList ds p:=hA0;rw[Tryz.params6]at hA aal;obtain⟨v0,d0,rfl,rfl,h0⟩:=trodAll_one hA;obtain⟨rfl,rfl⟩:=trodVars_none hV;obtain⟨p0,len,cap,rfl⟩:=okWide_slice Tryz.underlying22 (aal 0 22 v0 rfl rfl);clear hA0;simp only[List.append_nil]at hW';have rz:∀ x∈p,x.block<W.heap.size:=fun x hx=>hW'.lt x hx;have fin:Calls Tryz.prog 6 #[.slice p0 len cap] W fun e w'=>e= .returned (.bool true)/\Below W.heap.size W w':=by
  obtain⟨fuel,hf⟩:=h0;rcases Sl hf with BR | ⟨a,amC,cQ,BR,hl,hi⟩
  ·simp[Value.cells]at BR;obtain⟨rfl,rfl,rfl⟩:=BR;exact p8 aah (by simp[aF.wr]) (w:=W) (oJ (xx hL) rfl (by intro x hx;obtain rfl:=List.mem_singleton.1 hx;rfl) (oJ (uU hL) rfl (fun _ hx=>nomatch hx) ⟨fun _ hx=>(nomatch hx),.nil⟩))
  ·simp[Value.cells]at BR;obtain⟨rfl,rfl,rfl⟩:=BR;by_cases hz:0<len
   ·obtain⟨AA,tq,hg⟩:=X4 hz hi;have ha:a=⟨a.block,a.off,none⟩\/True:=.inr trivial;obtain⟨x0,_,rB⟩:=hi 0 hz;have E8:=rB 0 og;have hsp:a.spot=none:=X3 E8;have:a=⟨a.block,a.off,none⟩:=by cases a;simp_all
    rw[this];exact p8 (W6 a.block a.off len cap hl AA tq) (by simp[aF.wr]) (oJ (xx hL) rfl (ro2 rfl rfl) (oJ (uU hL) rfl (by intro x hx;obtain rfl:=List.mem_singleton.1 hx;rfl) hg))
   ·obtain rfl:len=0:=og;exact p8 (Lo (some a) cap) (by simp[aF.wr]) (w:=W) (oJ (xx hL) rfl (by intro x hx;obtain rfl:=List.mem_singleton.1 hx;rfl) (oJ (uU hL) rfl (fun _ hx=>nomatch hx) ⟨fun _ hx=>(nomatch hx),.nil⟩))
 refine fin.mono fun e W' ⟨he,hb⟩=> ?_;subst he;exact⟨_,rfl,EE (pa:=p) (pv:=[]) hW' (fun _ _ _=>trodAll_mk1 (shut_bool Tryz.underlying4 _))
  (fun sp hsp=>trodAll_mk1 (WideElems.Trod_stays aai kq (of_decide_eq_true kq) h0 (fun x hx=>hb.same (rz x hx)) fun x hx=>hsp x hx))
  (fun _ _=>rfl) sq hb (ok_one kq rfl (okWide_bool_mk Tryz.underlying4 _))⟩
noncomputable def AM (os:Os):World:=
 {World.holding Tryz.prog os ⟨#[],#[],[]⟩with heap:=(((((World.holding Tryz.prog os ⟨#[],#[],[]⟩).heap.modify 0 fun
   | .cells _ t frozen=>.cells ⟨[0,1,28,2,29,14,24,3,30,22,20,15,25,17,4,8,31,27,13,23,21,19,16,7,26,12,18,6,11,5,10,9].map (.int .u8)⟩ t frozen
   | o=>o).modify 1 fun
   | .cells _ t frozen=>.cells ⟨[0,1,56,2,57,49,28,3,61,58,42,50,38,29,17,4,62,47,59,36,45,43,51,22,53,39,33,30,24,18,12,5,63,55,48,27,60,41,37,16,46,35,44,21,52,32,23,11,54,26,40,15,34,20,31,10,25,14,19,9,13,8,7,6].map (.int .u8)⟩ t frozen
   | o=>o).modify 3 fun
   | .cells _ t frozen=>.cells ⟨((List.replicate 128 240++List.replicate 66 241++List.replicate 30 2++[19,3,3,3,3,3,3,3,3,3,3,3,3,35,3,3,52,4,4,4,68,241,241,241,241,241,241,241,241,241,241,241]):List Int).map (.int .u8)⟩ t frozen
   | o=>o).modify 4 fun
   | .cells _ t frozen=>.cells ⟨(([128,191,160,191,128,159,144,191,128,143]++List.replicate 22 0):List Int).map (.int .u8)⟩ t frozen
   | o=>o)}
def W8(os:Os):laidMet Tryz.prog Rows.topOwnRow.laid ((AM os).forCall (fun _ _=>0) ⟨#[],#[.slice none 0 0],[]⟩).memory:=
 laidMet_of_run' 272 kq kq
def agG(os:Os){H:Type}(enc:TypeId×Value->H):∃ places,DataW.whole enc Tryz.prog ((AM os).forCall (fun _ _=>0) ⟨#[],#[.slice none 0 0],[]⟩).memory Tryz.f6.params.toList Rows.topOwnSpec.vars false #[.slice none 0 0].toList 8=some ([.nil],[],places):=
 ⟨[],kq⟩
set_option maxRecDepth 100000 in
def Fc(os:Os)(started:os.Started)(H:Type)(enc:TypeId×Value->H)(F:Stop.Interp):ReturnsInHanded {} Tryz.checked os 6 .any ((OpenSpec.ofChange Rows.topOwnSpec).preRow enc Tryz.prog Tryz.f6 Rows.topOwnRow.domain false Rows.topOwnRow.laid) (((OpenSpec.ofChange Rows.topOwnSpec).at F).post enc Tryz.prog Tryz.f6 false true false false):=by
 obtain⟨places,hx⟩:=agG os enc;refine returnsInHanded_of_row (C:=Tryz.checked) (s:=OpenSpec.ofChange Rows.topOwnSpec) aX started kq Tryz.func6
  (witness_row_at (enc:=enc) (C:=Tryz.checked) false (AM os) #[.slice none 0 0] rfl kq kq kq
   (OpenSpec.preRow_of_cond 8 hx kq (fun k hk=>by cases hk) kq (W8 os))) ?_
 intro W base args ds gs before aal hW _ _ _ hL _ _;exact BQ H enc W base args ds gs before aal hW hL
def Lp:Rows.TopOwnSaid:=
 OpenClaim.holds_of_cond 6 Tryz.f6 rfl rfl rfl rfl rfl rfl rfl ⟨rfl,rfl,rfl,rfl,rfl⟩ rfl rfl rfl rfl rfl kq Tryz.func6 abT
  (of_decide_eq_true kq) (by unfold Func.isWrapper;first | (rw[if_pos dk];kernel_rfl) | (rw[if_neg dk];exact⟨rfl,rfl⟩))
  (fun os started H enc _ F=>by rw[OpenClaim.pre_eq_preRow];exact Fc os started H enc F)
def Lq(f:FuncId)(fn:Func)(hf:Tryz.pinned.checked.prog.funcNamed "wardroom/wardroomtop.TopOwn" =some f)(hfn:Tryz.pinned.checked.prog.funcs[f]? =some fn):true=Tryz.pinned.checked.prog.looks []/\∀ (j:Nat) t,fn.params[j]? =some t->Tryz.pinned.checked.prog.wantsStandIn t=false:=by
 obtain rfl:f=6:=Option.some.inj ((show Tryz.prog.funcNamed "wardroom/wardroomtop.TopOwn" =some 6 by kernel_rfl).symm.trans hf) |>.symm;obtain rfl:fn=Tryz.f6:=(Option.some.inj (Tryz.func6.symm.trans hfn)).symm;refine⟨kq,fun j t ht=> ?_⟩;rw[Tryz.params6]at ht;have q:t=22:=by simpa using Array.mem_of_getElem? ht
 subst q;exact(show Tryz.prog.wantsStandIn 22=false by kernel_rfl)
theorem topOwn_card:Rows.TopOwnCardSaid:=
 Claim7.holds_tied_plain_at .later [] _ _ _ _ Lp (fun _ h=>by cases h) kq (fun _ h=>by cases h) topOwn_row_tie rfl ⟨rfl,rfl⟩ kq rfl Lq kq
#print axioms topOwn_card
end Go.Proofs.YthdinakloheinaaGreatDoor
