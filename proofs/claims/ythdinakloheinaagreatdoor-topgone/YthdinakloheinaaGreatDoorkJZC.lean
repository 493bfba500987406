import Derived.Stop.LaidErr
import Derived.Test.YthdinakloheinaaGreatDoorkJZ4
set_option linter.all false
open Go.Proofs.Tryz
/- All that was taken is given back at the end. -/
namespace Go.Proofs.YthdinakloheinaaGreatDoor
open Go Go.ChangeShapes Go.WideShapes Go.ChangeAt Go.RowKit Go.Deep Go.X Go.X.Kn
variable{W:World}
theorem aU:ownKnob Tryz.prog.godebug=none:=kq
def U7{H:Type}{enc:TypeId×Value->H}{base:Nat}{spare:Nat->Bool}{bu:Bool}{fuel:Nat}{cs:List Value}{x:DataW H×List MemPlace}(h:DataW.trod enc Tryz.prog W base spare bu fuel 22 cs=some x):cs=[.slice none 0 0]\/∃ (a:Addr) (len cap:Nat),cs=[.slice (some a) len cap]/\len<=cap/\∀ i,i<len->∃ x:jA,x.ok/\∀ j,j<8->W.cell? (a.add (i*8+j))=some (gM x j):=by
 rcases zz underlying22 underlying31 kq kq h with⟨h0,_⟩ | ⟨a,len,cap,m,D,Pl,Dq,_,hl,_,hm,_,hi⟩
 ·exact .inl h0
 ·refine .inr ⟨a,len,cap,Dq,hl,fun i hil=> ?_⟩;have him:i<m:=by rw[hm];split<;>omega
  obtain⟨ys,n,_,_,_,hf⟩:=hi i him;obtain⟨v0,y0,c0,_,t0⟩:=hf 0 _ rfl;obtain⟨v1,y1,c1,_,t1⟩:=hf 1 _ rfl;obtain⟨v2,y2,c2,_,t2⟩:=hf 2 _ rfl;obtain⟨v3,y3,c3,_,t3⟩:=hf 3 _ rfl;obtain⟨v4,y4,c4,_,t4⟩:=hf 4 _ rfl;obtain⟨v5,y5,c5,_,t5⟩:=hf 5 _ rfl;obtain⟨v6,y6,c6,_,t6⟩:=hf 6 _ rfl;obtain⟨v7,y7,c7,_,t7⟩:=hf 7 _ rfl;obtain⟨s0,e0,_,z0⟩:=DataW.trod_string underlying9 t0;obtain⟨n1,e1,_,z1⟩:=DataW.trod_int underlying3 t1;obtain⟨n2,e2,_,z2⟩:=DataW.trod_int underlying3 t2;obtain⟨n3,e3,_,z3⟩:=DataW.trod_int underlying3 t3;obtain⟨n4,e4,_,z4⟩:=DataW.trod_int underlying29 t4;obtain⟨b5,e5,_⟩:=DataW.trod_bool underlying4 t5;obtain⟨s6,e6,_,z6⟩:=DataW.trod_string underlying9 t6;obtain⟨s7,e7,_,z7⟩:=DataW.trod_string underlying9 t7;simp only[List.cons.injEq,and_true]at e0 e1 e2 e3 e4 e5 e6 e7;subst e0;subst e1;subst e2;subst e3;subst e4;subst e5;subst e6;subst e7;refine⟨⟨s0,n1,n2,n3,n4,b5,s6,s7⟩,⟨N8 z1,N8 z2,N8 z3,aeJ z4,z6,z7,z0⟩,fun j hj=> ?_⟩;match j,hj with
  | 0,_=>exact c0
  | 1,_=>exact c1
  | 2,_=>exact c2
  | 3,_=>exact c3
  | 4,_=>exact c4
  | 5,_=>exact c5
  | 6,_=>exact c6
  | 7,_=>exact c7
  | k+8,h=>exact absurd h og
def ajK:Tryz.prog.globalNamed "math/bits.deBruijn32tab" =some 0:=kq
def ZQ:(Tryz.prog.globals[0]?).map (·.type)=some 256:=kq
def ahh:Tryz.prog.cellsOf 256=32:=kq
def ahi:Tryz.prog.cellsOf 5=1:=kq
def ajL(h:laidMetH Tryz.prog Rows.topGoneRow.laid W):Lib.TabIs Tryz.prog W "math/bits.deBruijn32tab" .u8 [0,1,28,2,29,14,24,3,30,22,20,15,25,17,4,8,31,27,13,23,21,19,16,7,26,12,18,6,11,5,10,9]:=
 Lib.tabIs_of_head ajK ZQ underlying256 underlying5 ahi ahh h
def zi(h:laidMetH Tryz.prog Rows.topGoneRow.laid W):(aG.ro 0 0 32 Go.X.Sg.cZ).holds W:=
 vf (a:=⟨0,0,none⟩) dq (fun i hi=>by
  have:=(ajL h).cell ajK i (by simpa using hi)
  have e:(Addr.add ⟨0,0,none⟩ i)=⟨0,i,none⟩:=by
   cases i with
   | zero=>rfl
   | succ i=>simp[Addr.add]
  rw[e,this];rfl)
def pS{e:aG}{H:List aG}{w:World}(he:e.holds w)(hw:e.wr=false)(hH:∀ x∈H,x.wr=false)(h:X.Good H w):X.Good (e::H) w:=by
 refine And.intro (fun x hx=> ?_) (List.pairwise_cons.2 (And.intro (fun x hx hb=> ?_) h.2))
 ·cases List.mem_cons.1 hx with
  | inl q=>rw[q];exact he
  | inr q=>exact h.1 x q
 ·rw[hw,hH x hx]at hb;cases hb
def aeh:Tryz.prog.globalNamed "math/bits.deBruijn64tab" =some 1:=kq
def U8:(Tryz.prog.globals[1]?).map (·.type)=some 299:=kq
def ada:Tryz.prog.cellsOf 299=64:=kq
def adb:Tryz.prog.cellsOf 5=1:=kq
def ahj(h:laidMetH Tryz.prog Rows.topGoneRow.laid W):Lib.TabIs Tryz.prog W "math/bits.deBruijn64tab" .u8 [0,1,56,2,57,49,28,3,61,58,42,50,38,29,17,4,62,47,59,36,45,43,51,22,53,39,33,30,24,18,12,5,63,55,48,27,60,41,37,16,46,35,44,21,52,32,23,11,54,26,40,15,34,20,31,10,25,14,19,9,13,8,7,6]:=
 Lib.tabIs_of_head aeh U8 underlying299 underlying5 adb ada (laidMet.tail h)
def wx(h:laidMetH Tryz.prog Rows.topGoneRow.laid W):(aG.ro 1 0 64 Go.X.Vm.eX).holds W:=
 vf (a:=⟨1,0,none⟩) dq (fun i hi=>by
  have:=(ahj h).cell aeh i (by simpa using hi)
  have e:(Addr.add ⟨1,0,none⟩ i)=⟨1,i,none⟩:=by
   cases i with
   | zero=>rfl
   | succ i=>simp[Addr.add]
  rw[e,this];rfl)
def ro2{e1 e2:aG}(h1:e1.wr=false)(h2:e2.wr=false):∀ x∈[e1,e2],x.wr=false:=fun x hx=>by
 rcases List.mem_cons.1 hx with q | q
 ·rw[q];exact h1
 ·rw[List.mem_singleton.1 q];exact h2
set_option maxRecDepth 100000 in
def Cq(H:Type)(enc:TypeId×Value->H)(W:World)(base:Nat)(args:Array Value)(ds gs:List (DataW H))(before:List MemPlace)(ade:∀ (j:Nat) t v,Tryz.f11.params[j]? =some t->args[j]? =some v->Value.okWide Tryz.prog W .any base t v)(hW:DataW.Whole enc Tryz.prog Tryz.f11.params.toList Rows.topGoneSpec.vars false W args.toList ds gs before)(hL:laidMetH Tryz.prog Rows.topGoneRow.laid W):Calls Tryz.prog 11 args W fun e W'=>∃ v,e= .returned v/\Rows.topGoneSpec.post enc Tryz.prog Tryz.f11 false true false false W args v W':=by
 have hW':=hW;obtain⟨p,q,hA0,hV,rfl,hfz,hnd⟩:=hW;have hA:DataW.TrodAll enc Tryz.prog W 0 (fun _=>true) true Tryz.f11.params.toList args.toList ds p:=hA0;rw[Tryz.params11]at hA ade;obtain⟨v0,d0,rfl,rfl,h0⟩:=trodAll_one hA;obtain⟨rfl,rfl⟩:=trodVars_none hV;obtain⟨p0,len,cap,rfl⟩:=okWide_slice underlying22 (ade 0 22 v0 rfl rfl);clear hA0;simp only[List.append_nil]at hW';have sW:∀ x∈p,x.block<W.heap.size:=fun x hx=>hW'.lt x hx;have fin:Calls Tryz.prog 11 #[.slice p0 len cap] W fun e w'=>e= .returned (.bool true)/\Below W.heap.size W w':=by
  obtain⟨fuel,hf⟩:=h0;rcases U7 hf with Dq | ⟨a,ap7,dv,Dq,hl,hi⟩
  ·simp[Value.cells]at Dq;obtain⟨rfl,rfl,rfl⟩:=Dq;exact rj ZP (by simp[aG.wr]) (w:=W) (pS (zi hL) rfl (by intro x hx;obtain rfl:=List.mem_singleton.1 hx;rfl) (pS (wx hL) rfl (fun _ hx=>nomatch hx) ⟨fun _ hx=>(nomatch hx),.nil⟩))
  ·simp[Value.cells]at Dq;obtain⟨rfl,rfl,rfl⟩:=Dq;by_cases hz:0<len
   ·obtain⟨AA,uX,hg⟩:=aaL hz hi;have ha:a=⟨a.block,a.off,none⟩\/True:=.inr trivial;obtain⟨x0,_,q8⟩:=hi 0 hz;have DI:=q8 0 og;have hsp:a.spot=none:=aaK DI;have:a=⟨a.block,a.off,none⟩:=by cases a;simp_all
    rw[this];exact rj (U6 a.block a.off len cap hl AA uX) (by simp[aG.wr]) (pS (zi hL) rfl (ro2 rfl rfl) (pS (wx hL) rfl (by intro x hx;obtain rfl:=List.mem_singleton.1 hx;rfl) hg))
   ·obtain rfl:len=0:=og;exact rj (IV (some a) cap) (by simp[aG.wr]) (w:=W) (pS (zi hL) rfl (by intro x hx;obtain rfl:=List.mem_singleton.1 hx;rfl) (pS (wx hL) rfl (fun _ hx=>nomatch hx) ⟨fun _ hx=>(nomatch hx),.nil⟩))
 refine fin.mono fun e W' ⟨he,hb⟩=> ?_;subst he;exact⟨_,rfl,Gt (pa:=p) (pv:=[]) hW' (fun _ _ _=>trodAll_mk1 (shut_bool underlying4 _))
  (fun sp hsp=>trodAll_mk1 (WideElems.Trod_stays kq kq (of_decide_eq_true kq) h0 (fun x hx=>hb.same (sW x hx)) fun x hx=>hsp x hx))
  (fun _ _=>rfl) sq hb (ok_one kq rfl (okWide_bool_mk underlying4 _))⟩
noncomputable def Cr (os:Os):World:=
 {World.holding Tryz.prog os ⟨#[],#[],[]⟩with heap:=(((((World.holding Tryz.prog os ⟨#[],#[],[]⟩).heap.modify 0 fun
   | .cells _ t frozen=>.cells ⟨[0,1,28,2,29,14,24,3,30,22,20,15,25,17,4,8,31,27,13,23,21,19,16,7,26,12,18,6,11,5,10,9].map (.int .u8)⟩ t frozen
   | o=>o).modify 1 fun
   | .cells _ t frozen=>.cells ⟨[0,1,56,2,57,49,28,3,61,58,42,50,38,29,17,4,62,47,59,36,45,43,51,22,53,39,33,30,24,18,12,5,63,55,48,27,60,41,37,16,46,35,44,21,52,32,23,11,54,26,40,15,34,20,31,10,25,14,19,9,13,8,7,6].map (.int .u8)⟩ t frozen
   | o=>o).modify 3 fun
   | .cells _ t frozen=>.cells ⟨((List.replicate 128 240++List.replicate 66 241++List.replicate 30 2++[19,3,3,3,3,3,3,3,3,3,3,3,3,35,3,3,52,4,4,4,68,241,241,241,241,241,241,241,241,241,241,241]):List Int).map (.int .u8)⟩ t frozen
   | o=>o).modify 4 fun
   | .cells _ t frozen=>.cells ⟨(([128,191,160,191,128,159,144,191,128,143]++List.replicate 22 0):List Int).map (.int .u8)⟩ t frozen
   | o=>o)}
def ZR(os:Os):laidMet Tryz.prog Rows.topGoneRow.laid ((Cr os).forCall (fun _ _=>0) ⟨#[],#[.slice none 0 0],[]⟩).memory:=
 laidMet_of_run' 272 kq kq
def ajM(os:Os){H:Type}(enc:TypeId×Value->H):∃ places,DataW.whole enc Tryz.prog ((Cr os).forCall (fun _ _=>0) ⟨#[],#[.slice none 0 0],[]⟩).memory Tryz.f11.params.toList Rows.topGoneSpec.vars false #[.slice none 0 0].toList 8=some ([.nil],[],places):=
 ⟨[],kq⟩
set_option maxRecDepth 100000 in
def Gd(os:Os)(started:os.Started)(H:Type)(enc:TypeId×Value->H)(F:Stop.Interp):ReturnsInHanded {} Tryz.checked os 11 .any ((OpenSpec.ofChange Rows.topGoneSpec).preRow enc Tryz.prog Tryz.f11 Rows.topGoneRow.domain false Rows.topGoneRow.laid) (((OpenSpec.ofChange Rows.topGoneSpec).at F).post enc Tryz.prog Tryz.f11 false true false false):=by
 obtain⟨places,hx⟩:=ajM os enc;refine returnsInHanded_of_row (C:=Tryz.checked) (s:=OpenSpec.ofChange Rows.topGoneSpec) aU started kq func11
  (witness_row_at (enc:=enc) (C:=Tryz.checked) false (Cr os) #[.slice none 0 0] rfl kq kq kq
   (OpenSpec.preRow_of_cond 8 hx kq (fun k hk=>by cases hk) kq (ZR os))) ?_
 intro W base args ds gs before ade hW _ _ _ hL _ _;exact Cq H enc W base args ds gs before ade hW hL
def Kz:Rows.TopGoneSaid:=
 OpenClaim.holds_of_cond 11 Tryz.f11 rfl rfl rfl rfl rfl rfl rfl ⟨rfl,rfl,rfl,rfl,rfl⟩ rfl rfl rfl rfl rfl kq func11 aeT
  (of_decide_eq_true kq) (by unfold Func.isWrapper;first | (rw[if_pos dk];kernel_rfl) | (rw[if_neg dk];exact⟨rfl,rfl⟩))
  (fun os started H enc _ F=>by rw[OpenClaim.pre_eq_preRow];exact Gd os started H enc F)
def KD(f:FuncId)(fn:Func)(hf:Tryz.pinned.checked.prog.funcNamed "wardroom/wardroomtop.TopGone" =some f)(hfn:Tryz.pinned.checked.prog.funcs[f]? =some fn):true=Tryz.pinned.checked.prog.looks []/\∀ (j:Nat) t,fn.params[j]? =some t->Tryz.pinned.checked.prog.wantsStandIn t=false:=by
 obtain rfl:f=11:=Option.some.inj ((show Tryz.prog.funcNamed "wardroom/wardroomtop.TopGone" =some 11 by kernel_rfl).symm.trans hf) |>.symm;obtain rfl:fn=Tryz.f11:=(Option.some.inj (func11.symm.trans hfn)).symm;refine⟨kq,fun j t ht=> ?_⟩;rw[Tryz.params11]at ht;have q:t=22:=by simpa using Array.mem_of_getElem? ht
 subst q;exact(show Tryz.prog.wantsStandIn 22=false by kernel_rfl)
theorem topGone_card:Rows.TopGoneCardSaid:=
 Claim7.holds_tied_plain_at .later [] _ _ _ _ Kz (fun _ h=>by cases h) kq (fun _ h=>by cases h) topGone_row_tie rfl ⟨rfl,rfl⟩ kq rfl KD kq
#print axioms topGone_card
end Go.Proofs.YthdinakloheinaaGreatDoor
