/- Bytes of one pipe come to whoever reads them, one behind the other in time, as they were written, whoever has it from a parent; for every list of acts. -/
import Derived.Test.YthdinakloheinaaGreatDoorCards
import Derived.Test.YthdinakloheinaaGreatDoorTie
import Derived.WalkKit
import Derived.Deep.DeepHandedRow
import Derived.Lib.LaidTab
import Derived.Test.YthdinakloheinaaGreatDoorkTM
import Derived.Test.YthdinakloheinaaGreatDoorkJL2
namespace Go.Proofs.YthdinakloheinaaGreatDoor
open Go Go.ChangeShapes Go.WideShapes Go.ChangeAt Go.RowKit Go.Deep Go.X Go.X.Kn
theorem own:ownKnob Tryz.prog.godebug=none:=by kernel_rfl
theorem laidOut:laidOutB Tryz.prog=true:=by kernel_rfl
theorem Ct{H:Type}{enc:TypeId×Value→H}{W:World}{base:Nat}{spare:Nat→Bool}{held:Bool}{fuel:Nat}{cs:List Value}{x:DataW H×List MemPlace}(h:DataW.trod enc Tryz.prog W base spare held fuel 22 cs=some x):cs=[.slice none 0 0]∨∃ (a:Addr) (len cap:Nat),cs=[.slice (some a) len cap]∧len≤cap∧∀ i,i<len→∃ x:iZ,x.ok∧∀ j,j<8→W.cell? (a.add (i*8+j))=some (bQ x j):=by
 rcases ns Tryz.underlying22 Tryz.underlying31 (by kernel_rfl) (by kernel_rfl) h with⟨h0,_⟩ | ⟨a,len,cap,m,D,Pl,hcs,_,hl,_,hm,_,hi⟩
 ·exact .inl h0
 ·refine .inr ⟨a,len,cap,hcs,hl,fun i hil=> ?_⟩
  have him:i<m:=by rw[hm];split<;>omega
  obtain⟨ys,n,_,_,_,hf⟩:=hi i him
  obtain⟨v0,y0,c0,_,t0⟩:=hf 0 _ rfl
  obtain⟨v1,y1,c1,_,t1⟩:=hf 1 _ rfl
  obtain⟨v2,y2,c2,_,t2⟩:=hf 2 _ rfl
  obtain⟨v3,y3,c3,_,t3⟩:=hf 3 _ rfl
  obtain⟨v4,y4,c4,_,t4⟩:=hf 4 _ rfl
  obtain⟨v5,y5,c5,_,t5⟩:=hf 5 _ rfl
  obtain⟨v6,y6,c6,_,t6⟩:=hf 6 _ rfl
  obtain⟨v7,y7,c7,_,t7⟩:=hf 7 _ rfl
  obtain⟨s0,e0,_,z0⟩:=DataW.trod_string Tryz.underlying9 t0
  obtain⟨n1,e1,_,z1⟩:=DataW.trod_int Tryz.underlying3 t1
  obtain⟨n2,e2,_,z2⟩:=DataW.trod_int Tryz.underlying3 t2
  obtain⟨n3,e3,_,z3⟩:=DataW.trod_int Tryz.underlying3 t3
  obtain⟨n4,e4,_,z4⟩:=DataW.trod_int Tryz.underlying29 t4
  obtain⟨b5,e5,_⟩:=DataW.trod_bool Tryz.underlying4 t5
  obtain⟨s6,e6,_,z6⟩:=DataW.trod_string Tryz.underlying9 t6
  obtain⟨s7,e7,_,z7⟩:=DataW.trod_string Tryz.underlying9 t7
  simp only[List.cons.injEq,and_true]at e0 e1 e2 e3 e4 e5 e6 e7
  subst e0;subst e1;subst e2;subst e3;subst e4;subst e5;subst e6;subst e7
  refine⟨⟨s0,n1,n2,n3,n4,b5,s6,s7⟩,⟨wf_i64 z1,wf_i64 z2,wf_i64 z3,wf_u64 z4,z6,z7,z0⟩,fun j hj=> ?_⟩
  match j,hj with
  | 0,_=>exact c0
  | 1,_=>exact c1
  | 2,_=>exact c2
  | 3,_=>exact c3
  | 4,_=>exact c4
  | 5,_=>exact c5
  | 6,_=>exact c6
  | 7,_=>exact c7
  | k+8,h=>exact absurd h (by omega)
theorem Mq:Tryz.prog.globalNamed "math/bits.deBruijn32tab" =some 0:=by kernel_rfl
theorem DV:(Tryz.prog.globals[0]?).map (·.type)=some 256:=by kernel_rfl
theorem Kh:Tryz.prog.cellsOf 256=32:=by kernel_rfl
theorem KF:Tryz.prog.cellsOf 5=1:=by kernel_rfl
theorem table{W:World}(h:laidMetH Tryz.prog Rows.topTalkRow.laid W):Lib.TabIs Tryz.prog W "math/bits.deBruijn32tab" .u8 [0,1,28,2,29,14,24,3,30,22,20,15,25,17,4,8,31,27,13,23,21,19,16,7,26,12,18,6,11,5,10,9]:=
 Lib.tabIs_of_head (rest:=[]) Mq DV Tryz.underlying256 Tryz.underlying5 KF Kh h
theorem mA{W:World}(h:laidMetH Tryz.prog Rows.topTalkRow.laid W):(ax.ro 0 0 32 Go.X.Sg.cX).holds W:=
 pI (a:=⟨0,0,none⟩) (by decide) (fun i hi=>by
  have:=(table h).cell Mq i (by simpa using hi)
  have e:(Addr.add ⟨0,0,none⟩ i)=⟨0,i,none⟩:=by
   cases i with
   | zero=>rfl
   | succ i=>simp[Addr.add]
  rw[e,this];rfl)
theorem oN{e:ax}{H:List ax}{w:World}(he:e.holds w)(hw:e.wr=false)(hH:∀ x∈H,x.wr=false)(h:X.Good H w):X.Good (e::H) w:=by
 refine And.intro (fun x hx=> ?_) (List.pairwise_cons.2 (And.intro (fun x hx hb=> ?_) h.2))
 ·cases List.mem_cons.1 hx with
  | inl q=>rw[q];exact he
  | inr q=>exact h.1 x q
 ·rw[hw,hH x hx]at hb;cases hb
set_option maxRecDepth 100000 in
theorem oT(H:Type)(enc:TypeId×Value→H)(W:World)(base:Nat)(args:Array Value)(ds gs:List (DataW H))(before:List MemPlace)(hval:∀ (j:Nat) t v,Tryz.f4.params[j]? =some t→args[j]? =some v→Value.okWide Tryz.prog W .any base t v)(hW:DataW.Whole enc Tryz.prog Tryz.f4.params.toList Rows.topTalkSpec.vars false W args.toList ds gs before)(hL:laidMetH Tryz.prog Rows.topTalkRow.laid W):Calls Tryz.prog 4 args W fun e W'=>∃ v,e= .returned v∧Rows.topTalkSpec.post enc Tryz.prog Tryz.f4 false true false false W args v W':=by
 have hW':=hW
 obtain⟨p,q,hA0,hV,rfl,hfz,hnd⟩:=hW
 have hA:DataW.TrodAll enc Tryz.prog W 0 (fun _=>true) true Tryz.f4.params.toList args.toList ds p:=hA0
 rw[Tryz.params4]at hA hval
 obtain⟨v0,d0,rfl,rfl,h0⟩:=trodAll_one hA
 obtain⟨rfl,rfl⟩:=trodVars_none hV
 obtain⟨p0,len,cap,rfl⟩:=okWide_slice Tryz.underlying22 (hval 0 22 v0 rfl rfl)
 clear hA0
 simp only[List.append_nil]at hW'
 have hlt:∀ x∈p,x.block<W.heap.size:=fun x hx=>hW'.lt x hx
 have fin:Calls Tryz.prog 4 #[.slice p0 len cap] W fun e w'=>e= .returned (.bool true)∧Below W.heap.size W w':=by
  obtain⟨fuel,hf⟩:=h0
  rcases Ct hf with hcs | ⟨a,len',cap',hcs,hl,hi⟩
  ·simp[Value.cells]at hcs
   obtain⟨rfl,rfl,rfl⟩:=hcs
   exact jt Gt (by simp[ax.wr]) (w:=W) (oN (mA hL) rfl (fun _ hx=>nomatch hx) ⟨fun _ hx=>(nomatch hx),.nil⟩)
  ·simp[Value.cells]at hcs
   obtain⟨rfl,rfl,rfl⟩:=hcs
   by_cases hz:0<len
   ·obtain⟨AA,hok,hg⟩:=I1 hz hi
    have ha:a=⟨a.block,a.off,none⟩∨True:=.inr trivial
    obtain⟨x0,_,hx0⟩:=hi 0 hz
    have hc0:=hx0 0 (by omega)
    have hsp:a.spot=none:=HR hc0
    have:a=⟨a.block,a.off,none⟩:=by cases a;simp_all
    rw[this]
    exact jt (B6 a.block a.off len cap hl AA hok) (by simp[ax.wr]) (oN (mA hL) rfl (by intro x hx;obtain rfl:=List.mem_singleton.1 hx;rfl) hg)
   ·obtain rfl:len=0:=by omega
    exact jt (ua (some a) cap) (by simp[ax.wr]) (w:=W) (oN (mA hL) rfl (fun _ hx=>nomatch hx) ⟨fun _ hx=>(nomatch hx),.nil⟩)
 refine fin.mono fun e W' ⟨he,hb⟩=> ?_
 subst he
 exact⟨_,rfl,sL (pa:=p) (pv:=[]) hW' (fun _ _ _=>trodAll_mk1 (shut_bool Tryz.underlying4 _))
  (fun sp hsp=>trodAll_mk1 (WideElems.Trod_stays laidOut (by kernel_rfl) (of_decide_eq_true (by kernel_rfl)) h0 (fun x hx=>hb.same (hlt x hx)) (fun x hx=>hsp x hx)))
  (fun _ _=>rfl) (by simp) hb (ok_one (by kernel_rfl) rfl (okWide_bool_mk Tryz.underlying4 _))⟩
noncomputable def oy (os:Os):World:=
 {World.holding Tryz.prog os ⟨#[],#[],[]⟩with heap:=(World.holding Tryz.prog os ⟨#[],#[],[]⟩).heap.modify 0 fun
   | .cells _ t frozen=>.cells #[.int .u8 0,.int .u8 1,.int .u8 28,.int .u8 2,.int .u8 29,.int .u8 14,.int .u8 24,.int .u8 3,.int .u8 30,.int .u8 22,.int .u8 20,.int .u8 15,.int .u8 25,.int .u8 17,.int .u8 4,.int .u8 8,.int .u8 31,.int .u8 27,.int .u8 13,.int .u8 23,.int .u8 21,.int .u8 19,.int .u8 16,.int .u8 7,.int .u8 26,.int .u8 12,.int .u8 18,.int .u8 6,.int .u8 11,.int .u8 5,.int .u8 10,.int .u8 9] t frozen
   | o=>o}
theorem DR(os:Os):laidMet Tryz.prog Rows.topTalkRow.laid ((oy os).forCall (fun _ _=>0) ⟨#[],#[.slice none 0 0],[]⟩).memory:=
 laidMet_of_run' 40 (by kernel_rfl) (by kernel_rfl)
theorem reads(os:Os){H:Type}(enc:TypeId×Value→H):∃ places,DataW.whole enc Tryz.prog ((oy os).forCall (fun _ _=>0) ⟨#[],#[.slice none 0 0],[]⟩).memory Tryz.f4.params.toList Rows.topTalkSpec.vars false #[Value.slice none 0 0].toList 8=some ([.nil],[],places):=
 ⟨[],by kernel_rfl⟩
set_option maxRecDepth 100000 in
theorem rL(os:Os)(started:os.Started)(H:Type)(enc:TypeId×Value→H)(F:Stop.Interp):ReturnsInHanded {} Tryz.checked os 4 .any ((OpenSpec.ofChange Rows.topTalkSpec).preRow enc Tryz.prog Tryz.f4 Rows.topTalkRow.domain false Rows.topTalkRow.laid) (((OpenSpec.ofChange Rows.topTalkSpec).at F).post enc Tryz.prog Tryz.f4 false true false false):=by
 obtain⟨places,hx⟩:=reads os enc
 refine returnsInHanded_of_row (C:=Tryz.checked) (s:=OpenSpec.ofChange Rows.topTalkSpec) own started (by kernel_rfl) Tryz.func4
  (witness_row_at (enc:=enc) (C:=Tryz.checked) false (oy os) #[.slice none 0 0] rfl (by kernel_rfl) (by kernel_rfl) (by kernel_rfl)
   (OpenSpec.preRow_of_cond 8 hx (by kernel_rfl) (fun k hk=>by cases hk) (by kernel_rfl) (DR os))) ?_
 intro W base args ds gs before hval hW _ _ _ hL _ _
 exact oT H enc W base args ds gs before hval hW hL
theorem uK:Rows.TopTalkSaid:=
 OpenClaim.holds_of_cond 4 Tryz.f4 rfl rfl rfl rfl rfl rfl rfl ⟨rfl,rfl,rfl,rfl,rfl⟩ rfl rfl rfl rfl rfl (by kernel_rfl) Tryz.func4 (by kernel_rfl)
  (of_decide_eq_true (by kernel_rfl)) (by unfold Func.isWrapper;first | (rw[if_pos (by decide+kernel)];kernel_rfl) | (rw[if_neg (by decide+kernel)];exact⟨rfl,rfl⟩))
  (fun os started H enc _ F=>by rw[OpenClaim.pre_eq_preRow];exact rL os started H enc F)
theorem u5(f:FuncId)(fn:Func)(hf:Tryz.pinned.checked.prog.funcNamed "wardroom/wardroomtop.TopTalk" =some f)(hfn:Tryz.pinned.checked.prog.funcs[f]? =some fn):true=Tryz.pinned.checked.prog.looks []∧∀ (j:Nat) t,fn.params[j]? =some t→Tryz.pinned.checked.prog.wantsStandIn t=false:=by
 obtain rfl:f=4:=Option.some.inj ((show Tryz.prog.funcNamed "wardroom/wardroomtop.TopTalk" =some 4 by kernel_rfl).symm.trans hf) |>.symm
 obtain rfl:fn=Tryz.f4:=(Option.some.inj (Tryz.func4.symm.trans hfn)).symm
 refine⟨by kernel_rfl,fun j t ht=> ?_⟩
 rw[Tryz.params4]at ht
 obtain rfl:t=22:=by simpa using Array.mem_of_getElem? ht
 exact(show Tryz.prog.wantsStandIn 22=false by kernel_rfl)
theorem topTalk_card:Rows.TopTalkCardSaid:=
 Claim7.holds_tied_plain_at .later [] _ _ _ _ uK (fun _ h=>by cases h) (by kernel_rfl) (fun _ h=>by cases h) topTalk_row_tie rfl ⟨rfl,rfl⟩ (by kernel_rfl) rfl u5 (by kernel_rfl)
#print axioms topTalk_card
end Go.Proofs.YthdinakloheinaaGreatDoor
