/- Who writes where nobody reads any more is told so, and ends by it, unless it ignores, catches or holds it back; for every way, every hold and every number of readers. -/
import Derived.Test.YthdinakloheinaaGreatDoorCards
import Derived.Test.YthdinakloheinaaGreatDoorTie
import Derived.WalkKit
import Derived.Deep.DeepHandedRow
import Derived.Lib.LaidTab
import Derived.Test.YthdinakloheinaaGreatDoorXClose
import Derived.Test.YthdinakloheinaaGreatDoorkJM1
namespace Go.Proofs.YthdinakloheinaaGreatDoor
open Go Go.ChangeShapes Go.WideShapes Go.ChangeAt Go.RowKit Go.Deep Go.X Go.X.Kn
theorem own:ownKnob Tryz.prog.godebug=none:=by kernel_rfl
theorem laidOut:laidOutB Tryz.prog=true:=by kernel_rfl
theorem HT(w:World):X.Good [] w:=⟨fun _ hx=>(nomatch hx),.nil⟩
theorem Nq:Tryz.prog.globalNamed "math/bits.deBruijn32tab" =some 0:=by kernel_rfl
theorem ES:(Tryz.prog.globals[0]?).map (·.type)=some 256:=by kernel_rfl
theorem LQ:Tryz.prog.cellsOf 256=32:=by kernel_rfl
theorem Ki:Tryz.prog.cellsOf 5=1:=by kernel_rfl
theorem table{W:World}(h:laidMetH Tryz.prog Rows.topBrokenRow.laid W):Lib.TabIs Tryz.prog W "math/bits.deBruijn32tab" .u8 [0,1,28,2,29,14,24,3,30,22,20,15,25,17,4,8,31,27,13,23,21,19,16,7,26,12,18,6,11,5,10,9]:=
 Lib.tabIs_of_head (rest:=[]) Nq ES Tryz.underlying256 Tryz.underlying5 Ki LQ h
theorem y4{W:World}(h:laidMetH Tryz.prog Rows.topBrokenRow.laid W):(ax.ro 0 0 32 Go.X.Sg.b6).holds W:=
 xU (a:=⟨0,0,none⟩) (by decide) (fun i hi=>by
  have:=(table h).cell Nq i (by simpa using hi)
  have e:(Addr.add ⟨0,0,none⟩ i)=⟨0,i,none⟩:=by
   cases i with
   | zero=>rfl
   | succ i=>simp[Addr.add]
  rw[e,this];rfl)
theorem Cq{e:ax}{H:List ax}{w:World}(he:e.holds w)(hw:e.wr=false)(hH:∀ x∈H,x.wr=false)(h:X.Good H w):X.Good (e::H) w:=by
 refine And.intro (fun x hx=> ?_) (List.pairwise_cons.2 (And.intro (fun x hx hb=> ?_) h.2))
 ·cases List.mem_cons.1 hx with
  | inl q=>rw[q];exact he
  | inr q=>exact h.1 x q
 ·rw[hw,hH x hx]at hb;cases hb
set_option maxRecDepth 100000 in
theorem mS(H:Type)(enc:TypeId×Value→H)(W:World)(base:Nat)(args:Array Value)(ds gs:List (DataW H))(before:List MemPlace)(hval:∀ (j:Nat) t v,Tryz.f5.params[j]? =some t→args[j]? =some v→Value.okWide Tryz.prog W .any base t v)(hW:DataW.Whole enc Tryz.prog Tryz.f5.params.toList Rows.topBrokenSpec.vars false W args.toList ds gs before)(hL:laidMetH Tryz.prog Rows.topBrokenRow.laid W):Calls Tryz.prog 5 args W fun e W'=>∃ v,e= .returned v∧Rows.topBrokenSpec.post enc Tryz.prog Tryz.f5 false true false false W args v W':=by
 have hW':=hW
 obtain⟨p,q,hA0,hV,rfl,hfz,hnd⟩:=hW
 have hA:DataW.TrodAll enc Tryz.prog W 0 (fun _=>true) true Tryz.f5.params.toList args.toList ds p:=hA0
 rw[Tryz.params5]at hA hval
 obtain⟨v0,v1,v2,d0,d1,d2,pp0,pp1,pp2,rfl,rfl,rfl,h0,h1,h2⟩:=trodAll_three hA
 obtain⟨rfl,rfl⟩:=trodVars_none hV
 obtain⟨z0,rfl⟩:=okWide_int Tryz.underlying3 (hval 0 3 v0 rfl rfl)
 obtain⟨z1,rfl⟩:=okWide_bool Tryz.underlying4 (hval 1 4 v1 rfl rfl)
 obtain⟨z2,rfl⟩:=okWide_int Tryz.underlying3 (hval 2 3 v2 rfl rfl)
 clear hA0
 simp only[List.append_nil,List.append_assoc]at hW'
 have hlt:∀ x∈pp0++(pp1++(pp2)),x.block<W.heap.size:=fun x hx=>hW'.lt x hx
 have fin:Calls Tryz.prog 5 #[.int .i64 z0,.bool z1,.int .i64 z2] W fun e w'=>e= .returned (.bool true)∧Below W.heap.size W w':=by
  obtain⟨fuel0,hf0⟩:=h0
  obtain⟨fuel1,hf1⟩:=h1
  obtain⟨fuel2,hf2⟩:=h2
  obtain⟨y0,e0,_,wf0⟩:=DataW.trod_int Tryz.underlying3 hf0
  simp[Value.cells]at e0
  subst e0
  have hz0:=wf_i64 wf0
  obtain⟨y2,e2,_,wf2⟩:=DataW.trod_int Tryz.underlying3 hf2
  simp[Value.cells]at e2
  subst e2
  have hz2:=wf_i64 wf2
  exact s6 (IK z0 hz0 z1 z2 hz2) (by simp[ax.wr]) (Cq (y4 hL) rfl (fun _ hx=>nomatch hx) (HT W))
 refine fin.mono fun e W' ⟨he,hb⟩=> ?_
 subst he
 exact⟨_,rfl,sR (pa:=pp0++(pp1++(pp2))) (pv:=[]) hW' (fun _ _ _=>trodAll_mk1 (shut_bool Tryz.underlying4 _))
  (fun sp hsp=>trodAll_mk3 (WideElems.Trod_stays laidOut (by kernel_rfl) (of_decide_eq_true (by kernel_rfl)) h0 (fun x hx=>hb.same (hlt x (List.mem_append.2 (.inl hx)))) (fun x hx=>hsp x (List.mem_append.2 (.inl hx)))) (WideElems.Trod_stays laidOut (by kernel_rfl) (of_decide_eq_true (by kernel_rfl)) h1 (fun x hx=>hb.same (hlt x (List.mem_append.2 (.inr (List.mem_append.2 (.inl hx)))))) (fun x hx=>hsp x (List.mem_append.2 (.inr (List.mem_append.2 (.inl hx)))))) (WideElems.Trod_stays laidOut (by kernel_rfl) (of_decide_eq_true (by kernel_rfl)) h2 (fun x hx=>hb.same (hlt x (List.mem_append.2 (.inr (List.mem_append.2 (.inr hx)))))) (fun x hx=>hsp x (List.mem_append.2 (.inr (List.mem_append.2 (.inr hx)))))))
  (fun _ _=>rfl) (by simp) hb (ok_one (by kernel_rfl) rfl (okWide_bool_mk Tryz.underlying4 _))⟩
noncomputable def pc (os:Os):World:=
 {World.holding Tryz.prog os ⟨#[],#[],[]⟩with heap:=((World.holding Tryz.prog os ⟨#[],#[],[]⟩).heap.modify 0 fun
   | .cells _ t frozen=>.cells #[.int .u8 0,.int .u8 1,.int .u8 28,.int .u8 2,.int .u8 29,.int .u8 14,.int .u8 24,.int .u8 3,.int .u8 30,.int .u8 22,.int .u8 20,.int .u8 15,.int .u8 25,.int .u8 17,.int .u8 4,.int .u8 8,.int .u8 31,.int .u8 27,.int .u8 13,.int .u8 23,.int .u8 21,.int .u8 19,.int .u8 16,.int .u8 7,.int .u8 26,.int .u8 12,.int .u8 18,.int .u8 6,.int .u8 11,.int .u8 5,.int .u8 10,.int .u8 9] t frozen
   | o=>o)}
theorem Fl(os:Os):laidMet Tryz.prog Rows.topBrokenRow.laid ((pc os).forCall (fun _ _=>0) ⟨#[],#[.int .i64 0,.bool false,.int .i64 0],[]⟩).memory:=
 laidMet_of_run' 48 (by kernel_rfl) (by kernel_rfl)
theorem reads(os:Os){H:Type}(enc:TypeId×Value→H):∃ places,DataW.whole enc Tryz.prog ((pc os).forCall (fun _ _=>0) ⟨#[],#[.int .i64 0,.bool false,.int .i64 0],[]⟩).memory Tryz.f5.params.toList Rows.topBrokenSpec.vars false #[.int .i64 0,.bool false,.int .i64 0].toList 8=some ([.lit (.int .i64 0),.lit (.bool false),.lit (.int .i64 0)],[],places):=
 ⟨[],by kernel_rfl⟩
set_option maxRecDepth 100000 in
theorem ox(os:Os)(started:os.Started)(H:Type)(enc:TypeId×Value→H)(F:Stop.Interp):ReturnsInHanded {} Tryz.checked os 5 .any ((OpenSpec.ofChange Rows.topBrokenSpec).preRow enc Tryz.prog Tryz.f5 Rows.topBrokenRow.domain false Rows.topBrokenRow.laid) (((OpenSpec.ofChange Rows.topBrokenSpec).at F).post enc Tryz.prog Tryz.f5 false true false false):=by
 obtain⟨places,hx⟩:=reads os enc
 refine returnsInHanded_of_row (C:=Tryz.checked) (s:=OpenSpec.ofChange Rows.topBrokenSpec) own started (by kernel_rfl) Tryz.func5
  (witness_row_at (enc:=enc) (C:=Tryz.checked) false (pc os) #[.int .i64 0,.bool false,.int .i64 0] rfl (by kernel_rfl) (by kernel_rfl) (by kernel_rfl)
   (OpenSpec.preRow_of_cond 8 hx (by kernel_rfl) (fun k hk=>by cases hk) (by kernel_rfl) (Fl os))) ?_
 intro W base args ds gs before hval hW _ _ _ hL _ _
 exact mS H enc W base args ds gs before hval hW hL
theorem qW:Rows.TopBrokenSaid:=
 OpenClaim.holds_of_cond 5 Tryz.f5 rfl rfl rfl rfl rfl rfl rfl ⟨rfl,rfl,rfl,rfl,rfl⟩ rfl rfl rfl rfl rfl (by kernel_rfl) Tryz.func5 (by kernel_rfl)
  (of_decide_eq_true (by kernel_rfl)) (by unfold Func.isWrapper;first | (rw[if_pos (by decide+kernel)];kernel_rfl) | (rw[if_neg (by decide+kernel)];exact⟨rfl,rfl⟩))
  (fun os started H enc _ F=>by rw[OpenClaim.pre_eq_preRow];exact ox os started H enc F)
theorem sm(f:FuncId)(fn:Func)(hf:Tryz.pinned.checked.prog.funcNamed "wardroom/wardroomtop.TopBroken" =some f)(hfn:Tryz.pinned.checked.prog.funcs[f]? =some fn):true=Tryz.pinned.checked.prog.looks []∧∀ (j:Nat) t,fn.params[j]? =some t→Tryz.pinned.checked.prog.wantsStandIn t=false:=by
 obtain rfl:f=5:=Option.some.inj ((show Tryz.prog.funcNamed "wardroom/wardroomtop.TopBroken" =some 5 by kernel_rfl).symm.trans hf) |>.symm
 obtain rfl:fn=Tryz.f5:=(Option.some.inj (Tryz.func5.symm.trans hfn)).symm
 refine⟨by kernel_rfl,fun j t ht=> ?_⟩
 rw[Tryz.params5]at ht
 have hm:=Array.mem_of_getElem? ht
 simp at hm
 rcases hm with q | q | q
 ·subst q;exact(show Tryz.prog.wantsStandIn 3=false by kernel_rfl)
 ·subst q;exact(show Tryz.prog.wantsStandIn 4=false by kernel_rfl)
 ·subst q;exact(show Tryz.prog.wantsStandIn 3=false by kernel_rfl)
theorem topBroken_card:Rows.TopBrokenCardSaid:=
 Claim7.holds_tied_plain_at .later [] _ _ _ _ qW (fun _ h=>by cases h) (by kernel_rfl) (fun _ h=>by cases h) topBroken_row_tie rfl ⟨rfl,rfl⟩ (by kernel_rfl) rfl sm (by kernel_rfl)
#print axioms topBroken_card
end Go.Proofs.YthdinakloheinaaGreatDoor
