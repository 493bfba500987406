import Derived.Shelf.Strings.Split
import Derived.Test.YthdinakloheinaaGreatDoorkJO5
set_option linter.all false
namespace Go.X.Tr
open Go Go.Shelf Go.RowKit Go.Lib Go.Proofs Go.X
set_option maxRecDepth 20000
set_option maxHeartbeats 4000000
section
variable {P:Program} {ρ:Ren}
set_option maxHeartbeats 1000000 in def Rx(L:Lays.n146 P ρ)(hi9:(P.info? (ρ.t 9)).map (fun i=>(i.zero,i.size,i.bytes))=some (some (.string ByteArray.empty),1,16))(s:ByteArray)(w:World)(hs:s.size<4294967281):Calls P (ρ.f 146) #[.string s,.string ⟨#[47]⟩] w fun e w'=>e= .returned (.slice (some ⟨w.heap.size,0,none⟩) (countB s iB+1) (countB s iB+1))/\w'=w.alloc (.cells ((splitB iB 0 (countB s iB) s).map Value.string).toArray (ρ.t 9)):=by
 have h1:1<=iB.size:=dq;have hle:=Lib.countB_le iB h1 s.size s (Nat.le_refl _);have hlen:=Lib.splitB_all iB h1 0 _ s rfl;have c:=Any.strings_genSplit_core {L with} hi9 s iB 0 (-1) (countB s iB+1) w hs h1 (Nat.zero_le _)
  (fun x c _=>(Any.strings_Index_one {L with} x 47 _).mono fun e w' ⟨he,hw⟩=>⟨by rw[he];show _=Ending.returned (Value.int .i64 (Lib.index x.data.toList [47]));rw[Lib.index_one],hw⟩)
  ((Any.strings_Count_one {L with} s 47 w).mono fun e w' ⟨he,hw⟩=>⟨by
   rw[he]
   show _=Ending.returned (Value.int .i64 ((Lib.count s.data.toList [47]:Nat):Int))
   rw[Lib.count_one]
   rfl,hw⟩)
  dq dq (by rw[if_pos dq];omega)
 rw[Nat.add_sub_cancel,hlen]at c;have e2:Lib.cellsOf (Lib.splitB iB 0 (Lib.countB s iB) s) (Lib.countB s iB+1)=((Lib.splitB iB 0 (Lib.countB s iB) s).map Value.string).toArray:=by rw[<-hlen];exact Lib.cellsOf_full _
 rw[e2]at c;have t3:=L.t3;have t9:=L.t9;have t31:=L.t31;have a3:=L.a3;have a9:=L.a9;have a31:=L.a31;have z3:=L.z3;have v3:=L.v3;have z9:=L.z9;have v9:=L.v9;have z31:=L.z31;have v31:=L.v31;have alo:∀ args w,(callFunc (ρ.f 221) args).run P w= .ok (.enter (ρ.f 221) args) w:=enters_of L.f221 kq rfl;go_enter L.f146,Body.n146_ntmps ρ;go_wp2_with (go_at_fn (ρ.f 221);refine c.mono ?_;rintro e w' ⟨rfl,hw⟩;rw[hw]);go_ret;simp_all
theorem D0(s:ByteArray):(eb s).length=countB s iB+1:=Lib.splitB_all iB dq 0 _ s rfl
theorem xt(s:ByteArray):(eb s).length<=s.size+1:=by
 have:=Lib.countB_le iB dq s.size s (Nat.le_refl _);grind [D0]
def M9(L:Lays.n146 P ρ)(hi9:(P.info? (ρ.t 9)).map (fun i=>(i.zero,i.size,i.bytes))=some (some (.string ByteArray.empty),1,16))(s:ByteArray)(hs:s.size<=1000000):Spec P (ρ.f 146) [.string s,.string ⟨#[47]⟩] [] (fun v H1=>∃ b,v= .slice (some ⟨b,0,none⟩) (eb s).length (eb s).length/\H1=[jZ (some ⟨b,0,none⟩) (eb s).length (ρ.t 9) (eb s)]):=by
 intro w hw;refine(Rx L hi9 s w og).mono fun ee w' ⟨he,dX⟩=>⟨_,_,he,⟨w.heap.size,by rw[D0],rfl⟩,rfl,?_⟩;subst dX;have hc:=xt s;refine(kU hw).fresh (fun b o Cv=>by simp only[aF.gm,Value.ownBlock,Option.some.injEq]at Cv;omega) (jY w _ _) (⟨by simp[strs],.inr ⟨w.heap.size,_,_,rfl,Nat.zero_le _,heap_alloc_new w _,Nat.le_refl _,by simp only[maxLen];omega,?_,?_⟩⟩);all_goals grind [eb,strs,List.take_of_length_le]
end
def Gu:∀ (k:Nat) (s:ByteArray),∀ x∈splitB iB 0 k s,x.size<=s.size
 | 0,s,x,h=>by simp[splitB]at h;rw[h];exact Nat.le_refl _
 | k+1,s,x,h=>by
  unfold splitB at h;split at h
  ·simp at h;rw[h];exact Nat.le_refl _
  ·rcases List.mem_cons.1 h with h | h
   ·rw[h,ByteArray.size_extract];omega
   ·have:=Gu k _ x h;rw[ByteArray.size_extract]at this;omega
def Gv(s:ByteArray){z:Int}(h:0<=z/\z<(eb s).length):(kx (eb s) z).size<=s.size:=by
 refine Gu (countB s iB) s _ ?_;grind [kx,eb]
def xv(x:ByteArray):(bX x).length<=x.size+1:=by
 grind [bX,xt,ByteArray.size_extract]
end Go.X.Tr

namespace Go.X.Kn
open Go Go.X Go.X.Tr
variable{B T n:Int}{d:Int->Nat}{c:KC}{F:Tr.FF}
def KA.Ok.tz{a:KA}(h:a.Ok T)(c:a.aA n=0):(0<=(a.s.bU n).1/\(a.s.bU n).1<6)/\a.s.aa (a.s.bU n).1=true:=by
 obtain⟨hn,hs⟩:=aR c;obtain⟨e,_,r,hh⟩:=SS.Inv.is0 h.wk.sI hn ((h.wk.lc n hn.1 hn.2).1 og);simp_all
def zf(F:Tr.FF)(l:List MT)(r:WH)(x:ByteArray):(ra F l r x).size<=x.size:=by
 unfold ra;split
 ·exact Nat.zero_le _
 ·unfold nG bX;split
  ·by_cases h:0<(eb (x.extract 1 x.size)).length
   ·have h1:=Gv (x.extract 1 x.size) (z:=((eb (x.extract 1 x.size)).length:Int)-1) ⟨og,og⟩;grind [ByteArray.size_extract]
   ·have e:eb (x.extract 1 x.size)=[]:=by cases hp:eb (x.extract 1 x.size)with
     | nil=>rfl
     | cons a b=>rw[hp]at h;simp at h
    rw[e];exact Nat.zero_le _
  ·exact Nat.zero_le _
theorem D1(s:Tr.FF)(n:Int)(x:ByteArray)(k:Int):(s.make n x k).roots=s.roots:=by
 unfold Tr.FF.make;split<;>rfl
def HT(s:Tr.FF)(n:Int)(x:ByteArray):(s.dG n x).roots=s.roots:=by
 unfold Tr.FF.dG;split
 ·unfold Tr.FF.q8;split<;>rfl
 rfl
def Na(s:Tr.FF)(k n:Int)(x:ByteArray):(s.Dr k n x).roots=s.roots:=by
 unfold Tr.FF.Dr;split<;>rfl
def Nb(s:Tr.FF)(d:Int->Nat)(n:Int)(x:ByteArray)(to:Int)(y:ByteArray):(s.move d n x to y).roots=s.roots:=by
 unfold Tr.FF.move;repeat' split
 all_goals rfl
def zg(s:Tr.FF)(O:Tr.OS)(n:Int):(su s O n).roots=s.roots:=by
 unfold su;split;all_goals grind [ks]
theorem cK.Nc{a a':KA}{N:Nat}{T':Int}(h:cK a c N T){F:FC}(hF:F.toFF.Ok d T')(hT:T<=T')(hp:F.rP=c.F.rP)(hc:F.rC=c.F.rC)(hr:F.toFF.roots=c.F.toFF.roots)(e:a'.s=a.s:=by rfl)(hu:∀ n,(a.u n).st=1->(a'.u n).st=1:=by exact fun _ q=>q):cK a' {c with F:=F,dF:=d} N T':=
 ⟨h.qO.mono (Nat.le_refl _) og,h.qR,hF,hp.trans h.rp,hc.trans h.rc,hr.trans h.rl,fun z h0 h1 h2=>h.tb z h0 h1 (by rwa[e]at h2),fun n n0 n1 hn=>hu n (h.tk n n0 n1 hn)⟩
theorem Nd(a:KA)(b:KZ){e:KC}(h1:e.mb=c.mb)(h2:∀ z,(e.t z).b=(c.t z).b):kp a b e=kp a b c:=by grind [kp]
theorem Nf{t:Nat->TB}{z:Nat}{m:TB}(h:m.b=(t z).b):∀ y,(aJ t z m y).b=(t y).b:=fun y=>by
 grind [aJ]
def cK.tab{a:KA}{N:Nat}{T':Int}(h:cK a c N T){F:FC}{z:Nat}{m:TB}(hm:m.Ok)(hF:F.toFF.Ok c.dF T')(hp:F.rP=c.F.rP)(hc:F.rC=c.F.rC)(hr:F.toFF.roots=c.F.toFF.roots):cK a {c with F:=F,t:=aJ c.t z m} N T':=
 ⟨h.qO.mono (Nat.le_refl _) og,h.qR,hF,hp.trans h.rp,hc.trans h.rc,hr.trans h.rl,fun y h0 h1 h2=>by
  show(aJ c.t z m y.toNat).Ok
  by_cases e:y.toNat=z
  ·rw[e,bW];exact hm
  ·rw[b7 _ _ e];exact h.tb y h0 h1 h2,h.tk⟩
def Ry{l:List MT}(h:l.length<=6)(a z:WH):(pt F l a z).length<=6:=by
 unfold pt;split
 ·rename_i c;have:l.length≠6:=by
   intro q;unfold uA at c;omega
  grind
 omega
def KT{l:List MT}(h:l.length<=6)(w:WH):(nk l w).length<=6:=by
 unfold nk;rw[List.length_eraseIdx];split<;>omega
def KU(F:Tr.FF)(l:List MT)(a z:WH):(re F l a z).roots=F.roots:=by
 unfold re;split;all_goals grind [ks]
def E4(F:Tr.FF)(l:List MT)(w:WH):(pW F l w).roots=F.roots:=by
 unfold pW;split;all_goals grind [FF.mW]
def KA.VN(a:KA)(n x:Int)(w:Bool):KA:= {a with u:=Bn a.u n (a.mZ n) (a.O.first+1),O:=a.O.lay a.O.first 1 x w,P:=a.P}
def KA.O0(a:KA)(n:Int)(a1:KA):Prop:=a1=a\/∃ x w,a.aA n=0/\(0<=a.mZ n/\a.mZ n<6)/\(0<=a.O.first/\a.O.first<24)/\a1=a.VN n x w
theorem KA.Ok.opens{a a1:KA}(h:a.Ok T)(hT:T<=900000)(VI:1<=T)(ho:a.O0 n a1):a1.Ok (T+1):=by
 rcases ho with rfl | ⟨x,w,hl,hs,hf,rfl⟩
 ·grind [KA.Ok.up]
 ·exact h.io og og (fun p=>(kr _ _ _ _ p).1) (fun p=>(kr _ _ _ _ p).2) (zb (aR hl).1 _ _ h.wk.out) (DR og h.wk.fd) ((h.wk.OI.lay VI _ _ _ _ (.inl rfl) fun q=>absurd rfl q).mono og) (h.wk.PI.mono og)
def Gw{B':Int}(h:F.Ok d B)(O:Tr.OS)(n:Int)(hB:B+1<=B':=by omega):(su F O n).Ok d B':=by
 unfold su;split
 ·exact FF.Ok.up (h.dZ n) hB
 grind [FF.Ok.up]
def NVs(x:NV):Prop:=((0<=x.aN/\x.aN<=2)/\ -1000000<=x.bK/\x.bK<=1000000)/\(0<=x.bj/\x.bj<=1000000)/\0<=x.size/\x.size<=100
def afX(h:F.Ok d B)(hB:B<=1000000)(n:Int):NVs (F.Xi n):=by
 unfold Tr.FF.Xi;split
 ·rename_i c;have hr:0<=n/\n<40:=by
   unfold Tr.FF.cF at c;omega
  have h1:=(h.sh hB).num n hr.1 hr.2;have h2:=(h.sh hB).data n hr.1 hr.2;have h3:=(h.sh hB).js n hr.1 hr.2;have h4:=h.inv.kinds n hr.1 hr.2;grind [NVs]
 ·exact⟨⟨⟨dq,dq⟩,dq,dq⟩,⟨dq,dq⟩,dq,dq⟩
theorem afY:NVs NV.zero:=⟨⟨⟨dq,dq⟩,dq,dq⟩,⟨dq,dq⟩,dq,dq⟩
def Ze(h:F.Ok d B)(hn:F.cF n 2=0):(F.aI n).length<=8/\∀ x∈F.aI n,x.size<=8:=by
 have hr:0<=n/\n<40:=by
  unfold Tr.FF.cF at hn;omega
 exact⟨(h.inv.js n hr.1 hr.2).2.2.1,fun x hx=>Tr.FF.Kk (h.inv.MI n hr.1 hr.2 x hx)⟩
end Go.X.Kn

namespace Go.X.Kn
open Go Go.X
open Go.X.Vm
structure kF where
 n:Int
 m:Int
 e:Int
 s:ByteArray
def kF.cR(x:kF):Array Value:= #[iI x.n,iI x.m,iI x.e,.string x.s]
def kF.nil:kF:=⟨0,0,0,⟨#[]⟩⟩
def cB(x:kF)(i:Nat):Value:=if i=0 then iI x.n else if i=1 then iI x.m else if i=2 then iI x.e else if i=3 then .string x.s else undef
theorem cB.box(x:kF):∀ i,i<4->cellsOf x.cR i=cB x i:=fun i h=>match i,h with
 | 0,_=>rfl
 | 1,_=>rfl
 | 2,_=>rfl
 | 3,_=>rfl
def cB.ext{C:Nat->Value}{x:kF}(h0:C 0=iI x.n)(h1:C 1=iI x.m)(h2:C 2=iI x.e)(h3:C 3= .string x.s)(h:∀ k,C (k+4)=undef):C=cB x:=funext fun i=>match i with
 | 0=>h0
 | 1=>h1
 | 2=>h2
 | 3=>h3
 | k+4=>(h k).trans (by simp[cB])
def cB.agg(x:kF):0+4<=4/\de (cB x) 0 4= .agg x.cR:=⟨og,rfl⟩
theorem cB.st(y x:kF):0+4<=4/\cD (cB y) 0 x.cR.toList=cB x:=⟨og,cB.ext rfl rfl rfl rfl fun k=>by simp[cD,dJ,kF.cR,cB]⟩
def Bp(x:kF):0+0<4/\cB x (0+0)=iI x.n:=⟨og,rfl⟩
def KV(x:kF):0+2<4/\cB x (0+2)=iI x.e:=⟨og,rfl⟩
def cB.ug(x:kF):0+3<4/\cB x (0+3)= .string x.s:=⟨og,rfl⟩
def fy(x:kF)(v:Int):0+0<4/\dJ (cB x) (0+0) (iI v)=cB {x with n:=v} :=by grind [dJ,cB]
def Bq(x:kF)(v:Int):0+1<4/\dJ (cB x) (0+1) (iI v)=cB {x with m:=v} :=by grind [dJ,cB]
def Br(x:kF)(v:Int):0+2<4/\dJ (cB x) (0+2) (iI v)=cB {x with e:=v} :=by grind [dJ,cB]
def Bs(x:kF)(v:ByteArray):0+3<4/\dJ (cB x) (0+3) (.string v)=cB {x with s:=v} :=by grind [dJ,cB]
abbrev HU(x:iU):Array Value:= #[.string x.aN,iI x.a,iI x.b,iI x.c,.int .u64 x.iD,.bool x.on,.string x.s,.string x.t]
def O1(x:iU):∀ i,i<8->cellsOf (HU x) i=fB x i:=fun i h=>match i,h with
 | 0,_=>rfl
 | 1,_=>rfl
 | 2,_=>rfl
 | 3,_=>rfl
 | 4,_=>rfl
 | 5,_=>rfl
 | 6,_=>rfl
 | 7,_=>rfl
def O2(x:iU):0+8<=8/\de (fB x) 0 8= .agg (HU x):=⟨og,rfl⟩
def wA:ByteArray:=⟨#[102,111,114,107]⟩
def Gx:ByteArray:=⟨#[101,120,105,116]⟩
def E5:ByteArray:=⟨#[117,110,109,97,112]⟩
def Bt:ByteArray:=⟨#[108,111,97,100]⟩
def qm:ByteArray:=⟨#[115,116,111,114,101]⟩
def Gy:ByteArray:=⟨#[116,105,99,107]⟩
def Rz:ByteArray:=⟨#[108,105,109,105,116]⟩
def Gz:ByteArray:=⟨#[106,111,105,110]⟩
def RA:ByteArray:=⟨#[97,100,100]⟩
def Oth(k:ByteArray):Prop:=k∉[wA,Gx,E5,Bt,qm,Gy,Rz,Gz,RA]
def pA{x:iU}{k:ByteArray}(h:x.aN=k)(hd:k∉[wA,Gx,E5,Bt,qm,Gy,Rz,Gz,RA]:=by simp[wA,Gx,E5,Bt,qm,Gy,Rz,Gz,RA]):Oth x.aN:=by grind [Oth]
inductive KA.qn (a:KA) (F:Tr.FF) (x:iU):KA->Prop
 | same:KA.qn a F x a
 | dU:KA.qn a F x (a.rj x.a)
 | sD:KA.qn a F x (a.kE x.a x.b x.c)
 | dZ:KA.qn a F x (a.mI x.a x.b x.on)
 | jm:KA.qn a F x (a.DN x.a x.b x.c)
 | take:KA.qn a F x (a.rh x.a)
 | map:KA.qn a F x (a.DZ x.a x.b x.c x.on)
 | mz:KA.qn a F x (a.uL x.a x.b x.c x.on)
 | drop:KA.qn a F x (a.Au x.a)
 | O3 {a1:KA} (h:a.O0 x.a a1):KA.qn a F x a1
 | close:KA.qn a F x (a.sE x.a x.b)
 | dup:KA.qn a F x (a.BM x.a x.b)
 | Kq:KA.qn a F x (a.ri x.a)
 | mU:KA.qn a F x (a.ze F x.a x.b x.c)
 | cb:KA.qn a F x (a.ql F x.a x.b x.s)
 | Kr:KA.qn a F x (a.wz x.a x.b x.c)
inductive KA.pI (a:KA) (c c1:KC) (x:iU):KA->Int->Int->Prop
 | im (h:x.aN=wA):KA.pI a c c1 x (a.ej x.a x.on) (a.kK x.a x.on) (a.gX x.a x.on)
 | exit (h:x.aN=Gx):KA.pI a c c1 x (a.mH x.a x.b) 0 (a.uI x.a x.b)
 | cS (h:x.aN=E5):KA.pI a c c1 x (a.dC x.a x.b x.c) 0 (a.jx x.a x.b x.c)
 | load (h:x.aN=Bt):KA.pI a c c1 x (a.eM x.a x.b).2.1 (a.eM x.a x.b).2.2 (a.eM x.a x.b).1
 | store (h:x.aN=qm):KA.pI a c c1 x (a.dW x.a x.b (IntKind.u8.wrap x.c)).2.1 0 (a.dW x.a x.b (IntKind.u8.wrap x.c)).1
 | kM (h:x.aN=Gy) (r:Int) (hr:r<0\/(0<=r/\r<20/\c1.q.aa (10+r)=true)):KA.pI a c c1 x a r 0
 | SD (h:x.aN=Rz):KA.pI a c c1 x (a.Rw x.a x.b x.c) 0 (a.g.ka x.a x.b x.c)
 | wL (h:x.aN=Gz) (e:Int) (he:e=0->a.aA x.a=0/\a.Gt x.a x.b=0):KA.pI a c c1 x (a.mJ x.a x.b) 0 e
 | add (h:x.aN=RA) (n e:Int):KA.pI a c c1 x (a.nH x.a x.b) n e
 | pA (h:Oth x.aN) {a1:KA} (h1:a.qn c.F.toFF x a1) (n e:Int):KA.pI a c c1 x a1 n e
theorem KA.qn.ok{a a1:KA}{F:Tr.FF}{x:iU}{T:Int}(h:a.Ok T)(hT:T<=800000)(VI:1<=T)(hF:F.Sh)(s:a.qn F x a1):a1.Ok (T+20):=by
 have u:∀ {b:KA},b.Ok T->b.Ok (T+20):=fun q=>q.up og og;have u1:∀ {b:KA},b.Ok (T+1)->b.Ok (T+20):=fun q=>q.up og og;cases s with
 | same=>exact u h
 | dU=>exact u (h.dU _)
 | sD=>exact u (h.sD _ _ _)
 | dZ=>exact u (h.dZ _ _ _)
 | jm=>exact u (h.jm _ _ _)
 | take=>exact u (h.take _)
 | map=>exact u (h.map _ _ _ _)
 | mz=>exact u (h.mz _ _ _ _)
 | drop=>exact u (h.o3 _)
 | O3 q=>exact u1 (h.opens og VI q)
 | close=>exact u (h.close _ _)
 | dup=>exact u1 (h.dup og _ _)
 | Kq=>exact u1 (h.Kq og VI _)
 | mU=>exact u1 (h.mU og hF _ _ _)
 | cb=>exact u1 (h.cb og _ _ _ _)
 | Kr=>exact u1 (h.Kr og _ _ _)
theorem KA.pI.ok{a a1:KA}{c c1:KC}{x:iU}{T n e:Int}(h:a.Ok T)(hT:T<=800000)(VI:1<=T)(hF:c.F.toFF.Sh)(s:a.pI c c1 x a1 n e):a1.Ok (T+20):=by
 have u:∀ {b:KA},b.Ok T->b.Ok (T+20):=fun q=>q.up og og;have u1:∀ {b:KA},b.Ok (T+1)->b.Ok (T+20):=fun q=>q.up og og;cases s with
 | im _=>exact(h.im og _ _).up og og
 | exit _=>exact u (h.mH _ _)
 | cS _=>exact u (h.cS _ _ _)
 | load _=>exact u1 (h.load og _ _)
 | store _=>exact u1 (h.store og _ _ (B4 _))
 | kM _ _ _=>exact u h
 | SD _=>exact u (h.SD _ _ _)
 | wL _ _ _=>exact u1 (h.wL og _ _)
 | add _ _ _=>exact u (h.s5 _ _)
 | pA _ q _ _=>exact q.ok h hT VI hF
def VO{k:ByteArray}(h1:k≠⟨#[102,111,114,107]⟩)(h2:k≠⟨#[101,120,105,116]⟩)(h3:k≠⟨#[117,110,109,97,112]⟩)(h4:k≠⟨#[108,111,97,100]⟩)(h5:k≠⟨#[115,116,111,114,101]⟩)(h6:k≠⟨#[116,105,99,107]⟩)(h7:k≠⟨#[108,105,109,105,116]⟩)(h8:k≠⟨#[106,111,105,110]⟩)(h9:k≠⟨#[97,100,100]⟩):Oth k:=by
 simp_all[Oth,wA,Gx,E5,Bt,qm,Gy,Rz,Gz,RA]
def KA.Ok.aaW{a:KA}{T:Int}(h:a.Ok T)(hT:T<=900000)(n x:Int):0<=(a.eM n x).2.2/\(a.eM n x).2.2<256:=by
 have iD:∀ {b:KA} {S:Int},b.Ok S->0<=((Rv n x).y b)/\((Rv n x).y b)<256:=fun {b S} hb=>by
  show 0<=((b.f n.toNat).load b.v x).1/\((b.f n.toNat).load b.v x).1<256;by_cases e:((b.f n.toNat).bF b.v x false).2.1=0
  ·rw[Vm.MS.yA e];exact(VB.Ok.bF (m:=b.f n.toNat) hb.wk.sys.ja.ok x false).fR _ _
  ·rw[Vm.MS.ui e];exact⟨Int.le_refl 0,(by decide:(0:Int)<256)⟩
 unfold KA.eM KA.iP;repeat' split
 all_goals first
  | exact⟨Int.le_refl 0,(by decide:(0:Int)<256)⟩
  | exact iD (h.bE hT n).1
  | exact iD h
def VP{l:List ByteArray}{z:Int}(h:0<=z/\z<l.length):kx l z∈l:=by
 grind [kx]
end Go.X.Kn

namespace Go.X.Kn
open Go Go.X
section
variable {s:Sp.SS} {aQ:Int->Nat}
end
end Go.X.Kn

namespace Go.X.Kn
open Go Go.X
def acS{a:KA}{n:Int}(hl:(a.u n).st=1)(co p:Int):(((a.cV n co).u p).st≠0↔(a.u p).st≠0)/\(((a.cV n co).u p).st=1↔(a.u p).st=1/\p≠n)/\(((a.cV n co).u p).st=2↔(a.u p).st=2\/p=n):=by
 grind [ml,ov]
structure KA.Zf (a:KA) (T:Int):Prop where
 wk:a.Wk T
 r0:a.R0
 d0:a.aQ 0=1
def KA.Ok.o0{a:KA}{T:Int}(h:a.Ok T):a.Zf T:=⟨h.wk,h.r0,h.d0⟩
theorem KA.Zf.KQ{a:KA}{T:Int}(ok:a.Zf T){p:Int}(hs:(a.u p).st≠0):(0<=p/\p<20)/\0<=a.s.loc p/\a.s.bU p=(a.s.loc p,0)/\a.s.is (a.s.loc p)=0/\(0<=a.s.loc p/\a.s.loc p<6)/\a.s.aa (a.s.loc p)=true:=by
 have hr:=ok.wk.ng hs;have h1:=(ok.wk.lc p hr.1 hr.2).1 hs;obtain⟨i1,i2,i3,i4⟩:=SS.Inv.is0 ok.wk.sI hr h1;simp_all
section
variable {k:KP} {mb:Nat->Nat} {s:Sp.SS}
end
theorem acT:∀ p:Int,S0.dv 0 p=if p=1 then 0 else-1:=fun p=>by
 have h:S0.dv=cI Sp.SS.cC.dv 0 1 0:=by rfl
 rw[h];unfold cI;by_cases c:p=1
 ·omega
 ·rw[if_neg fun q=>c q.2,if_neg c];rfl
def tr.Ev(a b:Int):0+1<2/\tr a b (0+1)=iI b:=⟨og,rfl⟩
section
variable {k:KP} {mb:Nat->Nat} {s:Sp.SS}
end
end Go.X.Kn

namespace Go.X.Kn
open Go Go.X Go.X.Fa Go.X.Sg Go.X.Sp Go.X.Vm
def A0:KA:= {u:=ad (fun _=>PA.nil) 0 ⟨1,-1,0,0,fun _=>0,BS.cC⟩,g:=G0,s:=S0,aQ:=fun _=>1,v:=VB.cC,f:=fun _=>Vm.MS.nil,P:=Tr.PS.cC,O:=Tr.OS.du}
theorem HV(g:Int)(hg:0<=g):∀ k,mT (fun _=>Vm.MS.nil) g k=0
 | 0=>rfl
 | k+1=>by
  have e:∀ j,cM Vm.MS.nil.fr g j=0:=fun j=>by
   induction j with
   | zero=>rfl
   | succ j ih=>rw[cM,ih,show Vm.MS.nil.fr j=0 from rfl,if_neg og];rfl
  rw[mT,HV g hg k,e];rfl
theorem D2(n:Int):A0.u n=if n=0 then⟨1,-1,0,0,fun _=>0,BS.cC⟩else PA.nil:=rfl
def VQ:A0.Ok 2:=by
 have hS:S0=Sp.SS.cC.fj (fun _=>1) 0 0:=by rfl
 refine⟨⟨og,Gr.TG.Inv.cC.bE 0 1 0,(Gr.TG.bV.cC.bE Gr.TG.Inv.cC.ok 0 1 0).mono og,Sp.SS.Inv.cC.enter 0 0,⟨Vm.Sys.cC.ja.congr fun g a b=>(HV g a 1).trans (HV g a 20).symm,fun _ _=>Vm.MS.Ok.nil⟩,fun _ _ _ _=>rfl,Tr.PS.Inv.cC.mono og,Tr.OS.Inv.du.mono og,fun m a b=> ?_,fun n=> ?_,fun n hn=> ?_,fun n i=> ?_,fun n=> ?_⟩,fun p _ _ _ _=>.inl ?_,⟨rfl,rfl,by show S0.dv 0 1=0;rw[acT,if_pos rfl]⟩,rfl⟩
 ·show _↔0<=ad (EN 20) 0 0 m;rw[D2];by_cases c:m=0
  ·grind [aj]
  ·rw[ae _ _ c,if_neg c];unfold EN;rw[if_pos og];exact⟨fun q=>absurd rfl q,fun q=>absurd q og⟩
 ·rw[D2];split
  ·simp_all
  ·exact .inl rfl
 ·grind [D2]
 ·rw[D2];split<;>exact⟨Int.le_refl 0,by show(0:Int)<=24;omega⟩
 ·rw[D2];split<;>rfl
 ·have e:(A0.u p).bx=BS.cC:=by rw[D2];split<;>rfl
  rw[e];exact UR.cC.e
theorem VR(b:KZ)(c:KC):aaO (kp A0 b c) (c.mb 0):=⟨by
 funext n
 show(A0.u n).pu (c.mb n.toNat)=_
 by_cases h:n=0
 ·subst h;rw[aj];rfl
 ·rw[ae _ _ h,D2,if_neg h];rfl⟩
theorem acU:jg A0=Fl (fun _=>false) (0:Int).toNat:=by
 have h:=OT (a:= {A0 with u:=fun _=>PA.nil}) (n:=0) (p:=⟨1,-1,0,0,fun _=>0,BS.cC⟩) ⟨og,og⟩ dq;have e:jg {A0 with u:=fun _=>PA.nil} =fun _=>false:=by
  funext j;unfold jg;exact decide_eq_false fun q=>q.2 rfl
 grind [A0]
theorem acV:lu A0=Fl (fun _=>false) (0:Int).toNat:=by
 have h0:∀ z:Int,A0.s.aa z=decide (z=0):=fun z=>by
  rfl
 grind [jK,lu]
theorem Zg(z:Int):S0.aa z=decide (z=0):=by
 rfl
theorem acW(b:KZ)(c:KC)(ob mb:Nat)(t:TB)(hm:c.mb=aJ (fun _=>0) (0:Int).toNat mb)(ht:c.t=aJ (fun _=>t) (0:Int).toNat t)(K:KP)(hK:K= {KP.raw b.gb b.sb b.qb b.bb b.tb b.pi with ob:=b.ob}):({K with ms:=ad K.ms 0 (az t.b 0 0)} :KP).put 0 (De mb)=kp A0 b c:=by
 subst hK;refine KP.ext (fun m=> ?_) ?_ ⟨⟨rfl,rfl,rfl,rfl⟩,rfl,rfl,rfl⟩
 ·show _=(A0.u m).pu (c.mb m.toNat);by_cases e:m=0
  ·subst e;rw[KP.sR,hm,bW];rfl
  ·rw[KP.Ag _ _ e,D2,if_neg e];rfl
 ·show ad (fun _=>Value.pointer none) 0 (az t.b 0 0)=fun z=>if S0.aa z then az (c.t z.toNat).b 0 0 else .pointer none
  rw[ht];grind [Zg,aJ,ad]
def afZ{q:SC}(h:q.toSF=Q2):∀ m,0<=m->m<20->q.aa (10+m)=true->(A0.u m).st=1:=fun m m0 m1 hm=>by
 have hm:q.toSF.aa (10+m)=true:=hm;rw[h,show Q2=Q1.gq dK 0 true from rfl,Fa.SF.qP]at hm;by_cases e:m=0
 ·subst e;rfl
 ·have h2:=(Fa.SF.FI (s:=Fa.SF.cC) hm).resolve_left e;have h3:ad (fun _:Int=>false) 0 true (10+m)=true:=h2;grind [ae]
end Go.X.Kn

namespace Go.X.Kn
open Go Go.X
variable{T n:Int}
theorem KA.Hd{a:KA}(ok:a.Ok T){p q:Int}(hl:a.aA n=0)(hp:0<=p)(e:a.s.dv (a.s.loc n) q=p)(hs:(a.u p).st=1):a.BI n q=(p,0):=by
 obtain⟨hn,hs1⟩:=aR hl;obtain⟨hr,h1,i1,i2,i3,i4⟩:=ok.o0.KQ (p:=n) og;have m:=ok.wk.sI.mem _ q p hp e;have f:a.s.find (a.s.loc n) q=(p,0):=by
  unfold Sp.SS.find;grind
 grind [KA.BI]
def KA.Bu(a:KA):List Int:=Vm.gB (fun n=>decide ((a.u n).st=1)) 20
def KA.RC(a:KA):a.Bu.length<=20:=Vm.j9 _ 20
def jP(g g':Gr.TG):Prop:=g'.aa=g.aa/\g'.aD=g.aD/\g'.mp=g.mp/\g'.mg=g.mg
theorem jP.refl(g:Gr.TG):jP g g:=⟨rfl,rfl,rfl,rfl⟩
def jP.trans{a b c:Gr.TG}(h:jP a b)(k:jP b c):jP a c:=⟨k.1.trans h.1,k.2.1.trans h.2.1,k.2.2.1.trans h.2.2.1,k.2.2.2.trans h.2.2.2⟩
theorem rk(g:Gr.TG)(n p m:Int):jP g (g.dz n p m):=by unfold Gr.TG.dz;split<;>exact jP.refl g
theorem na(g:Gr.TG)(n p m:Int):jP g (g.bE n p m):=by unfold Gr.TG.bE;split<;>exact jP.refl g
def H1:KA:=A0.ej 0 true
def H2:KA:=H1.ej 0 false
open Go.X.Sg
structure da (I:KA->Prop):Prop where
 rest:∀ {a:KA} {u:Int->PA},I a->(∀ p,(u p).st=(a.u p).st/\(u p).cL=(a.u p).cL/\(u p).fd=(a.u p).fd)->I {a with u:=u}
 end_:∀ {a:KA} {T:Int} {n:Int} (co:Int),a.Wk T->(0<=n/\n<20)->(a.u n).st=1->I a->I (a.cV n co)
 Ap:∀ {a:KA} {T:Int} {n:Int},a.Wk T->(0<=n/\n<20)->(a.u n).st=2->I a->I (a.eY n)
 spc:∀ {a:KA} (s:Sp.SS),I a->I {a with s:=s}
section
variable {I:KA->Prop}
theorem da.box(S:da I){a:KA}(h:I a)(n:Int)(x:BS):I (a.jJ n x):=S.rest h fun p=>by
 by_cases e:p=n
 ·subst e;rw[aj];exact⟨rfl,rfl,rfl⟩
 ·rw[ae _ _ e];exact⟨rfl,rfl,rfl⟩
theorem da.kI(S:da I){a:KA}(h:I a)(n m:Int):I (a.dI n m):=S.rest h fun p=>by
 have k:=dP a n m p;exact⟨k.1,k.2.2.1,k.2.2.2.2⟩
theorem da.ie(S:da I){a:KA}(h:I a)(p:Int):I (a.jU p):=by
 unfold KA.jU;split
 ·exact S.box h _ _
 ·exact h
def da.VC(S:da I){T:Int}(k:Int):∀ {l:List Int} {a:KA},a.Wk T->l.Nodup->(∀ m∈l,(0<=m/\m<20)/\(a.u m).st≠0)->I a->I (l.foldl (KA.gQ k) a)
 | [],_,_,_,_,h=>h
 | x::r,a,w,hn,hl,h=>by
  obtain⟨hx,hr⟩:=List.nodup_cons.1 hn;have rB:=hl x (.head _);refine S.VC k (l:=r) (w.gQ k rB.1) hr (fun m hm=>⟨(hl m (.tail _ hm)).1,?_⟩) ?_
  ·rw[yY _ _ (by rintro rfl;exact hx hm)];exact(hl m (.tail _ hm)).2
  ·unfold KA.gQ;split
   ·exact h
   ·split
    ·rename_i c;exact S.Ap (w.cV rB.1 c 0) rB.1 (ml _ _ _) (S.end_ 0 w rB.1 c h)
    ·rename_i c;exact S.Ap w rB.1 (((w.st x).resolve_left rB.2).resolve_left c) h
def da.M4(S:da I){a:KA}(h:I a)(z:Int):I (a.fL z):=S.spc _ h
def da.uG(S:da I):∀ {l:List Int} {a:KA},I a->I (l.foldl KA.fL a)
 | [],_,h=>h
 | x::r,_,h=>S.uG (l:=r) (S.M4 h x)
def da.fY(S:da I){a:KA}(h:I a):∀ k,I (a.fY k)
 | 0=>h
 | k+1=>S.uG (S.fY h k)
def da.exit(S:da I){a:KA}(w:a.Wk T)(hl:(a.u n).st=1)(co:Int)(h:I a):I (a.dc n co):=by
 have hn:=w.ng (n:=n) og;have h1:=S.end_ co w hn hl h;have h2:I (a.gW n co):=by
  unfold KA.gW;split
  ·refine S.fY (S.VC n (w.cV hn hl co) (yW (w.cV hn hl co).sI _) (fun m hm=>(w.cV hn hl co).DG _ hm) h1) 4
  ·exact h1
 exact S.ie (S.kI h2 _ _) _
def da.settle(S:da I){a:KA}(w:a.Wk T)(hl:(a.u n).st=1)(o:Bool)(h:I a):I (a.cH n o):=by
 unfold KA.cH;split
 ·exact S.exit w hl _ h
 ·exact h
def da.M5(S:da I){a:KA}(w:a.Wk T)(c:a.aA n=0){x:BS}(hx:x.dU 0=false)(o:Bool)(h:I a):I ((a.jJ n x).cH n o):=by
 obtain⟨hr,hl⟩:=aR c;exact S.settle (w.jJ hr hx) (by rw[gT];exact hl) o (S.box h n x)
theorem da.send(S:da I){a:KA}(w:a.Wk T)(n sig:Int)(o:Bool)(h:I a):I (a.wv n sig o):=by
 unfold KA.wv;split
 ·rename_i c;exact S.M5 w c (py _ _ (w.bx n)) o h
 ·exact h
def da.sD(S:da I){a:KA}(w:a.Wk T)(n jq sig:Int)(h:I a):I (a.kE n jq sig):=by
 unfold KA.kE;split
 ·exact S.send w _ _ _ h
 ·exact h
theorem da.dZ(S:da I){a:KA}(w:a.Wk T)(n sig:Int)(on:Bool)(h:I a):I (a.mI n sig on):=by
 unfold KA.mI;split
 ·exact h
 ·split
  ·exact S.M5 w og (sC _ _ _ (w.bx n)) false h
  ·exact h
def da.jm(S:da I){a:KA}(w:a.Wk T)(n sig v:Int)(h:I a):I (a.DN n sig v):=by
 unfold KA.DN;split
 ·exact h
 ·split
  ·exact S.M5 w og (Aq _ _ _ (w.bx n)) false h
  ·exact h
theorem da.take(S:da I){a:KA}(n:Int)(h:I a):I (a.rh n):=by
 unfold KA.rh;split
 ·exact h
 ·exact S.box h _ _
theorem da.mH(S:da I){a:KA}{T:Int}(w:a.Wk T)(n co:Int)(h:I a):I (a.mH n co):=by
 unfold KA.mH;split
 ·rename_i c;exact S.exit w (aR (DM c).1).2 co h
 ·exact h
def da.dU(S:da I){a:KA}(w:a.Wk T)(n:Int)(h:I a):I (a.rj n):=by
 unfold KA.rj;split
 ·rename_i c;obtain⟨_,h2,h3,_⟩:=As c;exact S.M4 (S.Ap w h2 h3 h) _
 ·exact h
theorem da.room(S:da I){n:Int} :∀ (k:Nat) {a:KA} {T:Int},a.Ok T->I a->∃ b:KA,I b/\b.Ok T/\((a.kt n k).1≠0->(a.kt n k).2=b)/\((a.kt n k).1=0->b.aA n=0/\b.g.cY (b.u n).cL 0 1=0/\(a.kt n k).2= {b with v:=b.v,f:=b.f,g:=b.g.bE (b.u n).cL 0 1})
 | 0,a,T,ok,h=>⟨a,h,ok,fun _=>rfl,fun e=>absurd (show(6:Int)=0 from e) dq⟩
 | k+1,a,T,ok,h=>by
  unfold KA.kt;by_cases c:a.aA n≠0
  ·rw[if_pos c];exact⟨a,h,ok,fun _=>rfl,fun e=>absurd (show(6:Int)=0 from e) dq⟩
  ·rw[if_neg c];cases hz:a.iM n with
   | none=>
    refine⟨a,h,ok,fun e=> ?_,fun e=>⟨og,e,rfl⟩⟩;show({a with v:=a.v,f:=a.f,g:=a.g.bE (a.u n).cL 0 1} :KA)=a;rw[xo e]
   | some z=>
    by_cases d:a.iL z<0
    ·simp only[if_pos d];exact⟨a,h,ok,fun _=>rfl,fun e=>absurd e dq⟩
    ·have hv:=sG d;have hl:=aR hv.2;simp only[if_neg d];exact S.room k (ok.wk.DL ok.r0 ok.d0 (show a.iL z≠0 by omega) hl.2 (ok.hx.any _) 137) (S.exit ok.wk hl.2 137 h)
end
end Go.X.Kn

namespace Go.X.Gr
open Go Go.X
namespace TG
def cv(s:TG)(n:Int):GV:=if s.cF n=0 then s.gv n else GV.zero
def Own(s:TG)(f g:Int->Int):Prop:=∀ n,0<=n->n<10->s.aa n=true->f n=s.left s.pr n/\g n=s.left s.pg n
theorem Own.lay{s:TG}(hO:s.Ok){f g:Int->Int}(h:s.Own f g){n:Int}(h0:0<=n)(h1:n<10)(h2:s.aa n=true)(p m:Int):(s.lay (s.dm n) p m).Own (ad f n (f n+p)) (ad g n (g n+m)):=fun x x0 x1 x2=>by
 have a2:(s.lay (s.dm n) p m).left (s.lay (s.dm n) p m).pr x=s.left s.pr x+if x=n then p else 0:=yr hO h0 h1 h2 s.pr p x0
 have b2:(s.lay (s.dm n) p m).left (s.lay (s.dm n) p m).pg x=s.left s.pg x+if x=n then m else 0:=yr hO h0 h1 h2 s.pg m x0
 rw[a2,b2];obtain⟨e1,e2⟩:=h x x0 x1 x2;by_cases hx:x=n
 ·subst hx;rw[aj,aj,if_pos rfl,if_pos rfl,e1,e2];exact⟨rfl,rfl⟩
 ·rw[ae _ _ hx,ae _ _ hx,if_neg hx,if_neg hx,e1,e2];exact⟨og,og⟩
def Own.bE{s:TG}(hO:s.Ok){f g:Int->Int}(h:s.Own f g){n p m:Int}(hc:s.cY n p m=0):(s.bE n p m).Own (ad f n (f n+p)) (ad g n (g n+m)):=by
 obtain⟨⟨n0,n1,n2⟩,_⟩:=vj hc;have e:s.bE n p m=s.lay (s.dm n) p m:=by unfold TG.bE;rw[if_pos hc]
 rw[e];exact h.lay hO n0 n1 n2 p m
theorem Own.dz{s:TG}(hO:s.Ok){f g:Int->Int}(h:s.Own f g){n p m:Int}(hc:s.fP n p m=0):(s.dz n p m).Own (ad f n (f n-p)) (ad g n (g n-m)):=by
 obtain⟨⟨n0,n1,n2⟩,_⟩:=ya hc;have e:s.dz n p m=s.lay (s.dm n) (-p) (-m):=by unfold TG.dz;rw[if_pos hc]
 rw[e];have:=h.lay hO n0 n1 n2 (-p) (-m);rw[show f n+ -p=f n-p from og,show g n+ -m=g n-m from og]at this;exact this
def O4{s:TG}{a b p m:Int}(h:s.eK a b p m=0):s.fP a p m=0/\(s.dz a p m).cY b p m=0/\s.move a b p m=(s.dz a p m).bE b p m:=by
 unfold eK at h;split at h
 ·omega
 ·split at h
  ·omega
  ·rename_i h1 h2;refine⟨og,h,?_⟩;unfold TG.move;rw[if_neg (fun q=>by rcases q with q | q<;>omega),if_pos h]
def Own.move{s:TG}(hO:s.Ok){f g:Int->Int}(h:s.Own f g){a b p m:Int}(hc:s.eK a b p m=0):(s.move a b p m).Own (ad (ad f a (f a-p)) b (ad f a (f a-p) b+p)) (ad (ad g a (g a-m)) b (ad g a (g a-m) b+m)):=by
 obtain⟨h1,h2,h3⟩:=O4 hc;rw[h3];exact(h.dz hO h1).bE hO.dz h2
theorem Own.add{s:TG}(hO:s.Ok){f g:Int->Int}(h:s.Own f g){a:Int}(ha:s.tZ a=0):(s.add a).Own (ad f (s.jS a) 0) (ad g (s.jS a) 0):=by
 obtain⟨e1,e2,e3,e4,e5,_⟩:=Mx ha;have e:s.add a=s.put (s.jS a) a:=by unfold TG.add;rw[if_pos ha]
 rw[e];intro x x0 x1 x2;show _=(s.put (s.jS a) a).left (ad s.pr (s.jS a) 0) x/\_=(s.put (s.jS a) a).left (ad s.pg (s.jS a) 0) x;by_cases hx:x=s.jS a
 ·have ha2:a≠s.jS a:=fun q=>by
   have:=(lY e1).2.2;rw[q,e5]at this;cases this
  rw[hx,yv hO e5 e3 ha2,yv hO e5 e3 ha2,aj,aj];exact⟨rfl,rfl⟩
 ·have wE:s.aa x=true:=by
   have:(s.put (s.jS a) a).aa x=ad s.aa (s.jS a) true x:=rfl;rw[this,ae _ _ hx]at x2;exact x2
  rw[yt hO e5 _ wE,yt hO e5 _ wE,ae _ _ hx,ae _ _ hx];exact h x x0 x1 wE
def Own.dG{s:TG}(hI:s.Inv){f g:Int->Int}(h:s.Own f g)(n:Int):(s.dG n).Own f g:=by
 unfold TG.dG;split
 ·rename_i h0;obtain⟨e1,e2,e3,e4,e5⟩:=Ae h0;obtain⟨n0,n1,n2⟩:=lY e1;have hnn:=hI.nn n0 n1 n2;intro x x0 x1 x2;have hx:x≠n:=fun e=>by
   subst e;have:(s.Et x).aa x=ad s.aa x false x:=rfl;rw[this,aj]at x2;cases x2
  have x3:s.aa x=true:=by
   have:(s.Et n).aa x=ad s.aa n false x:=rfl;rw[this,ae _ _ hx]at x2;exact x2
  have iD:∀ f:Int->Int,f n=0->(s.Et n).left (ad f n 0) x=s.left f x:=fun f hf=>by
   unfold left;rw[ae _ _ hx];congr 1;refine fI 10 fun j j0 j1=> ?_;unfold ie;show(if ad s.aa n false j=true/\ad s.aD n 0 j=x then ad f n 0 j else 0)=_;by_cases hj:j=n
   ·subst hj;rw[aj];simp[hf]
   ·rw[ae _ _ hj,ae _ _ hj,ae _ _ hj]
  show _=(s.Et n).left (ad s.pr n 0) x/\_=(s.Et n).left (ad s.pg n 0) x;rw[iD _ og,iD _ og];exact h x x0 x1 x3
 ·exact h
def Own.jC{s:TG}{f g:Int->Int}(h:s.Own f g)(n p m:Int):(s.jC n p m).Own f g:=by
 unfold TG.jC;split<;>exact h
theorem Own.cC:TG.cC.Own (fun _=>0) (fun _=>0):=fun n _ _ n2=>by
 have:n=0:=by rw[Af]at n2;simpa using n2
 subst this;decide+kernel
end TG
end Go.X.Gr

namespace Go.X.Kn
open Go Go.X Go.X.Gr Go.X.Vm
variable{T n x:Int}{m:Vm.MS}
theorem kZ{f f':Int->Int}{n:Int} :∀ {k:Nat},0<=n->n<k->(∀ j:Int,0<=j->j<k->j≠n->f' j=f j)->eC f' k=eC f k-f n+f' n
 | 0,h0,h1,_=>og
 | k+1,h0,h1,h=>by
  unfold eC;by_cases e:n=k
  ·subst e;rw[fI k fun j a b=>h j a og og];omega
  ·rw[kZ (n:=n) (k:=k) h0 og fun j a b c=>h j a og c,h k og og fun c=>e c.symm];omega
def HW{f:Int->Int}{n:Int} :∀ {k:Nat},0<=n->n<k->(∀ j:Int,0<=j->j<k->0<=f j)->f n<=eC f k
 | 0,h0,h1,_=>og
 | k+1,h0,h1,h=>by
  unfold eC;have hk:=h k og og;by_cases e:n=k
  ·subst e;have:=B1 (f:=f) k (fun j a b=>h j a og);omega
  ·have:=HW (f:=f) (n:=n) (k:=k) h0 og (fun j a b=>h j a og);omega
def KA.pc(a:KA)(y j:Int):Int:=if(a.u j).st≠0/\(a.u j).cL=y then 1 else 0
def KA.rc(a:KA)(y j:Int):Int:=if(a.u j).cL=y then a.gk j else 0
def KA.vQ(a:KA)(y:Int):Int:=eC (a.pc y) 20
def KA.sH(a:KA)(y:Int):Int:=eC (a.rc y) 20
structure KA.GI (a:KA):Prop where
 cL:∀ n,0<=n->n<20->(a.u n).st≠0->a.g.cF (a.u n).cL=0
 aX:a.g.Own a.vQ a.sH
def zh(m:Vm.MS):0<=m.gk/\m.gk<=16:=Ho m.fr 16
def KA.af0(a:KA)(y j:Int):0<=a.pc y j:=by unfold KA.pc;split<;>omega
def KA.af1(a:KA)(y j:Int):0<=a.rc y j:=by
 unfold KA.rc;split
 ·exact(zh _).1
 ·exact Int.le_refl _
def kG{g:Gr.TG}{f f' h h':Int->Int}(o:g.Own f h)(e1:∀ y,0<=y->y<10->g.aa y=true->f' y=f y)(e2:∀ y,0<=y->y<10->g.aa y=true->h' y=h y):g.Own f' h':=fun n a b c=>by rw[e1 n a b c,e2 n a b c];exact o n a b c
theorem KA.GI.same{a a':KA}(h:a.GI)(hu:∀ p,(a'.u p).st=(a.u p).st/\(a'.u p).cL=(a.u p).cL)(hg:a'.g=a.g)(hf:∀ j,0<=j->a'.gk j=a.gk j):a'.GI:=by
 have e1:a'.vQ=a.vQ:=by
  funext y;exact fI 20 fun j _ _=>by unfold KA.pc;rw[(hu j).1,(hu j).2]
 have e2:a'.sH=a.sH:=by
  funext y;exact fI 20 fun j j0 _=>by unfold KA.rc;rw[(hu j).2,hf j j0]
 exact⟨fun n a0 a1 q=>by rw[(hu n).1]at q;rw[(hu n).2,hg];exact h.cL n a0 a1 q,by rw[e1,e2,hg];exact h.aX⟩
theorem O5(v:VB)(fr:Int->Int)(a:Int):∀ k:Nat,(A9 v fr a k).1=eC (fun j=>if 0<fr (a+j)then 1 else 0) k
 | 0=>rfl
 | k+1=>by
  unfold A9 UB eC;have ih:=O5 v fr a k;split
  ·show(A9 v fr a k).1+1=_;rw[ih]
  ·rw[ih];omega
theorem uN(fr:Int->Int):∀ k:Nat,tg fr k=eC (fun j=>if 0<fr j then 1 else 0) k
 | 0=>rfl
 | k+1=>by unfold tg eC;rw[uN fr k]
theorem pB(f:Int->Int):∀ (m k:Nat),eC f (m+k)=eC f m+eC (fun j=>f ((m:Int)+j)) k
 | m,0=>(Int.add_zero _).symm
 | m,k+1=>by
  show eC f (m+k)+f ((m+k:Nat):Int)=_+(eC _ k+_);rw[pB f m k,show((m+k:Nat):Int)=(m:Int)+(k:Int)from og,Int.add_assoc]
def GA(v:VB)(m:Vm.MS)(x n:Int):(m.cS v x n).1=m.gk-(m.cS v x n).2.2.2.gk/\0<=(m.cS v x n).1:=by
 unfold Vm.MS.cS;split
 ·exact⟨(Int.sub_self _).symm,Int.le_refl 0⟩
 ·rename_i c;have hb:¬(x<0\/15<x\/n<1\/16-x<n):=c;show(A9 v m.fr x n.toNat).1=tg m.fr 16-tg (df m.fr x n 0) 16/\0<=(A9 v m.fr x n.toNat).1;rw[O5,uN,uN];obtain⟨i,hi⟩:∃ i:Nat,x=i:=⟨x.toNat,og⟩;obtain⟨j,hj⟩:∃ j:Nat,n=j:=⟨n.toNat,og⟩;obtain⟨l,hl⟩:∃ l:Nat,(16:Nat)=i+j+l:=⟨16-i-j,og⟩;subst hi;subst hj;rw[hl,pB _ (i+j) l,pB _ i j,pB _ (i+j) l,pB _ i j,show((j:Int)).toNat=j by omega];have e1:eC (fun y=>if 0<df m.fr (i:Int) (j:Int) 0 y then(1:Int)else 0) i=eC (fun y=>if 0<m.fr y then(1:Int)else 0) i:=fI i fun y a b=>by
   unfold df;rw[if_neg (show ¬((i:Int)<=y/\y<(i:Int)+j) by omega)]
  have e2:eC (fun y=>if 0<df m.fr (i:Int) (j:Int) 0 ((i:Int)+y)then(1:Int)else 0) j=0:=jF j fun y a b=>by
   unfold df;rw[if_pos (show(i:Int)<=(i:Int)+y/\(i:Int)+y<(i:Int)+j by omega)];rfl
  have e3:eC (fun y=>if 0<df m.fr (i:Int) (j:Int) 0 (((i+j:Nat):Int)+y)then(1:Int)else 0) l=eC (fun y=>if 0<m.fr (((i+j:Nat):Int)+y)then(1:Int)else 0) l:=fI l fun y a b=>by
   unfold df;rw[if_neg (show ¬((i:Int)<=((i+j:Nat):Int)+y/\((i+j:Nat):Int)+y<(i:Int)+j) by omega)]
  have e4:=B1 (f:=fun y=>if 0<m.fr ((i:Int)+y)then(1:Int)else 0) j (fun y _ _=>by show(0:Int)<=if _ then _ else _;split<;>omega);rw[e1,e2,e3];exact⟨og,e4⟩
def Cd{g:Gr.TG}{p m:Int}(h:g.cF n=0)(hp:0<=p/\p<=20)(hm:0<=m/\m<=64)(h1:p<=g.left g.pr n:=by omega)(h2:m<=g.left g.pg n:=by omega):g.fP n p m=0:=by
 have e:g.o7 n p m=0:=by unfold Gr.TG.o7;rw[if_neg og];exact(Gr.TG.A3 _ _).2 ⟨hp.1,hp.2,hm.1,hm.2⟩
 unfold Gr.TG.fP;rw[if_neg og,if_pos ⟨h1,h2⟩]
theorem KA.GI.left{a:KA}(h:a.GI){n:Int}(hn:0<=n/\n<20)(hs:(a.u n).st≠0):1<=a.g.left a.g.pr (a.u n).cL/\a.gk n<=a.g.left a.g.pg (a.u n).cL:=by
 obtain⟨h0,h1,h2⟩:=Gr.TG.lY (h.cL n hn.1 hn.2 hs);obtain⟨e1,e2⟩:=h.aX _ h0 h1 h2;rw[<-e1,<-e2];have k1:=HW (f:=a.pc (a.u n).cL) (n:=n) (k:=20) hn.1 og fun j _ _=>a.af0 _ j;have k2:=HW (f:=a.rc (a.u n).cL) (n:=n) (k:=20) hn.1 og fun j _ _=>a.af1 _ j;rw[show a.pc (a.u n).cL n=1 from if_pos ⟨hs,rfl⟩]at k1;rw[show a.rc (a.u n).cL n=a.gk n from if_pos rfl]at k2;exact⟨k1,k2⟩
theorem nm(g g':Gr.TG)(h:jP g g')(n:Int):g'.cF n=g.cF n:=by unfold Gr.TG.cF;rw[h.1]
def KA.GI.aaX{a a':KA}(h:a.GI)(ho:a.g.Ok)(hn:0<=n/\n<20)(hs:(a.u n).st≠0)(hu:∀ p,((a'.u p).st≠0↔(a.u p).st≠0)/\(a'.u p).cL=(a.u p).cL)(hf:∀ j,0<=j->j≠n->a'.gk j=a.gk j)(d:Int)(hd:a.gk n=a'.gk n+d)(hg:a'.g=a.g.dz (a.u n).cL 0 d)(hd0:0<=d):a'.GI/\a.g.fP (a.u n).cL 0 d=0:=by
 obtain⟨l1,l2⟩:=h.left hn hs;have r1:=(zh (a.f n.toNat)).2;have r2:=(zh (a'.f n.toNat)).1;have r1:a.gk n<=16:=r1;have r2:0<=a'.gk n:=r2;have e:a.g.fP (a.u n).cL 0 d=0:=Cd (h.cL n hn.1 hn.2 hs) ⟨og,og⟩ ⟨hd0,og⟩;refine⟨⟨fun p p0 p1 q=> ?_,?_⟩,e⟩
 ·rw[(hu p).2,hg,nm _ _ (rk _ _ _ _)];exact h.cL p p0 p1 ((hu p).1.1 q)
 ·rw[hg];refine kG (h.aX.dz ho e) (fun y y0 y1 _=> ?_) fun y y0 y1 _=> ?_
  ·have:a'.vQ y=a.vQ y:=fI 20 fun j _ _=>by
    unfold KA.pc;rw[(hu j).2];by_cases c:(a.u j).st≠0/\(a.u j).cL=y
    ·rw[if_pos c,if_pos ⟨(hu j).1.2 c.1,c.2⟩]
    ·rw[if_neg c,if_neg fun q=>c ⟨(hu j).1.1 q.1,q.2⟩]
   rw[this];by_cases c:y=(a.u n).cL
   ·rw[c,aj];omega
   ·rw[ae _ _ c]
  ·have k:=kZ (f:=a.rc y) (f':=a'.rc y) (n:=n) (k:=20) hn.1 og (fun j j0 _ c=>by unfold KA.rc;rw[(hu j).2,hf j j0 c]);have k:a'.sH y=a.sH y-a.rc y n+a'.rc y n:=k;rw[k];unfold KA.rc;rw[(hu n).2];by_cases c:y=(a.u n).cL
   ·rw[c,aj,if_pos rfl,if_pos rfl];omega
   ·rw[ae _ _ c,if_neg fun q=>c q.symm,if_neg fun q=>c q.symm];omega
def D3{a:KA}(hn:0<=n)(v:VB)(g:Gr.TG)(u:Int->PA)(O:Tr.OS)(P:Tr.PS):(∀ j,0<=j->j≠n->({a with u:=u,v:=v,g:=g,f:=aJ a.f n.toNat m,O:=O,P:=P} :KA).gk j=a.gk j)/\({a with u:=u,v:=v,g:=g,f:=aJ a.f n.toNat m,O:=O,P:=P} :KA).gk n=m.gk:=by
 refine⟨fun j j0 c=> ?_,?_⟩
 ·show(aJ a.f n.toNat m j.toNat).gk=_;rw[b7 _ _ og];rfl
 ·show(aJ a.f n.toNat m n.toNat).gk=_;rw[bW]
theorem KA.Wk.acX{a:KA}(w:a.Wk T)(hn:0<=n/\n<20)(hs:(a.u n).st≠1:=by omega):a.gk n=0:=by
 unfold KA.gk;rw[w.sx n hn.1 hn.2 hs];rfl
def lN:da KA.GI where
 rest:=fun {a u} h hu=>h.same (fun p=>⟨(hu p).1,(hu p).2.1⟩) rfl fun _ _=>rfl
 end_:=fun {a T n} co w hn hl h=>by
  obtain⟨e1,e2⟩:=GA a.v (a.f n.toNat) 0 16
  obtain⟨f1,f2⟩:=D3 (a:=a) (m:=(a.um n).2.2.2) hn.1 (a.um n).2.2.1 (a.g.dz (a.u n).cL 0 (a.um n).1) (a.cV n co).u (a.cV n co).O (a.cV n co).P
  refine(h.aaX (a':=a.cV n co) w.gI.ok hn og (fun p=>⟨(acS hl co p).1,?_⟩) f1 (a.um n).1 ?_ rfl e2).1
  ·show(ad a.u n _ p).cL=_
   by_cases c:p=n
   ·subst c;rw[aj]
   ·rw[ae _ _ c]
  ·rw[show(a.cV n co).gk n=_ from f2]
   show(a.f n.toNat).gk=_
   show _=((a.f n.toNat).cS a.v 0 16).2.2.2.gk+((a.f n.toNat).cS a.v 0 16).1
   omega
 Ap:=fun {a T n} w hn hs h=>by
  obtain⟨l1,l2⟩:=h.left hn og
  have r0:=w.acX hn
  have e:a.g.fP (a.u n).cL 1 0=0:=Cd (h.cL n hn.1 hn.2 og) ⟨og,og⟩ ⟨og,og⟩ l1
  have un:(a.eY n).u n=PA.nil:=aj _ _ _
  refine⟨fun p p0 p1 q=> ?_,?_⟩
  ·have c:p≠n:=by rintro rfl;rw[un]at q;exact q rfl
   rw[mj _ c]at q ⊢
   show(a.g.dz _ 1 0).cF _=0
   rw[nm _ _ (rk _ _ _ _)];exact h.cL p p0 p1 q
  ·show(a.g.dz (a.u n).cL 1 0).Own _ _
   refine kG (h.aX.dz w.gI.ok e) (fun y y0 y1 _=> ?_) fun y y0 y1 _=> ?_
   ·have k:=kZ (f:=a.pc y) (f':=(a.eY n).pc y) (n:=n) (k:=20) hn.1 og (fun j _ _ c=>by unfold KA.pc;rw[mj _ c])
    have k:(a.eY n).vQ y=a.vQ y-a.pc y n+(a.eY n).pc y n:=k
    have k0:(a.eY n).pc y n=0:=by unfold KA.pc;rw[un,if_neg fun q=>q.1 rfl]
    rw[k,k0]
    unfold KA.pc
    by_cases c:y=(a.u n).cL
    ·rw[c,aj,if_pos ⟨og,rfl⟩];omega
    ·rw[ae _ _ c,if_neg fun q=>c q.2.symm];omega
   ·have k:(a.eY n).sH y=a.sH y:=fI 20 fun j j0 j1=>by
     unfold KA.rc
     by_cases c:j=n
     ·subst c
      rw[show(a.eY j).gk j=0 from r0,r0];split<;>split<;>rfl
     ·rw[mj _ c];rfl
    rw[k]
    by_cases c:y=(a.u n).cL
    ·rw[c,aj];omega
    ·rw[ae _ _ c]
 spc:=fun s h=>h.same (fun _=>⟨rfl,rfl⟩) rfl fun _ _=>rfl
theorem KA.GI.im{a:KA}(h:a.GI)(ok:a.Zf T)(n:Int)(aX:Bool):(a.ej n aX).GI:=by
 unfold KA.ej;split
 ·exact h
 ·rename_i c;have hl:a.aA n=0:=og;have gE:a.g.cY (a.u n).cL 1 (a.gk n)=0:=by
    have:a.gE n=0:=og;exact this
  obtain⟨hn,hs⟩:=aR hl;have ho:=ok.wk.gI.ok;have o1:=h.aX.bE ho gE;have rrz:0<=a.gk n/\a.gk n<=16:=zh _;have i1:(a.gC n).cF (a.u n).cL=0:=by unfold KA.gC;rw[nm _ _ (na _ _ _ _)];exact h.cL n hn.1 hn.2 og
  split
  ·obtain⟨h0,h1,h2⟩:=Gr.TG.lY i1;obtain⟨q1,q2⟩:=o1 _ h0 h1 h2;rw[aj]at q1 q2;obtain⟨k0,k1,k2⟩:=Gr.TG.lY (h.cL n hn.1 hn.2 og);obtain⟨p1,p2⟩:=h.aX _ k0 k1 k2;obtain⟨l1,l2⟩:=h.left hn og;have e:(a.gC n).fP (a.u n).cL 1 (a.gk n)=0:=Cd i1 ⟨og,og⟩ ⟨og,og⟩ (by show 1<=(a.g.bE (a.u n).cL 1 (a.gk n)).left (a.g.bE (a.u n).cL 1 (a.gk n)).pr (a.u n).cL;omega) (by show a.gk n<=(a.g.bE (a.u n).cL 1 (a.gk n)).left (a.g.bE (a.u n).cL 1 (a.gk n)).pg (a.u n).cL;omega);refine⟨fun p p0 p1 q=> ?_,?_⟩
   ·show((a.gC n).dz _ 1 _).cF _=0;rw[nm _ _ (rk _ _ _ _)];unfold KA.gC;rw[nm _ _ (na _ _ _ _)];exact h.cL p p0 p1 q
   ·have o2:=Gr.TG.Own.dz (s:=a.gC n) (ok.wk.gI.bE _ _ _).ok o1 e;refine kG o2 (fun y _ _ _=> ?_) fun y _ _ _=> ?_
    ·show a.vQ y=_;by_cases c:y=(a.u n).cL
     ·rw[c,aj,aj];omega
     ·rw[ae _ _ c,ae _ _ c]
    ·show a.sH y=_;by_cases c:y=(a.u n).cL
     ·rw[c,aj,aj];omega
     ·rw[ae _ _ c,ae _ _ c]
  ·have DV:=a.free_spec.resolve_left (show a.free≠20 by omega);have fN:n≠a.free:=by rintro e;rw[<-e]at DV;omega
   have hu:∀ m,m≠a.free->(a.c9 n aX).u m=a.u m:=fun m hm=>ae _ _ hm;have Rs:(a.c9 n aX).u a.free=a.KM n:=aj _ _ _;have hr:∀ j,0<=j->j≠a.free->(a.c9 n aX).gk j=a.gk j:=fun j j0 c=>by
    show(aJ (aJ a.f n.toNat (a.f n.toNat).bare) a.free.toNat (a.f n.toNat).bare j.toNat).gk=_;rw[b7 _ _ og];by_cases d:j=n
    ·subst d;rw[bW];rfl
    ·rw[b7 _ _ og];rfl
   have hrc:(a.c9 n aX).gk a.free=a.gk n:=by
    show(aJ (aJ a.f n.toNat (a.f n.toNat).bare) a.free.toNat (a.f n.toNat).bare a.free.toNat).gk=_;rw[bW];rfl
   have r0:=ok.wk.acX DV.1;refine⟨fun p p0 p1 q=> ?_,?_⟩
   ·show(a.gC n).cF _=0;by_cases e:p=a.free
    ·rw[e,Rs];exact i1
    ·rw[hu p e]at q ⊢;unfold KA.gC;rw[nm _ _ (na _ _ _ _)];exact h.cL p p0 p1 q
   ·show(a.gC n).Own _ _;refine kG o1 (fun y _ _ _=> ?_) fun y _ _ _=> ?_
    ·have k:=kZ (f:=a.pc y) (f':=(a.c9 n aX).pc y) (n:=a.free) (k:=20) DV.1.1 og (fun j _ _ c=>by unfold KA.pc;rw[hu j c]);have k:(a.c9 n aX).vQ y=a.vQ y-a.pc y a.free+(a.c9 n aX).pc y a.free:=k;have k0:a.pc y a.free=0:=if_neg fun q=>q.1 DV.2;rw[k,k0];unfold KA.pc;rw[Rs];by_cases c:y=(a.u n).cL
     ·rw[c,aj,if_pos ⟨(by decide:(1:Int)≠0),rfl⟩];omega
     ·rw[ae _ _ c,if_neg fun q=>c q.2.symm];omega
    ·have k:=kZ (f:=a.rc y) (f':=(a.c9 n aX).rc y) (n:=a.free) (k:=20) DV.1.1 og (fun j j0 _ c=>by unfold KA.rc;rw[hu j c,hr j j0 c]);have k:(a.c9 n aX).sH y=a.sH y-a.rc y a.free+(a.c9 n aX).rc y a.free:=k;have k0:a.rc y a.free=0:=by unfold KA.rc;rw[r0];split<;>rfl
     rw[k,k0];unfold KA.rc;rw[Rs,hrc];show(a.sH y-0+if(a.u n).cL=y then a.gk n else 0)=_;by_cases c:y=(a.u n).cL
     ·rw[c,aj,if_pos rfl];omega
     ·rw[ae _ _ c,if_neg fun q=>c q.symm];omega
theorem KA.GI.mem{a:KA}(h:a.GI)(hn:0<=n)(hm:m.gk=(a.f n.toNat).gk)(v:VB):({a with v:=v,f:=aJ a.f n.toNat m,g:=a.g} :KA).GI:=by
 obtain⟨f1,f2⟩:=D3 (a:=a) (m:=m) hn v a.g a.u a.O a.P;refine h.same (fun _=>⟨rfl,rfl⟩) rfl fun j j0=> ?_;by_cases c:j=n
 ·subst c;exact f2.trans hm
 ·exact f1 j j0 c
theorem KA.GI.cS{a:KA}{T:Int}(h:a.GI)(ok:a.Zf T)(n x m:Int):(a.dC n x m).GI/\a.jx n x m=(if a.aA n≠0 then a.aA n else(a.rA n x m).2.1):=by
 by_cases c:a.aA n≠0
 ·unfold KA.dC KA.jx;rw[if_pos c,if_pos c,if_pos c];exact⟨h,rfl⟩
 ·obtain⟨hn,hs⟩:=aR (show a.aA n=0 by omega);obtain⟨e1,e2⟩:=GA a.v (a.f n.toNat) x m;by_cases d:(a.rA n x m).2.1≠0
  ·have em:a.rA n x m=(0,1,a.v,a.f n.toNat):=by
    unfold KA.rA Vm.MS.cS at d ⊢;split at d
    ·rename_i q;rw[if_pos q]
    ·exact absurd rfl d
   have e:a.dC n x m=a:=by
    unfold KA.dC;rw[if_neg c,em,if_pos (show((0:Int),(1:Int),a.v,a.f n.toNat).2.1≠0 from(by decide:(1:Int)≠0)),fJ]
   rw[e];refine⟨h,?_⟩;unfold KA.jx;rw[if_neg c,if_neg c,if_pos d]
  ·obtain⟨f1,f2⟩:=D3 (a:=a) (m:=(a.rA n x m).2.2.2) hn.1 (a.rA n x m).2.2.1 (a.g.dz (a.u n).cL 0 (a.rA n x m).1) a.u a.O a.P;have e:a.dC n x m= {a with v:=(a.rA n x m).2.2.1,f:=aJ a.f n.toNat (a.rA n x m).2.2.2,g:=a.g.dz (a.u n).cL 0 (a.rA n x m).1} :=by
    unfold KA.dC;rw[if_neg c,if_neg d]
   have k:=h.aaX (a':= {a with v:=(a.rA n x m).2.2.1,f:=aJ a.f n.toNat (a.rA n x m).2.2.2,g:=a.g.dz (a.u n).cL 0 (a.rA n x m).1}) ok.wk.gI.ok hn og (fun p=>⟨Iff.rfl,rfl⟩) f1 (a.rA n x m).1 (by
    rw[f2]
    show(a.f n.toNat).gk=_
    unfold KA.rA;rw[e1];omega) rfl e2
   rw[e];refine⟨k.1,?_⟩;unfold KA.jx;rw[if_neg c,if_neg c,if_neg d,k.2];omega
def KA.GI.s5{a:KA}(h:a.GI)(wk:a.Wk T)(p w:Int):(a.nH p w).GI:=by
 unfold KA.nH;split
 ·exact h
 ·by_cases c:a.g.tZ p=0
  ·obtain⟨_,_,k0,k1,kh,_⟩:=Gr.TG.Mx c;have no:∀ n,0<=n->n<20->(a.u n).st≠0->(a.u n).cL≠a.g.jS p:=fun n a0 a1 q e=>by
    have:=(Gr.TG.lY (h.cL n a0 a1 q)).2.2;rw[e,kh]at this;cases this
   have hh:(a.g.add p).aa=ad a.g.aa (a.g.jS p) true:=by unfold Gr.TG.add;rw[if_pos c];rfl
   refine⟨fun n a0 a1 q=> ?_,?_⟩
   ·obtain⟨g0,g1,g2⟩:=Gr.TG.lY (h.cL n a0 a1 q);refine Gr.TG.Mo g0 g1 ?_;show(a.g.add p).aa (a.u n).cL=true;rw[hh,ae _ _ (no n a0 a1 q)];exact g2
   ·refine kG (h.aX.add wk.gI.ok c) (fun y _ _ _=> ?_) (fun y y0 y1 hy=> ?_)
    ·show a.vQ y=_;by_cases e:y=a.g.jS p
     ·rw[e,aj];exact jF 20 fun j j0 j1=>if_neg fun q=>no j j0 og q.1 q.2
     ·rw[ae _ _ e]
    ·show a.sH y=_;by_cases e:y=a.g.jS p
     ·rw[e,aj];refine jF 20 fun j j0 j1=> ?_;unfold KA.rc;by_cases q:(a.u j).st=0
      ·rw[wk.acX ⟨j0,og⟩];split<;>rfl
      ·rw[if_neg (no j j0 og q)]
     ·rw[ae _ _ e]
  ·have e:a.g.add p=a.g:=(Gr.TG.r7 c).2;rw[e];exact h
def KA.GI.o3{a:KA}(h:a.GI)(wk:a.Wk T)(n:Int):(a.Au n).GI:=by
 refine⟨fun p p0 p1 q=> ?_,h.aX.dG wk.gI n⟩;have hg:=h.cL p p0 p1 q;show(a.g.dG n).cF (a.u p).cL=0;by_cases c:a.g.dp n=0
 ·obtain⟨k0,k1,k2,k3,k4⟩:=Gr.TG.Ae c;have e:(a.g.dG n).aa=ad a.g.aa n false:=by unfold Gr.TG.dG;rw[if_pos c];rfl
  obtain⟨g0,g1,g2⟩:=Gr.TG.lY hg;refine Gr.TG.Mo g0 g1 ?_;rw[e];by_cases d:(a.u p).cL=n
  ·exfalso;have l:=(h.left ⟨p0,p1⟩ q).1;rw[d]at l;have z:eC (a.g.ie a.g.pr n) 10=0:=jF 10 fun j j0 j1=>by
    unfold Gr.TG.ie;by_cases x:a.g.aa j=true/\a.g.aD j=n
    ·exact absurd x.2 (Gr.TG.UQ k4 j0 og x.1)
    ·rw[if_neg x]
   unfold Gr.TG.left at l;omega
  ·rw[ae _ _ d];exact g2
 ·have e:a.g.dG n=a.g:=by unfold Gr.TG.dG;rw[if_neg c]
  rw[e];exact hg
theorem Ng(g:Gr.TG)(n p m:Int):(g.jC n p m).aa=g.aa/\(g.jC n p m).pr=g.pr/\(g.jC n p m).pg=g.pg:=by unfold Gr.TG.jC;split<;>exact⟨rfl,rfl,rfl⟩
def KA.GI.SD{a:KA}(h:a.GI)(n p m:Int):(a.Rw n p m).GI:=
 ⟨fun y a0 a1 q=>by
  have:=h.cL y a0 a1 q
  show(a.g.jC n p m).cF (a.u y).cL=0
  unfold Gr.TG.cF at this ⊢
  rw[(Ng _ _ _ _).1];exact this,h.aX.jC n p m⟩
def KA.GI.wL{a:KA}(h:a.GI)(wk:a.Wk T)(n z:Int):(a.mJ n z).GI:=by
 unfold KA.mJ;split
 ·exact h
 ·rename_i c;obtain⟨hn,hs⟩:=aR (show a.aA n=0 by omega);have hE:a.g.eK (a.u n).cL z 1 (a.gk n)=0:=by
    have:a.Gt n z=0:=og;exact this
  obtain⟨m1,m2,m3⟩:=Gr.TG.O4 hE;have hz:=Gr.TG.vj m2;have hl:jP a.g (a.g.move (a.u n).cL z 1 (a.gk n)):=by rw[m3];exact jP.trans (rk _ _ _ _) (na _ _ _ _)
  have iz:a.g.cF z=0:=by
   have:=Gr.TG.Mo hz.1.1 hz.1.2.1 hz.1.2.2;rwa[nm _ _ (rk _ _ _ _)]at this
  have uu:∀ p,p≠n->ad a.u n {a.u n with cL:=z} p=a.u p:=fun p hp=>ae _ _ hp;have un:ad a.u n {a.u n with cL:=z} n= {a.u n with cL:=z} :=aj _ _ _;refine⟨fun p p0 p1 q=> ?_,?_⟩
  ·show(a.g.move _ _ _ _).cF (ad a.u n {a.u n with cL:=z} p).cL=0;rw[nm _ _ hl];have q:(ad a.u n {a.u n with cL:=z} p).st≠0:=q;by_cases e:p=n
   ·rw[e,un];exact iz
   ·rw[uu p e]at q ⊢;exact h.cL p p0 p1 q
  ·refine kG (h.aX.move wk.gI.ok hE) (fun y _ _ _=> ?_) (fun y _ _ _=> ?_)
   ·have k:=kZ (f:=a.pc y) (f':=KA.pc {a with u:=ad a.u n {a.u n with cL:=z},g:=a.g.move (a.u n).cL z 1 (a.gk n)} y) (n:=n) (k:=20) hn.1 og (fun j _ _ c=>by
     unfold KA.pc
     show(if(ad a.u n {a.u n with cL:=z} j).st≠0/\(ad a.u n {a.u n with cL:=z} j).cL=y then(1:Int)else 0)=_
     rw[uu j c])
    refine Eq.trans (b:=a.vQ y-a.pc y n+(if z=y then 1 else 0)) ?_ ?_
    ·refine k.trans ?_;have:KA.pc {a with u:=ad a.u n {a.u n with cL:=z},g:=a.g.move (a.u n).cL z 1 (a.gk n)} y n=if z=y then 1 else 0:=by
      unfold KA.pc;show(if(ad a.u n {a.u n with cL:=z} n).st≠0/\(ad a.u n {a.u n with cL:=z} n).cL=y then(1:Int)else 0)=_;rw[un];by_cases e:z=y
      ·rw[if_pos e,if_pos ⟨by show(a.u n).st≠0;omega,e⟩]
      ·rw[if_neg e,if_neg fun q=>e q.2]
     rw[this];rfl
    ·have e1:a.pc y n=if(a.u n).cL=y then 1 else 0:=by
      unfold KA.pc;by_cases e:(a.u n).cL=y
      ·rw[if_pos e,if_pos ⟨og,e⟩]
      ·rw[if_neg e,if_neg fun q=>e q.2]
     rw[e1];by_cases e:y=z
     ·rw[e,aj,if_pos rfl];by_cases d:(a.u n).cL=z
      ·rw[d,aj,if_pos rfl]
      ·rw[if_neg d,ae _ _ fun q=>d q.symm];omega
     ·rw[ae _ _ e,if_neg (show ¬z=y from fun q=>e q.symm)];by_cases d:(a.u n).cL=y
      ·rw[d,aj,if_pos rfl];omega
      ·rw[if_neg d,ae _ _ fun q=>d q.symm];omega
   ·have k:=kZ (f:=a.rc y) (f':=KA.rc {a with u:=ad a.u n {a.u n with cL:=z},g:=a.g.move (a.u n).cL z 1 (a.gk n)} y) (n:=n) (k:=20) hn.1 og (fun j _ _ c=>by
     unfold KA.rc
     show(if(ad a.u n {a.u n with cL:=z} j).cL=y then a.gk j else 0)=_
     rw[uu j c])
    refine Eq.trans (b:=a.sH y-a.rc y n+(if z=y then a.gk n else 0)) ?_ ?_
    ·refine k.trans ?_;have:KA.rc {a with u:=ad a.u n {a.u n with cL:=z},g:=a.g.move (a.u n).cL z 1 (a.gk n)} y n=if z=y then a.gk n else 0:=by
      unfold KA.rc;show(if(ad a.u n {a.u n with cL:=z} n).cL=y then a.gk n else 0)=_;rw[un]
     rw[this];rfl
    ·unfold KA.rc;by_cases e:y=z
     ·rw[e,aj,if_pos rfl];by_cases d:(a.u n).cL=z
      ·rw[d,aj,if_pos rfl]
      ·rw[if_neg d,ae _ _ fun q=>d q.symm];omega
     ·rw[ae _ _ e,if_neg (show ¬z=y from fun q=>e q.symm)];by_cases d:(a.u n).cL=y
      ·rw[d,aj,if_pos rfl];omega
      ·rw[if_neg d,ae _ _ fun q=>d q.symm];omega
theorem GB{fr:Int->Int}{i v:Int}(h:0<=i/\i<16:=by omega)(hv:0<v:=by omega):tg (ad fr i v) 16=tg fr 16+(if 0<fr i then 0 else 1):=by
 rw[uN,uN,kZ (f:=fun j=>if 0<fr j then 1 else 0) (f':=fun j=>if 0<ad fr i v j then 1 else 0) (n:=i) (k:=16) h.1 og (fun j _ _ c=>by show(if 0<ad fr i v j then(1:Int)else 0)=_;rw[ae _ _ c])];show _-(if 0<fr i then(1:Int)else 0)+(if 0<ad fr i v i then 1 else 0)=_;rw[aj,if_pos hv];split<;>omega
theorem vk{v:VB}(h:v.Ok)(e:v.take.2.1=0):0<=v.take.1:=by
 have k:=ny h e;exact k.1
def GC{v:VB}(hv:v.Ok)(hm:m.Ok)(x:Int)(w:Bool):(m.bF v x w).2.2.2.gk=m.gk+(if(m.bF v x w).2.1=0/\m.l5 x=true then 1 else 0):=by
 have lo:=hm.lo (x/8);unfold Vm.MS.bF;by_cases c1:m.sm x w=false
 ·rw[if_pos c1,if_neg (fun q=>absurd (show(10:Int)=0 from q.1) dq)];exact(Int.add_zero _).symm
 ·rw[if_neg c1];have sm:m.sm x w=true:=by simpa using c1
  have rx:=Vm.MS.kB sm;have m0:m.sm x false=true:=by
   unfold Vm.MS.sm at sm ⊢;simp only[Bool.and_eq_true,Bool.or_eq_true,decide_eq_true_eq,beq_iff_eq]at sm ⊢;exact⟨sm.1,sm.2.imp id fun q=>⟨q.1,rfl⟩⟩
  by_cases c2:m.fr (x/8)=0
  ·have wa:m.l5 x=true:=by unfold Vm.MS.l5;rw[m0,c2];rfl
   rw[if_pos c2];by_cases c3:v.take.2.1≠0
   ·rw[if_pos c3,if_neg fun q=>c3 q.1];exact(Int.add_zero _).symm
   ·rw[if_neg c3,if_pos ⟨rfl,wa⟩];show tg (ad m.fr (x/8) (v.take.1+1)) 16=_;have:=vk hv og;rw[GB,if_neg og];rfl
  ·have wa:m.l5 x=false:=by unfold Vm.MS.l5;rw[beq_false_of_ne c2];simp
   rw[if_neg c2,wa];have z:∀ {p:Prop} [Decidable p],(if p/\false=true then(1:Int)else 0)=0:=if_neg fun q=>by cases q.2
   rw[z,Int.add_zero];split
   ·rfl
   ·split
    ·rfl
    ·split
     ·rfl
     ·rename_i c3;show tg (ad m.fr (x/8) (v.take.1+1)) 16=_;have:=vk hv og;rw[GB,if_pos og];exact Int.add_zero _
def Nh(v:VB)(m:Vm.MS)(x:Int):(m.load v x).2.1=(m.bF v x false).2.1/\(m.load v x).2.2.2=(m.bF v x false).2.2.2:=by
 unfold Vm.MS.load;show(if(m.bF v x false).2.1≠0 then _ else _:Int×Int×VB×Vm.MS).2.1=_/\(if(m.bF v x false).2.1≠0 then _ else _:Int×Int×VB×Vm.MS).2.2.2=_;split
 ·exact⟨rfl,rfl⟩
 ·rename_i c;exact⟨by show(0:Int)=_;omega,rfl⟩
def KW(v:VB)(m:Vm.MS)(x y:Int):(m.store v x y).1=(m.bF v x true).2.1/\(m.store v x y).2.2=(m.bF v x true).2.2.2:=by
 unfold Vm.MS.store;show(if(m.bF v x true).2.1≠0 then _ else _:Int×VB×Vm.MS).1=_/\(if(m.bF v x true).2.1≠0 then _ else _:Int×VB×Vm.MS).2.2=_;split
 ·exact⟨rfl,rfl⟩
 ·rename_i c;exact⟨by show(0:Int)=_;omega,rfl⟩
structure Zh (n x:Int) (D:TD):Prop where
 u:∀ b:KA,(D.A b).u=b.u/\(D.A b).g=b.g/\(∀ j,0<=j->j≠n->(D.A b).f j.toNat=b.f j.toNat)
 r:∀ {b:KA} {S:Int},b.Ok S->b.aA n=0->(D.A b).gk n=b.gk n+(if D.e b=0/\(b.f n.toNat).l5 x=true then 1 else 0)
def VS(hn:0<=n):Zh n x (Rv n x):=
 ⟨fun b=>⟨rfl,rfl,fun j j0 c=>b7 _ _ og⟩,fun {b S} ok c=>by
  have k:=GC (v:=b.v) (m:=b.f n.toNat) ok.wk.sys.ja.ok (ok.wk.sys.mo _ (by have:=(aR c).1;omega)) x false
  obtain⟨e1,e2⟩:=Nh b.v (b.f n.toNat) x
  show(aJ b.f n.toNat ((b.f n.toNat).load b.v x).2.2.2 n.toNat).gk=_
  rw[bW,e2,k]
  exact congrArg (b.gk n+ ·) (ite_congr (by rw[show(Rv n x).e b=_ from e1]) (fun _=>rfl) fun _=>rfl)⟩
def VT{y:Int}(hn:0<=n):Zh n x (LC n x y):=
 ⟨fun b=>⟨rfl,rfl,fun j j0 c=>b7 _ _ og⟩,fun {b S} ok c=>by
  have k:=GC (v:=b.v) (m:=b.f n.toNat) ok.wk.sys.ja.ok (ok.wk.sys.mo _ (by have:=(aR c).1;omega)) x true
  obtain⟨e1,e2⟩:=KW b.v (b.f n.toNat) x y
  show(aJ b.f n.toNat ((b.f n.toNat).store b.v x y).2.2 n.toNat).gk=_
  rw[bW,e2,k]
  exact congrArg (b.gk n+ ·) (ite_congr (by rw[show(LC n x y).e b=_ from e1]) (fun _=>rfl) fun _=>rfl)⟩
def aaY(a b:KA):Prop:=∀ z,0<=z->z<20->(b.u z).st=1->(a.u z).st=1/\b.f z.toNat=a.f z.toNat
def HX(a:KA):da (aaY a) where
 rest:=fun h hu z z0 z1 q=>h z z0 z1 (by rw[<-(hu z).1];exact q)
 end_:=fun {b T n} co w hn hl h z z0 z1 q=>by
  by_cases c:z=n
  ·subst c;rw[ml]at q;exact absurd q dq
  ·rw[ov _ _ c]at q
   obtain⟨h1,h2⟩:=h z z0 z1 q
   refine⟨h1,?_⟩
   show aJ b.f n.toNat _ z.toNat=_
   rw[b7 _ _ og];exact h2
 Ap:=fun {b T n} w hn hs h z z0 z1 q=>by
  by_cases c:z=n
  ·subst c
   rw[show(b.eY z).u z=PA.nil from aj _ _ _]at q
   exact absurd (show(0:Int)=1 from q) dq
  ·rw[mj _ c]at q;exact h z z0 z1 q
 spc:=fun s h=>h
def da.and{I J:KA->Prop}(S:da I)(R:da J):da (fun a=>I a/\J a):=
 ⟨fun h hu=>⟨S.rest h.1 hu,R.rest h.2 hu⟩,fun co w hn hl h=>⟨S.end_ co w hn hl h.1,R.end_ co w hn hl h.2⟩,fun w hn hs h=>⟨S.Ap w hn hs h.1,R.Ap w hn hs h.2⟩,fun s h=>⟨S.spc s h.1,R.spc s h.2⟩⟩
def Av{a:KA}(ok:a.Ok T)(hT:T<=900000){w:Bool}{D:TD}{y0:Int}(hD:Zh n x D){I:KA->Prop}(S:da I)(h:I a):(∃ e,(a.iP n x w D y0).1=e/\e≠0/\I (a.iP n x w D y0).2.1)\/(a.aA n=0/\(a.f n.toNat).l5 x=false/\a.iP n x w D y0=(D.e a,D.A a,D.y a))\/∃ b:KA,I b/\b.Ok T/\aaY a b/\b.aA n=0/\(b.f n.toNat).l5 x=true/\b.g.cY (b.u n).cL 0 1=0/\({b with v:=b.v,f:=b.f,g:=b.g.bE (b.u n).cL 0 1} :KA).Ok (T+1)/\a.iP n x w D y0=(D.e {b with v:=b.v,f:=b.f,g:=b.g.bE (b.u n).cL 0 1},if D.e {b with v:=b.v,f:=b.f,g:=b.g.bE (b.u n).cL 0 1} ≠0 then(D.A {b with v:=b.v,f:=b.f,g:=b.g.bE (b.u n).cL 0 1}).Xj n else D.A {b with v:=b.v,f:=b.f,g:=b.g.bE (b.u n).cL 0 1},D.y {b with v:=b.v,f:=b.f,g:=b.g.bE (b.u n).cL 0 1}):=by
 unfold KA.iP;by_cases c1:a.aA n≠0
 ·rw[if_pos c1];exact .inl ⟨_,rfl,c1,h⟩
 ·rw[if_neg c1];by_cases c2:(a.f n.toNat).sm x w=false
  ·rw[if_pos c2];exact .inl ⟨10,rfl,dq,h⟩
  ·rw[if_neg c2];by_cases c3:(a.f n.toNat).l5 x=true
   ·rw[if_pos c3];obtain⟨b,⟨hb,hk⟩,tq,r1,r2⟩:=(S.and (HX a)).room (n:=n) 21 ok ⟨h,fun z _ _ q=>⟨q,rfl⟩⟩;by_cases c4:(a.cx n).1≠0
    ·rw[if_pos c4];refine .inl ⟨_,rfl,c4,?_⟩;show I (a.kt n 21).2;rw[r1 c4];exact hb
    ·rw[if_neg c4];have c5:(a.kt n 21).1=0:=by
       have:(a.cx n).1=0:=og;exact this
     obtain⟨q1,q2,q3⟩:=r2 c5;have e:(a.cx n).2= {b with v:=b.v,f:=b.f,g:=b.g.bE (b.u n).cL 0 1} :=q3;obtain⟨hn,hs⟩:=aR q1;have okc:=(ok.bE hT n).1;rw[e]at okc ⊢;exact .inr (.inr ⟨b,hb,tq,hk,q1,by rw[(hk n hn.1 hn.2 hs).2];exact c3,q2,okc,rfl⟩)
   ·rw[if_neg c3];exact .inr (.inl ⟨og,by simpa using c3,rfl⟩)
def KA.GI.tch{a:KA}(h:a.GI)(ok:a.Ok T)(hT:T<=900000){w:Bool}{D:TD}{y0:Int}(hD:Zh n x D):(a.iP n x w D y0).2.1.GI:=by
 rcases Av (w:=w) (y0:=y0) ok hT hD lN h with⟨_,_,_,q⟩ | ⟨q1,q2,q3⟩ | ⟨b,hb,tq,hk,q1,q2,q3,q4,q5⟩
 ·exact q
 ·rw[q3];obtain⟨u1,u2,u3⟩:=hD.u a;have r:=hD.r ok q1;rw[q2,if_neg fun q=>by cases q.2]at r;refine h.same (fun _=>by rw[u1];exact⟨rfl,rfl⟩) u2 fun j j0=> ?_;by_cases c:j=n
  ·subst c;show(D.A a).gk j=_;rw[r];omega
  ·show((D.A a).f j.toNat).gk=_;rw[u3 j j0 c];rfl
 ·rw[q5];obtain⟨hn,hs⟩:=aR q1;have o1:=hb.aX.bE tq.wk.gI.ok q3;generalize hc:({b with v:=b.v,f:=b.f,g:=b.g.bE (b.u n).cL 0 1} :KA)=c at*;obtain⟨u1,u2,u3⟩:=hD.u c;have cu:c.u=b.u:=by rw[<-hc]
  have cg:c.g=b.g.bE (b.u n).cL 0 1:=by rw[<-hc]
  have cf:c.f=b.f:=by rw[<-hc]
  have r:=hD.r q4 (show c.aA n=0 by rw[<-hc];exact q1);rw[cf,q2]at r;have cr:∀ j,c.gk j=b.gk j:=fun j=>by unfold KA.gk;rw[cf]
  rw[cr]at r;have hp:∀ y,(D.A c).vQ y=b.vQ y:=fun y=>fI 20 fun j _ _=>by unfold KA.pc;rw[u1,cu]
  have hr:∀ y,(D.A c).sH y=b.sH y+(if(b.u n).cL=y/\D.e c=0 then 1 else 0):=fun y=>by
   have k:=kZ (f:=b.rc y) (f':=(D.A c).rc y) (n:=n) (k:=20) hn.1 og (fun j j0 _ d=>by
    unfold KA.rc KA.gk;rw[u1,cu,u3 j j0 d,cf])
   have k:(D.A c).sH y=b.sH y-b.rc y n+(D.A c).rc y n:=k;rw[k];unfold KA.rc;rw[u1,cu,r];by_cases d:(b.u n).cL=y
   ·rw[if_pos d,if_pos d];by_cases e:D.e c=0
    ·rw[if_pos ⟨e,rfl⟩,if_pos ⟨d,e⟩];omega
    ·rw[if_neg fun q=>e q.1,if_neg fun q=>e q.2];omega
   ·rw[if_neg d,if_neg d,if_neg fun q=>d q.1];omega
  have gr:∀ p,0<=p->p<20->((D.A c).u p).st≠0->(b.g.bE (b.u n).cL 0 1).cF ((D.A c).u p).cL=0:=fun p p0 p1 q=>by
   rw[u1,cu]at q ⊢;rw[nm _ _ (na _ _ _ _)];exact hb.cL p p0 p1 q
  by_cases e:D.e c=0
  ·show(if D.e c≠0 then(D.A c).Xj n else D.A c).GI;rw[if_neg fun q=>q e];refine⟨by rw[u2,cg];exact gr,by
    rw[u2,cg]
    refine kG o1 (fun y _ _ _=> ?_) fun y _ _ _=> ?_
    ·rw[hp]
     by_cases d:y=(b.u n).cL
     ·rw[d,aj];omega
     ·rw[ae _ _ d]
    ·rw[hr]
     by_cases d:y=(b.u n).cL
     ·rw[d,aj,if_pos ⟨rfl,e⟩]
     ·rw[ae _ _ d,if_neg fun q=>d q.1.symm];omega⟩
  ·show(if D.e c≠0 then(D.A c).Xj n else D.A c).GI;rw[if_pos e];have i1:=gr n hn.1 hn.2 (by rw[u1,cu];omega);rw[u1,cu]at i1;obtain⟨k0,k1,k2⟩:=Gr.TG.lY i1;obtain⟨e1,e2⟩:=o1 _ k0 k1 k2;rw[aj]at e1 e2;obtain⟨j0,j1,j2⟩:=Gr.TG.lY (hb.cL n hn.1 hn.2 og);obtain⟨f1,f2⟩:=hb.aX _ j0 j1 j2;obtain⟨l1,l2⟩:=hb.left hn og;have rrz:0<=b.gk n:=(zh _).1;have ue:(b.g.bE (b.u n).cL 0 1).fP (b.u n).cL 0 1=0:=Cd i1 ⟨og,og⟩ ⟨og,og⟩;have hg:((D.A c).Xj n).g=(b.g.bE (b.u n).cL 0 1).dz (b.u n).cL 0 1:=by
    show(D.A c).g.dz ((D.A c).u n).cL 0 1=_;rw[u2,u1,cu,cg]
   refine⟨fun p p0 p1 q=>by rw[hg,nm _ _ (rk _ _ _ _)];exact gr p p0 p1 q,by
    rw[hg]
    refine kG (o1.dz (tq.wk.gI.bE _ _ _).ok ue) (fun y _ _ _=> ?_) fun y _ _ _=> ?_
    ·show(D.A c).vQ y=_
     rw[hp]
     by_cases d:y=(b.u n).cL
     ·rw[d,aj,aj];omega
     ·rw[ae _ _ d,ae _ _ d]
    ·show(D.A c).sH y=_
     rw[hr,if_neg fun q=>e q.2]
     by_cases d:y=(b.u n).cL
     ·rw[d,aj,aj];omega
     ·rw[ae _ _ d,ae _ _ d];omega⟩
theorem KA.GI.load{a:KA}(h:a.GI)(ok:a.Ok T)(hT:T<=900000)(n x:Int):(a.eM n x).2.1.GI:=by
 by_cases c:0<=n
 ·exact h.tch ok hT (VS c)
 ·have:a.aA n=1:=if_pos (.inl og);unfold KA.eM KA.iP;rw[if_pos og];exact h
theorem KA.GI.store{a:KA}(h:a.GI)(ok:a.Ok T)(hT:T<=900000)(n x y:Int):(a.dW n x y).2.1.GI:=by
 by_cases c:0<=n
 ·exact h.tch ok hT (VT c)
 ·have:a.aA n=1:=if_pos (.inl og);unfold KA.dW KA.iP;rw[if_pos og];exact h
def KA.GI.io{a:KA}(h:a.GI){u:Int->PA}(hu:∀ p,(u p).st=(a.u p).st/\(u p).cL=(a.u p).cL)(O:Tr.OS)(P:Tr.PS):({a with u:=u,O:=O,P:=P} :KA).GI:=h.same hu rfl fun _ _=>rfl
def np(u:Int->PA)(n i v p:Int):(Bn u n i v p).st=(u p).st/\(Bn u n i v p).cL=(u p).cL:=by
 unfold Bn;by_cases e:p=n
 ·subst e;rw[aj];exact⟨rfl,rfl⟩
 ·rw[ae _ _ e];exact⟨rfl,rfl⟩
def O6(m:Vm.MS)(x n:Int)(w:Bool):(m.map x n w).gk=m.gk/\(m.mz x n w).gk=m.gk:=by
 unfold Vm.MS.gk;rw[(Vm.MS.Hp _ _ _ _).1,(Vm.MS.B0 _ _ _ _).1];exact⟨rfl,rfl⟩
def KA.GI.acY{a a1:KA}{F:Tr.FF}{x:iU}(h:a.GI)(ok:a.Ok T)(hT:T<=800000)(s:a.qn F x a1):a1.GI:=by
 have q:∀ {b:KA} {P:Prop} [Decidable P],b.GI->(if P then a else b).GI:=fun hb=>by
  split
  ·exact h
  ·exact hb
 cases s with
 | same=>exact h
 | dU=>exact lN.dU ok.wk _ h
 | sD=>exact lN.sD ok.wk _ _ _ h
 | dZ=>exact lN.dZ ok.wk _ _ _ h
 | jm=>exact lN.jm ok.wk _ _ _ h
 | take=>exact lN.take _ h
 | map=>
  unfold KA.DZ;split
  ·exact h
  ·rename_i c;exact h.mem (aR (by omega:a.aA x.a=0)).1.1 (O6 _ _ _ _).1 _
 | mz=>
  unfold KA.uL;split
  ·exact h
  ·rename_i c;exact h.mem (aR (by omega:a.aA x.a=0)).1.1 (O6 _ _ _ _).2 _
 | drop=>exact h.o3 ok.wk _
 | O3 o=>
  rcases o with rfl | ⟨_,_,_,_,_,rfl⟩
  ·exact h
  ·exact h.io (np _ _ _ _) _ a.P
 | close=>exact q (h.io (np _ _ _ _) _ _)
 | dup=>exact q (h.io (np _ _ _ _) _ a.P)
 | Kq=>
  refine q ?_;split
  ·exact(h.io (np _ _ _ _) a.O a.P).io (np _ _ _ _) _ _
  ·exact h.io (fun _=>⟨rfl,rfl⟩) _ _
 | mU=>exact q (h.io (fun _=>⟨rfl,rfl⟩) _ _)
 | cb=>
  have h1:(a.uK F x.a x.b x.s).GI:=h.io (fun _=>⟨rfl,rfl⟩) _ _;refine q ?_;split
  ·exact lN.send (ok.Gn og F _ _ _).wk _ _ _ h1
  ·exact h1
 | Kr=>exact q (h.io (fun _=>⟨rfl,rfl⟩) _ a.P)
def KA.GI.step{a a1:KA}{c c1:KC}{x:iU}{e:Int}(h:a.GI)(ok:a.Ok T)(hT:T<=800000)(s:a.pI c c1 x a1 n e):a1.GI:=by
 cases s with
 | im _=>exact h.im ok.o0 _ _
 | exit _=>exact lN.mH ok.wk _ _ h
 | cS _=>exact(h.cS ok.o0 _ _ _).1
 | load _=>exact h.load ok og _ _
 | store _=>exact h.store ok og _ _ _
 | kM _ _ _=>exact h
 | SD _=>exact h.SD _ _ _
 | wL _ _ _=>exact h.wL ok.wk _ _
 | add _ _ _=>exact h.s5 ok.wk _ _
 | pA _ r _ _=>exact h.acY ok hT r
def aaZ:A0.GI:=by
 have hl:jP Gr.TG.cC G0:=na _ _ _ _;have o:=Gr.TG.Own.cC.bE Gr.TG.Inv.cC.ok (n:=0) (p:=1) (m:=0) dk;refine⟨fun n a0 a1 q=> ?_,kG o (fun y _ _ _=> ?_) fun y _ _ _=> ?_⟩
 ·have e:n=0:=Decidable.byContradiction fun c=>by rw[D2,if_neg c]at q;exact q rfl
  subst e;show G0.cF 0=0;decide+kernel
 ·have k:=kZ (f:=fun _=>0) (f':=A0.pc y) (n:=0) (k:=20) og og (fun j _ _ c=>by
   unfold KA.pc;rw[D2,if_neg c];exact if_neg fun q=>q.1 rfl)
  have k:A0.vQ y=_:=k;rw[k,jF 20 fun _ _ _=>rfl];show 0-0+(if(A0.u 0).st≠0/\(A0.u 0).cL=y then(1:Int)else 0)=_;rw[D2,if_pos rfl];by_cases d:y=0
  ·subst d;rw[aj];rfl
  ·rw[ae _ _ d,if_neg fun q=>d q.2.symm];rfl
 ·have k:A0.sH y=0:=jF 20 fun j _ _=>by unfold KA.rc;split<;>rfl
  rw[k];by_cases d:y=0
  ·subst d;rw[aj];rfl
  ·rw[ae _ _ d]
end Go.X.Kn

namespace Go.X.Vm
open Go Go.X
variable{a i n:Int}{k z:Nat}
theorem VB.kX.take{v:VB}(h:v.bb.kX):v.take.2.2.bb.kX:=by
 by_cases c:(v.bb.take 0).2.1=0
 ·rw[VB.lq c];exact h.take 0
 ·rw[lB c];exact h
theorem VB.kX.drop{v:VB}(h:v.bb.kX)(g:Int):(v.drop g).bb.kX:=by
 by_cases c:v.rf g-1=0
 ·rw[vn c];exact h.o8 g
 ·rw[vo c];exact h
theorem D4(v:VB)(g:Int):(v.drop g).fR=v.fR:=by unfold VB.drop;split<;>rfl
def D5{fr:Int->Int}{a:Int} :∀ (k:Nat) {v:VB},v.bb.kX->(A9 v fr a k).2.bb.kX
 | 0,_,h=>h
 | k+1,v,h=>by
  rw[Go.X.Vm.A9];unfold UB;split
  ·exact VB.kX.drop (D5 k h) _
  ·exact D5 k h
def Ni{fr:Int->Int}{a:Int} :∀ (k:Nat) {v:VB},(A9 v fr a k).2.fR=v.fR
 | 0,_=>rfl
 | k+1,v=>by
  rw[Go.X.Vm.A9];unfold UB;split
  ·rw[D4];exact Ni k
  ·exact Ni k
theorem Nj(g:Int)(hg:0<=g):∀ k,cM MS.nil.fr g k=0
 | 0=>rfl
 | k+1=>by rw[cM,Nj g hg k,show MS.nil.fr k=0 from rfl,if_neg og];rfl
def O7(f:Nat->MS){g:Int}(hg:0<=g){j:Nat}(hj:j<k)(hz:z<k)(fN:j≠z):cM (f j).fr g 16+cM (f z).fr g 16<=mT f g k:=by
 have h1:=jN f g (m:=MS.nil) hz;have h2:=uk (aJ f z MS.nil) g hj;rw[b7 _ _ fN]at h2;rw[Nj g hg]at h1;omega
def byteOf(v:VB)(m:MS)(x:Int):Int:=if m.fr (x/8)=0 then 0 else v.fR (m.fr (x/8)-1) (x%8)
structure TV (v:VB) (f:Nat->MS) (k:Nat) (fl:Nat->Int->Int):Prop where
 sys:Sys v f k
 ED:v.bb.kX
 aX:∀ j,j<k->∀ i,(f j).aX i=true->mT f ((f j).fr i-1) k=1
 fl:∀ j,j<k->∀ x,0<=x->x<128->fl j x=byteOf v (f j) x
theorem MS.Ok.Nk{m:MS}(h:m.Ok)(ho:m.aX i=true):0<m.fr i:=by
 have:=h.lo i;by_cases c:m.fr i=0
 ·rw[h.ow i c]at ho;cases ho
 ·omega
theorem Sys.has{v:VB}{f:Nat->MS}{j:Nat}(h:Sys v f k)(hj:j<k)(hi:0<(f j).fr i):(0<=(f j).fr i-1/\(f j).fr i-1<64)/\1<=cM (f j).fr ((f j).fr i-1) 16/\1<=mT f ((f j).fr i-1) k:=by
 have hm:=h.mo j hj;have hr:=hm.ng hi;have hl:=hm.lo i;have h1:=Dk (fr:=(f j).fr) (g:=(f j).fr i-1) hr.1 og (k:=16) og;have h2:=uk f ((f j).fr i-1) hj;exact⟨og,h1,og⟩
theorem TV.same{v:VB}{f:Nat->MS}{k z:Nat}{fl:Nat->Int->Int}(h:TV v f k fl)(hz:z<k){m:MS}(hm:m.Ok)(e:m.fr=(f z).fr)(o:m.aX=(f z).aX):TV v (aJ f z m) k fl:=by
 have ht:∀ g,mT (aJ f z m) g k=mT f g k:=fun g=>by rw[jN f g hz,e];omega
 have hfr:∀ j,(aJ f z m j).fr=(f j).fr/\(aJ f z m j).aX=(f j).aX:=fun j=>by
  by_cases c:j=z
  ·subst c;rw[bW];exact⟨e,o⟩
  ·rw[b7 _ _ c];exact⟨rfl,rfl⟩
 refine⟨h.sys.same hz hm e,h.ED,fun j hj i hi=> ?_,fun j hj x a b=> ?_⟩
 ·rw[ht,(hfr j).1];rw[(hfr j).2]at hi;exact h.aX j hj i hi
 ·rw[h.fl j hj x a b];unfold byteOf;rw[(hfr j).1]
theorem HY{α:Type}{f:Int->α}{v:α}(h:a<=i/\i<a+n):df f a n v i=v:=by unfold df;rw[if_pos h]
theorem zi{α:Type}{f:Int->α}{v:α}(h:¬(a<=i/\i<a+n)):df f a n v i=f i:=by unfold df;rw[if_neg h]
theorem TV.cS{v:VB}{f:Nat->MS}{k z:Nat}{fl:Nat->Int->Int}(h:TV v f k fl)(hz:z<k){a n:Int}(hb:¬fT a n):TV ((f z).cS v a n).2.2.1 (aJ f z ((f z).cS v a n).2.2.2) k (aJ fl z (df (fl z) (8*a) (8*n) 0)):=by
 have hs:=h.sys.cS hz a n;have Xb:=hb;unfold fT at Xb;have hu:(f z).cS v a n=((A9 v (f z).fr a n.toNat).1,0,(A9 v (f z).fr a n.toNat).2,⟨df (f z).ax a n 0,df (f z).fr a n 0,df (f z).aX a n false⟩):=by unfold MS.cS;rw[if_neg hb]
 rw[hu]at hs ⊢;have hs:Sys (A9 v (f z).fr a n.toNat).2 (aJ f z ⟨df (f z).ax a n 0,df (f z).fr a n 0,df (f z).aX a n false⟩) k:=hs;show TV (A9 v (f z).fr a n.toNat).2 (aJ f z ⟨df (f z).ax a n 0,df (f z).fr a n 0,df (f z).aX a n false⟩) k _;have Tf:(A9 v (f z).fr a n.toNat).2.fR=v.fR:=Ni _;have hle:∀ g,0<=g->mT (aJ f z ⟨df (f z).ax a n 0,df (f z).fr a n 0,df (f z).aX a n false⟩) g k<=mT f g k:=fun g hg=>by
  rw[jN f g hz];have:=Hv (f z).fr (a:=a) (g:=g) og hg (k:=n.toNat) og;rw[show((n.toNat:Nat):Int)=n from og]at this;have h9:∀ q,0<=cA (f z).fr a g q:=fun q=>by
   induction q with
   | zero=>simp[cA]
   | succ q ih=>rw[cA];split<;>omega
  have:=h9 n.toNat;show mT f g k-_+cM (df (f z).fr a n 0) g 16<=_;omega
 refine⟨hs,D5 _ h.ED,fun j hj i hi=> ?_,fun j hj x x0 x1=> ?_⟩
 ·have SE:=(hs.mo j hj).Nk hi;obtain⟨hg,h2,h3⟩:=hs.has hj SE;have e:0<(f j).fr i/\(aJ f z ⟨df (f z).ax a n 0,df (f z).fr a n 0,df (f z).aX a n false⟩ j).fr i=(f j).fr i/\(f j).aX i=true:=by
   by_cases c:j=z
   ·subst c;rw[bW]at SE hi ⊢;by_cases d:a<=i/\i<a+n
    ·have SE:0<df (f j).fr a n 0 i:=SE;rw[HY d]at SE;omega
    ·have SE:0<df (f j).fr a n 0 i:=SE;have hi:df (f j).aX a n false i=true:=hi;rw[zi d]at SE hi;exact⟨SE,zi d,hi⟩
   ·rw[b7 _ _ c]at SE hi ⊢;exact⟨SE,rfl,hi⟩
  have h1:=h.aX j hj i e.2.2;rw[e.2.1]at h3 hg ⊢;have:=hle _ hg.1;omega
 ·by_cases c:j=z
  ·subst c;rw[bW,bW];unfold byteOf;show df (fl j) (8*a) (8*n) 0 x=if df (f j).fr a n 0 (x/8)=0 then 0 else(A9 v (f j).fr a n.toNat).2.fR (df (f j).fr a n 0 (x/8)-1) (x%8)
   by_cases d:a<=x/8/\x/8<a+n
   ·rw[HY og,HY d,if_pos rfl]
   ·rw[zi og,zi d,Tf];exact h.fl j hz x x0 x1
  ·rw[b7 _ _ c,b7 _ _ c,h.fl j hj x x0 x1];unfold byteOf;show _=if(f j).fr (x/8)=0 then 0 else(A9 v (f z).fr a n.toNat).2.fR _ _
   rw[Tf]
def uO{v:VB}{m:MS}(hm:m.Ok){w:Bool}(h:(m.bF v a w).2.1=0):m.sm a w=true/\(m.bF v a w).2.2.2.fr (a/8)=(m.bF v a w).1+1/\(w=true->(m.bF v a w).2.2.2.aX (a/8)=true):=by
 rcases MS.lK v m a w with⟨_,e⟩ | ⟨hr,⟨ne,e⟩ | ⟨h0,q,e⟩ | ⟨h0,hw,e⟩ | ⟨h0,_,_,e⟩ | ⟨h0,q,r,_,e⟩⟩<;>rw[e]at h ⊢
 ·exact absurd (show(10:Int)=0 from h) og
 ·exact absurd h ne
 ·exact⟨hr,aj _ _ _,fun _=>aj _ _ _⟩
 ·refine⟨hr,by show m.fr (a/8)=m.fr (a/8)-1+1;omega,fun q=> ?_⟩;rcases hw with c | c
  ·rw[c]at q;cases q
  ·exact c
 ·exact⟨hr,by show m.fr (a/8)=m.fr (a/8)-1+1;omega,fun _=>aj _ _ _⟩
 ·exact⟨hr,aj _ _ _,fun _=>aj _ _ _⟩
theorem KX{f:Nat->MS}(hz:z<k){x g:Int}(hn:0<=n/\n<16):mT (aJ f z ((f z).tf n x)) g k=mT f g k-(if(f z).fr n=g+1 then 1 else 0)+(if x+1=g+1 then 1 else 0):=by
 rw[jN f g hz];show mT f g k-_+cM (ad (f z).fr n (x+1)) g 16=_;rw[yB _ hn.1 og];omega
theorem D6{v:VB}(h:v.take.2.1=0):v.take.2.2.fR=oe v.fR v.take.1 (fun _=>0):=(Dj h).2
theorem TV.bF{v:VB}{f:Nat->MS}{k z:Nat}{fl:Nat->Int->Int}(h:TV v f k fl)(hz:z<k)(a:Int)(w:Bool):TV ((f z).bF v a w).2.2.1 (aJ f z ((f z).bF v a w).2.2.2) k fl:=by
 have hs:=h.sys.bF hz a w;have hm:=h.sys.mo z hz;have hl:=hm.lo (a/8);rcases MS.lK v (f z) a w with⟨_,e⟩ | ⟨hr,⟨_,e⟩ | ⟨h0,q,e⟩ | ⟨_,_,e⟩ | ⟨h0,r1,_,e⟩ | ⟨h0,q,r,_,e⟩⟩<;>rw[e]at hs ⊢
 ·rw[fJ];exact h
 ·rw[fJ];exact h
 ·obtain⟨hx,hF,_⟩:=h.sys.ja.take q;have hF:mT f v.take.1 k=0:=hF;have Iy:=MS.kB hr;have hn:0<=a/8/\a/8<16:=og;have qq:∀ j,j<k->∀ i,(f j).fr i≠v.take.1+1:=fun j hj i=>by rcases h.sys.free hj hF i with c | c<;>omega
  refine⟨hs,VB.kX.take h.ED,fun j hj i hi=> ?_,fun j hj x x0 x1=> ?_⟩
  ·rw[KX hz hn,h0];rw[if_neg (c:=(0:Int)=_) (by have:=(hs.mo j hj).Nk hi;omega)];by_cases c:j=z
   ·subst c;rw[bW]at hi ⊢;have hi:ad (f j).aX (a/8) true i=true:=hi;show mT f (ad (f j).fr (a/8) (v.take.1+1) i-1) k-0+(if v.take.1+1=ad (f j).fr (a/8) (v.take.1+1) i-1+1 then 1 else 0)=1;by_cases d:i=a/8
    ·rw[d,aj,if_pos og,show v.take.1+1-1=v.take.1 from og,hF];rfl
    ·rw[ae _ _ d]at hi ⊢;rw[if_neg (by have:=qq j hj i;omega),h.aX j hj i hi];rfl
   ·rw[b7 _ _ c]at hi ⊢;rw[if_neg (by have:=qq j hj i;omega),h.aX j hj i hi];rfl
  ·rw[h.fl j hj x x0 x1];unfold byteOf;show _=if(aJ f z ((f z).tf (a/8) v.take.1) j).fr (x/8)=0 then 0 else v.take.2.2.fR ((aJ f z ((f z).tf (a/8) v.take.1) j).fr (x/8)-1) (x%8)
   rw[D6 q];by_cases c:j=z
   ·subst c;rw[bW];show _=if ad (f j).fr (a/8) (v.take.1+1) (x/8)=0 then 0 else oe v.fR v.take.1 (fun _=>0) (ad (f j).fr (a/8) (v.take.1+1) (x/8)-1) (x%8)
    by_cases d:x/8=a/8
    ·rw[d,aj,if_pos h0,if_neg og];unfold oe;rw[if_pos og]
    ·rw[ae _ _ d];unfold oe;rw[if_neg (c:=(f j).fr (x/8)-1=v.take.1) (by have:=qq j hj (x/8);omega)]
   ·rw[b7 _ _ c];unfold oe;rw[if_neg (c:=(f j).fr (x/8)-1=v.take.1) (by have:=qq j hj (x/8);omega)]
 ·rw[fJ];exact h
 ·have hrf:mT f ((f z).fr (a/8)-1) k=1:=by
   obtain⟨hg,_,h2⟩:=h.sys.has hz (i:=a/8) og;have:=h.sys.ja.rf _ hg.1 hg.2;have:v.rf ((f z).fr (a/8)-1)=mT f ((f z).fr (a/8)-1) k:=this;omega
  have ht:∀ g,mT (aJ f z {f z with aX:=ad (f z).aX (a/8) true}) g k=mT f g k:=fun g=>by
   rw[jN f g hz];show mT f g k-cM (f z).fr g 16+cM (f z).fr g 16=_;omega
  refine⟨hs,h.ED,fun j hj i hi=> ?_,fun j hj x x0 x1=> ?_⟩
  ·rw[ht];by_cases c:j=z
   ·subst c;rw[bW]at hi ⊢;have hi:ad (f j).aX (a/8) true i=true:=hi;show mT f ((f j).fr i-1) k=1;by_cases d:i=a/8
    ·rw[d];exact hrf
    ·rw[ae _ _ d]at hi;exact h.aX j hj i hi
   ·rw[b7 _ _ c]at hi ⊢;exact h.aX j hj i hi
  ·rw[h.fl j hj x x0 x1];by_cases c:j=z
   ·subst c;rw[bW];rfl
   ·rw[b7 _ _ c]
 ·obtain⟨hx,hF,_⟩:=h.sys.ja.take q;have hF:mT f v.take.1 k=0:=hF;have Iy:=MS.kB hr;have hn:0<=a/8/\a/8<16:=og;have qq:∀ j,j<k->∀ i,(f j).fr i≠v.take.1+1:=fun j hj i=>by rcases h.sys.free hj hF i with c | c<;>omega
  obtain⟨hg,_,h2⟩:=h.sys.has hz (i:=a/8) og;have hrf:v.rf ((f z).fr (a/8)-1)=mT f ((f z).fr (a/8)-1) k:=h.sys.ja.rf _ hg.1 hg.2;have hfz:=qq z hz (a/8);refine⟨hs,VB.kX.drop (v:=v.take.2.2.copy v.take.1 ((f z).fr (a/8)-1)) (VB.kX.take h.ED) _,fun j hj i hi=> ?_,fun j hj x x0 x1=> ?_⟩
  ·rw[KX hz hn];by_cases c:j=z
   ·subst c;rw[bW]at hi ⊢;have hi:ad (f j).aX (a/8) true i=true:=hi;show mT f (ad (f j).fr (a/8) (v.take.1+1) i-1) k-(if(f j).fr (a/8)=ad (f j).fr (a/8) (v.take.1+1) i-1+1 then 1 else 0)+(if v.take.1+1=ad (f j).fr (a/8) (v.take.1+1) i-1+1 then 1 else 0)=1;by_cases d:i=a/8
    ·rw[d,aj,if_neg og,if_pos og,show v.take.1+1-1=v.take.1 from og,hF];rfl
    ·rw[ae _ _ d]at hi ⊢;have Sz:=h.aX j hj i hi;have fN:¬(f j).fr (a/8)=(f j).fr i-1+1:=fun q=>by rw[show(f j).fr i=(f j).fr (a/8)from og]at Sz;omega
     rw[if_neg fN,if_neg (by have:=qq j hj i;omega),Sz];rfl
   ·rw[b7 _ _ c]at hi ⊢;have Sz:=h.aX j hj i hi;have fN:¬(f z).fr (a/8)=(f j).fr i-1+1:=fun q=>by rw[show(f j).fr i=(f z).fr (a/8)from og]at Sz;omega
    rw[if_neg fN,if_neg (by have:=qq j hj i;omega),Sz];rfl
  ·rw[h.fl j hj x x0 x1];unfold byteOf;show _=if(aJ f z ((f z).tf (a/8) v.take.1) j).fr (x/8)=0 then 0 else((v.take.2.2.copy v.take.1 ((f z).fr (a/8)-1)).drop ((f z).fr (a/8)-1)).fR ((aJ f z ((f z).tf (a/8) v.take.1) j).fr (x/8)-1) (x%8)
   rw[D4];show _=if(aJ f z ((f z).tf (a/8) v.take.1) j).fr (x/8)=0 then 0 else oe v.take.2.2.fR v.take.1 (v.take.2.2.fR ((f z).fr (a/8)-1)) ((aJ f z ((f z).tf (a/8) v.take.1) j).fr (x/8)-1) (x%8)
   rw[D6 q];by_cases c:j=z
   ·subst c;rw[bW];show _=if ad (f j).fr (a/8) (v.take.1+1) (x/8)=0 then 0 else oe (oe v.fR v.take.1 fun _=>0) v.take.1 (oe v.fR v.take.1 (fun _=>0) ((f j).fr (a/8)-1)) (ad (f j).fr (a/8) (v.take.1+1) (x/8)-1) (x%8)
    by_cases d:x/8=a/8
    ·rw[d,aj,if_neg h0,if_neg og];unfold oe;rw[if_pos og,if_neg og]
    ·rw[ae _ _ d];have:=qq j hj (x/8);unfold oe;rw[if_neg (c:=(f j).fr (x/8)-1=v.take.1) og,if_neg (c:=(f j).fr (x/8)-1=v.take.1) og]
   ·rw[b7 _ _ c];have:=qq j hj (x/8);unfold oe;rw[if_neg (c:=(f j).fr (x/8)-1=v.take.1) og,if_neg (c:=(f j).fr (x/8)-1=v.take.1) og]
theorem TV.load{v:VB}{f:Nat->MS}{k z:Nat}{fl:Nat->Int->Int}(h:TV v f k fl)(hz:z<k)(a:Int):TV ((f z).load v a).2.2.1 (aJ f z ((f z).load v a).2.2.2) k fl:=by
 by_cases e:((f z).bF v a false).2.1=0
 ·rw[MS.yA e];exact h.bF hz a false
 ·rw[MS.ui e];exact h.bF hz a false
def TV.VU{v:VB}{f:Nat->MS}{fl:Nat->Int->Int}(h:TV v f k fl)(hz:z<k)(e0:((f z).load v a).2.1=0):(0<=a/\a<128)/\((f z).load v a).1=fl z a:=by
 by_cases e:((f z).bF v a false).2.1=0
 ·obtain⟨h1,h2,_⟩:=uO (h.sys.mo z hz) e;have hr:=MS.kB h1;have ht:=(h.bF hz a false).fl z hz a hr.1 hr.2;rw[bW]at ht;have hx:=(oq h.sys.ja.ok (h.sys.mo z hz) e).1;rw[MS.yA e,ht];unfold byteOf;rw[h2,if_neg og,show((f z).bF v a false).1+1-1=((f z).bF v a false).1 from og];exact⟨hr,rfl⟩
 ·rw[MS.ui e]at e0;exact absurd e0 e
theorem TV.store{v:VB}{f:Nat->MS}{k z:Nat}{fl:Nat->Int->Int}(h:TV v f k fl)(hz:z<k){a b:Int}(hb:0<=b/\b<256)(e0:((f z).store v a b).1=0):TV ((f z).store v a b).2.1 (aJ f z ((f z).store v a b).2.2) k (aJ fl z (ad (fl z) a b)):=by
 have hs:=h.sys.store hz a b hb;by_cases e:((f z).bF v a true).2.1=0
 ·have ht:=h.bF hz a true;obtain⟨h1,h2,h3⟩:=uO (h.sys.mo z hz) e;have hr:=MS.kB h1;have hx:=(oq h.sys.ja.ok (h.sys.mo z hz) e).1;rw[MS.uj e]at hs ⊢;generalize ht9:(f z).bF v a true=t at*;obtain⟨x,er,v2,m2⟩:=t;simp only at hs ht h2 h3 hx ⊢;have ho:=ht.aX z hz (a/8) (by rw[bW];exact h3 trivial);rw[bW,h2,show x+1-1=x from og]at ho;have abI:∀ j,j<k->∀ i,(aJ f z m2 j).fr i=x+1->j=z/\i=a/8:=fun j hj i hi=>by
   obtain⟨g1,g2,g3⟩:=ht.sys.has hj (i:=i) og;rw[hi,show x+1-1=x from og]at g2;have hp:1<=cM (aJ f z m2 z).fr x 16:=by
    have:=(ht.sys.has hz (i:=a/8) (by rw[bW,h2];omega)).2.1;rwa[bW,h2,show x+1-1=x from og,<-bW f z m2]at this
   by_cases c:j=z
   ·subst c;rw[bW]at hi;have LR:=ht.sys.mo j hj;rw[bW]at LR;exact⟨rfl,LR.inj i (a/8) og og⟩
   ·have:=O7 (aJ f z m2) hx.1 hj hz c;omega
  refine⟨hs,ht.ED,ht.aX,fun j hj y y0 y1=> ?_⟩;unfold byteOf;show _=if(aJ f z m2 j).fr (y/8)=0 then 0 else cI v2.fR x (a%8) b ((aJ f z m2 j).fr (y/8)-1) (y%8)
  have hy:=ht.fl j hj y y0 y1;unfold byteOf at hy;have LR:=ht.sys.mo j hj;have Ix:=LR.lo (y/8);unfold cI;by_cases c:j=z/\y=a
  ·obtain⟨rfl,rfl⟩:=c;rw[bW,bW,aj,h2,if_neg og,if_pos ⟨og,rfl⟩]
  ·have e1:aJ fl z (ad (fl z) a b) j y=fl j y:=by
    by_cases d:j=z
    ·subst d;rw[bW,ae _ _ fun q=>c ⟨rfl,q⟩]
    ·rw[b7 _ _ d]
   rw[e1,hy];split
   ·rfl
   ·rename_i d;rw[if_neg (fun q=>by
     have q1:=abI j hj (y/8) og
     exact c ⟨q1.1,og⟩)]
 ·rw[MS.q7 e]at e0;exact absurd e0 e
def TV.VV{v:VB}{f:Nat->MS}{fl:Nat->Int->Int}(h:TV v f k fl)(hz:z<k){b:Int}(e0:¬((f z).store v a b).1=0):TV ((f z).store v a b).2.1 (aJ f z ((f z).store v a b).2.2) k fl:=by
 by_cases e:((f z).bF v a true).2.1=0
 ·rw[MS.uj e]at e0;exact absurd rfl e0
 ·rw[MS.q7 e];exact h.bF hz a true
def MS.RD{v:VB}{m:MS}(hm:m.Ok){b:Int}(e0:(m.store v a b).1=0):0<=a/\a<128:=by
 by_cases e:(m.bF v a true).2.1=0
 ·exact MS.kB (uO hm e).1
 ·rw[MS.q7 e]at e0;exact absurd e0 e
end Go.X.Vm
