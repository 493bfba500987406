import Derived.Shelf.Strings.Split
import Derived.Test.YthdinakloheinaaGreatDoorkJO5
set_option linter.all false
namespace Go.X.Tr
open Go Go.Shelf Go.RowKit Go.Lib Go.Proofs Go.X
set_option maxRecDepth 20000
set_option maxHeartbeats 4000000
section
variable {P:Program} {ρ:Ren}
set_option maxHeartbeats 1000000 in def Ru(L:Lays.n146 P ρ)(hi9:(P.info? (ρ.t 9)).map (fun i=>(i.zero,i.size,i.bytes))=some (some (.string ByteArray.empty),1,16))(s:ByteArray)(w:World)(hs:s.size<4294967281):Calls P (ρ.f 146) #[.string s,.string ⟨#[47]⟩] w fun e w'=>e= .returned (.slice (some ⟨w.heap.size,0,none⟩) (countB s iE+1) (countB s iE+1))/\w'=w.alloc (.cells ((splitB iE 0 (countB s iE) s).map Value.string).toArray (ρ.t 9)):=by
 have h1:1<=iE.size:=dq;have hle:=Lib.countB_le iE h1 s.size s (Nat.le_refl _);have hlen:=Lib.splitB_all iE h1 0 _ s rfl;have c:=Any.strings_genSplit_core {L with} hi9 s iE 0 (-1) (countB s iE+1) w hs h1 (Nat.zero_le _)
  (fun x c _=>(Any.strings_Index_one {L with} x 47 _).mono fun e w' ⟨he,hw⟩=>⟨by rw[he];show _=Ending.returned (Value.int .i64 (Lib.index x.data.toList [47]));rw[Lib.index_one],hw⟩)
  ((Any.strings_Count_one {L with} s 47 w).mono fun e w' ⟨he,hw⟩=>⟨by
   rw[he]
   show _=Ending.returned (Value.int .i64 ((Lib.count s.data.toList [47]:Nat):Int))
   rw[Lib.count_one]
   rfl,hw⟩)
  dq dq (by rw[if_pos dq];omega)
 rw[Nat.add_sub_cancel,hlen]at c;have e2:Lib.cellsOf (Lib.splitB iE 0 (Lib.countB s iE) s) (Lib.countB s iE+1)=((Lib.splitB iE 0 (Lib.countB s iE) s).map Value.string).toArray:=by rw[<-hlen];exact Lib.cellsOf_full _
 rw[e2]at c;have t3:=L.t3;have t9:=L.t9;have t31:=L.t31;have a3:=L.a3;have a9:=L.a9;have a31:=L.a31;have z3:=L.z3;have v3:=L.v3;have z9:=L.z9;have v9:=L.v9;have z31:=L.z31;have v31:=L.v31;have ald:∀ args w,(callFunc (ρ.f 221) args).run P w= .ok (.enter (ρ.f 221) args) w:=enters_of L.f221 kq rfl;go_enter L.f146,Body.n146_ntmps ρ;go_wp2_with (go_at_fn (ρ.f 221);refine c.mono ?_;rintro e w' ⟨rfl,hw⟩;rw[hw]);go_ret;simp_all
theorem D9(s:ByteArray):(ec s).length=countB s iE+1:=Lib.splitB_all iE dq 0 _ s rfl
theorem xv(s:ByteArray):(ec s).length<=s.size+1:=by
 have:=Lib.countB_le iE dq s.size s (Nat.le_refl _);grind [D9]
def Nb(L:Lays.n146 P ρ)(hi9:(P.info? (ρ.t 9)).map (fun i=>(i.zero,i.size,i.bytes))=some (some (.string ByteArray.empty),1,16))(s:ByteArray)(hs:s.size<=1000000):Spec P (ρ.f 146) [.string s,.string ⟨#[47]⟩] [] (fun v H1=>∃ b,v= .slice (some ⟨b,0,none⟩) (ec s).length (ec s).length/\H1=[j9 (some ⟨b,0,none⟩) (ec s).length (ρ.t 9) (ec s)]):=by
 intro w hw;refine(Ru L hi9 s w og).mono fun ee w' ⟨he,dZ⟩=>⟨_,_,he,⟨w.heap.size,by rw[D9],rfl⟩,rfl,?_⟩;subst dZ;have hc:=xv s;refine(kW hw).fresh (fun b o Cy=>by simp only[aG.gp,Value.ownBlock,Option.some.injEq]at Cy;omega) (j8 w _ _) (⟨by simp[strs],.inr ⟨w.heap.size,_,_,rfl,Nat.zero_le _,heap_alloc_new w _,Nat.le_refl _,by simp only[maxLen];omega,?_,?_⟩⟩);all_goals grind [ec,strs,List.take_of_length_le]
end
def GD:∀ (k:Nat) (s:ByteArray),∀ x∈splitB iE 0 k s,x.size<=s.size
 | 0,s,x,h=>by simp[splitB]at h;rw[h];exact Nat.le_refl _
 | k+1,s,x,h=>by
  unfold splitB at h;split at h
  ·simp at h;rw[h];exact Nat.le_refl _
  ·rcases List.mem_cons.1 h with h | h
   ·rw[h,ByteArray.size_extract];omega
   ·have:=GD k _ x h;rw[ByteArray.size_extract]at this;omega
def GF(s:ByteArray){z:Int}(h:0<=z/\z<(ec s).length):(kB (ec s) z).size<=s.size:=by
 refine GD (countB s iE) s _ ?_;grind [kB,ec]
def xw(x:ByteArray):(bV x).length<=x.size+1:=by
 grind [bV,xv,ByteArray.size_extract]
end Go.X.Tr

namespace Go.X.Kn
open Go Go.X Go.X.Tr
variable{B T n:Int}{d:Int->Nat}{c:KC}{F:Tr.FF}
def KA.Ok.tz{a:KA}(h:a.Ok T)(c:a.aB n=0):(0<=(a.s.bS n).1/\(a.s.bS n).1<6)/\a.s.aa (a.s.bS n).1=true:=by
 obtain⟨hn,hs⟩:=bQ c;obtain⟨e,_,r,hh⟩:=SS.Inv.is0 h.wk.sI hn ((h.wk.lc n hn.1 hn.2).1 og);simp_all
def zg(F:Tr.FF)(l:List MT)(r:WH)(x:ByteArray):(rn F l r x).size<=x.size:=by
 unfold rn;split
 ·exact Nat.zero_le _
 ·unfold nK bV;split
  ·by_cases h:0<(Tr.ec (x.extract 1 x.size)).length
   ·have h1:=GF (x.extract 1 x.size) (z:=((Tr.ec (x.extract 1 x.size)).length:Int)-1) ⟨og,og⟩;grind [ByteArray.size_extract]
   ·have e:Tr.ec (x.extract 1 x.size)=[]:=by cases hp:Tr.ec (x.extract 1 x.size)with
     | nil=>rfl
     | cons a b=>rw[hp]at h;simp at h
    rw[e];exact Nat.zero_le _
  ·exact Nat.zero_le _
theorem Ea(s:Tr.FF)(n:Int)(x:ByteArray)(k:Int):(s.make n x k).roots=s.roots:=by
 unfold Tr.FF.make;split<;>rfl
def H8(s:Tr.FF)(n:Int)(x:ByteArray):(s.du n x).roots=s.roots:=by
 unfold Tr.FF.du;split
 ·unfold Tr.FF.rk;split<;>rfl
 rfl
def Nc(s:Tr.FF)(k n:Int)(x:ByteArray):(s.DB k n x).roots=s.roots:=by
 unfold Tr.FF.DB;split<;>rfl
def Nd(s:Tr.FF)(d:Int->Nat)(n:Int)(x:ByteArray)(to:Int)(y:ByteArray):(s.move d n x to y).roots=s.roots:=by
 unfold Tr.FF.move;repeat' split
 all_goals rfl
def zh(s:Tr.FF)(O:Tr.OS)(n:Int):(sD s O n).roots=s.roots:=by
 unfold sD;split;all_goals grind [kx]
theorem cI.Nf{a a':KA}{N:Nat}{T':Int}(h:cI a c N T){F:FC}(hF:F.toFF.Ok d T')(hT:T<=T')(hp:F.rP=c.F.rP)(hc:F.rC=c.F.rC)(hr:F.toFF.roots=c.F.toFF.roots)(e:a'.s=a.s:=by rfl)(hu:∀ n,(a.u n).st=1->(a'.u n).st=1:=by exact fun _ q=>q):cI a' {c with F:=F,dF:=d} N T':=
 ⟨h.qO.mono (Nat.le_refl _) og,h.qR,hF,hp.trans h.rp,hc.trans h.rc,hr.trans h.rl,fun z h0 h1 h2=>h.tb z h0 h1 (by rwa[e]at h2),fun n n0 n1 hn=>hu n (h.tk n n0 n1 hn)⟩
theorem Ng(a:KA)(b:KZ){e:KC}(h1:e.mb=c.mb)(h2:∀ z,(e.t z).b=(c.t z).b):kp a b e=kp a b c:=by grind [kp]
theorem Nh{t:Nat->TB}{z:Nat}{m:TB}(h:m.b=(t z).b):∀ y,(bu t z m y).b=(t y).b:=fun y=>by
 grind [bu]
def cI.tab{a:KA}{N:Nat}{T':Int}(h:cI a c N T){F:FC}{z:Nat}{m:TB}(hm:m.Ok)(hF:F.toFF.Ok c.dF T')(hp:F.rP=c.F.rP)(hc:F.rC=c.F.rC)(hr:F.toFF.roots=c.F.toFF.roots):cI a {c with F:=F,t:=bu c.t z m} N T':=
 ⟨h.qO.mono (Nat.le_refl _) og,h.qR,hF,hp.trans h.rp,hc.trans h.rc,hr.trans h.rl,fun y h0 h1 h2=>by
  show(bu c.t z m y.toNat).Ok
  by_cases e:y.toNat=z
  ·rw[e,lz];exact hm
  ·rw[iA _ _ e];exact h.tb y h0 h1 h2,h.tk⟩
def Rv{l:List MT}(h:l.length<=6)(a z:WH):(pA F l a z).length<=6:=by
 unfold pA;split
 ·rename_i c;have:l.length≠6:=by
   intro q;unfold uB at c;omega
  grind
 omega
def KY{l:List MT}(h:l.length<=6)(w:WH):(nk l w).length<=6:=by
 unfold nk;rw[List.length_eraseIdx];split<;>omega
def K0(F:Tr.FF)(l:List MT)(a z:WH):(rs F l a z).roots=F.roots:=by
 unfold rs;split;all_goals grind [kx]
def Fi(F:Tr.FF)(l:List MT)(w:WH):(qa F l w).roots=F.roots:=by
 unfold qa;split;all_goals grind [FF.mX]
def KA.VE(a:KA)(n x:Int)(w:Bool):KA:= {a with u:=Bt a.u n (a.na n) (a.O.first+1),O:=a.O.lay a.O.first 1 x w,P:=a.P}
def KA.OW(a:KA)(n:Int)(a1:KA):Prop:=a1=a\/∃ x w,a.aB n=0/\(0<=a.na n/\a.na n<6)/\(0<=a.O.first/\a.O.first<24)/\a1=a.VE n x w
theorem KA.Ok.opens{a a1:KA}(h:a.Ok T)(hT:T<=900000)(Vw:1<=T)(ho:a.OW n a1):a1.Ok (T+1):=by
 rcases ho with rfl | ⟨x,w,hl,hs,hf,rfl⟩
 ·grind [KA.Ok.up]
 ·exact h.io og og (fun p=>(kv _ _ _ _ p).1) (fun p=>(kv _ _ _ _ p).2) (zc (bQ hl).1 _ _ h.wk.out) (D1 og h.wk.fd) ((h.wk.OI.lay Vw _ _ _ _ (.inl rfl) fun q=>absurd rfl q).mono og) (h.wk.PI.mono og)
def GG{B':Int}(h:F.Ok d B)(O:Tr.OS)(n:Int)(hB:B+1<=B':=by omega):(sD F O n).Ok d B':=by
 unfold sD;split
 ·exact FF.Ok.up (h.ea n) hB
 grind [FF.Ok.up]
def NVs(x:NV):Prop:=((0<=x.aO/\x.aO<=2)/\ -1000000<=x.bM/\x.bM<=1000000)/\(0<=x.bj/\x.bj<=1000000)/\0<=x.size/\x.size<=100
def afC(h:F.Ok d B)(hB:B<=1000000)(n:Int):NVs (F.Xa n):=by
 unfold Tr.FF.Xa;split
 ·rename_i c;have hr:0<=n/\n<40:=by
   unfold Tr.FF.cC at c;omega
  have h1:=(h.sh hB).num n hr.1 hr.2;have h2:=(h.sh hB).data n hr.1 hr.2;have h3:=(h.sh hB).js n hr.1 hr.2;have h4:=h.eG.kinds n hr.1 hr.2;grind [NVs]
 ·exact⟨⟨⟨dq,dq⟩,dq,dq⟩,⟨dq,dq⟩,dq,dq⟩
theorem afD:NVs NV.zero:=⟨⟨⟨dq,dq⟩,dq,dq⟩,⟨dq,dq⟩,dq,dq⟩
def Y6(h:F.Ok d B)(hn:F.cC n 2=0):(F.aI n).length<=8/\∀ x∈F.aI n,x.size<=8:=by
 have hr:0<=n/\n<40:=by
  unfold Tr.FF.cC at hn;omega
 exact⟨(h.eG.js n hr.1 hr.2).2.2.1,fun x hx=>Tr.FF.Ks (h.eG.MI n hr.1 hr.2 x hx)⟩
end Go.X.Kn

namespace Go.X.Kn
open Go Go.X
open Go.X.Vm
structure kU where
 n:Int
 m:Int
 e:Int
 s:ByteArray
def kU.cF(x:kU):Array Value:= #[iI x.n,iI x.m,iI x.e,.string x.s]
def kU.nil:kU:=⟨0,0,0,⟨#[]⟩⟩
def cy(x:kU)(i:Nat):Value:=if i=0 then iI x.n else if i=1 then iI x.m else if i=2 then iI x.e else if i=3 then .string x.s else undef
theorem cy.box(x:kU):∀ i,i<4->cellsOf x.cF i=cy x i:=fun i h=>match i,h with
 | 0,_=>rfl
 | 1,_=>rfl
 | 2,_=>rfl
 | 3,_=>rfl
def cy.ext{C:Nat->Value}{x:kU}(h0:C 0=iI x.n)(h1:C 1=iI x.m)(h2:C 2=iI x.e)(h3:C 3= .string x.s)(h:∀ k,C (k+4)=undef):C=cy x:=funext fun i=>match i with
 | 0=>h0
 | 1=>h1
 | 2=>h2
 | 3=>h3
 | k+4=>(h k).trans (by simp[cy])
def cy.agg(x:kU):0+4<=4/\dv (cy x) 0 4= .agg x.cF:=⟨og,rfl⟩
theorem cy.st(y x:kU):0+4<=4/\cD (cy y) 0 x.cF.toList=cy x:=⟨og,cy.ext rfl rfl rfl rfl fun k=>by simp[cD,dP,kU.cF,cy]⟩
def Bv(x:kU):0+0<4/\cy x (0+0)=iI x.n:=⟨og,rfl⟩
def cy.uk(x:kU):0+3<4/\cy x (0+3)= .string x.s:=⟨og,rfl⟩
def fD(x:kU)(v:Int):0+0<4/\dP (cy x) (0+0) (iI v)=cy {x with n:=v} :=by grind [dP,cy]
def Bw(x:kU)(v:Int):0+1<4/\dP (cy x) (0+1) (iI v)=cy {x with m:=v} :=by grind [dP,cy]
def Bx(x:kU)(v:Int):0+2<4/\dP (cy x) (0+2) (iI v)=cy {x with e:=v} :=by grind [dP,cy]
def Bz(x:kU)(v:ByteArray):0+3<4/\dP (cy x) (0+3) (.string v)=cy {x with s:=v} :=by grind [dP,cy]
abbrev H9(x:jA):Array Value:= #[.string x.aO,iI x.a,iI x.b,iI x.c,.int .u64 x.ig,.bool x.on,.string x.s,.string x.t]
def OX(x:jA):∀ i,i<8->cellsOf (H9 x) i=fc x i:=fun i h=>match i,h with
 | 0,_=>rfl
 | 1,_=>rfl
 | 2,_=>rfl
 | 3,_=>rfl
 | 4,_=>rfl
 | 5,_=>rfl
 | 6,_=>rfl
 | 7,_=>rfl
def OY(x:jA):0+8<=8/\dv (fc x) 0 8= .agg (H9 x):=⟨og,rfl⟩
def Eb:ByteArray:=⟨#[102,111,114,107]⟩
def Ec:ByteArray:=⟨#[101,120,105,116]⟩
def Ni:ByteArray:=⟨#[117,110,109,97,112]⟩
def Ed:ByteArray:=⟨#[108,111,97,100]⟩
def xx:ByteArray:=⟨#[115,116,111,114,101]⟩
def nN:ByteArray:=⟨#[116,105,99,107]⟩
def Ia:ByteArray:=⟨#[108,105,109,105,116]⟩
def Ee:ByteArray:=⟨#[106,111,105,110]⟩
def Nj:ByteArray:=⟨#[97,100,100]⟩
def Oth(k:ByteArray):Prop:=k∉[Eb,Ec,Ni,Ed,xx,nN,Ia,Ee,Nj]
def qe{x:jA}{k:ByteArray}(h:x.aO=k)(hd:k∉[Eb,Ec,Ni,Ed,xx,nN,Ia,Ee,Nj]:=by simp[Eb,Ec,Ni,Ed,xx,nN,Ia,Ee,Nj]):Oth x.aO:=by grind [Oth]
inductive KA.pO (a:KA) (F:Tr.FF) (x:jA):KA->Prop
 | same:KA.pO a F x a
 | dX:KA.pO a F x (a.ry x.a)
 | sJ:KA.pO a F x (a.kI x.a x.b x.c)
 | ea:KA.pO a F x (a.mJ x.a x.b x.on)
 | kf:KA.pO a F x (a.DY x.a x.b x.c)
 | take:KA.pO a F x (a.ru x.a)
 | map:KA.pO a F x (a.D8 x.a x.b x.c x.on)
 | mS:KA.pO a F x (a.uN x.a x.b x.c x.on)
 | drop:KA.pO a F x (a.Az x.a)
 | OZ {a1:KA} (h:a.OW x.a a1):KA.pO a F x a1
 | close:KA.pO a F x (a.qx x.a x.b)
 | dup:KA.pO a F x (a.Aw x.a x.b)
 | Kx:KA.pO a F x (a.qd x.a)
 | mV:KA.pO a F x (a.wx F x.a x.b x.c)
 | cm:KA.pO a F x (a.pD F x.a x.b x.s)
 | Ky:KA.pO a F x (a.uM x.a x.b x.c)
inductive KA.rz (a:KA) (c c1:KC) (x:jA):KA->Int->Int->Prop
 | jl (h:x.aO=Eb):KA.rz a c c1 x (a.hQ x.a x.on) (a.mr x.a x.on) (a.lP x.a x.on)
 | exit (h:x.aO=Ec):KA.rz a c c1 x (a.mI x.a x.b) 0 (a.uJ x.a x.b)
 | ep (h:x.aO=Ni):KA.rz a c c1 x (a.jN x.a x.b x.c) 0 (a.oq x.a x.b x.c)
 | load (h:x.aO=Ed):KA.rz a c c1 x (a.ia x.a x.b).2.1 (a.ia x.a x.b).2.2 (a.ia x.a x.b).1
 | store (h:x.aO=xx):KA.rz a c c1 x (a.gw x.a x.b (IntKind.u8.wrap x.c)).2.1 0 (a.gw x.a x.b (IntKind.u8.wrap x.c)).1
 | lR (h:x.aO=nN) (r:Int) (hr:r<0\/(0<=r/\r<20/\c1.q.aa (10+r)=true)):KA.rz a c c1 x a r 0
 | VC (h:x.aO=Ia):KA.rz a c c1 x (a.Rt x.a x.b x.c) 0 (a.g.ki x.a x.b x.c)
 | BF (h:x.aO=Ee) (e:Int) (he:e=0->a.aB x.a=0/\a.GC x.a x.b=0):KA.rz a c c1 x (a.pE x.a x.b) 0 e
 | add (h:x.aO=Nj) (n e:Int):KA.rz a c c1 x (a.nM x.a x.b) n e
 | qe (h:Oth x.aO) {a1:KA} (h1:a.pO c.F.toFF x a1) (n e:Int):KA.rz a c c1 x a1 n e
theorem KA.pO.ok{a a1:KA}{F:Tr.FF}{x:jA}{T:Int}(h:a.Ok T)(hT:T<=800000)(Vw:1<=T)(hF:F.Sh)(s:a.pO F x a1):a1.Ok (T+20):=by
 have u:∀ {b:KA},b.Ok T->b.Ok (T+20):=fun q=>q.up og og;have u1:∀ {b:KA},b.Ok (T+1)->b.Ok (T+20):=fun q=>q.up og og;cases s with
 | same=>exact u h
 | dX=>exact u (h.dX _)
 | sJ=>exact u (h.sJ _ _ _)
 | ea=>exact u (h.ea _ _ _)
 | kf=>exact u (h.kf _ _ _)
 | take=>exact u (h.take _)
 | map=>exact u (h.map _ _ _ _)
 | mS=>exact u (h.mS _ _ _ _)
 | drop=>exact u (h.pd _)
 | OZ q=>exact u1 (h.opens og Vw q)
 | close=>exact u (h.close _ _)
 | dup=>exact u1 (h.dup og _ _)
 | Kx=>exact u1 (h.Kx og Vw _)
 | mV=>exact u1 (h.mV og hF _ _ _)
 | cm=>exact u1 (h.cm og _ _ _ _)
 | Ky=>exact u1 (h.Ky og _ _ _)
theorem KA.rz.ok{a a1:KA}{c c1:KC}{x:jA}{T n e:Int}(h:a.Ok T)(hT:T<=800000)(Vw:1<=T)(hF:c.F.toFF.Sh)(s:a.rz c c1 x a1 n e):a1.Ok (T+20):=by
 have u:∀ {b:KA},b.Ok T->b.Ok (T+20):=fun q=>q.up og og;have u1:∀ {b:KA},b.Ok (T+1)->b.Ok (T+20):=fun q=>q.up og og;cases s with
 | jl _=>exact(h.jl og _ _).up og og
 | exit _=>exact u (h.mI _ _)
 | ep _=>exact u (h.ep _ _ _)
 | load _=>exact u1 (h.load og _ _)
 | store _=>exact u1 (h.store og _ _ (Vm.OA _))
 | lR _ _ _=>exact u h
 | VC _=>exact u (h.VC _ _ _)
 | BF _ _ _=>exact u1 (h.BF og _ _)
 | add _ _ _=>exact u (h.td _ _)
 | qe _ q _ _=>exact q.ok h hT Vw hF
def VF{k:ByteArray}(h1:k≠⟨#[102,111,114,107]⟩)(h2:k≠⟨#[101,120,105,116]⟩)(h3:k≠⟨#[117,110,109,97,112]⟩)(h4:k≠⟨#[108,111,97,100]⟩)(h5:k≠⟨#[115,116,111,114,101]⟩)(h6:k≠⟨#[116,105,99,107]⟩)(h7:k≠⟨#[108,105,109,105,116]⟩)(h8:k≠⟨#[106,111,105,110]⟩)(h9:k≠⟨#[97,100,100]⟩):Oth k:=by
 simp_all[Oth,Eb,Ec,Ni,Ed,xx,nN,Ia,Ee,Nj]
def KA.Ok.afE{a:KA}{T:Int}(h:a.Ok T)(hT:T<=900000)(n x:Int):0<=(a.ia n x).2.2/\(a.ia n x).2.2<256:=by
 have ig:∀ {b:KA} {S:Int},b.Ok S->0<=((Xc n x).y b)/\((Xc n x).y b)<256:=fun {b S} hb=>by
  show 0<=((b.f n.toNat).load b.v x).1/\((b.f n.toNat).load b.v x).1<256;by_cases e:((b.f n.toNat).b6 b.v x false).2.1=0
  ·rw[Vm.MS.HG e];exact(VB.Ok.b6 (m:=b.f n.toNat) hb.wk.sys.jJ.ok x false).ij _ _
  ·rw[Vm.MS.Du e];exact⟨Int.le_refl 0,(by decide:(0:Int)<256)⟩
 unfold KA.ia KA.jd;repeat' split
 all_goals first
  | exact⟨Int.le_refl 0,(by decide:(0:Int)<256)⟩
  | exact ig (h.aP hT n).1
  | exact ig h
def VG{l:List ByteArray}{z:Int}(h:0<=z/\z<l.length):kB l z∈l:=by
 grind [kB]
end Go.X.Kn

namespace Go.X.Kn
open Go Go.X
section
variable {s:Sp.SS} {aV:Int->Nat}
end
end Go.X.Kn

namespace Go.X.Kn
open Go Go.X
def acK{a:KA}{n:Int}(hl:(a.u n).st=1)(co p:Int):(((a.c9 n co).u p).st≠0↔(a.u p).st≠0)/\(((a.c9 n co).u p).st=1↔(a.u p).st=1/\p≠n)/\(((a.c9 n co).u p).st=2↔(a.u p).st=2\/p=n):=by
 grind [nm,qc]
structure KA.Ok0 (a:KA) (T:Int):Prop where
 wk:a.Wk T
 r0:a.R0
 d0:a.aV 0=1
def KA.Ok.o0{a:KA}{T:Int}(h:a.Ok T):a.Ok0 T:=⟨h.wk,h.r0,h.d0⟩
section
variable {k:KP} {mb:Nat->Nat} {s:Sp.SS}
end
theorem acL:∀ p:Int,S0.dE 0 p=if p=1 then 0 else-1:=fun p=>by
 have h:S0.dE=cL Sp.SS.cP.dE 0 1 0:=by rfl
 rw[h];unfold cL;by_cases c:p=1
 ·omega
 ·rw[if_neg fun q=>c q.2,if_neg c];rfl
def tB.EM(a b:Int):0+1<2/\tB a b (0+1)=iI b:=⟨og,rfl⟩
section
variable {k:KP} {mb:Nat->Nat} {s:Sp.SS}
end
end Go.X.Kn

namespace Go.X.Kn
open Go Go.X Go.X.Fa Go.X.Sg Go.X.Sp Go.X.Vm
def A0:KA:= {u:=ad (fun _=>PA.nil) 0 ⟨1,-1,0,0,fun _=>0,BS.cP⟩,g:=G0,s:=S0,aV:=fun _=>1,v:=VB.cP,f:=fun _=>Vm.MS.nil,P:=Tr.PS.cP,O:=Tr.OS.dB}
theorem Ib(g:Int)(hg:0<=g):∀ k,w8 (fun _=>Vm.MS.nil) g k=0
 | 0=>rfl
 | k+1=>by
  have e:∀ j,cM Vm.MS.nil.fr g j=0:=fun j=>by
   induction j with
   | zero=>rfl
   | succ j ih=>rw[cM,ih,show Vm.MS.nil.fr j=0 from rfl,if_neg og];rfl
  rw[w8,Ib g hg k,e];rfl
theorem Ef(n:Int):A0.u n=if n=0 then⟨1,-1,0,0,fun _=>0,BS.cP⟩else PA.nil:=rfl
def aaS:A0.Ok 2:=by
 have hS:S0=Sp.SS.cP.fu (fun _=>1) 0 0:=by rfl
 refine⟨⟨og,Gr.TG.Inv.cP.aP 0 1 0,(Gr.TG.bU.cP.aP Gr.TG.Inv.cP.ok 0 1 0).mono og,Sp.SS.Inv.cP.enter 0 0,⟨Vm.Sys.cP.jJ.congr fun g a b=>(Ib g a 1).trans (Ib g a 20).symm,fun _ _=>Vm.MS.Ok.nil⟩,fun _ _ _ _=>rfl,Tr.PS.Inv.cP.mono og,Tr.OS.Inv.dB.mono og,fun m a b=> ?_,fun n=> ?_,fun n hn=> ?_,fun n i=> ?_,fun n=> ?_⟩,fun p _ _ _ _=>.inl ?_,⟨rfl,rfl,by show S0.dE 0 1=0;rw[acL,if_pos rfl]⟩,rfl⟩
 ·show _↔0<=ad (E3 20) 0 0 m;rw[Ef];by_cases c:m=0
  ·grind [aj]
  ·rw[ae _ _ c,if_neg c];unfold E3;rw[if_pos og];exact⟨fun q=>absurd rfl q,fun q=>absurd q og⟩
 ·rw[Ef];split
  ·simp_all
  ·exact .inl rfl
 ·grind [Ef]
 ·rw[Ef];split<;>exact⟨Int.le_refl 0,by show(0:Int)<=24;omega⟩
 ·rw[Ef];split<;>rfl
 ·have e:(A0.u p).bx=BS.cP:=by rw[Ef];split<;>rfl
  rw[e];exact UH.cP.e
theorem VH(b:KZ)(c:KC):aaH (kp A0 b c) (c.mb 0):=⟨by
 funext n
 show(A0.u n).pu (c.mb n.toNat)=_
 by_cases h:n=0
 ·subst h;rw[aj];rfl
 ·rw[ae _ _ h,Ef,if_neg h];rfl⟩
theorem acM:iR A0=Fz (fun _=>false) (0:Int).toNat:=by
 have h:=OO (a:= {A0 with u:=fun _=>PA.nil}) (n:=0) (p:=⟨1,-1,0,0,fun _=>0,BS.cP⟩) ⟨og,og⟩ dq;have e:iR {A0 with u:=fun _=>PA.nil} =fun _=>false:=by
  funext j;unfold iR;exact decide_eq_false fun q=>q.2 rfl
 grind [A0]
theorem acN:kz A0=Fz (fun _=>false) (0:Int).toNat:=by
 have h0:∀ z:Int,A0.s.aa z=decide (z=0):=fun z=>by
  rfl
 grind [jO,kz]
theorem Y7(z:Int):S0.aa z=decide (z=0):=by
 rfl
theorem acO(b:KZ)(c:KC)(ob mb:Nat)(t:TB)(hm:c.mb=bu (fun _=>0) (0:Int).toNat mb)(ht:c.t=bu (fun _=>t) (0:Int).toNat t)(K:KP)(hK:K= {KP.raw b.gb b.sb b.qb b.bb b.tb b.pi with ob:=b.ob}):({K with ms:=ad K.ms 0 (ay t.b 0 0)} :KP).put 0 (Dp mb)=kp A0 b c:=by
 subst hK;refine KP.ext (fun m=> ?_) ?_ ⟨⟨rfl,rfl,rfl,rfl⟩,rfl,rfl,rfl⟩
 ·show _=(A0.u m).pu (c.mb m.toNat);by_cases e:m=0
  ·subst e;rw[KP.sW,hm,lz];rfl
  ·rw[KP.Aj _ _ e,Ef,if_neg e];rfl
 ·show ad (fun _=>Value.pointer none) 0 (ay t.b 0 0)=fun z=>if S0.aa z then ay (c.t z.toNat).b 0 0 else .pointer none
  rw[ht];grind [Y7,bu,ad]
def afF{q:SC}(h:q.toSF=Q2):∀ m,0<=m->m<20->q.aa (10+m)=true->(A0.u m).st=1:=fun m m0 m1 hm=>by
 have hm:q.toSF.aa (10+m)=true:=hm;rw[h,show Q2=Q1.gq dK 0 true from rfl,Fa.SF.qX]at hm;by_cases e:m=0
 ·subst e;rfl
 ·have h2:=(Fa.SF.FU (s:=Fa.SF.cP) hm).resolve_left e;have h3:ad (fun _:Int=>false) 0 true (10+m)=true:=h2;grind [ae]
end Go.X.Kn

namespace Go.X.Kn
open Go Go.X Go.X.Vm
def VI{l:List Int}{z:Int}(h:0<=z/\z<l.length):gh l z∈l:=by
 grind [gh]
def KA.da(a:KA):List Int:=Vm.fM (fun n=>decide ((a.u n).st=1)) 20
def K1{a:KA}{z:Int}(h:0<=z/\z<a.da.length):a.aB (gh a.da z)=0:=by
 have hm:=VI h;generalize gh a.da z=p at*;obtain⟨h1,h2,h3⟩:=Df.1 hm;grind [KA.aB]
def KA.GH(a:KA):a.da.length<=20:=Vm.kg _ 20
end Go.X.Kn

namespace Go.X.Kn
open Go Go.X
variable{T n:Int}
def gV(g g':Gr.TG):Prop:=g'.aa=g.aa/\g'.aA=g.aA/\g'.mp=g.mp/\g'.mg=g.mg
theorem gV.refl(g:Gr.TG):gV g g:=⟨rfl,rfl,rfl,rfl⟩
def gV.trans{a b c:Gr.TG}(h:gV a b)(k:gV b c):gV a c:=⟨k.1.trans h.1,k.2.1.trans h.2.1,k.2.2.1.trans h.2.2.1,k.2.2.2.trans h.2.2.2⟩
theorem pF(g:Gr.TG)(n p m:Int):gV g (g.cR n p m):=by unfold Gr.TG.cR;split<;>exact gV.refl g
theorem lH(g:Gr.TG)(n p m:Int):gV g (g.aP n p m):=by unfold Gr.TG.aP;split<;>exact gV.refl g
def H1:KA:=A0.hQ 0 true
def H2:KA:=H1.hQ 0 false
open Go.X.Sg
structure df (I:KA->Prop):Prop where
 rest:∀ {a:KA} {u:Int->PA},I a->(∀ p,(u p).st=(a.u p).st/\(u p).cB=(a.u p).cB/\(u p).fd=(a.u p).fd)->I {a with u:=u}
 end_:∀ {a:KA} {T:Int} {n:Int} (co:Int),a.Wk T->(0<=n/\n<20)->(a.u n).st=1->I a->I (a.c9 n co)
 Au:∀ {a:KA} {T:Int} {n:Int},a.Wk T->(0<=n/\n<20)->(a.u n).st=2->I a->I (a.fj n)
 spc:∀ {a:KA} (s:Sp.SS),I a->I {a with s:=s}
section
variable {I:KA->Prop}
theorem df.box(S:df I){a:KA}(h:I a)(n:Int)(x:BS):I (a.jM n x):=S.rest h fun p=>by
 by_cases e:p=n
 ·subst e;rw[aj];exact⟨rfl,rfl,rfl⟩
 ·rw[ae _ _ e];exact⟨rfl,rfl,rfl⟩
theorem df.kL(S:df I){a:KA}(h:I a)(n m:Int):I (a.dN n m):=S.rest h fun p=>by
 have k:=dS a n m p;exact⟨k.1,k.2.2.1,k.2.2.2.2⟩
theorem df.gF(S:df I){a:KA}(h:I a)(p:Int):I (a.jW p):=by
 unfold KA.jW;split
 ·exact S.box h _ _
 ·exact h
def df.Vq(S:df I){T:Int}(k:Int):∀ {l:List Int} {a:KA},a.Wk T->l.Nodup->(∀ m∈l,(0<=m/\m<20)/\(a.u m).st≠0)->I a->I (l.foldl (KA.gR k) a)
 | [],_,_,_,_,h=>h
 | x::r,a,w,hn,hl,h=>by
  obtain⟨hx,hr⟩:=List.nodup_cons.1 hn;have rI:=hl x (.head _);refine S.Vq k (l:=r) (w.gR k rI.1) hr (fun m hm=>⟨(hl m (.tail _ hm)).1,?_⟩) ?_
  ·rw[yZ _ _ (by rintro rfl;exact hx hm)];exact(hl m (.tail _ hm)).2
  ·unfold KA.gR;split
   ·exact h
   ·split
    ·rename_i c;exact S.Au (w.c9 rI.1 c 0) rI.1 (nm _ _ _) (S.end_ 0 w rI.1 c h)
    ·rename_i c;exact S.Au w rI.1 (((w.st x).resolve_left rI.2).resolve_left c) h
def df.M4(S:df I){a:KA}(h:I a)(z:Int):I (a.fL z):=S.spc _ h
def df.uH(S:df I):∀ {l:List Int} {a:KA},I a->I (l.foldl KA.fL a)
 | [],_,h=>h
 | x::r,_,h=>S.uH (l:=r) (S.M4 h x)
def df.fY(S:df I){a:KA}(h:I a):∀ k,I (a.fY k)
 | 0=>h
 | k+1=>S.uH (S.fY h k)
def df.exit(S:df I){a:KA}(w:a.Wk T)(hl:(a.u n).st=1)(co:Int)(h:I a):I (a.dt n co):=by
 have hn:=w.nV (n:=n) og;have h1:=S.end_ co w hn hl h;have h2:I (a.gZ n co):=by
  unfold KA.gZ;split
  ·refine S.fY (S.Vq n (w.c9 hn hl co) (yX (w.c9 hn hl co).sI _) (fun m hm=>(w.c9 hn hl co).DR _ hm) h1) 4
  ·exact h1
 exact S.gF (S.kL h2 _ _) _
def df.settle(S:df I){a:KA}(w:a.Wk T)(hl:(a.u n).st=1)(o:Bool)(h:I a):I (a.cK n o):=by
 unfold KA.cK;split
 ·exact S.exit w hl _ h
 ·exact h
def df.M5(S:df I){a:KA}(w:a.Wk T)(c:a.aB n=0){x:BS}(hx:x.dX 0=false)(o:Bool)(h:I a):I ((a.jM n x).cK n o):=by
 obtain⟨hr,hl⟩:=bQ c;exact S.settle (w.jM hr hx) (by rw[gU];exact hl) o (S.box h n x)
theorem df.send(S:df I){a:KA}(w:a.Wk T)(n sig:Int)(o:Bool)(h:I a):I (a.wq n sig o):=by
 unfold KA.wq;split
 ·rename_i c;exact S.M5 w c (pC _ _ (w.bx n)) o h
 ·exact h
def df.sJ(S:df I){a:KA}(w:a.Wk T)(n jB sig:Int)(h:I a):I (a.kI n jB sig):=by
 unfold KA.kI;split
 ·exact S.send w _ _ _ h
 ·exact h
theorem df.ea(S:df I){a:KA}(w:a.Wk T)(n sig:Int)(on:Bool)(h:I a):I (a.mJ n sig on):=by
 unfold KA.mJ;split
 ·exact h
 ·split
  ·exact S.M5 w og (sH _ _ _ (w.bx n)) false h
  ·exact h
def df.kf(S:df I){a:KA}(w:a.Wk T)(n sig v:Int)(h:I a):I (a.DY n sig v):=by
 unfold KA.DY;split
 ·exact h
 ·split
  ·exact S.M5 w og (Av _ _ _ (w.bx n)) false h
  ·exact h
theorem df.take(S:df I){a:KA}(n:Int)(h:I a):I (a.ru n):=by
 unfold KA.ru;split
 ·exact h
 ·exact S.box h _ _
theorem df.mI(S:df I){a:KA}{T:Int}(w:a.Wk T)(n co:Int)(h:I a):I (a.mI n co):=by
 unfold KA.mI;split
 ·rename_i c;exact S.exit w (bQ (DX c).1).2 co h
 ·exact h
def df.dX(S:df I){a:KA}(w:a.Wk T)(n:Int)(h:I a):I (a.ry n):=by
 unfold KA.ry;split
 ·rename_i c;obtain⟨_,h2,h3,_⟩:=Ay c;exact S.M4 (S.Au w h2 h3 h) _
 ·exact h
theorem df.room(S:df I){n:Int} :∀ (k:Nat) {a:KA} {T:Int},a.Ok T->I a->∃ b:KA,I b/\b.Ok T/\((a.ll n k).1≠0->(a.ll n k).2=b)/\((a.ll n k).1=0->b.aB n=0/\b.g.cZ (b.u n).cB 0 1=0/\(a.ll n k).2= {b with v:=b.v,f:=b.f,g:=b.g.aP (b.u n).cB 0 1})
 | 0,a,T,ok,h=>⟨a,h,ok,fun _=>rfl,fun e=>absurd (show(6:Int)=0 from e) dq⟩
 | k+1,a,T,ok,h=>by
  unfold KA.ll;by_cases c:a.aB n≠0
  ·rw[if_pos c];exact⟨a,h,ok,fun _=>rfl,fun e=>absurd (show(6:Int)=0 from e) dq⟩
  ·rw[if_neg c];cases hz:a.iQ n with
   | none=>
    refine⟨a,h,ok,fun e=> ?_,fun e=>⟨og,e,rfl⟩⟩;show({a with v:=a.v,f:=a.f,g:=a.g.aP (a.u n).cB 0 1} :KA)=a;rw[xr e]
   | some z=>
    by_cases d:a.iP z<0
    ·simp only[if_pos d];exact⟨a,h,ok,fun _=>rfl,fun e=>absurd e dq⟩
    ·have hv:=sL d;have hl:=bQ hv.2;simp only[if_neg d];exact S.room k (ok.wk.DW ok.r0 ok.d0 (show a.iP z≠0 by omega) hl.2 (ok.hx.any _) 137) (S.exit ok.wk hl.2 137 h)
end
end Go.X.Kn

namespace Go.X.Gr
open Go Go.X
variable{n x:Int}{s:TG}
def aN(w:Int->GV)(i:Nat):Value:=if i<50 then ny (w ((i/5:Nat):Int)) (i%5)else undef
def VJ(w:Int->GV):Array Value:=((List.range 50).map (aN w)).toArray
def Rw(w:Int->GV):(VJ w).size=50:=by simp[VJ]
theorem aN.box(w:Int->GV):∀ i,i<50->cellsOf (VJ w) i=aN w i:=fun i hi=>by simp[cellsOf,VJ,hi]
theorem aN.at_(w:Int->GV)(z:Int)(h:0<=z/\z<10)(j:Nat)(hj:j<5):aN w (0+z.toNat*5+j)=ny (w z) j:=by
 unfold aN;rw[if_pos og,show(((0+z.toNat*5+j)/5:Nat):Int)=z from og,show(0+z.toNat*5+j)%5=j from og]
def aN.afG(w:Int->GV)(z:Int)(h:0<=z/\z<10):0+z.toNat*5+3<50/\aN w (0+z.toNat*5+3)=iI ((w z).pr):=⟨og,(aN.at_ w z h 3 og).trans rfl⟩
def aN.VK(w:Int->GV)(z:Int)(h:0<=z/\z<10):0+z.toNat*5+4<50/\aN w (0+z.toNat*5+4)=iI ((w z).pg):=⟨og,(aN.at_ w z h 4 og).trans rfl⟩
theorem aN.st(w:Int->GV)(z:Int)(h:0<=z/\z<10)(g:GV):0+z.toNat*5+5<=50/\cD (aN w) (0+z.toNat*5) g.cF.toList=aN (ad w z g):=by
 refine⟨og,?_⟩;funext i;have hl:g.cF.toList.length=5:=rfl;by_cases a1:i<0+z.toNat*5
 ·rw[iw _ _ _ _ a1];unfold aN;exact gj (fun c=>by rw[ae _ _ og]) fun _=>rfl
 ·by_cases a2:i<0+z.toNat*5+5
  ·obtain⟨j,rfl⟩:∃ j,i=0+z.toNat*5+j:=⟨i-(0+z.toNat*5),og⟩;rw[aN.at_ _ z h j og,aj];have hj:j=0\/j=1\/j=2\/j=3\/j=4:=og;rcases hj with rfl | rfl | rfl | rfl | rfl<;>exact fP g.cF.toList _ _ _ _ rfl
  ·rw[ix _ _ _ _ og];unfold aN;exact gj (fun c=>by rw[ae _ _ og]) fun _=>rfl
theorem AB(F:Int->Int->Int)(a:Nat):∀ (b:Nat),cE (fun i=>cE (fun j=>F i j) a) b=cE (fun j=>cE (fun i=>F i j) b) a
 | 0=>by simp only[cE];exact(fw a fun _ _ _=>rfl).symm
 | b+1=>by
  simp only[cE];rw[AB F a b,<-rj]
def jX(c:Int->Int->Int)(f:Int->Int)(L:List Int)(n:Int):Int:=(L.map fun x=>c n x*f x).sum
theorem Rx(c:Int->Int->Int)(f:Int->Int)(L:List Int)(x n:Int):jX c f (L++[x]) n=jX c f L n+c n x*f x:=by simp[jX]
theorem Eg(p:Int->Bool)(g:Int->Int):∀ (k:Nat),((JQ p k).map g).sum=cE (fun x=>if p x=true then g x else 0) k
 | 0=>rfl
 | k+1=>by
  simp only[JQ,cE,List.map_append,List.sum_append];rw[Eg p g k];by_cases h:p (k:Int)=true
  ·simp[h]
  ·simp[h]
def K2{c:Int->Int->Int}{f:Int->Int}{K:Int}(hK:0<=K){n:Int} :∀ (L:List Int),(∀ x∈L,0<=c n x/\c n x<=5/\ -K<=f x/\f x<=K)-> -(5*K*L.length)<=jX c f L n/\jX c f L n<=5*K*L.length
 | [],_=>by simp[jX]
 | x::r,h=>by
  have ih:=K2 hK r fun y hy=>h y (List.mem_cons_of_mem _ hy);have h2:=h x sq;have h3:=TG.B1 (p:=f x) (c:=c n x) (K:=K) h2.1 ⟨h2.2.2.1,h2.2.2.2⟩ h2.2.1 hK;have e:jX c f (x::r) n=c n x*f x+jX c f r n:=by simp[jX]
  have e2:5*K*((x::r).length:Int)=5*K*r.length+5*K:=by simp only[List.length_cons];push_cast;rw[Int.mul_add];omega
  rw[e,e2,Int.mul_comm (c n x)];omega
namespace TG
def nG(s:TG)(n x:Int):Int:=((s.cX x).count n:Int)
def Ok.O0{s:TG}{d:Int->Nat}(hd:∀ n,0<=n->n<10->s.aa n=true->1<=d n/\d n<=4/\(n≠0->0<=s.aA n/\s.aA n<10/\s.aa (s.aA n)=true/\d n=d (s.aA n)+1))(h0p:s.aA 0= -1):
  ∀ (l:List Int) (n:Int),lK s.aA n l->(∀ y∈l,s.aa y=true)->(∀ x∈l,d x<=d n)/\l.Nodup
 | [],_,_,_=>⟨fun x hx=>by simp at hx,List.nodup_nil⟩
 | y::r,n,⟨e,h0,h1,h2⟩,hh=>by
  subst e;have ih:=Ok.O0 hd h0p r (s.aA y) h2 fun z hz=>hh z (List.mem_cons_of_mem _ hz);have h4:=hd y h0 h1 (hh y sq);have ig:∀ x∈r,d x<d y:=fun x hx=>by
   have h5:=ih.1 x hx;by_cases hy:y=0
   ·subst hy;rw[h0p]at h2;match r,h2,hx with
    | _::_,h2,_=>exact absurd h2.2.1 og
   ·have:=(h4.2.2 hy).2.2.2;omega
  refine⟨fun x hx=> ?_,List.nodup_cons.2 ⟨fun hm=> ?_,ih.2⟩⟩
  ·rcases List.mem_cons.1 hx with rfl | hx
   ·exact Nat.le_refl _
   ·have:=ig x hx;omega
  ·have:=ig y hm;omega
def Ok.HQ(h:s.Ok)(h0:0<=x)(h1:x<10)(h2:s.aa x=true)(n:Int):s.nG n x<=1:=by
 obtain⟨d,_,hd⟩:=h.uf;obtain⟨w1,_,w3⟩:=h.cX h0 h1 h2;have hn:=(Ok.O0 hd h.qm.2 _ _ w1 w3).2;have:=(List.nodup_iff_count.1 hn) n;unfold nG;omega
theorem Ok.VL(h:s.Ok){k:Int}(h0:0<=k)(h1:k<10)(h2:s.aa k=true)(n:Int):s.nG n k=(if n=k then 1 else 0)+(if 0<=s.aA k then s.nG n (s.aA k)else 0):=by
 obtain⟨w1,_,w3⟩:=h.cX h0 h1 h2;unfold nG;cases hl:s.cX k with
 | nil=>rw[hl]at w1;exact absurd w1 (by show ¬k<0;omega)
 | cons y r=>
  rw[hl]at w1 w3;obtain⟨e,_,_,w2⟩:=w1;subst e;have hc:(y::r).count n=(if n=y then 1 else 0)+r.count n:=by
   rw[List.count_cons];by_cases hny:n=y
   ·subst hny;simp;omega
   ·have:¬y=n:=fun e=>hny e.symm;simp[hny,this]
  rw[hc];by_cases hy:y=0
  ·subst hy;rw[h.qm.2]at w2 ⊢;match r,w2 with
   | [],_=>rw[if_neg (show ¬(0:Int)<= -1 by omega),List.count_nil];split<;>rfl
   | _::_,w2=>exact absurd w2.2.1 og
  ·obtain⟨p0,p1,p2⟩:=h.Dk h0 h1 h2 hy;obtain⟨v1,_⟩:=h.cX p0 p1 p2;rw[if_pos p0,w2.Uc v1];push_cast;split<;>simp
def Ok.afH(h:s.Ok)(f:Int->Int)(h0:0<=n)(h1:n<10)(h2:s.aa n=true):jX s.nG (s.left f) s.all n=f n:=by
 unfold jX all;rw[Eg];have e1:cE (fun x=>if s.aa x=true then s.nG n x*s.left f x else 0) 10=cE (fun x=>if s.aa x=true then s.nG n x*f x else 0) 10-cE (fun x=>cE (fun k=>if s.aa x=true then s.nG n x*s.gF f x k else 0) 10) 10:=by
  have:cE (fun x=>if s.aa x=true then s.nG n x*f x else 0) 10=cE (fun x=>if s.aa x=true then s.nG n x*s.left f x else 0) 10+cE (fun x=>cE (fun k=>if s.aa x=true then s.nG n x*s.gF f x k else 0) 10) 10:=by
   rw[<-rj];refine di 10 fun j _ _=> ?_;by_cases hj:s.aa j=true
   ·simp only[hj,if_true];rw[yv,<-Int.mul_add];congr 1;unfold left;omega
   ·simp only[hj];rw[fw 10 fun _ _ _=>sq];simp
  omega
 rw[e1,AB];have e2:cE (fun k=>cE (fun x=>if s.aa x=true then s.nG n x*s.gF f x k else 0) 10) 10=cE (fun k=>if s.aa k=true then(if 0<=s.aA k then s.nG n (s.aA k)else 0)*f k else 0) 10:=by
  refine di 10 fun k k0 k1=> ?_;by_cases hk:s.aa k=true
  ·rw[if_pos hk];by_cases hk0:k=0
   ·subst hk0;rw[if_neg (by rw[h.qm.2];omega)];rw[fw 10 (fun j j0 _=>by
     unfold gF
     rw[h.qm.2,if_neg (fun q:s.aa 0=true/\(-1:Int)=j=>og)];simp)]
    simp
   ·obtain⟨p0,p1,p2⟩:=h.Dk k0 og hk hk0;rw[if_pos p0];rw[show cE (fun x=>if s.aa x=true then s.nG n x*s.gF f x k else 0) 10=cE (fun x=>if x=s.aA k then s.nG n (s.aA k)*f k else 0) 10 from di 10 (fun j _ _=>by
     unfold gF
     by_cases hj:j=s.aA k
     ·subst hj;simp[p2,hk]
     ·rw[if_neg hj,if_neg fun q:s.aa k=true/\s.aA k=j=>hj q.2.symm];simp)]
    rw[nB _ _ p0,if_pos og]
  ·rw[if_neg hk];refine fw 10 fun j _ _=> ?_;unfold gF;rw[if_neg fun q:s.aa k=true/\s.aA k=j=>hk q.1];simp
 rw[e2];have e3:cE (fun x=>if s.aa x=true then s.nG n x*f x else 0) 10=cE (fun k=>if s.aa k=true then(if 0<=s.aA k then s.nG n (s.aA k)else 0)*f k else 0) 10+cE (fun k=>if k=n then f n else 0) 10:=by
  rw[<-rj];refine di 10 fun k k0 k1=> ?_;by_cases hk:s.aa k=true
  ·rw[if_pos hk,if_pos hk,h.VL k0 og hk n,Int.add_mul];by_cases YH:k=n
   ·subst YH;simp;omega
   ·rw[if_neg YH,if_neg fun e=>YH e.symm];omega
  ·rw[if_neg hk,if_neg hk,if_neg fun e:k=n=>hk (by rw[e];exact h2)];rfl
 rw[e3,nB _ _ h0,if_pos og];omega
def ck(s:TG)(n:Int):GV:=if s.cC n=0 then s.gv n else GV.zero
def vN(s t:TG):Prop:=∀ n,0<=n->n<10->t.aa n=true->(0<=t.mp n->t.pr n<=t.mp n\/t.pr n<=(s.ck n).pr)/\(0<=t.mg n->t.pg n<=t.mg n\/t.pg n<=(s.ck n).pg)
theorem nO(h0:0<=n)(h1:n<10)(h2:s.aa n=true):s.ck n=s.gv n:=by unfold ck;rw[if_pos (C4 h0 h1 h2)]
theorem vN.refl(s:TG):s.vN s:=fun n h0 h1 h2=>by
 rw[nO h0 h1 h2];exact⟨fun _=>.inr (Int.le_refl _),fun _=>.inr (Int.le_refl _)⟩
theorem vN.add(s:TG)(a:Int):s.vN (s.add a):=by
 unfold TG.add;split
 ·intro n h0 h1 h2;by_cases hn:n=s.gL a
  ·have e1:(s.put (s.gL a) a).mp n= -1:=by show ad s.mp (s.gL a) (-1) n= -1;rw[hn,aj]
   have e2:(s.put (s.gL a) a).mg n= -1:=by show ad s.mg (s.gL a) (-1) n= -1;rw[hn,aj]
   rw[e1,e2];exact⟨fun q=>og,fun q=>og⟩
  ·have h3:s.aa n=true:=by
    have:(s.put (s.gL a) a).aa n=ad s.aa (s.gL a) true n:=rfl;rw[this,ae _ _ hn]at h2;exact h2
   rw[nO h0 h1 h3];have e1:(s.put (s.gL a) a).pr n=s.pr n:=by show ad s.pr (s.gL a) 0 n=_;rw[ae _ _ hn]
   have e2:(s.put (s.gL a) a).pg n=s.pg n:=by show ad s.pg (s.gL a) 0 n=_;rw[ae _ _ hn]
   rw[e1,e2];exact⟨fun _=>.inr (Int.le_refl _),fun _=>.inr (Int.le_refl _)⟩
 ·exact vN.refl s
def vN.du(s:TG)(a:Int):s.vN (s.du a):=by
 unfold TG.du;split
 ·intro n h0 h1 h2;have hn:n≠a:=fun e=>by
   subst e;have:(s.Bb n).aa n=ad s.aa n false n:=rfl;rw[this,aj]at h2;cases h2
  have h3:s.aa n=true:=by
   have:(s.Bb a).aa n=ad s.aa a false n:=rfl;rw[this,ae _ _ hn]at h2;exact h2
  rw[nO h0 h1 h3];have e1:(s.Bb a).pr n=s.pr n:=by show ad s.pr a 0 n=_;rw[ae _ _ hn]
  have e2:(s.Bb a).pg n=s.pg n:=by show ad s.pg a 0 n=_;rw[ae _ _ hn]
  rw[e1,e2];exact⟨fun _=>.inr (Int.le_refl _),fun _=>.inr (Int.le_refl _)⟩
 ·exact vN.refl s
def Y8{t:TG}(hO:t.Ok){p m:Int}(hc:t.cZ n p m=0)(x0:0<=x)(x1:x<10)(x2:t.aa x=true):(0<=t.mp x->(t.aP n p m).pr x<=t.mp x\/(t.aP n p m).pr x<=t.pr x)/\(0<=t.mg x->(t.aP n p m).pg x<=t.mg x\/(t.aP n p m).pg x<=t.pg x):=by
 obtain⟨⟨n0,n1,n2⟩,p0,p1,m0,m1⟩:=q7 hc;have e:t.aP n p m=t.lay (t.cX n) p m:=by unfold TG.aP;rw[if_pos hc]
 rw[e];have e1:(t.lay (t.cX n) p m).pr x=t.pr x+p*t.nG x n:=rfl;have e2:(t.lay (t.cX n) p m).pg x=t.pg x+m*t.nG x n:=rfl;rw[e1,e2];have hle:=hO.HQ n0 n1 n2 x;have G3:(t.cX n).all (t.room p m)=true:=by
  unfold cZ at hc;split at hc
  ·omega
  ·split at hc
   ·assumption
   ·omega
 by_cases hm:x∈t.cX n
 ·have hr:=(JT _ p m).1 (List.all_eq_true.1 G3 x hm);have fZ:t.nG x n=1:=by
   have:0<(t.cX n).count x:=List.count_pos_iff.2 hm;unfold nG at hle ⊢;omega
  rw[fZ,Int.mul_one,Int.mul_one];have r1:p=0\/t.mp x<0\/t.pr x+p<=t.mp x:=hr.1;have r2:m=0\/t.mg x<0\/t.pg x+m<=t.mg x:=hr.2;omega
 ·have Eh:t.nG x n=0:=by unfold nG;rw[List.count_eq_zero_of_not_mem hm];rfl
  rw[Eh,Int.mul_zero,Int.mul_zero];exact⟨fun _=>.inr og,fun _=>.inr og⟩
def vN.aP{s:TG}(hO:s.Ok)(n p m:Int):s.vN (s.aP n p m):=by
 by_cases hc:s.cZ n p m=0
 ·intro x x0 x1 x2;have e:s.aP n p m=s.lay (s.cX n) p m:=by unfold TG.aP;rw[if_pos hc]
  have x3:s.aa x=true:=by rw[e]at x2;exact x2
  rw[nO x0 x1 x3];have:=Y8 hO hc x0 x1 x3;have f1:(s.aP n p m).mp x=s.mp x:=by rw[e];rfl
  have f2:(s.aP n p m).mg x=s.mg x:=by rw[e];rfl
  rw[f1,f2];exact this
 ·have e:s.aP n p m=s:=by unfold TG.aP;rw[if_neg hc]
  rw[e];exact vN.refl s
def O1(n p m:Int) :(s.cR n p m).aa=s.aa/\(s.cR n p m).mp=s.mp/\(s.cR n p m).mg=s.mg/\(s.cR n p m).pr x<=s.pr x/\(s.cR n p m).pg x<=s.pg x:=by
 unfold TG.cR;split
 ·rename_i h;obtain⟨_,p0,p1,m0,m1⟩:=vj h;refine⟨rfl,rfl,rfl,?_,?_⟩
  ·show s.pr x+ -p*((s.cX n).count x:Int)<=_;have:=Int.mul_nonneg p0 (show(0:Int)<=((s.cX n).count x:Int) by omega);rw[Int.neg_mul];omega
  ·show s.pg x+ -m*((s.cX n).count x:Int)<=_;have:=Int.mul_nonneg m0 (show(0:Int)<=((s.cX n).count x:Int) by omega);rw[Int.neg_mul];omega
 ·exact⟨rfl,rfl,rfl,Int.le_refl _,Int.le_refl _⟩
theorem vN.cR(s:TG)(n p m:Int):s.vN (s.cR n p m):=fun x x0 x1 x2=>by
 obtain⟨e1,_,_,e4,e5⟩:=O1 (s:=s) n p m (x:=x);rw[e1]at x2;rw[nO x0 x1 x2];exact⟨fun _=>.inr e4,fun _=>.inr e5⟩
def vN.move{s:TG}(hO:s.Ok)(a b p m:Int):s.vN (s.move a b p m):=by
 unfold TG.move;split
 ·exact vN.refl s
 ·split
  ·rename_i hc;intro x x0 x1 x2;obtain⟨e1,e2,e3,e4,e5⟩:=O1 (s:=s) a p m (x:=x);have hl:=vN.aP hO.cR b p m (s:=s.cR a p m) x x0 x1 x2;have x3:(s.cR a p m).aa x=true:=by
    have e:(s.cR a p m).aP b p m=(s.cR a p m).lay ((s.cR a p m).cX b) p m:=by unfold TG.aP;rw[if_pos hc]
    rw[e]at x2;exact x2
   rw[nO x0 x1 x3]at hl;have x4:s.aa x=true:=by rw[<-e1];exact x3
   rw[nO x0 x1 x4];have k1:((s.cR a p m).gv x).pr<=(s.gv x).pr:=e4;have k2:((s.cR a p m).gv x).pg<=(s.gv x).pg:=e5;refine⟨fun q=> ?_,fun q=> ?_⟩
   ·rcases hl.1 q with h | h
    ·exact .inl h
    ·exact .inr og
   ·rcases hl.2 q with h | h
    ·exact .inl h
    ·exact .inr og
  ·exact vN.refl s
def Own(s:TG)(f g:Int->Int):Prop:=∀ n,0<=n->n<10->s.aa n=true->f n=s.left s.pr n/\g n=s.left s.pg n
theorem Own.lay{s:TG}(hO:s.Ok){f g:Int->Int}(h:s.Own f g){n:Int}(h0:0<=n)(h1:n<10)(h2:s.aa n=true)(p m:Int):(s.lay (s.cX n) p m).Own (ad f n (f n+p)) (ad g n (g n+m)):=fun x x0 x1 x2=>by
 have a2:(s.lay (s.cX n) p m).left (s.lay (s.cX n) p m).pr x=s.left s.pr x+if x=n then p else 0:=yw hO h0 h1 h2 s.pr p x0
 have b2:(s.lay (s.cX n) p m).left (s.lay (s.cX n) p m).pg x=s.left s.pg x+if x=n then m else 0:=yw hO h0 h1 h2 s.pg m x0
 rw[a2,b2];obtain⟨e1,e2⟩:=h x x0 x1 x2;by_cases hx:x=n
 ·subst hx;rw[aj,aj,if_pos rfl,if_pos rfl,e1,e2];exact⟨rfl,rfl⟩
 ·rw[ae _ _ hx,ae _ _ hx,if_neg hx,if_neg hx,e1,e2];exact⟨og,og⟩
def Own.aP{s:TG}(hO:s.Ok){f g:Int->Int}(h:s.Own f g){n p m:Int}(hc:s.cZ n p m=0):(s.aP n p m).Own (ad f n (f n+p)) (ad g n (g n+m)):=by
 obtain⟨⟨n0,n1,n2⟩,_⟩:=q7 hc;have e:s.aP n p m=s.lay (s.cX n) p m:=by unfold TG.aP;rw[if_pos hc]
 rw[e];exact h.lay hO n0 n1 n2 p m
theorem Own.cR{s:TG}(hO:s.Ok){f g:Int->Int}(h:s.Own f g){n p m:Int}(hc:s.gk n p m=0):(s.cR n p m).Own (ad f n (f n-p)) (ad g n (g n-m)):=by
 obtain⟨⟨n0,n1,n2⟩,_⟩:=vj hc;have e:s.cR n p m=s.lay (s.cX n) (-p) (-m):=by unfold TG.cR;rw[if_pos hc]
 rw[e];have:=h.lay hO n0 n1 n2 (-p) (-m);rw[show f n+ -p=f n-p from og,show g n+ -m=g n-m from og]at this;exact this
def O2{a b p m:Int}(h:s.eN a b p m=0):s.gk a p m=0/\(s.cR a p m).cZ b p m=0/\s.move a b p m=(s.cR a p m).aP b p m:=by
 unfold eN at h;split at h
 ·omega
 ·split at h
  ·omega
  ·rename_i h1 h2;refine⟨og,h,?_⟩;unfold TG.move;rw[if_neg (fun q=>by rcases q with q | q<;>omega),if_pos h]
def Own.move{s:TG}(hO:s.Ok){f g:Int->Int}(h:s.Own f g){a b p m:Int}(hc:s.eN a b p m=0):(s.move a b p m).Own (ad (ad f a (f a-p)) b (ad f a (f a-p) b+p)) (ad (ad g a (g a-m)) b (ad g a (g a-m) b+m)):=by
 obtain⟨h1,h2,h3⟩:=O2 hc;rw[h3];exact(h.cR hO h1).aP hO.cR h2
theorem Own.add{s:TG}(hO:s.Ok){f g:Int->Int}(h:s.Own f g){a:Int}(ha:s.ud a=0):(s.add a).Own (ad f (s.gL a) 0) (ad g (s.gL a) 0):=by
 obtain⟨e1,e2,e3,e4,e5,_⟩:=Mu ha;have e:s.add a=s.put (s.gL a) a:=by unfold TG.add;rw[if_pos ha]
 rw[e];intro x x0 x1 x2;show _=(s.put (s.gL a) a).left (ad s.pr (s.gL a) 0) x/\_=(s.put (s.gL a) a).left (ad s.pg (s.gL a) 0) x;by_cases hx:x=s.gL a
 ·have ha2:a≠s.gL a:=fun q=>by
   have:=(jq e1).2.2;rw[q,e5]at this;cases this
  rw[hx,yy hO e5 e3 ha2,yy hO e5 e3 ha2,aj,aj];exact⟨rfl,rfl⟩
 ·have wE:s.aa x=true:=by
   have:(s.put (s.gL a) a).aa x=ad s.aa (s.gL a) true x:=rfl;rw[this,ae _ _ hx]at x2;exact x2
  rw[yx hO e5 _ wE,yx hO e5 _ wE,ae _ _ hx,ae _ _ hx];exact h x x0 x1 wE
def Own.du{s:TG}(hI:s.Inv){f g:Int->Int}(h:s.Own f g)(n:Int):(s.du n).Own f g:=by
 unfold TG.du;split
 ·rename_i h0;obtain⟨e1,e2,e3,e4,e5⟩:=Ah h0;obtain⟨n0,n1,n2⟩:=jq e1;have hnn:=hI.nn n0 n1 n2;intro x x0 x1 x2;have hx:x≠n:=fun e=>by
   subst e;have:(s.Bb x).aa x=ad s.aa x false x:=rfl;rw[this,aj]at x2;cases x2
  have x3:s.aa x=true:=by
   have:(s.Bb n).aa x=ad s.aa n false x:=rfl;rw[this,ae _ _ hx]at x2;exact x2
  have ig:∀ f:Int->Int,f n=0->(s.Bb n).left (ad f n 0) x=s.left f x:=fun f hf=>by
   unfold left;rw[ae _ _ hx];congr 1;refine di 10 fun j j0 j1=> ?_;unfold gF;show(if ad s.aa n false j=true/\ad s.aA n 0 j=x then ad f n 0 j else 0)=_;by_cases hj:j=n
   ·subst hj;rw[aj];simp[hf]
   ·rw[ae _ _ hj,ae _ _ hj,ae _ _ hj]
  show _=(s.Bb n).left (ad s.pr n 0) x/\_=(s.Bb n).left (ad s.pg n 0) x;rw[ig _ og,ig _ og];exact h x x0 x1 x3
 ·exact h
def Own.jD{s:TG}{f g:Int->Int}(h:s.Own f g)(n p m:Int):(s.jD n p m).Own f g:=by
 unfold TG.jD;split<;>exact h
theorem Own.cP:TG.cP.Own (fun _=>0) (fun _=>0):=fun n _ _ n2=>by
 have:n=0:=by rw[Ai]at n2;simpa using n2
 subst this;decide+kernel
end TG
def Nk{c:Int->Int->Int}{f g:Int->Int}{L:List Int}(h:∀ x∈L,f x=g x)(n:Int):jX c f L n=jX c g L n:=by
 unfold jX;congr 1;exact List.map_congr_left fun x hx=>by rw[h x hx]
def Ei{pre:List Int}(hp:pre.length<=5){v K:Int}(hK:0<=K)(hv: -K<=v/\v<=K)(q:Int): -(K*5)<=(pre.count q:Int)*v/\(pre.count q:Int)*v<=K*5:=by
 have:=TG.B1 (p:=v) (c:=(pre.count q:Int)) (K:=K) og hv (n:=5) (by have:=List.count_le_length (a:=q) (l:=pre);omega) hK;rw[Int.mul_comm v]at this;exact this
theorem GJ(W:Int->Int)(pre:List Int)(v q:Int):ad (fun n=>W n+(pre.count n:Int)*v) q (W q+(pre.count q:Int)*v+v)=fun n=>W n+((pre++[q]).count n:Int)*v:=by
 funext n;unfold ad;by_cases h:n=q
 ·subst h;rw[if_pos rfl,List.count_append,List.count_singleton_self];push_cast;rw[Int.add_mul,Int.one_mul];omega
 ·have h2:¬q=n:=fun e=>h e.symm;rw[if_neg h,List.count_append,List.count_singleton];simp[h2]
theorem K3(W:Int->Int)(v:Int):(fun n=>W n+(([]:List Int).count n:Int)*v)=W:=by funext n;simp
def Ej(s:TG)(k:Int):Int->GV:=fun n=>if 0<=n/\n<k then s.ck n else GV.zero
theorem Ry(s:TG):Ej s 0=fun _=>GV.zero:=by funext n;unfold Ej;exact if_neg og
theorem Rz(s:TG){k:Int}(h:0<=k):ad (Ej s k) k (s.ck k)=Ej s (k+1):=by
 funext n;unfold ad Ej;by_cases hn:n=k
 ·subst hn;rw[if_pos rfl,if_pos og]
 ·rw[if_neg hn];by_cases h2:0<=n/\n<k
  ·rw[if_pos h2,if_pos og]
  ·rw[if_neg h2,if_neg og]
theorem K4(h0:0<=n)(h1:n<10):Ej s 10 n=s.ck n:=if_pos ⟨h0,h1⟩
end Go.X.Gr

namespace Go.X.Kn
open Go Go.X Go.X.Gr Go.X.Vm
variable{T n x:Int}{m:Vm.MS}
theorem ln{f f':Int->Int}{n:Int} :∀ {k:Nat},0<=n->n<k->(∀ j:Int,0<=j->j<k->j≠n->f' j=f j)->cE f' k=cE f k-f n+f' n
 | 0,h0,h1,_=>og
 | k+1,h0,h1,h=>by
  unfold cE;by_cases e:n=k
  ·subst e;rw[di k fun j a b=>h j a og og];omega
  ·rw[ln (n:=n) (k:=k) h0 og fun j a b c=>h j a og c,h k og og fun c=>e c.symm];omega
def Ic{f:Int->Int}{n:Int} :∀ {k:Nat},0<=n->n<k->(∀ j:Int,0<=j->j<k->0<=f j)->f n<=cE f k
 | 0,h0,h1,_=>og
 | k+1,h0,h1,h=>by
  unfold cE;have hk:=h k og og;by_cases e:n=k
  ·subst e;have:=B3 (f:=f) k (fun j a b=>h j a og);omega
  ·have:=Ic (f:=f) (n:=n) (k:=k) h0 og (fun j a b=>h j a og);omega
def KA.pc(a:KA)(y j:Int):Int:=if(a.u j).st≠0/\(a.u j).cB=y then 1 else 0
def KA.rc(a:KA)(y j:Int):Int:=if(a.u j).cB=y then a.eZ j else 0
def KA.tr(a:KA)(y:Int):Int:=cE (a.pc y) 20
def KA.rA(a:KA)(y:Int):Int:=cE (a.rc y) 20
structure KA.GI (a:KA):Prop where
 cB:∀ n,0<=n->n<20->(a.u n).st≠0->a.g.cC (a.u n).cB=0
 bH:a.g.Own a.tr a.rA
def sM(m:Vm.MS):0<=m.eZ/\m.eZ<=16:=HB m.fr 16
def KA.afI(a:KA)(y j:Int):0<=a.pc y j:=by unfold KA.pc;split<;>omega
def KA.afJ(a:KA)(y j:Int):0<=a.rc y j:=by
 unfold KA.rc;split
 ·exact(sM _).1
 ·exact Int.le_refl _
def kJ{g:Gr.TG}{f f' h h':Int->Int}(o:g.Own f h)(e1:∀ y,0<=y->y<10->g.aa y=true->f' y=f y)(e2:∀ y,0<=y->y<10->g.aa y=true->h' y=h y):g.Own f' h':=fun n a b c=>by rw[e1 n a b c,e2 n a b c];exact o n a b c
theorem KA.GI.same{a a':KA}(h:a.GI)(hu:∀ p,(a'.u p).st=(a.u p).st/\(a'.u p).cB=(a.u p).cB)(hg:a'.g=a.g)(hf:∀ j,0<=j->a'.eZ j=a.eZ j):a'.GI:=by
 have e1:a'.tr=a.tr:=by
  funext y;exact di 20 fun j _ _=>by unfold KA.pc;rw[(hu j).1,(hu j).2]
 have e2:a'.rA=a.rA:=by
  funext y;exact di 20 fun j j0 _=>by unfold KA.rc;rw[(hu j).2,hf j j0]
 exact⟨fun n a0 a1 q=>by rw[(hu n).1]at q;rw[(hu n).2,hg];exact h.cB n a0 a1 q,by rw[e1,e2,hg];exact h.bH⟩
theorem O3(v:VB)(fr:Int->Int)(a:Int):∀ k:Nat,(Mo v fr a k).1=cE (fun j=>if 0<fr (a+j)then 1 else 0) k
 | 0=>rfl
 | k+1=>by
  unfold Mo Yr cE;have ih:=O3 v fr a k;split
  ·show(Mo v fr a k).1+1=_;rw[ih]
  ·rw[ih];omega
theorem uO(fr:Int->Int):∀ k:Nat,tj fr k=cE (fun j=>if 0<fr j then 1 else 0) k
 | 0=>rfl
 | k+1=>by unfold tj cE;rw[uO fr k]
theorem pG(f:Int->Int):∀ (m k:Nat),cE f (m+k)=cE f m+cE (fun j=>f ((m:Int)+j)) k
 | m,0=>(Int.add_zero _).symm
 | m,k+1=>by
  show cE f (m+k)+f ((m+k:Nat):Int)=_+(cE _ k+_);rw[pG f m k,show((m+k:Nat):Int)=(m:Int)+(k:Int)from og,Int.add_assoc]
def GK(v:VB)(m:Vm.MS)(x n:Int):(m.ep v x n).1=m.eZ-(m.ep v x n).2.2.2.eZ/\0<=(m.ep v x n).1:=by
 unfold Vm.MS.ep;split
 ·exact⟨(Int.sub_self _).symm,Int.le_refl 0⟩
 ·rename_i c;have hb:¬(x<0\/15<x\/n<1\/16-x<n):=c;show(Mo v m.fr x n.toNat).1=tj m.fr 16-tj (fT m.fr x n 0) 16/\0<=(Mo v m.fr x n.toNat).1;rw[O3,uO,uO];obtain⟨i,hi⟩:∃ i:Nat,x=i:=⟨x.toNat,og⟩;obtain⟨j,hj⟩:∃ j:Nat,n=j:=⟨n.toNat,og⟩;obtain⟨l,hl⟩:∃ l:Nat,(16:Nat)=i+j+l:=⟨16-i-j,og⟩;subst hi;subst hj;rw[hl,pG _ (i+j) l,pG _ i j,pG _ (i+j) l,pG _ i j,show((j:Int)).toNat=j by omega];have e1:cE (fun y=>if 0<fT m.fr (i:Int) (j:Int) 0 y then(1:Int)else 0) i=cE (fun y=>if 0<m.fr y then(1:Int)else 0) i:=di i fun y a b=>by
   unfold fT;rw[if_neg (show ¬((i:Int)<=y/\y<(i:Int)+j) by omega)]
  have e2:cE (fun y=>if 0<fT m.fr (i:Int) (j:Int) 0 ((i:Int)+y)then(1:Int)else 0) j=0:=fw j fun y a b=>by
   unfold fT;rw[if_pos (show(i:Int)<=(i:Int)+y/\(i:Int)+y<(i:Int)+j by omega)];rfl
  have e3:cE (fun y=>if 0<fT m.fr (i:Int) (j:Int) 0 (((i+j:Nat):Int)+y)then(1:Int)else 0) l=cE (fun y=>if 0<m.fr (((i+j:Nat):Int)+y)then(1:Int)else 0) l:=di l fun y a b=>by
   unfold fT;rw[if_neg (show ¬((i:Int)<=((i+j:Nat):Int)+y/\((i+j:Nat):Int)+y<(i:Int)+j) by omega)]
  have e4:=B3 (f:=fun y=>if 0<m.fr ((i:Int)+y)then(1:Int)else 0) j (fun y _ _=>by show(0:Int)<=if _ then _ else _;split<;>omega);rw[e1,e2,e3];exact⟨og,e4⟩
def Cg{g:Gr.TG}{p m:Int}(h:g.cC n=0)(hp:0<=p/\p<=20)(hm:0<=m/\m<=64)(h1:p<=g.left g.pr n:=by omega)(h2:m<=g.left g.pg n:=by omega):g.gk n p m=0:=by
 have e:g.pN n p m=0:=by unfold Gr.TG.pN;rw[if_neg og];exact(Gr.TG.Bc _ _).2 ⟨hp.1,hp.2,hm.1,hm.2⟩
 unfold Gr.TG.gk;rw[if_neg og,if_pos ⟨h1,h2⟩]
theorem KA.GI.left{a:KA}(h:a.GI){n:Int}(hn:0<=n/\n<20)(hs:(a.u n).st≠0):1<=a.g.left a.g.pr (a.u n).cB/\a.eZ n<=a.g.left a.g.pg (a.u n).cB:=by
 obtain⟨h0,h1,h2⟩:=Gr.TG.jq (h.cB n hn.1 hn.2 hs);obtain⟨e1,e2⟩:=h.bH _ h0 h1 h2;rw[<-e1,<-e2];have k1:=Ic (f:=a.pc (a.u n).cB) (n:=n) (k:=20) hn.1 og fun j _ _=>a.afI _ j;have k2:=Ic (f:=a.rc (a.u n).cB) (n:=n) (k:=20) hn.1 og fun j _ _=>a.afJ _ j;rw[show a.pc (a.u n).cB n=1 from if_pos ⟨hs,rfl⟩]at k1;rw[show a.rc (a.u n).cB n=a.eZ n from if_pos rfl]at k2;exact⟨k1,k2⟩
theorem np(g g':Gr.TG)(h:gV g g')(n:Int):g'.cC n=g.cC n:=by unfold Gr.TG.cC;rw[h.1]
def KA.GI.aaT{a a':KA}(h:a.GI)(ho:a.g.Ok)(hn:0<=n/\n<20)(hs:(a.u n).st≠0)(hu:∀ p,((a'.u p).st≠0↔(a.u p).st≠0)/\(a'.u p).cB=(a.u p).cB)(hf:∀ j,0<=j->j≠n->a'.eZ j=a.eZ j)(d:Int)(hd:a.eZ n=a'.eZ n+d)(hg:a'.g=a.g.cR (a.u n).cB 0 d)(hd0:0<=d):a'.GI/\a.g.gk (a.u n).cB 0 d=0:=by
 obtain⟨l1,l2⟩:=h.left hn hs;have r1:=(sM (a.f n.toNat)).2;have r2:=(sM (a'.f n.toNat)).1;have r1:a.eZ n<=16:=r1;have r2:0<=a'.eZ n:=r2;have e:a.g.gk (a.u n).cB 0 d=0:=Cg (h.cB n hn.1 hn.2 hs) ⟨og,og⟩ ⟨hd0,og⟩;refine⟨⟨fun p p0 p1 q=> ?_,?_⟩,e⟩
 ·rw[(hu p).2,hg,np _ _ (pF _ _ _ _)];exact h.cB p p0 p1 ((hu p).1.1 q)
 ·rw[hg];refine kJ (h.bH.cR ho e) (fun y y0 y1 _=> ?_) fun y y0 y1 _=> ?_
  ·have:a'.tr y=a.tr y:=di 20 fun j _ _=>by
    unfold KA.pc;rw[(hu j).2];by_cases c:(a.u j).st≠0/\(a.u j).cB=y
    ·rw[if_pos c,if_pos ⟨(hu j).1.2 c.1,c.2⟩]
    ·rw[if_neg c,if_neg fun q=>c ⟨(hu j).1.1 q.1,q.2⟩]
   rw[this];by_cases c:y=(a.u n).cB
   ·rw[c,aj];omega
   ·rw[ae _ _ c]
  ·have k:=ln (f:=a.rc y) (f':=a'.rc y) (n:=n) (k:=20) hn.1 og (fun j j0 _ c=>by unfold KA.rc;rw[(hu j).2,hf j j0 c]);have k:a'.rA y=a.rA y-a.rc y n+a'.rc y n:=k;rw[k];unfold KA.rc;rw[(hu n).2];by_cases c:y=(a.u n).cB
   ·rw[c,aj,if_pos rfl,if_pos rfl];omega
   ·rw[ae _ _ c,if_neg fun q=>c q.symm,if_neg fun q=>c q.symm];omega
def Ek{a:KA}(hn:0<=n)(v:VB)(g:Gr.TG)(u:Int->PA)(O:Tr.OS)(P:Tr.PS):(∀ j,0<=j->j≠n->({a with u:=u,v:=v,g:=g,f:=bu a.f n.toNat m,O:=O,P:=P} :KA).eZ j=a.eZ j)/\({a with u:=u,v:=v,g:=g,f:=bu a.f n.toNat m,O:=O,P:=P} :KA).eZ n=m.eZ:=by
 refine⟨fun j j0 c=> ?_,?_⟩
 ·show(bu a.f n.toNat m j.toNat).eZ=_;rw[iA _ _ og];rfl
 ·show(bu a.f n.toNat m n.toNat).eZ=_;rw[lz]
theorem KA.Wk.RA{a:KA}(w:a.Wk T)(hn:0<=n/\n<20)(hs:(a.u n).st≠1):a.eZ n=0:=by
 unfold KA.eZ;rw[w.sE n hn.1 hn.2 hs];rfl
def lQ:df KA.GI where
 rest:=fun {a u} h hu=>h.same (fun p=>⟨(hu p).1,(hu p).2.1⟩) rfl fun _ _=>rfl
 end_:=fun {a T n} co w hn hl h=>by
  obtain⟨e1,e2⟩:=GK a.v (a.f n.toNat) 0 16
  obtain⟨f1,f2⟩:=Ek (a:=a) (m:=(a.um n).2.2.2) hn.1 (a.um n).2.2.1 (a.g.cR (a.u n).cB 0 (a.um n).1) (a.c9 n co).u (a.c9 n co).O (a.c9 n co).P
  refine(h.aaT (a':=a.c9 n co) w.gI.ok hn og (fun p=>⟨(acK hl co p).1,?_⟩) f1 (a.um n).1 ?_ rfl e2).1
  ·show(ad a.u n _ p).cB=_
   by_cases c:p=n
   ·subst c;rw[aj]
   ·rw[ae _ _ c]
  ·rw[show(a.c9 n co).eZ n=_ from f2]
   show(a.f n.toNat).eZ=_
   show _=((a.f n.toNat).ep a.v 0 16).2.2.2.eZ+((a.f n.toNat).ep a.v 0 16).1
   omega
 Au:=fun {a T n} w hn hs h=>by
  obtain⟨l1,l2⟩:=h.left hn og
  have r0:=w.RA hn og
  have e:a.g.gk (a.u n).cB 1 0=0:=Cg (h.cB n hn.1 hn.2 og) ⟨og,og⟩ ⟨og,og⟩ l1
  have un:(a.fj n).u n=PA.nil:=aj _ _ _
  refine⟨fun p p0 p1 q=> ?_,?_⟩
  ·have c:p≠n:=by rintro rfl;rw[un]at q;exact q rfl
   rw[nL _ c]at q ⊢
   show(a.g.cR _ 1 0).cC _=0
   rw[np _ _ (pF _ _ _ _)];exact h.cB p p0 p1 q
  ·show(a.g.cR (a.u n).cB 1 0).Own _ _
   refine kJ (h.bH.cR w.gI.ok e) (fun y y0 y1 _=> ?_) fun y y0 y1 _=> ?_
   ·have k:=ln (f:=a.pc y) (f':=(a.fj n).pc y) (n:=n) (k:=20) hn.1 og (fun j _ _ c=>by unfold KA.pc;rw[nL _ c])
    have k:(a.fj n).tr y=a.tr y-a.pc y n+(a.fj n).pc y n:=k
    have k0:(a.fj n).pc y n=0:=by unfold KA.pc;rw[un,if_neg fun q=>q.1 rfl]
    rw[k,k0]
    unfold KA.pc
    by_cases c:y=(a.u n).cB
    ·rw[c,aj,if_pos ⟨og,rfl⟩];omega
    ·rw[ae _ _ c,if_neg fun q=>c q.2.symm];omega
   ·have k:(a.fj n).rA y=a.rA y:=di 20 fun j j0 j1=>by
     unfold KA.rc
     by_cases c:j=n
     ·subst c
      rw[show(a.fj j).eZ j=0 from r0,r0];split<;>split<;>rfl
     ·rw[nL _ c];rfl
    rw[k]
    by_cases c:y=(a.u n).cB
    ·rw[c,aj];omega
    ·rw[ae _ _ c]
 spc:=fun s h=>h.same (fun _=>⟨rfl,rfl⟩) rfl fun _ _=>rfl
theorem KA.GI.jl{a:KA}(h:a.GI)(ok:a.Ok0 T)(n:Int)(bH:Bool):(a.hQ n bH).GI:=by
 unfold KA.hQ;split
 ·exact h
 ·rename_i c;have hl:a.aB n=0:=og;have gE:a.g.cZ (a.u n).cB 1 (a.eZ n)=0:=by
    have:a.gE n=0:=og;exact this
  obtain⟨hn,hs⟩:=bQ hl;have ho:=ok.wk.gI.ok;have o1:=h.bH.aP ho gE;have rrz:0<=a.eZ n/\a.eZ n<=16:=sM _;have i1:(a.gC n).cC (a.u n).cB=0:=by unfold KA.gC;rw[np _ _ (lH _ _ _ _)];exact h.cB n hn.1 hn.2 og
  split
  ·obtain⟨h0,h1,h2⟩:=Gr.TG.jq i1;obtain⟨q1,q2⟩:=o1 _ h0 h1 h2;rw[aj]at q1 q2;obtain⟨k0,k1,k2⟩:=Gr.TG.jq (h.cB n hn.1 hn.2 og);obtain⟨p1,p2⟩:=h.bH _ k0 k1 k2;obtain⟨l1,l2⟩:=h.left hn og;have e:(a.gC n).gk (a.u n).cB 1 (a.eZ n)=0:=Cg i1 ⟨og,og⟩ ⟨og,og⟩ (by show 1<=(a.g.aP (a.u n).cB 1 (a.eZ n)).left (a.g.aP (a.u n).cB 1 (a.eZ n)).pr (a.u n).cB;omega) (by show a.eZ n<=(a.g.aP (a.u n).cB 1 (a.eZ n)).left (a.g.aP (a.u n).cB 1 (a.eZ n)).pg (a.u n).cB;omega);refine⟨fun p p0 p1 q=> ?_,?_⟩
   ·show((a.gC n).cR _ 1 _).cC _=0;rw[np _ _ (pF _ _ _ _)];unfold KA.gC;rw[np _ _ (lH _ _ _ _)];exact h.cB p p0 p1 q
   ·have o2:=Gr.TG.Own.cR (s:=a.gC n) (ok.wk.gI.aP _ _ _).ok o1 e;refine kJ o2 (fun y _ _ _=> ?_) fun y _ _ _=> ?_
    ·show a.tr y=_;by_cases c:y=(a.u n).cB
     ·rw[c,aj,aj];omega
     ·rw[ae _ _ c,ae _ _ c]
    ·show a.rA y=_;by_cases c:y=(a.u n).cB
     ·rw[c,aj,aj];omega
     ·rw[ae _ _ c,ae _ _ c]
  ·have D4:=a.free_spec.resolve_left (show a.free≠20 by omega);have gY:n≠a.free:=by rintro e;rw[<-e]at D4;omega
   have hu:∀ m,m≠a.free->(a.dU n bH).u m=a.u m:=fun m hm=>ae _ _ hm;have Xb:(a.dU n bH).u a.free=a.M9 n:=aj _ _ _;have hr:∀ j,0<=j->j≠a.free->(a.dU n bH).eZ j=a.eZ j:=fun j j0 c=>by
    show(bu (bu a.f n.toNat (a.f n.toNat).bare) a.free.toNat (a.f n.toNat).bare j.toNat).eZ=_;rw[iA _ _ og];by_cases d:j=n
    ·subst d;rw[lz];rfl
    ·rw[iA _ _ og];rfl
   have hrc:(a.dU n bH).eZ a.free=a.eZ n:=by
    show(bu (bu a.f n.toNat (a.f n.toNat).bare) a.free.toNat (a.f n.toNat).bare a.free.toNat).eZ=_;rw[lz];rfl
   have r0:=ok.wk.RA D4.1 og;refine⟨fun p p0 p1 q=> ?_,?_⟩
   ·show(a.gC n).cC _=0;by_cases e:p=a.free
    ·rw[e,Xb];exact i1
    ·rw[hu p e]at q ⊢;unfold KA.gC;rw[np _ _ (lH _ _ _ _)];exact h.cB p p0 p1 q
   ·show(a.gC n).Own _ _;refine kJ o1 (fun y _ _ _=> ?_) fun y _ _ _=> ?_
    ·have k:=ln (f:=a.pc y) (f':=(a.dU n bH).pc y) (n:=a.free) (k:=20) D4.1.1 og (fun j _ _ c=>by unfold KA.pc;rw[hu j c]);have k:(a.dU n bH).tr y=a.tr y-a.pc y a.free+(a.dU n bH).pc y a.free:=k;have k0:a.pc y a.free=0:=if_neg fun q=>q.1 D4.2;rw[k,k0];unfold KA.pc;rw[Xb];by_cases c:y=(a.u n).cB
     ·rw[c,aj,if_pos ⟨(by decide:(1:Int)≠0),rfl⟩];omega
     ·rw[ae _ _ c,if_neg fun q=>c q.2.symm];omega
    ·have k:=ln (f:=a.rc y) (f':=(a.dU n bH).rc y) (n:=a.free) (k:=20) D4.1.1 og (fun j j0 _ c=>by unfold KA.rc;rw[hu j c,hr j j0 c]);have k:(a.dU n bH).rA y=a.rA y-a.rc y a.free+(a.dU n bH).rc y a.free:=k;have k0:a.rc y a.free=0:=by unfold KA.rc;rw[r0];split<;>rfl
     rw[k,k0];unfold KA.rc;rw[Xb,hrc];show(a.rA y-0+if(a.u n).cB=y then a.eZ n else 0)=_;by_cases c:y=(a.u n).cB
     ·rw[c,aj,if_pos rfl];omega
     ·rw[ae _ _ c,if_neg fun q=>c q.symm];omega
theorem KA.GI.mem{a:KA}(h:a.GI)(hn:0<=n)(hm:m.eZ=(a.f n.toNat).eZ)(v:VB):({a with v:=v,f:=bu a.f n.toNat m,g:=a.g} :KA).GI:=by
 obtain⟨f1,f2⟩:=Ek (a:=a) (m:=m) hn v a.g a.u a.O a.P;refine h.same (fun _=>⟨rfl,rfl⟩) rfl fun j j0=> ?_;by_cases c:j=n
 ·subst c;exact f2.trans hm
 ·exact f1 j j0 c
theorem KA.GI.ep{a:KA}{T:Int}(h:a.GI)(ok:a.Ok0 T)(n x m:Int):(a.jN n x m).GI/\a.oq n x m=(if a.aB n≠0 then a.aB n else(a.wy n x m).2.1):=by
 by_cases c:a.aB n≠0
 ·unfold KA.jN KA.oq;rw[if_pos c,if_pos c,if_pos c];exact⟨h,rfl⟩
 ·obtain⟨hn,hs⟩:=bQ (show a.aB n=0 by omega);obtain⟨e1,e2⟩:=GK a.v (a.f n.toNat) x m;by_cases d:(a.wy n x m).2.1≠0
  ·have em:a.wy n x m=(0,1,a.v,a.f n.toNat):=by
    unfold KA.wy Vm.MS.ep at d ⊢;split at d
    ·rename_i q;rw[if_pos q]
    ·exact absurd rfl d
   have e:a.jN n x m=a:=by
    unfold KA.jN;rw[if_neg c,em,if_pos (show((0:Int),(1:Int),a.v,a.f n.toNat).2.1≠0 from(by decide:(1:Int)≠0)),jG]
   rw[e];refine⟨h,?_⟩;unfold KA.oq;rw[if_neg c,if_neg c,if_pos d]
  ·obtain⟨f1,f2⟩:=Ek (a:=a) (m:=(a.wy n x m).2.2.2) hn.1 (a.wy n x m).2.2.1 (a.g.cR (a.u n).cB 0 (a.wy n x m).1) a.u a.O a.P;have e:a.jN n x m= {a with v:=(a.wy n x m).2.2.1,f:=bu a.f n.toNat (a.wy n x m).2.2.2,g:=a.g.cR (a.u n).cB 0 (a.wy n x m).1} :=by
    unfold KA.jN;rw[if_neg c,if_neg d]
   have k:=h.aaT (a':= {a with v:=(a.wy n x m).2.2.1,f:=bu a.f n.toNat (a.wy n x m).2.2.2,g:=a.g.cR (a.u n).cB 0 (a.wy n x m).1}) ok.wk.gI.ok hn og (fun p=>⟨Iff.rfl,rfl⟩) f1 (a.wy n x m).1 (by
    rw[f2]
    show(a.f n.toNat).eZ=_
    unfold KA.wy;rw[e1];omega) rfl e2
   rw[e];refine⟨k.1,?_⟩;unfold KA.oq;rw[if_neg c,if_neg c,if_neg d,k.2];omega
def KA.GI.td{a:KA}(h:a.GI)(wk:a.Wk T)(p w:Int):(a.nM p w).GI:=by
 unfold KA.nM;split
 ·exact h
 ·by_cases c:a.g.ud p=0
  ·obtain⟨_,_,k0,k1,kh,_⟩:=Gr.TG.Mu c;have no:∀ n,0<=n->n<20->(a.u n).st≠0->(a.u n).cB≠a.g.gL p:=fun n a0 a1 q e=>by
    have:=(Gr.TG.jq (h.cB n a0 a1 q)).2.2;rw[e,kh]at this;cases this
   have hh:(a.g.add p).aa=ad a.g.aa (a.g.gL p) true:=by unfold Gr.TG.add;rw[if_pos c];rfl
   refine⟨fun n a0 a1 q=> ?_,?_⟩
   ·obtain⟨g0,g1,g2⟩:=Gr.TG.jq (h.cB n a0 a1 q);refine Gr.TG.C4 g0 g1 ?_;show(a.g.add p).aa (a.u n).cB=true;rw[hh,ae _ _ (no n a0 a1 q)];exact g2
   ·refine kJ (h.bH.add wk.gI.ok c) (fun y _ _ _=> ?_) (fun y y0 y1 hy=> ?_)
    ·show a.tr y=_;by_cases e:y=a.g.gL p
     ·rw[e,aj];exact fw 20 fun j j0 j1=>if_neg fun q=>no j j0 og q.1 q.2
     ·rw[ae _ _ e]
    ·show a.rA y=_;by_cases e:y=a.g.gL p
     ·rw[e,aj];refine fw 20 fun j j0 j1=> ?_;unfold KA.rc;by_cases q:(a.u j).st=0
      ·rw[wk.RA ⟨j0,og⟩ og];split<;>rfl
      ·rw[if_neg (no j j0 og q)]
     ·rw[ae _ _ e]
  ·have e:a.g.add p=a.g:=(Gr.TG.si c).2;rw[e];exact h
def KA.GI.pd{a:KA}(h:a.GI)(wk:a.Wk T)(n:Int):(a.Az n).GI:=by
 refine⟨fun p p0 p1 q=> ?_,h.bH.du wk.gI n⟩;have hg:=h.cB p p0 p1 q;show(a.g.du n).cC (a.u p).cB=0;by_cases c:a.g.dz n=0
 ·obtain⟨k0,k1,k2,k3,k4⟩:=Gr.TG.Ah c;have e:(a.g.du n).aa=ad a.g.aa n false:=by unfold Gr.TG.du;rw[if_pos c];rfl
  obtain⟨g0,g1,g2⟩:=Gr.TG.jq hg;apply Gr.TG.C4 g0 g1;rw[e];by_cases d:(a.u p).cB=n
  ·exfalso;have l:=(h.left ⟨p0,p1⟩ q).1;rw[d]at l;have z:cE (a.g.gF a.g.pr n) 10=0:=fw 10 fun j j0 j1=>by
    unfold Gr.TG.gF;by_cases x:a.g.aa j=true/\a.g.aA j=n
    ·exact absurd x.2 (Gr.TG.UG k4 j0 og x.1)
    ·rw[if_neg x]
   unfold Gr.TG.left at l;omega
  ·rw[ae _ _ d];exact g2
 ·have e:a.g.du n=a.g:=by unfold Gr.TG.du;rw[if_neg c]
  rw[e];exact hg
theorem Nl(g:Gr.TG)(n p m:Int):(g.jD n p m).aa=g.aa/\(g.jD n p m).pr=g.pr/\(g.jD n p m).pg=g.pg:=by unfold Gr.TG.jD;split<;>exact⟨rfl,rfl,rfl⟩
def KA.GI.VC{a:KA}(h:a.GI)(n p m:Int):(a.Rt n p m).GI:=
 ⟨fun y a0 a1 q=>by
  have:=h.cB y a0 a1 q
  show(a.g.jD n p m).cC (a.u y).cB=0
  unfold Gr.TG.cC at this ⊢
  rw[(Nl _ _ _ _).1];exact this,h.bH.jD n p m⟩
def KA.GI.BF{a:KA}(h:a.GI)(wk:a.Wk T)(n z:Int):(a.pE n z).GI:=by
 unfold KA.pE;split
 ·exact h
 ·rename_i c;obtain⟨hn,hs⟩:=bQ (show a.aB n=0 by omega);have hE:a.g.eN (a.u n).cB z 1 (a.eZ n)=0:=by
    have:a.GC n z=0:=og;exact this
  obtain⟨m1,m2,m3⟩:=Gr.TG.O2 hE;have hz:=Gr.TG.q7 m2;have hl:gV a.g (a.g.move (a.u n).cB z 1 (a.eZ n)):=by rw[m3];exact gV.trans (pF _ _ _ _) (lH _ _ _ _)
  have iz:a.g.cC z=0:=by
   have:=Gr.TG.C4 hz.1.1 hz.1.2.1 hz.1.2.2;rwa[np _ _ (pF _ _ _ _)]at this
  have uu:∀ p,p≠n->ad a.u n {a.u n with cB:=z} p=a.u p:=fun p hp=>ae _ _ hp;have un:ad a.u n {a.u n with cB:=z} n= {a.u n with cB:=z} :=aj _ _ _;refine⟨fun p p0 p1 q=> ?_,?_⟩
  ·show(a.g.move _ _ _ _).cC (ad a.u n {a.u n with cB:=z} p).cB=0;rw[np _ _ hl];have q:(ad a.u n {a.u n with cB:=z} p).st≠0:=q;by_cases e:p=n
   ·rw[e,un];exact iz
   ·rw[uu p e]at q ⊢;exact h.cB p p0 p1 q
  ·refine kJ (h.bH.move wk.gI.ok hE) (fun y _ _ _=> ?_) (fun y _ _ _=> ?_)
   ·have k:=ln (f:=a.pc y) (f':=KA.pc {a with u:=ad a.u n {a.u n with cB:=z},g:=a.g.move (a.u n).cB z 1 (a.eZ n)} y) (n:=n) (k:=20) hn.1 og (fun j _ _ c=>by
     unfold KA.pc
     show(if(ad a.u n {a.u n with cB:=z} j).st≠0/\(ad a.u n {a.u n with cB:=z} j).cB=y then(1:Int)else 0)=_
     rw[uu j c])
    apply Eq.trans (b:=a.tr y-a.pc y n+(if z=y then 1 else 0))
    ·apply k.trans;have:KA.pc {a with u:=ad a.u n {a.u n with cB:=z},g:=a.g.move (a.u n).cB z 1 (a.eZ n)} y n=if z=y then 1 else 0:=by
      unfold KA.pc;show(if(ad a.u n {a.u n with cB:=z} n).st≠0/\(ad a.u n {a.u n with cB:=z} n).cB=y then(1:Int)else 0)=_;rw[un];by_cases e:z=y
      ·rw[if_pos e,if_pos ⟨by show(a.u n).st≠0;omega,e⟩]
      ·rw[if_neg e,if_neg fun q=>e q.2]
     rw[this];rfl
    ·have e1:a.pc y n=if(a.u n).cB=y then 1 else 0:=by
      unfold KA.pc;by_cases e:(a.u n).cB=y
      ·rw[if_pos e,if_pos ⟨og,e⟩]
      ·rw[if_neg e,if_neg fun q=>e q.2]
     rw[e1];by_cases e:y=z
     ·rw[e,aj,if_pos rfl];by_cases d:(a.u n).cB=z
      ·rw[d,aj,if_pos rfl]
      ·rw[if_neg d,ae _ _ fun q=>d q.symm];omega
     ·rw[ae _ _ e,if_neg (show ¬z=y from fun q=>e q.symm)];by_cases d:(a.u n).cB=y
      ·rw[d,aj,if_pos rfl];omega
      ·rw[if_neg d,ae _ _ fun q=>d q.symm];omega
   ·have k:=ln (f:=a.rc y) (f':=KA.rc {a with u:=ad a.u n {a.u n with cB:=z},g:=a.g.move (a.u n).cB z 1 (a.eZ n)} y) (n:=n) (k:=20) hn.1 og (fun j _ _ c=>by
     unfold KA.rc
     show(if(ad a.u n {a.u n with cB:=z} j).cB=y then a.eZ j else 0)=_
     rw[uu j c])
    apply Eq.trans (b:=a.rA y-a.rc y n+(if z=y then a.eZ n else 0))
    ·apply k.trans;have:KA.rc {a with u:=ad a.u n {a.u n with cB:=z},g:=a.g.move (a.u n).cB z 1 (a.eZ n)} y n=if z=y then a.eZ n else 0:=by
      unfold KA.rc;show(if(ad a.u n {a.u n with cB:=z} n).cB=y then a.eZ n else 0)=_;rw[un]
     rw[this];rfl
    ·unfold KA.rc;by_cases e:y=z
     ·rw[e,aj,if_pos rfl];by_cases d:(a.u n).cB=z
      ·rw[d,aj,if_pos rfl]
      ·rw[if_neg d,ae _ _ fun q=>d q.symm];omega
     ·rw[ae _ _ e,if_neg (show ¬z=y from fun q=>e q.symm)];by_cases d:(a.u n).cB=y
      ·rw[d,aj,if_pos rfl];omega
      ·rw[if_neg d,ae _ _ fun q=>d q.symm];omega
theorem GM{fr:Int->Int}{i v:Int}(h:0<=i/\i<16:=by omega)(hv:0<v:=by omega):tj (ad fr i v) 16=tj fr 16+(if 0<fr i then 0 else 1):=by
 rw[uO,uO,ln (f:=fun j=>if 0<fr j then 1 else 0) (f':=fun j=>if 0<ad fr i v j then 1 else 0) (n:=i) (k:=16) h.1 og (fun j _ _ c=>by show(if 0<ad fr i v j then(1:Int)else 0)=_;rw[ae _ _ c])];show _-(if 0<fr i then(1:Int)else 0)+(if 0<ad fr i v i then 1 else 0)=_;rw[aj,if_pos hv];split<;>omega
def O4{v:VB}(h:v.Ok)(e:v.take.2.1=0:=by omega):0<=v.take.1:=by
 have k:=nA h e;exact k.1
def GN{v:VB}(hv:v.Ok)(hm:m.Ok)(x:Int)(w:Bool):(m.b6 v x w).2.2.2.eZ=m.eZ+(if(m.b6 v x w).2.1=0/\m.l9 x=true then 1 else 0):=by
 have lo:=hm.lo (x/8);unfold Vm.MS.b6;by_cases c1:m.sV x w=false
 ·rw[if_pos c1,if_neg (fun q=>absurd (show(10:Int)=0 from q.1) dq)];exact(Int.add_zero _).symm
 ·rw[if_neg c1];have sV:m.sV x w=true:=by simpa using c1
  have rx:=Vm.MS.p6 sV;have m0:m.sV x false=true:=by
   unfold Vm.MS.sV at sV ⊢;simp only[Bool.and_eq_true,Bool.or_eq_true,decide_eq_true_eq,beq_iff_eq]at sV ⊢;exact⟨sV.1,sV.2.imp id fun q=>⟨q.1,rfl⟩⟩
  by_cases c2:m.fr (x/8)=0
  ·have wa:m.l9 x=true:=by unfold Vm.MS.l9;rw[m0,c2];rfl
   rw[if_pos c2];by_cases c3:v.take.2.1≠0
   ·rw[if_pos c3,if_neg fun q=>c3 q.1];exact(Int.add_zero _).symm
   ·rw[if_neg c3,if_pos ⟨rfl,wa⟩];show tj (ad m.fr (x/8) (v.take.1+1)) 16=_;have:=O4 hv;rw[GM,if_neg og];rfl
  ·have wa:m.l9 x=false:=by unfold Vm.MS.l9;rw[beq_false_of_ne c2];simp
   rw[if_neg c2,wa];have z:∀ {p:Prop} [Decidable p],(if p/\false=true then(1:Int)else 0)=0:=if_neg fun q=>by cases q.2
   rw[z,Int.add_zero];split
   ·rfl
   ·split
    ·rfl
    ·split
     ·rfl
     ·rename_i c3;show tj (ad m.fr (x/8) (v.take.1+1)) 16=_;have:=O4 hv;rw[GM,if_pos og];exact Int.add_zero _
def Nn(v:VB)(m:Vm.MS)(x:Int):(m.load v x).2.1=(m.b6 v x false).2.1/\(m.load v x).2.2.2=(m.b6 v x false).2.2.2:=by
 unfold Vm.MS.load;show(if(m.b6 v x false).2.1≠0 then _ else _:Int×Int×VB×Vm.MS).2.1=_/\(if(m.b6 v x false).2.1≠0 then _ else _:Int×Int×VB×Vm.MS).2.2.2=_;split
 ·exact⟨rfl,rfl⟩
 ·rename_i c;exact⟨by show(0:Int)=_;omega,rfl⟩
def K5(v:VB)(m:Vm.MS)(x y:Int):(m.store v x y).1=(m.b6 v x true).2.1/\(m.store v x y).2.2=(m.b6 v x true).2.2.2:=by
 unfold Vm.MS.store;show(if(m.b6 v x true).2.1≠0 then _ else _:Int×VB×Vm.MS).1=_/\(if(m.b6 v x true).2.1≠0 then _ else _:Int×VB×Vm.MS).2.2=_;split
 ·exact⟨rfl,rfl⟩
 ·rename_i c;exact⟨by show(0:Int)=_;omega,rfl⟩
structure RC (n x:Int) (D:TD):Prop where
 u:∀ b:KA,(D.A b).u=b.u/\(D.A b).g=b.g/\(∀ j,0<=j->j≠n->(D.A b).f j.toNat=b.f j.toNat)
 r:∀ {b:KA} {S:Int},b.Ok S->b.aB n=0->(D.A b).eZ n=b.eZ n+(if D.e b=0/\(b.f n.toNat).l9 x=true then 1 else 0)
def VM(hn:0<=n):RC n x (Xc n x):=
 ⟨fun b=>⟨rfl,rfl,fun j j0 c=>iA _ _ og⟩,fun {b S} ok c=>by
  have k:=GN (v:=b.v) (m:=b.f n.toNat) ok.wk.sys.jJ.ok (ok.wk.sys.mo _ (by have:=(bQ c).1;omega)) x false
  obtain⟨e1,e2⟩:=Nn b.v (b.f n.toNat) x
  show(bu b.f n.toNat ((b.f n.toNat).load b.v x).2.2.2 n.toNat).eZ=_
  rw[lz,e2,k]
  exact congrArg (b.eZ n+ ·) (ite_congr (by rw[show(Xc n x).e b=_ from e1]) (fun _=>rfl) fun _=>rfl)⟩
def VN{y:Int}(hn:0<=n):RC n x (sfD n x y):=
 ⟨fun b=>⟨rfl,rfl,fun j j0 c=>iA _ _ og⟩,fun {b S} ok c=>by
  have k:=GN (v:=b.v) (m:=b.f n.toNat) ok.wk.sys.jJ.ok (ok.wk.sys.mo _ (by have:=(bQ c).1;omega)) x true
  obtain⟨e1,e2⟩:=K5 b.v (b.f n.toNat) x y
  show(bu b.f n.toNat ((b.f n.toNat).store b.v x y).2.2 n.toNat).eZ=_
  rw[lz,e2,k]
  exact congrArg (b.eZ n+ ·) (ite_congr (by rw[show(sfD n x y).e b=_ from e1]) (fun _=>rfl) fun _=>rfl)⟩
def aaU(a b:KA):Prop:=∀ z,0<=z->z<20->(b.u z).st=1->(a.u z).st=1/\b.f z.toNat=a.f z.toNat
def Ie(a:KA):df (aaU a) where
 rest:=fun h hu z z0 z1 q=>h z z0 z1 (by rw[<-(hu z).1];exact q)
 end_:=fun {b T n} co w hn hl h z z0 z1 q=>by
  by_cases c:z=n
  ·subst c;rw[nm]at q;exact absurd q dq
  ·rw[qc _ _ c]at q
   obtain⟨h1,h2⟩:=h z z0 z1 q
   refine⟨h1,?_⟩
   show bu b.f n.toNat _ z.toNat=_
   rw[iA _ _ og];exact h2
 Au:=fun {b T n} w hn hs h z z0 z1 q=>by
  by_cases c:z=n
  ·subst c
   rw[show(b.fj z).u z=PA.nil from aj _ _ _]at q
   exact absurd (show(0:Int)=1 from q) dq
  ·rw[nL _ c]at q;exact h z z0 z1 q
 spc:=fun s h=>h
def df.and{I J:KA->Prop}(S:df I)(R:df J):df (fun a=>I a/\J a):=
 ⟨fun h hu=>⟨S.rest h.1 hu,R.rest h.2 hu⟩,fun co w hn hl h=>⟨S.end_ co w hn hl h.1,R.end_ co w hn hl h.2⟩,fun w hn hs h=>⟨S.Au w hn hs h.1,R.Au w hn hs h.2⟩,fun s h=>⟨S.spc s h.1,R.spc s h.2⟩⟩
def GP{a:KA}(ok:a.Ok T)(hT:T<=900000){w:Bool}{D:TD}{y0:Int}(hD:RC n x D){I:KA->Prop}(S:df I)(h:I a):(∃ e,(a.jd n x w D y0).1=e/\e≠0/\I (a.jd n x w D y0).2.1)\/(a.aB n=0/\(a.f n.toNat).l9 x=false/\a.jd n x w D y0=(D.e a,D.A a,D.y a))\/∃ b:KA,I b/\b.Ok T/\aaU a b/\b.aB n=0/\(b.f n.toNat).l9 x=true/\b.g.cZ (b.u n).cB 0 1=0/\({b with v:=b.v,f:=b.f,g:=b.g.aP (b.u n).cB 0 1} :KA).Ok (T+1)/\a.jd n x w D y0=(D.e {b with v:=b.v,f:=b.f,g:=b.g.aP (b.u n).cB 0 1},if D.e {b with v:=b.v,f:=b.f,g:=b.g.aP (b.u n).cB 0 1} ≠0 then(D.A {b with v:=b.v,f:=b.f,g:=b.g.aP (b.u n).cB 0 1}).unA n else D.A {b with v:=b.v,f:=b.f,g:=b.g.aP (b.u n).cB 0 1},D.y {b with v:=b.v,f:=b.f,g:=b.g.aP (b.u n).cB 0 1}):=by
 unfold KA.jd;by_cases c1:a.aB n≠0
 ·rw[if_pos c1];exact .inl ⟨_,rfl,c1,h⟩
 ·rw[if_neg c1];by_cases c2:(a.f n.toNat).sV x w=false
  ·rw[if_pos c2];exact .inl ⟨10,rfl,dq,h⟩
  ·rw[if_neg c2];by_cases c3:(a.f n.toNat).l9 x=true
   ·rw[if_pos c3];obtain⟨b,⟨hb,hk⟩,tv,r1,r2⟩:=(S.and (Ie a)).room (n:=n) 21 ok ⟨h,fun z _ _ q=>⟨q,rfl⟩⟩;by_cases c4:(a.cv n).1≠0
    ·rw[if_pos c4];refine .inl ⟨_,rfl,c4,?_⟩;show I (a.ll n 21).2;rw[r1 c4];exact hb
    ·rw[if_neg c4];have c5:(a.ll n 21).1=0:=by
       have:(a.cv n).1=0:=og;exact this
     obtain⟨q1,q2,q3⟩:=r2 c5;have e:(a.cv n).2= {b with v:=b.v,f:=b.f,g:=b.g.aP (b.u n).cB 0 1} :=q3;obtain⟨hn,hs⟩:=bQ q1;have okc:=(ok.aP hT n).1;rw[e]at okc ⊢;exact .inr (.inr ⟨b,hb,tv,hk,q1,by rw[(hk n hn.1 hn.2 hs).2];exact c3,q2,okc,rfl⟩)
   ·rw[if_neg c3];exact .inr (.inl ⟨og,by simpa using c3,rfl⟩)
def KA.GI.tch{a:KA}(h:a.GI)(ok:a.Ok T)(hT:T<=900000){w:Bool}{D:TD}{y0:Int}(hD:RC n x D):(a.jd n x w D y0).2.1.GI:=by
 rcases GP (w:=w) (y0:=y0) ok hT hD lQ h with⟨_,_,_,q⟩ | ⟨q1,q2,q3⟩ | ⟨b,hb,tv,hk,q1,q2,q3,q4,q5⟩
 ·exact q
 ·rw[q3];obtain⟨u1,u2,u3⟩:=hD.u a;have r:=hD.r ok q1;rw[q2,if_neg fun q=>by cases q.2]at r;refine h.same (fun _=>by rw[u1];exact⟨rfl,rfl⟩) u2 fun j j0=> ?_;by_cases c:j=n
  ·subst c;show(D.A a).eZ j=_;rw[r];omega
  ·show((D.A a).f j.toNat).eZ=_;rw[u3 j j0 c];rfl
 ·rw[q5];obtain⟨hn,hs⟩:=bQ q1;have o1:=hb.bH.aP tv.wk.gI.ok q3;generalize hc:({b with v:=b.v,f:=b.f,g:=b.g.aP (b.u n).cB 0 1} :KA)=c at*;obtain⟨u1,u2,u3⟩:=hD.u c;have cu:c.u=b.u:=by rw[<-hc]
  have cg:c.g=b.g.aP (b.u n).cB 0 1:=by rw[<-hc]
  have cf:c.f=b.f:=by rw[<-hc]
  have r:=hD.r q4 (show c.aB n=0 by rw[<-hc];exact q1);rw[cf,q2]at r;have cr:∀ j,c.eZ j=b.eZ j:=fun j=>by unfold KA.eZ;rw[cf]
  rw[cr]at r;have hp:∀ y,(D.A c).tr y=b.tr y:=fun y=>di 20 fun j _ _=>by unfold KA.pc;rw[u1,cu]
  have hr:∀ y,(D.A c).rA y=b.rA y+(if(b.u n).cB=y/\D.e c=0 then 1 else 0):=fun y=>by
   have k:=ln (f:=b.rc y) (f':=(D.A c).rc y) (n:=n) (k:=20) hn.1 og (fun j j0 _ d=>by
    unfold KA.rc KA.eZ;rw[u1,cu,u3 j j0 d,cf])
   have k:(D.A c).rA y=b.rA y-b.rc y n+(D.A c).rc y n:=k;rw[k];unfold KA.rc;rw[u1,cu,r];by_cases d:(b.u n).cB=y
   ·rw[if_pos d,if_pos d];by_cases e:D.e c=0
    ·rw[if_pos ⟨e,rfl⟩,if_pos ⟨d,e⟩];omega
    ·rw[if_neg fun q=>e q.1,if_neg fun q=>e q.2];omega
   ·rw[if_neg d,if_neg d,if_neg fun q=>d q.1];omega
  have gr:∀ p,0<=p->p<20->((D.A c).u p).st≠0->(b.g.aP (b.u n).cB 0 1).cC ((D.A c).u p).cB=0:=fun p p0 p1 q=>by
   rw[u1,cu]at q ⊢;rw[np _ _ (lH _ _ _ _)];exact hb.cB p p0 p1 q
  by_cases e:D.e c=0
  ·show(if D.e c≠0 then(D.A c).unA n else D.A c).GI;rw[if_neg fun q=>q e];refine⟨by rw[u2,cg];exact gr,by
    rw[u2,cg]
    refine kJ o1 (fun y _ _ _=> ?_) fun y _ _ _=> ?_
    ·rw[hp]
     by_cases d:y=(b.u n).cB
     ·rw[d,aj];omega
     ·rw[ae _ _ d]
    ·rw[hr]
     by_cases d:y=(b.u n).cB
     ·rw[d,aj,if_pos ⟨rfl,e⟩]
     ·rw[ae _ _ d,if_neg fun q=>d q.1.symm];omega⟩
  ·show(if D.e c≠0 then(D.A c).unA n else D.A c).GI;rw[if_pos e];have i1:=gr n hn.1 hn.2 (by rw[u1,cu];omega);rw[u1,cu]at i1;obtain⟨k0,k1,k2⟩:=Gr.TG.jq i1;obtain⟨e1,e2⟩:=o1 _ k0 k1 k2;rw[aj]at e1 e2;obtain⟨j0,j1,j2⟩:=Gr.TG.jq (hb.cB n hn.1 hn.2 og);obtain⟨f1,f2⟩:=hb.bH _ j0 j1 j2;obtain⟨l1,l2⟩:=hb.left hn og;have rrz:0<=b.eZ n:=(sM _).1;have ue:(b.g.aP (b.u n).cB 0 1).gk (b.u n).cB 0 1=0:=Cg i1 ⟨og,og⟩ ⟨og,og⟩;have hg:((D.A c).unA n).g=(b.g.aP (b.u n).cB 0 1).cR (b.u n).cB 0 1:=by
    show(D.A c).g.cR ((D.A c).u n).cB 0 1=_;rw[u2,u1,cu,cg]
   refine⟨fun p p0 p1 q=>by rw[hg,np _ _ (pF _ _ _ _)];exact gr p p0 p1 q,by
    rw[hg]
    refine kJ (o1.cR (tv.wk.gI.aP _ _ _).ok ue) (fun y _ _ _=> ?_) fun y _ _ _=> ?_
    ·show(D.A c).tr y=_
     rw[hp]
     by_cases d:y=(b.u n).cB
     ·rw[d,aj,aj];omega
     ·rw[ae _ _ d,ae _ _ d]
    ·show(D.A c).rA y=_
     rw[hr,if_neg fun q=>e q.2]
     by_cases d:y=(b.u n).cB
     ·rw[d,aj,aj];omega
     ·rw[ae _ _ d,ae _ _ d];omega⟩
theorem KA.GI.load{a:KA}(h:a.GI)(ok:a.Ok T)(hT:T<=900000)(n x:Int):(a.ia n x).2.1.GI:=by
 by_cases c:0<=n
 ·exact h.tch ok hT (VM c)
 ·have:a.aB n=1:=if_pos (.inl og);unfold KA.ia KA.jd;rw[if_pos og];exact h
theorem KA.GI.store{a:KA}(h:a.GI)(ok:a.Ok T)(hT:T<=900000)(n x y:Int):(a.gw n x y).2.1.GI:=by
 by_cases c:0<=n
 ·exact h.tch ok hT (VN c)
 ·have:a.aB n=1:=if_pos (.inl og);unfold KA.gw KA.jd;rw[if_pos og];exact h
def KA.GI.io{a:KA}(h:a.GI){u:Int->PA}(hu:∀ p,(u p).st=(a.u p).st/\(u p).cB=(a.u p).cB)(O:Tr.OS)(P:Tr.PS):({a with u:=u,O:=O,P:=P} :KA).GI:=h.same hu rfl fun _ _=>rfl
def zi(u:Int->PA)(n i v p:Int):(Bt u n i v p).st=(u p).st/\(Bt u n i v p).cB=(u p).cB:=by
 unfold Bt;by_cases e:p=n
 ·subst e;rw[aj];exact⟨rfl,rfl⟩
 ·rw[ae _ _ e];exact⟨rfl,rfl⟩
def O5(m:Vm.MS)(x n:Int)(w:Bool):(m.map x n w).eZ=m.eZ/\(m.mS x n w).eZ=m.eZ:=by
 unfold Vm.MS.eZ;rw[(Vm.MS.Ut _ _ _ _).1,(Vm.MS.Ou _ _ _ _).1];exact⟨rfl,rfl⟩
def KA.GI.ail{a a1:KA}{F:Tr.FF}{x:jA}(h:a.GI)(ok:a.Ok T)(hT:T<=800000)(s:a.pO F x a1):a1.GI:=by
 have q:∀ {b:KA} {P:Prop} [Decidable P],b.GI->(if P then a else b).GI:=fun hb=>by
  split
  ·exact h
  ·exact hb
 cases s with
 | same=>exact h
 | dX=>exact lQ.dX ok.wk _ h
 | sJ=>exact lQ.sJ ok.wk _ _ _ h
 | ea=>exact lQ.ea ok.wk _ _ _ h
 | kf=>exact lQ.kf ok.wk _ _ _ h
 | take=>exact lQ.take _ h
 | map=>
  unfold KA.D8;split
  ·exact h
  ·rename_i c;exact h.mem (bQ (by omega:a.aB x.a=0)).1.1 (O5 _ _ _ _).1 _
 | mS=>
  unfold KA.uN;split
  ·exact h
  ·rename_i c;exact h.mem (bQ (by omega:a.aB x.a=0)).1.1 (O5 _ _ _ _).2 _
 | drop=>exact h.pd ok.wk _
 | OZ o=>
  rcases o with rfl | ⟨_,_,_,_,_,rfl⟩
  ·exact h
  ·exact h.io (zi _ _ _ _) _ a.P
 | close=>exact q (h.io (zi _ _ _ _) _ _)
 | dup=>exact q (h.io (zi _ _ _ _) _ a.P)
 | Kx=>
  apply q;split
  ·exact(h.io (zi _ _ _ _) a.O a.P).io (zi _ _ _ _) _ _
  ·exact h.io (fun _=>⟨rfl,rfl⟩) _ _
 | mV=>exact q (h.io (fun _=>⟨rfl,rfl⟩) _ _)
 | cm=>
  have h1:(a.uL F x.a x.b x.s).GI:=h.io (fun _=>⟨rfl,rfl⟩) _ _;apply q;split
  ·exact lQ.send (ok.Gy og F _ _ _).wk _ _ _ h1
  ·exact h1
 | Ky=>exact q (h.io (fun _=>⟨rfl,rfl⟩) _ a.P)
def KA.GI.step{a a1:KA}{c c1:KC}{x:jA}{e:Int}(h:a.GI)(ok:a.Ok T)(hT:T<=800000)(s:a.rz c c1 x a1 n e):a1.GI:=by
 cases s with
 | jl _=>exact h.jl ok.o0 _ _
 | exit _=>exact lQ.mI ok.wk _ _ h
 | ep _=>exact(h.ep ok.o0 _ _ _).1
 | load _=>exact h.load ok og _ _
 | store _=>exact h.store ok og _ _ _
 | lR _ _ _=>exact h
 | VC _=>exact h.VC _ _ _
 | BF _ _ _=>exact h.BF ok.wk _ _
 | add _ _ _=>exact h.td ok.wk _ _
 | qe _ r _ _=>exact h.ail ok hT r
def aaV:A0.GI:=by
 have hl:gV Gr.TG.cP G0:=lH _ _ _ _;have o:=Gr.TG.Own.cP.aP Gr.TG.Inv.cP.ok (n:=0) (p:=1) (m:=0) dk;refine⟨fun n a0 a1 q=> ?_,kJ o (fun y _ _ _=> ?_) fun y _ _ _=> ?_⟩
 ·have e:n=0:=Decidable.byContradiction fun c=>by rw[Ef,if_neg c]at q;exact q rfl
  subst e;show G0.cC 0=0;decide+kernel
 ·have k:=ln (f:=fun _=>0) (f':=A0.pc y) (n:=0) (k:=20) og og (fun j _ _ c=>by
   unfold KA.pc;rw[Ef,if_neg c];exact if_neg fun q=>q.1 rfl)
  have k:A0.tr y=_:=k;rw[k,fw 20 fun _ _ _=>rfl];show 0-0+(if(A0.u 0).st≠0/\(A0.u 0).cB=y then(1:Int)else 0)=_;rw[Ef,if_pos rfl];by_cases d:y=0
  ·subst d;rw[aj];rfl
  ·rw[ae _ _ d,if_neg fun q=>d q.2.symm];rfl
 ·have k:A0.rA y=0:=fw 20 fun j _ _=>by unfold KA.rc;split<;>rfl
  rw[k];by_cases d:y=0
  ·subst d;rw[aj];rfl
  ·rw[ae _ _ d]
end Go.X.Kn

namespace Go.X.Vm
open Go Go.X
end Go.X.Vm

namespace Go.X.Kn
open Go Go.X
theorem VO{a:KA}{n:Int}(h:¬ 0<=n):a.aB n=1:=if_pos (.inl og)
end Go.X.Kn
