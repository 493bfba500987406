import Derived.Test.YthdinakloheinaaGreatDoorkJG15
set_option linter.all false
namespace Go.X.Kn
open Go Go.X Go.X.Vm
variable{z:Int}{k:Nat}
def Bx(fl:Nat->Int->Int)(i:Nat):Value:=.int .u8 (fl (i/128) ((i%128:Nat):Int))
def flA(row:Int->Int):Array Value:=((List.range 128).map fun (j:Nat)=>Value.int .u8 (row (j:Int))).toArray
theorem NN(fl:Nat->Int->Int)(z j:Nat)(hj:j<128):Bx fl (z*128+j)= .int .u8 (fl z (j:Int)):=by
 unfold Bx;rw[show(z*128+j)/128=z from og,show(z*128+j)%128=j from og]
def Bx.agg(fl:Nat->Int->Int){k:Nat}{z:Int}(h:0<=z/\z<k):0+z.toNat*128+128<=k*128/\de (Bx fl) (0+z.toNat*128) 128= .agg (flA (fl z.toNat)):=by
 refine⟨og,?_⟩;unfold de flA;congr 2;refine List.map_congr_left fun j hj=> ?_;rw[Nat.zero_add,NN fl _ j (List.mem_range.1 hj)]
def Bx.ld(fl:Nat->Int->Int){x:Int}(h:0<=z/\z<k)(hx:0<=x/\x<128):0+z.toNat*128+x.toNat*1<k*128/\Bx fl (0+z.toNat*128+x.toNat*1)= .int .u8 (fl z.toNat x):=by
 refine⟨og,?_⟩;rw[Nat.zero_add,Nat.mul_one,NN fl _ _ og,show((x.toNat:Nat):Int)=x from og]
theorem Bx.st(fl:Nat->Int->Int){x:Int}(v:Int)(h:0<=z/\z<k)(hx:0<=x/\x<128):0+z.toNat*128+x.toNat*1<k*128/\dJ (Bx fl) (0+z.toNat*128+x.toNat*1) (.int .u8 v)=Bx (aJ fl z.toNat (ad (fl z.toNat) x v)):=by
 refine⟨og,?_⟩;funext i;unfold dJ Bx;by_cases c:i=0+z.toNat*128+x.toNat*1
 ·rw[if_pos c,show i/128=z.toNat from og,bW,show((i%128:Nat):Int)=x from og,aj]
 ·rw[if_neg c];by_cases d:i/128=z.toNat
  ·rw[d,bW,ae _ _ og]
  ·rw[b7 _ _ d]
theorem aaf{fl:Nat->Int->Int}{z:Nat}{r:Int->Int}{a y:Int}(h:a<=y):aJ (aJ fl z (df r a (y-a) 0)) z (ad (aJ fl z (df r a (y-a) 0) z) y 0)=aJ fl z (df r a (y+1-a) 0):=by
 funext j;by_cases c:j=z
 ·subst c;rw[bW,bW,bW,F6 h rfl]
 ·rw[b7 _ _ c,b7 _ _ c,b7 _ _ c]
theorem W4{fl:Nat->Int->Int}{z:Nat}{a:Int} :aJ fl z (df (fl z) a (a-a) 0)=fl:=by rw[F5,fJ]
def Bx.gn(fl:Nat->Int->Int)(h:0<=z/\z<k)(row:Int->Int):0+z.toNat*128+128<=k*128/\cD (Bx fl) (0+z.toNat*128) (flA row).toList=Bx (aJ fl z.toNat row):=by
 refine⟨og,?_⟩;funext i;rw[yx,show(flA row).toList.length=128 by simp[flA]];by_cases c:0+z.toNat*128<=i/\i<0+z.toNat*128+128
 ·rw[if_pos c];obtain⟨j,hj,rfl⟩:∃ j,j<128/\i=z.toNat*128+j:=⟨i-z.toNat*128,og,og⟩;rw[NN _ _ _ hj,bW,show z.toNat*128+j-(0+z.toNat*128)=j by omega];simp[flA,List.getD_eq_getElem?_getD,hj]
 ·rw[if_neg c];unfold Bx;rw[b7 _ _ og]
def Sk:Array Value:=Array.replicate 2560 (.int .u8 0)
def GM:(Value.agg Sk).cells.size=2560:=by simp[Value.cells,Sk]
def Lj:∀ i,i<2560->cellsOf (Value.agg Sk).cells i=Bx (fun _ _=>0) i:=fun i hi=>by
 simp[cellsOf,Value.cells,Sk,Bx,hi]
def W5(s:Sp.SS)(d:Int->Nat)(z:Int):0<=(s.add d z).2.1:=by
 have:0<=s.is z:=by unfold Sp.SS.is;split<;>(try split)<;>omega
 unfold Sp.SS.add;split
 ·exact this
 ·split
  ·show(0:Int)<=7;omega
  ·split
   ·show(0:Int)<=0;omega
   ·show(0:Int)<=4;omega
def Il(a:KA)(n:Int):0<=a.aA n:=by
 unfold KA.aA;split
 ·omega
 ·split<;>omega
def Lk(a:KA)(n:Int)(o:Bool):0<=a.gX n o:=by
 have:=Il a n;have:=a.g.wT (a.u n).cL 1 (a.gk n);have:=W5 a.s a.aQ (a.sz n);unfold KA.gX;split
 ·omega
 ·split
  ·omega
  ·split
   ·exact a.g.wT _ _ _
   ·unfold KA.Zd;split
    ·exact W5 _ _ _
    ·omega
def Ll:∀ (k:Nat) (a:KA) (n:Int),0<=(a.kt n k).1
 | 0,_,_=>by show(0:Int)<=6;omega
 | k+1,a,n=>by
  unfold KA.kt;split
  ·show(0:Int)<=6;omega
  ·split
   ·exact a.g.wT _ _ _
   ·split
    ·show(0:Int)<=6;omega
    ·exact Ll k _ _
def PL(a:KA)(n x:Int)(w:Bool)(D:TD)(y0:Int)(hD:∀ b,0<=D.e b):0<=(a.iP n x w D y0).1:=by
 unfold KA.iP;split
 ·exact Il a n
 ·split
  ·show(0:Int)<=10;omega
  ·split
   ·split
    ·exact Ll 21 a n
    ·exact hD _
   ·exact hD _
def Lm(a:KA)(n x:Int):0<=(a.eM n x).1:=PL _ _ _ _ _ _ (fun b=>by
 show 0<=((b.f n.toNat).load b.v x).2.1
 unfold Vm.MS.load;dsimp only;split
 ·exact Vm.MS.J4
 ·show(0:Int)<=0;omega)
def Im(a:KA)(n x y:Int):0<=(a.dW n x y).1:=PL _ _ _ _ _ _ (fun b=>by
 show 0<=((b.f n.toNat).store b.v x y).1
 unfold Vm.MS.store;dsimp only;split
 ·exact Vm.MS.J4
 ·show(0:Int)<=0;omega)
def Ln{a:KA}{T:Int}(ok:a.Ok T)(hT:T<=900000){n:Int}{aX:Bool}(e:a.gX n aX=0):((0<=n/\n<20)/\(0<=a.free/\a.free<20))/\(a.ej n aX).BI n (a.kK n aX)=(a.free,0)/\¬a.Bu=(a.ej n aX).Bu:=by
 have e1:a.aA n=0/\a.free≠20/\a.gE n=0/\a.Zd n aX=0:=by
  unfold KA.gX at e;split at e
  ·omega
  ·split at e
   ·omega
   ·split at e
    ·omega
    ·exact⟨og,aq,og,e⟩
 obtain⟨hl,hf,hg,hi⟩:=e1;have okC:=ok.im og n aX;have ef:a.ej n aX=a.c9 n aX:=by unfold KA.ej;rw[if_neg og,if_neg og]
 rw[ef]at okC ⊢;obtain⟨hn,hs⟩:=aR hl;have I:=ok.o0.wk.fkI (n:=n) (aX:=aX) (SS.Inv.jc ok.wk.sI ok.r0.loc) hl hf hi;have hr:=a.free_spec.resolve_left hf;obtain⟨GF,h1,i1,i2,i3,i4⟩:=ok.o0.KQ (p:=n) og;have NX:a.sz n=a.s.loc n:=by unfold KA.sz;rw[i1]
 have hnc:n≠a.free:=by rintro e;rw[<-e]at hr;omega
 have hu:(a.c9 n aX).u n=a.u n:=ae _ _ hnc;have Rs:((a.c9 n aX).u a.free).st=1:=by rw[show(a.c9 n aX).u a.free=a.KM n from aj _ _ _];rfl
 have hlc:(a.c9 n aX).s.loc n=a.s.loc n:=by rw[I.KQ,ae _ _ hnc]
 refine⟨⟨hn,hr.1⟩,KA.Hd okC (KA.OC hn (by rw[hu];exact hs)) hr.1.1 ?_ Rs,fun q=> ?_⟩
 ·rw[hlc,<-NX,show a.kK n aX=((a.c9 n aX).s.jq a.free (a.sz n)).1 from if_pos e];exact I.jq.2.1
 ·have m:a.free∈(a.c9 n aX).Bu:=C6.2 ⟨hr.1.1,hr.1.2,decide_eq_true Rs⟩;rw[<-q]at m;have:=of_decide_eq_true (C6.1 m).2.2;omega
theorem NO(h:0<=z/\z<256):IntKind.u8.wrap z=z:=by
 simp only[IntKind.wrap,IntKind.bits,IntKind.signed];first
 | (simp;omega)
 | omega
def Io(a:KA)(n x m:Int):0<=a.jx n x m:=by
 have:=Il a n;unfold KA.jx;split
 ·exact this
 ·split
  ·unfold KA.rA Vm.MS.cS;split
   ·show(0:Int)<=1;omega
   ·exact Int.le_refl _
  ·exact a.g.Ul _ _ _
def agC:TV A0.v A0.f 20 (fun _ _=>0):=⟨VQ.wk.sys,BB.kX.cC,fun _ _ i h=>(by cases h),fun _ _ x _ _=>(by unfold Vm.byteOf;exact(if_pos rfl).symm)⟩
def abe:OW (fun _ _=>0) A0:=⟨fun _ _=>0,agC,fun _ _ _ _=>rfl⟩
open Go.Proofs Go.X.Fa Go.X.Gr Go.X.Sg Go.X.Tr
set_option maxRecDepth 20000
set_option maxHeartbeats 4000000
attribute [local irreducible] KA.dc KA.cH
def Ip(p q:Option Addr)(cap pF:Nat)(zs ws:List Int)(hz:zs.length<=1000000):Spec Tryz.prog 29 [.slice p zs.length cap,.slice q ws.length pF] [dh p cap 3 zs,dh q pF 3 ws] (fun v H1=>v= .bool (decide (zs=ws))/\H1=[dh p cap 3 zs,dh q pF 3 ws]):=by
 refine Spec.go 26 [0,1,4,5,10,14,25] [] Tryz.func29 fun W=> ?_;refine cd ?_ ?_<;>intro h1
 ·refine bI (pz 2) ?_;try dsimp only[aU,aS,bG,bN]
  have fN:¬zs=ws:=by rintro rfl;omega
  exact⟨by simp[fN],rfl⟩
 ·refine lp (σ:=Int) (fun k=>(zs.length-k).toNat) (fun k=>(0<=k/\k<=zs.length)/\∀ z:Int,0<=z->z<k->jc zs z=jc ws z) (fun k=>[(5,iI k),(0,.slice p zs.length cap),(1,.slice q ws.length pF)]) (fun k=>XM W (cm [dh p cap 3 zs,dh q pF 3 ws]) [dh p cap 3 zs,dh q pF 3 ws]) (0) ?_ S3 (xq (pz 2)) ?_
  ·exact⟨og,fun z h1 h2=>og⟩
  intro k hk;obtain⟨hk,hn⟩:=hk;apply gC;refine cd ?_ ?_<;>intro h2
  ·apply bR .aa og;intro h3 h4;subst h4;apply bR (.ao .aa) og;intro h5 h6;subst h6;refine rq [0,1,2,3,4,5,6,7,8] mixed ?_;refine sd ?_;apply zp .aa (ints_at);refine sd ?_;apply zp (.ao .aa) (ints_at);refine cd ?_ ?_<;>intro h7
   ·refine bI (pz 2) ?_;try dsimp only[aU,aS,bG,bN]
    have fN:¬zs=ws:=by rintro rfl;omega
    exact⟨by simp[fN],rfl⟩
   ·refine sd ?_;refine ag (k+1) ?_ ?_ S3 (xq (pz 2))
    ·
     (first | omega | (simp;done) | (simp;omega))
    ·refine⟨og,fun z h1 h2=> ?_⟩;by_cases hzk:z=k
     ·subst hzk;omega
     ·exact hn z h1 og
  ·refine bI (pz 2) ?_;try dsimp only[aU,aS,bG,bN]
   have he:zs=ws:=Xx og fun z h1 h2=>hn z h1 og;exact⟨by simp[he],rfl⟩
set_option maxHeartbeats 16000000 in
def W6(bl ol len cap:Nat)(hlen:len<=cap)(A:Int->iU)(hA:∀ z:Int,0<=z->z<len->(A z).ok):Spec Tryz.prog 6 [.slice (some ⟨bl,ol,none⟩) len cap] [.ro 0 0 32 dw,.ro 1 0 64 gL,.ro bl ol (8*len) (gp A)] (fun v H1=>v= .bool true/\H1=[]):=by
 refine Spec.go 122 [0,2,3,4,5,6,7,8,9,10,11,12,23,28,42,44,45,71,78,90,98,109,121] [] Tryz.func6 fun W=> ?_;refine ca (Li) .nil ?_;rintro _ _ ⟨b,c0,rfl,_,_,E8,rfl⟩;apply gO;refine xG 0 (aad _ _ len cap hlen A hA 120 og) (pk [19]) rfl ?_;rintro _ _ ⟨⟨bf,rfl,ad8⟩,rfl⟩;apply gO;refine wM ?_ ?_<;>intro h1
 ·try simp only[sb]at h1
  refine bI .nil ?_;exact⟨rfl,rfl⟩
 ·try simp only[sb]at h1
  have hle:(len:Int)<=120:=(ad8 (by simpa using h1)).1;have hTx:=(ad8 (by simpa using h1)).2;apply XO.bQ (z:=.agg Sk) (m:=2560) (C:=Bx fun _ _=>0) (hm:=GM) Lj;intro bf;apply gO;refine lp (σ:=Int×KA×KC×(Nat->Int->Int)) (fun x=>(len-x.1).toNat) (fun x=>(0<=x.1/\x.1<=len)/\x.2.1.Ok (2+20*x.1)/\cK x.2.1 x.2.2.1 (1+x.1.toNat) (2+20*x.1)/\x.2.1.GI/\OW x.2.2.2 x.2.1) (fun x=>[(6,iI x.1),(0,.slice (some ⟨bl,ol,none⟩) len cap),(3,az b.kb 0 0),(5,az bf 0 0)]) (fun x=>XM W (cm [.ro 0 0 32 dw,.ro 1 0 64 gL,.ro bl ol (8*len) (gp A)]) [.cells bf 0 2560 (Bx (x.2.2.2)),.cells b.kb 0 453 (aG (kp x.2.1 b x.2.2.1)),.cells b.gb 0 60 (bH x.2.1.g),.cells b.sb 0 158 (Sp.aL x.2.1.s),.cells b.qb 0 2281 (aH x.2.2.1.q),.aW ck (SC.dg 254 x.2.2.1.q),.cells b.bb 0 577 (dM b.vp x.2.1.v.fR x.2.1.v.rf),.cells b.vp 0 71 (Vm.bO x.2.1.v.bb.fp),.dR (jg x.2.1) x.2.2.1.mb 34 (cN b.bb x.2.1.f x.2.2.1.pp x.2.2.1.cc),.aW (jg x.2.1) (rN 171 x.2.1.f x.2.2.1.pp x.2.2.1.cc),.cells b.tb 0 321 (aC x.2.2.1.F),.aW au (FC.bd 9 x.2.2.1.F),.aW au (FC.bh 3 x.2.2.1.F),dh x.2.2.1.rp x.2.2.1.rc 3 x.2.2.1.rl,.cells b.pi 0 24 (Tr.bO x.2.1.P),.cells b.ob 0 122 (bu b.tb b.pi x.2.1.O),.dR (lu x.2.1) (fun z=>(x.2.2.1.t z).b) 4 (cT b.tb x.2.2.1.t),.aW (lu x.2.1) (rT 168 x.2.2.1.t),.ro 0 0 32 dw,.ro 1 0 64 gL,.ro bl ol (8*len) (gp A)]) ((0,A0,c0,fun _ _=>0)) ?_ S4 (xq (pk (0::rr 19 1 [0]))) ?_
  ·exact⟨sq,VQ,E8,aaZ,abe⟩
  intro x rB;obtain⟨hi,ho,hc,hgi,jm⟩:=rB;apply gC;refine cd ?_ ?_<;>intro h2
  ·have htx:=hTx x.1 og og;refine sd ?_;apply ae9 (.lH (.t8 .aa)) (Qg A len _ og);apply XO.bQ (z:=.agg BV) (m:=8) (C:=cellsOf BV) fun _ _=>rfl;intro ba;apply gO;apply gn .aa (L3 _) rfl ⟨rfl,rfl⟩;refine ca (Ij b.kb (kp x.2.1 b x.2.2.1)) (pk [2]) ?_;rintro _ _ ⟨pl,cl,rfl,rfl⟩;rw[show Vm.gB (fun n=>decide (((kp x.2.1 b x.2.2.1).u n).st=1)) 20=KA.Bu x.2.1 from rfl];apply gO;apply lP (.t2 .aa) (O2 _);refine xG 17 (ad7 x.2.1 b x.2.2.1 (1+x.1.toNat) (2+20*x.1) ho hc og og og (A x.1) ⟨og,og⟩) (pk (1::rr 18 3 [])) rfl ?_;rintro _ _ ⟨a1,r,c1,rfl,qw,gj,rfl⟩;apply gO;apply XO.bQ (z:=.agg kF.nil.cR) (m:=4) (C:=cB kF.nil) (cB.box _);intro br;apply gO;apply gn .aa (cB.st _ _) rfl ⟨rfl,rfl⟩;have ok1:=qw.ok ho og og (hc.F.sh og);have gi1:=hgi.step ho og qw;apply ld .aa (KV _);refine cd ?_ ?_<;>intro h3
   ·have BP:OW x.2.2.2 a1:=jm.step hgi ho og qw (.inl (by have:=h3;omega));refine sd ?_;refine ag ((x.1+1,a1,c1,x.2.2.2)) ?_ ?_ S4 (xq (pk [22,1,1,1,1,1,1,1,1,1,1,1,1,1,1,1,1,1,1,1,3]))
    ·
     (show(_-(x.1+1)).toNat<(_-x.1).toNat;omega)
    ·exact⟨(by show 0<=x.1+1/\x.1+1<=_;omega),(by rw[show 2+20*(x.1+1)=2+20*x.1+20 by omega];exact ok1),(by show cK _ c1 (1+(x.1+1).toNat) (2+20*(x.1+1));rw[show 2+20*(x.1+1)=2+20*x.1+20 by omega,show 1+(x.1+1).toNat=1+x.1.toNat+1 by omega];exact gj),gi1,BP⟩
   ·have amx:¬r.e>0:=h3;apply ld (.lH (.t9 .aa)) (oU _);refine cd ?_ ?_<;>intro h4
    ·have hk:(A x.1).aN=wA:=h4;obtain⟨e1,e2,e3⟩:=RF qw hk;have hf0:x.2.1.gX (A x.1).a (A x.1).on=0:=by have:=Lk x.2.1 (A x.1).a (A x.1).on;omega
     obtain⟨⟨hn,hfr⟩,hse,ajc⟩:=Ln ho og hf0;subst e1;rw[<-e2]at hse;have BP:=jm.im ho.o0 hf0;apply ld (.lH (.t9 .aa)) (aV _);apply ld .aa (Bp _);refine ca (WK (x.2.1.ej (A x.1).a (A x.1).on) b c1 _ ok1.wk.sI (A x.1).a r.n) (pk [1,2]) ?_;rintro _ _ ⟨rfl,rfl⟩;rw[show((x.2.1.ej (A x.1).a (A x.1).on).BI (A x.1).a r.n).1=x.2.1.free by rw[hse],show((x.2.1.ej (A x.1).a (A x.1).on).BI (A x.1).a r.n).2=0 by rw[hse],qo];apply gO;apply spF 62 rfl og;apply spF 66 rfl og;refine ca (Ij b.kb (kp (x.2.1.ej (A x.1).a (A x.1).on) b c1)) .h1 ?_;rintro _ _ ⟨pl2,cl2,rfl,rfl⟩;rw[show Vm.gB (fun n=>decide (((kp (x.2.1.ej (A x.1).a (A x.1).on) b c1).u n).st=1)) 20=KA.Bu (x.2.1.ej (A x.1).a (A x.1).on)from rfl];apply gO;refine ca (Ip pl _ cl cl2 (KA.Bu x.2.1) (KA.Bu (x.2.1.ej (A x.1).a (A x.1).on)) (by have:=x.2.1.RC;omega)) (pk [21,0]) ?_;rintro v15 _ ⟨agD,rfl⟩;rw[decide_eq_false ajc]at agD;subst agD;apply gO;apply ld (.lH (.Sr .aa)) (aV _);refine sd ?_;apply lP (.lH (.Xc .aa)) (Bx.agg (k:=20) _ ⟨og,og⟩);refine sd ?_;apply gn (.lH (.Xc .aa)) (Bx.gn (k:=20) _ ⟨og,og⟩ _) rfl ⟨rfl,rfl⟩;refine sd ?_;refine ag ((x.1+1,x.2.1.ej (A x.1).a (A x.1).on,c1,aJ x.2.2.2 x.2.1.free.toNat (x.2.2.2 (A x.1).a.toNat))) ?_ ?_ S4 (xq (pk (23::2::4::2::rr 16 3 [4])))
     ·
      (show(_-(x.1+1)).toNat<(_-x.1).toNat;omega)
     ·exact⟨(by show 0<=x.1+1/\x.1+1<=_;omega),(by rw[show 2+20*(x.1+1)=2+20*x.1+20 by omega];exact ok1),(by show cK _ c1 (1+(x.1+1).toNat) (2+20*(x.1+1));rw[show 2+20*(x.1+1)=2+20*x.1+20 by omega,show 1+(x.1+1).toNat=1+x.1.toNat+1 by omega];exact gj),gi1,BP⟩
    ·have ajd:¬(A x.1).aN=wA:=h4;refine cd ?_ ?_<;>intro h7
     ·have hk:(A x.1).aN=E5:=h7;obtain⟨e1,e3⟩:=Nl qw hk;have hf0:x.2.1.jx (A x.1).a (A x.1).b (A x.1).c=0:=by have:=Io x.2.1 (A x.1).a (A x.1).b (A x.1).c;omega
      obtain⟨hl0,_,SG⟩:=KA.KY hgi ho.o0 hf0;have hn:=(aR hl0).1;unfold fT at SG;subst e1;have BP:=jm.cS hgi ho.o0 hf0;apply ld (.lH (.t9 .aa)) (cw _);refine sd ?_;refine lp (σ:=Int) (fun y=>(8*((A x.1).b+(A x.1).c)-y).toNat) (fun y=>8*(A x.1).b<=y/\y<=8*((A x.1).b+(A x.1).c)) (fun y=>[(12,iI y),(0,.slice (some ⟨bl,ol,none⟩) len cap),(3,az b.kb 0 0),(5,az bf 0 0),(6,iI x.1),(7,az ba 0 0)]) (fun y=>XM W (cm [.ro 0 0 32 dw,.ro 1 0 64 gL,.ro bl ol (8*len) (gp A)]) [.cells bf 0 2560 (Bx (aJ x.2.2.2 (A x.1).a.toNat (df (x.2.2.2 (A x.1).a.toNat) (8*(A x.1).b) (y-8*(A x.1).b) 0))),.cells ba 0 8 (fB (A x.1)),.cells b.kb 0 453 (aG (kp (x.2.1.dC (A x.1).a (A x.1).b (A x.1).c) b c1)),.cells b.gb 0 60 (bH (x.2.1.dC (A x.1).a (A x.1).b (A x.1).c).g),.cells b.sb 0 158 (Sp.aL (x.2.1.dC (A x.1).a (A x.1).b (A x.1).c).s),.cells b.qb 0 2281 (aH c1.q),.aW ck (SC.dg 254 c1.q),.cells b.bb 0 577 (dM b.vp (x.2.1.dC (A x.1).a (A x.1).b (A x.1).c).v.fR (x.2.1.dC (A x.1).a (A x.1).b (A x.1).c).v.rf),.cells b.vp 0 71 (Vm.bO (x.2.1.dC (A x.1).a (A x.1).b (A x.1).c).v.bb.fp),.dR (jg (x.2.1.dC (A x.1).a (A x.1).b (A x.1).c)) c1.mb 34 (cN b.bb (x.2.1.dC (A x.1).a (A x.1).b (A x.1).c).f c1.pp c1.cc),.aW (jg (x.2.1.dC (A x.1).a (A x.1).b (A x.1).c)) (rN 171 (x.2.1.dC (A x.1).a (A x.1).b (A x.1).c).f c1.pp c1.cc),.cells b.tb 0 321 (aC c1.F),.aW au (FC.bd 9 c1.F),.aW au (FC.bh 3 c1.F),dh c1.rp c1.rc 3 c1.rl,.cells b.pi 0 24 (Tr.bO (x.2.1.dC (A x.1).a (A x.1).b (A x.1).c).P),.cells b.ob 0 122 (bu b.tb b.pi (x.2.1.dC (A x.1).a (A x.1).b (A x.1).c).O),.dR (lu (x.2.1.dC (A x.1).a (A x.1).b (A x.1).c)) (fun z=>(c1.t z).b) 4 (cT b.tb c1.t),.aW (lu (x.2.1.dC (A x.1).a (A x.1).b (A x.1).c)) (rT 168 c1.t),.ro 0 0 32 dw,.ro 1 0 64 gL,.ro bl ol (8*len) (gp A)]) (8*(A x.1).b) ?_ S6 (fun _ lG=>by rw[W4];exact XM.pick (pk (22::21::rr 19 1 [2])) lG) ?_
      ·omega
      intro y hy;apply gC;apply ld (.ao .aa) (cw _);apply ld (.ao .aa) (fu _);refine sd ?_;refine sd ?_;refine cd ?_ ?_<;>intro h8
      ·apply ld (.ao .aa) (aV _);refine sd ?_;refine sd ?_;apply st .aa (Bx.st (k:=20) _ _ ⟨og,og⟩ ⟨og,og⟩) rfl;refine sd ?_;refine ag (y+1) ?_ ?_ S6 fun _ lG=>by rw[<-aaf hy.1];exact XM.pick (pz 22) lG
       ·
        (first | omega | (simp;done) | (simp;omega))
       ·
        (first | omega | (simp;done) | (simp;omega))
      ·obtain rfl:y=8*((A x.1).b+(A x.1).c):=og;rw[show 8*(A x.1).c=8*((A x.1).b+(A x.1).c)-8*(A x.1).b by omega]at BP;refine sd ?_;refine ag ((x.1+1,(x.2.1.dC (A x.1).a (A x.1).b (A x.1).c),c1,aJ x.2.2.2 (A x.1).a.toNat (df (x.2.2.2 (A x.1).a.toNat) (8*(A x.1).b) (8*((A x.1).b+(A x.1).c)-8*(A x.1).b) 0))) ?_ ?_ S4 (xq (pk (0::rr 20 1 [])))
       ·
        (show(_-(x.1+1)).toNat<(_-x.1).toNat;omega)
       ·exact⟨(by show 0<=x.1+1/\x.1+1<=_;omega),(by rw[show 2+20*(x.1+1)=2+20*x.1+20 by omega];exact ok1),(by show cK _ c1 (1+(x.1+1).toNat) (2+20*(x.1+1));rw[show 2+20*(x.1+1)=2+20*x.1+20 by omega,show 1+(x.1+1).toNat=1+x.1.toNat+1 by omega];exact gj),gi1,BP⟩
     ·have agB:¬(A x.1).aN=E5:=h7;refine cd ?_ ?_<;>intro h9
      ·have hk:(A x.1).aN=qm:=h9;obtain⟨e1,e3⟩:=Nn qw hk;have hf0:(x.2.1.dW (A x.1).a (A x.1).b (IntKind.u8.wrap (A x.1).c)).1=0:=by have:=Im x.2.1 (A x.1).a (A x.1).b (IntKind.u8.wrap (A x.1).c);omega
       obtain⟨hn,hx,BP⟩:=(jm.store ho og (A x.1).a (A x.1).b (B4 (A x.1).c)).1 hf0;subst e1;refine rq [0,1,2,3,4,5,6,7,8,9] mixed ?_;apply ld (.lH (.t9 .aa)) (aV _);apply ld (.lH (.t9 .aa)) (cw _);apply ld (.lH (.t9 .aa)) (fu _);refine XO.v (lE rfl Tryz.underlying3 Tryz.underlying5 (IntKind.u8.wrap (A x.1).c) rfl) rfl (gO ?_);refine sd ?_;refine sd ?_;apply st (.lH (.Sr .aa)) (Bx.st (k:=20) _ _ ⟨og,og⟩ ⟨og,og⟩) rfl;refine sd ?_;refine ag ((x.1+1,(x.2.1.dW (A x.1).a (A x.1).b (IntKind.u8.wrap (A x.1).c)).2.1,c1,aJ x.2.2.2 (A x.1).a.toNat (ad (x.2.2.2 (A x.1).a.toNat) (A x.1).b (IntKind.u8.wrap (A x.1).c)))) ?_ ?_ S4 (xq (pk [22,1,1,1,1,1,1,1,1,1,1,1,1,1,1,1,1,1,1,1,3]))
       ·
        (show(_-(x.1+1)).toNat<(_-x.1).toNat;omega)
       ·exact⟨(by show 0<=x.1+1/\x.1+1<=_;omega),(by rw[show 2+20*(x.1+1)=2+20*x.1+20 by omega];exact ok1),(by show cK _ c1 (1+(x.1+1).toNat) (2+20*(x.1+1));rw[show 2+20*(x.1+1)=2+20*x.1+20 by omega,show 1+(x.1+1).toNat=1+x.1.toNat+1 by omega];exact gj),gi1,BP⟩
      ·have aje:¬(A x.1).aN=qm:=h9;refine cd ?_ ?_<;>intro Ss
       ·have hk:(A x.1).aN=Bt:=Ss;obtain⟨e1,e2,e3⟩:=RH qw hk;have hf0:(x.2.1.eM (A x.1).a (A x.1).b).1=0:=by have:=Lm x.2.1 (A x.1).a (A x.1).b;omega
        obtain⟨BP,q⟩:=jm.load ho og (A x.1).a (A x.1).b;obtain⟨hn,hx,hv⟩:=q hf0;have hrv:=ho.aaW og (A x.1).a (A x.1).b;subst e1;refine rq [0,1,2,3,4,5,6,7,8,9,10] mixed ?_;apply ld .aa (Bp _);refine XO.v (lE rfl Tryz.underlying3 Tryz.underlying5 (IntKind.u8.wrap r.n) rfl) rfl (gO ?_);apply ld (.lH (.t9 .aa)) (aV _);apply ld (.lH (.t9 .aa)) (cw _);refine sd ?_;refine sd ?_;apply ld (.lH (.Sr .aa)) (Bx.ld (k:=20) _ ⟨og,og⟩ ⟨og,og⟩);apply LU rfl (by rw[e2,hv,NO (by rw[<-hv];exact hrv)];exact fun q=>q rfl);refine sd ?_;refine ag ((x.1+1,(x.2.1.eM (A x.1).a (A x.1).b).2.1,c1,x.2.2.2)) ?_ ?_ S4 (xq (pk [22,1,1,1,1,1,1,1,1,1,1,1,1,1,1,1,1,1,1,1,3]))
        ·
         (show(_-(x.1+1)).toNat<(_-x.1).toNat;omega)
        ·exact⟨(by show 0<=x.1+1/\x.1+1<=_;omega),(by rw[show 2+20*(x.1+1)=2+20*x.1+20 by omega];exact ok1),(by show cK _ c1 (1+(x.1+1).toNat) (2+20*(x.1+1));rw[show 2+20*(x.1+1)=2+20*x.1+20 by omega,show 1+(x.1+1).toNat=1+x.1.toNat+1 by omega];exact gj),gi1,BP⟩
       ·have BP:OW x.2.2.2 a1:=jm.step hgi ho og qw (.inr ⟨ajd,agB,aje⟩);refine sd ?_;refine ag ((x.1+1,a1,c1,x.2.2.2)) ?_ ?_ S4 (xq (pk [22,1,1,1,1,1,1,1,1,1,1,1,1,1,1,1,1,1,1,1,3]))
        ·
         (show(_-(x.1+1)).toNat<(_-x.1).toNat;omega)
        ·exact⟨(by show 0<=x.1+1/\x.1+1<=_;omega),(by rw[show 2+20*(x.1+1)=2+20*x.1+20 by omega];exact ok1),(by show cK _ c1 (1+(x.1+1).toNat) (2+20*(x.1+1));rw[show 2+20*(x.1+1)=2+20*x.1+20 by omega,show 1+(x.1+1).toNat=1+x.1.toNat+1 by omega];exact gj),gi1,BP⟩
  ·refine bI .nil ?_;exact⟨rfl,rfl⟩
set_option maxHeartbeats 16000000 in
def Lo(p:Option Addr)(cap:Nat):Spec Tryz.prog 6 [.slice p 0 cap] [.ro 0 0 32 dw,.ro 1 0 64 gL] (fun v H1=>v= .bool true/\H1=[]):=by
 refine Spec.go 122 [0,2,3,4,5,6,23,28] [] Tryz.func6 fun W=> ?_;refine ca (Li) .nil ?_;rintro _ _ ⟨b,c0,rfl,_,_,E8,rfl⟩;apply gO;refine ca (Z5 _ _ 120) .nil ?_;rintro _ _ ⟨⟨bf,rfl,ad8⟩,rfl⟩;apply gO;refine wM ?_ ?_<;>intro h1
 ·try simp only[sb]at h1
  refine bI .nil ?_;exact⟨rfl,rfl⟩
 ·try simp only[sb]at h1
  apply XO.bQ (z:=.agg Sk) (m:=2560) (C:=Bx fun _ _=>0) (hm:=GM) Lj;intro bf;apply gO;refine lp (σ:=Int×KA×KC×(Nat->Int->Int)) (fun x=>0) (fun x=>(0<=x.1/\x.1<=(0:Nat))/\x.2.1.Ok (2+20*x.1)/\cK x.2.1 x.2.2.1 (1+x.1.toNat) (2+20*x.1)/\x.2.1.GI/\OW x.2.2.2 x.2.1) (fun x=>[(6,iI x.1),(0,.slice p 0 cap),(3,az b.kb 0 0),(5,az bf 0 0)]) (fun x=>XM W (cm [.ro 0 0 32 dw,.ro 1 0 64 gL]) [.cells bf 0 2560 (Bx (x.2.2.2)),.cells b.kb 0 453 (aG (kp x.2.1 b x.2.2.1)),.cells b.gb 0 60 (bH x.2.1.g),.cells b.sb 0 158 (Sp.aL x.2.1.s),.cells b.qb 0 2281 (aH x.2.2.1.q),.aW ck (SC.dg 254 x.2.2.1.q),.cells b.bb 0 577 (dM b.vp x.2.1.v.fR x.2.1.v.rf),.cells b.vp 0 71 (Vm.bO x.2.1.v.bb.fp),.dR (jg x.2.1) x.2.2.1.mb 34 (cN b.bb x.2.1.f x.2.2.1.pp x.2.2.1.cc),.aW (jg x.2.1) (rN 171 x.2.1.f x.2.2.1.pp x.2.2.1.cc),.cells b.tb 0 321 (aC x.2.2.1.F),.aW au (FC.bd 9 x.2.2.1.F),.aW au (FC.bh 3 x.2.2.1.F),dh x.2.2.1.rp x.2.2.1.rc 3 x.2.2.1.rl,.cells b.pi 0 24 (Tr.bO x.2.1.P),.cells b.ob 0 122 (bu b.tb b.pi x.2.1.O),.dR (lu x.2.1) (fun z=>(x.2.2.1.t z).b) 4 (cT b.tb x.2.2.1.t),.aW (lu x.2.1) (rT 168 x.2.2.1.t),.ro 0 0 32 dw,.ro 1 0 64 gL]) ((0,A0,c0,fun _ _=>0)) ?_ S4 (xq (pz 20)) ?_
  ·exact⟨sq,VQ,E8,aaZ,abe⟩
  intro x rB;obtain⟨hi,ho,hc,hgi,jm⟩:=rB;apply gC;apply LU rfl (by simp;omega);refine bI .nil ?_;exact⟨rfl,rfl⟩
def aah:Spec Tryz.prog 6 [.slice none 0 0] [.ro 0 0 32 dw,.ro 1 0 64 gL] (fun v H1=>v= .bool true/\H1=[]):=Lo none 0
end Go.X.Kn
