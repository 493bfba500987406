import Derived.Test.YthdinakloheinaaGreatDoorkJOW
import Derived.Test.YthdinakloheinaaGreatDoorProg
set_option linter.all false
namespace Go.X.Kn
open Go Go.X Go.X.Gr Go.X.Vm
variable{g:Gr.TG}{T n:Int}{x:jA}
def jY(g:Gr.TG)(b:KA):Prop:=gV g b.g/\g.vN b.g
def RD{s t u:Gr.TG}(h:s.vN t)(k:t.vN u)(e:gV t u):s.vN u:=fun n n0 n1 n2=>by
 obtain⟨e1,e2,e3,e4⟩:=e;have n2':t.aa n=true:=by rw[<-e1];exact n2
 obtain⟨h1,h2⟩:=h n n0 n1 n2';obtain⟨k1,k2⟩:=k n n0 n1 n2;rw[Gr.TG.nO n0 n1 n2']at k1 k2;have k1:0<=u.mp n->u.pr n<=u.mp n\/u.pr n<=t.pr n:=k1;have k2:0<=u.mg n->u.pg n<=u.mg n\/u.pg n<=t.pg n:=k2;rw[<-e3]at h1;rw[<-e4]at h2;constructor
 ·intro q;rcases k1 q with a | a
  ·exact .inl a
  ·rcases h1 q with b | b
   ·exact .inl og
   ·exact .inr og
 ·intro q;rcases k2 q with a | a
  ·exact .inl a
  ·rcases h2 q with b | b
   ·exact .inl og
   ·exact .inr og
theorem jY.refl(a:KA):jY a.g a:=⟨gV.refl _,Gr.TG.vN.refl _⟩
def jY.to{b b':KA}(h:jY g b)(k:b.g.vN b'.g)(e:gV b.g b'.g):jY g b':=⟨h.1.trans e,RD h.2 k e⟩
theorem jY.same{b b':KA}(h:jY g b)(e:b'.g=b.g):jY g b':=by unfold jY;rw[e];exact h
theorem jY.un{b b':KA}(h:jY g b)(n p m:Int)(e:b'.g=b.g.cR n p m):jY g b':=h.to (by rw[e];exact Gr.TG.vN.cR _ _ _ _) (by rw[e];exact pF _ _ _ _)
def jY.ch{b b':KA}(h:jY g b)(ok:b.g.Ok)(n p m:Int)(e:b'.g=b.g.aP n p m):jY g b':=h.to (by rw[e];exact Gr.TG.vN.aP ok _ _ _) (by rw[e];exact lH _ _ _ _)
def uP(g:Gr.TG):df (jY g) where
 rest:=fun h _=>h.same rfl
 end_:=fun co w hn hl h=>h.un _ _ _ rfl
 Au:=fun w hn hs h=>h.un _ _ _ rfl
 spc:=fun _ h=>h.same rfl
theorem jY.jl{a:KA}(h:jY g a)(ok:a.g.Ok)(n:Int)(bH:Bool):jY g (a.hQ n bH):=by
 unfold KA.hQ;split
 ·exact h
 ·split
  ·exact(h.ch (b':= {a with g:=a.gC n}) ok _ _ _ rfl).un _ _ _ rfl
  ·exact h.ch ok _ _ _ rfl
def jY.tch{a:KA}(h:jY g a)(ok:a.Ok T)(hT:T<=900000){x:Int}{w:Bool}{D:TD}{y0:Int}(hD:RC n x D)(hA:∀ b:KA,(D.A b).g=b.g):jY g (a.jd n x w D y0).2.1:=by
 rcases GP (w:=w) (y0:=y0) ok hT hD (uP g) h with⟨e,q1,q2,q3⟩ | ⟨q1,q2,q3⟩ | ⟨b,hb,tv,hk,q1,q2,q3,q4,q5⟩
 ·exact q3
 ·rw[q3];exact h.same (hA _)
 ·rw[q5];have hb':jY g {b with v:=b.v,f:=b.f,g:=b.g.aP (b.u n).cB 0 1} :=hb.ch tv.wk.gI.ok _ _ _ rfl;show jY g (if _ then KA.unA _ n else _);split
  ·exact(hb'.same (hA _)).un _ _ _ rfl
  ·exact hb'.same (hA _)
def KA.pO.VC{a a1:KA}{F:Tr.FF}(ok:a.Ok T)(hT:T<=800000)(s:a.pO F x a1):a.g.vN a1.g:=by
 have S:=uP a.g;have h:=jY.refl a;have q:∀ {b:KA} {P:Prop} [Decidable P],jY a.g b->jY a.g (if P then a else b):=fun hb=>by
  split
  ·exact h
  ·exact hb
 cases s with
 | same=>exact h.2
 | dX=>exact(S.dX ok.wk _ h).2
 | sJ=>exact(S.sJ ok.wk _ _ _ h).2
 | ea=>exact(S.ea ok.wk _ _ _ h).2
 | kf=>exact(S.kf ok.wk _ _ _ h).2
 | take=>exact(S.take _ h).2
 | map=>unfold KA.D8;split<;>exact h.2
 | mS=>unfold KA.uN;split<;>exact h.2
 | drop=>exact Gr.TG.vN.du _ _
 | OZ o=>
  rcases o with rfl | ⟨_,_,_,_,_,rfl⟩
  ·exact h.2
  ·exact h.2
 | close=>exact(show jY a.g (a.qx x.a x.b)from q (h.same rfl)).2
 | dup=>exact(show jY a.g (a.Aw x.a x.b)from q (h.same rfl)).2
 | Kx=>
  refine(show jY a.g (a.qd x.a)from q ?_).2;split<;>exact h.same rfl
 | mV=>exact(show jY a.g (a.wx F x.a x.b x.c)from q (h.same rfl)).2
 | cm=>
  have h1:jY a.g (a.uL F x.a x.b x.s):=h.same rfl;refine(show jY a.g (a.pD F x.a x.b x.s)from q ?_).2;split
  ·exact S.send (ok.Gy og F _ _ _).wk _ _ _ h1
  ·exact h1
 | Ky=>exact(show jY a.g (a.uM x.a x.b x.c)from q (h.same rfl)).2
def KA.rz.aim{a a1:KA}{c c1:KC}{e:Int}(ok:a.Ok T)(hT:T<=800000)(s:a.rz c c1 x a1 n e)(hk:x.aO≠Ia):a.g.vN a1.g:=by
 have h:=jY.refl a;have tl:∀ n x w y0 (D:TD),(∀ c:0<=n,RC n x D)->(∀ b:KA,(D.A b).g=b.g)->jY a.g (a.jd n x w D y0).2.1:=fun n x w y0 D hD hA=>by
  by_cases c:0<=n
  ·exact h.tch ok og (hD c) hA
  ·unfold KA.jd;rw[if_pos (by rw[VO c];decide)];exact h
 cases s with
 | jl _=>exact(h.jl ok.wk.gI.ok _ _).2
 | exit _=>exact((uP a.g).mI ok.wk _ _ h).2
 | ep _=>
  unfold KA.jN;split
  ·exact h.2
  ·show a.g.vN (if _ then _ else _);split
   ·exact h.2
   ·exact Gr.TG.vN.cR _ _ _ _
 | load _=>exact(tl _ _ _ _ _ (fun c=>VM c) fun _=>rfl).2
 | store _=>exact(tl _ _ _ _ _ (fun c=>VN c) fun _=>rfl).2
 | lR _ _ _=>exact h.2
 | VC k=>exact absurd k hk
 | BF _ _ _=>
  unfold KA.pE;split
  ·exact h.2
  ·exact Gr.TG.vN.move ok.wk.gI.ok _ _ _ _
 | add _ _ _=>
  unfold KA.nM;split
  ·exact h.2
  ·exact Gr.TG.vN.add _ _
 | qe _ r _ _=>exact r.VC ok hT
def AD{f g:Int->Int} :∀ (k:Nat),(∀ j:Int,0<=j->j<k->f j<=g j)->cE f k<=cE g k
 | 0,_=>Int.le_refl _
 | k+1,h=>by
  have:=AD k fun j a b=>h j a og;have:=h k og og;unfold cE;omega
theorem VP(k:Nat):cE (fun _=>1) k=k:=by
 induction k with
 | zero=>rfl
 | succ k ih=>unfold cE;rw[ih];omega
theorem El(p:Int->Bool)(g:Int->Int):∀ (k:Nat),((Vm.fM p k).map g).sum=cE (fun x=>if p x=true then g x else 0) k
 | 0=>rfl
 | k+1=>by
  simp only[Vm.fM,cE];rw[<-El p g k];by_cases h:p (k:Int)=true
  ·simp[h]
  ·simp[h]
theorem KA.RA{a:KA}(ok:a.Ok T){j:Int}(j0:0<=j)(j1:j<20)(h:(a.u j).st≠1):a.eZ j=0:=by
 unfold KA.eZ;rw[ok.wk.sE j j0 j1 h];rfl
def KA.cw(a:KA)(n j:Int):Int:=a.g.nG n (a.u j).cB
def AE{a:KA}(h:a.GI)(I:a.g.Inv){j:Int}(j0:0<=j)(j1:j<20)(hs:(a.u j).st≠0):0<=a.cw n j/\a.cw n j<=1:=by
 obtain⟨g0,g1,g2⟩:=Gr.TG.jq (h.cB j j0 j1 hs);exact⟨Int.natCast_nonneg _,I.ok.HQ g0 g1 g2 n⟩
theorem KA.K6{a:KA}(h:a.GI){r:Int->Int->Int}{v:Int->Int}(n:Int)(hr:∀ y j,r y j=if(a.u j).cB=y then v j else 0)(hv:∀ j,0<=j->j<20->(a.u j).st=0->v j=0):jX a.g.nG (fun y=>cE (r y) 20) a.g.all n=cE (fun j=>a.cw n j*v j) 20:=by
 show((JQ a.g.aa 10).map _).sum=_;rw[Eg];have e:∀ y:Int,(if a.g.aa y=true then a.g.nG n y*cE (r y) 20 else 0)=cE (fun j=>if a.g.aa y=true then a.g.nG n y*r y j else 0) 20:=fun y=>by
  by_cases c:a.g.aa y=true
  ·simp only[c,if_true];rw[yv]
  ·simp only[c,if_false];exact(fw 20 fun _ _ _=>rfl).symm
 rw[di 10 fun y _ _=>e y,AB];refine di 20 fun j j0 j1=> ?_;by_cases hs:(a.u j).st=0
 ·rw[hv j j0 j1 hs,Int.mul_zero];refine fw 10 fun y _ _=> ?_;rw[hr,hv j j0 j1 hs];simp
 ·obtain⟨g0,g1,g2⟩:=Gr.TG.jq (h.cB j j0 j1 hs);have e2:∀ y:Int,(if a.g.aa y=true then a.g.nG n y*r y j else 0)=if y=(a.u j).cB then a.cw n j*v j else 0:=fun y=>by
   rw[hr];by_cases c:y=(a.u j).cB
   ·subst c;rw[if_pos g2,if_pos rfl,if_pos rfl];rfl
   ·rw[if_neg (show ¬(a.u j).cB=y from fun q=>c q.symm),if_neg c,Int.mul_zero];split<;>rfl
  rw[di 10 fun y _ _=>e2 y,nB _ _ g0,if_pos og]
theorem KA.K7{a:KA}(I:a.g.Inv){f:Int->Int}{v:Int->Int}(e:∀ y,0<=y->y<10->a.g.aa y=true->v y=a.g.left f y)(n0:0<=n)(n1:n<10)(n2:a.g.aa n=true):jX a.g.nG v a.g.all n=f n:=
 (Nk (fun x hx=>by
  obtain⟨x0,x1,x2⟩:=(JR a.g.aa 10 x).1 hx
  exact e x x0 x1 x2) n).trans (I.ok.afH f n0 n1 n2)
def KA.GI.RE{a:KA}(h:a.GI)(ok:a.Ok T)(n0:0<=n)(n1:n<10)(n2:a.g.aa n=true):jX a.cw a.eZ a.da n=a.g.pg n:=by
 rw[<-KA.K7 ok.wk.gI (v:=a.rA) (fun y y0 y1 y2=>(h.bH y y0 y1 y2).2) n0 n1 n2];show((Vm.fM _ 20).map _).sum=jX a.g.nG (fun y=>cE (a.rc y) 20) a.g.all n;rw[El,KA.K6 h (r:=a.rc) n (v:=a.eZ) (fun _ _=>rfl) fun j j0 j1 q=>KA.RA ok j0 j1 og];refine di 20 fun j j0 j1=> ?_;by_cases c:(a.u j).st=1
 ·rw[if_pos (decide_eq_true c)]
 ·rw[if_neg (by simp[c]),KA.RA ok j0 j1 c,Int.mul_zero]
def KA.GI.RF{a:KA}(h:a.GI)(ok:a.Ok T)(n0:0<=n)(n1:n<10)(n2:a.g.aa n=true):jX a.cw (fun _=>1) a.da n<=a.g.pr n/\a.g.pr n<=20:=by
 rw[<-KA.K7 ok.wk.gI (v:=a.tr) (fun y y0 y1 y2=>(h.bH y y0 y1 y2).1) n0 n1 n2];have e:jX a.g.nG a.tr a.g.all n=cE (fun j=>a.cw n j*(if(a.u j).st≠0 then 1 else 0)) 20:=by
  refine KA.K6 h (r:=a.pc) n (fun y j=> ?_) fun j _ _ q=>if_neg og;unfold KA.pc;by_cases c:(a.u j).cB=y
  ·simp[c]
  ·simp[c]
 rw[e];constructor
 ·show((Vm.fM _ 20).map _).sum<=_;rw[El];refine AD 20 fun j j0 j1=> ?_;by_cases c:(a.u j).st=1
  ·rw[if_pos (decide_eq_true c),if_pos og];exact Int.le_refl _
  ·rw[if_neg (by simp[c])];by_cases d:(a.u j).st≠0
   ·rw[if_pos d,Int.mul_one];exact(AE h ok.wk.gI j0 j1 d).1
   ·rw[if_neg d,Int.mul_zero];exact Int.le_refl _
 ·have:=AD (f:=fun j=>a.cw n j*(if(a.u j).st≠0 then 1 else 0)) (g:=fun _=>1) 20 (fun j j0 j1=>by
   by_cases d:(a.u j).st≠0
   ·simp only[if_pos d,Int.mul_one];exact(AE h ok.wk.gI j0 j1 d).2
   ·simp only[if_neg d,Int.mul_zero];decide)
  rw[VP]at this;exact this
theorem KA.GQ(a:KA)(f:Int->Int){z:Int}(h0:0<=z)(h1:z<a.da.length){pre:List Int}(h:pre=a.g.cX (a.u (gh a.da z)).cB):(fun n=>jX a.cw f (a.da.take z.toNat) n+(pre.count n:Int)*f (gh a.da z))=jX a.cw f (a.da.take (z+1).toNat):=by
 funext n;rw[Qz h0 h1,Rx,h];rfl
def KA.O6{a:KA}(h:a.GI)(I:a.g.Inv){f:Int->Int}{K:Int}(hK:0<=K)(hf:∀ x,-K<=f x/\f x<=K)(k:Nat)(n:Int): -(100*K)<=jX a.cw f (a.da.take k) n/\jX a.cw f (a.da.take k) n<=100*K:=by
 have b:=K2 (c:=a.cw) (f:=f) hK (n:=n) (a.da.take k) (fun x hx=>by
  obtain⟨x0,x1,x2⟩:=Df.1 (List.mem_of_mem_take hx)
  have:=AE h I (n:=n) x0 x1 (by rw[of_decide_eq_true x2];decide)
  exact⟨this.1,og,hf x⟩)
 have l1:(a.da.take k).length<=20:=Nat.le_trans (List.length_take_le' _ _) a.GH;have l2:(5*K)*((a.da.take k).length:Int)<=(5*K)*20:=Int.mul_le_mul_of_nonneg_left og og;omega
def GR{p:Int->Bool}(h:p 0=true):∀ (k:Nat),0<k->∃ r,Vm.fM p k=0::r
 | 1,_=>⟨[],by simp[Vm.fM,h]⟩
 | k+2,_=>by
  obtain⟨r,hr⟩:=GR h (k+1) og;exact⟨_,by rw[Vm.fM,hr];rfl⟩
def Fj{a:KA}(ok:a.Ok T):0<a.da.length/\gh a.da 0=0:=by
 obtain⟨r,hr⟩:=GR (p:=fun n=>decide ((a.u n).st=1)) (decide_eq_true ok.r0.st) 20 og;have e:a.da=0::r:=hr;rw[e];exact⟨sq,rfl⟩
def RH{a a1:KA}{c c1:KC}{e:Int}(s:a.rz c c1 x a1 n e)(hk:x.aO=nN)(h0:0<=n):n<20/\c1.q.aa (10+n)=true:=by
 have no:∀ {y:ByteArray},x.aO=y->y≠nN->False:=fun q r=>r (q▸hk);cases s with
 | lR _ _ hr=>
  rcases hr with q | q
  ·omega
  ·exact q.2
 | jl k=>exact(no k (by simp[Eb,nN])).elim
 | exit k=>exact(no k (by simp[Ec,nN])).elim
 | ep k=>exact(no k (by simp[Ni,nN])).elim
 | load k=>exact(no k (by simp[Ed,nN])).elim
 | store k=>exact(no k (by simp[xx,nN])).elim
 | VC k=>exact(no k (by simp[Ia,nN])).elim
 | BF k _ _=>exact(no k (by simp[Ee,nN])).elim
 | add k _ _=>exact(no k (by simp[Nj,nN])).elim
 | qe h _ _ _=>exact(h (by rw[hk];simp)).elim
end Go.X.Kn

namespace Go.X
open Go Go.Proofs Go.X
instance:Tb Tryz.prog:=⟨⟨(.nd 10432 [0,1] (.nd 5696 [0,1,2,3,4,5,11] (.nd 2432 [0,1] (.nd 1152 [0] (.nd 832 [0,1] (.nd 512 [0,1,2,3] (.nd 448 [0,1,2,3] .lf .lf) .lf) (.nd 896 [0,1] .lf .lf)) (.nd 1920 [0,1,2,3,4,5,6,7] (.nd 1216 [0] .lf .lf) (.nd 1984 [0,1,2,3,4,5,6,7] .lf .lf))) (.nd 4224 [0,1,2,3,4] (.nd 3712 [0,1,2,3] (.nd 3648 [0,1,2,3] (.nd 2496 [0,1] .lf .lf) .lf) (.nd 4160 [0,1,2,3,4] .lf .lf)) (.nd 5568 [0,1,2] (.nd 5504 [0,1,2] .lf .lf) (.nd 5632 [0,1,2,3,4,5,11] .lf .lf)))) (.nd 9216 [0,1,2] (.nd 8512 [0] (.nd 8320 [0,1,2] (.nd 6464 [0,440,441,442,443,444,445,446,447] (.nd 6400 [0,440,441,442,443,444,445,446,447] .lf .lf) .lf) (.nd 8384 [0,1,2] .lf .lf)) (.nd 9024 [0,1] (.nd 8576 [0] .lf .lf) (.nd 9088 [0,1] .lf .lf))) (.nd 9920 [0,1,2] (.nd 9664 [0,50] (.nd 9600 [0,50] (.nd 9280 [0,1,2] .lf .lf) .lf) (.nd 9856 [0,1,2] .lf .lf)) (.nd 10176 [0,138] (.nd 10112 [0,138] .lf .lf) (.nd 10368 [0,1] .lf .lf))))) (.nd 12544 [0,1,2] (.nd 11584 [0,1,2,3,4] (.nd 10880 [0,1,2] (.nd 10688 [0,2] (.nd 10624 [0,1,3] (.nd 10560 [0,1,3] .lf .lf) .lf) (.nd 10752 [0,2] .lf .lf)) (.nd 11264 [0,1,513] (.nd 10944 [0,1,2] .lf .lf) (.nd 11328 [0,1,513] .lf .lf))) (.nd 11968 [0,1,2,3,4,5,6,71,72,73,74,75] (.nd 11840 [0,1] (.nd 11776 [0,1] (.nd 11648 [0,1,2,3,4] .lf .lf) .lf) (.nd 11904 [0,1,2,3,4,5,6,71,72,73,74,75] .lf .lf)) (.nd 12160 [0,2280] (.nd 12096 [0,2280] .lf .lf) (.nd 12480 [0,1,2] .lf .lf)))) (.nd 16192 [0,1] (.nd 13952 [0,320] (.nd 13760 [0,1,2,3,4,5,6,7] (.nd 13504 [0,1,2,3] (.nd 13440 [0,1,2,3] .lf .lf) .lf) (.nd 13824 [0,1,2,3,4,5,6,7] .lf .lf)) (.nd 15808 [0,7] (.nd 14016 [0,320] .lf .lf) (.nd 15872 [0,7] .lf .lf))) (.nd 20352 [0,1,2,3] (.nd 19968 [0,1] (.nd 16256 [0,1] .lf .lf) (.nd 20032 [0,1] .lf .lf)) (.nd 21056 [0,1,2,3,4,5,6,7,8,9,10] (.nd 20416 [0,1,2,3] .lf .lf) (.nd 21120 [0,1,2,3,4,5,6,7,8,9,10] .lf .lf)))))),(.nd 207 [4] (.nd 124 [7] (.nd 57 [7,7] (.nd 38 [7,7] (.nd 27 [7,7,6,7,7,1,1] (.nd 2 [6,6,5,6,6,7,7,3,3,3,6,7,7,2,2,2,7,7,1,6,4,2] .lf .lf) .lf) (.nd 53 [7,7,4] .lf .lf)) (.nd 82 [2,7,6,7,7,7,7,7,7,2,2,2,2,2,2,2,2,7,7,7,6] (.nd 79 [2] (.nd 64 [7,7,7,7] .lf .lf) .lf) (.nd 106 [2] .lf .lf))) (.nd 162 [7,7,4,7,7,7,7] (.nd 149 [7,7,7] (.nd 140 [4,7,7,7,7,7] (.nd 130 [7,7,7,7,7] .lf .lf) .lf) (.nd 154 [7,7,7,7,7,7] .lf .lf)) (.nd 181 [7,7,4,7,7,7,7,7,7,7,2] (.nd 170 [7,7,2,7,7,7,7,7,2] .lf .lf) (.nd 194 [7,7,7] .lf .lf)))) (.nd 266 [2] (.nd 246 [7,7,7] (.nd 228 [2] (.nd 215 [7,7,7,7,7] (.nd 210 [7,7] .lf .lf) .lf) (.nd 231 [4,2] .lf .lf)) (.nd 256 [7,6,6] (.nd 252 [2,7,7] .lf .lf) (.nd 262 [2] .lf .lf))) (.nd 302 [2] (.nd 294 [6] (.nd 282 [6] (.nd 269 [4] .lf .lf) .lf) (.nd 299 [7] .lf .lf)) (.nd 318 [7,7,7,7,7,6,6] (.nd 311 [7,7,7,7] .lf .lf) (.nd 326 [2,6,6,7,7] .lf .lf))))),(.nd 207 [1] (.nd 124 [10] (.nd 57 [4,4] (.nd 38 [2,2] (.nd 27 [21,21,1,8,8,1,1] (.nd 2 [1,1,1,1,1,4,4,1,1,1,1,2,2,1,1,1,1,1,1,1,1,1] .lf .lf) .lf) (.nd 53 [128,2560,1] .lf .lf)) (.nd 82 [1,6,1,9,11,11,22,22,440,1,1,1,1,1,1,1,1,6,453,453,1] (.nd 79 [1] (.nd 64 [20,5,5,50] .lf .lf) .lf) (.nd 106 [1] .lf .lf))) (.nd 162 [2,2,1,4,4,4,4] (.nd 149 [10,60,60] (.nd 140 [1,2,2,32,34,34] (.nd 130 [3,3,24,24,24] .lf .lf) .lf) (.nd 154 [23,23,138,20,158,158] .lf .lf)) (.nd 181 [5,5,1,65,65,76,76,2280,2281,2281,1] (.nd 170 [3,3,1,8,512,64,577,577,1] .lf .lf) (.nd 194 [120,122,122] .lf .lf)))) (.nd 269 [1] (.nd 246 [7,71,71] (.nd 228 [1] (.nd 215 [8,8,320,321,321] (.nd 210 [4,4] .lf .lf) .lf) (.nd 231 [1,1] .lf .lf)) (.nd 262 [1] (.nd 256 [32,1,1] (.nd 252 [1,2,2] .lf .lf) .lf) (.nd 266 [1] .lf .lf))) (.nd 311 [256,2,2,32] (.nd 299 [64] (.nd 294 [1] (.nd 282 [1] .lf .lf) .lf) (.nd 302 [1] .lf .lf)) (.nd 323 [1,1] (.nd 318 [4,4] .lf .lf) (.nd 326 [1,1,1,11,11] .lf .lf))))),(.nd 149 [10] (.nd 85 [9] (.nd 64 [20] (.nd 53 [128,20] (.nd 27 [21,21] .lf .lf) .lf) (.nd 83 [6] (.nd 67 [10] .lf .lf) .lf)) (.nd 124 [10] (.nd 99 [6] (.nd 90 [20] .lf .lf) .lf) (.nd 143 [16] (.nd 132 [8] .lf .lf) .lf))) (.nd 246 [7] (.nd 188 [30] (.nd 173 [8,64,64] (.nd 156 [6,20] .lf .lf) .lf) (.nd 217 [40] (.nd 194 [24] .lf .lf) .lf)) (.nd 311 [256] (.nd 299 [64] (.nd 256 [32] .lf .lf) .lf) (.nd 320 [0] (.nd 314 [16] .lf .lf) .lf)))),(.nd 149 [1] (.nd 85 [1] (.nd 64 [1] (.nd 53 [1,128] (.nd 27 [1,1] .lf .lf) .lf) (.nd 83 [1] (.nd 67 [5] .lf .lf) .lf)) (.nd 124 [1] (.nd 99 [1] (.nd 90 [22] .lf .lf) .lf) (.nd 143 [2] (.nd 132 [3] .lf .lf) .lf))) (.nd 246 [1] (.nd 188 [76] (.nd 173 [1,8,1] (.nd 156 [23,1] .lf .lf) .lf) (.nd 217 [8] (.nd 194 [5] .lf .lf) .lf)) (.nd 311 [1] (.nd 299 [1] (.nd 256 [1] .lf .lf) .lf) (.nd 320 [1] (.nd 314 [2] .lf .lf) .lf)))),(.nd 183 [2] (.nd 140 [3] (.nd 55 [1] (.nd 22 [8] .lf .lf) .lf) (.nd 164 [4] .lf .lf)) (.nd 231 [1] (.nd 207 [1] .lf .lf) (.nd 269 [2] .lf .lf))),(.nd 287 [0,0,0,0,0] (.nd 269 [0] (.nd 2 [0,0,0,0,0,0,0,0,0,0,0,0,0,0,0,0,0,0,0,0,0,0,0,0,0,0,0,0,0,0,0,0,0,0,0,0,0,0,0,0,0,0,0,0,0,0,0,0,0,0,0,0,0,0,0,0,0,0,0,0,0,0,0,0,0,0,0,0,0,0,0,0,0,0,0,0,0,0,0,0,0,0,0,0,0,0,0,0,0,0,0,0,0,0,0,0,0,0,0,0,0,0,0,0,0,0,0,0,0,0,0,0,0,0,0,0,0,0,0,0,0,0,0,0,0,0,0,0,0,0,0,0,0,0,0,0,0,0,0,0,0,0,0,0,0,0,0,0,0,0,0,0,0,0,0,0,0,0,0,0,0,0,0,0,0,0,0,0,0,0,0,0,0,0,0,0,0,0,0,0,0,0,0,0,0,0,0,0,0,0,0,0,0,0,0,0,0,0,0,0,0,0,0,0,0,0,0,0,0,0,0,0,0,0,0,0,0,0,0,0,0,0,0,0,0,0,0,0,0,0,0,0,0,0,0,0,0,0,0,0,0,0,0,0,0,0,0,0,0,0,0,0,0,0,0,0,0,0,0,0,0,0,0,0,0,0] .lf .lf) (.nd 271 [0,0,0,0,0,0,0,0,0,0,0,0,0,0,0] .lf .lf)) (.nd 296 [0] (.nd 293 [0,0] .lf .lf) (.nd 321 [0] .lf .lf)))⟩,kq⟩
def mixed:Tryz.prog.follows .mixedOrders=true:=kq
theorem nc(T:TypeId):ax T 0= .nilIface:=rfl
theorem AF(T:TypeId):ax T 1= .iface T (iI 1):=rfl
theorem AG(T:TypeId):ax T 2= .iface T (iI 2):=rfl
theorem AH(T:TypeId):ax T 3= .iface T (iI 3):=rfl
theorem AI(T:TypeId):ax T 4= .iface T (iI 4):=rfl
theorem AJ(T:TypeId):ax T 5= .iface T (iI 5):=rfl
theorem AK(T:TypeId):ax T 6= .iface T (iI 6):=rfl
theorem AL(T:TypeId):ax T 7= .iface T (iI 7):=rfl
theorem AM(T:TypeId):ax T 8= .iface T (iI 8):=rfl
theorem AN(T:TypeId):ax T 9= .iface T (iI 9):=rfl
theorem vz(T:TypeId):ax T 10= .iface T (iI 10):=rfl
theorem vA(T:TypeId):ax T 11= .iface T (iI 11):=rfl
theorem vB(T:TypeId):ax T 12= .iface T (iI 12):=rfl
theorem vC(T:TypeId):ax T 13= .iface T (iI 13):=rfl
end Go.X

namespace Go.X.Sp
open Go Go.Proofs Go.X
set_option maxRecDepth 20000
set_option maxHeartbeats 4000000
def acP:nT Tryz.prog 155=true:=kq
def uQ(z:Int):∀ w,(Instr.buildSlice 55 1 #[(0,iI z)]).run Tryz.prog w= .ok (.slice (some ⟨w.heap.size,0,none⟩) 1 1) (w.alloc (.cells #[iI z] 3)):=fun w=>kq
def qy:rL Tryz.prog 3 1=true:=kq
def lq:jU Tryz.prog 3=true:=kq
def RJ:fp Tryz.prog 155=some 23:=kq
def ot:fp Tryz.prog 3=some 1:=kq
def vD(p:Int):Spec Tryz.prog 121 [iI p] [] (fun v H1=>v= .agg (Qp p)/\H1=[]):=by
 refine Spec.go 15 [0,2,3,4,7,8] [] Tryz.func121 fun W=> ?_;apply XO.bG (z:=.agg r9) (m:=23) (C:=cellsOf r9) fun _ _=>rfl;intro br;apply gO;refine XO.v (V.build (vs:= #[(0,.bool true),(1,iI p)]) rfl (v:=.agg #[.bool true,iI p,iI 0,iI 0,iI 0,iI 0,iI 0,iI 0,iI 0,iI 0,iI 0,iI 0,iI 0,iI 0,iI 0,iI 0,iI 0,iI 0,iI 0,iI 0,iI 0,iI 0,iI 0]) fun _=>kq) rfl (gO ?_);apply XO.bG (z:=.agg r9) (m:=23) (C:=cellsOf r9) fun _ _=>rfl;intro bx;apply gO;apply fW .aa (T7 p _ JD) rfl ⟨rfl,rfl⟩;refine lp (σ:=Int) (fun k=>(21-k).toNat) (fun k=>0<=k/\k<=21) (fun k=>[(7,iI k),(2,ay br 0 0),(3,ay bx 0 0)]) (fun k=>XM W (bX []) [.cells br 0 23 (cellsOf r9),.cells bx 0 23 (vZ ⟨p,E3 k⟩)]) (0) ?_ S3 (xq (pk [1,0])) ?_
 ·omega
 intro k hk;apply gC;refine cd ?_ ?_<;>intro h1
 ·refine sd (st (.ao .aa) (CU _ _ og _) rfl (sd (ag (k+1) ?_ ?_ S3 fun _ hw=>by rw[<-JC k];exact XM.pick (pz 2) hw)));all_goals omega
 ·obtain rfl:k=21:=og;refine lW (.ao .aa) (T5 p) (fW .aa (ab5 _ JD p) rfl ⟨rfl,rfl⟩ (Xq rfl rfl .aa (T5 p) acP RJ (ah .nil rfl ?_)));simp_all
def AO(b o:Nat)(s:SS)(n:Int):Spec Tryz.prog 119 [ay b o 0,iI n] [.cells b o 158 (aK s)] (fun v H1=>((s.is n=0/\0<=n/\n<6/\s.aa n=true)/\v= .nilIface/\H1=[.cells b o 158 (aK s)])\/(s.is n≠0/\v= .iface 102 (iI (s.is n))/\H1=[.cells b o 158 (aK s)])):=by
 refine Spec.go 21 [0,1,4,10,19] [] Tryz.func119 fun W=> ?_;refine sp 7 rfl ?_ ?_<;>intro h1
 ·refine bL .h1 ?_;try dsimp only[aS,aR,bI,bN]
  rcases s.jC n with⟨q,q1,q2,q3⟩ | ⟨q,q1⟩ | ⟨q,q1,q2,q3⟩<;>first | (exfalso;omega) | (exfalso;simp_all;done) | exact .inl ⟨⟨q,q1,q2,q3⟩,rfl,rfl⟩ | exact .inr ⟨og,by rw[q],rfl⟩
 ·refine cd ?_ ?_<;>intro h2
  ·refine bL .h1 ?_;try dsimp only[aS,aR,bI,bN]
   rcases s.jC n with⟨q,q1,q2,q3⟩ | ⟨q,q1⟩ | ⟨q,q1,q2,q3⟩<;>first | (exfalso;omega) | (exfalso;simp_all;done) | exact .inl ⟨⟨q,q1,q2,q3⟩,rfl,rfl⟩ | exact .inr ⟨og,by rw[q],rfl⟩
  ·refine sd (ld .aa (kE _ _) ?_);refine wM ?_ ?_<;>intro h3
   ·try simp only[sb]at h3
    refine bL .h1 ?_;try dsimp only[aS,aR,bI,bN]
    rcases s.jC n with⟨q,q1,q2,q3⟩ | ⟨q,q1⟩ | ⟨q,q1,q2,q3⟩<;>first | (exfalso;omega) | (exfalso;simp_all;done) | exact .inl ⟨⟨q,q1,q2,q3⟩,rfl,rfl⟩ | exact .inr ⟨og,by rw[q],rfl⟩
   ·try simp only[sb]at h3
    refine bL .h1 ?_;rcases s.jC n with⟨q,q1,q2,q3⟩ | ⟨q,q1⟩ | ⟨q,q1,q2,q3⟩<;>first | (exfalso;omega) | (exfalso;simp_all;done) | exact .inl ⟨⟨q,q1,q2,q3⟩,rfl,rfl⟩ | exact .inr ⟨og,by rw[q],rfl⟩
def acQ(b o:Nat)(s:SS)(aV:Int->Nat)(hD:s.Deep aV)(n:Int)(hn:0<=n/\n<6/\s.aa n=true):Spec Tryz.prog 120 [ay b o 0,iI n] [.cells b o 158 (aK s)] (fun v H1=>∃ p cap,v= .slice p (s.cX aV n).length cap/\H1=[dy p cap 3 (s.cX aV n),.cells b o 158 (aK s)]):=by
 refine Spec.go 22 [0,1,4,5,6,9] [] Tryz.func120 fun W=> ?_;apply XR.fH 3 1;refine lp (σ:=Int×List Int×Option Addr×Nat) (fun x=>if x.1= -1 then 0 else aV x.1) (fun x=>(x.1= -1/\x.2.1=s.cX aV n)\/((0<=x.1/\x.1<6/\s.aa x.1=true)/\x.2.1++s.jo (aV x.1) x.1=s.cX aV n)) (fun x=>[(5,.slice x.2.2.1 x.2.1.length x.2.2.2),(6,iI x.1),(0,ay b o 0)]) (fun x=>XM W (bX [.cells b o 158 (aK s)]) [dy x.2.2.1 x.2.2.2 3 x.2.1,.cells b o 158 (aK s)]) ((n,[],none,0)) ?_ S3 (xq (pz 2)) ?_
 ·exact .inr ⟨hn,rfl⟩
 intro x hx;apply gC;refine cd ?_ ?_<;>intro h1
 ·obtain⟨hx,hw⟩:=hx.resolve_left og;have hlen:x.2.1.length<=4:=by
   have h9:=congrArg List.length hw;rw[List.length_append,SS.cX,SS.pV,SS.pV]at h9;have:=(hD.d n hn.1 hn.2.1 hn.2.2).2.1;omega
  obtain⟨ID,wE,Xd⟩:=id hx;apply XO.buildSlice (A:= #[iI _]) (vs:= #[(0,iI _)]) rfl (uQ _) rfl rfl;intro h2;apply gO;apply lB (e:=3) rfl rfl Tryz.underlying55 qy (.ao .aa) .aa og rfl;intro h3 h4;apply gO;refine sd (ld (.t2 .aa) (lD _ _) (ag ((s.aA x.1,x.2.1++[x.1],_,_)) ?_ ?_ S3 (xq (pk [0,1]))))
  ·show(if s.aA x.1= -1 then 0 else aV (s.aA x.1))<(if x.1= -1 then 0 else aV x.1);obtain⟨h1,h2,h3⟩:=hx;by_cases q:s.aA x.1= -1
   ·have:=(hD.d x.1 h1 h2 h3).1;grind
   grind [SS.JH]
  grind [SS.X9,SS.JH]
 ·refine bL (pz 2) ?_;simp_all[aS,aR]
def GS(b o:Nat)(s:SS)(n:Int)(hn:0<=n/\n<6)(hh:s.aa n=true):Spec Tryz.prog 192 [ay b o 0,iI n] [.cells b o 158 (aK s)] (fun v H1=>∃ p cap,v= .slice p (s.fU n).length cap/\H1=[dy p cap 3 (s.fU n),.cells b o 158 (aK s)]):=by
 refine Spec.go 26 [0,1,4,5,7,14,15,16,19] [] Tryz.func192 fun W=> ?_;refine XR.fH 3 1 (sd (lW (.ao .aa) (CV _ _ og aq) ?_));refine lp (σ:=Int×List Int×Option Addr×Nat) (fun x=>(21-x.1).toNat) (fun x=>(0<=x.1/\x.1<=21)/\x.2.1=eo (s.dE n) x.1.toNat) (fun x=>[(5,.slice x.2.2.1 x.2.1.length x.2.2.2),(15,iI x.1),(14,.agg (wF (s.dE n) 21))]) (fun x=>XM W (bX [.cells b o 158 (aK s)]) [dy x.2.2.1 x.2.2.2 3 x.2.1,.cells b o 158 (aK s)]) ((0,[],none,0)) ?_ S3 (xq (pz 2)) ?_
 ·exact⟨og,rfl⟩
 intro x hx;obtain⟨hx,hL⟩:=hx;have hlen:=nY (s.dE n) x.1.toNat;rw[<-hL]at hlen;have hnx:=E5 (s.dE n) hx.1;apply gC;refine cd ?_ ?_<;>intro h1
 ·refine XO.v (lJ rfl rfl Tryz.underlying27 ot lq) rfl (gO ?_);refine cd ?_ ?_<;>intro h2
  ·apply XO.buildSlice (A:= #[iI _]) (vs:= #[(0,iI _)]) rfl (uQ _) rfl rfl;intro h3;apply gO;apply lB (e:=3) rfl rfl Tryz.underlying55 qy (.ao .aa) .aa og rfl;intro h4 h5;apply gO;refine sd (ag ((x.1+1,x.2.1++[s.dE n x.1],_,_)) ?_ ?_ S3 (xq (pk [0,1])));all_goals grind
  ·refine sd (ag ((x.1+1,x.2.1,_,_)) ?_ ?_ S3 (xq (pz 2)));all_goals grind
 ·refine bL (pz 2) ?_;have acR:x.1=21:=og;rw[acR]at hL;exact⟨_,_,by rw[hL];rfl,by rw[hL];rfl⟩
def No(b o:Nat)(s:SS)(p:Int):Spec Tryz.prog 118 [ay b o 0,iI p] [.cells b o 158 (aK s)] (fun v H1=>(v= .tuple #[iI (s.bS p).1,ax 102 (s.bS p).2]/\((s.bS p).2=0->(0<=p/\p<20)/\0<=s.loc p/\(s.bS p).1=s.loc p))/\H1=[.cells b o 158 (aK s)]):=by
 refine Spec.go 27 [0,1,4,5,11,19] [] Tryz.func118 fun W=> ?_;refine sp 8 rfl ?_ ?_<;>intro h1
 ·refine er .h1 ?_;grind [aS,aR,bN,SS.bS,ax]
 ·refine cd ?_ ?_<;>intro h2
  ·refine er .h1 ?_;grind [aS,aR,bN,SS.bS,ax]
  ·refine sd (ld .aa (r7 _ _) ?_);refine cd ?_ ?_<;>intro h3
   ·refine er .h1 ?_;grind [aS,aR,bN,SS.bS,ax]
   ·refine sd (ld .aa (r7 _ _) (aW rfl rfl rfl (ah .h1 rfl ?_)));grind [aS,aR,bN,SS.bS,ax]
def RL(b o:Nat)(s:SS)(n:Int):Spec Tryz.prog 191 [ay b o 0,iI n] [.cells b o 158 (aK s)] (fun v H1=>∃ p cap,v= .tuple #[.slice p (s.mem n).1.length cap,ax 102 (s.mem n).2]/\H1=[dy p cap 3 (s.mem n).1,.cells b o 158 (aK s)]):=by
  refine Spec.go 16 [0,1,4,5,6,11] [] Tryz.func191 fun W=> ?_
  refine ca (AO _ _ _ _) .h1 ?_
  rintro _ _ (⟨h1,rfl,rfl⟩ | ⟨h1,rfl,rfl⟩)
  · skip
    obtain⟨i0,i1,i2,i3⟩:=h1
    apply gO
    refine ca (GS _ _ _ _ og aq) .h1 ?_
    rintro _ _ ⟨pl,cl,rfl,rfl⟩
    apply gO
    refine er (pz 2) ?_
    first
    | (have hm:s.mem n=([],s.is n):=by unfold SS.mem;rw[if_pos aq]
       rw[hm];exact⟨none,0,by rw[aJ _ aq];rfl,rfl⟩)
    | (have hm:s.mem n=(s.fU n,0):=by unfold SS.mem;rw[if_neg iV]
       rw[hm];exact⟨_,_,rfl,rfl⟩)
  · skip
    have i0:=h1
    apply gO
    refine XR.fH 3 1 (aW rfl rfl rfl (ah (pz 2) rfl ?_))
    first
    | (have hm:s.mem n=([],s.is n):=by unfold SS.mem;rw[if_pos aq]
       rw[hm];exact⟨none,0,by rw[aJ _ aq];rfl,rfl⟩)
    | (have hm:s.mem n=(s.fU n,0):=by unfold SS.mem;rw[if_neg iV]
       rw[hm];exact⟨_,_,rfl,rfl⟩)
def afK(b o:Nat)(s:SS):Spec Tryz.prog 91 [ay b o 0] [.cells b o 158 (aK s)] (fun v H1=>∃ p cap,v= .slice p (fM s.aa 6).length cap/\H1=[dy p cap 3 (fM s.aa 6),.cells b o 158 (aK s)]):=by
 refine Spec.go 21 [0,2,3,4,5,6,14] [] Tryz.func91 fun W=> ?_;refine XR.fH 3 1 ?_;refine lp (σ:=Int×List Int×Option Addr×Nat) (fun x=>(6-x.1).toNat) (fun x=>(0<=x.1/\x.1<=6)/\x.2.1=fM s.aa x.1.toNat) (fun x=>[(3,.slice x.2.2.1 x.2.1.length x.2.2.2),(5,iI x.1),(0,ay b o 0)]) (fun x=>XM W (bX [.cells b o 158 (aK s)]) [dy x.2.2.1 x.2.2.2 3 x.2.1,.cells b o 158 (aK s)]) ((0,[],none,0)) ?_ S3 (xq (pz 2)) ?_
 ·grind [fM]
 intro x hx;obtain⟨hx,hL⟩:=hx;have hlen:=kg s.aa x.1.toNat;rw[<-hL]at hlen;have hnx:=zT s.aa hx.1;refine gC ?_;refine cd ?_ ?_<;>intro h1
 ·refine sd (ld (.ao .aa) (kE _ _) ?_);refine wM ?_ ?_<;>intro h2
  ·try simp only[sb]at h2
   refine XO.buildSlice (A:= #[iI _]) (vs:= #[(0,iI _)]) rfl (uQ _) rfl rfl ?_;intro h3;refine gO ?_;refine lB (e:=3) rfl rfl Tryz.underlying55 qy (.ao .aa) .aa og rfl ?_;intro h4 h5;refine gO ?_;refine sd (ag ((x.1+1,x.2.1++[x.1],_,_)) ?_ ?_ S3 (xq (pk [0,1])));all_goals grind
  ·try simp only[sb]at h2
   refine sd (ag ((x.1+1,x.2.1,_,_)) ?_ ?_ S3 (xq (pz 2)));all_goals grind
 ·refine bL (pz 2) ?_;try dsimp only[aS,aR,bI,bN]
  have acR:x.1=6:=og;simp_all
def O7(b o:Nat)(s:SS)(p n:Int):Spec Tryz.prog 62 [ay b o 0,iI p,iI n] [.cells b o 158 (aK s)] (fun v H1=>v= .tuple #[iI (s.jB p n).1,ax 102 (s.jB p n).2]/\H1=[.cells b o 158 (aK s)]):=by
 refine Spec.go 41 [0,1,2,6,7,8,9,10,15,22,30,31,32,37] [] Tryz.func62 fun W=> ?_;refine ca (AO _ _ _ _) .h1 ?_;rintro _ _ (⟨h1,rfl,rfl⟩ | ⟨h1,rfl,rfl⟩)
 ·obtain⟨i0,i1,i2,i3⟩:=h1;apply gO;refine sp 19 rfl ?_ ?_<;>intro h2
  ·refine er .h1 ?_;grind [aS,aR,bN,aJ,sa]
  ·refine cd ?_ ?_<;>intro h3
   ·refine er .h1 ?_;grind [aS,aR,bN,aJ,sa]
   ·refine sd (lW .aa (CV _ _ og aq) ?_);refine lp (σ:=Int) (fun k=>(21-k).toNat) (fun k=>(0<=k/\k<=21)/\∀ j:Int,0<=j->j<k->s.dE n j≠p) (fun k=>[(31,iI k),(1,iI p),(30,.agg (wF (s.dE n) 21))]) (fun k=>XM W (bX [.cells b o 158 (aK s)]) [.cells b o 158 (aK s)]) (0) ?_ S3 (xq .h1) ?_
    ·grind
    intro k hk;obtain⟨hk,BV⟩:=hk;apply gC;refine cd ?_ ?_<;>intro h4
    ·refine XO.v (lJ rfl rfl Tryz.underlying27 ot lq) rfl (gO ?_);refine cd ?_ ?_<;>intro h5
     ·refine er .h1 ?_;first
      | (rw[CW aq];exact⟨by show _=Value.tuple #[_,ax 102 (s.is n)];rw[aJ _ aq],rfl⟩)
      | (rw[sa aq og];exact⟨rfl,rfl⟩)
      | (rw[SS.JE (q:=k) aq og og og BV];exact⟨rfl,rfl⟩)
      | (rw[Ba aq og fun j h1 h2=>BV j h1 og];exact⟨rfl,rfl⟩)
     ·refine sd (ag (k+1) ?_ ?_ S3 (xq .h1));all_goals grind
    ·refine er .h1 ?_;grind [aS,aR,bN,aJ,Ba]
 ·have i0:=h1;apply gO;refine er .h1 ?_;grind [aS,aR,bN,CW,aJ]
def xy(b o:Nat)(s:SS)(n q:Int):Spec Tryz.prog 66 [ay b o 0,iI n,iI q] [.cells b o 158 (aK s)] (fun v H1=>v= .tuple #[iI (s.find n q).1,ax 102 (s.find n q).2]/\H1=[.cells b o 158 (aK s)]):=by
 refine Spec.go 43 [0,1,2,6,7,8,13,32] [] Tryz.func66 fun W=> ?_;refine ca (AO _ _ _ _) .h1 ?_;rintro _ _ (⟨h1,rfl,rfl⟩ | ⟨h1,rfl,rfl⟩)
 ·obtain⟨i0,i1,i2,i3⟩:=h1;apply gO;refine sp 17 rfl ?_ ?_<;>intro h2
  ·refine er .h1 ?_;grind [aS,aR,bN,aJ,sc]
  ·refine sp 21 rfl ?_ ?_<;>intro h3
   ·refine er .h1 ?_;grind [aS,aR,bN,aJ,sc]
   ·refine sd (sd (ld .aa (lE _ _ _ og og IK) ?_));refine cd ?_ ?_<;>intro h4
    ·refine er .h1 ?_;grind [aS,aR,bN,aJ,sc]
    ·refine sd (sd (ld .aa (lE _ _ _ og og IK) (aW rfl rfl rfl (ah .h1 rfl ?_))));grind [aS,aR,bN,ax,Mh]
 ·have i0:=h1;apply gO;refine er .h1 ?_;grind [aS,aR,bN,JF,aJ]
def afL(b o:Nat)(s:SS)(aV:Int->Nat)(hD:s.Deep aV)(hA:∀ k,s.aa k=false->∀ j,s.dE k j= -1)(n:Int):Spec Tryz.prog 53 [ay b o 0,iI n] [.cells b o 158 (aK s)] (fun v H1=>v= .tuple #[iI (s.add aV n).1,ax 102 (s.add aV n).2.1]/\H1=[.cells b o 158 (aK (s.add aV n).2.2)]):=by
 refine Spec.go 41 [0,1,4,5,6,7,12,18,20,21,30] [] Tryz.func53 fun W=> ?_;refine ca (AO _ _ _ _) .h1 ?_;rintro _ _ (⟨h1,rfl,rfl⟩ | ⟨h1,rfl,rfl⟩)
 ·obtain⟨i0,i1,i2,i3⟩:=h1;apply gO;refine ca (acQ _ _ _ aV hD _ ⟨og,og,aq⟩) .h1 ?_;rintro _ _ ⟨pl,cl,rfl,rfl⟩;apply gO;refine cd ?_ ?_<;>intro h2
  ·have hdp:=s.B0 aV n;refine er (pk [1]) ?_;grind [aS,aR,bN,SS.CX,ax]
  ·have hdp:=s.B0 aV n;refine lp (σ:=Int) (fun k=>(6-k).toNat) (fun k=>(0<=k/\k<=6)/\∀ j:Int,0<=j->j<k->s.aa j=true) (fun k=>[(20,iI k),(0,ay b o 0),(1,iI n)]) (fun k=>XM W (bX [.cells b o 158 (aK s)]) [.cells b o 158 (aK s)]) (0) ?_ S3 (xq (pk [1])) ?_
   ·grind
   intro k hk;obtain⟨hk,BV⟩:=hk;apply gC;refine cd ?_ ?_<;>intro h3
   ·refine sd (ld .aa (kE _ _) ?_);refine wM ?_ ?_<;>intro h4
    ·try simp only[sb]at h4
     refine rq [0,1,2,4,5,3,6,7] mixed ?_;refine cq (vD _) .nil ?_;refine sd (fW .aa (CZ _ _ _ og (hA _ aq)) rfl ⟨rfl,rfl⟩ (aW rfl rfl rfl (ah .h1 rfl ?_)));grind [aS,aR,bN,SS.CY,ax]
    ·try simp only[sb]at h4
     refine sd (ag (k+1) ?_ ?_ S3 (xq .h1));all_goals grind
   ·refine er .h1 ?_;grind [aS,aR,bN,JI,ax]
 ·have i0:=h1;apply gO;refine er .h1 ?_;grind [aS,aR,bN,SS.Hp,ax]
def VQ(b o:Nat)(s:SS)(n:Int):Spec Tryz.prog 132 [ay b o 0,iI n] [.cells b o 158 (aK s)] (fun v H1=>v=ax 102 (s.drop n).1/\H1=[.cells b o 158 (aK (s.drop n).2)]):=by
 refine Spec.go 52 [0,1,4,5,6,11,21,23,24,43] [] Tryz.func132 fun W=> ?_;refine ca (AO _ _ _ _) .h1 ?_;rintro _ _ (⟨h1,rfl,rfl⟩ | ⟨h1,rfl,rfl⟩)
 ·obtain⟨i0,i1,i2,i3⟩:=h1;apply gO;refine sp 15 rfl ?_ ?_<;>intro h2
  ·refine bL .h1 ?_;grind [aS,aR,bN,xZ,ax]
  ·refine ca (GS _ _ _ _ og aq) .h1 ?_;rintro _ _ ⟨pl,cl,rfl,rfl⟩;apply gO;refine cd ?_ ?_<;>intro h3
   ·refine bL (pk [1]) ?_;grind [aS,aR,bN,xZ,ax]
   ·refine lp (σ:=Int) (fun k=>(6-k).toNat) (fun k=>(0<=k/\k<=6)/\∀ j:Int,0<=j->j<k->¬(s.aa j=true/\s.aA j=n)) (fun k=>[(23,iI k),(0,ay b o 0),(1,iI n)]) (fun k=>XM W (bX [.cells b o 158 (aK s)]) [.cells b o 158 (aK s)]) (0) ?_ S3 (xq (pk [1])) ?_
    ·grind
    intro k hk;obtain⟨hk,BV⟩:=hk;apply gC;refine cd ?_ ?_<;>intro h4
    ·refine sd (ld .aa (kE _ _) ?_);refine P5 33 rfl ?_ ?_<;>intro h5
     ·try simp only[sb]at h5
      refine sd (ld .aa (lD _ _) ?_);refine cd ?_ ?_<;>intro h6
      ·refine bL .h1 ?_;grind [aS,aR,bN,JK,ax]
      ·refine sd (ag (k+1) ?_ ?_ S3 (xq .h1));all_goals grind
     ·try simp only[sb]at h5
      refine sd (ag (k+1) ?_ ?_ S3 (xq .h1));all_goals grind
    ·refine XO.v (V.build (vs:= #[]) rfl (v:=.agg r9) fun _=>kq) rfl (gO ?_);refine sd (fW .aa (Mi _ _ og) rfl ⟨rfl,rfl⟩ (aM rfl rfl (ah .h1 rfl ?_)));grind [aS,aR,bN,SS.Ya,ax]
 ·have i0:=h1;apply gO;refine bL .h1 ?_;grind [aS,aR,JJ,ax]
def VR:Spec Tryz.prog 96 [] [] (fun v H1=>∃ b,v=ay b 0 0/\H1=[.cells b 0 158 (aK SS.cP)]):=by
 refine Spec.go 20 [0,1,2,10,11] [] Tryz.func96 fun W=> ?_;refine XO.v (V.build (vs:= #[]) rfl (v:=.agg aaz) fun _=>kq) rfl (gO ?_);refine XO.box (m:=158) (C:=aK SS.zero) rfl rfl Qq rfl ?_;intro bs;apply gO;refine rq [0,2,3,1,4,5] mixed ?_;refine cq (vD _) .nil ?_;refine sd (fW .aa (CZ _ _ _ og fun _=>rfl) rfl ⟨rfl,rfl⟩ ?_);refine lp (σ:=Int) (fun k=>(20-k).toNat) (fun k=>0<=k/\k<=20) (fun k=>[(10,iI k),(1,ay bs 0 0)]) (fun k=>XM W (bX []) [.cells bs 0 158 (aK {SS.qm with loc:=E3 k})]) (0) ?_ S2 (fun _ hw=>by rw[T8];exact XM.pick .h1 hw) ?_
 ·omega
 intro k hk;apply gC;refine cd ?_ ?_<;>intro h1
 ·refine sd (st .aa (r8 _ _ og _) rfl (sd (ag (k+1) ?_ ?_ S2 fun _ hw=>by rw[<-JC k];exact XM.pick .h1 hw)));all_goals omega
 ·refine bL .h1 ?_;try dsimp only[aS,aR,bI,bN]
  grind [SS.cP]
def Ig(b o:Nat)(s:SS)(aV:Int->Nat)(hD:s.Deep aV)(n p:Int):Spec Tryz.prog 56 [ay b o 0,iI n,iI p] [.cells b o 158 (aK s)] (fun v H1=>v= .tuple #[iI (s.enter aV n p).1,ax 102 (s.enter aV n p).2.1]/\H1=[.cells b o 158 (aK (s.enter aV n p).2.2)]):=by
 refine Spec.go 77 [0,1,2,6,7,8,10,11,16,23,31,41,42,43,44,48,60] [] Tryz.func56 fun W=> ?_;refine ca (AO _ _ _ _) .h1 ?_;rintro _ _ (⟨h1,rfl,rfl⟩ | ⟨h1,rfl,rfl⟩)
 ·obtain⟨i0,i1,i2,i3⟩:=h1;apply gO;refine sp 20 rfl ?_ ?_<;>intro h2
  ·refine er .h1 ?_;grind [aS,aR,bN,ph,ax]
  ·refine cd ?_ ?_<;>intro h3
   ·refine er .h1 ?_;grind [aS,aR,bN,ph,ax]
   ·refine sd (ld .aa (r7 _ _) ?_);refine cd ?_ ?_<;>intro h4
    ·refine er .h1 ?_;grind [aS,aR,bN,uc,ax]
    ·refine sd (st .aa (r8 _ _ og _) rfl ?_);have hD1:({s with loc:=ad s.loc p n} :SS).Deep aV:=⟨hD.d⟩;have hay:=({s with loc:=ad s.loc p n} :SS).B0 aV n;have hdn:=(hD.d n i1 i2 i3).2.1;refine ca (acQ _ _ ({s with loc:=ad s.loc p n} :SS) aV hD1 n ⟨i1,i2,i3⟩) .h1 ?_;rintro _ _ ⟨pl,cl,rfl,rfl⟩;apply gO;refine lp (σ:=Int×(Int->Int->Int)) (fun x=>((({s with loc:=ad s.loc p n} :SS).cX aV n).length-x.1).toNat) (fun x=>(0<=x.1/\x.1<=(({s with loc:=ad s.loc p n} :SS).cX aV n).length)/\kO x.2 p ((({s with loc:=ad s.loc p n} :SS).cX aV n).drop x.1.toNat)=kO s.dE p (({s with loc:=ad s.loc p n} :SS).cX aV n)) (fun x=>[(43,iI x.1),(0,ay b o 0),(1,iI n),(2,iI p),(41,.slice pl (({s with loc:=ad s.loc p n} :SS).cX aV n).length cl),(42,iI (({s with loc:=ad s.loc p n} :SS).cX aV n).length)]) (fun x=>XM W (bX [.cells b o 158 (aK s)]) [dy pl cl 3 (({s with loc:=ad s.loc p n} :SS).cX aV n),.cells b o 158 (aK {s with loc:=ad s.loc p n,dE:=x.2})]) ((0,s.dE)) ?_ S6 (xq (pz 2)) ?_
     ·simp_all
     intro x hx;obtain⟨hx,hw⟩:=hx;apply gC;refine cd ?_ ?_<;>intro h5
     ·obtain⟨a0,a1,a2⟩:=FV hD1 (n:=n) ⟨i1,i2,i3⟩ (z:=x.1) ⟨hx.1,og⟩;apply bP .aa og;intro gA h6;subst h6;refine sd (zC .aa (ints_at) ?_);refine lp (σ:=Int) (fun k=>(21-k).toNat) (fun k=>(1<=k/\k<=21)/\∀ j:Int,1<=j->j<k->¬x.2 (gh (({s with loc:=ad s.loc p n} :SS).cX aV n) x.1) j<0) (fun k=>[(11,iI k),(0,ay b o 0),(1,iI n),(2,iI p),(10,iI (gh (({s with loc:=ad s.loc p n} :SS).cX aV n) x.1)),(41,.slice (some ⟨gA,0,none⟩) (({s with loc:=ad s.loc p n} :SS).cX aV n).length cl),(42,iI (({s with loc:=ad s.loc p n} :SS).cX aV n).length),(43,iI x.1)]) (fun k=>XM W (bX [.cells b o 158 (aK s)]) [dy (some ⟨gA,0,none⟩) cl 3 (({s with loc:=ad s.loc p n} :SS).cX aV n),.cells b o 158 (aK {s with loc:=ad s.loc p n,dE:=x.2})]) (1) ?_ (.cons rfl (.cons rfl S6)) (xq (pz 2)) ?_
      ·grind
      intro k hk;obtain⟨hk,BV⟩:=hk;apply gC;refine cd ?_ ?_<;>intro h7
      ·refine sd (sd (ld (.ao .aa) (lE _ _ _ og og IK) ?_));refine cd ?_ ?_<;>intro h8
       ·have rH:x.2 (gh (({s with loc:=ad s.loc p n} :SS).cX aV n) x.1) k<0:=h8;refine sd (sd (st (.ao .aa) (pW _ _ _ og og IK _) rfl (sd (ag ((x.1+1,cL x.2 (gh (({s with loc:=ad s.loc p n} :SS).cX aV n) x.1) k p)) ?_ ?_ S6 (xq (pz 2))))));all_goals grind [JN,kO,Qr]
       ·refine sd (ag (k+1) ?_ ?_ (.cons rfl (.cons rfl S6)) (xq (pz 2)));all_goals grind
      ·refine sd (ag ((x.1+1,x.2)) ?_ ?_ S6 (xq (pz 2)));all_goals grind [JN,kO,Qs]
     ·refine cq (O7 _ _ _ _ _) (pk [1]) ?_;refine er .h1 ?_;try dsimp only[aS,aR,bI,bN]
      have VS:x.1=(({s with loc:=ad s.loc p n} :SS).cX aV n).length:=og;have he:x.2=kO s.dE p (s.cX aV n):=by
       rw[VS]at hw;simp at hw;exact(show x.2=kO x.2 p []from rfl).trans (hw.trans (congrArg (kO s.dE p) (SS.pf (s:=s) (s':= {s with loc:=ad s.loc p n}) rfl _ _)))
      grind [SS.yb,SS.fu]
 ·have i0:=h1;apply gO;refine er .h1 ?_;grind [aS,aR,bN,ya,ax]
def Y9(b o:Nat)(s:SS)(aV:Int->Nat)(hD:s.Deep aV)(p:Int)(hl:0<=p->p<20->0<=s.loc p->s.loc p<6/\s.aa (s.loc p)=true)(hW:0<=p->∀ n q,s.dE n q=p->n∈s.cX aV (s.loc p)/\0<=q/\q<21):Spec Tryz.prog 131 [ay b o 0,iI p] [.cells b o 158 (aK s)] (fun v H1=>v=ax 102 (s.gx p).1/\H1=[.cells b o 158 (aK (s.gx p).2)]):=by
 refine Spec.go 57 [0,1,4,5,6,8,9,10,18,22,23,24,25,34,35,36,41] [] Tryz.func131 fun W=> ?_;refine ca (No _ _ _ _) .h1 ?_;rintro _ _ ⟨⟨rfl,vS⟩,rfl⟩;apply gO;refine cd ?_ ?_<;>intro h1
 ·refine bL .h1 ?_;grind [aS,aR,SS.gx]
 ·obtain⟨⟨p0,p20⟩,l0,hN⟩:=vS og;have W6:=hl p0 p20 l0;have QZ:0<=(s.bS p).1/\(s.bS p).1<6/\s.aa (s.bS p).1=true:=by rw[hN];exact⟨l0,W6.1,W6.2⟩
  have hay:=s.B0 aV (s.bS p).1;have hdn:=(hD.d _ QZ.1 QZ.2.1 QZ.2.2).2.1;refine ca (acQ _ _ s aV hD (s.bS p).1 QZ) .h1 ?_;rintro _ _ ⟨pl,cl,rfl,rfl⟩;apply gO;refine lp (σ:=Int×(Int->Int->Int)) (fun x=>((s.cX aV (s.bS p).1).length-x.1).toNat) (fun x=>(0<=x.1/\x.1<=(s.cX aV (s.bS p).1).length)/\x.2=Mj s.dE ((s.cX aV (s.bS p).1).take x.1.toNat) p) (fun x=>[(24,iI x.1),(0,ay b o 0),(1,iI p),(22,.slice pl (s.cX aV (s.bS p).1).length cl),(23,iI (s.cX aV (s.bS p).1).length)]) (fun x=>XM W (bX [.cells b o 158 (aK s)]) [dy pl cl 3 (s.cX aV (s.bS p).1),.cells b o 158 (aK {s with dE:=x.2})]) ((0,s.dE)) ?_ S5 (xq (pz 2)) ?_
  ·grind [T9]
  intro x hx;obtain⟨hx,hw⟩:=hx;apply gC;refine cd ?_ ?_<;>intro h2
  ·obtain⟨a0,a1,a2⟩:=FV hD (n:=(s.bS p).1) QZ (z:=x.1) ⟨hx.1,og⟩;apply bP .aa og;intro gA h3;subst h3;refine sd ?_;apply zC .aa (ints_at);refine sd ?_;apply lW (.ao .aa) (CV _ _ og aq);refine lp (σ:=Int) (fun k=>(21-k).toNat) (fun k=>0<=k/\k<=21) (fun k=>[(35,iI k),(0,ay b o 0),(1,iI p),(8,iI (gh (s.cX aV (s.bS p).1) x.1)),(22,.slice (some ⟨gA,0,none⟩) (s.cX aV (s.bS p).1).length cl),(23,iI (s.cX aV (s.bS p).1).length),(24,iI x.1),(34,.agg (wF (x.2 (gh (s.cX aV (s.bS p).1) x.1)) 21))]) (fun k=>XM W (bX [.cells b o 158 (aK s)]) [dy (some ⟨gA,0,none⟩) cl 3 (s.cX aV (s.bS p).1),.cells b o 158 (aK {s with dE:=BJ x.2 (gh (s.cX aV (s.bS p).1) x.1) p k})]) (0) ?_ (.cons rfl (.cons rfl S6)) (fun _ mw=>by rw[Qt];exact XM.pick (pz 2) mw) ?_
   ·omega
   intro k hk;apply gC;refine cd ?_ ?_<;>intro h4
   ·refine XO.v (lJ rfl rfl Tryz.underlying27 ot lq) rfl (gO ?_);refine cd ?_ ?_<;>intro h5
    ·refine sd ?_;refine sd ?_;apply st (.ao .aa) (pW _ _ _ og og IK _) rfl;refine sd ?_;refine ag (k+1) ?_ ?_ (.cons rfl (.cons rfl S6)) fun _ mw=>by first | (rw[<-JO og aq];exact XM.pick (pz 2) mw) | (rw[<-FW aq];exact XM.pick (pz 2) mw)
     all_goals omega
    ·refine sd ?_;refine ag (k+1) ?_ ?_ (.cons rfl (.cons rfl S6)) fun _ mw=>by first | (rw[<-JO og aq];exact XM.pick (pz 2) mw) | (rw[<-FW aq];exact XM.pick (pz 2) mw)
     all_goals omega
   ·obtain rfl:k=21:=og;refine sd ?_;refine ag ((x.1+1,BJ x.2 (gh (s.cX aV (s.bS p).1) x.1) p 21)) ?_ ?_ S5 (xq (pz 2));all_goals grind [Qu]
  ·refine sd ?_;apply st (.ao .aa) (r8 _ _ og _) rfl;refine bL (pk [1]) ?_;try dsimp only[aS,aR,bI,bN]
   have VS:x.1=(s.cX aV (s.bS p).1).length:=og;rw[VS]at hw;simp at hw;have hv:s.gx p=(0,s.left p):=by unfold SS.gx;rw[if_neg og]
   rw[hv];unfold SS.left;rw[<-Ua (l:=(s.cX aV (s.bS p).1)) (by rw[hN];exact hW p0),<-hw];grind [ax]
end Go.X.Sp

namespace Go.X.Kn
open Go Go.Proofs Go.X
set_option maxRecDepth 20000
set_option maxHeartbeats 4000000
def aaW:dc Tryz.prog 52=true:=kq
def afM:dc Tryz.prog 62=true:=kq
def afN:dc Tryz.prog 66=true:=kq
def K8:eK Tryz.prog 101 2=some 441:=kq
def aaX:jU Tryz.prog 92=true:=kq
def ek(kb:Nat)(k:KP)(n:Int):Spec Tryz.prog 49 [ay kb 0 0,iI n] [.cells kb 0 453 (aD k)] (fun v H1=>((k.aB n=0/\v= .tuple #[ay kb 0 (0+0+n.toNat*22),.nilIface])\/(k.aB n≠0/\v= .tuple #[.pointer none,.iface 102 (iI (k.aB n))]))/\H1=[.cells kb 0 453 (aD k)]):=by
 refine Spec.go 27 [0,1,4,5,11,20] [] Tryz.func49 fun W=> ?_;refine sp 8 rfl ?_ ?_<;>intro h1
 ·refine er .h1 ?_;grind [aS,aR,bN,KP.aB]
 ·refine cd ?_ ?_<;>intro h2
  ·refine er .h1 ?_;grind [aS,aR,bN,KP.aB]
  ·refine sd (ld .aa (gB _) ?_);refine cd ?_ ?_<;>intro h3
   ·refine er .h1 ?_;grind [aS,aR,bN,KP.aB]
   ·refine sd (aW rfl rfl rfl (ah .h1 rfl ?_));grind [aS,aR,bN,KP.aB]
def jT(kb:Nat)(k:KP)(s:Sp.SS)(n:Int):Spec Tryz.prog 52 [ay kb 0 0,iI n] [.cells kb 0 453 (aD k),.cells k.sb 0 158 (Sp.aK s)] (fun v H1=>v=iI (s.bS n).1/\H1=[.cells kb 0 453 (aD k),.cells k.sb 0 158 (Sp.aK s)]):=by
 refine Spec.go 17 [0,1,4,5] [] Tryz.func52 fun W=> ?_;apply ld .aa (aD.uk _);refine ca (Sp.No _ _ s _) (pk [1]) ?_;rintro _ _ ⟨⟨rfl,hof⟩,rfl⟩;apply gO;refine bL (pk [1,0]) ?_;grind [aS,aR]
def AP(kb:Nat)(k:KP)(s:Sp.SS)(z:Int):Spec Tryz.prog 104 [ay kb 0 0,iI z] [.cells kb 0 453 (aD k),.cells k.sb 0 158 (Sp.aK s)] (fun v H1=>v=iI (s.find z 1).1/\H1=[.cells kb 0 453 (aD k),.cells k.sb 0 158 (Sp.aK s)]):=by
 refine Spec.go 17 [0,1,4,5] [] Tryz.func104 fun W=> ?_;apply ld .aa (aD.uk _);refine cq (Sp.xy _ _ s _ _) (pk [1]) ?_;refine bL (pk [1,0]) ?_;grind [aS,aR]
def afO(kb:Nat)(k:KP)(s:Sp.SS)(aV:Int->Nat)(hI:s.Inv aV)(n q:Int):Spec Tryz.prog 18 [ay kb 0 0,iI n,iI q] [.cells kb 0 453 (aD k),.cells k.sb 0 158 (Sp.aK s)] (fun v H1=>v= .tuple #[iI (k.Ga s n q).1,ax 102 (k.Ga s n q).2]/\H1=[.cells kb 0 453 (aD k),.cells k.sb 0 158 (Sp.aK s)]):=by
 refine Spec.go 45 [0,1,2,6,7,9,10,18,33,42] [] Tryz.func18 fun W=> ?_;refine ca (ek kb _ _) .h1 ?_;rintro _ _ ⟨⟨hl,rfl⟩ | ⟨hl,rfl⟩,rfl⟩
 ·obtain⟨jx,gn⟩:=bE hl;apply gO;refine XC.im mixed (f:=14) (l:= #[qF,qF,qF,qF,qF,qF,qF,qF,qF,qF,qF,qF,qF,qF]) rfl rfl XM.kN (XQ.pv (i:=0) rfl kq rfl (V.move rfl) rfl rfl (XQ.pv (i:=1) rfl kq rfl (bB rfl) rfl rfl (XQ.pv (i:=2) rfl kq rfl (V.fieldAddr rfl K8) rfl rfl (XQ.load (i:=3) (.cells _ _ _ _) [8] rfl kq rfl .aa (V.load rfl eh (aD.uk _) aaX) rfl kq rfl (XQ.pv (i:=4) rfl kq rfl (V.move rfl) rfl rfl (XQ.pv (i:=5) rfl kq rfl (V.move rfl) rfl rfl (XQ.pv (i:=7) rfl kq rfl (V.move rfl) rfl rfl (XQ.call (i:=6) rfl kq rfl rfl (jT kb _ s n) (pz 2) aaW rfl (by rintro _ _ ⟨rfl,rfl⟩;all_goals(intro _ dZ;exact⟨fun _=>fb .aa _ dZ,trivial⟩)) ?_))))))));rintro _ _ ⟨rfl,rfl⟩;apply XQ.call (i:=8) rfl kq rfl rfl (Sp.xy _ _ s _ _) (pk [1]) afN rfl (by rintro _ _ ⟨rfl,rfl⟩;all_goals(intro _ dZ;exact⟨fun hs=>(hs 8 b8 rfl).elim,trivial⟩));rintro _ _ ⟨rfl,rfl⟩;refine XQ.pv (i:=9) rfl kq rfl (V.move rfl) rfl rfl (XQ.pv (i:=10) rfl kq rfl (V.extract rfl rfl) rfl rfl (XQ.pv (i:=11) rfl kq rfl (V.extract rfl rfl) rfl rfl (XQ.pv (i:=12) rfl kq rfl (V.assign rfl) rfl rfl (XQ.pv (i:=13) rfl kq rfl (V.assign rfl) rfl rfl (XQ.done kq (gE ?_))))));refine cd ?_ ?_<;>intro h1
  ·have e:k.Ga s n q=(0,(s.find (s.bS n).1 q).2):=by unfold KP.Ga;rw[if_neg og,if_pos og]
   refine er (pk [1,0]) ?_;grind [aS,aR,bN]
  ·have hf:(s.find (s.bS n).1 q).2=0:=og;have hfr:=Bl hI hf;refine sd (ld (.ao .aa) (gB _) ?_);refine cd ?_ ?_<;>intro h2
   ·refine er (pk [1,0]) ?_;grind [aS,aR,bN,KP.Ga,ax]
   ·refine er (pk [1,0]) ?_;grind [aS,aR,bN,KP.Ga,ax]
 ·apply gO;refine er (pz 2) ?_;grind [aS,aR,bN,KP.Ga,ax]
end Go.X.Kn

namespace Go.X.Sg
open Go Go.Proofs Go.X
set_option maxRecDepth 20000
set_option maxHeartbeats 4000000
def acS:vP Tryz.prog 256=some (32,1):=kq
def zj(n:Int):Spec Tryz.prog 141 [iI n] [] (fun v H1=>((1<=n/\n<=8)/\v= .nilIface/\H1=[])\/((n<1\/n>8)/\v= .iface 102 (iI 1)/\H1=[])):=by
 refine Spec.go 10 [0,2,8] [] Tryz.func141 fun W=> ?_;refine sp 5 rfl ?_ ?_<;>intro h1
 ·refine bL .nil ?_;grind [aS,aR,bN]
 ·refine cd ?_ ?_<;>intro h2
  ·refine bL .nil ?_;grind [aS,aR,bN]
  ·refine bL .nil ?_;grind [aS,aR,bN]
def VT(b o:Nat)(s:BS)(n:Int)(hn:1<=n/\n<=8:=by omega):Spec Tryz.prog 142 [ay b o 0,iI n] [.cells b o 11 (fF s)] (fun v H1=>v=iI (s.zR n)/\H1=[.cells b o 11 (fF s)]):=by
 refine Spec.go 22 [0,1,4,15] [] Tryz.func142 fun W=> ?_;refine sp 7 rfl ?_ ?_<;>intro h1
 ·refine sd (ld .aa (ni _ _) ?_);refine cd ?_ ?_<;>intro h2
  ·refine bL .h1 ?_;grind [aS,aR,bN,BS.zR]
  ·refine sd (ld .aa (ni _ _) (aM rfl rfl (ah .h1 rfl ?_)));grind [aS,aR,BS.zR]
 ·refine sd (ld .aa (ni _ _) (aM rfl rfl (ah .h1 rfl ?_)));grind [aS,aR,BS.zR]
def VU(b o:Nat)(s:BS)(n:Int):Spec Tryz.prog 138 [ay b o 0,iI n] [.cells b o 11 (fF s)] (fun v H1=>v=ax 102 (s.send n).1/\H1=[.cells b o 11 (fF (s.send n).2)]):=by
 refine Spec.go 26 [0,1,4,5,15] [] Tryz.func138 fun W=> ?_;refine ca (zj _) .nil ?_;rintro _ _ (⟨h1,rfl,rfl⟩ | ⟨h1,rfl,rfl⟩)
 ·apply gO;refine cq (VT _ _ _ _) .h1 ?_;refine cd ?_ ?_<;>intro h2
  ·refine rq [0,1,2,3,4,5,6,7,8,9] mixed (ld .aa (oz _) (XO.v (V.shl rfl rfl og _ (vh)) rfl (gO ?_)));refine XO.v (V.bits rfl rfl rfl (by first | exact jP _ | exact iZ og | (rw[IntKind.bits];omega)) (by first | exact jP _ | exact iZ og | (rw[IntKind.bits];omega)) rfl) rfl (gO ?_);refine st .aa (vi _ (Jz _)) rfl (aM rfl rfl (ah .h1 rfl ?_));grind [aS,aR,BS.X7,ax]
  ·refine bL .h1 ?_;grind [aS,aR,JA,ax]
 ·apply gO;refine bL .h1 ?_;grind [aS,aR,Me,ax]
def K9(b o:Nat)(s:BS)(n:Int):Spec Tryz.prog 75 [ay b o 0,iI n,.bool true] [.cells b o 11 (fF s)] (fun v H1=>v=ax 102 (s.ea n true).1/\H1=[.cells b o 11 (fF (s.ea n true).2)]):=by
 refine Spec.go 35 [0,1,2,6,7,11,14,25] [] Tryz.func75 fun W=> ?_;refine ca (zj _) .nil ?_;rintro _ _ (⟨h1,rfl,rfl⟩ | ⟨h1,rfl,rfl⟩)
 ·apply gO;refine cd ?_ ?_<;>intro h2
  ·refine bL .h1 ?_;grind [aS,aR,bN,ub,ax]
  ·refine rq [0,1,2,3,4,5,6,7,8,9] mixed (ld .aa (oA _) (XO.v (V.shl rfl rfl og _ (vh)) rfl (gO ?_)));refine XO.v (V.bits rfl rfl rfl (by first | exact jP _ | exact iZ og | (rw[IntKind.bits];omega)) (by first | exact jP _ | exact iZ og | (rw[IntKind.bits];omega)) rfl) rfl (gO ?_);refine st .aa (zS _ (r6 _)) rfl (rq [0,1,2,3,4,5,6,7,8,9] mixed (ld .aa (oA _) (XO.v (V.shl rfl rfl og _ (vh)) rfl (gO ?_))));refine XO.v (V.bits rfl rfl rfl (by first | exact jP _ | exact iZ og | (rw[IntKind.bits];omega)) (by first | exact jP _ | exact iZ og | (rw[IntKind.bits];omega)) rfl) rfl (gO ?_);refine st .aa (zS _ (Jz _)) rfl (aM rfl rfl (ah .h1 rfl ?_));first
   | (rw[wS og];exact⟨rfl,rfl⟩)
   | (rw[ub og];exact⟨rfl,rfl⟩)
   | (rw[BS.Oh og og];refine⟨rfl,?_⟩;first | rfl | exact congrArg (fun f=>[aG.cells b o 11 (fF {s with bj:=f})]) (by funext j;simp only[ad];split<;>rfl))
 ·apply gO;refine bL .h1 ?_;grind [aS,aR,wS,ax]
def Ih(b o:Nat)(s:BS)(n:Int):Spec Tryz.prog 75 [ay b o 0,iI n,.bool false] [.cells b o 11 (fF s)] (fun v H1=>v=ax 102 (s.ea n false).1/\H1=[.cells b o 11 (fF (s.ea n false).2)]):=by
 refine Spec.go 35 [0,1,2,6,7,11,14,25] [] Tryz.func75 fun W=> ?_;refine ca (zj _) .nil ?_;rintro _ _ (⟨h1,rfl,rfl⟩ | ⟨h1,rfl,rfl⟩)
 ·apply gO;refine cd ?_ ?_<;>intro h2
  ·refine bL .h1 ?_;grind [aS,aR,bN,ub,ax]
  ·refine rq [0,1,2,3,4,5,6,7,8,9] mixed (ld .aa (oA _) (XO.v (V.shl rfl rfl og _ (vh)) rfl (gO ?_)));refine XO.v (V.bits rfl rfl rfl (by first | exact jP _ | exact iZ og | (rw[IntKind.bits];omega)) (by first | exact jP _ | exact iZ og | (rw[IntKind.bits];omega)) rfl) rfl (gO ?_);refine st .aa (zS _ (r6 _)) rfl (aM rfl rfl (ah .h1 rfl ?_));grind [aS,aR,bN,BS.Oh,ax]
 ·apply gO;refine bL .h1 ?_;grind [aS,aR,wS,ax]
def afP(b o:Nat)(s:BS)(n h:Int):Spec Tryz.prog 73 [ay b o 0,iI n,iI h] [.cells b o 11 (fF s)] (fun v H1=>v=ax 102 (s.set n h).1/\H1=[.cells b o 11 (fF (s.set n h).2)]):=by
 refine Spec.go 42 [0,1,2,6,7,11,18,21,32] [] Tryz.func73 fun W=> ?_;refine ca (zj _) .nil ?_;rintro _ _ (⟨h1,rfl,rfl⟩ | ⟨h1,rfl,rfl⟩)
 ·apply gO;refine sp 15 rfl ?_ ?_<;>intro h2
  ·refine bL .h1 ?_;grind [aS,aR,bN,ax,BS.set]
  ·refine cd ?_ ?_<;>intro h3
   ·refine bL .h1 ?_;grind [aS,aR,bN,ax,BS.set]
   ·refine cd ?_ ?_<;>intro h4
    ·refine bL .h1 ?_;grind [aS,aR,bN,Mf,ax]
    ·refine sd (st .aa (E0 _ _ og _) rfl ?_);refine cq (VT _ _ _ _) .h1 ?_;refine cd ?_ ?_<;>intro h5
     ·refine rq [0,1,2,3,4,5,6,7,8,9] mixed (ld .aa (oz _) (XO.v (V.shl rfl rfl og _ (vh)) rfl (gO ?_)));refine XO.v (V.bits rfl rfl rfl (by first | exact jP _ | exact iZ og | (rw[IntKind.bits];omega)) (by first | exact jP _ | exact iZ og | (rw[IntKind.bits];omega)) rfl) rfl (gO ?_);refine st .aa (vi _ (r6 _)) rfl (aM rfl rfl (ah .h1 rfl ?_));grind [aS,aR,bN,BS.X8,ax]
     ·refine bL .h1 ?_;grind [aS,aR,bN,BS.ab4,ax]
 ·apply gO;refine bL .h1 ?_;grind [aS,aR,Qo,ax]
def ain(x t:Nat)(hx:x<65536)(ht:x.testBit t=true)(hl:∀ j,j<t->x.testBit j=false)(acT:t<16):Spec Tryz.prog 197 [.int .u16 (x:Int)] [.ro 0 0 32 dp] (fun v H1=>v=iI (t:Int)/\H1=[]):=by
 have rI:0<x:=by
  grind
 obtain⟨z1,z2,z3,z4,z5⟩:=afb acT;refine Spec.go 15 [0,2,4] [] Tryz.func197 fun W=> ?_;refine Hb rfl eW (XO.v (V.neg rfl _ (X5 ⟨rI,hx⟩)) rfl (gO ?_));refine XO.v (V.bits (r:=2^t) rfl rfl rfl hx (Nat.sub_lt dq rI) (congrArg some (NU (w:=16) ht hl hx acT))) rfl (gO ?_);refine XO.v (oI rfl Tryz.underlying84 Tryz.underlying257 _ z1) rfl (gO ?_);refine XO.v (V.mul rfl rfl _ z2) rfl (gO ?_);refine XO.v (V.shr rfl rfl og _ z3) rfl (gO ?_);refine XO.v (Fw rfl rfl acS og) rfl (gO ?_);refine XG .aa (Mc acT) (XO.v (oI rfl Tryz.underlying5 Tryz.underlying3 _ z5) rfl (gO ?_));refine bL .nil ?_;grind [aS,aR]
def O8(b o:Nat)(s:BS)(hz:s.dX 0=false)(h:Int):Spec Tryz.prog 146 [ay b o 0,iI h] [.cells b o 11 (fF s),.ro 0 0 32 dp] (fun v H1=>v= .tuple #[iI (s.first h),.bool (decide (s.first h≠0))]/\H1=[.cells b o 11 (fF s)]):=by
 refine Spec.go 34 [0,1,4,5,6,7,18,32] [] Tryz.func146 fun W=> ?_;refine rq [0,1,2,3,4,5,6,7,8,9] mixed ?_;apply ld .aa (oz _);apply ld .aa (oA _);refine XO.v (V.bits rfl rfl rfl (by first | exact jP _ | exact iZ og | (rw[IntKind.bits];omega)) (by first | exact jP _ | exact iZ og | (rw[IntKind.bits];omega)) rfl) rfl (gO ?_);refine lp (σ:=Nat×Nat) (fun x=>9-x.2) (fun x=>x.1<512/\x.2<=9/\(∀ j:Nat,x.1.testBit j=(decide (x.2<=j)&&(decide (j<9)&&s.dX j&& !s.bj j)))/\∀ j:Int,0<=j->j<x.2->¬(s.dX j=true/\s.bj j=false/\s.kf j=h)) (fun x=>[(6,.int .u16 (x.1:Int)),(0,ay b o 0),(1,iI h)]) (fun x=>XM W (bX [.cells b o 11 (fF s),.ro 0 0 32 dp]) [.cells b o 11 (fF s),.ro 0 0 32 dp]) ((lU (pM s.dX) (pM s.bj),0)) ?_ S3 (xq (pz 2)) ?_
 ·grind [S9,T4,qj,l6]
 intro x hx;obtain⟨ID,wE,Xd,hx4⟩:=hx;apply gC;refine cd ?_ ?_<;>intro h1
 ·have gY:x.1≠0:=og;obtain⟨t,ht,hl⟩:=Cw gY;have hb:=ht;rw[Xd]at hb;simp only[Bool.and_eq_true,decide_eq_true_eq,Bool.not_eq_true']at hb;obtain⟨hb1,⟨Cy,hb3⟩,hb4⟩:=hb;refine IE 0 (ain x.1 t og ht hl og) (pk [1]) rfl ?_;refine sd ?_;apply ld (.ao .aa) (ni _ _);refine cd ?_ ?_<;>intro h2
  ·refine er (pk [1]) ?_;try dsimp only[aS,aR,bI,bN]
   rw[E1 (k:=(t:Int)) og hb3 hb4 aq fun j h1 h2=> ?_]
   ·have ht0:(t:Int)≠0:=by
     grind
    simp_all
   ·by_cases q2:j<x.2
    ·simp_all
    ·have q4:=hl j.toNat og;rw[Xd,show((j.toNat:Nat):Int)=j from og]at q4;have q5:x.2<=j.toNat:=og;have q6:j.toNat<9:=og;simp_all
  ·refine XO.v (V.sub rfl rfl _ (X6 ⟨og,og⟩)) rfl (gO ?_);refine XO.v (V.bits rfl rfl rfl (show x.1<65536 by omega) (show x.1-1<65536 by omega) rfl) rfl (gO ?_);refine ag ((x.1&&&(x.1-1),t+1)) ?_ ?_ S3 (xq (pk [1,0]))
   ·omega
   ·refine⟨Nat.lt_of_le_of_lt Nat.and_le_left ID,eW,fun j=> ?_,fun j h1 h2=> ?_⟩
    ·show(x.1&&&(x.1-1)).testBit j=_;rw[PY ht hl,Xd];by_cases q1:j<t
     ·grind
     ·by_cases q2:j=t
      ·simp_all
      ·have q3:t+1<=j:=og;have q4:x.2<=j:=og;simp_all
    ·by_cases q1:j=t
     ·simp_all
     ·by_cases q2:j<x.2
      ·simp_all
      ·have q3:j<t:=by simp at h2;omega
       have q4:=hl j.toNat og;rw[Xd,show((j.toNat:Nat):Int)=j from og]at q4;have q5:x.2<=j.toNat:=og;have q6:j.toNat<9:=og;simp_all
 ·refine er .h1 ?_;try dsimp only[aS,aR,bI,bN]
  have rI:x.1=0:=og;rw[E2 fun j h1 h2=> ?_]
  ·simp_all
  ·by_cases q2:j<x.2
   ·simp_all
   ·have q4:=Xd j.toNat;rw[rI,show((j.toNat:Nat):Int)=j from og]at q4;simp_all
def Em(b o:Nat)(s:BS)(hz:s.dX 0=false):Spec Tryz.prog 143 [ay b o 0] [.cells b o 11 (fF s),.ro 0 0 32 dp] (fun v H1=>v= .tuple #[iI (s.first 0),.bool (decide (s.first 0≠0))]/\H1=[.cells b o 11 (fF s)]):=by
 refine Spec.go 8 [0,2,3] [] Tryz.func143 fun W=> ?_;refine IE 1 (O8 _ _ _ hz _) (pz 2) rfl ?_;refine er .h1 ?_;grind [aS,aR]
def acU(b o:Nat)(s:BS)(hz:s.dX 0=false):Spec Tryz.prog 77 [ay b o 0] [.cells b o 11 (fF s),.ro 0 0 32 dp] (fun v H1=>v= .tuple #[iI s.take.1,.bool (decide (s.take.1≠0))]/\H1=[.cells b o 11 (fF s.take.2)]):=by
 have hc:=s.ua 2 hz;refine Spec.go 23 [0,2,3,4,5,11] [] Tryz.func77 fun W=> ?_;refine IE 1 (O8 _ _ _ hz _) (pz 2) rfl ?_;refine cd ?_ ?_<;>intro h1
 ·refine rq [0,1,2,3,4,5,6,7,8,9] mixed (ld .aa (oz _) (XO.v (V.shl rfl rfl og _ (vh)) rfl (gO ?_)));refine XO.v (V.bits rfl rfl rfl (by first | exact jP _ | exact iZ og | (rw[IntKind.bits];omega)) (by first | exact jP _ | exact iZ og | (rw[IntKind.bits];omega)) rfl) rfl (gO ?_);refine st .aa (vi _ (r6 _)) rfl (aW rfl rfl rfl (ah .h1 rfl ?_));grind [aS,aR,BS.take]
 ·refine er .h1 ?_;grind [aS,aR,Hm]
end Go.X.Sg

namespace Go.X.Gr
open Go Go.RowKit Go.Proofs Go.X
def En:vP Tryz.prog 67=some (10,5):=kq
def pH:eK Tryz.prog 151 0=some 0:=kq
def Za:eK Tryz.prog 66 0=some 0:=kq
def lq:jU Tryz.prog 3=true:=kq
def Eo:jU Tryz.prog 91=true:=kq
def rB(p o b1 b2:Nat)(n:Int)(aA:Int->Int):List (Addr×Value):=
 (⟨b1,0,none⟩,iI n)::(⟨b2,0,none⟩,ay p o 0)::(List.range 10).map (fun k=>(⟨p,o+(0+0+k*5+0),none⟩,iI (aA (k:Int))))
def lr{p o b1 b2:Nat}{n:Int}{aA:Int->Int}{s':TG}(hp:s'.aA=aA){H:List aG}{w:World}(hg:Go.X.Good H w)(h1:lu H (.cells b1 0 1 (aF (iI n))))(h2:lu H (.cells b2 0 1 (aF (ay p o 0))))(h3:lu H (.cells p o 60 (bD s'))):∀ y∈rB p o b1 b2 n aA,w.cell? y.1=some y.2:=fun y hy=>by
 simp only[rB,List.mem_cons,List.mem_map,List.mem_range]at hy;rcases hy with rfl | rfl | ⟨k,hk,rfl⟩
 ·exact ef (i:=0) (hg.1 _ h1.mem)
 ·exact ef (i:=0) (hg.1 _ h2.mem)
 ·have h4:=ef (hg.1 _ h3.mem) (gm s' (k:Int)).1;simp_all[bD]
def RM{p o b1 b2:Nat}{n:Int}{aA:Int->Int}{w:World}(h:∀ y∈rB p o b1 b2 n aA,w.cell? y.1=some y.2){z:Int}(h0:0<=z/\z<10):w.cell? ⟨p,o+(0+0+z.toNat*5+0),none⟩=some (iI (aA z)):=by
 have:=h (⟨p,o+(0+0+z.toNat*5+0),none⟩,iI (aA (z.toNat:Int))) (by
  simp only[rB,List.mem_cons,List.mem_map,List.mem_range]
  exact .inr (.inr ⟨z.toNat,og,rfl⟩))
 rw[show((z.toNat:Nat):Int)=z from og]at this;exact this
set_option maxHeartbeats 1000000 in def uR(p o b1 b2:Nat)(n:Int)(aA:Int->Int)(xs:List Qv)(kY:lK aA n (mB xs))(w:World)(hR:∀ y∈rB p o b1 b2 n aA,w.cell? y.1=some y.2):SeqStopsK Fence.wide 2 Tryz.prog 184 #[ay b1 0 0,ay b2 0 0] (fun x:Qv=> #[iI x.1]) (Sn (rB p o b1 b2 n aA)) (· =xs) (· <+:xs) xs.length w:=by
 intro l J Jx W hW hJ hJx hY h0;have hR0:∀ y∈rB p o b1 b2 n aA,W.cell? y.1=some y.2:=fun y hy=>by
  rw[hW.cell (Xv (hR y hy))];exact hR y hy
 have e:(#[.func (.yield l) #[] #[]]++ #[ay b1 0 0,ay b2 0 0]:Array Value)=[.func (.yield l) #[] #[],ay b1 0 0,ay b2 0 0].toArray:=rfl;rw[e];refine callsIn_wide.2 (enter (ps:=[]) (cs:=[]) (M:=fun w=>J [] w/\∀ y∈rB p o b1 b2 n aA,w.cell? y.1=some y.2) Tryz.func184 rfl rfl ?_ ⟨h0,hR0⟩);apply XC.seq;apply XC.region;apply XO.l (wK (b:=b1) (o:=0) (v:=iI n) rfl (fun w hw=>hw.2 (⟨b1,0,none⟩,iI n) (by simp[rB])) lq) rfl;apply XO.v (V.assign rfl) rfl;apply XO.nil;apply XE.next;apply XC.fE [(0,_),(2,_),(4,_)] (Sub.cons rfl (Sub.cons rfl (Sub.cons rfl (Sub.nil _))));apply XC.block;apply XC.loop (σ:=List Qv×List Qv×Int) (fun x=>x.2.1.length) (fun x=>x.1++x.2.1=xs/\lK aA x.2.2 (mB x.2.1)) (fun x=>[(0,.func (.yield l) #[] #[]),(2,ay b2 0 0),(4,iI x.2.2)]) (fun x w=>J x.1 w/\∀ y∈rB p o b1 b2 n aA,w.cell? y.1=some y.2) ([],xs,n) ⟨rfl,kY⟩ (Sub.cons rfl (Sub.cons rfl (Sub.cons rfl (Sub.nil _)))) fun _ hw=>hw;rintro⟨pre,rest,q⟩ ⟨hx,hq⟩;apply XC.seq;apply XC.seq;apply XC.region;apply XO.v (V.move rfl) rfl;apply XO.v (SL rfl rfl rfl) rfl;apply XO.nil;apply XE.next;refine XC.NM rfl (fun LD=> ?_) fun LD=> ?_
 ·have LF:q>=0:=LD;match rest,hq with
  | [],hq=>exact absurd hq (by show ¬q<0;omega)
  | x::rest,hq=>
   obtain⟨e1,e2,e3,e4⟩:=hq;have e1':x.1=q:=e1;subst e1';apply XC.skip;apply XE.next;apply XC.fE [(0,_),(2,_),(4,_)] (Sub.cons rfl (Sub.cons rfl (Sub.cons rfl (Sub.nil _))));apply XC.seq;apply XC.block;apply XC.seq;apply LP;apply XI.v (V.move rfl) rfl;apply XI.v (V.move rfl) rfl;refine XI.yield (R:=fun e w'=>(e= .returned (.bool true)/\J (pre++[x]) w'/\∀ y∈rB p o b1 b2 n aA,w'.cell? y.1=some y.2)\/(e= .returned (.bool false)/\Jx (pre++[x]) w')) rfl rfl (fun w hw=>YieldAt.weak (hY pre x w hw.1 (by rw[<-hx];simp)) fun e w' h=> ?_) rfl fun e w' h=> ?_
   ·rcases h with⟨h1,h2,h3⟩ | h
    ·exact .inl ⟨h1,h2,fun y hy=>h3 y hy (hw.2 y hy)⟩
    ·exact .inr h
   ·rcases h with⟨rfl,h2⟩ | ⟨rfl,h2⟩
    ·refine⟨true,rfl,?_⟩;apply XI.v (V.not rfl) rfl;apply XI.nil;apply XE.next;apply Cn rfl rfl;apply XC.skip;apply gG;apply XE.next;apply XC.fE [(0,_),(2,_),(4,_)] (Sub.cons rfl (Sub.cons rfl (Sub.cons rfl (Sub.nil _))));refine XC.mono (M':=fun w'=>J (pre++[x]) w'/\∀ y∈rB p o b1 b2 n aA,w'.cell? y.1=some y.2) (fun w' dZ=>by
      rcases dZ with⟨_,h⟩ | ⟨h,_⟩
      ·exact h
      ·simp at h) ?_
     apply XC.region;apply XO.l (wK (b:=b2) (o:=0) (v:=ay p o 0) rfl (fun w hw=>hw.2 (⟨b2,0,none⟩,ay p o 0) (by simp[rB])) Eo) rfl;apply XO.v (V.move rfl) rfl;apply XO.v (bB rfl) rfl;apply XO.v (V.fieldAddr rfl pH) rfl;apply XO.v (jh rfl rfl En ⟨e2,e3⟩) rfl;apply XO.v (V.fieldAddr rfl Za) rfl;apply XO.l (wK rfl (fun w hw=>RM hw.2 ⟨e2,e3⟩) lq) rfl;apply XO.v (V.assign rfl) rfl;apply XO.nil;refine XE.again (pre++[x],rest,aA x.1) sq ⟨by rw[<-hx];simp,e4⟩ (Sub.cons rfl (Sub.cons rfl (Sub.cons rfl (Sub.nil _)))) fun _ hw=>hw
    ·refine⟨false,rfl,?_⟩;apply XI.v (V.not rfl) rfl;apply XI.nil;apply XE.next;apply Cm rfl rfl;apply XC.ret;apply lI;apply rJ;apply rJ;apply lI;refine NN rfl fun w' dZ=>⟨⟨_,rfl⟩,.inr ⟨pre++[x],?_,?_⟩⟩
     ·exact⟨rest,by rw[<-hx];simp⟩
     ·rcases dZ with⟨h,_⟩ | ⟨_,h⟩
      ·simp at h
      ·exact h
 ·apply XC.exit;apply pP;apply pP;apply xB;refine cY rfl fun w' dZ=>⟨⟨_,rfl⟩,.inl ⟨pre,?_,dZ.1⟩⟩;match rest,hq with
  | [],_=>rw[<-hx];simp
  | x::rest,hq=>
   have LF:¬q>=0:=LD;exact absurd hq.2.1 LF
end Go.X.Gr

namespace Go.X.Gr
open Go Go.Proofs Go.X
set_option maxRecDepth 20000
set_option maxHeartbeats 4000000
def Ep:dc Tryz.prog 184=true:=kq
def ot:fp Tryz.prog 3=some 1:=kq
def Ii(p o:Nat)(s:TG)(n:Int):Spec Tryz.prog 113 [ay p o 0,iI n] [.cells p o 60 (bD s)] (fun v H1=>((s.cC n=0/\0<=n/\n<10/\s.aa n=true)/\v= .nilIface/\H1=[.cells p o 60 (bD s)])\/(s.cC n≠0/\v= .iface 102 (iI (s.cC n))/\H1=[.cells p o 60 (bD s)])):=by
 refine Spec.go 20 [0,1,4,10,18] [] Tryz.func113 fun W=> ?_;refine sp 7 rfl ?_ ?_<;>intro h1
 ·refine bL .h1 ?_;try dsimp only[aS,aR,bI,bN]
  have e:s.cC n=1:=by unfold TG.cC;rw[if_pos og]
  simp_all
 ·refine cd ?_ ?_<;>intro h2
  ·refine bL .h1 ?_;try dsimp only[aS,aR,bI,bN]
   have e:s.cC n=1:=by unfold TG.cC;rw[if_pos og]
   simp_all
  ·refine sd (ld .aa (BK _ _ og) ?_);refine wM ?_ ?_<;>intro h3
   ·try simp only[sb]at h3
    refine bL .h1 ?_;try dsimp only[aS,aR,bI,bN]
    have e:s.cC n=2:=by unfold TG.cC;rw[if_neg og,if_neg iV]
    simp_all
   ·try simp only[sb]at h3
    refine bL .h1 ?_;try dsimp only[aS,aR,bI,bN]
    have e:s.cC n=0:=by unfold TG.cC;rw[if_neg og,if_pos iV]
    simp_all
def Er(q m:Int):Spec Tryz.prog 114 [iI q,iI m] [] (fun v H1=>((0<=q/\q<=20/\0<=m/\m<=64)/\v= .nilIface/\H1=[])\/(TG.W8 q m=1/\v= .iface 102 (iI 1)/\H1=[])):=by
 refine Spec.go 20 [0,1,4,18] [] Tryz.func114 fun W=> ?_;refine sp 7 rfl ?_ ?_<;>intro h1
 ·refine bL .nil ?_;first
  | exact .inr ⟨by unfold TG.W8;rw[if_pos og],rfl,rfl⟩
  | exact .inl ⟨og,rfl,rfl⟩
 ·refine sp 11 rfl ?_ ?_<;>intro h2
  ·refine bL .nil ?_;first
   | exact .inr ⟨by unfold TG.W8;rw[if_pos og],rfl,rfl⟩
   | exact .inl ⟨og,rfl,rfl⟩
  ·refine sp 15 rfl ?_ ?_<;>intro h3
   ·refine bL .nil ?_;first
    | exact .inr ⟨by unfold TG.W8;rw[if_pos og],rfl,rfl⟩
    | exact .inl ⟨og,rfl,rfl⟩
   ·refine cd ?_ ?_<;>intro h4
    ·refine bL .nil ?_;first
     | exact .inr ⟨by unfold TG.W8;rw[if_pos og],rfl,rfl⟩
     | exact .inl ⟨og,rfl,rfl⟩
    ·refine bL .nil ?_;grind [aS,aR,bN]
def VV(g:GV)(q m:Int)(h0: -9223372036854775808<=g.pr+q/\g.pr+q<=9223372036854775807)(h1: -9223372036854775808<=g.pg+m/\g.pg+m<=9223372036854775807):Spec Tryz.prog 116 [.agg g.cF,iI q,iI m] [] (fun v H1=>v= .bool (g.room q m)/\H1=[]):=by
 refine Spec.go 41 [1,2,3,6] [] Tryz.func116 fun W=> ?_;refine XO.box (m:=5) (C:=ny g) rfl rfl (q8 g) rfl ?_;intro bg;apply gO;refine sp 9 rfl ?_ ?_<;>intro h1
 ·refine sp 26 rfl ?_ ?_<;>intro h2
  ·refine bL .nil ?_;grind [aS,aR,bN,GV.room]
  ·apply ld .aa (db _);refine sp 31 rfl ?_ ?_<;>intro h3
   ·refine bL .nil ?_;grind [aS,aR,bN,GV.room]
   ·apply ld .aa (fl _);refine sd ?_;apply ld .aa (db _);refine bL .nil ?_;grind [aS,aR,GV.room]
 ·apply ld .aa (kF _);refine sp 14 rfl ?_ ?_<;>intro h4
  ·refine sp 26 rfl ?_ ?_<;>intro h5
   ·refine bL .nil ?_;grind [aS,aR,bN,GV.room]
   ·apply ld .aa (db _);refine sp 31 rfl ?_ ?_<;>intro h6
    ·refine bL .nil ?_;grind [aS,aR,bN,GV.room]
    ·apply ld .aa (fl _);refine sd ?_;apply ld .aa (db _);refine bL .nil ?_;grind [aS,aR,GV.room]
  ·apply ld .aa (kZ _);refine sd ?_;apply ld .aa (kF _);refine sp 23 rfl ?_ ?_<;>intro h7
   ·refine sp 26 rfl ?_ ?_<;>intro h8
    ·refine bL .nil ?_;grind [aS,aR,bN,GV.room]
    ·apply ld .aa (db _);refine sp 31 rfl ?_ ?_<;>intro h9
     ·refine bL .nil ?_;grind [aS,aR,bN,GV.room]
     ·apply ld .aa (fl _);refine sd ?_;apply ld .aa (db _);refine bL .nil ?_;grind [aS,aR,GV.room]
   ·refine bL .nil ?_;grind [aS,aR,bN,GV.room]
def Es(p o:Nat)(n:Int):Spec Tryz.prog 115 [ay p o 0,iI n] [] (fun v H1=>∃ b1 b2,v= .func (.func 184) #[] #[ay b1 0 0,ay b2 0 0]/\H1=[.cells b1 0 1 (aF (iI n)),.cells b2 0 1 (aF (ay p o 0))]):=by
 refine Spec.go 6 [2,3,4] [] Tryz.func115 fun W=> ?_;apply XO.box (m:=1) (C:=aF (ay p o 0)) rfl rfl (fun _ _=>rfl) rfl;intro b2;apply gO;apply XO.box (m:=1) (C:=aF (iI n)) rfl rfl (fun _ _=>rfl) rfl;intro b1;apply gO;apply XO.v (pS rfl rfl) rfl;apply gO;refine bL (pz 2) ?_;grind [aS,aR]
def acV(p o:Nat)(s:TG)(hO:s.Ok)(n:Int)(hn:0<=n/\n<10/\s.aa n=true):Spec Tryz.prog 203 [ay p o 0,iI n] [.cells p o 60 (bD s)] (fun v H1=>v=iI ((s.cX n).length:Int)/\H1=[.cells p o 60 (bD s)]):=by
 have kY:=hO.cX hn.1 hn.2.1 hn.2.2;obtain⟨xs,Lu⟩:=qZ _ kY.1.range;have O9:xs.length<=4:=by
  grind [mB]
 refine tM 13 [0,1,4,5,8] [] Tryz.func203 rfl rfl rfl ?_;intro W;refine XO.bG (z:=iI 0) (m:=1) (C:=aF (iI 0)) (fun _ _=>rfl) ?_;intro bk;refine gO ?_;refine st .aa (aF.st _ _) rfl ?_;refine ca (Es _ _ _) .nil ?_;rintro _ _ ⟨b1,b2,rfl,rfl⟩;refine gO ?_;refine P1 (xs:=xs) (fun x:Qv=>iI x.1) (fun pre=>pre.length<=xs.length) (fun _=>False) (fun pre=>[.cells b1 0 1 (aF (iI n)),.cells b2 0 1 (aF (ay p o 0)),.cells p o 60 (bD s),.cells bk 0 1 (aF (iI (pre.length:Int)))]) (fun pre=>[.cells b1 0 1 (aF (iI n)),.cells b2 0 1 (aF (ay p o 0)),.cells p o 60 (bD s),.cells bk 0 1 (aF (iI (pre.length:Int)))]) rfl (nw Ep) rfl (fun w hw=>uR p o b1 b2 n s.aA xs (by rw[Lu];exact kY.1) w (lr (by rfl) hw.fa .aa (.ao .aa) (.t3 .aa))) ?_ (xq (pk [0,0,1,0])) (fun _=>rfl) (fun _=>rfl) ?_ ?_ ?_
 ·simp_all
 ·intro pre x w hV hlen hx;refine XB.block ?_;refine XB.region ?_;refine XO.l (V.load rfl (fb (.t3 .aa)) (aF.ld _) lq) rfl ?_;refine XO.v (V.add rfl rfl _ (IntWalk.i64_in _ og)) rfl ?_;refine XO.store rfl rfl (.t3 .aa) (aF.st _ _) rfl ot ?_;refine XO.nil ?_;refine gG ?_;refine xF hx ?_ rfl (fun w2 hg=>lr (by rfl) hg .aa (.ao .aa) (.t2 .aa)) fun w2 mw=> ?_;all_goals grind
 ·intro hV D hD;refine gE ?_;refine ld (.t4 .aa) (aF.ld _) ?_;refine nu (.inr rfl) .aa rfl hD ?_;refine bL (pk [2]) ?_;grind [aS,aR,mB]
 ·intro pre hp hV D hD;exact hV.elim
def GU:nT Tryz.prog 66=true:=kq
def VW:dc Tryz.prog 116=true:=kq
def Pb:eK Tryz.prog 66 3=some 3:=kq
def Pc:eK Tryz.prog 66 4=some 4:=kq
def Pd:jU Tryz.prog 33=true:=kq
def Fk:jU Tryz.prog 4=true:=kq
def Zb:fp Tryz.prog 33=some 1:=kq
def Et:fp Tryz.prog 4=some 1:=kq
def vE:fp Tryz.prog 66=some 5:=kq
def VX(p o:Nat)(s:TG)(hO:s.Ok)(n:Int)(hn:0<=n/\n<10/\s.aa n=true)(q m:Int)(hq: -20<=q/\q<=20)(hm: -64<=m/\m<=64)(Bd:Int)(hB:0<=Bd/\Bd<=1000000000000)(hS:s.bU Bd):Spec Tryz.prog 117 [ay p o 0,iI n,iI q,iI m] [.cells p o 60 (bD s)] (fun v H1=>v= .tuple #[]/\H1=[.cells p o 60 (bD (s.lay (s.cX n) q m))]):=by
 have kY:=hO.cX hn.1 hn.2.1 hn.2.2;obtain⟨xs,Lu⟩:=qZ _ kY.1.range;have O9:xs.length<=4:=by
  grind [mB]
 apply tM 39 [1,4,6,7,11] [] Tryz.func117 rfl rfl rfl;intro W;apply XO.box (m:=1) (C:=aF (ay p o 0)) rfl rfl (fun _ _=>rfl) rfl;intro bT;apply gO;apply XO.box (m:=1) (C:=aF (iI q)) rfl rfl (fun _ _=>rfl) rfl;intro bq;apply gO;apply XO.box (m:=1) (C:=aF (iI m)) rfl rfl (fun _ _=>rfl) rfl;intro bm;apply gO;apply ld (.t2 .aa) (aF.ld _);refine ca (Es _ _ _) .nil ?_;rintro _ _ ⟨b1,b2,rfl,rfl⟩;apply gO;refine uY (xs:=xs) (fun x:Qv=>iI x.1) (fun pre=>pre.length<=xs.length) (fun _=>False) (fun pre=>[.cells b1 0 1 (aF (iI n)),.cells b2 0 1 (aF (ay p o 0)),.cells p o 60 (bD (s.lay (mB pre) q m)),.cells bT 0 1 (aF (ay p o 0)),.cells bq 0 1 (aF (iI q)),.cells bm 0 1 (aF (iI m))]) (fun pre=>[.cells b1 0 1 (aF (iI n)),.cells b2 0 1 (aF (ay p o 0)),.cells p o 60 (bD (s.lay (mB pre) q m)),.cells bT 0 1 (aF (ay p o 0)),.cells bq 0 1 (aF (iI q)),.cells bm 0 1 (aF (iI m))]) rfl (nw Ep) rfl rfl (fun w hw=>uR p o b1 b2 n s.aA xs (by rw[Lu];exact kY.1) w (lr (by rfl) hw.fa .aa (.ao .aa) (.t5 .aa))) ?_ (fun _ hw=>by rw[show s.lay (mB []) q m=s from TG.Yh s q m];exact XM.pick (pk [0,0,3,2,1,0]) hw) (fun _=>rfl) (fun _=>rfl) ?_ ?_ ?_
 ·simp_all
 ·intro pre x w hV hlen hx;have hsm:=hS.lay (l:=mB pre) (by simp[mB];omega) hq hm x.1 x.2.1 x.2.2;obtain⟨x1,x2⟩:=x.2;refine XB.block (XB.seq (XB.im mixed (f:=14) (l:= #[qF,qF,qF,qF,qF,qF,qF,qF,qF,qF,qF,qF,qF,qF]) rfl rfl XM.kN (XQ.load (i:=0) (.cells _ _ _ _) [13] rfl kq rfl (.t3 .aa) (V.load rfl eh (aF.ld _) Eo) rfl kq rfl (XQ.pv (i:=1) rfl kq rfl (V.move rfl) rfl rfl (XQ.pv (i:=2) rfl kq rfl (bB rfl) rfl rfl (XQ.pv (i:=3) rfl kq rfl (V.fieldAddr rfl pH) rfl rfl (XQ.pv (i:=4) rfl kq rfl (jh rfl rfl En og) rfl rfl (XQ.pv (i:=5) rfl kq rfl (V.fieldAddr rfl Pb) rfl rfl (XQ.load (i:=6) (.cells _ _ _ _) [13] rfl kq rfl (.t2 .aa) (V.load rfl eh (fI _ _) lq) rfl kq rfl (XQ.load (i:=7) (.cells _ _ _ _) [13] rfl kq rfl (.t4 .aa) (V.load rfl eh (aF.ld _) lq) rfl kq rfl (XQ.pv (i:=8) rfl kq rfl (V.add rfl rfl _ (IntWalk.i64_in _ og)) rfl rfl (XQ.pv (i:=9) rfl kq rfl (bB rfl) rfl rfl (XQ.pv (i:=10) rfl kq rfl (V.fieldAddr rfl pH) rfl rfl (XQ.pv (i:=11) rfl kq rfl (jh rfl rfl En og) rfl rfl (XQ.pv (i:=12) rfl kq rfl (V.fieldAddr rfl Pb) rfl rfl (XQ.store (i:=13) rfl kq rfl rfl rfl (.t2 .aa) (wT _ _ og _) rfl ot (fun _ dZ=>⟨fun hs=>(hs 13 b8 rfl).elim,fun hs=>(hs 13 b8 rfl).elim,fun hs=>(hs 13 b8 rfl).elim,trivial⟩) (XQ.done kq (o3 (XB.fE [(4,_),(7,_),(8,_)] S3 (XB.im mixed (f:=14) (l:= #[qF,qF,qF,qF,qF,qF,qF,qF,qF,qF,qF,qF,qF,qF]) rfl rfl XM.kN (XQ.load (i:=0) (.cells _ _ _ _) [13] rfl kq rfl (.t3 .aa) (V.load rfl eh (aF.ld _) Eo) rfl kq rfl (XQ.pv (i:=1) rfl kq rfl (V.move rfl) rfl rfl (XQ.pv (i:=2) rfl kq rfl (bB rfl) rfl rfl (XQ.pv (i:=3) rfl kq rfl (V.fieldAddr rfl pH) rfl rfl (XQ.pv (i:=4) rfl kq rfl (jh rfl rfl En og) rfl rfl (XQ.pv (i:=5) rfl kq rfl (V.fieldAddr rfl Pc) rfl rfl (XQ.load (i:=6) (.cells _ _ _ _) [13] rfl kq rfl (.t2 .aa) (V.load rfl eh (fJ _ _) lq) rfl kq rfl (XQ.load (i:=7) (.cells _ _ _ _) [13] rfl kq rfl (.t5 .aa) (V.load rfl eh (aF.ld _) lq) rfl kq rfl (XQ.pv (i:=8) rfl kq rfl (V.add rfl rfl _ (IntWalk.i64_in _ (by have:=hsm.2.2;show _<=(s.lay (mB pre) q m).pg x.1+m/\(s.lay (mB pre) q m).pg x.1+m<=_;omega))) rfl rfl (XQ.pv (i:=9) rfl kq rfl (bB rfl) rfl rfl (XQ.pv (i:=10) rfl kq rfl (V.fieldAddr rfl pH) rfl rfl (XQ.pv (i:=11) rfl kq rfl (jh rfl rfl En og) rfl rfl (XQ.pv (i:=12) rfl kq rfl (V.fieldAddr rfl Pc) rfl rfl (XQ.store (i:=13) rfl kq rfl rfl rfl (.t2 .aa) (wU _ _ og _) rfl ot (fun _ dZ=>⟨fun hs=>(hs 13 b8 rfl).elim,fun hs=>(hs 13 b8 rfl).elim,fun hs=>(hs 13 b8 rfl).elim,trivial⟩) (XQ.done kq (gG (xF hx ?_ rfl (fun w2 hg=>lr (by rfl) hg .aa (.ao .aa) (.t2 .aa)) fun w2 mw=> ?_)))))))))))))))))))))))))))))))))))))
  ·grind
  ·have:=XM.pick (pz 6) mw;rw[FX,TG.Ue];omega
 ·intro hV D hD;refine gE (nu (.inl rfl) .aa rfl hD (cY rfl (ah (pk [2]) rfl ?_)));simp_all
 ·intro pre hp hV D hD;exact hV.elim
def Zc(p o:Nat)(s:TG)(hO:s.Ok)(n q:Int):Spec Tryz.prog 244 [ay p o 0,iI n,iI q] [.cells p o 60 (bD s)] (fun v H1=>v= .bool (s.under n q)/\H1=[.cells p o 60 (bD s)]):=by
 refine tM 19 [0,1,5,6,11,14] [] Tryz.func244 rfl rfl rfl ?_;intro W;refine XO.box (m:=1) (C:=aF (iI q)) rfl rfl (fun _ _=>rfl) rfl ?_;intro bq;refine gO ?_;refine XO.bG (z:=.bool false) (m:=1) (C:=aF (.bool false)) (fun _ _=>rfl) ?_;intro br;refine gO ?_;refine ca (Ii _ _ _ _) (pk [2]) ?_;rintro _ _ (⟨h1,rfl,rfl⟩ | ⟨h1,rfl,rfl⟩)
 ·obtain⟨i0,i1,i2,i3⟩:=h1;have kY:=hO.cX i1 i2 i3;obtain⟨xs,Lu⟩:=qZ _ kY.1.range;have O9:xs.length<=4:=by
   grind [mB]
  refine gO ?_;refine ca (Es _ _ _) .nil ?_;rintro _ _ ⟨b1,b2,rfl,rfl⟩;refine gO ?_;refine uY (xs:=xs) (fun x:Qv=>iI x.1) (fun pre=>∀ x∈pre,¬x.1=q) (fun pre=>∃ x∈pre,x.1=q) (fun pre=>[.cells b1 0 1 (aF (iI n)),.cells b2 0 1 (aF (ay p o 0)),.cells p o 60 (bD s),.cells bq 0 1 (aF (iI q)),.cells br 0 1 (aF (.bool false))]) (fun pre=>[.cells b1 0 1 (aF (iI n)),.cells b2 0 1 (aF (ay p o 0)),.cells p o 60 (bD s),.cells bq 0 1 (aF (iI q)),.cells br 0 1 (aF (.bool true))]) rfl (nw Ep) rfl rfl (fun w hw=>uR p o b1 b2 n s.aA xs (by rw[Lu];exact kY.1) w (lr (by rfl) hw.fa .aa (.ao .aa) (.t2 .aa))) ?_ (xq (pk [0,0,0,1,0])) (fun _=>rfl) (fun _=>rfl) ?_ ?_ ?_
  ·simp_all
  ·intro pre x w hV hlen hx;refine XB.block ?_;refine XB.seq ?_;refine XB.region ?_;refine XO.v (V.move rfl) rfl ?_;refine XO.l (V.load rfl (fb (.t3 .aa)) (aF.ld _) lq) rfl ?_;refine XO.v (SL rfl rfl rfl) rfl ?_;refine XO.nil ?_;refine o3 ?_;refine XB.fE [(6,_),(18,_)] S2 ?_;refine XB.NM rfl (fun h2=> ?_) fun h2=> ?_
   ·refine XB.seq ?_;refine XB.region ?_;refine XO.store rfl rfl (.t4 .aa) (aF.st _ _) rfl Et ?_;refine XO.nil ?_;refine o3 ?_;refine XB.fE [(6,_)] S1 ?_;refine XB.ret ?_;refine lI ?_;refine XE.gx hx ?_ rfl fun w2 mw=> ?_;all_goals simp_all
   ·refine XB.skip ?_;refine gG ?_;refine xF hx ?_ rfl (fun w2 hg=>lr (by rfl) hg .aa (.ao .aa) (.t2 .aa)) fun w2 mw=> ?_;all_goals grind
  ·intro hV D hD;have hr:s.under n q=false:=by
    unfold TG.under;grind [mB]
   refine gE ?_;refine st (.t5 .aa) (aF.st _ _) rfl ?_;refine nu (.inr rfl) .aa rfl hD ?_;refine jz rfl (.cell rfl (.t4 .aa) (aF.ld _) Fk) (ah (pk [2]) rfl ?_);grind [aR,bN]
  ·intro pre hp hV D hD;have hr:s.under n q=true:=by
    unfold TG.under;grind [mB]
   refine gE ?_;refine nu (.inr rfl) .aa rfl hD ?_;refine jz rfl (.cell rfl (.t4 .aa) (aF.ld _) Fk) (ah (pk [2]) rfl ?_);simp_all
 ·have i0:=h1;refine gO ?_;refine st (.ao .aa) (aF.st _ _) rfl ?_;refine qE (.inr rfl) ?_;refine jz rfl (.cell rfl (.ao .aa) (aF.ld _) Fk) (ah .h1 rfl ?_);try dsimp only[aS,aR,bI,bN]
  exact⟨by unfold TG.under;rw[if_pos og],rfl⟩
def uS(p o:Nat)(s:TG)(hO:s.Ok)(n q m:Int)(Bd:Int)(hB:0<=Bd/\Bd<=1000000000000)(hS:s.bU Bd):Spec Tryz.prog 51 [ay p o 0,iI n,iI q,iI m] [.cells p o 60 (bD s)] (fun v H1=>v=ax 102 (s.cZ n q m)/\H1=[.cells p o 60 (bD (s.aP n q m))]):=by
  refine tM 42 [1,4,6,7,8,9,15,20,24] [] Tryz.func51 rfl rfl rfl ?_
  intro W
  refine XO.box (m:=1) (C:=aF (ay p o 0)) rfl rfl (fun _ _=>rfl) rfl ?_
  intro bT
  refine gO ?_
  refine XO.box (m:=1) (C:=aF (iI q)) rfl rfl (fun _ _=>rfl) rfl ?_
  intro bq
  refine gO ?_
  refine XO.box (m:=1) (C:=aF (iI m)) rfl rfl (fun _ _=>rfl) rfl ?_
  intro bm
  refine gO ?_
  refine XO.bG (z:=.nilIface) (m:=1) (C:=aF (.nilIface)) (fun _ _=>rfl) ?_
  intro be
  refine gO ?_
  refine ld (.t3 .aa) (aF.ld _) ?_
  refine ca (Ii _ _ _ _) (pk [4]) ?_
  rintro _ _ (⟨h1,rfl,rfl⟩ | ⟨h1,rfl,rfl⟩)
  · skip
    obtain⟨i0,i1,i2,i3⟩:=h1
    refine gO ?_
    refine ld (.t3 .aa) (aF.ld _) ?_
    refine ld (.t2 .aa) (aF.ld _) ?_
    refine ca (Er _ _) .nil ?_
    rintro _ _ (⟨h2,rfl,rfl⟩ | ⟨h2,rfl,rfl⟩)
    · skip
      have j0:=h2
      have kY:=hO.cX i1 i2 i3
      obtain⟨xs,Lu⟩:=qZ _ kY.1.range
      have O9:xs.length<=4:=by
        grind [mB]
      refine gO ?_
      refine ld (.t4 .aa) (aF.ld _) ?_
      refine ca (Es _ _ _) .nil ?_
      rintro _ _ ⟨b1,b2,rfl,rfl⟩
      refine gO ?_
      refine uY (xs:=xs) (fun x:Qv=>iI x.1) (fun pre=>∀ x∈pre,s.room q m x.1=true) (fun pre=>∃ x∈pre,s.room q m x.1=false) (fun pre=>[.cells b1 0 1 (aF (iI n)),.cells b2 0 1 (aF (ay p o 0)),.cells p o 60 (bD s),.cells bT 0 1 (aF (ay p o 0)),.cells bq 0 1 (aF (iI q)),.cells bm 0 1 (aF (iI m)),.cells be 0 1 (aF (.nilIface))]) (fun pre=>[.cells b1 0 1 (aF (iI n)),.cells b2 0 1 (aF (ay p o 0)),.cells p o 60 (bD s),.cells bT 0 1 (aF (ay p o 0)),.cells bq 0 1 (aF (iI q)),.cells bm 0 1 (aF (iI m)),.cells be 0 1 (aF (.iface 102 (iI 6)))]) rfl (nw Ep) rfl rfl (fun w hw=>uR p o b1 b2 n s.aA xs (by rw[Lu];exact kY.1) w (lr (by rfl) hw.fa .aa (.ao .aa) (.t2 .aa))) ?_ (xq (pk [0,0,0,3,2,1,0])) (fun _=>rfl) (fun _=>rfl) ?_ ?_ ?_
      · simp_all
      · intro pre x w hV hlen hx
        have hsm:=hS x.1 x.2.1 x.2.2
        obtain⟨x1,x2⟩:=x.2
        have hr0: -9223372036854775808<=(s.gv x.1).pr+q/\(s.gv x.1).pr+q<=9223372036854775807:=by show _<=s.pr x.1+q/\s.pr x.1+q<=_;omega
        have Eu: -9223372036854775808<=(s.gv x.1).pg+m/\(s.gv x.1).pg+m<=9223372036854775807:=by show _<=s.pg x.1+m/\s.pg x.1+m<=_;omega
        refine XB.block ?_
        refine XB.seq ?_
        refine XB.im mixed (f:=10) (l:= #[qF,qF,qF,qF,qF,qF,qF,qF,qF,qF]) rfl rfl XM.kN ?_
        refine XQ.load (i:=0) (.cells _ _ _ _) [8] rfl kq rfl (.t3 .aa) (V.load rfl eh (aF.ld _) Eo) rfl kq rfl ?_
        refine XQ.pv (i:=1) rfl kq rfl (V.move rfl) rfl rfl ?_
        refine XQ.pv (i:=2) rfl kq rfl (bB rfl) rfl rfl ?_
        refine XQ.pv (i:=3) rfl kq rfl (V.fieldAddr rfl pH) rfl rfl ?_
        refine XQ.pv (i:=4) rfl kq rfl (jh rfl rfl En og) rfl rfl ?_
        refine XQ.load (i:=5) (.cells _ _ _ _) [8] rfl kq rfl (.t2 .aa) (eJ rfl eh (C7 _ _) GU vE) rfl kq rfl ?_
        refine XQ.load (i:=6) (.cells _ _ _ _) [8] rfl kq rfl (.t4 .aa) (V.load rfl eh (aF.ld _) lq) rfl kq rfl ?_
        refine XQ.load (i:=7) (.cells _ _ _ _) [8] rfl kq rfl (.t5 .aa) (V.load rfl eh (aF.ld _) lq) rfl kq rfl ?_
        refine XQ.call (i:=8) rfl kq rfl rfl (VV _ _ _ aq aq) .nil VW rfl (by rintro _ _ ⟨rfl,rfl⟩;all_goals(intro _ dZ;refine⟨?_,?_,?_,?_,trivial⟩<;>exact fun hs=>(hs 8 b8 rfl).elim)) ?_
        rintro _ _ ⟨rfl,rfl⟩
        refine XQ.pv (i:=9) rfl kq rfl (V.not rfl) rfl rfl ?_
        refine XQ.done kq ?_
        refine o3 ?_
        refine XB.fE [(8,_),(35,_)] S2 ?_
        refine XB.cond rfl (fun h3=> ?_) fun h3=> ?_
        · try simp only[sb]at h3
          have hX:=h3
          refine XB.seq ?_
          refine XB.region ?_
          refine XO.v (AX rfl Tryz.underlying102 sq) rfl ?_
          refine XO.store rfl rfl (.t6 .aa) (aF.st _ _) rfl Zb ?_
          refine XO.nil ?_
          refine o3 ?_
          refine XB.fE [(8,_)] S1 ?_
          refine XB.ret ?_
          refine lI ?_
          refine XE.gx hx ?_ rfl fun w2 mw=> ?_
          · skip
            exact⟨x,sq,by simpa [TG.room]using hX⟩
          omega
        · try simp only[sb]at h3
          have hX:=h3
          refine XB.skip ?_
          refine gG ?_
          refine xF hx ?_ rfl (fun w2 hg=>lr (by rfl) hg .aa (.ao .aa) (.t2 .aa)) fun w2 mw=> ?_
          · skip
            intro y hy
            rcases List.mem_append.1 hy with hy | hy
            · grind
            · simp at hy;subst hy;simpa [TG.room]using hX
          simp_all
      · intro hV D hD
        have hc:s.pN n q m=0:=by unfold TG.pN;rw[if_neg og];exact(TG.Bc _ _).2 j0
        have hr:s.cZ n q m=0:=by
          unfold TG.cZ
          grind [mB]
        have BA:s.aP n q m=s.lay (s.cX n) q m:=by unfold TG.aP;rw[if_pos hr]
        refine gE ?_
        refine ld (.t4 .aa) (aF.ld _) ?_
        refine ld (.t5 .aa) (aF.ld _) ?_
        refine ld (.t6 .aa) (aF.ld _) ?_
        refine cq (VX _ _ s hO _ (by first | assumption | exact⟨og,og,aq⟩) _ _ og og Bd hB hS) (pk [3]) ?_
        refine st (.t7 .aa) (aF.st _ _) rfl ?_
        refine nu (.inr rfl) (.ao .aa) rfl hD ?_
        refine jz rfl (.cell rfl (.t6 .aa) (aF.ld _) Pd) (ah .h1 rfl ?_)
        grind [aR,bN,ax]
      · intro pre hp hV D hD
        have hc:s.pN n q m=0:=by unfold TG.pN;rw[if_neg og];exact(TG.Bc _ _).2 j0
        have hr:s.cZ n q m=6:=by
          unfold TG.cZ
          grind [mB]
        have BA:s.aP n q m=s:=by unfold TG.aP;rw[if_neg og]
        refine gE ?_
        refine nu (.inr rfl) .aa rfl hD ?_
        refine jz rfl (.cell rfl (.t6 .aa) (aF.ld _) Pd) (ah (pk [2]) rfl ?_)
        grind [ax]
    · skip
      have j1:=h2
      refine gO ?_
      refine st (.ao .aa) (aF.st _ _) rfl ?_
      refine qE (.inr rfl) ?_
      refine jz rfl (.cell rfl (.ao .aa) (aF.ld _) Pd) (ah .h1 rfl ?_)
      try dsimp only[aS,aR,bI,bN]
      first
      | (have hc:s.pN n q m=s.cC n:=by unfold TG.pN;rw[if_pos aq]
         have hr:s.cZ n q m=s.cC n:=by unfold TG.cZ;rw[if_pos og,hc]
         exact⟨by rw[hr,aJ _ aq],by unfold TG.aP;rw[if_neg og]⟩)
      | (have hc:s.pN n q m=1:=by unfold TG.pN;rw[if_neg og];exact j1
         have hr:s.cZ n q m=1:=by unfold TG.cZ;rw[if_pos og,hc]
         exact⟨by rw[hr];rfl,by unfold TG.aP;rw[if_neg og]⟩)
  · skip
    have i0:=h1
    refine gO ?_
    refine st (.ao .aa) (aF.st _ _) rfl ?_
    refine qE (.inr rfl) ?_
    refine jz rfl (.cell rfl (.ao .aa) (aF.ld _) Pd) (ah .h1 rfl ?_)
    try dsimp only[aS,aR,bI,bN]
    first
    | (have hc:s.pN n q m=s.cC n:=by unfold TG.pN;rw[if_pos aq]
       have hr:s.cZ n q m=s.cC n:=by unfold TG.cZ;rw[if_pos og,hc]
       exact⟨by rw[hr,aJ _ aq],by unfold TG.aP;rw[if_neg og]⟩)
    | (have hc:s.pN n q m=1:=by unfold TG.pN;rw[if_neg og];exact j1
       have hr:s.cZ n q m=1:=by unfold TG.cZ;rw[if_pos og,hc]
       exact⟨by rw[hr];rfl,by unfold TG.aP;rw[if_neg og]⟩)
end Go.X.Gr
