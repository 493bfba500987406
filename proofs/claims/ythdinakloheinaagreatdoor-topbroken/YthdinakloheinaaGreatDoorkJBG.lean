import Derived.Test.YthdinakloheinaaGreatDoorkJA
import Derived.Test.YthdinakloheinaaGreatDoorkNOP
namespace Go.X.Kn
open Go Go.X
theorem ub(a:KA)(n h:Int):bI (a.cv n h)=bI a:=rfl
theorem dq.box{a:KA}{c:KC}{N:Nat}{T:Int}(h:dq a c N T)(n:Int)(x:Sg.BS):dq (a.eT n x) c N T:=⟨h.qO,h.qR,h.F,h.rp,h.rc,h.rl,h.tb⟩
theorem nu(a:KA)(n:Int)(x:Sg.BS):bI (a.eT n x)=bI a:=rfl
theorem KA.Hx.any{a:KA}(h:a.Hx (-1))(n:Int):a.Hx n:=fun p h0 h1 _ h3=>h p h0 h1 (by omega) h3
theorem KA.Hx.box{a:KA}{n:Int}(h:a.Hx n)(x:Sg.BS):(a.eT n x).Hx n:=fun p h0 h1 h2 h3=>by
 rw[kf _ _ h2]at h3 ⊢;exact h p h0 h1 h2 h3
theorem KA.Wk.gL{a:KA}{T:Int}(w:a.Wk T){n:Int}(h:(a.u n).st≠0):0≤n∧n<20:=by
 by_cases e:n<0∨20≤n
 ·rw[w.out n e]at h;exact absurd rfl h
 ·omega
structure KA.R0 (a:KA):Prop where
 st:(a.u 0).st=1
 loc:a.s.loc 0=0
 bX:a.s.bX 0 1=0
structure KA.Ok (a:KA) (T:Int):Prop where
 wk:a.Wk T
 hx:a.Hx (-1)
 r0:a.R0
 d0:a.dep 0=1
theorem ue:∀ (l:List Int) (x:KA),(l.foldl KA.bB x).dep=x.dep
 | [],_=>rfl
 | _::r,x=>ue r (x.bB _)
theorem su(a:KA):∀ k,(a.rounds k).dep=a.dep
 | 0=>rfl
 | k+1=>(ue _ _).trans (su a k)
theorem Ab(h:Int):∀ (l:List Int) (x:KA),(l.foldl (KA.eG h) x).dep=x.dep
 | [],_=>rfl
 | y::r,x=>(Ab h r (KA.eG h x y)).trans (by
  unfold KA.eG;split
  ·rfl
  ·show(if(x.u y).st=1 then x.bW y 0 else x).dep=_
   split<;>rfl)
theorem CO(a:KA)(n co:Int):(a.bn n co).dep=a.dep:=by
 have e1:(a.er n co).dep=a.dep:=by
  unfold KA.er;split
  ·exact(su _ 4).trans (Ab n _ _)
  ·rfl
 unfold KA.bn KA.dB
 split
 ·exact e1
 ·exact e1
theorem KA.R0.end_{a:KA}(h:a.R0){n:Int}(hn:n≠0)(co:Int):(a.bW n co).R0:=⟨by rw[qq _ _ (fun e=>hn e.symm)];exact h.st,h.loc,h.bX⟩
theorem KA.R0.yb{a:KA}(h:a.R0){n:Int}(hn:n≠0):(a.cy n).R0:=
 ⟨by rw[kZ _ (fun e=>hn e.symm)];exact h.st,by show(a.s.leave n).2.loc 0=0;rw[SS.rU _ (fun e=>hn e.symm)];exact h.loc,SS.tE (fun e=>hn e.symm) h.bX⟩
theorem KA.R0.shut{a:KA}(h:a.R0)(z:Int):(a.bB z).R0:=⟨h.st,by show(a.s.drop z).2.loc 0=0;rw[SS.qF];exact h.loc,by show(a.s.drop z).2.bX 0 1=0;rw[SS.xz];exact h.bX⟩
theorem KA.R0.Jo(k:Int):∀ {l:List Int} {a:KA},a.R0→(0∉l)→(l.foldl (KA.eG k) a).R0
 | [],_,w,_=>w
 | x::r,a,w,hl=>KA.R0.Jo k (l:=r) (by
   have hx:x≠0:=by rintro rfl;exact hl (.head _)
   unfold KA.eG
   split
   ·exact w
   ·refine KA.R0.yb ?_ hx
    split
    ·exact w.end_ hx 0
    ·exact w) (fun q=>hl (.tail _ q))
theorem KA.R0.pE:∀ {l:List Int} {a:KA},a.R0→(l.foldl KA.bB a).R0
 | [],_,w=>w
 | x::r,_,w=>KA.R0.pE (l:=r) (w.shut x)
theorem KA.R0.rounds{a:KA}(w:a.R0):∀ k,(a.rounds k).R0
 | 0=>w
 | k+1=>KA.R0.pE (w.rounds k)
theorem SS.Inv.ep{s:Sp.SS}{dep:Int→Nat}(h:s.Inv dep)(hl:s.loc 0=0):s.here 0=true:=by
 have:=h.at_ 0 (by omega) (by omega) (by omega)
 rwa[hl]at this
theorem SS.Inv.Om{s:Sp.SS}{dep:Int→Nat}(h:s.Inv dep)(hl:s.loc 0=0)(hd:dep 0=1){z q:Int}(e:s.bX z q=0):z=0:=by
 have:=(h.mem z q 0 (by omega) e).2.2.2.2
 rw[hl]at this
 unfold Sp.SS.cr at this
 rw[hd]at this
 simpa [Sp.SS.eD]using this
theorem yp{a:KA}{T:Int}(w:a.Wk T)(r:a.R0){n:Int}(hn:(a.u n).st≠0)(h:a.head n=n):a.s.bX (a.s.loc n) 1=n:=by
 have hr:=w.gL hn
 have h1:=(w.lc n hr.1 hr.2).1 hn
 by_cases e:n=0
 ·subst e;rw[r.loc];exact r.bX
 ·unfold KA.head at h
  have e1:a.s.bZ n=(a.s.loc n,0):=by unfold Sp.SS.bZ;rw[if_neg (by omega),if_neg (by omega)]
  rw[e1]at h
  have h:(a.s.find (a.s.loc n) 1).1=n:=h
  unfold Sp.SS.find at h
  split at h
  ·exact absurd h.symm e
  ·split at h
   ·omega
   ·split at h
    ·exact absurd h.symm e
    ·exact h
theorem KA.Wk.GP{a:KA}{T:Int}(w:a.Wk T)(r0:a.R0)(hd:a.dep 0=1){n:Int}(hn:n≠0)(hl:(a.u n).st=1)(hx:a.Hx n)(co:Int):(a.bn n co).Ok T:=by
 have hr:=w.gL (n:=n) (by omega)
 have hx2:=((hx.er co).cv n (a.head n)).dB (((a.er n co).cv n (a.head n)).u n).par
 refine⟨w.bn hr hl co,fun p h0 h1 _ h3=> ?_,?_,(congrFun (CO _ _ _) 0).trans hd⟩
 ·by_cases e:p=n
  ·subst e
   exfalso
   have:((a.bn p co).u p).st≠1:=by
    unfold KA.bn KA.dB
    split
    ·rw[eB,(cO _ _ _ _).1];exact nO a p co
    ·rw[(cO _ _ _ _).1];exact nO a p co
   exact this h3
  ·exact hx2 p h0 h1 e h3
 ·have r1:(a.er n co).R0:=by
   unfold KA.er;split
   ·rename_i hh
    unfold KA.bO
    refine KA.R0.rounds (KA.R0.Jo n (r0.end_ hn co) fun q=> ?_) 4
    obtain⟨j,_,_,e,_⟩:=SS.Bf q
    have hz:=SS.Inv.Om w.sI r0.loc hd e
    have hw:=yp w r0 (n:=n) (by omega) hh
    have h1:=(w.lc n hr.1 hr.2).1 (by omega)
    have e1:a.s.bZ n=(a.s.loc n,0):=by unfold Sp.SS.bZ;rw[if_neg (by omega),if_neg (by omega)]
    rw[e1]at hz
    have hz:a.s.loc n=0:=hz
    rw[hz,r0.bX]at hw
    exact hn hw.symm
   ·exact r0.end_ hn co
  unfold KA.bn
  have r2:((a.er n co).cv n (a.head n)).R0:=⟨by rw[(cO _ _ _ _).1];exact r1.st,r1.loc,r1.bX⟩
  refine⟨?_,by rw[(KA.qK _ _).1];exact r2.loc,by rw[(KA.qK _ _).1];exact r2.bX⟩
  unfold KA.dB
  split
  ·rw[eB];exact r2.st
  ·exact r2.st
theorem KA.tr{a:KA}{n:Int}{o:Bool}(h:¬a.ends n o):a.bV n o=a:=if_neg h
theorem KA.qM{a:KA}{n:Int}{o:Bool}(h:a.ends n o):a.bV n o=a.bn n (128+(a.u n).bx.first 0):=if_pos h
end Go.X.Kn

namespace Go.X.Kn
open Go Go.X
theorem KA.Hx.same{a a':KA}{n:Int}(h:a.Hx n)(hu:∀ p,(a'.u p).st=(a.u p).st∧(a'.u p).bx=(a.u p).bx)(hs:a'.s=a.s):a'.Hx n:=fun p h0 h1 h2 h3=>by
 rw[(hu p).2,hs];exact h p h0 h1 h2 (by rw[←(hu p).1];exact h3)
theorem KA.R0.same{a a':KA}(h:a.R0)(hu:(a'.u 0).st=(a.u 0).st)(hs:a'.s=a.s):a'.R0:=⟨by rw[hu];exact h.st,by rw[hs];exact h.loc,by rw[hs];exact h.bX⟩
theorem Ng{a:KA}{T:Int}(w:a.Wk T)(r:a.R0):a.head 0=0:=w.xr ⟨by omega,by omega⟩ (by rw[r.st];decide) (by rw[r.loc];exact r.bX)
theorem KA.Wk.Fj{a:KA}{T:Int}(w:a.Wk T)(r:a.R0)(hd:a.dep 0=1){n:Int}(hl:(a.u n).st=1)(hx:a.Hx n)(o:Bool)(ho:o=true→n≠0):(a.bV n o).Ok T:=by
 by_cases he:a.ends n o
 ·rw[KA.qM he]
  refine w.GP r hd (fun e=> ?_) hl hx _
  subst e
  rcases he.2 with q | q
  ·exact ho q rfl
  ·exact q (Ng w r)
 ·rw[KA.tr he]
  refine⟨w,fun p h0 h1 h2 h3=> ?_,r,hd⟩
  by_cases e:p=n
  ·subst e
   by_cases f:(a.u p).bx.first 0=0
   ·exact .inl f
   ·right
    exact yp w r (by omega) (Decidable.byContradiction fun q=>he ⟨f,.inr q⟩)
  ·exact hx p h0 h1 e h3
theorem KA.R0.box{a:KA}(h:a.R0)(n:Int)(x:Sg.BS):(a.eT n x).R0:=h.same (eB _ _ _ _) rfl
theorem KA.Ok.KY{a:KA}{T:Int}(h:a.Ok T){n:Int}(c:a.live n=0){x:Sg.BS}(hx:x.wait 0=false)(o:Bool)(ho:o=true→n≠0):((a.eT n x).bV n o).Ok T:=by
 obtain⟨hr,hl⟩:=KA.kD c
 exact(h.wk.eT hr hx).Fj (h.r0.box _ _) h.d0 (by rw[eB];exact hl) ((h.hx.any n).box _) o ho
theorem KA.Ok.NX{a:KA}{T:Int}(h:a.Ok T){n:Int}(c:a.live n=0){x:Sg.BS}(hx:x.wait 0=false)(hf:x.first 0=(a.u n).bx.first 0):(a.eT n x).Ok T:=by
 obtain⟨hr,hl⟩:=KA.kD c
 refine⟨h.wk.eT hr hx,fun p h0 h1 h2 h3=> ?_,h.r0.box _ _,h.d0⟩
 rw[eB]at h3
 by_cases e:p=n
 ·subst e;rw[nN]
  show x.first 0=0∨_
  rw[hf];exact h.hx p h0 h1 (by omega) h3
 ·rw[kf _ _ e];exact h.hx p h0 h1 (by omega) h3
theorem KA.Ok.send{a:KA}{T:Int}(h:a.Ok T)(n sig:Int)(o:Bool)(ho:o=true→n≠0):(a.fA n sig o).Ok T:=by
 unfold KA.fA;split
 ·rename_i c;exact h.KY c (ki _ _ (h.wk.bx n)) o ho
 ·exact h
theorem mO(x:Sg.BS)(n:Int)(on:Bool)(h:x.wait 0=false):(x.hold n on).2.wait 0=false:=by
 unfold Sg.BS.hold;split
 ·split
  ·exact h
  ·exact h
 ·exact h
theorem ua(x:Sg.BS)(n v:Int)(h:x.wait 0=false):(x.set n v).2.wait 0=false:=by
 unfold Sg.BS.set;split
 ·rename_i c
  have:=(Sg.BS.gi n).1 c.1
  split
  ·exact h
  ·show(if _ then _ else _:Sg.BS).wait 0=false
   split
   ·show aa x.wait n false 0=false
    rw[ad _ _ (by omega)];exact h
   ·exact h
 ·exact h
theorem zy(x:Sg.BS)(h:x.wait 0=false):x.take.2.wait 0=false:=by
 show aa x.wait (x.first 2) false 0=false
 by_cases e:(0:Int)=x.first 2
 ·rw[←e];exact ae _ _ _
 ·rw[ad _ _ e];exact h
theorem Cw{x:Sg.BS}{v:Int}(h:x.first v≠0):x.bd (x.first v)=v:=by
 unfold Sg.BS.first at h ⊢
 cases e:ck (fun k=>x.wait k&&(!x.held k&&decide (x.bd k=v))) 9 with
 | none=>rw[e]at h;exact absurd rfl h
 | some k=>
  have h2:=(Vm.fO e).2.1
  simp only[Bool.and_eq_true,decide_eq_true_eq]at h2
  exact h2.2.2
theorem yE(x:Sg.BS)(h:x.wait 0=false):x.take.2.first 0=x.first 0:=by
 refine py fun k k0 k1=> ?_
 show(aa x.wait (x.first 2) false k&&(!x.held k&&decide (x.bd k=0)))=_
 by_cases e:k=x.first 2
 ·by_cases z:x.first 2=0
  ·have:k=0:=by omega
   subst this
   rw[e,ae,←e,h]
  ·have h2:=Cw z
   rw[e,decide_eq_false (show ¬x.bd (x.first 2)=0 by rw[h2];decide)];simp
 ·rw[ad _ _ e]
def KA.du(a:KA)(n c:Int):Int:=if a.live n≠0 then a.live n else if c<0∨255<c then 1 else if n=0 then 8 else 0
def KA.cD(a:KA)(n co:Int):KA:=if a.du n co=0 then a.bn n co else a
theorem KA.IT{a:KA}{n c:Int}(h:a.du n c=0):a.live n=0∧n≠0:=by
 unfold KA.du at h
 split at h
 ·omega
 ·split at h
  ·omega
  ·split at h
   ·omega
   ·exact⟨by omega,by assumption⟩
theorem KA.Ok.cD{a:KA}{T:Int}(h:a.Ok T)(n co:Int):(a.cD n co).Ok T:=by
 unfold KA.cD;split
 ·rename_i c
  obtain⟨h1,h2⟩:=KA.IT c
  exact h.wk.GP h.r0 h.d0 h2 (KA.kD h1).2 (h.hx.any n) co
 ·exact h
def KA.gU(a:KA)(n sig:Int)(on:Bool):Int:=if a.live n≠0 then a.live n else((a.u n).bx.hold sig on).1
def KA.bU(a:KA)(n sig:Int)(on:Bool):KA:=if a.live n≠0 then a else if((a.u n).bx.hold sig on).1=0 then(a.eT n ((a.u n).bx.hold sig on).2).bV n false else a
theorem KA.Ok.hold{a:KA}{T:Int}(h:a.Ok T)(n sig:Int)(on:Bool):(a.bU n sig on).Ok T:=by
 unfold KA.bU;split
 ·exact h
 ·rename_i c;split
  ·exact h.KY (by omega) (mO _ _ _ (h.wk.bx n)) false (by simp)
  ·exact h
def KA.vF(a:KA)(n sig v:Int):Int:=if a.live n≠0 then a.live n else((a.u n).bx.set sig v).1
def KA.iw(a:KA)(n sig v:Int):KA:=if a.live n≠0 then a else if((a.u n).bx.set sig v).1=0 then(a.eT n ((a.u n).bx.set sig v).2).bV n false else a
theorem KA.Ok.bd{a:KA}{T:Int}(h:a.Ok T)(n sig v:Int):(a.iw n sig v).Ok T:=by
 unfold KA.iw;split
 ·exact h
 ·rename_i c;split
  ·exact h.KY (by omega) (ua _ _ _ (h.wk.bx n)) false (by simp)
  ·exact h
theorem xc{x:Sg.BS}{n:Int}{on:Bool}(h:(x.hold n on).1≠0):(x.hold n on).2=x:=by
 unfold Sg.BS.hold at h ⊢
 split
 ·rename_i c;rw[if_pos c]at h;split
  ·rfl
  ·rename_i d;rw[if_neg d]at h;exact absurd rfl h
 ·rfl
theorem Jf{x:Sg.BS}{n v:Int}(h:(x.set n v).1≠0):(x.set n v).2=x:=by
 unfold Sg.BS.set at h ⊢
 split
 ·rename_i c;rw[if_pos c]at h;split
  ·rfl
  ·rename_i d;rw[if_neg d]at h;exact absurd rfl h
 ·rfl
def KA.gZ(a:KA)(n:Int):Int:=if a.live n≠0 then a.live n else if(a.u n).bx.take.1=0 then 2 else 0
def KA.nS(a:KA)(n:Int):Int:=if a.live n≠0 then 0 else(a.u n).bx.take.1
def KA.eY(a:KA)(n:Int):KA:=if a.live n≠0 then a else a.eT n (a.u n).bx.take.2
theorem KA.Ok.take{a:KA}{T:Int}(h:a.Ok T)(n:Int):(a.eY n).Ok T:=by
 unfold KA.eY;split
 ·exact h
 ·exact h.NX (by omega) (zy _ (h.wk.bx n)) (yE _ (h.wk.bx n))
theorem KA.Wk.io{a:KA}{T T':Int}(h:a.Wk T)(hT:T≤T')(hT':T'≤1000000){u:Int→PA}{O:Tr.OS}{P:Tr.PS}(hst:∀ p,(u p).st=(a.u p).st)(hbx:∀ p,(u p).bx=(a.u p).bx)(hout:∀ p,(p<0∨20≤p)→u p=PA.nil)(hfd:∀ p i,0≤(u p).fd i∧(u p).fd i≤24)(hO:O.Inv T')(hP:P.Inv T'):({a with u:=u,O:=O,P:=P} :KA).Wk T' where
 T0:=⟨by have:=h.T0;omega,hT'⟩
 gI:=h.gI
 gS:=h.gS.mono (by omega)
 sI:=h.sI
 sys:=h.sys
 nilf:=fun m a0 a1 q=>h.nilf m a0 a1 (by rw[←hst];exact q)
 PI:=hP
 OI:=hO
 lc:=fun m a0 a1=>by rw[show(({a with u:=u,O:=O,P:=P} :KA).u m).st=(a.u m).st from hst m];exact h.lc m a0 a1
 st:=fun m=>by rw[show(({a with u:=u,O:=O,P:=P} :KA).u m).st=(a.u m).st from hst m];exact h.st m
 out:=hout
 fd:=hfd
 bx:=fun m=>by rw[show(({a with u:=u,O:=O,P:=P} :KA).u m).bx=(a.u m).bx from hbx m];exact h.bx m
theorem KA.Ok.io{a:KA}{T T':Int}(h:a.Ok T)(hT:T≤T')(hT':T'≤1000000){u:Int→PA}{O:Tr.OS}{P:Tr.PS}(hst:∀ p,(u p).st=(a.u p).st)(hbx:∀ p,(u p).bx=(a.u p).bx)(hout:∀ p,(p<0∨20≤p)→u p=PA.nil)(hfd:∀ p i,0≤(u p).fd i∧(u p).fd i≤24)(hO:O.Inv T')(hP:P.Inv T'):({a with u:=u,O:=O,P:=P} :KA).Ok T':=
 ⟨h.wk.io hT hT' hst hbx hout hfd hO hP,h.hx.same (fun p=>⟨hst p,hbx p⟩) rfl,h.r0.same (hst 0) rfl,h.d0⟩
theorem KA.Ok.up{a:KA}{T T':Int}(h:a.Ok T)(hT:T≤T')(hT':T'≤1000000):a.Ok T':=⟨h.wk.up hT hT',h.hx,h.r0,h.d0⟩
theorem KA.Ok.Od{a:KA}{T T':Int}(h:a.Ok T)(hT:T≤T')(hT':T'≤1000000){O:Tr.OS}{P:Tr.PS}(hO:O.Inv T')(hP:P.Inv T'):({a with O:=O,P:=P} :KA).Ok T':=
 h.io hT hT' (fun _=>rfl) (fun _=>rfl) h.wk.out h.wk.fd hO hP
def sM(u:Int→PA)(n i v:Int):Int→PA:=aa u n {u n with fd:=aa (u n).fd i v}
theorem kt(u:Int→PA)(n i v p:Int):(sM u n i v p).st=(u p).st∧(sM u n i v p).bx=(u p).bx:=by
 unfold sM
 by_cases e:p=n
 ·subst e;rw[ae];exact⟨rfl,rfl⟩
 ·rw[ad _ _ e];exact⟨rfl,rfl⟩
theorem u5{u:Int→PA}{n:Int}(hn:0≤n∧n<20)(i v:Int)(h:∀ p,(p<0∨20≤p)→u p=PA.nil):∀ p,(p<0∨20≤p)→sM u n i v p=PA.nil:=fun p hp=>by
 unfold sM;rw[ad _ _ (by omega)];exact h p hp
theorem zv{u:Int→PA}{n i v:Int}(hv:0≤v∧v≤24)(h:∀ p j,0≤(u p).fd j∧(u p).fd j≤24):∀ p j,0≤(sM u n i v p).fd j∧(sM u n i v p).fd j≤24:=fun p j=>by
 unfold sM
 by_cases e:p=n
 ·subst e;rw[ae]
  show 0≤aa (u p).fd i v j∧aa (u p).fd i v j≤24
  by_cases f:j=i
  ·subst f;rw[ae];exact hv
  ·rw[ad _ _ f];exact h p j
 ·rw[ad _ _ e];exact h p j
theorem zT(a:KA)(b:KZ)(c:KC)(n i v:Int)(O:Tr.OS)(P:Tr.PS):(kp a b c).put n {(kp a b c).u n with fd:=aa ((kp a b c).u n).fd i v} =kp {a with u:=sM a.u n i v,O:=O,P:=P} b c:=(uZ a b c n {a.u n with fd:=aa (a.u n).fd i v} _ rfl).trans rfl
theorem H9(a:KA)(n i v:Int)(O:Tr.OS)(P:Tr.PS):bD {a with u:=sM a.u n i v,O:=O,P:=P} =bD a:=(gF fun m _ _=>by
 show _↔(sM a.u n i v m).st=0
 rw[(kt _ _ _ _ _).1]).symm
def KA.cC(a:KA)(n i:Int):Int:=if a.live n≠0 then a.live n else if i<0∨6≤i then 1 else if(a.u n).fd i=0 then 2 else 0
def KA.bP(a:KA)(n i:Int):Int:=if a.cC n i=0 then(a.u n).fd i-1 else 0
theorem KA.kq{a:KA}{n i:Int}(h:a.cC n i=0):(0≤n∧n<20)∧(a.u n).st=1∧(0≤i∧i<6)∧(a.u n).fd i≠0∧a.bP n i=(a.u n).fd i-1:=by
 have hv:a.bP n i=(a.u n).fd i-1:=by unfold KA.bP;rw[if_pos h]
 unfold KA.cC at h
 split at h
 ·omega
 ·split at h
  ·omega
  ·split at h
   ·omega
   ·have:=KA.kD (a:=a) (n:=n) (by omega)
    exact⟨this.1,this.2,by omega,by assumption,hv⟩
def KA.df(a:KA)(F:Tr.FF)(n i:Int):Int:=if a.cC n i≠0 then a.cC n i else Tr.df F a.P a.O (a.bP n i)
def KA.dz(a:KA)(n i:Int):KA:=if a.cC n i≠0 then a else {a with u:=sM a.u n i 0,O:=Tr.eK a.O (a.bP n i),P:=Tr.fx a.P a.O (a.bP n i)}
theorem KA.Ok.close{a:KA}{T:Int}(h:a.Ok T)(n i:Int):(a.dz n i).Ok T:=by
 unfold KA.dz;split
 ·exact h
 ·rename_i c
  obtain⟨hn,_,_,_,_⟩:=KA.kq (show a.cC n i=0 by omega)
  exact h.io (Int.le_refl _) h.wk.T0.2 (fun p=>(kt _ _ _ _ p).1) (fun p=>(kt _ _ _ _ p).2) (u5 hn _ _ h.wk.out) (zv (by omega) h.wk.fd) (OS.Inv.lz h.wk.OI _) (PS.lz h.wk.PI _ _)
def KA.slot(a:KA)(n:Int):Int:=fc (a.u n).fd 0
theorem uH(f:Int→Int)(x:Int)(h:¬fc f x<0):0≤fc f x∧fc f x<6∧x≤fc f x∧f (fc f x)=0:=by
 unfold fc at h ⊢
 cases e:ck (fun k=>decide (x≤k)&&(f k==0)) 6 with
 | none=>rw[e]at h;exact absurd (show(-1:Int)<0 by omega) h
 | some k=>
  obtain⟨h1,h2,_⟩:=Vm.fO e
  simp only[Bool.and_eq_true,decide_eq_true_eq,beq_iff_eq]at h2
  exact⟨by show(0:Int)≤(k:Int);omega,by show(k:Int)<6;omega,h2.1,h2.2⟩
def KA.rr(a:KA)(n:Int):Int:=fc (a.u n).fd (a.slot n+1)
def KA.je(a:KA)(n:Int):Int:=if a.live n≠0 then a.live n else if a.slot n<0∨a.rr n<0 then 4 else Tr.eL a.P a.O
def KA.kQ(a:KA)(n:Int):Int:=if a.je n=0 then a.slot n else 0
def KA.kN(a:KA)(n:Int):Int:=if a.je n=0 then a.rr n else 0
def KA.ec(a:KA)(n:Int):KA:=if a.live n≠0∨a.slot n<0∨a.rr n<0 then a else
 if Tr.eL a.P a.O=0 then {a with u:=sM (sM a.u n (a.slot n) (Tr.fZ a.P a.O+1)) n (a.rr n) (Tr.gG a.P a.O+1),O:=Tr.gk a.P a.O,P:=Tr.fX a.P a.O} else {a with O:=Tr.gk a.P a.O,P:=Tr.fX a.P a.O}
theorem uA(P:Tr.PS)(O:Tr.OS):(0≤Tr.fZ P O∧Tr.fZ P O<24)∧0≤Tr.gG P O∧Tr.gG P O<24:=by
 unfold Tr.fZ Tr.gG
 by_cases h:Tr.eL P O=0
 ·rw[if_pos h,if_pos h]
  unfold Tr.eL at h
  split at h
  ·omega
  ·rename_i c
   have h1:=Tr.OS.jY (s:=O) (fun q=>c (.inl q))
   have h2:=Tr.OS.jY (s:=O.lay O.first 2 0 false) (fun q=>c (.inr q))
   exact⟨⟨h1.1,h1.2.1⟩,h2.1,h2.2.1⟩
 ·rw[if_neg h,if_neg h];omega
theorem KA.Ok.pipe{a:KA}{T:Int}(h:a.Ok T)(hT:T≤900000)(hT1:1≤T)(n:Int):(a.ec n).Ok (T+1):=by
 have h2:=uA a.P a.O
 have hO:=h.wk.OI.pipe hT1 a.P
 have hP:=Tr.zV h.wk.PI (by omega) a.O
 unfold KA.ec;split
 ·exact h.up (by omega) (by omega)
 ·rename_i c
  have hn:=(KA.kD (show a.live n=0 by omega)).1
  split
  ·exact h.io (by omega) (by omega) (fun p=>((kt _ _ _ _ p).1).trans (kt _ _ _ _ p).1) (fun p=>((kt _ _ _ _ p).2).trans (kt _ _ _ _ p).2) (u5 hn _ _ (u5 hn _ _ h.wk.out)) (zv (by omega) (zv (by omega) h.wk.fd)) hO hP
  ·exact h.Od (by omega) (by omega) hO hP
def KA.jt(a:KA)(F:Tr.FF)(n i:Int)(x:ByteArray):KA:= {a with O:=Tr.dc F a.O (a.bP n i) x,P:=Tr.dp a.P a.O (a.bP n i) x}
def KA.bR(a:KA)(F:Tr.FF)(n i:Int)(x:ByteArray):Int:=if a.cC n i≠0 then a.cC n i else Tr.c9 F a.P a.O (a.bP n i) x
def KA.dE(a:KA)(F:Tr.FF)(n i:Int)(x:ByteArray):Int:=if a.cC n i≠0 then 0 else Tr.de F a.P a.O (a.bP n i) x
def KA.cm(a:KA)(F:Tr.FF)(n i:Int)(x:ByteArray):KA:=if a.cC n i≠0 then a else if Tr.c9 F a.P a.O (a.bP n i) x=12 then(a.jt F n i x).fA n 2 false else a.jt F n i x
theorem KA.Ok.wrote{a:KA}{T:Int}(h:a.Ok T)(hT:T≤900000)(F:Tr.FF)(n i:Int)(x:ByteArray):(a.jt F n i x).Ok (T+1):=
 h.Od (by omega) (by omega) (h.wk.OI.Lq F _ _) (Tr.wh h.wk.PI _ _ _)
theorem KA.Ok.write{a:KA}{T:Int}(h:a.Ok T)(hT:T≤900000)(F:Tr.FF)(n i:Int)(x:ByteArray):(a.cm F n i x).Ok (T+1):=by
 unfold KA.cm;split
 ·exact h.up (by omega) (by omega)
 ·split
  ·exact(h.wrote hT F n i x).send n 2 false (by simp)
  ·exact h.wrote hT F n i x
end Go.X.Kn

namespace Go.X.Kn
open Go Go.X
theorem Sys.Kb{v:Vm.VB}{f:Nat→Vm.MS}{k z c:Nat}(h:Vm.Sys v f k)(hz:z<k)(hc:c<k)(hne:c≠z)(hn:f c=Vm.MS.nil)(hk:k≤60):Vm.Sys (v.fork (f z)) (bJ (bJ f z (f z).bare) c (f z).bare) k:=by
 have hm:=h.mo z hz
 have hb:(f z).bare.Ok:=⟨hm.f,hm.lo,hm.un,fun _ _=>rfl,hm.inj⟩
 have e0:∀ g:Int,0≤g→Vm.cM (fun _:Int=>(0:Int)) g 16=0:=fun g hg=>by
  have key:∀ j,Vm.cM (fun _:Int=>(0:Int)) g j=0:=fun j=>by
   induction j with
   | zero=>rfl
   | succ j ih=>rw[Vm.cM,ih,if_neg (by omega)];rfl
  exact key 16
 refine⟨(h.acc.fork hm (fun g a b=>⟨Vm.rX f g hz,by have:=Vm.zF f g k;show Vm.oZ f g k≤1000;omega⟩)).congr (fun g a b=> ?_),fun j hj=> ?_⟩
 ·have e1:(bJ f z (f z).bare) c=Vm.MS.nil:=by rw[cV _ _ hne];exact hn
  rw[show bJ (bJ f z (f z).bare) c (f z).bare=Vm.bJ (Vm.bJ f z (f z).bare) c (f z).bare from rfl]
  rw[Vm.nL _ g hc,Vm.nL f g hz,show Vm.bJ f z (f z).bare c=Vm.MS.nil from e1]
  show _=Vm.oZ f g k-Vm.cM (f z).fr g 16+Vm.cM (f z).fr g 16-Vm.cM (fun _:Int=>(0:Int)) g 16+Vm.cM (f z).fr g 16
  rw[e0 g a];omega
 ·show(bJ (bJ f z (f z).bare) c (f z).bare j).Ok
  by_cases e:j=c
  ·subst e;rw[da];exact hb
  ·rw[cV _ _ e]
   by_cases e2:j=z
   ·subst e2;rw[da];exact hb
   ·rw[cV _ _ e2];exact h.mo j hj
def KA.free(a:KA):Int:=match ck (fun k=>decide ((a.u k).st=0)) 20 with
 | some k=>k
 | none=>20
theorem KA.iZ{a:KA}{c:Int}(h0:0≤c∧c<20)(h1:(a.u c).st=0)(h2:∀ j:Int,0≤j→j<c→(a.u j).st≠0):a.free=c:=by
 unfold KA.free
 rw[cU (k:=c) (m:=20) h0.1 (by omega) (decide_eq_true h1) (fun j j0 j1=>decide_eq_false (h2 j j0 j1))]
 show((c.toNat:Nat):Int)=c;omega
theorem KA.Ay{a:KA}(h:∀ j:Int,0≤j→j<20→(a.u j).st≠0):a.free=20:=by
 unfold KA.free
 rw[cF (fun j j0 j1=>decide_eq_false (h j j0 (by omega)))]
theorem KA.free_spec(a:KA):a.free=20∨((0≤a.free∧a.free<20)∧(a.u a.free).st=0):=by
 unfold KA.free
 cases e:ck (fun k=>decide ((a.u k).st=0)) 20 with
 | none=>exact .inl rfl
 | some k=>
  obtain⟨h1,h2,_⟩:=Vm.fO e
  exact .inr ⟨⟨by show(0:Int)≤(k:Int);omega,by show(k:Int)<20;omega⟩,of_decide_eq_true h2⟩
def yw(f:Int→Int)(O:Tr.OS):Nat→Tr.OS
 | 0=>O
 | k+1=>if f (k:Int)>0 then Tr.mJ (yw f O k) (f (k:Int)-1)else yw f O k
theorem Bh{f:Int→Int}(O:Tr.OS){i:Int}(hi:0≤i)(h:f i>0):yw f O (i+1).toNat=Tr.mJ (yw f O i.toNat) (f i-1):=by
 rw[show(i+1).toNat=i.toNat+1 by omega]
 conv=>lhs;unfold yw
 rw[show((i.toNat:Nat):Int)=i by omega,if_pos h]
theorem wZ{f:Int→Int}(O:Tr.OS){i:Int}(hi:0≤i)(h:¬f i>0):yw f O (i+1).toNat=yw f O i.toNat:=by
 rw[show(i+1).toNat=i.toNat+1 by omega]
 conv=>lhs;unfold yw
 rw[show((i.toNat:Nat):Int)=i by omega,if_neg h]
theorem qs{f:Int→Int}{O:Tr.OS}{T:Int}(h:O.Inv T):∀ k:Nat,(yw f O k).Inv (T+k)
 | 0=>by have:=h;simpa [yw]using this
 | k+1=>by
  have h1:=qs (f:=f) h k
  unfold yw
  split
  ·have:=h1.share (f (k:Int)-1)
   rwa[show T+(k:Int)+1=T+((k+1:Nat):Int) by omega]at this
  ·exact h1.mono (by omega)
def KA.sz(a:KA)(n:Int):Int:=(a.s.bZ n).1
def KA.res(a:KA)(n:Int):Int:=(a.f n.toNat).res
def KA.gC(a:KA)(n:Int):Gr.TG:=a.g.cg (a.u n).grp 1 (a.res n)
def KA.gE(a:KA)(n:Int):Int:=a.g.b8 (a.u n).grp 1 (a.res n)
def KA.Mh(a:KA)(n:Int)(own:Bool):Int:=if own then(a.s.add a.dep (a.sz n)).2.1 else 0
def KA.xo(a:KA)(n:Int)(own:Bool):Int:=if own then(a.s.add a.dep (a.sz n)).1 else a.sz n
def KA.sA(a:KA)(n:Int)(own:Bool):Sp.SS:=if own then(a.s.add a.dep (a.sz n)).2.2 else a.s
def KA.dA(a:KA)(n:Int)(own:Bool):Int→Nat:=if own then a.s.BZ a.dep (a.sz n)else a.dep
def KA.Eh(a:KA)(n:Int):PA:=⟨1,n,(a.u n).grp,0,(a.u n).fd,(a.u n).bx.child⟩
def KA.cS(a:KA)(n:Int)(own:Bool):KA:=
 {u:=aa a.u a.free (a.Eh n),g:=a.gC n,s:=((a.sA n own).enter (a.dA n own) (a.xo n own) a.free).2.2,dep:=a.dA n own,v:=a.v.fork (a.f n.toNat),f:=bJ (bJ a.f n.toNat (a.f n.toNat).bare) a.free.toNat (a.f n.toNat).bare,P:=a.P,O:=yw (a.u n).fd a.O 6}
def KA.eH(a:KA)(n:Int)(own:Bool):Int:=if a.live n≠0 then a.live n else if a.free=20 then 4 else if a.gE n≠0 then a.gE n else a.Mh n own
def KA.bK(a:KA)(n:Int)(own:Bool):KA:=if a.live n≠0∨a.free=20∨a.gE n≠0 then a else
 if a.Mh n own≠0 then {a with g:=(a.gC n).ea (a.u n).grp 1 (a.res n)} else a.cS n own
def KA.fu(a:KA)(n:Int)(own:Bool):Int:=if a.eH n own=0 then((a.cS n own).s.pid a.free (a.sz n)).1 else 0
theorem so{g:Gr.TG}{n p m:Int}(h:g.b8 n p m≠0):g.cg n p m=g:=if_neg h
theorem xb(x:Sg.BS):x.child.first 0=0:=by
 unfold Sg.BS.first
 rw[cF (fun j _ _=>by show(false&&_)=false;rfl)]
theorem SS.Inv.N4{s:Sp.SS}{dep:Int→Nat}(h:s.Inv dep){p:Int}(hp:0≤p∧p<20)(hl:0≤s.loc p):s.bZ p=(s.loc p,0)∧s.is (s.loc p)=0∧(0≤s.loc p∧s.loc p<6)∧s.here (s.loc p)=true:=by
 have h1:=h.loc p
 have h2:=h.at_ p hp.1 hp.2 hl
 refine⟨by unfold Sp.SS.bZ;rw[if_neg (by omega),if_neg (by omega)],?_,by omega,h2⟩
 unfold Sp.SS.is;rw[if_neg (by omega),if_pos h2]
theorem SS.Inv.kept{s:Sp.SS}{dep:Int→Nat}(h:s.Inv dep){n p:Int}(hn:0≤n∧n<6∧s.here n=true)(hp:0≤p∧p<20)(hl:¬ 0≤s.loc p){z q:Int}(hw:0≤s.bX z q):(s.cZ dep n p).bX z q=s.bX z q:=by
 obtain⟨e1,e2⟩:=Sp.oR p (s.cr dep n) s.bX (Sp.SS.pd h.D _ n rfl hn.1 hn.2.1 hn.2.2) (fun a _=>h.free hp hl a)
 show Sp.fv s.bX p (s.cr dep n) z q=_
 by_cases hm:z∈s.cr dep n
 ·obtain⟨k,_,_,k3,k4⟩:=e2 z hm
  rw[k4,if_neg (by rintro rfl;omega)]
 ·exact e1 z hm q
structure KA.yx (a:KA) (n:Int) (own:Bool):Prop where
 gL:(0≤a.free∧a.free<20)∧(a.u a.free).st=0
 loc:¬ 0≤(a.sA n own).loc a.free
 inv:(a.sA n own).Inv (a.dA n own)
 zr:0≤a.xo n own∧a.xo n own<6∧(a.sA n own).here (a.xo n own)=true
 is:(a.sA n own).is (a.xo n own)=0
 lo:(a.sA n own).loc=a.s.loc
 bX:(a.sA n own).bX=a.s.bX
 d0:a.dA n own 0=a.dep 0
 en:(a.cS n own).s=(a.sA n own).cZ (a.dA n own) (a.xo n own) a.free
 z:0≤a.sz n∧a.sz n<6∧a.s.here (a.sz n)=true
 cr:a.sz n∈(a.sA n own).cr (a.dA n own) (a.xo n own)
 hr:∀ y,a.s.here y=true→(a.sA n own).here y=true
theorem KA.Wk.N0{a:KA}{T:Int}(w:a.Wk T)(hh:a.s.here 0=true){n:Int}{own:Bool}(hl:a.live n=0)(hf:a.free≠20)(hE:a.Mh n own=0):a.yx n own:=by
 obtain⟨hn,hs⟩:=KA.kD hl
 have hrng:=a.free_spec.resolve_left hf
 have h1:=(w.lc n hn.1 hn.2).1 (by omega)
 obtain⟨i1,i2,i3,i4⟩:=SS.Inv.N4 w.sI hn h1
 have ez:a.sz n=a.s.loc n:=by unfold KA.sz;rw[i1]
 have hlo:¬ 0≤a.s.loc a.free:=fun q=>((w.lc _ hrng.1.1 hrng.1.2).2 q) hrng.2
 cases own with
 | false=>
  have e1:a.sA n false=a.s:=rfl
  have e2:a.dA n false=a.dep:=rfl
  have e3:a.xo n false=a.s.loc n:=ez
  refine⟨hrng,hlo,w.sI,by rw[e3];exact⟨i3.1,i3.2,i4⟩,by rw[e3];exact i2,rfl,rfl,rfl,?_,by rw[ez];exact⟨i3.1,i3.2,i4⟩,?_,fun y q=>q⟩
  ·show(a.s.enter a.dep (a.xo n false) a.free).2.2=_
   rw[e3,Sp.SS.nQ i2 (by omega) hlo];rfl
  ·rw[ez,e3]
   show _∈a.s.cr a.dep (a.s.loc n)
   unfold Sp.SS.cr
   obtain⟨d1,_,_⟩:=w.sI.D.d _ i3.1 i3.2 i4
   obtain⟨k,hk⟩:∃ k,a.dep (a.s.loc n)=k+1:=⟨a.dep (a.s.loc n)-1,by omega⟩
   rw[hk];exact .head _
 | true=>
  have hE:(a.s.add a.dep (a.sz n)).2.1=0:=hE
  rcases a.s.iA a.dep (a.sz n)with⟨q,_,_⟩ | ⟨k,q1,q2,q3,q4,q5⟩
  ·exact absurd hE q
  ·have e1:a.sA n true= {a.s with here:=aa a.s.here k true,par:=aa a.s.par k (a.sz n)} :=by show(a.s.add a.dep (a.sz n)).2.2=_;rw[q5]
   have e2:a.dA n true=aa a.dep k (a.dep (a.sz n)+1):=by show a.s.BZ a.dep (a.sz n)=_;unfold Sp.SS.BZ;rw[if_pos hE,q5]
   have e3:a.xo n true=k:=by show(a.s.add a.dep (a.sz n)).1=k;rw[q5]
   have hkh:(a.sA n true).here k=true:=by rw[e1];exact ae _ _ _
   have his:(a.sA n true).is k=0:=by unfold Sp.SS.is;rw[if_neg (by omega),if_pos hkh]
   have hlo2:¬ 0≤(a.sA n true).loc a.free:=by rw[e1];exact hlo
   have hk0:(0:Int)≠k:=by rintro rfl;rw[hh]at q4;cases q4
   have hkz:a.sz n≠k:=by rintro e;rw[ez]at e;rw[e,q4]at i4;cases i4
   refine⟨hrng,hlo2,w.sI.add _,by rw[e3];exact⟨q3.1,q3.2,hkh⟩,by rw[e3];exact his,by rw[e1],by rw[e1],by rw[e2,ad _ _ hk0],?_,by rw[ez];exact⟨i3.1,i3.2,i4⟩,?_,fun y q=> ?_⟩
   ·show((a.sA n true).enter (a.dA n true) (a.xo n true) a.free).2.2=_
    rw[e3,Sp.SS.nQ his (by omega) hlo2]
   ·rw[e3,e2,e1]
    unfold Sp.SS.cr
    rw[ae]
    refine .tail _ ?_
    show a.sz n∈Sp.SS.eD _ (a.dep (a.sz n)) (aa a.s.par k (a.sz n) k)
    rw[ae]
    obtain⟨d1,_,_⟩:=w.sI.D.d _ i3.1 i3.2 i4
    obtain⟨j,hj⟩:∃ j,a.dep (a.sz n)=j+1:=⟨a.dep (a.sz n)-1,by rw[ez];omega⟩
    rw[hj];exact .head _
   ·rw[e1]
    show aa a.s.here k true y=true
    by_cases e:y=k
    ·subst e;exact ae _ _ _
    ·rw[ad _ _ e];exact q
theorem KA.yx.HH{a:KA}{n:Int}{own:Bool}(h:a.yx n own):(a.cS n own).s.loc=aa a.s.loc a.free (a.xo n own):=by
 rw[h.en];show aa (a.sA n own).loc a.free (a.xo n own)=_;rw[h.lo]
theorem KA.yx.qV{a:KA}{n:Int}{own:Bool}(h:a.yx n own):(a.cS n own).s.here=(a.sA n own).here:=by rw[h.en];rfl
theorem KA.yx.keep{a:KA}{n:Int}{own:Bool}(h:a.yx n own){z q:Int}(hw:0≤a.s.bX z q):(a.cS n own).s.bX z q=a.s.bX z q:=by
 rw[h.en,SS.Inv.kept h.inv h.zr h.gL.1 h.loc (by rw[h.bX];exact hw),h.bX]
theorem KA.yx.sI{a:KA}{n:Int}{own:Bool}(h:a.yx n own):(a.cS n own).s.Inv (a.dA n own):=by rw[h.en];exact h.inv.cZ h.zr h.gL.1 h.loc
theorem KA.yx.pid{a:KA}{n:Int}{own:Bool}(h:a.yx n own):((a.cS n own).s.pid a.free (a.sz n)).2=0∧(a.cS n own).s.bX (a.sz n) ((a.cS n own).s.pid a.free (a.sz n)).1=a.free∧1≤((a.cS n own).s.pid a.free (a.sz n)).1∧((a.cS n own).s.pid a.free (a.sz n)).1≤20:=by
 have hI:=h.sI
 have hl:(a.cS n own).s.loc a.free=a.xo n own:=by rw[h.HH,ae]
 have hway:(a.cS n own).s.cr (a.dA n own) (a.xo n own)=(a.sA n own).cr (a.dA n own) (a.xo n own):=by
  rw[h.en];exact Sp.SS.iM (s:=a.sA n own) (s':=(a.sA n own).cZ (a.dA n own) (a.xo n own) a.free) rfl _ _
 obtain⟨q,hq⟩:=hI.has a.free h.gL.1.1 h.gL.1.2 (by rw[hl];exact h.zr.1) (a.sz n) (by rw[hl,hway];exact h.cr)
 have hzh:(a.cS n own).s.here (a.sz n)=true:=by rw[h.qV];exact h.hr _ h.z.2.2
 have his:(a.cS n own).s.is (a.sz n)=0:=by unfold Sp.SS.is;rw[if_neg (by have:=h.z;omega),if_pos hzh]
 obtain⟨_,q2,q3,_⟩:=hI.mem _ q a.free h.gL.1.1 hq
 have e:(a.cS n own).s.pid a.free (a.sz n)=(q,0):=Sp.SS.jM his (by have:=h.gL;omega) (by omega) hq (fun j j0 j1 e=>by
  have:=hI.inj (a.sz n) q j (by rw[hq];exact h.gL.1.1) (e.trans hq.symm)
  omega)
 rw[e]
 exact⟨rfl,hq,by show 1≤q;omega,by show q≤20;omega⟩
theorem KA.Ok.cS{a:KA}{T:Int}(h:a.Ok T)(hT:T≤900000){n:Int}{own:Bool}(hl:a.live n=0)(hf:a.free≠20)(hE:a.Mh n own=0):(a.cS n own).Ok (T+10):=by
 have w:=h.wk
 have hI:=w.N0 (SS.Inv.ep w.sI h.r0.loc) hl hf hE
 have hrg:=hI.gL.1
 obtain⟨hn,hs⟩:=KA.kD hl
 have hne:n≠a.free:=by rintro e;have:=hI.gL.2;rw[←e,hs]at this;exact absurd this (by decide)
 have hu:∀ m,m≠a.free→(a.cS n own).u m=a.u m:=fun m hm=>ad _ _ hm
 have huc:(a.cS n own).u a.free=a.Eh n:=ae _ _ _
 have hnil:a.f a.free.toNat=Vm.MS.nil:=w.nilf _ hI.gL.1.1 hI.gL.1.2 (by rw[hI.gL.2];decide)
 refine⟨⟨⟨by have:=w.T0;omega,by omega⟩,w.gI.cg _ _ _,(w.gS.cg w.gI.ok _ _ _).mono (by omega),hI.sI,?_,fun m a0 a1 q=> ?_,w.PI.mono (by omega),(qs w.OI 6).mono (by omega),fun m a0 a1=> ?_,fun m=> ?_,fun m hm=> ?_,fun m i=> ?_,fun m=> ?_⟩,fun p h0 h1 _ h3=> ?_,⟨?_,?_,?_⟩,hI.d0.trans h.d0⟩
 ·exact Sys.Kb w.sys (by omega) (by omega) (by omega) hnil (by omega)
 ·by_cases e:m=a.free
  ·subst e;rw[huc]at q;exact absurd rfl q
  ·rw[hu m e]at q
   show bJ (bJ a.f n.toNat _) a.free.toNat _ m.toNat=_
   have:m≠n:=by rintro rfl;exact q hs
   rw[cV _ _ (by omega),cV _ _ (by omega)]
   exact w.nilf m a0 a1 q
 ·rw[hI.HH]
  by_cases e:m=a.free
  ·subst e;rw[huc,ae]
   exact⟨fun _=>hI.zr.1,fun _=>(by decide:(1:Int)≠0)⟩
  ·rw[hu m e,ad _ _ e];exact w.lc m a0 a1
 ·by_cases e:m=a.free
  ·subst e;rw[huc];exact .inr (.inl rfl)
  ·rw[hu m e];exact w.st m
 ·have:=hI.gL
  rw[hu m (by omega)];exact w.out m hm
 ·by_cases e:m=a.free
  ·subst e;rw[huc];exact w.fd n i
  ·rw[hu m e];exact w.fd m i
 ·by_cases e:m=a.free
  ·subst e;rw[huc];rfl
  ·rw[hu m e];exact w.bx m
 ·by_cases e:p=a.free
  ·subst e;rw[huc];exact .inl (xb _)
  ·rw[hu p e]at h3 ⊢
   rw[hI.HH,ad _ _ e]
   rcases h.hx p h0 h1 (by omega) h3 with q | q
   ·exact .inl q
   ·right;rw[hI.keep (by rw[q];exact h0)];exact q
 ·rw[hu 0 (by rintro e;have:=hI.gL.2;rw[←e,h.r0.st]at this;exact absurd this (by decide))];exact h.r0.st
 ·rw[hI.HH,ad _ _ (by rintro e;have:=hI.gL.2;rw[←e,h.r0.st]at this;exact absurd this (by decide))];exact h.r0.loc
 ·rw[hI.keep (by rw[h.r0.bX];omega)];exact h.r0.bX
theorem KA.Wk.K1{a:KA}{T T':Int}(w:a.Wk T)(hT:T≤T')(hT':T'≤1000000){g:Gr.TG}(hg:g.Inv)(hS:g.Small (1000*T')):({a with g:=g} :KA).Wk T':=⟨⟨by have:=w.T0;omega,hT'⟩,hg,hS,w.sI,w.sys,w.nilf,w.PI.mono hT,w.OI.mono hT,w.lc,w.st,w.out,w.fd,w.bx⟩
theorem KA.Ok.K1{a:KA}{T T':Int}(h:a.Ok T)(hT:T≤T')(hT':T'≤1000000){g:Gr.TG}(hg:g.Inv)(hS:g.Small (1000*T')):({a with g:=g} :KA).Ok T':=⟨h.wk.K1 hT hT' hg hS,h.hx.same (fun _=>⟨rfl,rfl⟩) rfl,h.r0.same rfl rfl,h.d0⟩
theorem KA.Ok.fork{a:KA}{T:Int}(h:a.Ok T)(hT:T≤900000)(n:Int)(own:Bool):(a.bK n own).Ok (T+10):=by
 unfold KA.bK;split
 ·exact h.up (by omega) (by omega)
 ·rename_i c
  split
  ·exact h.K1 (by omega) (by omega) ((h.wk.gI.cg _ _ _).ea _ _ _) (TG.GJ (h.wk.gI.cg _ _ _) ((h.wk.gS.cg h.wk.gI.ok _ _ _).mono (by omega)) _ _ _)
  ·exact h.cS hT (by omega) (by omega) (by omega)
structure WF where
 kids:Int
 child:Int
 pid:Int
 code:Int
def KA.cG(a:KA)(n:Int):Nat→WF
 | 0=>⟨0,-1,0,0⟩
 | k+1=>
  if(a.u (k:Int)).st=0∨(a.u (k:Int)).par≠n then a.cG n k else
  if(a.s.pid k (a.sz n)).2=0∧(a.u (k:Int)).st=2∧((a.cG n k).child<0∨(a.s.pid k (a.sz n)).1<(a.cG n k).pid)then⟨(a.cG n k).kids+1,k,(a.s.pid k (a.sz n)).1,(a.u (k:Int)).code⟩
  else⟨(a.cG n k).kids+1,(a.cG n k).child,(a.cG n k).pid,(a.cG n k).code⟩
def KA.ir(a:KA)(n:Int):Int:=if a.live n≠0 then a.live n else if(a.cG n 20).kids=0 then 2 else if(a.cG n 20).child<0 then 8 else 0
def KA.dO(a:KA)(n:Int):KA:=if a.ir n=0 then(a.cy (a.cG n 20).child).bB (a.sz (a.cG n 20).child)else a
def KA.lg(a:KA)(n:Int):Int:=if a.ir n=0 then(a.cG n 20).pid else 0
def KA.lx(a:KA)(n:Int):Int:=if a.ir n=0 then(a.cG n 20).code else 0
def KA.WI(a:KA)(n:Int)(x:WF)(k:Int):Prop:=(0≤x.kids∧x.kids≤k)∧(x.child<0∨((0≤x.child∧x.child<k)∧(a.u x.child).st=2∧(a.u x.child).par=n∧a.s.pid x.child (a.sz n)=(x.pid,0)∧x.code=(a.u x.child).code))
theorem KA.vN(a:KA)(n:Int):∀ k:Nat,a.WI n (a.cG n k) k
 | 0=>⟨⟨Int.le_refl _,Int.le_refl _⟩,.inl (by show(-1:Int)<0;omega)⟩
 | k+1=>by
  obtain⟨h1,h2⟩:=a.vN n k
  unfold KA.cG
  split
  ·refine⟨by omega,?_⟩
   rcases h2 with q | ⟨q1,q2,q3⟩
   ·exact .inl q
   ·exact .inr ⟨by omega,q2,q3⟩
  ·rename_i c
   split
   ·rename_i d
    refine⟨by show 0≤_+(1:Int)∧_+(1:Int)≤_;omega,.inr ⟨by show(0:Int)≤(k:Int)∧(k:Int)<_;omega,d.2.1,Decidable.byContradiction fun q=>c (.inr q),Prod.ext rfl d.1,rfl⟩⟩
   ·refine⟨by show 0≤_+(1:Int)∧_+(1:Int)≤_;omega,?_⟩
    rcases h2 with q | ⟨q1,q2,q3⟩
    ·exact .inl q
    ·exact .inr ⟨⟨q1.1,Int.lt_trans q1.2 (by omega)⟩,q2,q3⟩
theorem KA.zx{a:KA}{n:Int}(h:a.ir n=0):a.live n=0∧(0≤(a.cG n 20).child∧(a.cG n 20).child<20)∧(a.u (a.cG n 20).child).st=2∧(a.u (a.cG n 20).child).par=n∧a.s.pid (a.cG n 20).child (a.sz n)=((a.cG n 20).pid,0)∧(a.cG n 20).code=(a.u (a.cG n 20).child).code:=by
 unfold KA.ir at h
 split at h
 ·omega
 ·split at h
  ·omega
  ·split at h
   ·omega
   ·have:=(a.vN n 20).2.resolve_left (by assumption)
    exact⟨by omega,this⟩
theorem KA.Ok.yb{a:KA}{T:Int}(h:a.Ok T){m:Int}(hm:0≤m∧m<20)(hs:(a.u m).st=2):(a.cy m).Ok T:=
 ⟨h.wk.cy hm (by omega),h.hx.cy,h.r0.yb (by rintro rfl;have:=h.r0.st;omega),h.d0⟩
theorem KA.Ok.shut{a:KA}{T:Int}(h:a.Ok T)(z:Int):(a.bB z).Ok T:=⟨h.wk.bB z,h.hx.bB z,h.r0.shut z,h.d0⟩
theorem KA.Ok.wait{a:KA}{T:Int}(h:a.Ok T)(n:Int):(a.dO n).Ok T:=by
 unfold KA.dO;split
 ·rename_i c
  obtain⟨_,h2,h3,_⟩:=KA.zx c
  exact(h.yb h2 h3).shut _
 ·exact h
theorem A9{a:KA}{b:KZ}{c c':KC}{T:Int}(w:a.Wk T){n:Int}{own:Bool}(hI:a.yx n own){nb:Nat}(hm:c'.mb=bJ c.mb a.free.toNat nb){K:KP}(hu:K.u=(kp a b c).u)(hk:(K.gb=b.gb∧K.sb=b.sb∧K.qb=b.qb∧K.bb=b.bb)∧K.tb=b.tb∧K.pi=b.pi∧K.ob=b.ob)(hms:K.ms=(kp (a.cS n own) b c').ms):K.put a.free ((kp a b c).dI n nb)=kp (a.cS n own) b c':=by
 refine KP.ext (fun m=> ?_) hms hk
 by_cases e:m=a.free
 ·subst e
  rw[KP.gr]
  show _=(aa a.u a.free (a.Eh n) a.free).pu (c'.mb a.free.toNat)
  rw[ae,hm,da]
  rfl
 ·rw[KP.fV _ _ e,hu]
  show(a.u m).pu (c.mb m.toNat)=(aa a.u a.free (a.Eh n) m).pu (c'.mb m.toNat)
  rw[ad _ _ e,hm]
  by_cases q:m.toNat=a.free.toNat
  ·have:=hI.gL
   rw[w.out m (by omega)];rfl
  ·rw[cV _ _ q]
theorem xy{a:KA}{n:Int}{own:Bool}(hI:a.yx n own):bD (a.cS n own)=tH (bD a) a.free.toNat:=(gF fun _ _ _=>Iff.rfl).trans (AX (p:=a.Eh n) hI.gL.1 (by decide:(1:Int)≠0))
theorem Ev{a:KA}{n:Int}(hI:a.yx n false):bI (a.cS n false)=bI a:=by
 unfold bI;rw[hI.qV];rfl
theorem CP{a:KA}{n:Int}(hI:a.yx n true)(hE:(a.s.add a.dep (a.s.bZ n).1).2.1=0):bI (a.cS n true)=tH (bI a) (a.s.add a.dep (a.s.bZ n).1).1.toNat:=by
 have h2:(a.sA n true).here=aa a.s.here (a.s.add a.dep (a.s.bZ n).1).1 true:=by
  show(a.s.add a.dep (a.s.bZ n).1).2.2.here=_
  rcases a.s.iA a.dep (a.s.bZ n).1 with⟨q,_,_⟩ | ⟨k,_,_,_,_,q5⟩
  ·exact absurd hE q
  ·rw[q5]
 have hz:=hI.zr
 have hz:0≤(a.s.add a.dep (a.s.bZ n).1).1∧(a.s.add a.dep (a.s.bZ n).1).1<6:=⟨hz.1,hz.2.1⟩
 funext j
 rw[Bool.eq_iff_iff,eQ,ky,ky,hI.qV,h2]
 by_cases e:(j:Int)=(a.s.add a.dep (a.s.bZ n).1).1
 ·rw[e,ae]
  exact⟨fun _=>.inr (by omega),fun _=>⟨by omega,rfl⟩⟩
 ·rw[ad _ _ e]
  constructor
  ·rintro q;exact .inl q
  ·rintro(q | q)
   ·exact q
   ·exact absurd q (by omega)
theorem jg(F:Tr.FF)(n:Int):(F.hold n).roots=F.roots:=by unfold Tr.FF.hold;split<;>rfl
theorem pF:∀ (l:List Tr.MT) (F:Tr.FF),(Tr.np F l).roots=F.roots
 | [],_=>rfl
 | m::r,F=>(pF r _).trans ((jg _ _).trans (jg _ _))
theorem kA(F:Tr.FF)(l:List Tr.MT)(r:Tr.WH):(Tr.Ec F l r).roots=F.roots:=(pF l _).trans (jg _ _)
theorem SS.uS{s:Sp.SS}{dep:Int→Nat}{p:Int}(h:(s.add dep p).2.1=0):(0≤(s.add dep p).1∧(s.add dep p).1<6)∧s.here (s.add dep p).1=false∧(s.add dep p).2.2.here=aa s.here (s.add dep p).1 true:=by
 rcases s.iA dep p with⟨q,_,_⟩ | ⟨k,_,_,h3,h4,q5⟩
 ·exact absurd h q
 ·rw[q5];exact⟨h3,h4,rfl⟩
theorem LB{a:KA}{z:Int}(h:0≤z∧z<6)(hs:a.s.here z=false):bI a z.toNat=false:=by
 rw[←Bool.not_eq_true,ky]
 rintro⟨_,q⟩
 rw[show((z.toNat:Nat):Int)=z from by omega,hs]at q;cases q
theorem Gu{a:KA}{n:Int}(h:0≤n∧n<20)(hs:(a.u n).st=0):bD a n.toNat=false:=by
 rw[←Bool.not_eq_true]
 unfold bD
 rw[decide_eq_true_iff]
 rintro⟨_,q⟩
 rw[show((n.toNat:Nat):Int)=n from by omega]at q
 exact q hs
theorem KA.fJ(a:KA)(n:Int){i:Int}(h:0≤i):a.cG n (i+1).toNat=if(a.u i).st=0∨(a.u i).par≠n then a.cG n i.toNat else if(a.s.pid i (a.sz n)).2=0∧(a.u i).st=2∧((a.cG n i.toNat).child<0∨(a.s.pid i (a.sz n)).1<(a.cG n i.toNat).pid)then⟨(a.cG n i.toNat).kids+1,i,(a.s.pid i (a.sz n)).1,(a.u i).code⟩else⟨(a.cG n i.toNat).kids+1,(a.cG n i.toNat).child,(a.cG n i.toNat).pid,(a.cG n i.toNat).code⟩:=by
 rw[show(i+1).toNat=i.toNat+1 by omega]
 conv=>lhs;unfold KA.cG
 rw[show((i.toNat:Nat):Int)=i by omega]
end Go.X.Kn

namespace Go.X.Kn
open Go Go.X
structure KI (k:KP) (mb:Nat→Nat) (s:Sp.SS):Prop where
 dI:Ot k mb
 inv:s.Inv (fun _=>1)
 h0:s.here 0=true
 hN:∀ n,s.here n=true→n=0
 loc:∀ n,0≤n→n<20→(0≤s.loc n↔(k.u n).st≠0)
 one:s.bX 0 1=0
 st0:(k.u 0).st=1
section
variable {k:KP} {mb:Nat→Nat} {s:Sp.SS}
theorem KI.hz(h:KI k mb s)(t:Int):(s.bZ t).1=0:=by
 unfold Sp.SS.bZ
 split
 ·rfl
 ·split
  ·rfl
  ·exact h.hN _ (h.inv.at_ t (by omega) (by omega) (by omega))
theorem KI.N4(h:KI k mb s):s.is 0=0:=by unfold Sp.SS.is;rw[if_neg (by omega),if_pos h.h0]
theorem KI.has(h:KI k mb s){t:Int}(ht:0≤t∧t<20)(hs:(k.u t).st≠0):(s.pid t 0).2=0∧(1≤(s.pid t 0).1∧(s.pid t 0).1≤20)∧s.bX 0 (s.pid t 0).1=t:=by
 have hl:=(h.loc t ht.1 ht.2).2 hs
 have hl0:s.loc t=0:=h.hN _ (h.inv.at_ t ht.1 ht.2 hl)
 have hw:(0:Int)∈s.cr (fun _=>1) (s.loc t):=by rw[hl0];show(0:Int)∈s.eD 1 0;simp[Sp.SS.eD]
 obtain⟨q,hq⟩:=h.inv.has t ht.1 ht.2 hl 0 hw
 have hm:=h.inv.mem 0 q t ht.1 hq
 unfold Sp.SS.pid
 rw[if_neg (by rw[h.N4];omega),if_neg (by omega)]
 rw[cU (k:=q) (by omega) (by omega) (by simp[hq]) (fun j h1 h2=>by
  cases e:(s.bX 0 j==t)with
  | false=>rfl
  | true=>
   have e:s.bX 0 j=t:=by simpa using e
   have:=h.inv.inj 0 q j (by omega) (by omega)
   omega)]
 show(0:Int)=0∧(1≤((q.toNat:Nat):Int)∧((q.toNat:Nat):Int)≤20)∧s.bX 0 ((q.toNat:Nat):Int)=t
 rw[show((q.toNat:Nat):Int)=q from by omega]
 exact⟨rfl,by omega,hq⟩
theorem KI.uniq(h:KI k mb s){p q:Int}(hp:0≤s.bX 0 p)(e:s.bX 0 q=s.bX 0 p):q=p:=h.inv.inj 0 p q hp e
theorem KI.yb(h:KI k mb s){t:Int}(ht:0≤t∧t<20)(hs:(k.u t).st=2):KI (k.put t PU.nil) mb (s.leave t).2∧∀ p,(s.leave t).2.bX 0 p=if s.bX 0 p=t then-1 else s.bX 0 p:=by
 have hl:=(h.loc t ht.1 ht.2).2 (by omega)
 have h0:t≠0:=fun e=>by rw[e,h.st0]at hs;omega
 have he:(s.leave t).2=s.left t:=by
  unfold Sp.SS.leave Sp.SS.bZ
  rw[if_neg (c:=t<0∨20≤t) (by omega),if_neg (c:=s.loc t<0) (by omega),if_neg (by simp)]
 have hi:=h.inv.left (p:=t) ht.1
 rw[he]
 refine⟨⟨⟨fun m a b=> ?_,fun m a b hm=> ?_,fun m=> ?_,fun m i=> ?_,fun m=> ?_⟩,hi,h.h0,h.hN,fun m a b=> ?_,?_,?_⟩,fun p=>rfl⟩
 ·by_cases e:m=t
  ·rw[e,KP.gr];exact .inl rfl
  ·rw[KP.fV _ _ e];exact h.dI.st m a b
 ·by_cases e:m=t
  ·rw[e,KP.gr]at hm;exact absurd rfl hm
  ·rw[KP.fV _ _ e]at hm ⊢;exact h.dI.mem m a b hm
 ·by_cases e:m=t
  ·rw[e,KP.gr];rfl
  ·rw[KP.fV _ _ e];exact h.dI.grp m
 ·by_cases e:m=t
  ·rw[e,KP.gr];rfl
  ·rw[KP.fV _ _ e];exact h.dI.fd m i
 ·by_cases e:m=t
  ·rw[e,KP.gr];rfl
  ·rw[KP.fV _ _ e];exact h.dI.bx m
 ·show 0≤aa s.loc t (-1) m↔_
  by_cases e:m=t
  ·rw[e,ae,KP.gr]
   exact⟨fun q=>absurd q (by omega),fun q=>absurd rfl q⟩
  ·rw[ad _ _ e,KP.fV _ _ e];exact h.loc m a b
 ·show(if s.bX 0 1=t then-1 else s.bX 0 1)=0
  rw[h.one,if_neg (fun e=>h0 e.symm)]
 ·rw[KP.fV _ _ (fun e=>h0 e.symm)];exact h.st0
def EN(k:KP)(s:Sp.SS)(en:Int→Bool)(cd:Int→Int):Prop:=
 ∀ p,2≤p→p<21→(en p=true↔(0≤s.bX 0 p∧(k.u (s.bX 0 p)).st=2))∧(en p=true→cd p=(k.u (s.bX 0 p)).code)
theorem EN.yb{en:Int→Bool}{cd:Int→Int}(h:KI k mb s)(hE:EN k s en cd){t p0:Int}{s':Sp.SS}(ht:0≤t)(hp0:s.bX 0 p0=t)(hw:∀ p,s'.bX 0 p=if s.bX 0 p=t then-1 else s.bX 0 p):EN (k.put t PU.nil) s' (aa en p0 false) cd:=by
 intro p a b
 have e:=hE p a b
 rw[hw]
 by_cases d:p=p0
 ·subst d
  rw[ae,if_pos hp0]
  exact⟨⟨fun g=>absurd g (by simp),fun g=>absurd g.1 (by omega)⟩,fun g=>absurd g (by simp)⟩
 ·rw[ad _ _ d]
  have hne:¬s.bX 0 p=t:=fun f=>d (h.uniq (p:=p0) (by omega) (by omega))
  rw[if_neg hne]
  rw[KP.fV _ _ hne];exact e
end
theorem J9:∀ p:Int,S0.bX 0 p=if p=1 then 0 else-1:=fun p=>by
 have h:S0.bX=aX Sp.SS.init.bX 0 1 0:=by rfl
 rw[h]
 unfold aX
 by_cases c:p=1
 ·rw[if_pos ⟨rfl,c⟩,if_pos c]
 ·rw[if_neg (fun q=>c q.2),if_neg c];rfl
structure KX where
 k:KP
 mb:Nat→Nat
 s:Sp.SS
 g:Gr.TG
 q:Fa.SC
 d:Int→Nat
 m:Nat
 en:Int→Bool
 cd:Int→Int
 ps:Nat→Option Addr
 cs:Nat→Nat
structure KX.Ok (x:KX) (i:Int):Prop where
 I:KI x.k x.mb x.s
 E:EN x.k x.s x.en x.cd
 gI:x.g.Inv
 gS:x.g.Small (1000*i+1000)
 qO:x.q.toSF.Ok x.d x.m 1
 qR:x.q.jy
theorem jQ.ld1(a b:Int):0+1<2∧jQ a b (0+1)= .int .i64 b:=⟨by omega,rfl⟩
section
variable {k:KP} {mb:Nat→Nat} {s:Sp.SS}
theorem KI.wait(h:KI k mb s){t pid:Int}(ht:0≤t∧t<20)(hs:(k.u t).st=2)(hp:s.pid t 0=(pid,0)):(2≤pid∧pid≤20)∧s.bX 0 pid=t:=by
 obtain⟨_,h2,h3⟩:=h.has ht (by omega)
 rw[hp]at h2 h3
 have h2:1≤pid∧pid≤20:=h2
 have h3:s.bX 0 pid=t:=h3
 have:pid≠1:=fun e=>by
  rw[e,h.one]at h3
  rw[←h3,h.st0]at hs;omega
 exact⟨by omega,h3⟩
end
end Go.X.Kn

namespace Go.X.Kn
open Go Go.X
def A0:KA:= {u:=aa (fun _=>PA.nil) 0 ⟨1,-1,0,0,fun _=>0,Sg.BS.init⟩,g:=G0,s:=S0,dep:=fun _=>1,v:=Vm.VB.init,f:=fun _=>Vm.MS.nil,P:=Tr.PS.init,O:=Tr.OS.void}
theorem vL(g:Int)(hg:0≤g):∀ k,Vm.oZ (fun _=>Vm.MS.nil) g k=0
 | 0=>rfl
 | k+1=>by
  have e:∀ j,Vm.cM Vm.MS.nil.fr g j=0:=fun j=>by
   induction j with
   | zero=>rfl
   | succ j ih=>rw[Vm.cM,ih,show Vm.MS.nil.fr j=0 from rfl,if_neg (by omega)];rfl
  rw[Vm.oZ,vL g hg k,e];rfl
theorem xP(n:Int):A0.u n=if n=0 then⟨1,-1,0,0,fun _=>0,Sg.BS.init⟩else PA.nil:=rfl
theorem yc:A0.Ok 2:=by
 have hS:S0=Sp.SS.init.cZ (fun _=>1) 0 0:=by rfl
 refine⟨⟨by omega,Gr.TG.Inv.init.cg 0 1 0,(Gr.TG.Small.init.cg Gr.TG.Inv.init.ok 0 1 0).mono (by omega),Sp.SS.Inv.init.enter 0 0,⟨Vm.Sys.init.acc.congr (fun g a b=>(vL g a 1).trans (vL g a 20).symm),fun _ _=>Vm.MS.Ok.nil⟩,fun _ _ _ _=>rfl,Tr.PS.Inv.init.mono (by omega),Tr.OS.Inv.void.mono (by omega),fun m a b=> ?_,fun n=> ?_,fun n hn=> ?_,fun n i=> ?_,fun n=> ?_⟩,fun p _ _ _ _=>.inl ?_,⟨rfl,rfl,by show S0.bX 0 1=0;rw[J9,if_pos rfl]⟩,rfl⟩
 ·show _↔0≤aa (Sp.sW 20) 0 0 m
  rw[xP]
  by_cases c:m=0
  ·subst c;rw[ae,if_pos rfl];exact⟨fun _=>Int.le_refl 0,fun _=>(by decide:(1:Int)≠0)⟩
  ·rw[ad _ _ c,if_neg c]
   unfold Sp.sW
   rw[if_pos (by omega)]
   exact⟨fun q=>absurd rfl q,fun q=>absurd q (by omega)⟩
 ·rw[xP];split
  ·exact .inr (.inl rfl)
  ·exact .inl rfl
 ·rw[xP,if_neg (by omega)]
 ·rw[xP];split<;>exact⟨Int.le_refl 0,by show(0:Int)≤24;omega⟩
 ·rw[xP];split<;>rfl
 ·have e:(A0.u p).bx=Sg.BS.init:=by rw[xP];split<;>rfl
  rw[e];exact Quiet.init.e
theorem Ga(b:KZ)(c:KC):Jp (kp A0 b c) (c.mb 0):=⟨by
 funext n
 show(A0.u n).pu (c.mb n.toNat)=_
 by_cases h:n=0
 ·subst h;rw[ae];rfl
 ·rw[ad _ _ h,xP,if_neg h];rfl⟩
theorem KU:bD A0=tH (fun _=>false) (0:Int).toNat:=by
 have h:=AX (a:= {A0 with u:=fun _=>PA.nil}) (n:=0) (p:=⟨1,-1,0,0,fun _=>0,Sg.BS.init⟩) ⟨by omega,by omega⟩ (by decide)
 have e:bD {A0 with u:=fun _=>PA.nil} =fun _=>false:=by
  funext j;unfold bD;exact decide_eq_false (fun q=>q.2 rfl)
 rw[e]at h
 exact h
theorem LU:bI A0=tH (fun _=>false) (0:Int).toNat:=by
 have h0:∀ z:Int,A0.s.here z=decide (z=0):=fun z=>by
  show aa (fun _=>false) 0 true z=_
  by_cases e:z=0
  ·subst e;rw[ae];rfl
  ·rw[ad _ _ e,decide_eq_false e]
 funext j
 rw[Bool.eq_iff_iff,ky,eQ,h0,decide_eq_true_iff]
 constructor
 ·rintro⟨_,q⟩;exact .inr (by omega)
 ·rintro(q | q)
  ·cases q
  ·exact⟨by omega,by omega⟩
theorem IX(z:Int):S0.here z=decide (z=0):=by
 show aa (fun _=>false) 0 true z=_
 by_cases e:z=0
 ·subst e;rw[ae];rfl
 ·rw[ad _ _ e,decide_eq_false e]
theorem LR(b:KZ)(c:KC)(ob mb:Nat)(t:TB)(hm:c.mb=bJ (fun _=>0) (0:Int).toNat mb)(ht:c.t=bJ (fun _=>t) (0:Int).toNat t)(K:KP)(hK:K= {KP.raw b.gb b.sb b.qb b.bb b.tb b.pi with ob:=b.ob}):({K with ms:=aa K.ms 0 (ptr t.b 0 0)} :KP).put 0 (qE mb)=kp A0 b c:=by
 subst hK
 refine KP.ext (fun m=> ?_) ?_ ⟨⟨rfl,rfl,rfl,rfl⟩,rfl,rfl,rfl⟩
 ·show _=(A0.u m).pu (c.mb m.toNat)
  by_cases e:m=0
  ·subst e;rw[KP.gr,hm,da];rfl
  ·rw[KP.fV _ _ e,xP,if_neg e];rfl
 ·show aa (fun _=>Value.pointer none) 0 (ptr t.b 0 0)=fun z=>if S0.here z then ptr (c.t z.toNat).b 0 0 else .pointer none
  rw[ht]
  funext z
  rw[IX]
  by_cases e:z=0
  ·subst e;rw[ae,da];rfl
  ·rw[ad _ _ e,decide_eq_false e];rfl
end Go.X.Kn
