import Derived.Test.YthdinakloheinaaGreatDoorkJBG
import Derived.Test.YthdinakloheinaaGreatDoorkJN1
namespace Go.X.Kn
open Go Go.X
theorem xT{f g:Int→Bool} :∀ (k:Nat),(∀ j:Int,0≤j→j<k→f j=g j)→Tr.kH f k=Tr.kH g k
 | 0,_=>rfl
 | k+1,h=>by
  unfold Tr.kH
  rw[xT k (fun j a b=>h j a (by omega)),h (k:Int) (by omega) (by omega)]
theorem xH{f:Int→Bool}{n:Int}(hf:f n=true):∀ (k:Nat),0≤n→n<k→1≤Tr.kH f k
 | 0,h0,h1=>by omega
 | k+1,h0,h1=>by
  unfold Tr.kH
  by_cases e:(k:Int)=n
  ·rw[e,hf];have:=Tr.Bp f k;simp;omega
  ·have:=xH hf k h0 (by omega)
   split<;>omega
def KA.NW(a:KA):Int→Bool:=fun j=>decide ((a.u j).st=1)
def KA.p6(a:KA):Int:=Tr.kH a.NW 20
structure TK (a:KA):Prop where
 bx:∀ n,(a.u n).bx=Sg.BS.init
 f0:∀ n,(a.u n).st=1→(a.u n).fd 0=1
 f1:∀ n,(a.u n).st=1→(a.u n).fd 1=2
 f2:∀ n i,(a.u n).st=1→2≤i→i<6→(a.u n).fd i=0
 k0:a.O.kind 0=2
 k1:a.O.kind 1=3
 n0:a.O.n 0=0
 n1:a.O.n 1=0
 r0:a.O.refs 0=a.p6
 r1:a.O.refs 1=a.p6
 e0:a.P.e 0 0=1
 e1:a.P.e 0 1=1
 s0:(a.u 0).st=1
theorem TK.NT{a:KA}(h:TK a):1≤a.p6:=xH (n:=0) (by unfold KA.NW;rw[h.s0];rfl) 20 (by omega) (by omega)
theorem TK.same{a a':KA}(h:TK a)(hb:∀ n,(a'.u n).bx=Sg.BS.init)(hs:∀ n,(a'.u n).st=1↔(a.u n).st=1)(hf:∀ n,(a'.u n).st=1→(a'.u n).fd=(a.u n).fd)(hO:a'.O=a.O)(hP:a'.P=a.P):TK a':=by
 have hc:a'.p6=a.p6:=xT 20 (fun j _ _=>by unfold KA.NW;rw[decide_eq_decide];exact hs j)
 exact⟨hb,fun n q=>by rw[hf n q];exact h.f0 n ((hs n).1 q),fun n q=>by rw[hf n q];exact h.f1 n ((hs n).1 q),fun n i q=>by rw[hf n q];exact h.f2 n i ((hs n).1 q),by rw[hO];exact h.k0,by rw[hO];exact h.k1,by rw[hO];exact h.n0,by rw[hO];exact h.n1,by rw[hO,hc];exact h.r0,by rw[hO,hc];exact h.r1,by rw[hP];exact h.e0,by rw[hP];exact h.e1,(hs 0).2 h.s0⟩
theorem TK.aI{a:KA}(h:TK a):a.O.is 0=0∧a.O.is 1=0:=by
 have:=h.NT
 unfold Tr.OS.is
 rw[h.r0,h.r1]
 exact⟨by rw[if_neg (by omega),if_neg (by omega)],by rw[if_neg (by omega),if_neg (by omega)]⟩
theorem TK.yb{a:KA}(h:TK a){n:Int}(hs:(a.u n).st≠1):TK (a.cy n):=by
 have hst:∀ m,((a.cy n).u m).st=1↔(a.u m).st=1:=fun m=>by
  by_cases e:m=n
  ·subst e
   rw[show(a.cy m).u m=PA.nil from ae _ _ _]
   exact⟨fun q=>absurd (show(0:Int)=1 from q) (by decide),fun q=>absurd q hs⟩
  ·rw[kZ _ e]
 refine h.same (fun m=> ?_) hst (fun m q=> ?_) rfl rfl
 ·exact gl a.u n m _ (Q:=fun z=>z.bx=Sg.BS.init) (fun _=>rfl) (fun _=>h.bx m)
 ·have:m≠n:=by rintro rfl;exact hs ((hst m).1 q)
  rw[kZ _ this]
theorem TK.shut{a:KA}(h:TK a)(z:Int):TK (a.bB z):=h.same h.bx (fun _=>Iff.rfl) (fun _ _=>rfl) rfl rfl
theorem DS:(Sg.BS.init.send 3).2=Sg.BS.init:=Quiet.init.dI
theorem TK.dI{a:KA}(h:TK a)(p:Int):TK (a.dB p)∧(a.dB p).P=a.P:=by
 unfold KA.dB;split
 ·refine⟨h.same (fun m=> ?_) (fun m=>by rw[eB]) (fun m _=> ?_) rfl rfl,rfl⟩
  ·by_cases e:m=p
   ·subst e;rw[nN,h.bx];exact DS
   ·rw[kf _ _ e];exact h.bx m
  ·by_cases e:m=p
   ·subst e;rw[nN]
   ·rw[kf _ _ e]
 ·exact⟨h,rfl⟩
theorem TK.wait{a:KA}(h:TK a)(n:Int):TK (a.dO n)∧(a.dO n).P=a.P:=by
 unfold KA.dO;split
 ·rename_i c
  obtain⟨_,_,h3,_⟩:=KA.zx c
  exact⟨(h.yb (by rw[h3];decide)).shut _,rfl⟩
 ·exact⟨h,rfl⟩
theorem TK.open_{a:KA}(h:TK a){n:Int} :(a.cC n 0=0→a.bP n 0=0)∧(a.cC n 1=0→a.bP n 1=1):=by
 refine⟨fun q=> ?_,fun q=> ?_⟩
 ·obtain⟨_,hs,_,_,e⟩:=KA.kq q
  rw[e,h.f0 n hs];rfl
 ·obtain⟨_,hs,_,_,e⟩:=KA.kq q
  rw[e,h.f1 n hs];rfl
theorem TK.Oo{a:KA}(h:TK a):a.P.is 0=0:=by
 unfold Tr.PS.is;rw[if_neg (by omega),h.e0,h.e1,if_neg (by omega)]
theorem TK.MZ{a:KA}(h:TK a){P:Tr.PS}(he:P.e=a.P.e):TK {a with O:=a.O,P:=P} :=⟨h.bx,h.f0,h.f1,h.f2,h.k0,h.k1,h.n0,h.n1,h.r0,h.r1,by show P.e 0 0=1;rw[he];exact h.e0,by show P.e 0 1=1;rw[he];exact h.e1,h.s0⟩
theorem TK.write{a:KA}(h:TK a)(hl:(a.P.b 0).size≤12)(F:Tr.FF)(n:Int)(x:ByteArray):TK (a.cm F n 1 x)∧((a.bR F n 1 x=0∧0≤a.dE F n 1 x∧a.dE F n 1 x≤12∧a.dE F n 1 x≤x.size∧(a.cm F n 1 x).P.b 0=a.P.b 0++x.extract 0 (a.dE F n 1 x).toNat)∨(a.bR F n 1 x≠0∧(a.cm F n 1 x).P.b 0=a.P.b 0)):=by
 by_cases c:a.cC n 1=0
 ·have hv:=h.open_.2 c
  obtain⟨_,i1⟩:=h.aI
  have hE:Tr.c9 F a.P a.O (a.bP n 1) x=(a.P.write 0 x).2.1:=by unfold Tr.c9;rw[hv,if_neg (by omega),if_pos h.k1,h.n1]
  have hV:Tr.de F a.P a.O (a.bP n 1) x=(a.P.write 0 x).1:=by unfold Tr.de;rw[hv,if_pos ⟨i1,h.k1⟩,h.n1]
  have hO:Tr.dc F a.O (a.bP n 1) x=a.O:=by unfold Tr.dc;rw[hv,if_neg (fun q=>q.1.2.1 h.k1)]
  have hP:Tr.dp a.P a.O (a.bP n 1) x=(a.P.write 0 x).2.2:=by unfold Tr.dp;rw[hv,if_pos ⟨i1,h.k1⟩,h.n1]
  have hw:a.P.write 0 x=if min (x.size:Int) (12-(a.P.b 0).size)=0∧x.size>0 then(0,13,a.P)else(min (x.size:Int) (12-(a.P.b 0).size),0,{a.P with b:=aa a.P.b 0 (a.P.b 0++x.extract 0 (min (x.size:Int) (12-(a.P.b 0).size)).toNat)}):=by
   unfold Tr.PS.write
   rw[if_neg (by rw[h.Oo];decide),if_neg (by rw[h.e1];decide),if_neg (by rw[h.e0];decide)]
  have hne:(a.P.write 0 x).2.1≠12:=by
   rw[hw]
   split
   ·exact(by decide:(13:Int)≠12)
   ·exact(by decide:(0:Int)≠12)
  have hA:a.cm F n 1 x= {a with O:=a.O,P:=(a.P.write 0 x).2.2} :=by
   unfold KA.cm KA.jt
   rw[if_neg (fun q=>q c),hE,if_neg hne,hO,hP]
  have e1:a.bR F n 1 x=(a.P.write 0 x).2.1:=by unfold KA.bR;rw[if_neg (fun q=>q c),hE]
  have e2:a.dE F n 1 x=(a.P.write 0 x).1:=by unfold KA.dE;rw[if_neg (fun q=>q c),hV]
  rw[hA,e1,e2,hw]
  split
  ·exact⟨h.MZ rfl,.inr ⟨(by decide:(13:Int)≠0),rfl⟩⟩
  ·rename_i d
   exact⟨h.MZ rfl,.inl ⟨rfl,by show 0≤min _ _;omega,by show min _ _≤_;omega,by show min _ _≤_;omega,(ae a.P.b 0 (a.P.b 0++x.extract 0 (min (x.size:Int) (12-(a.P.b 0).size)).toNat))⟩⟩
 ·have hA:a.cm F n 1 x=a:=by unfold KA.cm;rw[if_pos c]
  rw[hA]
  exact⟨h,.inr ⟨by unfold KA.bR;rw[if_pos c];exact c,rfl⟩⟩
end Go.X.Kn

namespace Go.X.Kn
open Go Go.X
theorem Nf:A0.je 0=0:=by decide+kernel
theorem MU:A0.kQ 0=0:=by decide+kernel
theorem M8:A0.kN 0=1:=by decide+kernel
def A1:KA:=A0.ec 0
structure TL where
 a:KA
 c:KC
 inn:ByteArray
 out:ByteArray
structure TL.Ok (x:TL) (i:Int):Prop where
 i0:0≤i∧i≤1000
 ok:x.a.Ok (10+30*i)
 tk:TK x.a
 con:dq x.a x.c (1+i.toNat) (10+30*i)
 io:x.inn=x.out++x.a.P.b 0
 sz:(x.inn.size:Int)≤12*i
theorem TL.Ok.step{x:TL}{i:Int}(h:x.Ok i)(hi:i<1000){a:KA}{c:KC}{T:Int}{N:Nat}(ok:a.Ok T)(tk:TK a)(hT:T≤10+30*(i+1))(con:dq a c N T)(hN:N≤1+i.toNat+1)(hP:a.P.b 0=x.a.P.b 0):TL.Ok ⟨a,c,x.inn,x.out⟩ (i+1):=
 ⟨by have:=h.i0;omega,ok.up hT (by have:=h.i0;omega),tk,con.up (by have:=h.i0;omega) hT,by rw[show(⟨a,c,x.inn,x.out⟩:TL).inn=x.inn from rfl,h.io,←hP],by have:=h.sz;show(x.inn.size:Int)≤_;omega⟩
theorem TL.Ok.wrote{x:TL}{i:Int}(h:x.Ok i)(hi:i<1000){a:KA}{c:KC}{T:Int}{N:Nat}(ok:a.Ok T)(tk:TK a)(hT:T≤10+30*(i+1))(con:dq a c N T)(hN:N≤1+i.toNat+1){t:ByteArray}{k:Int}(k0:0≤k∧k≤12∧k≤t.size)(hP:a.P.b 0=x.a.P.b 0++t.extract 0 k.toNat):TL.Ok ⟨a,c,x.inn++t.extract 0 k.toNat,x.out⟩ (i+1):=
 ⟨by have:=h.i0;omega,ok.up hT (by have:=h.i0;omega),tk,con.up (by have:=h.i0;omega) hT,by show x.inn++_=x.out++a.P.b 0;rw[hP,h.io,ByteArray.append_assoc],by
  have:=h.sz
  show((x.inn++t.extract 0 k.toNat).size:Int)≤_
  rw[ByteArray.size_append,ByteArray.size_extract];omega⟩
end Go.X.Kn

namespace Go.X.Kn
open Go Go.X
def iW(a:KA):Nat→KA
 | 0=>a
 | k+1=>(iW a k).bK 0 false
def kn(a:KA):Nat→KA
 | 0=>a
 | k+1=>(kn a k).cD (2+(k:Int)) 0
def j8(a:KA):Nat→KA
 | 0=>a
 | k+1=>(j8 a k).dO 0
def B2:KA:=A1.bK 0 false
def B3(h:Int):KA:=B2.iw 1 2 h
def B4(h:Int)(o:Bool):KA:=(B3 h).bU 1 2 o
def B5(h:Int)(o:Bool):KA:=(B4 h o).dz 1 0
def xB:ByteArray:=⟨#[120]⟩
def C1(h:Int)(o:Bool)(m:Nat):KA:=(iW (B5 h o) m).dz 0 0
def W1(h:Int)(o:Bool)(m:Nat):KA:=(C1 h o m).cm Tr.FF.void 1 1 xB
def E1(h:Int)(o:Bool)(m:Nat):KA:=kn (W1 h o m) m
def D1(h:Int)(o:Bool)(m:Nat):KA:=if m=0 then W1 h o m else(E1 h o m).cm Tr.FF.void 1 1 xB
theorem I4:A1.eH 0 false=0∧A1.fu 0 false=2:=by decide+kernel
def KV(h:Int)(o:Bool)(m:Nat):Bool:=
 decide (B2.vF 1 2 h=0∧(B3 h).gU 1 2 o=0∧(B4 h o).df Tr.FF.void 1 0=0∧(B4 h o).cC 1 0=0∧(B4 h o).O.kind ((B4 h o).bP 1 0)=2)&&
 (List.range m).all (fun i=>decide ((iW (B5 h o) i).eH 0 false=0))&&
 decide ((iW (B5 h o) m).df Tr.FF.void 0 0=0∧(iW (B5 h o) m).cC 0 0=0∧(iW (B5 h o) m).O.kind ((iW (B5 h o) m).bP 0 0)=2∧(C1 h o m).cC 1 1=0∧(C1 h o m).O.kind ((C1 h o m).bP 1 1)=3)&&
 (if m=0 then decide ((C1 h o m).bR Tr.FF.void 1 1 xB=12∧(C1 h o m).dE Tr.FF.void 1 1 xB=0)else decide ((C1 h o m).bR Tr.FF.void 1 1 xB=0∧(C1 h o m).dE Tr.FF.void 1 1 xB=1))&&
 (List.range m).all (fun k=>decide ((kn (W1 h o m) k).du (2+(k:Int)) 0=0))&&
 (if m=0 then true else decide ((E1 h o m).bR Tr.FF.void 1 1 xB=12∧(E1 h o m).dE Tr.FF.void 1 1 xB=0∧(E1 h o m).cC 1 1=0∧(E1 h o m).O.kind ((E1 h o m).bP 1 1)=3))
def IU(h:Int)(o:Bool)(m:Nat):Bool:=
 if h=0∧o=false then decide ((D1 h o m).live 1=2)&&(List.range (m+1)).all (fun k=>decide ((j8 (D1 h o m) k).ir 0=0∧((j8 (D1 h o m) k).lg 0=2→(j8 (D1 h o m) k).lx 0=130)))
 else decide ((D1 h o m).live 1=0∧((D1 h o m).s.pid 1 ((D1 h o m).s.bZ 1).1).2=0∧((D1 h o m).gZ 1=0↔(h=2∧o=false))∧((D1 h o m).gZ 1=0→(D1 h o m).nS 1=2))
set_option maxRecDepth 100000 in
theorem Gm:([0,1,2]:List Int).all (fun h=>[false,true].all fun o=>(List.range 11).all fun m=>KV h o m)=true:=by decide+kernel
set_option maxRecDepth 100000 in
theorem El:([0,1,2]:List Int).all (fun h=>[false,true].all fun o=>(List.range 11).all fun m=>IU h o m)=true:=by decide+kernel
theorem Hg {h : Int} (h0 : 0 ≤ h ∧ h ≤ 2) (o : Bool) {m : Nat} (hm : m ≤ 10) : KV h o m = true := by
  have e := Gm
  rw [List.all_eq_true] at e
  have e1 := e h (by have : h = 0 ∨ h = 1 ∨ h = 2 := by omega
                     rcases this with rfl | rfl | rfl <;> decide)
  rw [List.all_eq_true] at e1
  have e2 := e1 o (by cases o <;> decide)
  rw [List.all_eq_true] at e2
  exact e2 m (List.mem_range.2 (by omega))
theorem Af {h : Int} (h0 : 0 ≤ h ∧ h ≤ 2) (o : Bool) {m : Nat} (hm : m ≤ 10) : IU h o m = true := by
  have e := El
  rw [List.all_eq_true] at e
  have e1 := e h (by have : h = 0 ∨ h = 1 ∨ h = 2 := by omega
                     rcases this with rfl | rfl | rfl <;> decide)
  rw [List.all_eq_true] at e1
  have e2 := e1 o (by cases o <;> decide)
  rw [List.all_eq_true] at e2
  exact e2 m (List.mem_range.2 (by omega))
theorem vU{a:KA}{n i:Int}(F F':Tr.FF)(h:a.cC n i=0)(hk:a.O.kind (a.bP n i)=2):a.df F n i=a.df F' n i:=by
 have k1:¬a.O.kind (a.bP n i)=1:=by rw[hk];decide
 unfold KA.df Tr.df
 rw[if_neg k1,if_neg k1]
theorem vn{a:KA}{n i:Int}{x:ByteArray}(F F':Tr.FF)(h:a.cC n i=0)(hk:a.O.kind (a.bP n i)=3):a.bR F n i x=a.bR F' n i x∧a.dE F n i x=a.dE F' n i x∧a.cm F n i x=a.cm F' n i x:=by
 have e1:∀ G:Tr.FF,Tr.c9 G a.P a.O (a.bP n i) x=if a.O.is (a.bP n i)≠0 then a.O.is (a.bP n i)else(a.P.write (a.O.n (a.bP n i)) x).2.1:=fun G=>by unfold Tr.c9;rw[if_pos hk]
 have hf:¬Tr.pC a.O (a.bP n i):=fun q=>q.2.1 hk
 have e2:∀ G:Tr.FF,Tr.de G a.P a.O (a.bP n i) x=if a.O.is (a.bP n i)=0∧a.O.kind (a.bP n i)=3 then(a.P.write (a.O.n (a.bP n i)) x).1 else 0:=fun G=>by
  unfold Tr.de
  split
  ·rfl
  ·rw[if_neg (fun q=>hf q.1)]
 have e3:∀ G:Tr.FF,Tr.dc G a.O (a.bP n i) x=a.O:=fun G=>by unfold Tr.dc;rw[if_neg (fun q=>hf q.1)]
 have e4:∀ G:Tr.FF,a.jt G n i x= {a with O:=a.O,P:=Tr.dp a.P a.O (a.bP n i) x} :=fun G=>by unfold KA.jt;rw[e3]
 refine⟨by unfold KA.bR;rw[e1,e1],by unfold KA.dE;rw[e2,e2],by unfold KA.cm;rw[e1,e1,e4,e4]⟩
structure BK (h:Int) (o:Bool) (m:Nat):Prop where
 bd:B2.vF 1 2 h=0
 hold:(B3 h).gU 1 2 o=0
 cl1:∀ F,(B4 h o).df F 1 0=0
 fk:∀ i,i<m→(iW (B5 h o) i).eH 0 false=0
 cl0:∀ F,(iW (B5 h o) m).df F 0 0=0
 w0:m=0→∀ F,(C1 h o m).bR F 1 1 xB=12∧(C1 h o m).dE F 1 1 xB=0∧(C1 h o m).cm F 1 1 xB=D1 h o m
 w1:m≠0→∀ F,(C1 h o m).bR F 1 1 xB=0∧(C1 h o m).dE F 1 1 xB=1∧(C1 h o m).cm F 1 1 xB=W1 h o m
 ex:∀ k,k<m→(kn (W1 h o m) k).du (2+(k:Int)) 0=0
 w2:m≠0→∀ F,(E1 h o m).bR F 1 1 xB=12∧(E1 h o m).dE F 1 1 xB=0∧(E1 h o m).cm F 1 1 xB=D1 h o m
theorem BK.of{h:Int}(h0:0≤h∧h≤2)(o:Bool){m:Nat}(hm:m≤10):BK h o m:=by
 have e:=Hg h0 o hm
 unfold KV at e
 simp only[Bool.and_eq_true,decide_eq_true_eq,List.all_eq_true,List.mem_range]at e
 obtain⟨⟨⟨⟨⟨⟨a1,a2,a3,a4,a5⟩,b⟩,c1,c2,c3,c4,c5⟩,d⟩,f⟩,g⟩:=e
 refine⟨a1,a2,fun F=>(vU F Tr.FF.void a4 a5).trans a3,b,fun F=>(vU F Tr.FF.void c2 c3).trans c1,fun q F=> ?_,fun q F=> ?_,f,fun q F=> ?_⟩
 ·rw[if_pos q,decide_eq_true_eq]at d
  obtain⟨w1,w2,w3⟩:=vn (x:=xB) F Tr.FF.void c4 c5
  refine⟨w1.trans d.1,w2.trans d.2,w3.trans ?_⟩
  unfold D1;rw[if_pos q];rfl
 ·rw[if_neg q,decide_eq_true_eq]at d
  obtain⟨w1,w2,w3⟩:=vn (x:=xB) F Tr.FF.void c4 c5
  exact⟨w1.trans d.1,w2.trans d.2,w3.trans rfl⟩
 ·rw[if_neg q,decide_eq_true_eq]at g
  obtain⟨g1,g2,g3,g4⟩:=g
  obtain⟨w1,w2,w3⟩:=vn (x:=xB) F Tr.FF.void g3 g4
  refine⟨w1.trans g1,w2.trans g2,w3.trans ?_⟩
  unfold D1;rw[if_neg q]
theorem BK.ends{h:Int}{o:Bool}(h0:h=0∧o=false){m:Nat}(hm:m≤10):(D1 h o m).live 1=2∧∀ k,k≤m→(j8 (D1 h o m) k).ir 0=0∧((j8 (D1 h o m) k).lg 0=2→(j8 (D1 h o m) k).lx 0=130):=by
 have e:=Af (h:=h) (by omega) o hm
 unfold IU at e
 rw[if_pos h0]at e
 simp only[Bool.and_eq_true,decide_eq_true_eq,List.all_eq_true,List.mem_range]at e
 exact⟨e.1,fun k hk=>e.2 k (by omega)⟩
theorem BK.stays{h:Int}(h0:0≤h∧h≤2){o:Bool}(hn:¬(h=0∧o=false)){m:Nat}(hm:m≤10):(D1 h o m).live 1=0∧((D1 h o m).s.pid 1 ((D1 h o m).s.bZ 1).1).2=0∧((D1 h o m).gZ 1=0↔(h=2∧o=false))∧((D1 h o m).gZ 1=0→(D1 h o m).nS 1=2):=by
 have e:=Af h0 o hm
 unfold IU at e
 rw[if_neg hn,decide_eq_true_eq]at e
 exact e
theorem wG:B2.Ok 23:=(((yc.pipe (by omega) (by omega) 0).fork (by omega) 0 false).up (by omega) (by omega):B2.Ok 23)
theorem wP(h:Int)(o:Bool):(B3 h).Ok 23∧(B4 h o).Ok 23∧(B5 h o).Ok 23:=⟨wG.bd 1 2 h,(wG.bd 1 2 h).hold 1 2 o,((wG.bd 1 2 h).hold 1 2 o).close 1 0⟩
theorem tJ(h:Int)(o:Bool):∀ i:Nat,i≤10→(iW (B5 h o) i).Ok (23+20*(i:Int))
 | 0,_=>(wP h o).2.2.up (by omega) (by omega)
 | i+1,hi=>((tJ h o i (by omega)).fork (by omega) 0 false).up (by omega) (by omega)
theorem FY(h:Int)(o:Bool){m:Nat}(hm:m≤10):(C1 h o m).Ok (23+20*(m:Int)):=(tJ h o m hm).close 0 0
theorem JW(h:Int)(o:Bool){m:Nat}(hm:m≤10):(W1 h o m).Ok (23+20*(m:Int)+1):=(FY h o hm).write (by omega) _ _ _ _
theorem uf(h:Int)(o:Bool){m:Nat}(hm:m≤10):∀ k:Nat,(kn (W1 h o m) k).Ok (23+20*(m:Int)+1)
 | 0=>JW h o hm
 | k+1=>(uf h o hm k).cD _ _
theorem sG(h:Int)(o:Bool){m:Nat}(hm:m≤10):(D1 h o m).Ok (23+20*(m:Int)+2):=by
 unfold D1;split
 ·exact(JW h o hm).up (by omega) (by omega)
 ·exact((uf h o hm m).write (by omega) _ _ _ _).up (by omega) (by omega)
theorem Gx(h:Int)(o:Bool){m:Nat}(hm:m≤10):∀ k:Nat,(j8 (D1 h o m) k).Ok (23+20*(m:Int)+2)
 | 0=>sG h o hm
 | k+1=>(Gx h o hm k).wait 0
end Go.X.Kn

namespace Go.X.Kn
open Go Go.Proofs Go.X
set_option maxRecDepth 20000
set_option maxHeartbeats 4000000
attribute [local irreducible] KA.bn KA.bV
set_option maxHeartbeats 8000000 in
theorem Al(a:KA)(b:KZ)(c:KC)(N:Nat)(T:Int)(ho:a.Ok T)(hc:dq a c N T)(hT:T≤800000)(n:Int):Spec Tryz.prog 17 [ptr b.kb 0 0,.int .i64 n] [.cells b.kb 0 453 (ah (kp a b c)),.cells b.gb 0 60 (Gr.ay a.g),.cells b.sb 0 158 (Sp.aA a.s),.cells b.qb 0 2281 (Fa.ao c.q),.fam Fa.aL (Fa.SC.rows 254 c.q),.cells b.bb 0 577 (Vm.bu b.vp a.v.by_ a.v.rf),.cells b.vp 0 71 (Vm.aq a.v.bb.bA),.cfam (bD a) c.mb 34 (cN b.bb a.f c.pp c.cc),.fam (bD a) (rN 171 a.f c.pp c.cc),.cells b.tb 0 321 (Tr.av c.F),.fam Tr.ai (Tr.FC.aJ 9 c.F),.fam Tr.ai (Tr.FC.aK 3 c.F),bk c.rp c.rc 3 c.rl,.cells b.pi 0 24 (Tr.aq a.P),.cells b.ob 0 122 (Tr.aD b.tb b.pi a.O),.cfam (bI a) (fun z=>(c.t z).b) 4 (cT b.tb c.t),.fam (bI a) (rT 168 c.t)] (fun v H1=>v= .tuple #[.agg #[.int .i64 (a.lg n),.int .i64 (a.lx n)],bM 102 (a.ir n)]∧∃ c1:KC,dq (a.dO n) c1 N T∧H1=[.cells b.kb 0 453 (ah (kp (a.dO n) b c1)),.cells b.gb 0 60 (Gr.ay (a.dO n).g),.cells b.sb 0 158 (Sp.aA (a.dO n).s),.cells b.qb 0 2281 (Fa.ao c1.q),.fam Fa.aL (Fa.SC.rows 254 c1.q),.cells b.bb 0 577 (Vm.bu b.vp (a.dO n).v.by_ (a.dO n).v.rf),.cells b.vp 0 71 (Vm.aq (a.dO n).v.bb.bA),.cfam (bD (a.dO n)) c1.mb 34 (cN b.bb (a.dO n).f c1.pp c1.cc),.fam (bD (a.dO n)) (rN 171 (a.dO n).f c1.pp c1.cc),.cells b.tb 0 321 (Tr.av c1.F),.fam Tr.ai (Tr.FC.aJ 9 c1.F),.fam Tr.ai (Tr.FC.aK 3 c1.F),bk c1.rp c1.rc 3 c1.rl,.cells b.pi 0 24 (Tr.aq (a.dO n).P),.cells b.ob 0 122 (Tr.aD b.tb b.pi (a.dO n).O),.cfam (bI (a.dO n)) (fun z=>(c1.t z).b) 4 (cT b.tb c1.t),.fam (bI (a.dO n)) (rT 168 c1.t)]):=by
 refine Spec.go 115 [0,1,4,5,7,8,9,10,11,12,13,14,22,26,27,47,83,95,100] [] Tryz.func17 rfl rfl rfl ?_
 intro W
 refine XO.cY (z:=.agg #[.int .i64 0,.int .i64 0]) (m:=2) (C:=jQ 0 0) (by kernel_rfl) rfl jQ.box rfl ?_
 intro b4
 refine gO ?_
 refine ca (gu b.kb (kp a b c) n) (.cons (.there .here) .nil) ?_
 rintro _ _ ⟨⟨hl,rfl⟩ | ⟨hl,rfl⟩,rfl⟩
 ·
  try dsimp only[aC,aS,aM,aR,aN,aP,aQ,aU,aO,aT,aG,aH,aB,aF]
  obtain⟨hlr,hls⟩:=KP.dN hl
  have hl:a.live n=0:=hl
  have hls:(a.u n).st=1:=hls
  refine gO ?_
  refine XO.v (V.build (vs:= #[]) rfl (v:=.agg #[.int .i64 0,.int .i64 0]) (fun _=>by kernel_rfl)) rfl (gO ?_)
  refine XO.cY (z:=.agg #[.int .i64 0,.int .i64 0]) (m:=2) (C:=jQ 0 0) (by kernel_rfl) rfl jQ.box rfl ?_
  intro b10
  refine gO ?_
  refine jA .here (jQ.st _ _ _ _) rfl ⟨rfl,rfl⟩ ?_
  refine lp (σ:=Int×WF) (fun x=>(20-x.1).toNat) (fun x=>(0≤x.1∧x.1≤20)∧x.2=a.cG n x.1.toNat) (fun x=>[(26,.int .i64 x.1),(9,.int .i64 x.2.kids),(8,.int .i64 x.2.child),(0,ptr b.kb 0 0),(1,.int .i64 n),(4,ptr b4 0 0),(10,ptr b10 0 0)]) (fun x=>XM W (bS [.cells b.kb 0 453 (ah (kp a b c)),.cells b.gb 0 60 (Gr.ay a.g),.cells b.sb 0 158 (Sp.aA a.s),.cells b.qb 0 2281 (Fa.ao c.q),.fam Fa.aL (Fa.SC.rows 254 c.q),.cells b.bb 0 577 (Vm.bu b.vp a.v.by_ a.v.rf),.cells b.vp 0 71 (Vm.aq a.v.bb.bA),.cfam (bD a) c.mb 34 (cN b.bb a.f c.pp c.cc),.fam (bD a) (rN 171 a.f c.pp c.cc),.cells b.tb 0 321 (Tr.av c.F),.fam Tr.ai (Tr.FC.aJ 9 c.F),.fam Tr.ai (Tr.FC.aK 3 c.F),bk c.rp c.rc 3 c.rl,.cells b.pi 0 24 (Tr.aq a.P),.cells b.ob 0 122 (Tr.aD b.tb b.pi a.O),.cfam (bI a) (fun z=>(c.t z).b) 4 (cT b.tb c.t),.fam (bI a) (rT 168 c.t)]) [.cells b.kb 0 453 (ah (kp a b c)),.cells b.sb 0 158 (Sp.aA a.s),.cells b10 0 2 (jQ x.2.pid x.2.code),.cells b4 0 2 (jQ 0 0),.cells b.gb 0 60 (Gr.ay a.g),.cells b.qb 0 2281 (Fa.ao c.q),.fam Fa.aL (Fa.SC.rows 254 c.q),.cells b.bb 0 577 (Vm.bu b.vp a.v.by_ a.v.rf),.cells b.vp 0 71 (Vm.aq a.v.bb.bA),.cfam (bD a) c.mb 34 (cN b.bb a.f c.pp c.cc),.fam (bD a) (rN 171 a.f c.pp c.cc),.cells b.tb 0 321 (Tr.av c.F),.fam Tr.ai (Tr.FC.aJ 9 c.F),.fam Tr.ai (Tr.FC.aK 3 c.F),bk c.rp c.rc 3 c.rl,.cells b.pi 0 24 (Tr.aq a.P),.cells b.ob 0 122 (Tr.aD b.tb b.pi a.O),.cfam (bI a) (fun z=>(c.t z).b) 4 (cT b.tb c.t),.fam (bI a) (rT 168 c.t)]) ((0,⟨0,-1,0,0⟩)) ?_ (.cons rfl (S6 rfl rfl rfl rfl rfl rfl)) (fun _ hw=>XM.pick (.cons (.there .here) (.cons (.t3 .here) .gq)) hw) ?_
  ·
   exact⟨by simp,rfl⟩
  intro x hx
  obtain⟨hi,hx2⟩:=hx
  have hwi:=a.vN n x.1.toNat
  rw[←hx2]at hwi
  obtain⟨hk,hwc⟩:=hwi
  refine gC ?_
  refine cd rfl ?_ ?_<;>intro h1
  ·
   refine sd (by omega) ?_
   refine ld .here (ah.ot _ (by omega)) ?_
   refine sp 37 rfl ?_ ?_<;>intro h2
   ·
    have h8:(a.u x.1).st=0:=h2
    refine sd (by omega) ?_
    refine ag ((x.1+1,x.2)) ?_ ?_ (.cons rfl (S6 rfl rfl rfl rfl rfl rfl)) (fun _ hw=>XM.pick .HY hw)
    ·
     (show(20-(x.1+1)).toNat<(20-x.1).toNat;omega)
    ·
     exact⟨(by show 0≤x.1+1∧x.1+1≤20;omega),(by show x.2=a.cG n (x.1+1).toNat;rw[KA.fJ a n hi.1,←hx2,if_pos (by first | exact .inl h8 | exact .inr h9)])⟩
   ·
    have h8:¬(a.u x.1).st=0:=h2
    refine sd (by omega) ?_
    refine ld .here (ah.qv _ (by omega)) ?_
    refine cd rfl ?_ ?_<;>intro h3
    ·
     have h9:(a.u x.1).par≠n:=h3
     refine sd (by omega) ?_
     refine ag ((x.1+1,x.2)) ?_ ?_ (.cons rfl (S6 rfl rfl rfl rfl rfl rfl)) (fun _ hw=>XM.pick .HY hw)
     ·
      (show(20-(x.1+1)).toNat<(20-x.1).toNat;omega)
     ·
      exact⟨(by show 0≤x.1+1∧x.1+1≤20;omega),(by show x.2=a.cG n (x.1+1).toNat;rw[KA.fJ a n hi.1,←hx2,if_pos (by first | exact .inl h8 | exact .inr h9)])⟩
    ·
     have h9:¬(a.u x.1).par≠n:=h3
     refine sd (by omega) ?_
     refine XC.gJ mixed (f:=14) (l:= #[false,false,false,false,false,false,false,false,false,false,false,false,false,false]) rfl rfl XM.ko ?_
     refine XQ.pv (i:=0) (l':= #[true,false,false,false,false,false,false,false,false,false,false,false,false,false]) rfl (by kernel_rfl) rfl (V.move rfl) rfl rfl ?_
     refine XQ.pv (i:=1) (l':= #[true,true,false,false,false,false,false,false,false,false,false,false,false,false]) rfl (by kernel_rfl) rfl (V.bL rfl) rfl rfl ?_
     refine XQ.pv (i:=2) (l':= #[true,true,true,false,false,false,false,false,false,false,false,false,false,false]) rfl (by kernel_rfl) rfl (V.fieldAddr rfl wA) rfl rfl ?_
     refine XQ.load (i:=3) (l':= #[true,true,true,true,false,false,false,false,false,false,false,false,false,false]) (.cells _ _ _ _) [8] rfl (by kernel_rfl) rfl .here (V.load rfl dJ (ah.mT _) JX) rfl (by kernel_rfl) rfl ?_
     refine XQ.pv (i:=4) (l':= #[true,true,true,true,true,false,false,false,false,false,false,false,false,false]) rfl (by kernel_rfl) rfl (V.move rfl) rfl rfl ?_
     refine XQ.pv (i:=5) (l':= #[true,true,true,true,true,true,false,false,false,false,false,false,false,false]) rfl (by kernel_rfl) rfl (V.move rfl) rfl rfl ?_
     refine XQ.pv (i:=6) (l':= #[true,true,true,true,true,true,true,false,false,false,false,false,false,false]) rfl (by kernel_rfl) rfl (V.move rfl) rfl rfl ?_
     refine XQ.call (i:=7) (l':= #[true,true,true,true,true,true,true,true,false,false,false,false,false,false]) rfl (by kernel_rfl) rfl rfl (gN b.kb (kp a b c) a.s n) .h2 JH rfl (by rintro _ _ ⟨rfl,rfl⟩;all_goals(intro _ hw';exact⟨fun _=>dm .here _ hw',trivial⟩)) ?_
     rintro _ _ ⟨rfl,rfl⟩
     refine XQ.call (i:=8) (l':= #[true,true,true,true,true,true,true,true,true,false,false,false,false,false]) rfl (by kernel_rfl) rfl rfl (Sp.xv _ _ a.s x.1 (a.s.bZ n).1) (.cons (.there .here) .nil) Jr rfl (by rintro _ _ ⟨rfl,rfl⟩;all_goals(intro _ hw';exact⟨fun hs=>(hs 8 (by first | (simp;done) | (simp;rfl)) rfl).elim,trivial⟩)) ?_
     rintro _ _ ⟨rfl,rfl⟩
     refine XQ.pv (i:=9) (l':= #[true,true,true,true,true,true,true,true,true,true,false,false,false,false]) rfl (by kernel_rfl) rfl (V.move rfl) rfl rfl ?_
     refine XQ.pv (i:=10) (l':= #[true,true,true,true,true,true,true,true,true,true,true,false,false,false]) rfl (by kernel_rfl) rfl (V.extract rfl rfl) rfl rfl ?_
     refine XQ.pv (i:=11) (l':= #[true,true,true,true,true,true,true,true,true,true,true,true,false,false]) rfl (by kernel_rfl) rfl (V.extract rfl rfl) rfl rfl ?_
     refine XQ.pv (i:=12) (l':= #[true,true,true,true,true,true,true,true,true,true,true,true,true,false]) rfl (by kernel_rfl) rfl (V.assign rfl) rfl rfl ?_
     refine XQ.pv (i:=13) (l':= #[true,true,true,true,true,true,true,true,true,true,true,true,true,true]) rfl (by kernel_rfl) rfl (V.assign rfl) rfl rfl ?_
     refine XQ.done (by kernel_rfl) ?_
     refine gE ?_
     refine sp 64 rfl ?_ ?_<;>intro h4
     ·
      have hpe:(a.s.pid x.1 (a.sz n)).2=0:=h4
      refine sd (by omega) ?_
      refine ld (.there .here) (ah.ot _ (by omega)) ?_
      refine sp 74 rfl ?_ ?_<;>intro h5
      ·
       have h2:(a.u x.1).st=2:=h5
       refine sp 77 rfl ?_ ?_<;>intro h6
       ·
        have hcn:x.2.child<0:=h6
        refine rq [0,1,2,3,4,5,6,7,8,9,10,11] mixed (by kernel_rfl) ?_
        refine sd (by omega) ?_
        refine ld (.there .here) (ah.Bj _ (by omega)) ?_
        refine XO.v (V.build (vs:= #[(0,.int .i64 (a.s.pid x.1 (a.s.bZ n).1).1),(1,.int .i64 (a.u x.1).code)]) rfl (v:=.agg #[.int .i64 (a.s.pid x.1 (a.s.bZ n).1).1,.int .i64 (a.u x.1).code]) (fun _=>by kernel_rfl)) rfl (gO ?_)
        refine jA (.t2 .here) (jQ.st _ _ _ _) rfl ⟨rfl,rfl⟩ ?_
        refine sd (by omega) ?_
        refine ag ((x.1+1,⟨x.2.kids+1,x.1,(a.s.pid x.1 (a.s.bZ n).1).1,(a.u x.1).code⟩)) ?_ ?_ (.cons rfl (S6 rfl rfl rfl rfl rfl rfl)) (fun _ hw=>XM.pick (.cons (.there .here) .jo) hw)
        ·
         (show(20-(x.1+1)).toNat<(20-x.1).toNat;omega)
        ·
         exact⟨(by show 0≤x.1+1∧x.1+1≤20;omega),(by show(⟨x.2.kids+1,x.1,(a.s.pid x.1 (a.s.bZ n).1).1,(a.u x.1).code⟩:WF)=a.cG n (x.1+1).toNat;rw[KA.fJ a n hi.1,←hx2,if_neg (by rintro(q | q);exact h8 q;exact h9 q),if_pos ⟨hpe,h2,.inl hcn⟩];rfl)⟩
       ·
        have hcn:¬x.2.child<0:=h6
        refine ld (.t2 .here) (jQ.GU _ _) ?_
        refine cd rfl ?_ ?_<;>intro h7
        ·
         have hlt:(a.s.pid x.1 (a.s.bZ n).1).1<x.2.pid:=h7
         refine rq [0,1,2,3,4,5,6,7,8,9,10,11] mixed (by kernel_rfl) ?_
         refine sd (by omega) ?_
         refine ld (.there .here) (ah.Bj _ (by omega)) ?_
         refine XO.v (V.build (vs:= #[(0,.int .i64 (a.s.pid x.1 (a.s.bZ n).1).1),(1,.int .i64 (a.u x.1).code)]) rfl (v:=.agg #[.int .i64 (a.s.pid x.1 (a.s.bZ n).1).1,.int .i64 (a.u x.1).code]) (fun _=>by kernel_rfl)) rfl (gO ?_)
         refine jA (.t2 .here) (jQ.st _ _ _ _) rfl ⟨rfl,rfl⟩ ?_
         refine sd (by omega) ?_
         refine ag ((x.1+1,⟨x.2.kids+1,x.1,(a.s.pid x.1 (a.s.bZ n).1).1,(a.u x.1).code⟩)) ?_ ?_ (.cons rfl (S6 rfl rfl rfl rfl rfl rfl)) (fun _ hw=>XM.pick (.cons (.there .here) .jo) hw)
         ·
          (show(20-(x.1+1)).toNat<(20-x.1).toNat;omega)
         ·
          exact⟨(by show 0≤x.1+1∧x.1+1≤20;omega),(by show(⟨x.2.kids+1,x.1,(a.s.pid x.1 (a.s.bZ n).1).1,(a.u x.1).code⟩:WF)=a.cG n (x.1+1).toNat;rw[KA.fJ a n hi.1,←hx2,if_neg (by rintro(q | q);exact h8 q;exact h9 q),if_pos ⟨hpe,h2,.inr hlt⟩];rfl)⟩
        ·
         have hlt:¬(a.s.pid x.1 (a.s.bZ n).1).1<x.2.pid:=h7
         refine sd (by omega) ?_
         refine ag ((x.1+1,⟨x.2.kids+1,x.2.child,x.2.pid,x.2.code⟩)) ?_ ?_ (.cons rfl (S6 rfl rfl rfl rfl rfl rfl)) (fun _ hw=>XM.pick (.cons (.there .here) .jo) hw)
         ·
          (show(20-(x.1+1)).toNat<(20-x.1).toNat;omega)
         ·
          exact⟨(by show 0≤x.1+1∧x.1+1≤20;omega),(by show(⟨x.2.kids+1,x.2.child,x.2.pid,x.2.code⟩:WF)=a.cG n (x.1+1).toNat;rw[KA.fJ a n hi.1,←hx2,if_neg (by rintro(q | q);exact h8 q;exact h9 q),if_neg (by rintro⟨q1,q2,q3⟩;rcases q3 with q | q;exact hcn q;exact hlt q)])⟩
      ·
       have h2:¬(a.u x.1).st=2:=h5
       refine sd (by omega) ?_
       refine ag ((x.1+1,⟨x.2.kids+1,x.2.child,x.2.pid,x.2.code⟩)) ?_ ?_ (.cons rfl (S6 rfl rfl rfl rfl rfl rfl)) (fun _ hw=>XM.pick (.cons (.there .here) .jo) hw)
       ·
        (show(20-(x.1+1)).toNat<(20-x.1).toNat;omega)
       ·
        exact⟨(by show 0≤x.1+1∧x.1+1≤20;omega),(by show(⟨x.2.kids+1,x.2.child,x.2.pid,x.2.code⟩:WF)=a.cG n (x.1+1).toNat;rw[KA.fJ a n hi.1,←hx2,if_neg (by rintro(q | q);exact h8 q;exact h9 q),if_neg (by rintro⟨q1,q2,q3⟩;exact h2 q2)])⟩
     ·
      have hpe:¬(a.s.pid x.1 (a.sz n)).2=0:=h4
      refine sd (by omega) ?_
      refine ag ((x.1+1,⟨x.2.kids+1,x.2.child,x.2.pid,x.2.code⟩)) ?_ ?_ (.cons rfl (S6 rfl rfl rfl rfl rfl rfl)) (fun _ hw=>XM.pick (.cons (.there .here) .jo) hw)
      ·
       (show(20-(x.1+1)).toNat<(20-x.1).toNat;omega)
      ·
       exact⟨(by show 0≤x.1+1∧x.1+1≤20;omega),(by show(⟨x.2.kids+1,x.2.child,x.2.pid,x.2.code⟩:WF)=a.cG n (x.1+1).toNat;rw[KA.fJ a n hi.1,←hx2,if_neg (by rintro(q | q);exact h8 q;exact h9 q),if_neg (by rintro⟨q1,q2,q3⟩;exact hpe q1)])⟩
  ·
   refine cd rfl ?_ ?_<;>intro h8
   ·
    have hkd:x.2.kids=0:=h8
    have hxw:x.2=a.cG n 20:=by
     have Ep:x.1=20:=by omega
     rw[hx2,Ep];rfl
    refine XO.v (V.build (vs:= #[]) rfl (v:=.agg #[.int .i64 0,.int .i64 0]) (fun _=>by kernel_rfl)) rfl (gO ?_)
    refine jA (.t3 .here) (jQ.st _ _ _ _) rfl ⟨rfl,rfl⟩ ?_
    refine XE.tq rfl (.agg rfl (.t3 .here) (jQ.agg _ _) Ah p9) (.tmp rfl) (ab (.cons .here (.cons (.t3 .here) (.cons .here (.cons (.t2 .here) (.cons (.t2 .here) (.cons (.t2 .here) (.cons (.t2 .here) (.cons (.t2 .here) (.cons (.t2 .here) (.cons (.t2 .here) (.cons (.t2 .here) (.cons (.t2 .here) (.cons (.t2 .here) (.cons (.t2 .here) (.cons (.t2 .here) (.cons (.t2 .here) (.cons (.t2 .here) .nil))))))))))))))))) rfl ?_)
    try dsimp only[SW.den,SV.den,aj,aZ]
    have e1:a.ir n=2:=by unfold KA.ir;rw[←hxw,if_neg (by omega),if_pos hkd]
    have e2:a.lg n=0:=by unfold KA.lg;rw[if_neg (by omega)]
    have e3:a.lx n=0:=by unfold KA.lx;rw[if_neg (by omega)]
    have e4:a.dO n=a:=by unfold KA.dO;rw[if_neg (by omega)]
    rw[e1,e2,e3,e4];exact⟨rfl,c,hc,rfl⟩
   ·
    have hkd:¬x.2.kids=0:=h8
    have hxw:x.2=a.cG n 20:=by
     have Ep:x.1=20:=by omega
     rw[hx2,Ep];rfl
    refine cd rfl ?_ ?_<;>intro h9
    ·
     have hcd:x.2.child<0:=h9
     refine XO.v (V.build (vs:= #[]) rfl (v:=.agg #[.int .i64 0,.int .i64 0]) (fun _=>by kernel_rfl)) rfl (gO ?_)
     refine jA (.t3 .here) (jQ.st _ _ _ _) rfl ⟨rfl,rfl⟩ ?_
     refine XE.tq rfl (.agg rfl (.t3 .here) (jQ.agg _ _) Ah p9) (.tmp rfl) (ab (.cons .here (.cons (.t3 .here) (.cons .here (.cons (.t2 .here) (.cons (.t2 .here) (.cons (.t2 .here) (.cons (.t2 .here) (.cons (.t2 .here) (.cons (.t2 .here) (.cons (.t2 .here) (.cons (.t2 .here) (.cons (.t2 .here) (.cons (.t2 .here) (.cons (.t2 .here) (.cons (.t2 .here) (.cons (.t2 .here) (.cons (.t2 .here) .nil))))))))))))))))) rfl ?_)
     try dsimp only[SW.den,SV.den,aj,aZ]
     have e1:a.ir n=8:=by unfold KA.ir;rw[←hxw,if_neg (by omega),if_neg hkd,if_pos hcd]
     have e2:a.lg n=0:=by unfold KA.lg;rw[if_neg (by omega)]
     have e3:a.lx n=0:=by unfold KA.lx;rw[if_neg (by omega)]
     have e4:a.dO n=a:=by unfold KA.dO;rw[if_neg (by omega)]
     rw[e1,e2,e3,e4];exact⟨rfl,c,hc,rfl⟩
    ·
     have hcd:¬x.2.child<0:=h9
     have e0:a.ir n=0:=by unfold KA.ir;rw[←hxw,if_neg (by omega),if_neg hkd,if_neg hcd]
     obtain⟨_,w1,w2,_,_,_⟩:=KA.zx e0
     rw[←hxw]at w1 w2
     refine ca (gN b.kb (kp a b c) a.s x.2.child) .h2 ?_
     rintro _ _ ⟨rfl,rfl⟩
     refine gO ?_
     refine ca (vz a b c N T ho.wk hc (by omega) x.2.child w1 (by omega)) (.cons .here (.cons (.t3 .here) (.cons .here (.cons (.t2 .here) (.cons (.t2 .here) (.cons (.t2 .here) (.cons (.t2 .here) (.cons (.t2 .here) (.cons (.t2 .here) (.cons (.t2 .here) (.cons (.t2 .here) (.cons (.t2 .here) (.cons (.t2 .here) (.cons (.t2 .here) (.cons (.t2 .here) (.cons (.t2 .here) (.cons (.t2 .here) .nil))))))))))))))))) ?_
     rintro _ _ rfl
     refine gO ?_
     refine ca (Aj (a.cy x.2.child) b c N T (ho.wk.cy w1 (by omega)) hc.E0 (by omega) _) .gq ?_
     rintro _ _ ⟨c1,hc1,rfl⟩
     refine gO ?_
     refine nc (.t12 (.t5 .here)) (jQ.agg _ _) ?_
     refine jA (.t12 (.t6 .here)) (jQ.st _ _ _ _) rfl ⟨rfl,rfl⟩ ?_
     refine XE.tq rfl (.agg rfl (.t12 (.t6 .here)) (jQ.agg _ _) Ah p9) (.tmp rfl) (ab .gq rfl ?_)
     try dsimp only[SW.den,SV.den,aj,aZ]
     have e2:a.lg n=x.2.pid:=by unfold KA.lg;rw[if_pos e0,←hxw]
     have e3:a.lx n=x.2.code:=by unfold KA.lx;rw[if_pos e0,←hxw]
     have e4:a.dO n=(a.cy x.2.child).bB (a.s.bZ x.2.child).1:=by unfold KA.dO;rw[if_pos e0,←hxw];rfl
     rw[e0,e2,e3,e4];exact⟨rfl,c1,hc1,rfl⟩
 ·
  try dsimp only[aC,aS,aM,aR,aN,aP,aQ,aU,aO,aT,aG,aH,aB,aF]
  have hl:a.live n≠0:=hl
  have hlk:(kp a b c).live n=a.live n:=rfl
  rw[hlk]
  refine gO ?_
  refine XO.v (V.build (vs:= #[]) rfl (v:=.agg #[.int .i64 0,.int .i64 0]) (fun _=>by kernel_rfl)) rfl (gO ?_)
  refine jA (.there .here) (jQ.st _ _ _ _) rfl ⟨rfl,rfl⟩ ?_
  refine XE.tq rfl (.agg rfl (.there .here) (jQ.agg _ _) Ah p9) (.tmp rfl) (ab (.cons .here (.cons (.there .here) (.cons (.there .here) (.cons (.there .here) (.cons (.there .here) (.cons (.there .here) (.cons (.there .here) (.cons (.there .here) (.cons (.there .here) (.cons (.there .here) (.cons (.there .here) (.cons (.there .here) (.cons (.there .here) (.cons (.there .here) (.cons (.there .here) (.cons (.there .here) (.cons (.there .here) .nil))))))))))))))))) rfl ?_)
  try dsimp only[SW.den,SV.den,aj,aZ]
  have e1:a.ir n=a.live n:=by unfold KA.ir;rw[if_pos hl]
  have e2:a.lg n=0:=by unfold KA.lg;rw[if_neg (by omega)]
  have e3:a.lx n=0:=by unfold KA.lx;rw[if_neg (by omega)]
  have e4:a.dO n=a:=by unfold KA.dO;rw[if_neg (by omega)]
  rw[e1,e2,e3,e4,aW _ hl];exact⟨rfl,c,hc,rfl⟩
end Go.X.Kn
