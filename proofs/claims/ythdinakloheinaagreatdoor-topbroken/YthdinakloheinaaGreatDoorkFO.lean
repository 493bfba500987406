import Derived.Test.YthdinakloheinaaGreatDoorkFM
import Derived.Test.YthdinakloheinaaGreatDoorXBytes
namespace Go.X.Fa
open Go Go.X
theorem ej(C:Nat→Value):∀ (vs:List Value) (i j:Nat),j<i→bQ C i vs j=C j
 | [],_,_,_=>rfl
 | v::r,i,j,h=>by
  unfold bQ
  rw[ej (cH C i v) r (i+1) j (by omega)]
  simp[cH];omega
theorem dg:∀ (vs:List Value) (C:Nat→Value) (i j:Nat) (v:Value),vs[j]? =some v→bQ C i vs (i+j)=v
 | [],_,_,_,_,h=>by simp at h
 | u::r,C,i,0,v,h=>by
  have h2:u=v:=by simpa using h
  unfold bQ
  rw[ej _ _ _ _ (by omega),←h2]
  simp[cH]
 | u::r,C,i,j+1,v,h=>by
  unfold bQ
  have:=dg r (cH C i u) (i+1) j v (by simpa using h)
  rw[show i+1+j=i+(j+1)from by omega]at this
  exact this
theorem eJ:∀ (vs:List Value) (C:Nat→Value) (i j:Nat),i+vs.length≤j→bQ C i vs j=C j
 | [],_,_,_,_=>rfl
 | v::r,C,i,j,h=>by
  simp only[List.length_cons]at h
  unfold bQ
  rw[eJ r (cH C i v) (i+1) j (by omega)]
  simp[cH];omega
structure ao.U where
 here:Bool
 par:Int
 wt:Int
 v:Int
 ran:Int
 awake:Bool
 floor:Int
 frz:Bool
 quota:Int
 period:Int
 used:Int
 q:QS
 p:Option Addr
 c:Nat
def ao.un(s:SC)(z:Int):ao.U:=⟨s.here z,s.par z,s.wt z,s.v z,s.ran z,s.awake z,s.floor z,s.frz z,s.quota z,s.period z,s.used z,s.Q z,s.P z,s.C z⟩
def ao.cell(u:ao.U)(j:Nat):Value:=
 if j=0 then .bool u.here else
 if j=1 then .int .i64 u.par else
 if j=2 then .int .i64 u.wt else
 if j=3 then .int .u64 u.v else
 if j=4 then .int .i64 u.ran else
 if j=5 then .bool u.awake else
 if 6≤j∧j<71 then dC u.q u.p u.c (j-6)else
 if j=71 then .int .u64 u.floor else
 if j=72 then .bool u.frz else
 if j=73 then .int .i64 u.quota else
 if j=74 then .int .i64 u.period else
 if j=75 then .int .i64 u.used else
 undef
def ao(s:SC)(i:Nat):Value:=
 if i<2280 then ao.cell (ao.un s ((i/76:Nat):Int)) (i%76)else
 if i=2280 then .int .i64 s.now else
 undef
theorem ao.at_(s:SC)(z:Int)(h:0≤z∧z<30)(j:Nat)(hj:j<76):ao s (0+0+z.toNat*76+j)=ao.cell (ao.un s z) j:=by
 unfold ao
 rw[if_pos (by omega),show(((0+0+z.toNat*76+j)/76:Nat):Int)=z from by omega,show(0+0+z.toNat*76+j)%76=j from by omega]
theorem ao.set(s s':SC)(z:Int)(h:0≤z∧z<30)(k:Nat)(hk:k<76)(v:Value)(hv:∀ j,ao.cell (ao.un s' z) j=if j=k then v else ao.cell (ao.un s z) j)(ho:∀ y,¬y=z→ao.un s' y=ao.un s y)(hn:s'.now=s.now):0+0+z.toNat*76+k<2281∧cH (ao s) (0+0+z.toNat*76+k) v=ao s':=by
 refine⟨by omega,?_⟩
 funext i
 unfold cH
 by_cases hi:i=0+0+z.toNat*76+k
 ·rw[if_pos hi,hi,ao.at_ s' z h k hk,hv,if_pos rfl]
 ·rw[if_neg hi]
  unfold ao
  by_cases c1:i<2280
  ·rw[if_pos c1,if_pos c1]
   by_cases cz:((i/76:Nat):Int)=z
   ·rw[cz,hv,if_neg (by omega)]
   ·rw[ho _ cz]
  ·rw[if_neg c1,if_neg c1,hn]
theorem ao.E9(s s':SC)(z:Int)(h:0≤z∧z<30)(vs:List Value)(hl:vs.length=76)(hv:∀ j,j<76→vs[j]? =some (ao.cell (ao.un s' z) j))(ho:∀ y,¬y=z→ao.un s' y=ao.un s y)(hn:s'.now=s.now):0+0+z.toNat*76+76≤2281∧bQ (ao s) (0+0+z.toNat*76) vs=ao s':=by
 refine⟨by omega,?_⟩
 funext i
 by_cases a1:i<0+0+z.toNat*76
 ·rw[ej _ _ _ _ a1]
  unfold ao
  rw[if_pos (by omega),if_pos (by omega),ho _ (by omega)]
 ·by_cases a2:i<0+0+z.toNat*76+76
  ·obtain⟨j,rfl⟩:∃ j,i=0+0+z.toNat*76+j:=⟨i-(0+0+z.toNat*76),by omega⟩
   rw[ao.at_ s' z h j (by omega)]
   exact dg vs _ _ _ _ (hv j (by omega))
  ·rw[eJ _ _ _ _ (by omega)]
   unfold ao
   by_cases c1:i<2280
   ·rw[if_pos c1,if_pos c1,ho _ (by omega)]
   ·rw[if_neg c1,if_neg c1,hn]
theorem ao.lF(s:SC)(z:Int)(h:0≤z∧z<30):0+0+z.toNat*76+0<2281∧ao s (0+0+z.toNat*76+0)= .bool (s.here z):=⟨by omega,ao.at_ s z h 0 (by omega)⟩
theorem ao.eZ(s:SC)(z:Int)(h:0≤z∧z<30):0+0+z.toNat*76+1<2281∧ao s (0+0+z.toNat*76+1)= .int .i64 (s.par z):=⟨by omega,ao.at_ s z h 1 (by omega)⟩
theorem ao.wE(s:SC)(z:Int)(h:0≤z∧z<30):0+0+z.toNat*76+2<2281∧ao s (0+0+z.toNat*76+2)= .int .i64 (s.wt z):=⟨by omega,ao.at_ s z h 2 (by omega)⟩
theorem ao.yC(s:SC)(z:Int)(h:0≤z∧z<30):0+0+z.toNat*76+3<2281∧ao s (0+0+z.toNat*76+3)= .int .u64 (s.v z):=⟨by omega,ao.at_ s z h 3 (by omega)⟩
theorem ao.F7(s:SC)(z:Int)(h:0≤z∧z<30)(v:Int):0+0+z.toNat*76+3<2281∧cH (ao s) (0+0+z.toNat*76+3) (.int .u64 v)=ao {s with v:=aa s.v z v} :=ao.set s {s with v:=aa s.v z v} z h 3 (by omega) _ (fun j=>by
 have e:ao.un {s with v:=aa s.v z v} z= {ao.un s z with v:=v} :=by unfold ao.un;simp only[ae]
 rw[e]
 by_cases hj:j=3
 ·subst hj;rfl
 ·unfold ao.cell;simp only[if_neg hj]) (fun y hy=>by unfold ao.un;simp only[ad _ _ hy]) rfl
theorem ao.ED(s:SC)(z:Int)(h:0≤z∧z<30):0+0+z.toNat*76+4<2281∧ao s (0+0+z.toNat*76+4)= .int .i64 (s.ran z):=⟨by omega,ao.at_ s z h 4 (by omega)⟩
theorem ao.FT(s:SC)(z:Int)(h:0≤z∧z<30)(v:Int):0+0+z.toNat*76+4<2281∧cH (ao s) (0+0+z.toNat*76+4) (.int .i64 v)=ao {s with ran:=aa s.ran z v} :=ao.set s {s with ran:=aa s.ran z v} z h 4 (by omega) _ (fun j=>by
 have e:ao.un {s with ran:=aa s.ran z v} z= {ao.un s z with ran:=v} :=by unfold ao.un;simp only[ae]
 rw[e]
 by_cases hj:j=4
 ·subst hj;rfl
 ·unfold ao.cell;simp only[if_neg hj]) (fun y hy=>by unfold ao.un;simp only[ad _ _ hy]) rfl
theorem ao.zU(s:SC)(z:Int)(h:0≤z∧z<30):0+0+z.toNat*76+5<2281∧ao s (0+0+z.toNat*76+5)= .bool (s.awake z):=⟨by omega,ao.at_ s z h 5 (by omega)⟩
theorem ao.r9(s:SC)(z:Int)(h:0≤z∧z<30)(v:Bool):0+0+z.toNat*76+5<2281∧cH (ao s) (0+0+z.toNat*76+5) (.bool v)=ao {s with awake:=aa s.awake z v} :=ao.set s {s with awake:=aa s.awake z v} z h 5 (by omega) _ (fun j=>by
 have e:ao.un {s with awake:=aa s.awake z v} z= {ao.un s z with awake:=v} :=by unfold ao.un;simp only[ae]
 rw[e]
 by_cases hj:j=5
 ·subst hj;rfl
 ·unfold ao.cell;simp only[if_neg hj]) (fun y hy=>by unfold ao.un;simp only[ad _ _ hy]) rfl
theorem ao.sF(s:SC)(z:Int)(h:0≤z∧z<30):0+0+z.toNat*76+71<2281∧ao s (0+0+z.toNat*76+71)= .int .u64 (s.floor z):=⟨by omega,ao.at_ s z h 71 (by omega)⟩
theorem ao.zu(s:SC)(z:Int)(h:0≤z∧z<30)(v:Int):0+0+z.toNat*76+71<2281∧cH (ao s) (0+0+z.toNat*76+71) (.int .u64 v)=ao {s with floor:=aa s.floor z v} :=ao.set s {s with floor:=aa s.floor z v} z h 71 (by omega) _ (fun j=>by
 have e:ao.un {s with floor:=aa s.floor z v} z= {ao.un s z with floor:=v} :=by unfold ao.un;simp only[ae]
 rw[e]
 by_cases hj:j=71
 ·subst hj;rfl
 ·unfold ao.cell;simp only[if_neg hj]) (fun y hy=>by unfold ao.un;simp only[ad _ _ hy]) rfl
theorem ao.wq(s:SC)(z:Int)(h:0≤z∧z<30):0+0+z.toNat*76+72<2281∧ao s (0+0+z.toNat*76+72)= .bool (s.frz z):=⟨by omega,ao.at_ s z h 72 (by omega)⟩
theorem ao.ku(s:SC)(z:Int)(h:0≤z∧z<30):0+0+z.toNat*76+73<2281∧ao s (0+0+z.toNat*76+73)= .int .i64 (s.quota z):=⟨by omega,ao.at_ s z h 73 (by omega)⟩
theorem ao.xA(s:SC)(z:Int)(h:0≤z∧z<30):0+0+z.toNat*76+74<2281∧ao s (0+0+z.toNat*76+74)= .int .i64 (s.period z):=⟨by omega,ao.at_ s z h 74 (by omega)⟩
theorem ao.uv(s:SC)(z:Int)(h:0≤z∧z<30):0+0+z.toNat*76+75<2281∧ao s (0+0+z.toNat*76+75)= .int .i64 (s.used z):=⟨by omega,ao.at_ s z h 75 (by omega)⟩
theorem ao.uh(s:SC)(z:Int)(h:0≤z∧z<30)(v:Int):0+0+z.toNat*76+75<2281∧cH (ao s) (0+0+z.toNat*76+75) (.int .i64 v)=ao {s with used:=aa s.used z v} :=ao.set s {s with used:=aa s.used z v} z h 75 (by omega) _ (fun j=>by
 have e:ao.un {s with used:=aa s.used z v} z= {ao.un s z with used:=v} :=by unfold ao.un;simp only[ae]
 rw[e]
 by_cases hj:j=75
 ·subst hj;rfl
 ·unfold ao.cell;simp only[if_neg hj]) (fun y hy=>by unfold ao.un;simp only[ad _ _ hy]) rfl
theorem ao.F9(s:SC):0+2280<2281∧ao s (0+2280)= .int .i64 s.now:=⟨by omega,by unfold ao;rw[if_neg (by omega)];rw[if_pos (by omega)]⟩
theorem ao.KG(s:SC)(v:Int):0+2280<2281∧cH (ao s) (0+2280) (.int .i64 v)=ao {s with now:=v} :=by
 refine⟨by omega,?_⟩
 funext i
 unfold cH ao
 by_cases hi:i=0+2280
 ·rw[if_pos hi,if_neg (by omega),if_pos (by omega)]
 ·rw[if_neg hi]
  by_cases c1:i<2280
  ·rw[if_pos c1,if_pos c1];rfl
  ·rw[if_neg c1,if_neg c1,if_neg (by omega),if_neg (by omega)]
end Go.X.Fa

namespace Go.X.Fa
open Go Go.X
def aL:Nat→Bool:=fun i=>Nat.blt i 30
def SC.rows(e:TypeId)(s:SC):Nat→iu:=fun i=>⟨.slice (s.P (i:Int)) (s.Q (i:Int)).n (s.C (i:Int)),e,2,(s.Q (i:Int)).n,bz (dZ (s.Q (i:Int))) ((s.Q (i:Int)).n*2)⟩
abbrev eh(z:Int):Nat:=0+0+z.toNat*76+6
theorem Ew(s:SC){z:Int}(h:0≤z∧z<30){i:Nat}(hi:i<65):ao s (eh z+i)=dC (s.Q z) (s.P z) (s.C z) i:=by
 have e:=ao.at_ s z h (6+i) (by omega)
 rw[show eh z+i=0+0+z.toNat*76+(6+i)from by unfold eh;omega,e]
 unfold ao.cell
 rw[if_neg (by omega),if_neg (by omega),if_neg (by omega),if_neg (by omega),if_neg (by omega),if_neg (by omega),if_pos (by omega),show 6+i-6=i from by omega]
 rfl
section
variable {W w:World} {S:Nat→Nat→Prop} {H F:List ax}
theorem XM.qm{b o n:Nat}{C C':Nat→Value}(hC:∀ i,i<n→C i=C' i)(h:XM W S (.cells b o n C::H) w):XM W S (.cells b o n C'::H) w:=by
 obtain⟨⟨hh,hpw⟩,hk,hm⟩:=h
 rw[List.pairwise_cons]at hpw
 refine⟨⟨fun e he=> ?_,List.pairwise_cons.2 ⟨hpw.1,hpw.2⟩⟩,hk,fun e he=> ?_⟩
 ·rcases List.mem_cons.1 he with rfl | he
  ·obtain⟨A,t,lo,hi,h1,h2⟩:=hh (.cells b o n C) (by simp)
   exact⟨A,t,lo,hi,h1,fun i hi2=>by rw[←hC i hi2];exact h2 i hi2⟩
  ·exact hh e (by simp[he])
 ·rcases List.mem_cons.1 he with rfl | he
  ·exact hm (.cells b o n C) (by simp)
  ·exact hm e (by simp[he])
theorem XM.pG{b o:Nat}{e:TypeId}{s:SC}{z:Int}(hz:0≤z∧z<30)(hp:bF H [.cells b o 2281 (ao s),.fam aL (s.rows e)] F)(h:XM W S H w):XM W S (.cells b (o+eh z) 65 (dC (s.Q z) (s.P z) (s.C z))::bj (s.P z) (s.C z) e 2 (s.Q z).n (dZ (s.Q z)):: .cells b o (eh z) (ao s):: .cells b (o+eh z+65) (2281-eh z-65) (fun i=>ao s (eh z+65+i)):: .fam (eA aL z.toNat) (s.rows e)::F) w:=by
 have hoff:eh z+65≤2281:=by unfold eh;omega
 have h1:=h.perm hp.perm
 have h2:=XM.part (n:=2281) (off:=eh z) (m:=65) hoff h1
 have h3:=XM.qm (C':=dC (s.Q z) (s.P z) (s.C z)) (fun i hi=>Ew s hz hi) h2
 have h4:=h3.perm (H':=.fam aL (s.rows e):: .cells b (o+eh z) 65 (dC (s.Q z) (s.P z) (s.C z)):: .cells b o (eh z) (ao s):: .cells b (o+eh z+65) (2281-eh z-65) (fun i=>ao s (eh z+65+i))::F)
  (dX.perm (.there (.there (.there .here))))
 have h5:=XM.oK z.toNat (by show Nat.blt z.toNat 30=true;simp;omega) h4
 have e1:(s.rows e z.toNat).oM=bj (s.P z) (s.C z) e 2 (s.Q z).n (dZ (s.Q z)):=by
  unfold SC.rows iu.oM bj
  simp only[show((z.toNat:Nat):Int)=z from by omega]
 rw[e1]at h5
 exact h5.perm (bF.perm (E:=[_,_,_,_,_]) (F:=F) (.cons (.there (.there .here)) (.cons .here (.cons (.there .here) (.cons (.there .here) (.cons .here .nil))))))
theorem w8(s:SC)(z:Int)(q:QS)(p:Option Addr)(c:Nat)(h:0≤z∧z<30)(i:Nat)(hi:i<eh z∨eh z+65≤i):ao {s with Q:=aa s.Q z q,P:=aa s.P z p,C:=aa s.C z c} i=ao s i:=by
 unfold ao
 refine au (fun c1=> ?_) (fun _=>rfl)
 by_cases cz:((i/76:Nat):Int)=z
 ·have hj:¬(6≤i%76∧i%76<71):=by unfold eh at hi;omega
  rw[cz]
  unfold ao.cell
  simp only[if_neg hj]
  rfl
 ·unfold ao.un
  simp only[ad _ _ cz]
theorem XM.qL{b o:Nat}{e:TypeId}{s:SC}{z:Int}{q:QS}{p:Option Addr}{c:Nat}(hz:0≤z∧z<30)(hp:bF H [.cells b (o+eh z) 65 (dC q p c),bj p c e 2 q.n (dZ q),.cells b o (eh z) (ao s),.cells b (o+eh z+65) (2281-eh z-65) (fun i=>ao s (eh z+65+i)),.fam (eA aL z.toNat) (s.rows e)] F)(h:XM W S H w):XM W S (.cells b o 2281 (ao {s with Q:=aa s.Q z q,P:=aa s.P z p,C:=aa s.C z c}):: .fam aL (SC.rows e {s with Q:=aa s.Q z q,P:=aa s.P z p,C:=aa s.C z c})::F) w:=by
 have hoff:eh z+65≤2281:=by unfold eh;omega
 have h1:=(h.perm hp.perm).perm (bF.perm (E:=[bj p c e 2 q.n (dZ q),.fam (eA aL z.toNat) (s.rows e),.cells b (o+eh z) 65 (dC q p c),.cells b o (eh z) (ao s),.cells b (o+eh z+65) (2281-eh z-65) (fun i=>ao s (eh z+65+i))]) (F:=F)
  (.cons (.there .here) (.cons (.there (.there (.there .here))) (.cons .here (.cons .here (.cons .here .nil))))))
 have h2:=XM.uG (x:=⟨.slice p q.n c,e,2,q.n,bz (dZ q) (q.n*2)⟩) z.toNat (lV _ _) h1
 rw[uK (show aL z.toNat=true by show Nat.blt z.toNat 30=true;simp;omega)]at h2
 have e1:pV (s.rows e) z.toNat ⟨.slice p q.n c,e,2,q.n,bz (dZ q) (q.n*2)⟩=SC.rows e {s with Q:=aa s.Q z q,P:=aa s.P z p,C:=aa s.C z c} :=by
  funext i
  by_cases hi:i=z.toNat
  ·subst hi
   rw[gK]
   unfold SC.rows
   simp only[show((z.toNat:Nat):Int)=z from by omega,ae]
  ·rw[gg _ _ hi]
   have hi2:¬(i:Int)=z:=by omega
   unfold SC.rows
   simp only[ad _ _ hi2]
 rw[e1]at h2
 have h3:=h2.perm (bF.perm (E:=[.cells b (o+eh z) 65 (dC q p c),.cells b o (eh z) (ao s),.cells b (o+eh z+65) (2281-eh z-65) (fun i=>ao s (eh z+65+i)),.fam aL (SC.rows e {s with Q:=aa s.Q z q,P:=aa s.P z p,C:=aa s.C z c})]) (F:=F)
  (.cons (.there .here) (.cons (.there .here) (.cons (.there .here) (.cons .here .nil)))))
 refine XM.join (n:=2281) (off:=eh z) (m:=65) hoff (fun i hi=> ?_) (fun i hi=> ?_) (fun i hi=> ?_) h3 (by omega)
 ·exact w8 s z q p c hz i (.inl hi)
 ·have:=Ew {s with Q:=aa s.Q z q,P:=aa s.P z p,C:=aa s.C z c} hz hi
  simp only[ae]at this
  exact this
 ·exact w8 s z q p c hz _ (.inr (by omega))
theorem XM.qa{b o:Nat}{e:TypeId}{s:SC}{z:Int}(hz:0≤z∧z<30)(hp:bF H [.cells b (o+eh z) 65 (dC (s.Q z) (s.P z) (s.C z)),bj (s.P z) (s.C z) e 2 (s.Q z).n (dZ (s.Q z)),.cells b o (eh z) (ao s),.cells b (o+eh z+65) (2281-eh z-65) (fun i=>ao s (eh z+65+i)),.fam (eA aL z.toNat) (s.rows e)] F)(h:XM W S H w):XM W S (.cells b o 2281 (ao s):: .fam aL (s.rows e)::F) w:=by
 have h1:=XM.qL hz hp h
 rw[cn s.Q rfl,cn s.P rfl,cn s.C rfl]at h1
 exact h1
theorem XM.newRow{e:TypeId}{s:SC}{z:Int}(hz:0≤z∧z<30)(hp:bF H [.fam aL (s.rows e)] F)(h:XM W S H w):XM W S (.fam aL (SC.rows e {s with Q:=aa s.Q z QS.void,P:=aa s.P z none,C:=aa s.C z 0})::F) w:=by
 have h1:=XM.oK z.toNat (by show Nat.blt z.toNat 30=true;simp;omega) (h.perm hp.perm)
 have h2:=XM.pick (E:=.fam (eA aL z.toNat) (s.rows e)::F) (F:=[(s.rows e z.toNat).oM]) (by
  have hq:∀ (x:ax) (L:List ax),bF (x::L) L [x]:=fun x L=>by
   induction L with
   | nil=>exact .nil
   | cons y r ih=>exact .cons (.there .here) ih
  exact hq _ _) h1
 have h3:=h2.dH e 2
 have h4:=XM.uG (x:=⟨.slice none 0 0,e,2,0,[]⟩) z.toNat (lV _ _) h3
 rw[uK (show aL z.toNat=true by show Nat.blt z.toNat 30=true;simp;omega)]at h4
 have e1:pV (s.rows e) z.toNat ⟨.slice none 0 0,e,2,0,[]⟩=SC.rows e {s with Q:=aa s.Q z QS.void,P:=aa s.P z none,C:=aa s.C z 0} :=by
  funext i
  by_cases hi:i=z.toNat
  ·subst hi
   rw[gK]
   unfold SC.rows
   simp only[show((z.toNat:Nat):Int)=z from by omega,ae]
   rfl
  ·rw[gg _ _ hi]
   have hi2:¬(i:Int)=z:=by omega
   unfold SC.rows
   simp only[ad _ _ hi2]
 rw[e1]at h4
 exact h4
end
theorem XQ.mono{P:Program}{ops:Array Oper}{Q:Exit→Act→World→Prop}{n:Fr}{L:PF}{M M':World→Prop}{B:pD}{f:Nat}{l:Array Bool}(hm:∀ w,M w→M' w)(h:XQ P n ops Q B f l L M'):XQ P n ops Q B f l L M:=fun hc a w ha hw hJ=>h hc a w ha (hm w hw) hJ
theorem SC.jy.dI{s:SC}(h:s.jy)(hw:∀ i,s.was i=true→0<i∧i<30){n:Int}(h0:0≤n)(h1:n<30):s.toSF.dI n=decide (0<(s.Q n).n):=by
 rw[Bool.eq_iff_iff,SF.iL,decide_eq_true_eq,(h n h0 h1).len]
 constructor
 ·rintro⟨i,i0,i1,i2,i3⟩;exact⟨i,i0,by omega,(SF.ln _ _ _).2 ⟨i2,i3⟩⟩
 ·rintro⟨i,i0,i1,i2⟩
  obtain⟨a,b⟩:=(SF.ln _ _ _).1 i2
  have:=hw i a
  exact⟨i,i0,by omega,a,b⟩
namespace SF
def vO(s:SF)(n:Int):Int:=if n<0∨10≤n then 1 else if s.here n=true then 0 else 2
def pw(s:SF)(n:Int):Int:=if n<0∨20≤n then 1 else if s.here (10+n)=true then 0 else 2
theorem Me(s:SF)(n:Int):0≤s.vO n:=by unfold vO;split<;>(try split)<;>omega
theorem L4(s:SF)(n:Int):0≤s.pw n:=by unfold pw;split<;>(try split)<;>omega
theorem gy(k:Nat)(s:SF){n:Int}(h:n≤0):dR k s n=s:=by
 cases k with
 | zero=>rfl
 | succ k=>show(if n≤0 then s else _)=s;rw[if_pos h]
theorem iO(k:Nat)(s:SF){n:Int}(h:0<n):dR (k+1) s n=dR k (s.kS n) (s.par n):=by
 show(if n≤0 then s else dR k (s.kS n) (s.par n))=_
 rw[if_neg (by omega)]
theorem Inv.kS{s:SF}{d:Int→Nat}(h:s.Inv d){n:Int}(h0:0<n)(h1:n<30)(h2:s.here n=true):(s.kS n).Inv d:=by
 refine⟨h.h0,h.up,fun i hi=> ?_,h.quo,h.wt⟩
 have e:(s.kS n).was i=aa s.was n (s.ready n) i:=rfl
 rw[e]at hi
 by_cases c:i=n
 ·subst c;exact⟨h0,h1,h2⟩
 ·rw[ad _ _ c]at hi;exact h.was i hi
end SF
theorem SC.jy.enter{s:SC}(h:s.jy){n:Int}(hn:0≤n∧n<30)(hg:0≤s.par n∧s.par n<30)(hw:s.was n=false)(t:SF)(ht:t.was=aa s.was n true)(hv:∀ i,¬i=n→t.v i=s.v i)(hp:t.par=s.par)(key:Int)(hkey:t.v n=key)(P:Int→Option Addr)(C:Int→Nat):SC.jy ⟨t,aa s.Q (s.par n) ((s.Q (s.par n)).put n key).2,P,C⟩:=fun g g0 g1=>by
 subst hkey
 show ib (aa s.Q (s.par n) _ g) (t.mq g)
 unfold SF.mq
 rw[ht,hp]
 by_cases c:g=s.par n
 ·subst c
  rw[ae]
  have his:(s.toSF.mq (s.par n)).is n=2:=RQ.nh (by omega) (by show(s.was n&&_)=false;rw[hw];rfl)
  have h1:=((h _ g0 g1).put n (t.v n)).2
  rw[RQ.lC _ (by omega) (by omega)]at h1
  refine h1.ext (fun i _ _=> ?_) (fun i _ _ _=> ?_)
  ·show(aa s.was n true i&&decide (s.par i=s.par n))=aa (fun i=>s.was i&&decide (s.par i=s.par n)) n true i
   by_cases ci:i=n
   ·subst ci;rw[ae,ae];simp
   ·rw[ad _ _ ci,ad _ _ ci]
  ·show t.v i=aa s.v n (t.v n) i
   by_cases ci:i=n
   ·subst ci;rw[ae]
   ·rw[ad _ _ ci];exact hv i ci
 ·rw[ad _ _ c]
  refine(h g g0 g1).ext (fun i _ _=> ?_) (fun i _ _ hi=> ?_)
  ·show(aa s.was n true i&&decide (s.par i=g))=(s.was i&&decide (s.par i=g))
   by_cases ci:i=n
   ·subst ci
    have c2:¬s.par i=g:=fun e=>c e.symm
    rw[ae,hw];simp[c2]
   ·rw[ad _ _ ci]
  ·have ci:¬i=n:=fun e=>by
    subst e
    have:=((SF.ln _ _ _).1 hi).1
    rw[hw]at this;cases this
   exact hv i ci
theorem SC.jy.leave{s:SC}(h:s.jy){n:Int}(hn:0≤n∧n<30)(hg:0≤s.par n∧s.par n<30)(hw:s.was n=true)(t:SF)(ht:t.was=aa s.was n false)(hv:∀ i,¬i=n→t.v i=s.v i)(hp:t.par=s.par)(P:Int→Option Addr)(C:Int→Nat):SC.jy ⟨t,aa s.Q (s.par n) ((s.Q (s.par n)).cut n).2.2,P,C⟩:=fun g g0 g1=>by
 show ib (aa s.Q (s.par n) _ g) (t.mq g)
 unfold SF.mq
 rw[ht,hp]
 by_cases c:g=s.par n
 ·subst c
  rw[ae]
  have his:(s.toSF.mq (s.par n)).is n=0:=RQ.rj (by omega) (by show(s.was n&&_)=true;rw[hw];simp)
  have h1:=((h _ g0 g1).cut n).2.2
  rw[RQ.za his]at h1
  refine h1.ext (fun i _ _=> ?_) (fun i _ _ hi=> ?_)
  ·show(aa s.was n false i&&decide (s.par i=s.par n))=aa (fun i=>s.was i&&decide (s.par i=s.par n)) n false i
   by_cases ci:i=n
   ·subst ci;rw[ae,ae];simp
   ·rw[ad _ _ ci,ad _ _ ci]
  ·have ci:¬i=n:=fun e=>by
    subst e
    have hi2:aa (fun i=>s.was i&&decide (s.par i=s.par i)) i false i=true:=hi
    rw[ae]at hi2;cases hi2
   exact hv i ci
 ·rw[ad _ _ c]
  refine(h g g0 g1).ext (fun i _ _=> ?_) (fun i _ _ hi=> ?_)
  ·show(aa s.was n false i&&decide (s.par i=g))=(s.was i&&decide (s.par i=g))
   by_cases ci:i=n
   ·subst ci
    have c2:¬s.par i=g:=fun e=>c e.symm
    rw[ae];simp[c2]
   ·rw[ad _ _ ci]
  ·have ci:¬i=n:=fun e=>by
    subst e
    exact c ((SF.ln _ _ _).1 hi).2.symm
   exact hv i ci
theorem SC.jy.bZ{s:SC}(h:s.jy){n:Int}(hn:0≤n∧n<30)(hg:0≤s.par n∧s.par n<30):((s.Q (s.par n)).key n).2=if s.was n=true then 0 else 2:=by
 rw[((h _ hg.1 hg.2).LI n).2.1]
 by_cases c:s.was n=true
 ·rw[if_pos c,RQ.DR (RQ.rj (by omega) (by show(s.was n&&_)=true;rw[c];simp))]
 ·have his:(s.toSF.mq (s.par n)).is n=2:=RQ.nh (by omega) (by
   show(s.was n&&_)=false
   cases q:s.was n with
   | true=>exact absurd q c
   | false=>rfl)
  rw[if_neg c,RQ.vW false (by omega)];exact his
theorem SC.jy.N1{s:SC}(h:s.jy){n:Int}(hn:0≤n∧n<30)(hg:0≤s.par n∧s.par n<30)(hw:s.was n=true):((s.Q (s.par n)).cut n).1=s.v n∧((s.Q (s.par n)).cut n).2.1=0:=by
 obtain⟨h1,h2,_⟩:=(h _ hg.1 hg.2).cut n
 rw[RQ.za (RQ.rj (by omega) (by show(s.was n&&_)=true;rw[hw];simp))]at h1 h2
 exact⟨h1,h2⟩
theorem SF.yq{s:SF}{n:Int}(h:s.ready n=s.was n):s.kS n=s:=by
 unfold SF.kS
 rw[if_neg (by rw[h];intro q;rw[q.1]at q;exact absurd q.2 (by simp)),cn s.v rfl,h,cn s.was rfl]
theorem SF.oX{s:SF}{n:Int}(hp:s.par n≠n)(w:Bool):SF.ready {s with was:=aa s.was n w} n=s.ready n:=by
 have hk:SF.dI {s with was:=aa s.was n w} n=s.dI n:=by
  rw[Bool.eq_iff_iff,SF.iL,SF.iL]
  constructor
  ·rintro⟨i,i0,i1,i2,i3⟩
   have c:¬i=n:=fun e=>hp (by rw[e]at i3;exact i3)
   have i2':aa s.was n w i=true:=i2
   rw[ad _ _ c]at i2'
   exact⟨i,i0,i1,i2',i3⟩
  ·rintro⟨i,i0,i1,i2,i3⟩
   have c:¬i=n:=fun e=>hp (by rw[e]at i3;exact i3)
   refine⟨i,i0,i1,?_,i3⟩
   show aa s.was n w i=true
   rw[ad _ _ c];exact i2
 unfold SF.ready
 rw[hk]
theorem CT(s:SC)(z v:Int)(h:0≤z∧z<30):0+0+z.toNat*76+3<2281∧ao {s with v:=aa s.v z v} (0+0+z.toNat*76+3)= .int .u64 v:=by
 have:=ao.yC {s with v:=aa s.v z v} z h
 rw[show({s with v:=aa s.v z v} :SC).v z=v from ae _ _ _]at this
 exact this
theorem XM.Mr{W w:World}{S:Nat→Nat→Prop}{H F:List ax}{b o:Nat}{e:TypeId}{s:SC}(ws:Int→Bool)(hp:bF H [.cells b o 2281 (ao s),.fam aL (s.rows e)] F)(h:XM W S H w):
  XM W S (.cells b o 2281 (ao {s with was:=ws}):: .fam aL (SC.rows e {s with was:=ws})::F) w:=h.perm hp.perm
end Go.X.Fa
