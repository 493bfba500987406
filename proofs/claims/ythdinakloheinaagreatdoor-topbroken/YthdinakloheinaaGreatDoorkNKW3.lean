import Derived.Test.YthdinakloheinaaGreatDoorkNW6
import Derived.Test.YthdinakloheinaaGreatDoorkJA
import Derived.Shelf.Strings.Split
import Derived.Test.YthdinakloheinaaGreatDoorProg
import Derived.Ground.NamesProg
import Derived.Shelf.Lays
import Derived.Test.YthdinakloheinaaGreatDoorXFam
namespace Go.X.Tr
open Go Go.Proofs Go.X
set_option maxRecDepth 20000
set_option maxHeartbeats 4000000
theorem LZ(b o:Nat)(K:Int)(hK:K≤1000000)(s:PS)(hI:s.Inv K)(n:Int):Spec Tryz.prog 193 [ptr b o 0,.int .i64 n] [.cells b o 24 (aq s)] (fun v H1=>((s.is n=0∧0≤n∧n<8)∧v= .tuple #[ptr b o (0+0+n.toNat*3),.nilIface]∧H1=[.cells b o 24 (aq s)])∨(s.is n≠0∧v= .tuple #[.pointer none,.iface 102 (.int .i64 (s.is n))]∧H1=[.cells b o 24 (aq s)])):=by
 have b0:=hI.e0 n
 have b1:=hI.e1 n
 have bl:=hI.len n
 refine Spec.go 35 [0,1,4,5,11,28] [] Tryz.func193 rfl rfl rfl ?_
 intro W
 refine sp 8 rfl ?_ ?_<;>intro h1
 ·
  refine XE.bC rfl rfl rfl (ab .h1 rfl ?_)
  try dsimp only[SW.den,SV.den,aj,aZ]
  rcases PS.dh s n with⟨q,q1⟩ | ⟨q,q1⟩ | ⟨q,q1⟩<;>first | (exfalso;omega) | exact .inl ⟨⟨q,by omega,by omega⟩,rfl,rfl⟩ | exact .inr ⟨by omega,by rw[q],rfl⟩
 ·
  refine cd rfl ?_ ?_<;>intro h2
  ·
   refine XE.bC rfl rfl rfl (ab .h1 rfl ?_)
   try dsimp only[SW.den,SV.den,aj,aZ]
   rcases PS.dh s n with⟨q,q1⟩ | ⟨q,q1⟩ | ⟨q,q1⟩<;>first | (exfalso;omega) | exact .inl ⟨⟨q,by omega,by omega⟩,rfl,rfl⟩ | exact .inr ⟨by omega,by rw[q],rfl⟩
  ·
   refine rq [0,1,2,3,4,5,6,7,8,9,10,11,12,13,14,15] mixed (by kernel_rfl) ?_
   refine sd (by omega) ?_
   refine ld .here (aq.dP _ _ (by omega)) ?_
   refine sd (by omega) ?_
   refine ld .here (aq.dv _ _ (by omega)) ?_
   refine sd (by omega) ?_
   refine cd rfl ?_ ?_<;>intro h3
   ·
    refine XE.bC rfl rfl rfl (ab .h1 rfl ?_)
    try dsimp only[SW.den,SV.den,aj,aZ]
    rcases PS.dh s n with⟨q,q1⟩ | ⟨q,q1⟩ | ⟨q,q1⟩<;>first | (exfalso;omega) | exact .inl ⟨⟨q,by omega,by omega⟩,rfl,rfl⟩ | exact .inr ⟨by omega,by rw[q],rfl⟩
   ·
    refine sd (by omega) ?_
    refine XE.bC rfl rfl rfl (ab .h1 rfl ?_)
    try dsimp only[SW.den,SV.den,aj,aZ]
    rcases PS.dh s n with⟨q,q1⟩ | ⟨q,q1⟩ | ⟨q,q1⟩<;>first | (exfalso;omega) | exact .inl ⟨⟨q,by omega,by omega⟩,rfl,rfl⟩ | exact .inr ⟨by omega,by rw[q],rfl⟩
theorem rR(b o i:Nat):Spec Tryz.prog 196 [ptr b o i,.bool true] [] (fun v H1=>v=ptr b o (i+2)∧H1=[]):=by
 refine Spec.go 12 [0,1,4,5] [] Tryz.func196 rfl rfl rfl ?_
 intro W
 refine XE.aV rfl rfl (ab .nil rfl ?_)
 try dsimp only[SW.den,SV.den,aj,aZ]
 exact⟨rfl,rfl⟩
theorem pM(b o i:Nat):Spec Tryz.prog 196 [ptr b o i,.bool false] [] (fun v H1=>v=ptr b o (i+1)∧H1=[]):=by
 refine Spec.go 12 [0,1,4,5] [] Tryz.func196 rfl rfl rfl ?_
 intro W
 refine XE.aV rfl rfl (ab .nil rfl ?_)
 try dsimp only[SW.den,SV.den,aj,aZ]
 exact⟨rfl,rfl⟩
theorem Ls(b o:Nat)(K:Int)(hK:K≤1000000)(s:PS)(hI:s.Inv K):Spec Tryz.prog 135 [ptr b o 0] [.cells b o 24 (aq s)] (fun v H1=>v= .tuple #[.int .i64 s.make.1,bM 102 s.make.2.1]∧H1=[.cells b o 24 (aq s.make.2.2)]):=by
 refine Spec.go 33 [0,2,3,4,5,6,23] [] Tryz.func135 rfl rfl rfl ?_
 intro W
 refine lp (σ:=Int) (fun k=>(8-k).toNat) (fun k=>(0≤k∧k≤8)∧∀ j:Int,0≤j→j<k→s.e j 0+s.e j 1≠0) (fun k=>[(5,.int .i64 k),(0,ptr b o 0)]) (fun k=>XM W (bS [.cells b o 24 (aq s)]) [.cells b o 24 (aq s)]) (0) ?_ (S2 rfl rfl) (fun _ hw=>XM.pick .h1 hw) ?_
 ·
  exact⟨by omega,fun j h1 h2=>by omega⟩
 intro k hk
 obtain⟨hk,hn⟩:=hk
 have b0:=hI.e0 k
 have b1:=hI.e1 k
 refine gC ?_
 refine cd rfl ?_ ?_<;>intro h1
 ·
  refine rq [0,1,2,3,4,5,6,7,8,9,10,11,12,13,14,15] mixed (by kernel_rfl) ?_
  refine sd (by omega) ?_
  refine ld .here (aq.dP _ _ (by omega)) ?_
  refine sd (by omega) ?_
  refine ld .here (aq.dv _ _ (by omega)) ?_
  refine sd (by omega) ?_
  refine cd rfl ?_ ?_<;>intro h2
  ·
   refine XO.v (V.build (vs:= #[(1,.int .i64 1),(2,.int .i64 1)]) rfl (v:=.agg #[.string ⟨#[]⟩,.int .i64 1,.int .i64 1]) (fun _=>by kernel_rfl)) rfl (gO ?_)
   refine sd (by omega) ?_
   refine jA .here (CZ hI (by omega) (by assumption)) rfl ⟨rfl,rfl⟩ ?_
   refine XE.bC rfl rfl rfl (ab .h1 rfl ?_)
   try dsimp only[SW.den,SV.den,aj,aZ]
   rw[PS.Cc (by omega) (by assumption) hn];exact⟨rfl,rfl⟩
  ·
   refine sd (by omega) ?_
   refine ag (k+1) ?_ ?_ (S2 rfl rfl) (fun _ hw=>XM.pick .h1 hw)
   ·
    (first | omega | (simp;done) | (simp;omega))
   ·
    refine⟨by omega,fun j h1 h2=> ?_⟩
    by_cases hjk:j=k
    ·subst hjk;assumption
    ·exact hn j h1 (by omega)
 ·
  refine XE.bC rfl rfl rfl (ab .h1 rfl ?_)
  try dsimp only[SW.den,SV.den,aj,aZ]
  obtain rfl:k=8:=by omega
  rw[PS.Dq hn];exact⟨rfl,rfl⟩
theorem wD(b o:Nat)(K:Int)(hK:K≤1000000)(s:PS)(hI:s.Inv K)(n:Int):Spec Tryz.prog 145 [ptr b o 0,.int .i64 n,.bool true] [.cells b o 24 (aq s)] (fun v H1=>v=bM 102 (s.gD n true (-1)).1∧H1=[.cells b o 24 (aq (s.gD n true (-1)).2)]):=by
 have b0:=hI.e0 n
 have b1:=hI.e1 n
 have bl:=hI.len n
 have hnew:(s.e n (uj true)=0)=(s.e n 1=0):=by simp[uj]
 refine Spec.go 45 [0,1,2,6,7,8,16,23,41] [] Tryz.func145 rfl rfl rfl ?_
 intro W
 refine ca (LZ _ _ K hK s hI _) .h1 ?_
 rintro _ _ (⟨h1,rfl,rfl⟩ | ⟨h1,rfl,rfl⟩)
 ·
  obtain⟨h1,h2,h3⟩:=h1
  refine gO ?_
  refine ca (rR _ _ _) .nil ?_
  rintro _ _ ⟨rfl,rfl⟩
  refine gO ?_
  refine ld .here (aq.dv _ _ (by omega)) ?_
  refine cd rfl ?_ ?_<;>intro h4
  ·
   refine XE.aV rfl rfl (ab .h1 rfl ?_)
   try dsimp only[SW.den,SV.den,aj,aZ]
   first
    | (rw[PS.gV (by assumption)];exact⟨(aW _ (by assumption)).symm,rfl⟩)
    | (rw[PS.e7 (by assumption) (by assumption)];exact⟨rfl,rfl⟩)
    | (rw[PS.jh (by assumption) (by assumption) (by omega)];exact⟨rfl,rfl⟩)
    | (rw[PS.fL (by assumption) (by assumption) (by omega)];refine⟨rfl,?_⟩;exact congrArg (fun e=>[ax.cells b o 24 (aq {b:=aa s.b n ⟨#[]⟩,e:=e})]) (drop_eq (by omega) (by omega)))
  ·
   refine ca (rR _ _ _) .nil ?_
   rintro _ _ ⟨rfl,rfl⟩
   refine gO ?_
   refine ld .here (aq.dv _ _ (by omega)) ?_
   refine sd (by omega) ?_
   refine st .here (aq.jw _ _ (by omega) _) rfl ?_
   refine rq [0,1,2,3,4,5,6,7,8,9] mixed (by kernel_rfl) ?_
   have c0:({s with e:=aX s.e n 1 (s.e n 1-1)} :PS).e n 0=s.e n 0+0:=by simp[aX]
   have c0f:aX s.e n 1 (s.e n 1-1) n 0=s.e n 0+0:=by simp[aX]
   have c1:({s with e:=aX s.e n 1 (s.e n 1-1)} :PS).e n 1=s.e n 1+ -1:=by simp[aX];omega
   have c1f:aX s.e n 1 (s.e n 1-1) n 1=s.e n 1+ -1:=by simp[aX];omega
   refine ld .here (aq.dP _ _ (by omega)) ?_
   refine ld .here (aq.dv _ _ (by omega)) ?_
   refine sd (by omega) ?_
   refine cd rfl ?_ ?_<;>intro h5
   ·
    refine XO.v (V.build (vs:= #[]) rfl (v:=.agg #[.string ⟨#[]⟩,.int .i64 0,.int .i64 0]) (fun _=>by kernel_rfl)) rfl (gO ?_)
    refine jA .here (tS _ (by omega)) rfl ⟨rfl,rfl⟩ ?_
    refine XE.aV rfl rfl (ab .h1 rfl ?_)
    try dsimp only[SW.den,SV.den,aj,aZ]
    first
    | (rw[PS.gV (by assumption)];exact⟨(aW _ (by assumption)).symm,rfl⟩)
    | (rw[PS.e7 (by assumption) (by assumption)];exact⟨rfl,rfl⟩)
    | (rw[PS.jh (by assumption) (by assumption) (by omega)];exact⟨rfl,rfl⟩)
    | (rw[PS.fL (by assumption) (by assumption) (by omega)];refine⟨rfl,?_⟩;exact congrArg (fun e=>[ax.cells b o 24 (aq {b:=aa s.b n ⟨#[]⟩,e:=e})]) (drop_eq (by omega) (by omega)))
   ·
    refine XE.aV rfl rfl (ab .h1 rfl ?_)
    try dsimp only[SW.den,SV.den,aj,aZ]
    first
    | (rw[PS.gV (by assumption)];exact⟨(aW _ (by assumption)).symm,rfl⟩)
    | (rw[PS.e7 (by assumption) (by assumption)];exact⟨rfl,rfl⟩)
    | (rw[PS.jh (by assumption) (by assumption) (by omega)];exact⟨rfl,rfl⟩)
    | (rw[PS.fL (by assumption) (by assumption) (by omega)];refine⟨rfl,?_⟩;exact congrArg (fun e=>[ax.cells b o 24 (aq {b:=aa s.b n ⟨#[]⟩,e:=e})]) (drop_eq (by omega) (by omega)))
 ·
  try dsimp only[aC,aS,aM,aR,aN,aP,aQ,aU,aO,aT,aG,aH,aB,aF]
  refine gO ?_
  refine XE.aV rfl rfl (ab .h1 rfl ?_)
  try dsimp only[SW.den,SV.den,aj,aZ]
  first
    | (rw[PS.gV (by assumption)];exact⟨(aW _ (by assumption)).symm,rfl⟩)
    | (rw[PS.e7 (by assumption) (by assumption)];exact⟨rfl,rfl⟩)
    | (rw[PS.jh (by assumption) (by assumption) (by omega)];exact⟨rfl,rfl⟩)
    | (rw[PS.fL (by assumption) (by assumption) (by omega)];refine⟨rfl,?_⟩;exact congrArg (fun e=>[ax.cells b o 24 (aq {b:=aa s.b n ⟨#[]⟩,e:=e})]) (drop_eq (by omega) (by omega)))
theorem vI(b o:Nat)(K:Int)(hK:K≤1000000)(s:PS)(hI:s.Inv K)(n:Int):Spec Tryz.prog 145 [ptr b o 0,.int .i64 n,.bool false] [.cells b o 24 (aq s)] (fun v H1=>v=bM 102 (s.gD n false (-1)).1∧H1=[.cells b o 24 (aq (s.gD n false (-1)).2)]):=by
 have b0:=hI.e0 n
 have b1:=hI.e1 n
 have bl:=hI.len n
 have hnew:(s.e n (uj false)=0)=(s.e n 0=0):=by simp[uj]
 refine Spec.go 45 [0,1,2,6,7,8,16,23,41] [] Tryz.func145 rfl rfl rfl ?_
 intro W
 refine ca (LZ _ _ K hK s hI _) .h1 ?_
 rintro _ _ (⟨h1,rfl,rfl⟩ | ⟨h1,rfl,rfl⟩)
 ·
  obtain⟨h1,h2,h3⟩:=h1
  refine gO ?_
  refine ca (pM _ _ _) .nil ?_
  rintro _ _ ⟨rfl,rfl⟩
  refine gO ?_
  refine ld .here (aq.dP _ _ (by omega)) ?_
  refine cd rfl ?_ ?_<;>intro h4
  ·
   refine XE.aV rfl rfl (ab .h1 rfl ?_)
   try dsimp only[SW.den,SV.den,aj,aZ]
   first
    | (rw[PS.gV (by assumption)];exact⟨(aW _ (by assumption)).symm,rfl⟩)
    | (rw[PS.e7 (by assumption) (by assumption)];exact⟨rfl,rfl⟩)
    | (rw[PS.jh (by assumption) (by assumption) (by omega)];exact⟨rfl,rfl⟩)
    | (rw[PS.fL (by assumption) (by assumption) (by omega)];refine⟨rfl,?_⟩;exact congrArg (fun e=>[ax.cells b o 24 (aq {b:=aa s.b n ⟨#[]⟩,e:=e})]) (drop_eq (by omega) (by omega)))
  ·
   refine ca (pM _ _ _) .nil ?_
   rintro _ _ ⟨rfl,rfl⟩
   refine gO ?_
   refine ld .here (aq.dP _ _ (by omega)) ?_
   refine sd (by omega) ?_
   refine st .here (aq.kg _ _ (by omega) _) rfl ?_
   refine rq [0,1,2,3,4,5,6,7,8,9] mixed (by kernel_rfl) ?_
   have c0:({s with e:=aX s.e n 0 (s.e n 0-1)} :PS).e n 0=s.e n 0+ -1:=by simp[aX];omega
   have c0f:aX s.e n 0 (s.e n 0-1) n 0=s.e n 0+ -1:=by simp[aX];omega
   have c1:({s with e:=aX s.e n 0 (s.e n 0-1)} :PS).e n 1=s.e n 1+0:=by simp[aX]
   have c1f:aX s.e n 0 (s.e n 0-1) n 1=s.e n 1+0:=by simp[aX]
   refine ld .here (aq.dP _ _ (by omega)) ?_
   refine ld .here (aq.dv _ _ (by omega)) ?_
   refine sd (by omega) ?_
   refine cd rfl ?_ ?_<;>intro h5
   ·
    refine XO.v (V.build (vs:= #[]) rfl (v:=.agg #[.string ⟨#[]⟩,.int .i64 0,.int .i64 0]) (fun _=>by kernel_rfl)) rfl (gO ?_)
    refine jA .here (tS _ (by omega)) rfl ⟨rfl,rfl⟩ ?_
    refine XE.aV rfl rfl (ab .h1 rfl ?_)
    try dsimp only[SW.den,SV.den,aj,aZ]
    first
    | (rw[PS.gV (by assumption)];exact⟨(aW _ (by assumption)).symm,rfl⟩)
    | (rw[PS.e7 (by assumption) (by assumption)];exact⟨rfl,rfl⟩)
    | (rw[PS.jh (by assumption) (by assumption) (by omega)];exact⟨rfl,rfl⟩)
    | (rw[PS.fL (by assumption) (by assumption) (by omega)];refine⟨rfl,?_⟩;exact congrArg (fun e=>[ax.cells b o 24 (aq {b:=aa s.b n ⟨#[]⟩,e:=e})]) (drop_eq (by omega) (by omega)))
   ·
    refine XE.aV rfl rfl (ab .h1 rfl ?_)
    try dsimp only[SW.den,SV.den,aj,aZ]
    first
    | (rw[PS.gV (by assumption)];exact⟨(aW _ (by assumption)).symm,rfl⟩)
    | (rw[PS.e7 (by assumption) (by assumption)];exact⟨rfl,rfl⟩)
    | (rw[PS.jh (by assumption) (by assumption) (by omega)];exact⟨rfl,rfl⟩)
    | (rw[PS.fL (by assumption) (by assumption) (by omega)];refine⟨rfl,?_⟩;exact congrArg (fun e=>[ax.cells b o 24 (aq {b:=aa s.b n ⟨#[]⟩,e:=e})]) (drop_eq (by omega) (by omega)))
 ·
  try dsimp only[aC,aS,aM,aR,aN,aP,aQ,aU,aO,aT,aG,aH,aB,aF]
  refine gO ?_
  refine XE.aV rfl rfl (ab .h1 rfl ?_)
  try dsimp only[SW.den,SV.den,aj,aZ]
  first
    | (rw[PS.gV (by assumption)];exact⟨(aW _ (by assumption)).symm,rfl⟩)
    | (rw[PS.e7 (by assumption) (by assumption)];exact⟨rfl,rfl⟩)
    | (rw[PS.jh (by assumption) (by assumption) (by omega)];exact⟨rfl,rfl⟩)
    | (rw[PS.fL (by assumption) (by assumption) (by omega)];refine⟨rfl,?_⟩;exact congrArg (fun e=>[ax.cells b o 24 (aq {b:=aa s.b n ⟨#[]⟩,e:=e})]) (drop_eq (by omega) (by omega)))
theorem Hh(b o:Nat)(K:Int)(hK:K≤1000000)(s:PS)(hI:s.Inv K)(n:Int)(t:ByteArray)(ht:t.size≤1000000):Spec Tryz.prog 136 [ptr b o 0,.int .i64 n,.string t] [.cells b o 24 (aq s)] (fun v H1=>v= .tuple #[.int .i64 (s.write n t).1,bM 102 (s.write n t).2.1]∧H1=[.cells b o 24 (aq (s.write n t).2.2)]):=by
 have b0:=hI.e0 n
 have b1:=hI.e1 n
 have bl:=hI.len n
 have he:=CC t
 refine Spec.go 59 [0,1,2,6,7,8,9,10,18,24,30,46] [] Tryz.func136 rfl rfl rfl ?_
 intro W
 refine ca (LZ _ _ K hK s hI _) .h1 ?_
 rintro _ _ (⟨h1,rfl,rfl⟩ | ⟨h1,rfl,rfl⟩)
 ·
  obtain⟨h1,h2,h3⟩:=h1
  refine gO ?_
  refine ld .here (aq.dv _ _ (by omega)) ?_
  refine cd rfl ?_ ?_<;>intro h4
  ·
   refine XE.bC rfl rfl rfl (ab .h1 rfl ?_)
   try dsimp only[SW.den,SV.den,aj,aZ]
   first
   | (rw[PS.iC (by assumption)];exact⟨by show _=Value.tuple #[_,bM 102 (s.is n)];rw[aW _ (by assumption)],rfl⟩)
   | (rw[PS.fK (by assumption) (by assumption)];exact⟨rfl,rfl⟩)
   | (rw[PS.fm (by assumption) (by assumption) (by assumption)];exact⟨rfl,rfl⟩)
   | (rw[PS.fM (by assumption) (by assumption) (by assumption) ⟨by assumption,by first | omega | (have hq:=_root_.mt he.2 (by assumption);omega)⟩];exact⟨rfl,rfl⟩)
   | (rw[PS.jS (by assumption) (by assumption) (by assumption) (by first | omega | (have hq:=he.1 (Decidable.not_not.1 (by assumption));omega))];exact⟨rfl,rfl⟩)
  ·
   refine ld .here (aq.dP _ _ (by omega)) ?_
   refine cd rfl ?_ ?_<;>intro h5
   ·
    refine XE.bC rfl rfl rfl (ab .h1 rfl ?_)
    try dsimp only[SW.den,SV.den,aj,aZ]
    first
    | (rw[PS.iC (by assumption)];exact⟨by show _=Value.tuple #[_,bM 102 (s.is n)];rw[aW _ (by assumption)],rfl⟩)
    | (rw[PS.fK (by assumption) (by assumption)];exact⟨rfl,rfl⟩)
    | (rw[PS.fm (by assumption) (by assumption) (by assumption)];exact⟨rfl,rfl⟩)
    | (rw[PS.fM (by assumption) (by assumption) (by assumption) ⟨by assumption,by first | omega | (have hq:=_root_.mt he.2 (by assumption);omega)⟩];exact⟨rfl,rfl⟩)
    | (rw[PS.jS (by assumption) (by assumption) (by assumption) (by first | omega | (have hq:=he.1 (Decidable.not_not.1 (by assumption));omega))];exact⟨rfl,rfl⟩)
   ·
    refine ld .here (aq.nJ _ _ (by omega)) ?_
    refine sd (by omega) ?_
    refine sp 43 rfl ?_ ?_<;>intro h6
    ·
     refine cd rfl ?_ ?_<;>intro h7
     ·
      refine XE.bC rfl rfl rfl (ab .h1 rfl ?_)
      try dsimp only[SW.den,SV.den,aj,aZ]
      first
      | (rw[PS.iC (by assumption)];exact⟨by show _=Value.tuple #[_,bM 102 (s.is n)];rw[aW _ (by assumption)],rfl⟩)
      | (rw[PS.fK (by assumption) (by assumption)];exact⟨rfl,rfl⟩)
      | (rw[PS.fm (by assumption) (by assumption) (by assumption)];exact⟨rfl,rfl⟩)
      | (rw[PS.fM (by assumption) (by assumption) (by assumption) ⟨by assumption,by first | omega | (have hq:=_root_.mt he.2 (by assumption);omega)⟩];exact⟨rfl,rfl⟩)
      | (rw[PS.jS (by assumption) (by assumption) (by assumption) (by first | omega | (have hq:=he.1 (Decidable.not_not.1 (by assumption));omega))];exact⟨rfl,rfl⟩)
     ·
      refine rq [0,1,2,3,4,5,6,7,8,9,10] mixed (by kernel_rfl) ?_
      refine ld .here (aq.nJ _ _ (by omega)) ?_
      refine sd (by omega) ?_
      refine sd (by simp only[ByteArray.size_extract];omega) ?_
      refine st .here (aq.nD _ _ (by omega) _) rfl ?_
      refine XE.bC rfl rfl rfl (ab .h1 rfl ?_)
      try dsimp only[SW.den,SV.den,aj,aZ]
      first
      | (rw[PS.iC (by assumption)];exact⟨by show _=Value.tuple #[_,bM 102 (s.is n)];rw[aW _ (by assumption)],rfl⟩)
      | (rw[PS.fK (by assumption) (by assumption)];exact⟨rfl,rfl⟩)
      | (rw[PS.fm (by assumption) (by assumption) (by assumption)];exact⟨rfl,rfl⟩)
      | (rw[PS.fM (by assumption) (by assumption) (by assumption) ⟨by assumption,by first | omega | (have hq:=_root_.mt he.2 (by assumption);omega)⟩];exact⟨rfl,rfl⟩)
      | (rw[PS.jS (by assumption) (by assumption) (by assumption) (by first | omega | (have hq:=he.1 (Decidable.not_not.1 (by assumption));omega))];exact⟨rfl,rfl⟩)
    ·
     refine rq [0,1,2,3,4,5,6,7,8,9,10] mixed (by kernel_rfl) ?_
     refine ld .here (aq.nJ _ _ (by omega)) ?_
     refine sd (by omega) ?_
     refine sd (by simp only[ByteArray.size_extract];omega) ?_
     refine st .here (aq.nD _ _ (by omega) _) rfl ?_
     refine XE.bC rfl rfl rfl (ab .h1 rfl ?_)
     try dsimp only[SW.den,SV.den,aj,aZ]
     first
     | (rw[PS.iC (by assumption)];exact⟨by show _=Value.tuple #[_,bM 102 (s.is n)];rw[aW _ (by assumption)],rfl⟩)
     | (rw[PS.fK (by assumption) (by assumption)];exact⟨rfl,rfl⟩)
     | (rw[PS.fm (by assumption) (by assumption) (by assumption)];exact⟨rfl,rfl⟩)
     | (rw[PS.fM (by assumption) (by assumption) (by assumption) ⟨by assumption,by first | omega | (have hq:=_root_.mt he.2 (by assumption);omega)⟩];exact⟨rfl,rfl⟩)
     | (rw[PS.jS (by assumption) (by assumption) (by assumption) (by first | omega | (have hq:=he.1 (Decidable.not_not.1 (by assumption));omega))];exact⟨rfl,rfl⟩)
 ·
  try dsimp only[aC,aS,aM,aR,aN,aP,aQ,aU,aO,aT,aG,aH,aB,aF]
  refine gO ?_
  refine XE.bC rfl rfl rfl (ab .h1 rfl ?_)
  try dsimp only[SW.den,SV.den,aj,aZ]
  first
  | (rw[PS.iC (by assumption)];exact⟨by show _=Value.tuple #[_,bM 102 (s.is n)];rw[aW _ (by assumption)],rfl⟩)
  | (rw[PS.fK (by assumption) (by assumption)];exact⟨rfl,rfl⟩)
  | (rw[PS.fm (by assumption) (by assumption) (by assumption)];exact⟨rfl,rfl⟩)
  | (rw[PS.fM (by assumption) (by assumption) (by assumption) ⟨by assumption,by first | omega | (have hq:=_root_.mt he.2 (by assumption);omega)⟩];exact⟨rfl,rfl⟩)
  | (rw[PS.jS (by assumption) (by assumption) (by assumption) (by first | omega | (have hq:=he.1 (Decidable.not_not.1 (by assumption));omega))];exact⟨rfl,rfl⟩)
end Go.X.Tr

namespace Go.X.Tr
open Go Go.Proofs Go.X
set_option maxRecDepth 20000
set_option maxHeartbeats 4000000
theorem KJ(b o:Nat)(K:Int)(hK:K≤1000000)(s:PS)(hI:s.Inv K)(n:Int)(w:Bool):Spec Tryz.prog 145 [ptr b o 0,.int .i64 n,.bool w] [.cells b o 24 (aq s)] (fun v H1=>v=bM 102 (s.gD n w (-1)).1∧H1=[.cells b o 24 (aq (s.gD n w (-1)).2)]):=by
 cases w
 ·exact vI b o K hK s hI n
 ·exact wD b o K hK s hI n
theorem KK(bo oo bf bp:Nat)(O:OS)(n:Int):Spec Tryz.prog 125 [ptr bo oo 0,.int .i64 n] [.cells bo oo 122 (aD bf bp O)] (fun v H1=>((O.is n=0∧0≤n∧n<24)∧v= .tuple #[ptr bo oo (0+2+n.toNat*5),.nilIface]∧H1=[.cells bo oo 122 (aD bf bp O)])∨(O.is n≠0∧v= .tuple #[.pointer none,.iface 102 (.int .i64 (O.is n))]∧H1=[.cells bo oo 122 (aD bf bp O)])):=by
 refine Spec.go 27 [0,1,4,5,11,20] [] Tryz.func125 rfl rfl rfl ?_
 intro W
 refine sp 8 rfl ?_ ?_<;>intro h1
 ·
  refine XE.bC rfl rfl rfl (ab .h1 rfl ?_)
  try dsimp only[SW.den,SV.den,aj,aZ]
  rcases OS.dh O n with⟨q0,q1⟩ | ⟨q0,q1⟩ | ⟨q0,q1⟩<;>first | (exfalso;omega) | exact .inl ⟨⟨q0,by omega,by omega⟩,rfl,rfl⟩ | exact .inr ⟨by omega,by rw[q0],rfl⟩
 ·
  refine cd rfl ?_ ?_<;>intro h2
  ·
   refine XE.bC rfl rfl rfl (ab .h1 rfl ?_)
   try dsimp only[SW.den,SV.den,aj,aZ]
   rcases OS.dh O n with⟨q0,q1⟩ | ⟨q0,q1⟩ | ⟨q0,q1⟩<;>first | (exfalso;omega) | exact .inl ⟨⟨q0,by omega,by omega⟩,rfl,rfl⟩ | exact .inr ⟨by omega,by rw[q0],rfl⟩
  ·
   refine sd (by omega) ?_
   refine ld .here (aD.jE _ _ (by omega)) ?_
   refine cd rfl ?_ ?_<;>intro h3
   ·
    refine XE.bC rfl rfl rfl (ab .h1 rfl ?_)
    try dsimp only[SW.den,SV.den,aj,aZ]
    rcases OS.dh O n with⟨q0,q1⟩ | ⟨q0,q1⟩ | ⟨q0,q1⟩<;>first | (exfalso;omega) | exact .inl ⟨⟨q0,by omega,by omega⟩,rfl,rfl⟩ | exact .inr ⟨by omega,by rw[q0],rfl⟩
   ·
    refine sd (by omega) ?_
    refine XE.bC rfl rfl rfl (ab .h1 rfl ?_)
    try dsimp only[SW.den,SV.den,aj,aZ]
    rcases OS.dh O n with⟨q0,q1⟩ | ⟨q0,q1⟩ | ⟨q0,q1⟩<;>first | (exfalso;omega) | exact .inl ⟨⟨q0,by omega,by omega⟩,rfl,rfl⟩ | exact .inr ⟨by omega,by rw[q0],rfl⟩
theorem J5(bo oo bf bp:Nat)(O:OS)(m:Int):Spec Tryz.prog 134 [ptr bo oo 0,.int .i64 m] [.cells bo oo 122 (aD bf bp O)] (fun v H1=>(((O.dQ m 24).length:Int)<m∧v= .slice none 0 0∧H1=[.cells bo oo 122 (aD bf bp O)])∨(¬((O.dQ m 24).length:Int)<m∧∃ p c,v= .slice p (O.dQ m 24).length c∧H1=[bk p c 3 (O.dQ m 24),.cells bo oo 122 (aD bf bp O)])):=by
 refine Spec.go 34 [0,1,4,5,6,7,8,23,32] [] Tryz.func134 rfl rfl rfl ?_
 intro W
 refine XR.dH 3 1 ?_
 refine lp (σ:=Int×Option Addr×Nat) (fun x=>(24-x.1).toNat) (fun x=>0≤x.1∧x.1≤24) (fun x=>[(5,.slice x.2.1 (O.dQ m x.1.toNat).length x.2.2),(7,.int .i64 x.1),(0,ptr bo oo 0),(1,.int .i64 m)]) (fun x=>XM W (bS [.cells bo oo 122 (aD bf bp O)]) [bk x.2.1 x.2.2 3 (O.dQ m x.1.toNat),.cells bo oo 122 (aD bf bp O)]) ((0,none,0)) ?_ (S4 rfl rfl rfl rfl) (fun _ hw=>XM.pick .h2 hw) ?_
 ·
  exact⟨by omega,by omega⟩
 intro x hx
 obtain⟨hx0,hx1⟩:=hx
 have hst:=O.zL m hx0
 have hln:=O.uJ m x.1.toNat
 refine gC ?_
 refine cd rfl ?_ ?_<;>intro h1
 ·
  refine sd (by omega) ?_
  refine ld (.there .here) (aD.jE _ _ (by omega)) ?_
  refine sp 18 rfl ?_ ?_<;>intro h2
  ·
   refine cd rfl ?_ ?_<;>intro h3
   ·
    have e1:O.dQ m (x.1+1).toNat=O.dQ m x.1.toNat++[x.1]:=by rw[hst,if_pos ⟨by assumption,by assumption⟩]
    refine XO.buildSlice (A:= #[.int .i64 _]) (vs:= #[(0,.int .i64 _)]) rfl (lq _) rfl rfl ?_
    intro h4
    refine gO ?_
    refine XO.kr (e:=3) rfl rfl Tryz.underlying55 jl (.there .here) .here (by omega) rfl ?_
    intro pa ca
    refine gO ?_
    refine sd (by omega) ?_
    refine ag ((x.1+1,pa,ca)) ?_ ?_ (S4 (by rw[e1];try rfl) rfl rfl rfl) (fun _ hw=>by rw[e1];exact XM.pick (.cons .here (.cons (.there .here) .nil)) hw)
    ·
     (first | omega | (simp;done) | (simp;omega))
    ·
     (first | omega | (simp;done) | (simp;omega))
   ·
    have e1:O.dQ m (x.1+1).toNat=O.dQ m x.1.toNat:=by rw[hst,if_neg (fun q=>absurd q.2 (by assumption))]
    refine sd (by omega) ?_
    refine ag ((x.1+1,x.2.1,x.2.2)) ?_ ?_ (S4 (by rw[e1];try rfl) rfl rfl rfl) (fun _ hw=>by rw[e1];exact XM.pick .h2 hw)
    ·
     (first | omega | (simp;done) | (simp;omega))
    ·
     (first | omega | (simp;done) | (simp;omega))
  ·
   have e1:O.dQ m (x.1+1).toNat=O.dQ m x.1.toNat:=by rw[hst,if_neg (fun q=>absurd q.1 (by assumption))]
   refine sd (by omega) ?_
   refine ag ((x.1+1,x.2.1,x.2.2)) ?_ ?_ (S4 (by rw[e1];try rfl) rfl rfl rfl) (fun _ hw=>by rw[e1];exact XM.pick .h2 hw)
   ·
    (first | omega | (simp;done) | (simp;omega))
   ·
    (first | omega | (simp;done) | (simp;omega))
 ·
  have e24:x.1=24:=by omega
  rw[e24]
  refine cd rfl ?_ ?_<;>intro h7
  ·
   refine XE.aV rfl rfl (ab (.cons (.there .here) .nil) rfl ?_)
   try dsimp only[SW.den,SV.den,aj,aZ]
   exact .inl ⟨by assumption,rfl,rfl⟩
  ·
   refine XE.aV rfl rfl (ab .h2 rfl ?_)
   try dsimp only[SW.den,SV.den,aj,aZ]
   exact .inr ⟨by assumption,_,_,rfl,rfl⟩
theorem z6(bo oo bf bp:Nat)(O:OS)(J:Int)(hJ:J≤1000000)(hO:O.Inv J)(n:Int):Spec Tryz.prog 59 [ptr bo oo 0,.int .i64 n] [.cells bo oo 122 (aD bf bp O)] (fun v H1=>v=bM 102 (O.is n)∧H1=[.cells bo oo 122 (aD bf bp (mJ O n))]):=by
 refine Spec.go 23 [0,1,4,5,6,14] [] Tryz.func59 rfl rfl rfl ?_
 intro W
 refine ca (KK _ _ _ _ _ _) .h1 ?_
 rintro _ _ (⟨⟨i0,i1,i2⟩,rfl,rfl⟩ | ⟨i0,rfl,rfl⟩)
 ·
  try dsimp only[aC,aS,aM,aR,aN,aP,aQ,aU,aO,aT,aG,aH,aB,aF]
  have hrb:=hO.refs n i1 i2
  refine gO ?_
  refine ld .here (aD.jE _ _ (by omega)) ?_
  refine sd (by omega) ?_
  refine st .here (aD.tU _ _ (by omega) _) rfl ?_
  refine XE.aV rfl rfl (ab .h1 rfl ?_)
  try dsimp only[SW.den,SV.den,aj,aZ]
  exact⟨by rw[i0];rfl,by unfold mJ;rw[if_pos i0]⟩
 ·
  try dsimp only[aC,aS,aM,aR,aN,aP,aQ,aU,aO,aT,aG,aH,aB,aF]
  refine gO ?_
  refine XE.aV rfl rfl (ab .h1 rfl ?_)
  try dsimp only[SW.den,SV.den,aj,aZ]
  exact⟨by rw[aW _ i0],by unfold mJ;rw[if_neg i0]⟩
end Go.X.Tr

namespace Go.X.Tr
open Go Go.Proofs Go.X
set_option maxRecDepth 20000
set_option maxHeartbeats 4000000
def GZ(bf bp:Nat):Array Value:=((List.range 122).map (aD bf bp OS.void)).toArray
theorem BE(bf bp:Nat):(GZ bf bp).size=122:=by simp[GZ]
theorem EG(bf bp:Nat):∀ i,i<122→cellsOf (GZ bf bp) i=aD bf bp OS.void i:=fun i hi=>by simp[cellsOf,GZ,hi]
theorem Jb(bo oo bf bp:Nat)(O:OS)(J:Int)(hJ:J≤1000000)(hO:O.Inv J)(s:FC)(hI:s.toFF.Sh)(K:Int)(hK:K≤1000000)(q:PS)(hq:q.Inv K)(n:Int)(x:ByteArray)(hx:x.size≤1000000):Spec Tryz.prog 70 [ptr bo oo 0,.int .i64 n,.string x] [.cells bo oo 122 (aD bf bp O),.cells bf 0 321 (av s),.fam ai (FC.aJ 9 s),.fam ai (FC.aK 3 s),.cells bp 0 24 (aq q)] (fun v H1=>v= .tuple #[.int .i64 (de s.toFF q O n x),bM 102 (c9 s.toFF q O n x)]∧∃ t:FC,t.toFF=dt s.toFF O n x∧t.rP=s.rP∧t.rC=s.rC∧H1=[.cells bo oo 122 (aD bf bp (dc s.toFF O n x)),.cells bf 0 321 (av t),.fam ai (FC.aJ 9 t),.fam ai (FC.aK 3 t),.cells bp 0 24 (aq (dp q O n x))]):=by
 refine Spec.go 79 [0,1,2,6,7,8,9,17,19,37,66] [] Tryz.func70 rfl rfl rfl ?_
 intro W
 refine ca (KK _ _ _ _ _ _) .h1 ?_
 rintro _ _ (⟨⟨i0,i1,i2⟩,rfl,rfl⟩ | ⟨i0,rfl,rfl⟩)
 ·
  try dsimp only[aC,aS,aM,aR,aN,aP,aQ,aU,aO,aT,aG,aH,aB,aF]
  have hra:=hO.refs n i1 i2
  have haa:=hO.at_ n i1 i2
  have hka:=hO.kind n i1 i2 (OS.Fg i0).2.2
  refine gO ?_
  refine ld .here (aD.tg _ _ (by omega)) ?_
  refine cd rfl ?_ ?_<;>intro h1
  ·
   refine rq [0,1,2,3,4,5,6,7,8,9,10,11,12,13] mixed (by kernel_rfl) ?_
   refine ld .here (aD.Gv _) ?_
   refine ld .here (aD.Ej _ _ (by omega)) ?_
   refine ca (Hh _ _ K hK q hq _ _ hx) (.cons (.t4 .here) .nil) ?_
   rintro _ _ ⟨rfl,rfl⟩
   refine gO ?_
   refine XE.bC rfl rfl rfl (ab (.cons (.there .here) (.cons (.there .here) (.cons (.there .here) (.cons (.there .here) .h1)))) rfl ?_)
   try dsimp only[SW.den,SV.den,aj,aZ]
   have hk:O.kind n=3:=by assumption
   have eE:c9 s.toFF q O n x=(q.write (O.n n) x).2.1:=by unfold c9;rw[if_neg (by omega),if_pos hk]
   have eV:de s.toFF q O n x=(q.write (O.n n) x).1:=by unfold de;rw[if_pos ⟨i0,hk⟩]
   have eF:dt s.toFF O n x=s.toFF:=by unfold dt;rw[if_neg (fun h=>h.2.1 hk)]
   have eO:dc s.toFF O n x=O:=by unfold dc;rw[if_neg (fun h=>h.1.2.1 hk)]
   have eP:dp q O n x=(q.write (O.n n) x).2.2:=by unfold dp;rw[if_pos ⟨i0,hk⟩]
   exact⟨by rw[eE,eV],s,by rw[eF],rfl,rfl,by rw[eO,eP]⟩
  ·
   refine ld .here (aD.tg _ _ (by omega)) ?_
   refine sp 43 rfl ?_ ?_<;>intro h2
   ·
    refine XE.bC rfl rfl rfl (ab .h5 rfl ?_)
    try dsimp only[SW.den,SV.den,aj,aZ]
    have hk:¬O.kind n=3:=by assumption
    have h2:O.kind n=2:=by assumption
    have eE:c9 s.toFF q O n x=8:=by unfold c9;rw[if_neg (by omega),if_neg hk,if_pos (.inl h2)]
    have eV:de s.toFF q O n x=0:=by unfold de;rw[if_neg (fun h=>hk h.2),if_neg (fun h=>h.1.2.2 (.inl h2))]
    have eF:dt s.toFF O n x=s.toFF:=by unfold dt;rw[if_neg (fun h=>h.2.2 (.inl h2))]
    have eO:dc s.toFF O n x=O:=by unfold dc;rw[if_neg (fun h=>h.1.2.2 (.inl h2))]
    have eP:dp q O n x=q:=by unfold dp;rw[if_neg (fun h=>hk h.2)]
    exact⟨by rw[eE,eV];rfl,s,by rw[eF],rfl,rfl,by rw[eO,eP]⟩
   ·
    skip
    refine ld .here (aD.yN _ _ (by omega)) ?_
    refine Dy rfl ?_ ?_<;>intro h3
    ·try simp only[sb]at h3
     have hwf:O.write n=false:=by simpa using h3
     refine XE.bC rfl rfl rfl (ab .h5 rfl ?_)
     try dsimp only[SW.den,SV.den,aj,aZ]
     have hk:¬O.kind n=3:=by assumption
     have eE:c9 s.toFF q O n x=8:=by unfold c9;rw[if_neg (by omega),if_neg hk,if_pos (.inr hwf)]
     have eV:de s.toFF q O n x=0:=by unfold de;rw[if_neg (fun h=>hk h.2),if_neg (fun h=>h.1.2.2 (.inr hwf))]
     have eF:dt s.toFF O n x=s.toFF:=by unfold dt;rw[if_neg (fun h=>h.2.2 (.inr hwf))]
     have eO:dc s.toFF O n x=O:=by unfold dc;rw[if_neg (fun h=>h.1.2.2 (.inr hwf))]
     have eP:dp q O n x=q:=by unfold dp;rw[if_neg (fun h=>hk h.2)]
     exact⟨by rw[eE,eV];rfl,s,by rw[eF],rfl,rfl,by rw[eO,eP]⟩
    ·try simp only[sb]at h3
     have hwt:O.write n=true:=by simpa using h3
     refine rq [0,1,2,3,4,5,6,7,8,9,10,11,12,13,14] mixed (by kernel_rfl) ?_
     refine ld .here (aD.MA _) ?_
     refine ld .here (aD.Ej _ _ (by omega)) ?_
     refine ld .here (aD.AV _ _ (by omega)) ?_
     refine ca (HE _ _ _ hI _ _ _ (by omega)) (.cons (.there .here) (.cons (.there .here) (.cons (.there .here) .nil))) ?_
     rintro _ _ ⟨rfl,t,ht,tp,tc,rfl⟩
     refine gO ?_
     refine cd rfl ?_ ?_<;>intro h4
     ·
      refine XE.bC rfl rfl rfl (ab (.cons (.t3 .here) .h4) rfl ?_)
      try dsimp only[SW.den,SV.den,aj,aZ]
      have hk:¬O.kind n=3:=by assumption
      have h2:¬O.kind n=2:=by assumption
      have hfw:pC O n:=⟨i0,hk,fun h=>by rcases h with h | h;exact h2 h;rw[hwt]at h;cases h⟩
      have hwe:s.toFF.bR (O.n n) (O.at_ n) x≠0:=by assumption
      have eE:c9 s.toFF q O n x=s.toFF.bR (O.n n) (O.at_ n) x:=by unfold c9;rw[if_neg (by omega),if_neg hk,if_neg hfw.2.2]
      have eV:de s.toFF q O n x=0:=by unfold de;rw[if_neg (fun h=>hk h.2),if_neg (fun h=>hwe h.2)]
      have eF:dt s.toFF O n x=s.toFF.write (O.n n) (O.at_ n) x:=by unfold dt;rw[if_pos hfw]
      have eO:dc s.toFF O n x=O:=by unfold dc;rw[if_neg (fun h=>hwe h.2)]
      have eP:dp q O n x=q:=by unfold dp;rw[if_neg (fun h=>hk h.2)]
      exact⟨by rw[eE,eV],t,by rw[eF];exact ht,tp,tc,by rw[eO,eP]⟩
     ·
      refine ld (.t3 .here) (aD.AV _ _ (by omega)) ?_
      refine sd (by omega) ?_
      refine st (.t3 .here) (aD.HL _ _ (by omega) _) rfl ?_
      refine XE.bC rfl rfl rfl (ab (.cons (.t3 .here) .h4) rfl ?_)
      try dsimp only[SW.den,SV.den,aj,aZ]
      have hk:¬O.kind n=3:=by assumption
      have h2:¬O.kind n=2:=by assumption
      have hfw:pC O n:=⟨i0,hk,fun h=>by rcases h with h | h;exact h2 h;rw[hwt]at h;cases h⟩
      have hwe:s.toFF.bR (O.n n) (O.at_ n) x=0:=Decidable.byContradiction (by assumption)
      have eE:c9 s.toFF q O n x=0:=by unfold c9;rw[if_neg (by omega),if_neg hk,if_neg hfw.2.2,hwe]
      have eV:de s.toFF q O n x=(x.size:Int):=by unfold de;rw[if_neg (fun h=>hk h.2),if_pos ⟨hfw,hwe⟩]
      have eF:dt s.toFF O n x=s.toFF.write (O.n n) (O.at_ n) x:=by unfold dt;rw[if_pos hfw]
      have eO:dc s.toFF O n x=O.move n (x.size):=by unfold dc;rw[if_pos ⟨hfw,hwe⟩]
      have eP:dp q O n x=q:=by unfold dp;rw[if_neg (fun h=>hk h.2)]
      exact⟨by rw[eE,eV];rfl,t,by rw[eF];exact ht,tp,tc,by rw[eO,eP];rfl⟩
 ·
  try dsimp only[aC,aS,aM,aR,aN,aP,aQ,aU,aO,aT,aG,aH,aB,aF]
  refine gO ?_
  refine XE.bC rfl rfl rfl (ab .h5 rfl ?_)
  try dsimp only[SW.den,SV.den,aj,aZ]
  have eE:c9 s.toFF q O n x=O.is n:=by unfold c9;rw[if_pos i0]
  have eV:de s.toFF q O n x=0:=by unfold de;rw[if_neg (fun h=>i0 h.1),if_neg (fun h=>i0 h.1.1)]
  have eF:dt s.toFF O n x=s.toFF:=by unfold dt;rw[if_neg (fun h=>i0 h.1)]
  have eO:dc s.toFF O n x=O:=by unfold dc;rw[if_neg (fun h=>i0 h.1.1)]
  have eP:dp q O n x=q:=by unfold dp;rw[if_neg (fun h=>i0 h.1)]
  exact⟨by rw[eE,eV,aW _ i0],s,by rw[eF],rfl,rfl,by rw[eO,eP]⟩
theorem Bb(bo oo bf bp:Nat)(O:OS)(J:Int)(hJ:J≤1000000)(hO:O.Inv J)(s:FC)(hI:s.toFF.Sh)(K:Int)(hK:K≤1000000)(q:PS)(hq:q.Inv K)(n:Int):Spec Tryz.prog 76 [ptr bo oo 0,.int .i64 n] [.cells bo oo 122 (aD bf bp O),.cells bf 0 321 (av s),.fam ai (FC.aJ 9 s),.fam ai (FC.aK 3 s),.cells bp 0 24 (aq q)] (fun v H1=>v=bM 102 (df s.toFF q O n)∧∃ t:FC,t.toFF=gH s.toFF O n∧t.rP=s.rP∧t.rC=s.rC∧H1=[.cells bo oo 122 (aD bf bp (eK O n)),.cells bf 0 321 (av t),.fam ai (FC.aJ 9 t),.fam ai (FC.aK 3 t),.cells bp 0 24 (aq (fx q O n))]):=by
 refine Spec.go 55 [0,1,4,5,6,7,15,28,37] [] Tryz.func76 rfl rfl rfl ?_
 intro W
 refine ca (KK _ _ _ _ _ _) .h1 ?_
 rintro _ _ (⟨⟨i0,i1,i2⟩,rfl,rfl⟩ | ⟨i0,rfl,rfl⟩)
 ·
  try dsimp only[aC,aS,aM,aR,aN,aP,aQ,aU,aO,aT,aG,aH,aB,aF]
  have hra:=hO.refs n i1 i2
  have haa:=hO.at_ n i1 i2
  have hka:=hO.kind n i1 i2 (OS.Fg i0).2.2
  refine gO ?_
  refine ld .here (aD.jE _ _ (by omega)) ?_
  refine sd (by omega) ?_
  refine st .here (aD.tU _ _ (by omega) _) rfl ?_
  refine ld .here (aD.jE _ _ (by omega)) ?_
  refine cd rfl ?_ ?_<;>intro h1
  ·
   have e9:aa O.refs n (O.refs n-1) n=O.refs n-1:=ae _ _ _
   have h9:aa O.refs n (O.refs n-1) n>0:=h1
   have hrg:0<O.refs n-1:=by omega
   refine XE.aV rfl rfl (ab .h5 rfl ?_)
   try dsimp only[SW.den,SV.den,aj,aZ]
   have eE:df s.toFF q O n=0:=by unfold df;rw[if_neg (by omega),if_pos hrg]
   have eF:gH s.toFF O n=s.toFF:=by unfold gH;rw[if_neg (fun h=>h.1.2 hrg)]
   have eP:fx q O n=q:=by unfold fx;rw[if_neg (fun h=>h.1.2 hrg)]
   have eO:eK O n=vR O n:=by unfold eK;rw[if_neg (by omega),if_pos hrg]
   exact⟨by rw[eE];rfl,s,by rw[eF],rfl,rfl,by rw[eO,eP];rfl⟩
  ·
   have e9:aa O.refs n (O.refs n-1) n=O.refs n-1:=ae _ _ _
   have h9:¬aa O.refs n (O.refs n-1) n>0:=h1
   have hrg:¬ 0<O.refs n-1:=by omega
   refine nc .here (aD.yM _ _ (by omega)) ?_
   refine XO.cY (z:=.agg (aD.arr ⟨0,0,0,false,0⟩)) (m:=5) (C:=aD.cell ⟨0,0,0,false,0⟩) (by kernel_rfl) rfl (aD.box _) rfl ?_
   intro bx
   refine gO ?_
   refine jA .here (aD.Ox _ _) rfl ⟨rfl,rfl⟩ ?_
   refine XO.v (V.build (vs:= #[]) rfl (v:=.agg (aD.arr ⟨0,0,0,false,0⟩)) (fun _=>by kernel_rfl)) rfl (gO ?_)
   refine jA (.there .here) (aD.put (vR O n) n 0 0 false 0 ⟨i1,i2⟩) rfl ⟨rfl,rfl⟩ ?_
   refine ld .here (aD.Oa _) ?_
   refine cd rfl ?_ ?_<;>intro h2
   ·
    refine rq [0,1,2,3,4,5,6,7] mixed (by kernel_rfl) ?_
    refine ld (.there .here) (aD.MA _) ?_
    refine ld .here (aD.Of _) ?_
    refine ca (Bi _ _ _ hI _) (.cons (.t2 .here) (.cons (.t2 .here) (.cons (.t2 .here) .nil))) ?_
    rintro _ _ ⟨rfl,t,ht,tp,tc,rfl⟩
    refine gO ?_
    refine XE.aV rfl rfl (ab (.cons (.t4 .here) (.cons .here (.cons .here (.cons .here (.cons (.there .here) .nil))))) rfl ?_)
    try dsimp only[SW.den,SV.den,aj,aZ]
    have hk:O.kind n=1:=by assumption
    have eE:df s.toFF q O n=s.toFF.letE (O.n n):=by unfold df;rw[if_neg (by omega),if_neg hrg,if_pos hk]
    have eF:gH s.toFF O n=s.toFF.gW (O.n n):=by unfold gH;rw[if_pos ⟨⟨i0,hrg⟩,hk⟩]
    have eP:fx q O n=q:=by unfold fx;rw[if_neg (fun h=>h.2 hk)]
    have eO:eK O n=O.He n:=by unfold eK;rw[if_neg (by omega),if_neg hrg]
    exact⟨by rw[eE];rfl,t,by rw[eF];exact ht,tp,tc,by rw[eO,eP,←OS.wX];rfl⟩
   ·
    refine rq [0,1,2,3,4,5,6,7,8,9,10] mixed (by kernel_rfl) ?_
    refine ld (.there .here) (aD.Gv _) ?_
    refine ld .here (aD.Of _) ?_
    refine ld .here (aD.Oa _) ?_
    refine ca (KJ _ _ K hK q hq _ _) (.cons (.t5 .here) .nil) ?_
    rintro _ _ ⟨rfl,rfl⟩
    refine gO ?_
    refine XE.aV rfl rfl (ab (.cons (.t2 .here) (.cons (.t2 .here) (.cons (.t2 .here) (.cons (.t2 .here) .h1)))) rfl ?_)
    try dsimp only[SW.den,SV.den,aj,aZ]
    have hk:¬O.kind n=1:=by assumption
    have eE:df s.toFF q O n=(q.gD (O.n n) (decide (O.kind n=3)) (-1)).1:=by unfold df;rw[if_neg (by omega),if_neg hrg,if_neg hk]
    have eF:gH s.toFF O n=s.toFF:=by unfold gH;rw[if_neg (fun h=>hk h.2)]
    have eP:fx q O n=(q.gD (O.n n) (decide (O.kind n=3)) (-1)).2:=by unfold fx;rw[if_pos ⟨⟨i0,hrg⟩,hk⟩]
    have eO:eK O n=O.He n:=by unfold eK;rw[if_neg (by omega),if_neg hrg]
    exact⟨by rw[eE];rfl,s,by rw[eF],rfl,rfl,by rw[eO,eP,←OS.wX];rfl⟩
 ·
  try dsimp only[aC,aS,aM,aR,aN,aP,aQ,aU,aO,aT,aG,aH,aB,aF]
  refine gO ?_
  refine XE.aV rfl rfl (ab .h5 rfl ?_)
  try dsimp only[SW.den,SV.den,aj,aZ]
  have eE:df s.toFF q O n=O.is n:=by unfold df;rw[if_pos i0]
  have eF:gH s.toFF O n=s.toFF:=by unfold gH;rw[if_neg (fun h=>i0 h.1.1)]
  have eP:fx q O n=q:=by unfold fx;rw[if_neg (fun h=>i0 h.1.1)]
  have eO:eK O n=O:=by unfold eK;rw[if_pos i0]
  exact⟨by rw[eE,aW _ i0],s,by rw[eF],rfl,rfl,by rw[eO,eP]⟩
theorem EI(bf bp:Nat):Spec Tryz.prog 100 [ptr bf 0 0,ptr bp 0 0] [] (fun v H1=>∃ b,v=ptr b 0 0∧H1=[.cells b 0 122 (aD bf bp OS.void)]):=by
 refine Spec.go 9 [0,1,4] [] Tryz.func100 rfl rfl rfl ?_
 intro W
 refine XO.v (V.build (vs:= #[(0,ptr bf 0 0),(1,ptr bp 0 0)]) rfl (v:=.agg (GZ bf bp)) (fun _=>by kernel_rfl)) rfl (gO ?_)
 refine XO.box (m:=122) (C:=aD bf bp OS.void) rfl (BE bf bp) (EG bf bp) rfl ?_
 intro b
 refine gO ?_
 refine XE.aV rfl rfl (ab .h1 rfl ?_)
 try dsimp only[SW.den,SV.den,aj,aZ]
 exact⟨_,rfl,rfl⟩
end Go.X.Tr

namespace Go.X.Tr
open Go Go.Proofs Go.X
set_option maxRecDepth 20000
set_option maxHeartbeats 4000000
theorem Km(bo oo bf bp:Nat)(O:OS)(K:Int)(hK:K≤1000000)(q:PS)(hq:q.Inv K):Spec Tryz.prog 68 [ptr bo oo 0] [.cells bo oo 122 (aD bf bp O),.cells bp 0 24 (aq q)] (fun v H1=>v= .tuple #[.int .i64 (fZ q O),.int .i64 (gG q O),bM 102 (eL q O)]∧H1=[.cells bo oo 122 (aD bf bp (gk q O)),.cells bp 0 24 (aq (fX q O))]):=by
 refine Spec.go 48 [0,2,3,4,5,6,7,11,22] [] Tryz.func68 rfl rfl rfl ?_
 intro W
 refine ca (J5 _ _ _ _ _ _) .h1 ?_
 rintro _ _ (⟨f0,rfl,rfl⟩ | ⟨f0,p1,c1,rfl,rfl⟩)
 ·
  refine gO ?_
  refine XO.v (V.rO rfl Tryz.underlying55 rfl) rfl (gO ?_)
  refine Ju rfl (rfl) ?_
  refine XE.s9 rfl rfl rfl rfl (ab .h2 rfl ?_)
  try dsimp only[SW.den,SV.den,aj,aZ]
  have hf:=OS.Fe f0
  have e:eL q O=4:=by unfold eL;rw[if_pos hf]
  have eV:fZ q O=0:=by unfold fZ;rw[if_neg (by omega)]
  have eU:gG q O=0:=by unfold gG;rw[if_neg (by omega)]
  have eO:gk q O=O:=by unfold gk;rw[if_neg (by omega)]
  have eP:fX q O=q:=by unfold fX;rw[if_pos hf]
  exact⟨by rw[e,eV,eU];rfl,by rw[eO,eP]⟩
 ·
  obtain⟨hf1,hf2,hf4⟩:=OS.Dj f0
  have hf3:=OS.jY hf1
  have hf5:0≤O.second∧O.second<24:=⟨by omega,(OS.jY (s:=O.lay O.first 2 0 false) hf2).2.1⟩
  have hf6:¬(O.first<0∨O.second<0):=by omega
  rw[hf4]
  refine gO ?_
  refine XR.db .here (by show 0<2;omega) ?_
  intro g hg
  subst hg
  refine XO.v (V.rO rfl Tryz.underlying55 rfl) rfl (gO ?_)
  refine uu rfl (by simp) ?_
  refine ld (.there .here) (aD.Gv _) ?_
  refine ca (Ls _ _ K hK q hq) (.cons (.t2 .here) .nil) ?_
  rintro _ _ ⟨rfl,rfl⟩
  refine gO ?_
  refine cd rfl ?_ ?_<;>intro h1
  ·
   refine XE.s9 rfl rfl rfl rfl (ab (.cons (.t2 .here) .h1) rfl ?_)
   try dsimp only[SW.den,SV.den,aj,aZ]
   have e:eL q O=q.make.2.1:=by unfold eL;rw[if_neg hf6]
   have eV:fZ q O=0:=by unfold fZ;rw[if_neg (by omega)]
   have eU:gG q O=0:=by unfold gG;rw[if_neg (by omega)]
   have eO:gk q O=O:=by unfold gk;rw[if_neg (by omega)]
   have eP:fX q O=q.make.2.2:=by unfold fX;rw[if_neg hf6]
   exact⟨by rw[e,eV,eU],by rw[eO,eP]⟩
  ·
   refine rq [0,1,2,3,4,5,6,7,8,9] mixed (by kernel_rfl) ?_
   refine sd (by show(0:Int)≤0∧(0:Int)<2;omega) ?_
   refine Fq (.there .here) (GK _ _) ?_
   refine XO.v (V.build (vs:= #[(0,.int .i64 2),(1,.int .i64 q.make.1),(4,.int .i64 1)]) rfl (v:=.agg (aD.arr ⟨2,q.make.1,0,false,1⟩)) (fun _=>by kernel_rfl)) rfl (gO ?_)
   refine sd ⟨hf3.1,hf3.2.1⟩ ?_
   refine jA (.t2 .here) (aD.put O O.first 2 q.make.1 false 1 ⟨hf3.1,hf3.2.1⟩) rfl ⟨rfl,rfl⟩ ?_
   refine rq [0,1,2,3,4,5,6,7,8,9] mixed (by kernel_rfl) ?_
   refine sd (by show(0:Int)≤1∧(1:Int)<2;omega) ?_
   refine Fq (.there .here) (Gy _ _) ?_
   refine XO.v (V.build (vs:= #[(0,.int .i64 3),(1,.int .i64 q.make.1),(4,.int .i64 1)]) rfl (v:=.agg (aD.arr ⟨3,q.make.1,0,false,1⟩)) (fun _=>by kernel_rfl)) rfl (gO ?_)
   refine sd hf5 ?_
   refine jA (.t2 .here) (aD.put (O.lay O.first 2 q.make.1 false) O.second 3 q.make.1 false 1 hf5) rfl ⟨rfl,rfl⟩ ?_
   refine rq [0,1,2,3,4,5,6,7,8] mixed (by kernel_rfl) ?_
   refine sd (by show(0:Int)≤0∧(0:Int)<2;omega) ?_
   refine Fq (.there .here) (GK _ _) ?_
   refine sd (by show(0:Int)≤1∧(1:Int)<2;omega) ?_
   refine Fq (.there .here) (Gy _ _) ?_
   refine XE.s9 rfl rfl rfl rfl (ab (.cons (.t2 .here) .h1) rfl ?_)
   try dsimp only[SW.den,SV.den,aj,aZ]
   have hz:q.make.2.1=0:=Decidable.byContradiction (by assumption)
   have e:eL q O=0:=by unfold eL;rw[if_neg hf6,hz]
   have eV:fZ q O=O.first:=by unfold fZ;rw[if_pos e]
   have eU:gG q O=O.second:=by unfold gG;rw[if_pos e]
   have eO:gk q O=(O.lay O.first 2 q.make.1 false).lay O.second 3 q.make.1 false:=by unfold gk;rw[if_pos e]
   have eP:fX q O=q.make.2.2:=by unfold fX;rw[if_neg hf6]
   exact⟨by rw[e,eV,eU];rfl,by rw[eO,eP];rfl⟩
end Go.X.Tr

namespace Go.X.Tr
open Go Go.Shelf Go.RowKit Go.Lib Go.Proofs Go.X
set_option maxRecDepth 20000
set_option maxHeartbeats 4000000
section
variable {P:Program} {ρ:Ren}
end
end Go.X.Tr


namespace Go.Proofs
open Go.Shelf
end Go.Proofs

namespace Go.X.Tr
open Go Go.Proofs Go.X
set_option maxRecDepth 20000
set_option maxHeartbeats 4000000
theorem KS:jW Tryz.prog 163=true:=by kernel_rfl
theorem Gp:dx Tryz.prog 163=some 2:=by kernel_rfl
end Go.X.Tr

namespace Go.X.Tr
open Go Go.Proofs Go.X
set_option maxRecDepth 20000
set_option maxHeartbeats 4000000
end Go.X.Tr

namespace Go.X.Tr
open Go Go.Proofs Go.X
set_option maxRecDepth 20000
set_option maxHeartbeats 4000000
end Go.X.Tr
