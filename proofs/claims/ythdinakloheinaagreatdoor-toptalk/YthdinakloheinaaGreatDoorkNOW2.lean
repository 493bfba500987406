import Derived.Test.YthdinakloheinaaGreatDoorkNW6
namespace Go.X.Tr
open Go Go.Proofs Go.X
set_option maxRecDepth 20000
set_option maxHeartbeats 4000000
theorem ID(b o:Nat)(K:Int)(hK:K≤1000000)(s:PS)(hI:s.Inv K)(n:Int):Spec Tryz.prog 193 [ptr b o 0,.int .i64 n] [.cells b o 24 (au s)] (fun v H1=>((s.is n=0∧0≤n∧n<8)∧v= .tuple #[ptr b o (0+0+n.toNat*3),.nilIface]∧H1=[.cells b o 24 (au s)])∨(s.is n≠0∧v= .tuple #[.pointer none,.iface 102 (.int .i64 (s.is n))]∧H1=[.cells b o 24 (au s)])):=by
 have b0:=hI.e0 n
 have b1:=hI.e1 n
 have bl:=hI.len n
 refine Spec.go 35 [0,1,4,5,11,28] [] Tryz.func193 rfl rfl rfl ?_
 intro W
 refine sp 8 rfl ?_ ?_<;>intro h1
 ·
  refine XE.aU rfl rfl rfl (ab .h1 rfl ?_)
  try dsimp only[SW.den,SV.den,aj,aL]
  rcases PS.db s n with⟨q,q1⟩ | ⟨q,q1⟩ | ⟨q,q1⟩<;>first | (exfalso;omega) | exact .inl ⟨⟨q,by omega,by omega⟩,rfl,rfl⟩ | exact .inr ⟨by omega,by rw[q],rfl⟩
 ·
  refine cd rfl ?_ ?_<;>intro h2
  ·
   refine XE.aU rfl rfl rfl (ab .h1 rfl ?_)
   try dsimp only[SW.den,SV.den,aj,aL]
   rcases PS.db s n with⟨q,q1⟩ | ⟨q,q1⟩ | ⟨q,q1⟩<;>first | (exfalso;omega) | exact .inl ⟨⟨q,by omega,by omega⟩,rfl,rfl⟩ | exact .inr ⟨by omega,by rw[q],rfl⟩
  ·
   refine rq [0,1,2,3,4,5,6,7,8,9,10,11,12,13,14,15] mixed (by kernel_rfl) ?_
   refine sd (by omega) ?_
   refine ld .here (au.di _ _ (by omega)) ?_
   refine sd (by omega) ?_
   refine ld .here (au.cU _ _ (by omega)) ?_
   refine sd (by omega) ?_
   refine cd rfl ?_ ?_<;>intro h3
   ·
    refine XE.aU rfl rfl rfl (ab .h1 rfl ?_)
    try dsimp only[SW.den,SV.den,aj,aL]
    rcases PS.db s n with⟨q,q1⟩ | ⟨q,q1⟩ | ⟨q,q1⟩<;>first | (exfalso;omega) | exact .inl ⟨⟨q,by omega,by omega⟩,rfl,rfl⟩ | exact .inr ⟨by omega,by rw[q],rfl⟩
   ·
    refine sd (by omega) ?_
    refine XE.aU rfl rfl rfl (ab .h1 rfl ?_)
    try dsimp only[SW.den,SV.den,aj,aL]
    rcases PS.db s n with⟨q,q1⟩ | ⟨q,q1⟩ | ⟨q,q1⟩<;>first | (exfalso;omega) | exact .inl ⟨⟨q,by omega,by omega⟩,rfl,rfl⟩ | exact .inr ⟨by omega,by rw[q],rfl⟩
theorem rZ(b o i:Nat):Spec Tryz.prog 196 [ptr b o i,.bool true] [] (fun v H1=>v=ptr b o (i+2)∧H1=[]):=by
 refine Spec.go 12 [0,1,4,5] [] Tryz.func196 rfl rfl rfl ?_
 intro W
 refine XE.aK rfl rfl (ab .nil rfl ?_)
 try dsimp only[SW.den,SV.den,aj,aL]
 exact⟨rfl,rfl⟩
theorem pq(b o i:Nat):Spec Tryz.prog 196 [ptr b o i,.bool false] [] (fun v H1=>v=ptr b o (i+1)∧H1=[]):=by
 refine Spec.go 12 [0,1,4,5] [] Tryz.func196 rfl rfl rfl ?_
 intro W
 refine XE.aK rfl rfl (ab .nil rfl ?_)
 try dsimp only[SW.den,SV.den,aj,aL]
 exact⟨rfl,rfl⟩
theorem LW(b o:Nat)(K:Int)(hK:K≤1000000)(s:PS)(hI:s.Inv K):Spec Tryz.prog 135 [ptr b o 0] [.cells b o 24 (au s)] (fun v H1=>v= .tuple #[.int .i64 s.make.1,bH 102 s.make.2.1]∧H1=[.cells b o 24 (au s.make.2.2)]):=by
 refine Spec.go 33 [0,2,3,4,5,6,23] [] Tryz.func135 rfl rfl rfl ?_
 intro W
 refine lp (σ:=Int) (fun k=>(8-k).toNat) (fun k=>(0≤k∧k≤8)∧∀ j:Int,0≤j→j<k→s.e j 0+s.e j 1≠0) (fun k=>[(5,.int .i64 k),(0,ptr b o 0)]) (fun k=>XM W (bR [.cells b o 24 (au s)]) [.cells b o 24 (au s)]) (0) ?_ (S2 rfl rfl) (fun _ hw=>XM.pick .h1 hw) ?_
 ·
  exact⟨by omega,fun j h1 h2=>by omega⟩
 intro k hk
 obtain⟨hk,hn⟩:=hk
 have b0:=hI.e0 k
 have b1:=hI.e1 k
 refine gC ?_
 refine cd rfl ?_ ?_<;>intro h1
 ·
  refine rq [0,1,2,3,4,5,6,7,8,9,10,11,12,13,14,15] mixed (by kernel_rfl) ?_
  refine sd (by omega) ?_
  refine ld .here (au.di _ _ (by omega)) ?_
  refine sd (by omega) ?_
  refine ld .here (au.cU _ _ (by omega)) ?_
  refine sd (by omega) ?_
  refine cd rfl ?_ ?_<;>intro h2
  ·
   refine XO.v (V.build (vs:= #[(1,.int .i64 1),(2,.int .i64 1)]) rfl (v:=.agg #[.string ⟨#[]⟩,.int .i64 1,.int .i64 1]) (fun _=>by kernel_rfl)) rfl (gO ?_)
   refine sd (by omega) ?_
   refine jV .here (BJ hI (by omega) (by assumption)) rfl ⟨rfl,rfl⟩ ?_
   refine XE.aU rfl rfl rfl (ab .h1 rfl ?_)
   try dsimp only[SW.den,SV.den,aj,aL]
   rw[PS.Cx (by omega) (by assumption) hn];exact⟨rfl,rfl⟩
  ·
   refine sd (by omega) ?_
   refine ag (k+1) ?_ ?_ (S2 rfl rfl) (fun _ hw=>XM.pick .h1 hw)
   ·
    (first | omega | (simp;done) | (simp;omega))
   ·
    refine⟨by omega,fun j h1 h2=> ?_⟩
    by_cases hjk:j=k
    ·subst hjk;assumption
    ·exact hn j h1 (by omega)
 ·
  refine XE.aU rfl rfl rfl (ab .h1 rfl ?_)
  try dsimp only[SW.den,SV.den,aj,aL]
  obtain rfl:k=8:=by omega
  rw[PS.CQ hn];exact⟨rfl,rfl⟩
theorem xC(b o:Nat)(K:Int)(hK:K≤1000000)(s:PS)(hI:s.Inv K)(n:Int):Spec Tryz.prog 145 [ptr b o 0,.int .i64 n,.bool true] [.cells b o 24 (au s)] (fun v H1=>v=bH 102 (s.gB n true (-1)).1∧H1=[.cells b o 24 (au (s.gB n true (-1)).2)]):=by
 have b0:=hI.e0 n
 have b1:=hI.e1 n
 have bl:=hI.len n
 have hnew:(s.e n (sZ true)=0)=(s.e n 1=0):=by simp[sZ]
 refine Spec.go 45 [0,1,2,6,7,8,16,23,41] [] Tryz.func145 rfl rfl rfl ?_
 intro W
 refine ca (ID _ _ K hK s hI _) .h1 ?_
 rintro _ _ (⟨h1,rfl,rfl⟩ | ⟨h1,rfl,rfl⟩)
 ·
  obtain⟨h1,h2,h3⟩:=h1
  refine gO ?_
  refine ca (rZ _ _ _) .nil ?_
  rintro _ _ ⟨rfl,rfl⟩
  refine gO ?_
  refine ld .here (au.cU _ _ (by omega)) ?_
  refine cd rfl ?_ ?_<;>intro h4
  ·
   refine XE.aK rfl rfl (ab .h1 rfl ?_)
   try dsimp only[SW.den,SV.den,aj,aL]
   first
    | (rw[PS.gX (by assumption)];exact⟨(aJ _ (by assumption)).symm,rfl⟩)
    | (rw[PS.eY (by assumption) (by assumption)];exact⟨rfl,rfl⟩)
    | (rw[PS.jh (by assumption) (by assumption) (by omega)];exact⟨rfl,rfl⟩)
    | (rw[PS.fR (by assumption) (by assumption) (by omega)];refine⟨rfl,?_⟩;exact congrArg (fun e=>[ax.cells b o 24 (au {b:=aa s.b n ⟨#[]⟩,e:=e})]) (drop_eq (by omega) (by omega)))
  ·
   refine ca (rZ _ _ _) .nil ?_
   rintro _ _ ⟨rfl,rfl⟩
   refine gO ?_
   refine ld .here (au.cU _ _ (by omega)) ?_
   refine sd (by omega) ?_
   refine st .here (au.jA _ _ (by omega) _) rfl ?_
   refine rq [0,1,2,3,4,5,6,7,8,9] mixed (by kernel_rfl) ?_
   have c0:({s with e:=aI s.e n 1 (s.e n 1-1)} :PS).e n 0=s.e n 0+0:=by simp[aI]
   have c0f:aI s.e n 1 (s.e n 1-1) n 0=s.e n 0+0:=by simp[aI]
   have c1:({s with e:=aI s.e n 1 (s.e n 1-1)} :PS).e n 1=s.e n 1+ -1:=by simp[aI];omega
   have c1f:aI s.e n 1 (s.e n 1-1) n 1=s.e n 1+ -1:=by simp[aI];omega
   refine ld .here (au.di _ _ (by omega)) ?_
   refine ld .here (au.cU _ _ (by omega)) ?_
   refine sd (by omega) ?_
   refine cd rfl ?_ ?_<;>intro h5
   ·
    refine XO.v (V.build (vs:= #[]) rfl (v:=.agg #[.string ⟨#[]⟩,.int .i64 0,.int .i64 0]) (fun _=>by kernel_rfl)) rfl (gO ?_)
    refine jV .here (tr _ (by omega)) rfl ⟨rfl,rfl⟩ ?_
    refine XE.aK rfl rfl (ab .h1 rfl ?_)
    try dsimp only[SW.den,SV.den,aj,aL]
    first
    | (rw[PS.gX (by assumption)];exact⟨(aJ _ (by assumption)).symm,rfl⟩)
    | (rw[PS.eY (by assumption) (by assumption)];exact⟨rfl,rfl⟩)
    | (rw[PS.jh (by assumption) (by assumption) (by omega)];exact⟨rfl,rfl⟩)
    | (rw[PS.fR (by assumption) (by assumption) (by omega)];refine⟨rfl,?_⟩;exact congrArg (fun e=>[ax.cells b o 24 (au {b:=aa s.b n ⟨#[]⟩,e:=e})]) (drop_eq (by omega) (by omega)))
   ·
    refine XE.aK rfl rfl (ab .h1 rfl ?_)
    try dsimp only[SW.den,SV.den,aj,aL]
    first
    | (rw[PS.gX (by assumption)];exact⟨(aJ _ (by assumption)).symm,rfl⟩)
    | (rw[PS.eY (by assumption) (by assumption)];exact⟨rfl,rfl⟩)
    | (rw[PS.jh (by assumption) (by assumption) (by omega)];exact⟨rfl,rfl⟩)
    | (rw[PS.fR (by assumption) (by assumption) (by omega)];refine⟨rfl,?_⟩;exact congrArg (fun e=>[ax.cells b o 24 (au {b:=aa s.b n ⟨#[]⟩,e:=e})]) (drop_eq (by omega) (by omega)))
 ·
  try dsimp only[aT,aV,bu,bj,bk,bd,aW,bh,aY,aX,aP,aN,aQ,aO]
  refine gO ?_
  refine XE.aK rfl rfl (ab .h1 rfl ?_)
  try dsimp only[SW.den,SV.den,aj,aL]
  first
    | (rw[PS.gX (by assumption)];exact⟨(aJ _ (by assumption)).symm,rfl⟩)
    | (rw[PS.eY (by assumption) (by assumption)];exact⟨rfl,rfl⟩)
    | (rw[PS.jh (by assumption) (by assumption) (by omega)];exact⟨rfl,rfl⟩)
    | (rw[PS.fR (by assumption) (by assumption) (by omega)];refine⟨rfl,?_⟩;exact congrArg (fun e=>[ax.cells b o 24 (au {b:=aa s.b n ⟨#[]⟩,e:=e})]) (drop_eq (by omega) (by omega)))
theorem vf(b o:Nat)(K:Int)(hK:K≤1000000)(s:PS)(hI:s.Inv K)(n:Int):Spec Tryz.prog 145 [ptr b o 0,.int .i64 n,.bool false] [.cells b o 24 (au s)] (fun v H1=>v=bH 102 (s.gB n false (-1)).1∧H1=[.cells b o 24 (au (s.gB n false (-1)).2)]):=by
 have b0:=hI.e0 n
 have b1:=hI.e1 n
 have bl:=hI.len n
 have hnew:(s.e n (sZ false)=0)=(s.e n 0=0):=by simp[sZ]
 refine Spec.go 45 [0,1,2,6,7,8,16,23,41] [] Tryz.func145 rfl rfl rfl ?_
 intro W
 refine ca (ID _ _ K hK s hI _) .h1 ?_
 rintro _ _ (⟨h1,rfl,rfl⟩ | ⟨h1,rfl,rfl⟩)
 ·
  obtain⟨h1,h2,h3⟩:=h1
  refine gO ?_
  refine ca (pq _ _ _) .nil ?_
  rintro _ _ ⟨rfl,rfl⟩
  refine gO ?_
  refine ld .here (au.di _ _ (by omega)) ?_
  refine cd rfl ?_ ?_<;>intro h4
  ·
   refine XE.aK rfl rfl (ab .h1 rfl ?_)
   try dsimp only[SW.den,SV.den,aj,aL]
   first
    | (rw[PS.gX (by assumption)];exact⟨(aJ _ (by assumption)).symm,rfl⟩)
    | (rw[PS.eY (by assumption) (by assumption)];exact⟨rfl,rfl⟩)
    | (rw[PS.jh (by assumption) (by assumption) (by omega)];exact⟨rfl,rfl⟩)
    | (rw[PS.fR (by assumption) (by assumption) (by omega)];refine⟨rfl,?_⟩;exact congrArg (fun e=>[ax.cells b o 24 (au {b:=aa s.b n ⟨#[]⟩,e:=e})]) (drop_eq (by omega) (by omega)))
  ·
   refine ca (pq _ _ _) .nil ?_
   rintro _ _ ⟨rfl,rfl⟩
   refine gO ?_
   refine ld .here (au.di _ _ (by omega)) ?_
   refine sd (by omega) ?_
   refine st .here (au.kv _ _ (by omega) _) rfl ?_
   refine rq [0,1,2,3,4,5,6,7,8,9] mixed (by kernel_rfl) ?_
   have c0:({s with e:=aI s.e n 0 (s.e n 0-1)} :PS).e n 0=s.e n 0+ -1:=by simp[aI];omega
   have c0f:aI s.e n 0 (s.e n 0-1) n 0=s.e n 0+ -1:=by simp[aI];omega
   have c1:({s with e:=aI s.e n 0 (s.e n 0-1)} :PS).e n 1=s.e n 1+0:=by simp[aI]
   have c1f:aI s.e n 0 (s.e n 0-1) n 1=s.e n 1+0:=by simp[aI]
   refine ld .here (au.di _ _ (by omega)) ?_
   refine ld .here (au.cU _ _ (by omega)) ?_
   refine sd (by omega) ?_
   refine cd rfl ?_ ?_<;>intro h5
   ·
    refine XO.v (V.build (vs:= #[]) rfl (v:=.agg #[.string ⟨#[]⟩,.int .i64 0,.int .i64 0]) (fun _=>by kernel_rfl)) rfl (gO ?_)
    refine jV .here (tr _ (by omega)) rfl ⟨rfl,rfl⟩ ?_
    refine XE.aK rfl rfl (ab .h1 rfl ?_)
    try dsimp only[SW.den,SV.den,aj,aL]
    first
    | (rw[PS.gX (by assumption)];exact⟨(aJ _ (by assumption)).symm,rfl⟩)
    | (rw[PS.eY (by assumption) (by assumption)];exact⟨rfl,rfl⟩)
    | (rw[PS.jh (by assumption) (by assumption) (by omega)];exact⟨rfl,rfl⟩)
    | (rw[PS.fR (by assumption) (by assumption) (by omega)];refine⟨rfl,?_⟩;exact congrArg (fun e=>[ax.cells b o 24 (au {b:=aa s.b n ⟨#[]⟩,e:=e})]) (drop_eq (by omega) (by omega)))
   ·
    refine XE.aK rfl rfl (ab .h1 rfl ?_)
    try dsimp only[SW.den,SV.den,aj,aL]
    first
    | (rw[PS.gX (by assumption)];exact⟨(aJ _ (by assumption)).symm,rfl⟩)
    | (rw[PS.eY (by assumption) (by assumption)];exact⟨rfl,rfl⟩)
    | (rw[PS.jh (by assumption) (by assumption) (by omega)];exact⟨rfl,rfl⟩)
    | (rw[PS.fR (by assumption) (by assumption) (by omega)];refine⟨rfl,?_⟩;exact congrArg (fun e=>[ax.cells b o 24 (au {b:=aa s.b n ⟨#[]⟩,e:=e})]) (drop_eq (by omega) (by omega)))
 ·
  try dsimp only[aT,aV,bu,bj,bk,bd,aW,bh,aY,aX,aP,aN,aQ,aO]
  refine gO ?_
  refine XE.aK rfl rfl (ab .h1 rfl ?_)
  try dsimp only[SW.den,SV.den,aj,aL]
  first
    | (rw[PS.gX (by assumption)];exact⟨(aJ _ (by assumption)).symm,rfl⟩)
    | (rw[PS.eY (by assumption) (by assumption)];exact⟨rfl,rfl⟩)
    | (rw[PS.jh (by assumption) (by assumption) (by omega)];exact⟨rfl,rfl⟩)
    | (rw[PS.fR (by assumption) (by assumption) (by omega)];refine⟨rfl,?_⟩;exact congrArg (fun e=>[ax.cells b o 24 (au {b:=aa s.b n ⟨#[]⟩,e:=e})]) (drop_eq (by omega) (by omega)))
theorem Kz(b o:Nat)(K:Int)(hK:K≤1000000)(s:PS)(hI:s.Inv K)(n m:Int):Spec Tryz.prog 139 [ptr b o 0,.int .i64 n,.int .i64 m] [.cells b o 24 (au s)] (fun v H1=>v= .tuple #[.string (s.read n m).1,bH 102 (s.read n m).2.1]∧H1=[.cells b o 24 (au (s.read n m).2.2)]):=by
 have b0:=hI.e0 n
 have b1:=hI.e1 n
 have bl:=hI.len n
 refine Spec.go 70 [0,1,2,6,7,8,9,10,11,19,25,28,45] [] Tryz.func139 rfl rfl rfl ?_
 intro W
 refine ca (ID _ _ K hK s hI _) .h1 ?_
 rintro _ _ (⟨h1,rfl,rfl⟩ | ⟨h1,rfl,rfl⟩)
 ·
  obtain⟨h1,h2,h3⟩:=h1
  refine gO ?_
  refine ld .here (au.di _ _ (by omega)) ?_
  refine cd rfl ?_ ?_<;>intro h4
  ·
   refine XE.aU rfl rfl rfl (ab .h1 rfl ?_)
   try dsimp only[SW.den,SV.den,aj,aL]
   first
   | (rw[PS.iM (by assumption)];exact⟨by show _=Value.tuple #[_,bH 102 (s.is n)];rw[aJ _ (by assumption)],rfl⟩)
   | (rw[PS.fN (by assumption) (by assumption)];exact⟨rfl,rfl⟩)
   | (rw[PS.fK (by assumption) (by assumption) (by omega)];exact⟨rfl,rfl⟩)
   | (rw[PS.fO (by assumption) (by assumption) (by omega) ⟨by assumption,by omega,by omega⟩];exact⟨rfl,rfl⟩)
   | (rw[PS.kr (by assumption) (by assumption) (by omega) (by rintro⟨q1,q2,q3⟩;first | contradiction | omega)];exact⟨rfl,rfl⟩)
  ·
   refine cd rfl ?_ ?_<;>intro h5
   ·
    refine XE.aU rfl rfl rfl (ab .h1 rfl ?_)
    try dsimp only[SW.den,SV.den,aj,aL]
    first
    | (rw[PS.iM (by assumption)];exact⟨by show _=Value.tuple #[_,bH 102 (s.is n)];rw[aJ _ (by assumption)],rfl⟩)
    | (rw[PS.fN (by assumption) (by assumption)];exact⟨rfl,rfl⟩)
    | (rw[PS.fK (by assumption) (by assumption) (by omega)];exact⟨rfl,rfl⟩)
    | (rw[PS.fO (by assumption) (by assumption) (by omega) ⟨by assumption,by omega,by omega⟩];exact⟨rfl,rfl⟩)
    | (rw[PS.kr (by assumption) (by assumption) (by omega) (by rintro⟨q1,q2,q3⟩;first | contradiction | omega)];exact⟨rfl,rfl⟩)
   ·
    refine ld .here (au.dO _ _ (by omega)) ?_
    refine sp 35 rfl ?_ ?_<;>intro h6
    ·
     refine ld .here (au.cU _ _ (by omega)) ?_
     refine sp 42 rfl ?_ ?_<;>intro h7
     ·
      refine cd rfl ?_ ?_<;>intro h8
      ·
       refine XE.aU rfl rfl rfl (ab .h1 rfl ?_)
       try dsimp only[SW.den,SV.den,aj,aL]
       first
       | (rw[PS.iM (by assumption)];exact⟨by show _=Value.tuple #[_,bH 102 (s.is n)];rw[aJ _ (by assumption)],rfl⟩)
       | (rw[PS.fN (by assumption) (by assumption)];exact⟨rfl,rfl⟩)
       | (rw[PS.fK (by assumption) (by assumption) (by omega)];exact⟨rfl,rfl⟩)
       | (rw[PS.fO (by assumption) (by assumption) (by omega) ⟨by assumption,by omega,by omega⟩];exact⟨rfl,rfl⟩)
       | (rw[PS.kr (by assumption) (by assumption) (by omega) (by rintro⟨q1,q2,q3⟩;first | contradiction | omega)];exact⟨rfl,rfl⟩)
      ·
       refine ld .here (au.dO _ _ (by omega)) ?_
       refine ld .here (au.dO _ _ (by omega)) ?_
       refine sd (by omega) ?_
       refine ld .here (au.dO _ _ (by omega)) ?_
       refine sd (by omega) ?_
       refine st .here (au.iI _ _ (by omega) _) rfl ?_
       refine XE.aU rfl rfl rfl (ab .h1 rfl ?_)
       try dsimp only[SW.den,SV.den,aj,aL]
       first
       | (rw[PS.iM (by assumption)];exact⟨by show _=Value.tuple #[_,bH 102 (s.is n)];rw[aJ _ (by assumption)],rfl⟩)
       | (rw[PS.fN (by assumption) (by assumption)];exact⟨rfl,rfl⟩)
       | (rw[PS.fK (by assumption) (by assumption) (by omega)];exact⟨rfl,rfl⟩)
       | (rw[PS.fO (by assumption) (by assumption) (by omega) ⟨by assumption,by omega,by omega⟩];exact⟨rfl,rfl⟩)
       | (rw[PS.kr (by assumption) (by assumption) (by omega) (by rintro⟨q1,q2,q3⟩;first | contradiction | omega)];exact⟨rfl,rfl⟩)
     ·
      refine ld .here (au.dO _ _ (by omega)) ?_
      refine ld .here (au.dO _ _ (by omega)) ?_
      refine sd (by omega) ?_
      refine ld .here (au.dO _ _ (by omega)) ?_
      refine sd (by omega) ?_
      refine st .here (au.iI _ _ (by omega) _) rfl ?_
      refine XE.aU rfl rfl rfl (ab .h1 rfl ?_)
      try dsimp only[SW.den,SV.den,aj,aL]
      first
      | (rw[PS.iM (by assumption)];exact⟨by show _=Value.tuple #[_,bH 102 (s.is n)];rw[aJ _ (by assumption)],rfl⟩)
      | (rw[PS.fN (by assumption) (by assumption)];exact⟨rfl,rfl⟩)
      | (rw[PS.fK (by assumption) (by assumption) (by omega)];exact⟨rfl,rfl⟩)
      | (rw[PS.fO (by assumption) (by assumption) (by omega) ⟨by assumption,by omega,by omega⟩];exact⟨rfl,rfl⟩)
      | (rw[PS.kr (by assumption) (by assumption) (by omega) (by rintro⟨q1,q2,q3⟩;first | contradiction | omega)];exact⟨rfl,rfl⟩)
    ·
     refine ld .here (au.dO _ _ (by omega)) ?_
     refine ld .here (au.dO _ _ (by omega)) ?_
     refine sd (by omega) ?_
     refine ld .here (au.dO _ _ (by omega)) ?_
     refine sd (by omega) ?_
     refine st .here (au.iI _ _ (by omega) _) rfl ?_
     refine XE.aU rfl rfl rfl (ab .h1 rfl ?_)
     try dsimp only[SW.den,SV.den,aj,aL]
     first
     | (rw[PS.iM (by assumption)];exact⟨by show _=Value.tuple #[_,bH 102 (s.is n)];rw[aJ _ (by assumption)],rfl⟩)
     | (rw[PS.fN (by assumption) (by assumption)];exact⟨rfl,rfl⟩)
     | (rw[PS.fK (by assumption) (by assumption) (by omega)];exact⟨rfl,rfl⟩)
     | (rw[PS.fO (by assumption) (by assumption) (by omega) ⟨by assumption,by omega,by omega⟩];exact⟨rfl,rfl⟩)
     | (rw[PS.kr (by assumption) (by assumption) (by omega) (by rintro⟨q1,q2,q3⟩;first | contradiction | omega)];exact⟨rfl,rfl⟩)
 ·
  try dsimp only[aT,aV,bu,bj,bk,bd,aW,bh,aY,aX,aP,aN,aQ,aO]
  refine gO ?_
  refine XE.aU rfl rfl rfl (ab .h1 rfl ?_)
  try dsimp only[SW.den,SV.den,aj,aL]
  first
  | (rw[PS.iM (by assumption)];exact⟨by show _=Value.tuple #[_,bH 102 (s.is n)];rw[aJ _ (by assumption)],rfl⟩)
  | (rw[PS.fN (by assumption) (by assumption)];exact⟨rfl,rfl⟩)
  | (rw[PS.fK (by assumption) (by assumption) (by omega)];exact⟨rfl,rfl⟩)
  | (rw[PS.fO (by assumption) (by assumption) (by omega) ⟨by assumption,by omega,by omega⟩];exact⟨rfl,rfl⟩)
  | (rw[PS.kr (by assumption) (by assumption) (by omega) (by rintro⟨q1,q2,q3⟩;first | contradiction | omega)];exact⟨rfl,rfl⟩)
theorem IY(b o:Nat)(K:Int)(hK:K≤1000000)(s:PS)(hI:s.Inv K)(n:Int)(t:ByteArray)(ht:t.size≤1000000):Spec Tryz.prog 136 [ptr b o 0,.int .i64 n,.string t] [.cells b o 24 (au s)] (fun v H1=>v= .tuple #[.int .i64 (s.write n t).1,bH 102 (s.write n t).2.1]∧H1=[.cells b o 24 (au (s.write n t).2.2)]):=by
 have b0:=hI.e0 n
 have b1:=hI.e1 n
 have bl:=hI.len n
 have he:=tO t
 refine Spec.go 59 [0,1,2,6,7,8,9,10,18,24,30,46] [] Tryz.func136 rfl rfl rfl ?_
 intro W
 refine ca (ID _ _ K hK s hI _) .h1 ?_
 rintro _ _ (⟨h1,rfl,rfl⟩ | ⟨h1,rfl,rfl⟩)
 ·
  obtain⟨h1,h2,h3⟩:=h1
  refine gO ?_
  refine ld .here (au.cU _ _ (by omega)) ?_
  refine cd rfl ?_ ?_<;>intro h4
  ·
   refine XE.aU rfl rfl rfl (ab .h1 rfl ?_)
   try dsimp only[SW.den,SV.den,aj,aL]
   first
   | (rw[PS.iD (by assumption)];exact⟨by show _=Value.tuple #[_,bH 102 (s.is n)];rw[aJ _ (by assumption)],rfl⟩)
   | (rw[PS.fV (by assumption) (by assumption)];exact⟨rfl,rfl⟩)
   | (rw[PS.fj (by assumption) (by assumption) (by assumption)];exact⟨rfl,rfl⟩)
   | (rw[PS.fP (by assumption) (by assumption) (by assumption) ⟨by assumption,by first | omega | (have hq:=_root_.mt he.2 (by assumption);omega)⟩];exact⟨rfl,rfl⟩)
   | (rw[PS.jR (by assumption) (by assumption) (by assumption) (by first | omega | (have hq:=he.1 (Decidable.not_not.1 (by assumption));omega))];exact⟨rfl,rfl⟩)
  ·
   refine ld .here (au.di _ _ (by omega)) ?_
   refine cd rfl ?_ ?_<;>intro h5
   ·
    refine XE.aU rfl rfl rfl (ab .h1 rfl ?_)
    try dsimp only[SW.den,SV.den,aj,aL]
    first
    | (rw[PS.iD (by assumption)];exact⟨by show _=Value.tuple #[_,bH 102 (s.is n)];rw[aJ _ (by assumption)],rfl⟩)
    | (rw[PS.fV (by assumption) (by assumption)];exact⟨rfl,rfl⟩)
    | (rw[PS.fj (by assumption) (by assumption) (by assumption)];exact⟨rfl,rfl⟩)
    | (rw[PS.fP (by assumption) (by assumption) (by assumption) ⟨by assumption,by first | omega | (have hq:=_root_.mt he.2 (by assumption);omega)⟩];exact⟨rfl,rfl⟩)
    | (rw[PS.jR (by assumption) (by assumption) (by assumption) (by first | omega | (have hq:=he.1 (Decidable.not_not.1 (by assumption));omega))];exact⟨rfl,rfl⟩)
   ·
    refine ld .here (au.dO _ _ (by omega)) ?_
    refine sd (by omega) ?_
    refine sp 43 rfl ?_ ?_<;>intro h6
    ·
     refine cd rfl ?_ ?_<;>intro h7
     ·
      refine XE.aU rfl rfl rfl (ab .h1 rfl ?_)
      try dsimp only[SW.den,SV.den,aj,aL]
      first
      | (rw[PS.iD (by assumption)];exact⟨by show _=Value.tuple #[_,bH 102 (s.is n)];rw[aJ _ (by assumption)],rfl⟩)
      | (rw[PS.fV (by assumption) (by assumption)];exact⟨rfl,rfl⟩)
      | (rw[PS.fj (by assumption) (by assumption) (by assumption)];exact⟨rfl,rfl⟩)
      | (rw[PS.fP (by assumption) (by assumption) (by assumption) ⟨by assumption,by first | omega | (have hq:=_root_.mt he.2 (by assumption);omega)⟩];exact⟨rfl,rfl⟩)
      | (rw[PS.jR (by assumption) (by assumption) (by assumption) (by first | omega | (have hq:=he.1 (Decidable.not_not.1 (by assumption));omega))];exact⟨rfl,rfl⟩)
     ·
      refine rq [0,1,2,3,4,5,6,7,8,9,10] mixed (by kernel_rfl) ?_
      refine ld .here (au.dO _ _ (by omega)) ?_
      refine sd (by omega) ?_
      refine sd (by simp only[ByteArray.size_extract];omega) ?_
      refine st .here (au.iI _ _ (by omega) _) rfl ?_
      refine XE.aU rfl rfl rfl (ab .h1 rfl ?_)
      try dsimp only[SW.den,SV.den,aj,aL]
      first
      | (rw[PS.iD (by assumption)];exact⟨by show _=Value.tuple #[_,bH 102 (s.is n)];rw[aJ _ (by assumption)],rfl⟩)
      | (rw[PS.fV (by assumption) (by assumption)];exact⟨rfl,rfl⟩)
      | (rw[PS.fj (by assumption) (by assumption) (by assumption)];exact⟨rfl,rfl⟩)
      | (rw[PS.fP (by assumption) (by assumption) (by assumption) ⟨by assumption,by first | omega | (have hq:=_root_.mt he.2 (by assumption);omega)⟩];exact⟨rfl,rfl⟩)
      | (rw[PS.jR (by assumption) (by assumption) (by assumption) (by first | omega | (have hq:=he.1 (Decidable.not_not.1 (by assumption));omega))];exact⟨rfl,rfl⟩)
    ·
     refine rq [0,1,2,3,4,5,6,7,8,9,10] mixed (by kernel_rfl) ?_
     refine ld .here (au.dO _ _ (by omega)) ?_
     refine sd (by omega) ?_
     refine sd (by simp only[ByteArray.size_extract];omega) ?_
     refine st .here (au.iI _ _ (by omega) _) rfl ?_
     refine XE.aU rfl rfl rfl (ab .h1 rfl ?_)
     try dsimp only[SW.den,SV.den,aj,aL]
     first
     | (rw[PS.iD (by assumption)];exact⟨by show _=Value.tuple #[_,bH 102 (s.is n)];rw[aJ _ (by assumption)],rfl⟩)
     | (rw[PS.fV (by assumption) (by assumption)];exact⟨rfl,rfl⟩)
     | (rw[PS.fj (by assumption) (by assumption) (by assumption)];exact⟨rfl,rfl⟩)
     | (rw[PS.fP (by assumption) (by assumption) (by assumption) ⟨by assumption,by first | omega | (have hq:=_root_.mt he.2 (by assumption);omega)⟩];exact⟨rfl,rfl⟩)
     | (rw[PS.jR (by assumption) (by assumption) (by assumption) (by first | omega | (have hq:=he.1 (Decidable.not_not.1 (by assumption));omega))];exact⟨rfl,rfl⟩)
 ·
  try dsimp only[aT,aV,bu,bj,bk,bd,aW,bh,aY,aX,aP,aN,aQ,aO]
  refine gO ?_
  refine XE.aU rfl rfl rfl (ab .h1 rfl ?_)
  try dsimp only[SW.den,SV.den,aj,aL]
  first
  | (rw[PS.iD (by assumption)];exact⟨by show _=Value.tuple #[_,bH 102 (s.is n)];rw[aJ _ (by assumption)],rfl⟩)
  | (rw[PS.fV (by assumption) (by assumption)];exact⟨rfl,rfl⟩)
  | (rw[PS.fj (by assumption) (by assumption) (by assumption)];exact⟨rfl,rfl⟩)
  | (rw[PS.fP (by assumption) (by assumption) (by assumption) ⟨by assumption,by first | omega | (have hq:=_root_.mt he.2 (by assumption);omega)⟩];exact⟨rfl,rfl⟩)
  | (rw[PS.jR (by assumption) (by assumption) (by assumption) (by first | omega | (have hq:=he.1 (Decidable.not_not.1 (by assumption));omega))];exact⟨rfl,rfl⟩)
end Go.X.Tr

namespace Go.X.Tr
open Go Go.Proofs Go.X
set_option maxRecDepth 20000
set_option maxHeartbeats 4000000
theorem Lg(b o:Nat)(K:Int)(hK:K≤1000000)(s:PS)(hI:s.Inv K)(n:Int)(w:Bool):Spec Tryz.prog 145 [ptr b o 0,.int .i64 n,.bool w] [.cells b o 24 (au s)] (fun v H1=>v=bH 102 (s.gB n w (-1)).1∧H1=[.cells b o 24 (au (s.gB n w (-1)).2)]):=by
 cases w
 ·exact vf b o K hK s hI n
 ·exact xC b o K hK s hI n
theorem HM(bo oo bf bp:Nat)(O:OS)(n:Int):Spec Tryz.prog 125 [ptr bo oo 0,.int .i64 n] [.cells bo oo 122 (az bf bp O)] (fun v H1=>((O.is n=0∧0≤n∧n<24)∧v= .tuple #[ptr bo oo (0+2+n.toNat*5),.nilIface]∧H1=[.cells bo oo 122 (az bf bp O)])∨(O.is n≠0∧v= .tuple #[.pointer none,.iface 102 (.int .i64 (O.is n))]∧H1=[.cells bo oo 122 (az bf bp O)])):=by
 refine Spec.go 27 [0,1,4,5,11,20] [] Tryz.func125 rfl rfl rfl ?_
 intro W
 refine sp 8 rfl ?_ ?_<;>intro h1
 ·
  refine XE.aU rfl rfl rfl (ab .h1 rfl ?_)
  try dsimp only[SW.den,SV.den,aj,aL]
  rcases OS.db O n with⟨q0,q1⟩ | ⟨q0,q1⟩ | ⟨q0,q1⟩<;>first | (exfalso;omega) | exact .inl ⟨⟨q0,by omega,by omega⟩,rfl,rfl⟩ | exact .inr ⟨by omega,by rw[q0],rfl⟩
 ·
  refine cd rfl ?_ ?_<;>intro h2
  ·
   refine XE.aU rfl rfl rfl (ab .h1 rfl ?_)
   try dsimp only[SW.den,SV.den,aj,aL]
   rcases OS.db O n with⟨q0,q1⟩ | ⟨q0,q1⟩ | ⟨q0,q1⟩<;>first | (exfalso;omega) | exact .inl ⟨⟨q0,by omega,by omega⟩,rfl,rfl⟩ | exact .inr ⟨by omega,by rw[q0],rfl⟩
  ·
   refine sd (by omega) ?_
   refine ld .here (az.jQ _ _ (by omega)) ?_
   refine cd rfl ?_ ?_<;>intro h3
   ·
    refine XE.aU rfl rfl rfl (ab .h1 rfl ?_)
    try dsimp only[SW.den,SV.den,aj,aL]
    rcases OS.db O n with⟨q0,q1⟩ | ⟨q0,q1⟩ | ⟨q0,q1⟩<;>first | (exfalso;omega) | exact .inl ⟨⟨q0,by omega,by omega⟩,rfl,rfl⟩ | exact .inr ⟨by omega,by rw[q0],rfl⟩
   ·
    refine sd (by omega) ?_
    refine XE.aU rfl rfl rfl (ab .h1 rfl ?_)
    try dsimp only[SW.den,SV.den,aj,aL]
    rcases OS.db O n with⟨q0,q1⟩ | ⟨q0,q1⟩ | ⟨q0,q1⟩<;>first | (exfalso;omega) | exact .inl ⟨⟨q0,by omega,by omega⟩,rfl,rfl⟩ | exact .inr ⟨by omega,by rw[q0],rfl⟩
theorem Kx(bo oo bf bp:Nat)(O:OS)(m:Int):Spec Tryz.prog 134 [ptr bo oo 0,.int .i64 m] [.cells bo oo 122 (az bf bp O)] (fun v H1=>(((O.dN m 24).length:Int)<m∧v= .slice none 0 0∧H1=[.cells bo oo 122 (az bf bp O)])∨(¬((O.dN m 24).length:Int)<m∧∃ p c,v= .slice p (O.dN m 24).length c∧H1=[aZ p c 3 (O.dN m 24),.cells bo oo 122 (az bf bp O)])):=by
 refine Spec.go 34 [0,1,4,5,6,7,8,23,32] [] Tryz.func134 rfl rfl rfl ?_
 intro W
 refine XR.dG 3 1 ?_
 refine lp (σ:=Int×Option Addr×Nat) (fun x=>(24-x.1).toNat) (fun x=>0≤x.1∧x.1≤24) (fun x=>[(5,.slice x.2.1 (O.dN m x.1.toNat).length x.2.2),(7,.int .i64 x.1),(0,ptr bo oo 0),(1,.int .i64 m)]) (fun x=>XM W (bR [.cells bo oo 122 (az bf bp O)]) [aZ x.2.1 x.2.2 3 (O.dN m x.1.toNat),.cells bo oo 122 (az bf bp O)]) ((0,none,0)) ?_ (S4 rfl rfl rfl rfl) (fun _ hw=>XM.pick .h2 hw) ?_
 ·
  exact⟨by omega,by omega⟩
 intro x hx
 obtain⟨hx0,hx1⟩:=hx
 have hst:=O.yw m hx0
 have hln:=O.tE m x.1.toNat
 refine gC ?_
 refine cd rfl ?_ ?_<;>intro h1
 ·
  refine sd (by omega) ?_
  refine ld (.there .here) (az.jQ _ _ (by omega)) ?_
  refine sp 18 rfl ?_ ?_<;>intro h2
  ·
   refine cd rfl ?_ ?_<;>intro h3
   ·
    have e1:O.dN m (x.1+1).toNat=O.dN m x.1.toNat++[x.1]:=by rw[hst,if_pos ⟨by assumption,by assumption⟩]
    refine XO.buildSlice (A:= #[.int .i64 _]) (vs:= #[(0,.int .i64 _)]) rfl (lr _) rfl rfl ?_
    intro h4
    refine gO ?_
    refine XO.kt (e:=3) rfl rfl Tryz.underlying55 jH (.there .here) .here (by omega) rfl ?_
    intro pa ca
    refine gO ?_
    refine sd (by omega) ?_
    refine ag ((x.1+1,pa,ca)) ?_ ?_ (S4 (by rw[e1];try rfl) rfl rfl rfl) (fun _ hw=>by rw[e1];exact XM.pick (.cons .here (.cons (.there .here) .nil)) hw)
    ·
     (first | omega | (simp;done) | (simp;omega))
    ·
     (first | omega | (simp;done) | (simp;omega))
   ·
    have e1:O.dN m (x.1+1).toNat=O.dN m x.1.toNat:=by rw[hst,if_neg (fun q=>absurd q.2 (by assumption))]
    refine sd (by omega) ?_
    refine ag ((x.1+1,x.2.1,x.2.2)) ?_ ?_ (S4 (by rw[e1];try rfl) rfl rfl rfl) (fun _ hw=>by rw[e1];exact XM.pick .h2 hw)
    ·
     (first | omega | (simp;done) | (simp;omega))
    ·
     (first | omega | (simp;done) | (simp;omega))
  ·
   have e1:O.dN m (x.1+1).toNat=O.dN m x.1.toNat:=by rw[hst,if_neg (fun q=>absurd q.1 (by assumption))]
   refine sd (by omega) ?_
   refine ag ((x.1+1,x.2.1,x.2.2)) ?_ ?_ (S4 (by rw[e1];try rfl) rfl rfl rfl) (fun _ hw=>by rw[e1];exact XM.pick .h2 hw)
   ·
    (first | omega | (simp;done) | (simp;omega))
   ·
    (first | omega | (simp;done) | (simp;omega))
 ·
  have e24:x.1=24:=by omega
  rw[e24]
  refine cd rfl ?_ ?_<;>intro h7
  ·
   refine XE.aK rfl rfl (ab (.cons (.there .here) .nil) rfl ?_)
   try dsimp only[SW.den,SV.den,aj,aL]
   exact .inl ⟨by assumption,rfl,rfl⟩
  ·
   refine XE.aK rfl rfl (ab .h2 rfl ?_)
   try dsimp only[SW.den,SV.den,aj,aL]
   exact .inr ⟨by assumption,_,_,rfl,rfl⟩
theorem A2(bo oo bf bp:Nat)(O:OS)(J:Int)(hJ:J≤1000000)(hO:O.Inv J)(n:Int):Spec Tryz.prog 59 [ptr bo oo 0,.int .i64 n] [.cells bo oo 122 (az bf bp O)] (fun v H1=>v=bH 102 (O.is n)∧H1=[.cells bo oo 122 (az bf bp (jx O n))]):=by
 refine Spec.go 23 [0,1,4,5,6,14] [] Tryz.func59 rfl rfl rfl ?_
 intro W
 refine ca (HM _ _ _ _ _ _) .h1 ?_
 rintro _ _ (⟨⟨i0,i1,i2⟩,rfl,rfl⟩ | ⟨i0,rfl,rfl⟩)
 ·
  try dsimp only[aT,aV,bu,bj,bk,bd,aW,bh,aY,aX,aP,aN,aQ,aO]
  have hrb:=hO.refs n i1 i2
  refine gO ?_
  refine ld .here (az.jQ _ _ (by omega)) ?_
  refine sd (by omega) ?_
  refine st .here (az.tq _ _ (by omega) _) rfl ?_
  refine XE.aK rfl rfl (ab .h1 rfl ?_)
  try dsimp only[SW.den,SV.den,aj,aL]
  exact⟨by rw[i0];rfl,by unfold jx;rw[if_pos i0]⟩
 ·
  try dsimp only[aT,aV,bu,bj,bk,bd,aW,bh,aY,aX,aP,aN,aQ,aO]
  refine gO ?_
  refine XE.aK rfl rfl (ab .h1 rfl ?_)
  try dsimp only[SW.den,SV.den,aj,aL]
  exact⟨by rw[aJ _ i0],by unfold jx;rw[if_neg i0]⟩
end Go.X.Tr

namespace Go.X.Tr
open Go Go.Proofs Go.X
set_option maxRecDepth 20000
set_option maxHeartbeats 4000000
def DB(bf bp:Nat):Array Value:=((List.range 122).map (az bf bp OS.void)).toArray
theorem Cj(bf bp:Nat):(DB bf bp).size=122:=by simp[DB]
theorem EW(bf bp:Nat):∀ i,i<122→cellsOf (DB bf bp) i=az bf bp OS.void i:=fun i hi=>by simp[cellsOf,DB,hi]
theorem Is(bo oo bf bp:Nat)(O:OS)(J:Int)(hJ:J≤1000000)(hO:O.Inv J)(s:FC)(hI:s.toFF.Sh)(K:Int)(hK:K≤1000000)(q:PS)(hq:q.Inv K)(n:Int)(x:ByteArray)(hx:x.size≤1000000):Spec Tryz.prog 70 [ptr bo oo 0,.int .i64 n,.string x] [.cells bo oo 122 (az bf bp O),.cells bf 0 321 (ay s),.fam ai (FC.aD 9 s),.fam ai (FC.aF 3 s),.cells bp 0 24 (au q)] (fun v H1=>v= .tuple #[.int .i64 (dt s.toFF q O n x),bH 102 (dh s.toFF q O n x)]∧∃ t:FC,t.toFF=dg s.toFF O n x∧t.rP=s.rP∧t.rC=s.rC∧H1=[.cells bo oo 122 (az bf bp (dv s.toFF O n x)),.cells bf 0 321 (ay t),.fam ai (FC.aD 9 t),.fam ai (FC.aF 3 t),.cells bp 0 24 (au (du q O n x))]):=by
 refine Spec.go 79 [0,1,2,6,7,8,9,17,19,37,66] [] Tryz.func70 rfl rfl rfl ?_
 intro W
 refine ca (HM _ _ _ _ _ _) .h1 ?_
 rintro _ _ (⟨⟨i0,i1,i2⟩,rfl,rfl⟩ | ⟨i0,rfl,rfl⟩)
 ·
  try dsimp only[aT,aV,bu,bj,bk,bd,aW,bh,aY,aX,aP,aN,aQ,aO]
  have hra:=hO.refs n i1 i2
  have haa:=hO.at_ n i1 i2
  have hka:=hO.kind n i1 i2 (OS.yW i0).2.2
  refine gO ?_
  refine ld .here (az.oc _ _ (by omega)) ?_
  refine cd rfl ?_ ?_<;>intro h1
  ·
   refine rq [0,1,2,3,4,5,6,7,8,9,10,11,12,13] mixed (by kernel_rfl) ?_
   refine ld .here (az.CU _) ?_
   refine ld .here (az.uI _ _ (by omega)) ?_
   refine ca (IY _ _ K hK q hq _ _ hx) (.cons (.t4 .here) .nil) ?_
   rintro _ _ ⟨rfl,rfl⟩
   refine gO ?_
   refine XE.aU rfl rfl rfl (ab (.cons (.there .here) (.cons (.there .here) (.cons (.there .here) (.cons (.there .here) .h1)))) rfl ?_)
   try dsimp only[SW.den,SV.den,aj,aL]
   have hk:O.kind n=3:=by assumption
   have eE:dh s.toFF q O n x=(q.write (O.n n) x).2.1:=by unfold dh;rw[if_neg (by omega),if_pos hk]
   have eV:dt s.toFF q O n x=(q.write (O.n n) x).1:=by unfold dt;rw[if_pos ⟨i0,hk⟩]
   have eF:dg s.toFF O n x=s.toFF:=by unfold dg;rw[if_neg (fun h=>h.2.1 hk)]
   have eO:dv s.toFF O n x=O:=by unfold dv;rw[if_neg (fun h=>h.1.2.1 hk)]
   have eP:du q O n x=(q.write (O.n n) x).2.2:=by unfold du;rw[if_pos ⟨i0,hk⟩]
   exact⟨by rw[eE,eV],s,by rw[eF],rfl,rfl,by rw[eO,eP]⟩
  ·
   refine ld .here (az.oc _ _ (by omega)) ?_
   refine sp 43 rfl ?_ ?_<;>intro h2
   ·
    refine XE.aU rfl rfl rfl (ab .h5 rfl ?_)
    try dsimp only[SW.den,SV.den,aj,aL]
    have hk:¬O.kind n=3:=by assumption
    have h2:O.kind n=2:=by assumption
    have eE:dh s.toFF q O n x=8:=by unfold dh;rw[if_neg (by omega),if_neg hk,if_pos (.inl h2)]
    have eV:dt s.toFF q O n x=0:=by unfold dt;rw[if_neg (fun h=>hk h.2),if_neg (fun h=>h.1.2.2 (.inl h2))]
    have eF:dg s.toFF O n x=s.toFF:=by unfold dg;rw[if_neg (fun h=>h.2.2 (.inl h2))]
    have eO:dv s.toFF O n x=O:=by unfold dv;rw[if_neg (fun h=>h.1.2.2 (.inl h2))]
    have eP:du q O n x=q:=by unfold du;rw[if_neg (fun h=>hk h.2)]
    exact⟨by rw[eE,eV];rfl,s,by rw[eF],rfl,rfl,by rw[eO,eP]⟩
   ·
    skip
    refine ld .here (az.zf _ _ (by omega)) ?_
    refine AK rfl ?_ ?_<;>intro h3
    ·try simp only[sb]at h3
     have hwf:O.write n=false:=by simpa using h3
     refine XE.aU rfl rfl rfl (ab .h5 rfl ?_)
     try dsimp only[SW.den,SV.den,aj,aL]
     have hk:¬O.kind n=3:=by assumption
     have eE:dh s.toFF q O n x=8:=by unfold dh;rw[if_neg (by omega),if_neg hk,if_pos (.inr hwf)]
     have eV:dt s.toFF q O n x=0:=by unfold dt;rw[if_neg (fun h=>hk h.2),if_neg (fun h=>h.1.2.2 (.inr hwf))]
     have eF:dg s.toFF O n x=s.toFF:=by unfold dg;rw[if_neg (fun h=>h.2.2 (.inr hwf))]
     have eO:dv s.toFF O n x=O:=by unfold dv;rw[if_neg (fun h=>h.1.2.2 (.inr hwf))]
     have eP:du q O n x=q:=by unfold du;rw[if_neg (fun h=>hk h.2)]
     exact⟨by rw[eE,eV];rfl,s,by rw[eF],rfl,rfl,by rw[eO,eP]⟩
    ·try simp only[sb]at h3
     have hwt:O.write n=true:=by simpa using h3
     refine rq [0,1,2,3,4,5,6,7,8,9,10,11,12,13,14] mixed (by kernel_rfl) ?_
     refine ld .here (az.Kf _) ?_
     refine ld .here (az.uI _ _ (by omega)) ?_
     refine ld .here (az.qa _ _ (by omega)) ?_
     refine ca (Hi _ _ _ hI _ _ _ (by omega)) (.cons (.there .here) (.cons (.there .here) (.cons (.there .here) .nil))) ?_
     rintro _ _ ⟨rfl,t,ht,tp,tc,rfl⟩
     refine gO ?_
     refine cd rfl ?_ ?_<;>intro h4
     ·
      refine XE.aU rfl rfl rfl (ab (.cons (.t3 .here) .h4) rfl ?_)
      try dsimp only[SW.den,SV.den,aj,aL]
      have hk:¬O.kind n=3:=by assumption
      have h2:¬O.kind n=2:=by assumption
      have hfw:ri O n:=⟨i0,hk,fun h=>by rcases h with h | h;exact h2 h;rw[hwt]at h;cases h⟩
      have hwe:s.toFF.b7 (O.n n) (O.at_ n) x≠0:=by assumption
      have eE:dh s.toFF q O n x=s.toFF.b7 (O.n n) (O.at_ n) x:=by unfold dh;rw[if_neg (by omega),if_neg hk,if_neg hfw.2.2]
      have eV:dt s.toFF q O n x=0:=by unfold dt;rw[if_neg (fun h=>hk h.2),if_neg (fun h=>hwe h.2)]
      have eF:dg s.toFF O n x=s.toFF.write (O.n n) (O.at_ n) x:=by unfold dg;rw[if_pos hfw]
      have eO:dv s.toFF O n x=O:=by unfold dv;rw[if_neg (fun h=>hwe h.2)]
      have eP:du q O n x=q:=by unfold du;rw[if_neg (fun h=>hk h.2)]
      exact⟨by rw[eE,eV],t,by rw[eF];exact ht,tp,tc,by rw[eO,eP]⟩
     ·
      refine ld (.t3 .here) (az.qa _ _ (by omega)) ?_
      refine sd (by omega) ?_
      refine st (.t3 .here) (az.Bk _ _ (by omega) _) rfl ?_
      refine XE.aU rfl rfl rfl (ab (.cons (.t3 .here) .h4) rfl ?_)
      try dsimp only[SW.den,SV.den,aj,aL]
      have hk:¬O.kind n=3:=by assumption
      have h2:¬O.kind n=2:=by assumption
      have hfw:ri O n:=⟨i0,hk,fun h=>by rcases h with h | h;exact h2 h;rw[hwt]at h;cases h⟩
      have hwe:s.toFF.b7 (O.n n) (O.at_ n) x=0:=Decidable.byContradiction (by assumption)
      have eE:dh s.toFF q O n x=0:=by unfold dh;rw[if_neg (by omega),if_neg hk,if_neg hfw.2.2,hwe]
      have eV:dt s.toFF q O n x=(x.size:Int):=by unfold dt;rw[if_neg (fun h=>hk h.2),if_pos ⟨hfw,hwe⟩]
      have eF:dg s.toFF O n x=s.toFF.write (O.n n) (O.at_ n) x:=by unfold dg;rw[if_pos hfw]
      have eO:dv s.toFF O n x=O.move n (x.size):=by unfold dv;rw[if_pos ⟨hfw,hwe⟩]
      have eP:du q O n x=q:=by unfold du;rw[if_neg (fun h=>hk h.2)]
      exact⟨by rw[eE,eV];rfl,t,by rw[eF];exact ht,tp,tc,by rw[eO,eP];rfl⟩
 ·
  try dsimp only[aT,aV,bu,bj,bk,bd,aW,bh,aY,aX,aP,aN,aQ,aO]
  refine gO ?_
  refine XE.aU rfl rfl rfl (ab .h5 rfl ?_)
  try dsimp only[SW.den,SV.den,aj,aL]
  have eE:dh s.toFF q O n x=O.is n:=by unfold dh;rw[if_pos i0]
  have eV:dt s.toFF q O n x=0:=by unfold dt;rw[if_neg (fun h=>i0 h.1),if_neg (fun h=>i0 h.1.1)]
  have eF:dg s.toFF O n x=s.toFF:=by unfold dg;rw[if_neg (fun h=>i0 h.1)]
  have eO:dv s.toFF O n x=O:=by unfold dv;rw[if_neg (fun h=>i0 h.1.1)]
  have eP:du q O n x=q:=by unfold du;rw[if_neg (fun h=>i0 h.1)]
  exact⟨by rw[eE,eV,aJ _ i0],s,by rw[eF],rfl,rfl,by rw[eO,eP]⟩
theorem JR(bo oo bf bp:Nat)(O:OS)(J:Int)(hJ:J≤1000000)(hO:O.Inv J)(s:FC)(hI:s.toFF.Sh)(K:Int)(hK:K≤1000000)(q:PS)(hq:q.Inv K)(n m:Int):Spec Tryz.prog 72 [ptr bo oo 0,.int .i64 n,.int .i64 m] [.cells bo oo 122 (az bf bp O),.cells bf 0 321 (ay s),.fam ai (FC.aD 9 s),.fam ai (FC.aF 3 s),.cells bp 0 24 (au q)] (fun v H1=>v= .tuple #[.string (gJ s.toFF q O n m),bH 102 (gF s.toFF q O n m)]∧H1=[.cells bo oo 122 (az bf bp (fM s.toFF O n m)),.cells bf 0 321 (ay s),.fam ai (FC.aD 9 s),.fam ai (FC.aF 3 s),.cells bp 0 24 (au (fL q O n m))]):=by
 refine Spec.go 69 [0,1,2,6,7,8,9,10,18,23,24,27] [] Tryz.func72 rfl rfl rfl ?_
 intro W
 refine ca (HM _ _ _ _ _ _) .h1 ?_
 rintro _ _ (⟨⟨i0,i1,i2⟩,rfl,rfl⟩ | ⟨i0,rfl,rfl⟩)
 ·
  try dsimp only[aT,aV,bu,bj,bk,bd,aW,bh,aY,aX,aP,aN,aQ,aO]
  have hra:=hO.refs n i1 i2
  have haa:=hO.at_ n i1 i2
  have hka:=hO.kind n i1 i2 (OS.yW i0).2.2
  refine gO ?_
  refine ld .here (az.oc _ _ (by omega)) ?_
  refine cd rfl ?_ ?_<;>intro h1
  ·
   refine XE.aU rfl rfl rfl (ab .h5 rfl ?_)
   try dsimp only[SW.den,SV.den,aj,aL]
   have hk:O.kind n=3:=by assumption
   have eE:gF s.toFF q O n m=8:=by unfold gF;rw[if_neg (by omega),if_pos hk]
   have eV:gJ s.toFF q O n m=⟨#[]⟩:=by unfold gJ;rw[if_neg (by omega),if_pos hk]
   have eO:fM s.toFF O n m=O:=by unfold fM;rw[if_neg (fun h=>h.2.1 hk)]
   have eP:fL q O n m=q:=by unfold fL;rw[if_neg (fun h=>by omega)]
   exact⟨by rw[eE,eV];rfl,by rw[eO,eP]⟩
  ·
   refine cd rfl ?_ ?_<;>intro h2
   ·
    refine rq [0,1,2,3,4,5,6,7,8,9,10,11,12,13] mixed (by kernel_rfl) ?_
    refine ld .here (az.CU _) ?_
    refine ld .here (az.uI _ _ (by omega)) ?_
    refine ca (Kz _ _ K hK q hq _ _) (.cons (.t4 .here) .nil) ?_
    rintro _ _ ⟨rfl,rfl⟩
    refine gO ?_
    refine XE.aU rfl rfl rfl (ab (.cons (.there .here) (.cons (.there .here) (.cons (.there .here) (.cons (.there .here) .h1)))) rfl ?_)
    try dsimp only[SW.den,SV.den,aj,aL]
    have hk:¬O.kind n=3:=by assumption
    have h2:O.kind n=2:=by assumption
    have eE:gF s.toFF q O n m=(q.read (O.n n) m).2.1:=by unfold gF;rw[if_neg (by omega),if_neg hk,if_pos h2]
    have eV:gJ s.toFF q O n m=(q.read (O.n n) m).1:=by unfold gJ;rw[if_neg (by omega),if_neg hk,if_pos h2]
    have eO:fM s.toFF O n m=O:=by unfold fM;rw[if_neg (fun h=>h.2.2 h2)]
    have eP:fL q O n m=(q.read (O.n n) m).2.2:=by unfold fL;rw[if_pos ⟨i0,h2⟩]
    exact⟨by rw[eE,eV],by rw[eO,eP]⟩
   ·
    refine rq [0,1,2,3,4,5,6,7,8,9,10,11,12,13,14,15,16,17,18] mixed (by kernel_rfl) ?_
    refine ld .here (az.Kf _) ?_
    refine ld .here (az.uI _ _ (by omega)) ?_
    refine ld .here (az.qa _ _ (by omega)) ?_
    refine ca (Lc _ _ _ hI _ _ _) (.cons (.there .here) .nil) ?_
    rintro _ _ ⟨rfl,rfl⟩
    have hrl:=FF.vW hI (O.n n) (O.at_ n) m
    refine gO ?_
    refine ld (.there .here) (az.qa _ _ (by omega)) ?_
    refine sd (by omega) ?_
    refine st (.there .here) (az.Bk _ _ (by omega) _) rfl ?_
    refine XE.aU rfl rfl rfl (ab (.cons (.there .here) .h4) rfl ?_)
    try dsimp only[SW.den,SV.den,aj,aL]
    have hk:¬O.kind n=3:=by assumption
    have h2:¬O.kind n=2:=by assumption
    have eE:gF s.toFF q O n m=s.toFF.ew (O.n n) (O.at_ n) m:=by unfold gF;rw[if_neg (by omega),if_neg hk,if_neg h2]
    have eV:gJ s.toFF q O n m=s.toFF.ek (O.n n) (O.at_ n) m:=by unfold gJ;rw[if_neg (by omega),if_neg hk,if_neg h2]
    have eO:fM s.toFF O n m=O.move n ((s.toFF.ek (O.n n) (O.at_ n) m).size):=by unfold fM;rw[if_pos ⟨i0,hk,h2⟩]
    have eP:fL q O n m=q:=by unfold fL;rw[if_neg (fun h=>h2 h.2)]
    exact⟨by rw[eE,eV],by rw[eO,eP];rfl⟩
 ·
  try dsimp only[aT,aV,bu,bj,bk,bd,aW,bh,aY,aX,aP,aN,aQ,aO]
  refine gO ?_
  refine XE.aU rfl rfl rfl (ab .h5 rfl ?_)
  try dsimp only[SW.den,SV.den,aj,aL]
  have eE:gF s.toFF q O n m=O.is n:=by unfold gF;rw[if_pos i0]
  have eV:gJ s.toFF q O n m=⟨#[]⟩:=by unfold gJ;rw[if_pos i0]
  have eO:fM s.toFF O n m=O:=by unfold fM;rw[if_neg (fun h=>i0 h.1)]
  have eP:fL q O n m=q:=by unfold fL;rw[if_neg (fun h=>i0 h.1)]
  exact⟨by rw[eE,eV,aJ _ i0],by rw[eO,eP]⟩
theorem Hy(bo oo bf bp:Nat)(O:OS)(J:Int)(hJ:J≤1000000)(hO:O.Inv J)(s:FC)(hI:s.toFF.Sh)(K:Int)(hK:K≤1000000)(q:PS)(hq:q.Inv K)(n:Int):Spec Tryz.prog 76 [ptr bo oo 0,.int .i64 n] [.cells bo oo 122 (az bf bp O),.cells bf 0 321 (ay s),.fam ai (FC.aD 9 s),.fam ai (FC.aF 3 s),.cells bp 0 24 (au q)] (fun v H1=>v=bH 102 (ki s.toFF q O n)∧∃ t:FC,t.toFF=gG s.toFF O n∧t.rP=s.rP∧t.rC=s.rC∧H1=[.cells bo oo 122 (az bf bp (eh O n)),.cells bf 0 321 (ay t),.fam ai (FC.aD 9 t),.fam ai (FC.aF 3 t),.cells bp 0 24 (au (eK q O n))]):=by
 refine Spec.go 55 [0,1,4,5,6,7,15,28,37] [] Tryz.func76 rfl rfl rfl ?_
 intro W
 refine ca (HM _ _ _ _ _ _) .h1 ?_
 rintro _ _ (⟨⟨i0,i1,i2⟩,rfl,rfl⟩ | ⟨i0,rfl,rfl⟩)
 ·
  try dsimp only[aT,aV,bu,bj,bk,bd,aW,bh,aY,aX,aP,aN,aQ,aO]
  have hra:=hO.refs n i1 i2
  have haa:=hO.at_ n i1 i2
  have hka:=hO.kind n i1 i2 (OS.yW i0).2.2
  refine gO ?_
  refine ld .here (az.jQ _ _ (by omega)) ?_
  refine sd (by omega) ?_
  refine st .here (az.tq _ _ (by omega) _) rfl ?_
  refine ld .here (az.jQ _ _ (by omega)) ?_
  refine cd rfl ?_ ?_<;>intro h1
  ·
   have e9:aa O.refs n (O.refs n-1) n=O.refs n-1:=ae _ _ _
   have h9:aa O.refs n (O.refs n-1) n>0:=h1
   have hrg:0<O.refs n-1:=by omega
   refine XE.aK rfl rfl (ab .h5 rfl ?_)
   try dsimp only[SW.den,SV.den,aj,aL]
   have eE:ki s.toFF q O n=0:=by unfold ki;rw[if_neg (by omega),if_pos hrg]
   have eF:gG s.toFF O n=s.toFF:=by unfold gG;rw[if_neg (fun h=>h.1.2 hrg)]
   have eP:eK q O n=q:=by unfold eK;rw[if_neg (fun h=>h.1.2 hrg)]
   have eO:eh O n=gq O n:=by unfold eh;rw[if_neg (by omega),if_pos hrg]
   exact⟨by rw[eE];rfl,s,by rw[eF],rfl,rfl,by rw[eO,eP];rfl⟩
  ·
   have e9:aa O.refs n (O.refs n-1) n=O.refs n-1:=ae _ _ _
   have h9:¬aa O.refs n (O.refs n-1) n>0:=h1
   have hrg:¬ 0<O.refs n-1:=by omega
   refine mQ .here (az.xZ _ _ (by omega)) ?_
   refine XO.cY (z:=.agg (az.arr ⟨0,0,0,false,0⟩)) (m:=5) (C:=az.cell ⟨0,0,0,false,0⟩) (by kernel_rfl) rfl (az.box _) rfl ?_
   intro bx
   refine gO ?_
   refine jV .here (az.Oz _ _) rfl ⟨rfl,rfl⟩ ?_
   refine XO.v (V.build (vs:= #[]) rfl (v:=.agg (az.arr ⟨0,0,0,false,0⟩)) (fun _=>by kernel_rfl)) rfl (gO ?_)
   refine jV (.there .here) (az.put (gq O n) n 0 0 false 0 ⟨i1,i2⟩) rfl ⟨rfl,rfl⟩ ?_
   refine ld .here (az.Oa _) ?_
   refine cd rfl ?_ ?_<;>intro h2
   ·
    refine rq [0,1,2,3,4,5,6,7] mixed (by kernel_rfl) ?_
    refine ld (.there .here) (az.Kf _) ?_
    refine ld .here (az.On _) ?_
    refine ca (zJ _ _ _ hI _) (.cons (.t2 .here) (.cons (.t2 .here) (.cons (.t2 .here) .nil))) ?_
    rintro _ _ ⟨rfl,t,ht,tp,tc,rfl⟩
    refine gO ?_
    refine XE.aK rfl rfl (ab (.cons (.t4 .here) (.cons .here (.cons .here (.cons .here (.cons (.there .here) .nil))))) rfl ?_)
    try dsimp only[SW.den,SV.den,aj,aL]
    have hk:O.kind n=1:=by assumption
    have eE:ki s.toFF q O n=s.toFF.letE (O.n n):=by unfold ki;rw[if_neg (by omega),if_neg hrg,if_pos hk]
    have eF:gG s.toFF O n=s.toFF.gU (O.n n):=by unfold gG;rw[if_pos ⟨⟨i0,hrg⟩,hk⟩]
    have eP:eK q O n=q:=by unfold eK;rw[if_neg (fun h=>h.2 hk)]
    have eO:eh O n=O.GS n:=by unfold eh;rw[if_neg (by omega),if_neg hrg]
    exact⟨by rw[eE];rfl,t,by rw[eF];exact ht,tp,tc,by rw[eO,eP,←OS.wP];rfl⟩
   ·
    refine rq [0,1,2,3,4,5,6,7,8,9,10] mixed (by kernel_rfl) ?_
    refine ld (.there .here) (az.CU _) ?_
    refine ld .here (az.On _) ?_
    refine ld .here (az.Oa _) ?_
    refine ca (Lg _ _ K hK q hq _ _) (.cons (.t5 .here) .nil) ?_
    rintro _ _ ⟨rfl,rfl⟩
    refine gO ?_
    refine XE.aK rfl rfl (ab (.cons (.t2 .here) (.cons (.t2 .here) (.cons (.t2 .here) (.cons (.t2 .here) .h1)))) rfl ?_)
    try dsimp only[SW.den,SV.den,aj,aL]
    have hk:¬O.kind n=1:=by assumption
    have eE:ki s.toFF q O n=(q.gB (O.n n) (decide (O.kind n=3)) (-1)).1:=by unfold ki;rw[if_neg (by omega),if_neg hrg,if_neg hk]
    have eF:gG s.toFF O n=s.toFF:=by unfold gG;rw[if_neg (fun h=>hk h.2)]
    have eP:eK q O n=(q.gB (O.n n) (decide (O.kind n=3)) (-1)).2:=by unfold eK;rw[if_pos ⟨⟨i0,hrg⟩,hk⟩]
    have eO:eh O n=O.GS n:=by unfold eh;rw[if_neg (by omega),if_neg hrg]
    exact⟨by rw[eE];rfl,s,by rw[eF],rfl,rfl,by rw[eO,eP,←OS.wP];rfl⟩
 ·
  try dsimp only[aT,aV,bu,bj,bk,bd,aW,bh,aY,aX,aP,aN,aQ,aO]
  refine gO ?_
  refine XE.aK rfl rfl (ab .h5 rfl ?_)
  try dsimp only[SW.den,SV.den,aj,aL]
  have eE:ki s.toFF q O n=O.is n:=by unfold ki;rw[if_pos i0]
  have eF:gG s.toFF O n=s.toFF:=by unfold gG;rw[if_neg (fun h=>i0 h.1.1)]
  have eP:eK q O n=q:=by unfold eK;rw[if_neg (fun h=>i0 h.1.1)]
  have eO:eh O n=O:=by unfold eh;rw[if_pos i0]
  exact⟨by rw[eE,aJ _ i0],s,by rw[eF],rfl,rfl,by rw[eO,eP]⟩
theorem Gd(bf bp:Nat):Spec Tryz.prog 100 [ptr bf 0 0,ptr bp 0 0] [] (fun v H1=>∃ b,v=ptr b 0 0∧H1=[.cells b 0 122 (az bf bp OS.void)]):=by
 refine Spec.go 9 [0,1,4] [] Tryz.func100 rfl rfl rfl ?_
 intro W
 refine XO.v (V.build (vs:= #[(0,ptr bf 0 0),(1,ptr bp 0 0)]) rfl (v:=.agg (DB bf bp)) (fun _=>by kernel_rfl)) rfl (gO ?_)
 refine XO.box (m:=122) (C:=az bf bp OS.void) rfl (Cj bf bp) (EW bf bp) rfl ?_
 intro b
 refine gO ?_
 refine XE.aK rfl rfl (ab .h1 rfl ?_)
 try dsimp only[SW.den,SV.den,aj,aL]
 exact⟨_,rfl,rfl⟩
end Go.X.Tr
