import Derived.Test.YtmklfkjfgjagaaaGreatDoorXRange
namespace Go.X
open Go Go.Proofs
/-! short names for what the walks' lines say most -/
abbrev tt : Bool := true
abbrev ff : Bool := false
section
variable {L : PF} {a1 a2 a3 a4 a5 a6 a7 a8 : Nat} {v1 v2 v3 v4 v5 v6 v7 v8 : Value} {R : PF}
theorem C2 (h1 : lk L a1 = some v1) (h2 : lk L a2 = some v2) (r : Sub L R) : Sub L ((a1, v1) :: (a2, v2) :: R) := .cons h1 (.cons h2 r)
theorem C4 (h1 : lk L a1 = some v1) (h2 : lk L a2 = some v2) (h3 : lk L a3 = some v3) (h4 : lk L a4 = some v4) (r : Sub L R) : Sub L ((a1, v1) :: (a2, v2) :: (a3, v3) :: (a4, v4) :: R) := .cons h1 (.cons h2 (.cons h3 (.cons h4 r)))
theorem S1 (h1 : lk L a1 = some v1) : Sub L [(a1, v1)] := .cons h1 (.nil _)
theorem S2 (h1 : lk L a1 = some v1) (h2 : lk L a2 = some v2) : Sub L [(a1, v1), (a2, v2)] := .cons h1 (S1 h2)
theorem S3 (h1 : lk L a1 = some v1) (h2 : lk L a2 = some v2) (h3 : lk L a3 = some v3) : Sub L [(a1, v1), (a2, v2), (a3, v3)] := .cons h1 (S2 h2 h3)
theorem S4 (h1 : lk L a1 = some v1) (h2 : lk L a2 = some v2) (h3 : lk L a3 = some v3) (h4 : lk L a4 = some v4) : Sub L [(a1, v1), (a2, v2), (a3, v3), (a4, v4)] := .cons h1 (S3 h2 h3 h4)
theorem S5 (h1 : lk L a1 = some v1) (h2 : lk L a2 = some v2) (h3 : lk L a3 = some v3) (h4 : lk L a4 = some v4) (h5 : lk L a5 = some v5) : Sub L [(a1, v1), (a2, v2), (a3, v3), (a4, v4), (a5, v5)] := .cons h1 (S4 h2 h3 h4 h5)
theorem S6 (h1 : lk L a1 = some v1) (h2 : lk L a2 = some v2) (h3 : lk L a3 = some v3) (h4 : lk L a4 = some v4) (h5 : lk L a5 = some v5) (h6 : lk L a6 = some v6) : Sub L [(a1, v1), (a2, v2), (a3, v3), (a4, v4), (a5, v5), (a6, v6)] := .cons h1 (S5 h2 h3 h4 h5 h6)
theorem S7 (h1 : lk L a1 = some v1) (h2 : lk L a2 = some v2) (h3 : lk L a3 = some v3) (h4 : lk L a4 = some v4) (h5 : lk L a5 = some v5) (h6 : lk L a6 = some v6) (h7 : lk L a7 = some v7) : Sub L [(a1, v1), (a2, v2), (a3, v3), (a4, v4), (a5, v5), (a6, v6), (a7, v7)] := .cons h1 (S6 h2 h3 h4 h5 h6 h7)
theorem S8 (h1 : lk L a1 = some v1) (h2 : lk L a2 = some v2) (h3 : lk L a3 = some v3) (h4 : lk L a4 = some v4) (h5 : lk L a5 = some v5) (h6 : lk L a6 = some v6) (h7 : lk L a7 = some v7) (h8 : lk L a8 = some v8) : Sub L [(a1, v1), (a2, v2), (a3, v3), (a4, v4), (a5, v5), (a6, v6), (a7, v7), (a8, v8)] := .cons h1 (S7 h2 h3 h4 h5 h6 h7 h8)
end
section
variable {P : Program} {n : Fr} {L L' : PF} {M : World → Prop} {Q : Exit → Act → World → Prop}
theorem XC.sr {y : Code} {i : Nat} {l : List Oper} (h : XO P n l.toArray (Exit.then (y.wp P Q) Q) l L M) : XC P n (.seq (.region i l.toArray false) y) Q L M := .seq (.region h)
theorem XO.nn {ops : Array Oper} {y : Code} {Q' : Exit → Act → World → Prop} (h : XC P n y Q L M) : XO P n ops (Exit.then (y.wp P Q) Q') [] L M := .nil (.next h)
theorem XO.nk {ops : Array Oper} {y : Code} {Q' : Exit → Act → World → Prop} (L' : PF) (hs : Sub L L') (h : XC P n y Q L' M) : XO P n ops (Exit.then (y.wp P Q) Q') [] L M := .nil (.next (.keep L' hs h))
end
section
variable {P : Program} {n : Fr} {L : PF} {ops : Array Oper} {rest : List Oper} {M : World → Prop} {Q : Exit → Act → World → Prop} {v : Value} {d : Nat} {ty : TypeId} {pos : String} {af : Array Edge} {x : Operand}
theorem XO.mv (hx : ev L x = some v) (hd : Nat.blt d n.sz = true) (h : XO P n ops Q rest ((d, v) :: L) M) : XO P n ops Q (⟨some d, .move x, ty, pos, af, none⟩ :: rest) L M := .v (V.move hx) hd h
theorem XO.as (hx : ev L x = some v) (hd : Nat.blt d n.sz = true) (h : XO P n ops Q rest ((d, v) :: L) M) : XO P n ops Q (⟨some d, .assign x, ty, pos, af, none⟩ :: rest) L M := .v (V.assign hx) hd h
end
/-! finding entries -/
theorem Has.t2 {H : List Ent} {e : Ent} {x0 x1 : Ent} (h : Has H e) : Has (x0 :: x1 :: H) e := .there (.there h)
theorem Has.t3 {H : List Ent} {e : Ent} {x0 x1 x2 : Ent} (h : Has H e) : Has (x0 :: x1 :: x2 :: H) e := .there (.t2 h)
theorem Has.t4 {H : List Ent} {e : Ent} {x0 x1 x2 x3 : Ent} (h : Has H e) : Has (x0 :: x1 :: x2 :: x3 :: H) e := .there (.t3 h)
theorem Has.t5 {H : List Ent} {e : Ent} {x0 x1 x2 x3 x4 : Ent} (h : Has H e) : Has (x0 :: x1 :: x2 :: x3 :: x4 :: H) e := .there (.t4 h)
theorem Has.t6 {H : List Ent} {e : Ent} {x0 x1 x2 x3 x4 x5 : Ent} (h : Has H e) : Has (x0 :: x1 :: x2 :: x3 :: x4 :: x5 :: H) e := .there (.t5 h)
theorem Has.t7 {H : List Ent} {e : Ent} {x0 x1 x2 x3 x4 x5 x6 : Ent} (h : Has H e) : Has (x0 :: x1 :: x2 :: x3 :: x4 :: x5 :: x6 :: H) e := .there (.t6 h)
theorem Has.t8 {H : List Ent} {e : Ent} {x0 x1 x2 x3 x4 x5 x6 x7 : Ent} (h : Has H e) : Has (x0 :: x1 :: x2 :: x3 :: x4 :: x5 :: x6 :: x7 :: H) e := .there (.t7 h)
theorem Has.t9 {H : List Ent} {e : Ent} {x0 x1 x2 x3 x4 x5 x6 x7 x8 : Ent} (h : Has H e) : Has (x0 :: x1 :: x2 :: x3 :: x4 :: x5 :: x6 :: x7 :: x8 :: H) e := .there (.t8 h)
theorem Has.t10 {H : List Ent} {e : Ent} {x0 x1 x2 x3 x4 x5 x6 x7 x8 x9 : Ent} (h : Has H e) : Has (x0 :: x1 :: x2 :: x3 :: x4 :: x5 :: x6 :: x7 :: x8 :: x9 :: H) e := .there (.t9 h)
theorem Has.t11 {H : List Ent} {e : Ent} {x0 x1 x2 x3 x4 x5 x6 x7 x8 x9 x10 : Ent} (h : Has H e) : Has (x0 :: x1 :: x2 :: x3 :: x4 :: x5 :: x6 :: x7 :: x8 :: x9 :: x10 :: H) e := .there (.t10 h)
theorem Has.t12 {H : List Ent} {e : Ent} {x0 x1 x2 x3 x4 x5 x6 x7 x8 x9 x10 x11 : Ent} (h : Has H e) : Has (x0 :: x1 :: x2 :: x3 :: x4 :: x5 :: x6 :: x7 :: x8 :: x9 :: x10 :: x11 :: H) e := .there (.t11 h)
theorem Del.t2 {H H2 : List Ent} {e : Ent} {x0 x1 : Ent} (h : Del H e H2) : Del (x0 :: x1 :: H) e (x0 :: x1 :: H2) := .there (.there h)
theorem Del.t3 {H H2 : List Ent} {e : Ent} {x0 x1 x2 : Ent} (h : Del H e H2) : Del (x0 :: x1 :: x2 :: H) e (x0 :: x1 :: x2 :: H2) := .there (.t2 h)
theorem Del.t4 {H H2 : List Ent} {e : Ent} {x0 x1 x2 x3 : Ent} (h : Del H e H2) : Del (x0 :: x1 :: x2 :: x3 :: H) e (x0 :: x1 :: x2 :: x3 :: H2) := .there (.t3 h)
theorem Del.t5 {H H2 : List Ent} {e : Ent} {x0 x1 x2 x3 x4 : Ent} (h : Del H e H2) : Del (x0 :: x1 :: x2 :: x3 :: x4 :: H) e (x0 :: x1 :: x2 :: x3 :: x4 :: H2) := .there (.t4 h)
theorem Del.t6 {H H2 : List Ent} {e : Ent} {x0 x1 x2 x3 x4 x5 : Ent} (h : Del H e H2) : Del (x0 :: x1 :: x2 :: x3 :: x4 :: x5 :: H) e (x0 :: x1 :: x2 :: x3 :: x4 :: x5 :: H2) := .there (.t5 h)
theorem Del.t7 {H H2 : List Ent} {e : Ent} {x0 x1 x2 x3 x4 x5 x6 : Ent} (h : Del H e H2) : Del (x0 :: x1 :: x2 :: x3 :: x4 :: x5 :: x6 :: H) e (x0 :: x1 :: x2 :: x3 :: x4 :: x5 :: x6 :: H2) := .there (.t6 h)
theorem Del.t8 {H H2 : List Ent} {e : Ent} {x0 x1 x2 x3 x4 x5 x6 x7 : Ent} (h : Del H e H2) : Del (x0 :: x1 :: x2 :: x3 :: x4 :: x5 :: x6 :: x7 :: H) e (x0 :: x1 :: x2 :: x3 :: x4 :: x5 :: x6 :: x7 :: H2) := .there (.t7 h)
theorem Del.t9 {H H2 : List Ent} {e : Ent} {x0 x1 x2 x3 x4 x5 x6 x7 x8 : Ent} (h : Del H e H2) : Del (x0 :: x1 :: x2 :: x3 :: x4 :: x5 :: x6 :: x7 :: x8 :: H) e (x0 :: x1 :: x2 :: x3 :: x4 :: x5 :: x6 :: x7 :: x8 :: H2) := .there (.t8 h)
theorem Del.t10 {H H2 : List Ent} {e : Ent} {x0 x1 x2 x3 x4 x5 x6 x7 x8 x9 : Ent} (h : Del H e H2) : Del (x0 :: x1 :: x2 :: x3 :: x4 :: x5 :: x6 :: x7 :: x8 :: x9 :: H) e (x0 :: x1 :: x2 :: x3 :: x4 :: x5 :: x6 :: x7 :: x8 :: x9 :: H2) := .there (.t9 h)
theorem Del.t11 {H H2 : List Ent} {e : Ent} {x0 x1 x2 x3 x4 x5 x6 x7 x8 x9 x10 : Ent} (h : Del H e H2) : Del (x0 :: x1 :: x2 :: x3 :: x4 :: x5 :: x6 :: x7 :: x8 :: x9 :: x10 :: H) e (x0 :: x1 :: x2 :: x3 :: x4 :: x5 :: x6 :: x7 :: x8 :: x9 :: x10 :: H2) := .there (.t10 h)
theorem Del.t12 {H H2 : List Ent} {e : Ent} {x0 x1 x2 x3 x4 x5 x6 x7 x8 x9 x10 x11 : Ent} (h : Del H e H2) : Del (x0 :: x1 :: x2 :: x3 :: x4 :: x5 :: x6 :: x7 :: x8 :: x9 :: x10 :: x11 :: H) e (x0 :: x1 :: x2 :: x3 :: x4 :: x5 :: x6 :: x7 :: x8 :: x9 :: x10 :: x11 :: H2) := .there (.t11 h)
theorem Put.t2 {H H2 : List Ent} {e e2 : Ent} {x0 x1 : Ent} (h : Put H e e2 H2) : Put (x0 :: x1 :: H) e e2 (x0 :: x1 :: H2) := .there (.there h)
theorem Put.t3 {H H2 : List Ent} {e e2 : Ent} {x0 x1 x2 : Ent} (h : Put H e e2 H2) : Put (x0 :: x1 :: x2 :: H) e e2 (x0 :: x1 :: x2 :: H2) := .there (.t2 h)
theorem Put.t4 {H H2 : List Ent} {e e2 : Ent} {x0 x1 x2 x3 : Ent} (h : Put H e e2 H2) : Put (x0 :: x1 :: x2 :: x3 :: H) e e2 (x0 :: x1 :: x2 :: x3 :: H2) := .there (.t3 h)
theorem Put.t5 {H H2 : List Ent} {e e2 : Ent} {x0 x1 x2 x3 x4 : Ent} (h : Put H e e2 H2) : Put (x0 :: x1 :: x2 :: x3 :: x4 :: H) e e2 (x0 :: x1 :: x2 :: x3 :: x4 :: H2) := .there (.t4 h)
theorem Put.t6 {H H2 : List Ent} {e e2 : Ent} {x0 x1 x2 x3 x4 x5 : Ent} (h : Put H e e2 H2) : Put (x0 :: x1 :: x2 :: x3 :: x4 :: x5 :: H) e e2 (x0 :: x1 :: x2 :: x3 :: x4 :: x5 :: H2) := .there (.t5 h)
theorem Put.t7 {H H2 : List Ent} {e e2 : Ent} {x0 x1 x2 x3 x4 x5 x6 : Ent} (h : Put H e e2 H2) : Put (x0 :: x1 :: x2 :: x3 :: x4 :: x5 :: x6 :: H) e e2 (x0 :: x1 :: x2 :: x3 :: x4 :: x5 :: x6 :: H2) := .there (.t6 h)
theorem Put.t8 {H H2 : List Ent} {e e2 : Ent} {x0 x1 x2 x3 x4 x5 x6 x7 : Ent} (h : Put H e e2 H2) : Put (x0 :: x1 :: x2 :: x3 :: x4 :: x5 :: x6 :: x7 :: H) e e2 (x0 :: x1 :: x2 :: x3 :: x4 :: x5 :: x6 :: x7 :: H2) := .there (.t7 h)
theorem Put.t9 {H H2 : List Ent} {e e2 : Ent} {x0 x1 x2 x3 x4 x5 x6 x7 x8 : Ent} (h : Put H e e2 H2) : Put (x0 :: x1 :: x2 :: x3 :: x4 :: x5 :: x6 :: x7 :: x8 :: H) e e2 (x0 :: x1 :: x2 :: x3 :: x4 :: x5 :: x6 :: x7 :: x8 :: H2) := .there (.t8 h)
theorem Put.t10 {H H2 : List Ent} {e e2 : Ent} {x0 x1 x2 x3 x4 x5 x6 x7 x8 x9 : Ent} (h : Put H e e2 H2) : Put (x0 :: x1 :: x2 :: x3 :: x4 :: x5 :: x6 :: x7 :: x8 :: x9 :: H) e e2 (x0 :: x1 :: x2 :: x3 :: x4 :: x5 :: x6 :: x7 :: x8 :: x9 :: H2) := .there (.t9 h)
theorem Put.t11 {H H2 : List Ent} {e e2 : Ent} {x0 x1 x2 x3 x4 x5 x6 x7 x8 x9 x10 : Ent} (h : Put H e e2 H2) : Put (x0 :: x1 :: x2 :: x3 :: x4 :: x5 :: x6 :: x7 :: x8 :: x9 :: x10 :: H) e e2 (x0 :: x1 :: x2 :: x3 :: x4 :: x5 :: x6 :: x7 :: x8 :: x9 :: x10 :: H2) := .there (.t10 h)
theorem Put.t12 {H H2 : List Ent} {e e2 : Ent} {x0 x1 x2 x3 x4 x5 x6 x7 x8 x9 x10 x11 : Ent} (h : Put H e e2 H2) : Put (x0 :: x1 :: x2 :: x3 :: x4 :: x5 :: x6 :: x7 :: x8 :: x9 :: x10 :: x11 :: H) e e2 (x0 :: x1 :: x2 :: x3 :: x4 :: x5 :: x6 :: x7 :: x8 :: x9 :: x10 :: x11 :: H2) := .there (.t11 h)
theorem Pick.h1 {H : List Ent} {x0 : Ent} : Pick (x0 :: H) [x0] H := .cons .here .nil
theorem Pick.h2 {H : List Ent} {x0 x1 : Ent} : Pick (x0 :: x1 :: H) [x0, x1] H := .cons .here .h1
theorem Pick.h3 {H : List Ent} {x0 x1 x2 : Ent} : Pick (x0 :: x1 :: x2 :: H) [x0, x1, x2] H := .cons .here .h2
theorem Pick.h4 {H : List Ent} {x0 x1 x2 x3 : Ent} : Pick (x0 :: x1 :: x2 :: x3 :: H) [x0, x1, x2, x3] H := .cons .here .h3
theorem Pick.h5 {H : List Ent} {x0 x1 x2 x3 x4 : Ent} : Pick (x0 :: x1 :: x2 :: x3 :: x4 :: H) [x0, x1, x2, x3, x4] H := .cons .here .h4
theorem Pick.h6 {H : List Ent} {x0 x1 x2 x3 x4 x5 : Ent} : Pick (x0 :: x1 :: x2 :: x3 :: x4 :: x5 :: H) [x0, x1, x2, x3, x4, x5] H := .cons .here .h5
theorem Pick.h7 {H : List Ent} {x0 x1 x2 x3 x4 x5 x6 : Ent} : Pick (x0 :: x1 :: x2 :: x3 :: x4 :: x5 :: x6 :: H) [x0, x1, x2, x3, x4, x5, x6] H := .cons .here .h6
theorem Pick.h8 {H : List Ent} {x0 x1 x2 x3 x4 x5 x6 x7 : Ent} : Pick (x0 :: x1 :: x2 :: x3 :: x4 :: x5 :: x6 :: x7 :: H) [x0, x1, x2, x3, x4, x5, x6, x7] H := .cons .here .h7
theorem Pick.h9 {H : List Ent} {x0 x1 x2 x3 x4 x5 x6 x7 x8 : Ent} : Pick (x0 :: x1 :: x2 :: x3 :: x4 :: x5 :: x6 :: x7 :: x8 :: H) [x0, x1, x2, x3, x4, x5, x6, x7, x8] H := .cons .here .h8
theorem Pick.h10 {H : List Ent} {x0 x1 x2 x3 x4 x5 x6 x7 x8 x9 : Ent} : Pick (x0 :: x1 :: x2 :: x3 :: x4 :: x5 :: x6 :: x7 :: x8 :: x9 :: H) [x0, x1, x2, x3, x4, x5, x6, x7, x8, x9] H := .cons .here .h9
theorem Pick.h11 {H : List Ent} {x0 x1 x2 x3 x4 x5 x6 x7 x8 x9 x10 : Ent} : Pick (x0 :: x1 :: x2 :: x3 :: x4 :: x5 :: x6 :: x7 :: x8 :: x9 :: x10 :: H) [x0, x1, x2, x3, x4, x5, x6, x7, x8, x9, x10] H := .cons .here .h10
theorem Pick.h12 {H : List Ent} {x0 x1 x2 x3 x4 x5 x6 x7 x8 x9 x10 x11 : Ent} : Pick (x0 :: x1 :: x2 :: x3 :: x4 :: x5 :: x6 :: x7 :: x8 :: x9 :: x10 :: x11 :: H) [x0, x1, x2, x3, x4, x5, x6, x7, x8, x9, x10, x11] H := .cons .here .h11
theorem Pick.h13 {H : List Ent} {x0 x1 x2 x3 x4 x5 x6 x7 x8 x9 x10 x11 x12 : Ent} : Pick (x0 :: x1 :: x2 :: x3 :: x4 :: x5 :: x6 :: x7 :: x8 :: x9 :: x10 :: x11 :: x12 :: H) [x0, x1, x2, x3, x4, x5, x6, x7, x8, x9, x10, x11, x12] H := .cons .here .h12
theorem Pick.h14 {H : List Ent} {x0 x1 x2 x3 x4 x5 x6 x7 x8 x9 x10 x11 x12 x13 : Ent} : Pick (x0 :: x1 :: x2 :: x3 :: x4 :: x5 :: x6 :: x7 :: x8 :: x9 :: x10 :: x11 :: x12 :: x13 :: H) [x0, x1, x2, x3, x4, x5, x6, x7, x8, x9, x10, x11, x12, x13] H := .cons .here .h13
end Go.X
