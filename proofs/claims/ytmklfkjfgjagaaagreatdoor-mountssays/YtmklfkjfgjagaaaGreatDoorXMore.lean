import Derived.Test.YtmklfkjfgjagaaaGreatDoorXFrow
namespace Go.X
open Go
section
variable {P : Program} {n : Fr} {Q : Exit → Act → World → Prop} {L : PF} {ops : Array Oper} {rest : List Oper} {ty : TypeId} {pos : String} {af : Array Edge} {d : Nat}
variable {W : World} {S : Nat → Nat → Prop} {H H' : List Ent}
end
end Go.X
