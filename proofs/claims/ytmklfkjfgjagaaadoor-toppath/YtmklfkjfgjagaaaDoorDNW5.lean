import Derived.Test.YtmklfkjfgjagaaaDoorDNW4
namespace Go.X
open Go Go.Proofs


end Go.X
