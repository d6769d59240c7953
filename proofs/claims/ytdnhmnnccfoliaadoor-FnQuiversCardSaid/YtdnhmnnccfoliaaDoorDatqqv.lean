import Derived.Test.YtdnhmnnccfoliaaDoorLBqqv
import Derived.Test.YtdnhmnnccfoliaaDoorTabqqv
namespace Go.Proofs.YtdnhmnnccfoliaaDoor
open Go.Lg Go.Proofs Go.RowKit

abbrev iT (xs : List Int) : T := ints 3 xs
abbrev iV (n : Int) : Value := .int .i64 n
abbrev Mat := Int × Int × List Int
end Go.Proofs.YtdnhmnnccfoliaaDoor
