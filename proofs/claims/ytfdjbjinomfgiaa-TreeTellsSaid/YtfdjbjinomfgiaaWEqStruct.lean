-- Of the words that print.sh lays for the seat, those that this claim uses (the others struck by a program of this session).
import Derived.Test.YtfdjbjinomfgiaaWWords
import Derived.Laws.StructEq
/-! ### 53. '==' of structs as_ one Bool -/
namespace Go.Proofs.YtfdjbjinomfgiaaW.PrintWords
open Go.RowKit
section
variable {P : Program} {d : Nat} {xs ys : Array Value} {f : Field} {fs : List Field} {a b : Value} {r s : Bool} {w : World}
end
end Go.Proofs.YtfdjbjinomfgiaaW.PrintWords
