-- Of the words that print.sh lays for the seat, those that this claim uses (the others struck by a program of this session).
import Derived.Test.YtfdjbjinomfgiaaWInv
import Derived.Test.YtfdjbjinomfgiaaWFootNe
namespace Go.Proofs.YtfdjbjinomfgiaaW.PrintWords
open Go.RowKit
end Go.Proofs.YtfdjbjinomfgiaaW.PrintWords
namespace Go.Proofs.YtfdjbjinomfgiaaW.PrintLast
section
variable {ops : Array Oper} {a : Act} {o og : Oper} {g : Nat} {t : Tmp} {u : Bool}
end
end Go.Proofs.YtfdjbjinomfgiaaW.PrintLast
