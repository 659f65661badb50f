-- Of the words that print.sh lays for the seat, those that this claim uses (the others struck by a program of this session).
import Derived.Test.YtfdjbjinomfgiaaWTab
/-! ### 56. Four, five, six operations that may come up next, in any order -/
namespace Go.Proofs.YtfdjbjinomfgiaaW.PrintLast
section
variable {P : Program} {ops : Array Oper} {Q : Exit → Act → World → Prop} {md : Region.Mode} {S : World → Prop} {ds : List Nat} {T : Bool × List (List Nat × List Nat)}
end
end Go.Proofs.YtfdjbjinomfgiaaW.PrintLast
