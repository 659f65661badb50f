-- Of the words that print.sh lays for the seat, those that this claim uses (the others struck by a program of this session).
import Derived.Test.YtfdjbjinomfgiaaWN
/-! ### 52. A row that stays read whatever happens to a block (a set of blocks) doesn't lie there -/
namespace Go.Proofs.YtfdjbjinomfgiaaW.PrintWords
open Go.RowKit
namespace Kd
section
variable {α : Type} {d : Kd α} {W : World} {g n : Nat} {S ok : Nat → Prop} {A : Option Addr} {ad : Addr} {xs : List α}
end
end Kd
end Go.Proofs.YtfdjbjinomfgiaaW.PrintWords
