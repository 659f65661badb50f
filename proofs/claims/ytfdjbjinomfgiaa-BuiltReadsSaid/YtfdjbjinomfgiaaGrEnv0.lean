-- PRINTED by print.py (a twelfth state) out of the translation. Not trusted: Lean checks it.
import Derived.Test.YtfdjbjinomfgiaaProg
import Derived.Below
import Derived.Deep.Draws
import Derived.Deep.AppendLies
import Derived.Maps.AppendAt
import Derived.OwnWalk
import Derived.Laws.BytesArg
import Derived.Laws.MakeOwn
import Derived.Laws.OwnMore
import Derived.Deep.OwnRows
import Derived.Tactics
import Derived.Lib.ConvBytes
import Derived.Laws.Slices
import Derived.WalkKit
import Derived.KernelRfl
import Derived.RowKit3
import Derived.Deep.LoopGhost
import Derived.Deep.QuietTactic
import Derived.BigQuiet
import Derived.WideLaws
import Derived.Deep.DeepCutAuto
import Derived.Deep.CutBlock
import Derived.Deep.RegionHeld3
import Derived.Laws.Rows
import Derived.Lib.AppendStr
import Derived.ArgAppend
import Derived.Laws.IdiomCopy
import Derived.OrdersHeld
import Derived.Laws.BitsLemmas
import Derived.RowKit
import Derived.Test.YtfdjbjinomfgiaaWWords
import Derived.Test.YtfdjbjinomfgiaaWLast
import Derived.Test.YtfdjbjinomfgiaaWTab
import Derived.Test.YtfdjbjinomfgiaaWFour
import Derived.Test.YtfdjbjinomfgiaaWQPut
import Derived.Test.YtfdjbjinomfgiaaWApart
import Derived.Test.YtfdjbjinomfgiaaWArr
import Derived.Test.YtfdjbjinomfgiaaWZeros
import Derived.Test.YtfdjbjinomfgiaaWFoot
import Derived.Test.YtfdjbjinomfgiaaWKept
import Derived.Test.YtfdjbjinomfgiaaWShare
import Derived.Test.YtfdjbjinomfgiaaWN
import Derived.Test.YtfdjbjinomfgiaaWFootNe
import Derived.Test.YtfdjbjinomfgiaaWAt
import Derived.Test.YtfdjbjinomfgiaaWEqStruct
import Derived.Test.YtfdjbjinomfgiaaWRepsOne
import Derived.Test.YtfdjbjinomfgiaaWInv
import Derived.Test.YtfdjbjinomfgiaaWInvWords
import Derived.Test.YtfdjbjinomfgiaaWGuard
import Derived.Test.YtfdjbjinomfgiaaWNEv
import Derived.Test.YtfdjbjinomfgiaaWMore
namespace Go.Proofs.Ytfdjbjinomfgiaa.GrEnv
open Go.RowKit Go.Proofs.YtfdjbjinomfgiaaW.PrintWords Go.Proofs.YtfdjbjinomfgiaaW.PrintLast Go.Proofs.YtfdjbjinomfgiaaW.PrintMore
attribute [local go_sem] max2_int min2_int max_two min_two max_three min_three max_four min_four   -- for this text's walks alone
set_option linter.unusedVariables false
set_option linter.unusedSimpArgs false



def errW : Option Int → Value
  | none => .nilIface
  | some c => .iface 0 (.int .i64 c)
theorem errW_none : errW none = .nilIface := rfl
theorem errW_some (c : Int) : errW (some c) = .iface 0 (.int .i64 c) := rfl

-- the values' own types

end Go.Proofs.Ytfdjbjinomfgiaa.GrEnv
