-- PRINTED by print.py (a twelfth state) out of the translation. Not trusted: Lean checks it.
import Derived.Test.YtfdjbjinomfgiaaGrEnv0
import Derived.Test.YtfdjbjinomfgiaaGrEnv1
import Derived.Test.YtfdjbjinomfgiaaGrEnv2
namespace Go.Proofs.Ytfdjbjinomfgiaa.GrEnv
open Go.RowKit Go.Proofs.YtfdjbjinomfgiaaW.PrintWords Go.Proofs.YtfdjbjinomfgiaaW.PrintLast Go.Proofs.YtfdjbjinomfgiaaW.PrintMore
attribute [local go_sem] max2_int min2_int max_two min_two max_three min_three max_four min_four   -- for this text's walks alone
set_option linter.unusedVariables false
set_option linter.unusedSimpArgs false

end Go.Proofs.Ytfdjbjinomfgiaa.GrEnv
