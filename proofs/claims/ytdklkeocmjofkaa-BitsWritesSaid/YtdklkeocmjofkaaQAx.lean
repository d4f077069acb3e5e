/- Written by a program of this session (wip/myprint.sh): contracts of Go functions of the translation: each call comes to what the Lean function of its name says. -/
import Derived.Test.YtdklkeocmjofkaaQAx0
import Derived.Test.YtdklkeocmjofkaaQAx1
import Derived.Test.YtdklkeocmjofkaaQAx2
import Derived.Test.YtdklkeocmjofkaaQAx3
namespace Go.Proofs.Ytdklkeocmjofkaa.QA
open Go.RowKit Go.Proofs.YtdklkeocmjofkaaW.PrintWords Go.Proofs.YtdklkeocmjofkaaW.PrintLast Go.Proofs.YtdklkeocmjofkaaW.PrintMore
attribute [local go_sem] max2_int min2_int max_two min_two max_three min_three max_four min_four   -- for this text's walks alone
set_option linter.unusedVariables false
set_option linter.unusedSimpArgs false

end Go.Proofs.Ytdklkeocmjofkaa.QA
