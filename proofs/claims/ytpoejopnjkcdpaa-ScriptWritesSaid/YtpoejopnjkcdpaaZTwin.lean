/- Twin, Kept and Spoil of the laws' own package: a twin is a row of the call's own with three bytes of room behind what it shows; Kept tells true of a twin that stands; Spoil writes over one row alone. Bound: at most 2^40 bytes. -/
import Derived.Test.YtpoejopnjkcdpaaZQAx0
import Derived.Laws.CopyOwn
import Derived.Laws.Rows
import Derived.Lib.Hide
namespace Go.Proofs.Ytpoejopnjkcdpaa.Twin
open Go.RowKit Go.Proofs.Ytpoejopnjkcdpaa.QA Go.Proofs.YtpoejopnjkcdpaaW.PrintWords Go.Proofs.YtpoejopnjkcdpaaW.PrintLast Go.Proofs.YtpoejopnjkcdpaaW.PrintMore
set_option linter.unusedVariables false
set_option linter.unusedSimpArgs false
end Go.Proofs.Ytpoejopnjkcdpaa.Twin

