import Derived.Test.YtpoejopnjkcdpaaZWInv
import Derived.Test.YtpoejopnjkcdpaaZWFootNe
namespace Go.Proofs.YtpoejopnjkcdpaaW.PrintWords
open Go.RowKit
end Go.Proofs.YtpoejopnjkcdpaaW.PrintWords
namespace Go.Proofs.YtpoejopnjkcdpaaW.PrintLast
section
variable {ops : Array Oper} {a : Act} {o og : Oper} {g : Nat} {t : Tmp} {u : Bool}
end
end Go.Proofs.YtpoejopnjkcdpaaW.PrintLast

