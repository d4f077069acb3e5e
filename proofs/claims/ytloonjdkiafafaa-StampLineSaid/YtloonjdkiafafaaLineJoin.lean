/- StampLine: the walk and the plain law joined. No condition. -/
import Derived.Test.YtloonjdkiafafaaQLc
import Derived.Test.YtloonjdkiafafaaPureStampLine
namespace Go.Proofs.Ytloonjdkiafafaa.PureLine
open Go.RowKit Go.Proofs.Ytloonjdkiafafaa.QL Go.Proofs.YtloonjdkiafafaaW.PrintWords
theorem line_walk (a0 a1 b0 b1 c0 c1 x0 x1 x2 x3 y0 y1 y2 y3 z0 z1 z2 z3 : Int) (w : World) :
    Calls Try.prog 7 #[.agg #[.int .i64 a0, .int .i64 a1], .agg #[.int .i64 b0, .int .i64 b1], .agg #[.int .i64 c0, .int .i64 c1], .agg #[.int .i64 x0, .int .i64 x1, .int .i64 x2, .int .i64 x3], .agg #[.int .i64 y0, .int .i64 y1, .int .i64 y2, .int .i64 y3], .agg #[.int .i64 z0, .int .i64 z1, .int .i64 z2, .int .i64 z3]] w fun e w' => e = .returned (.bool true) ∧ Below w.heap.size w w' :=
  antipodelaw6_StampLine.calls 24 a0 a1 b0 b1 c0 c1 x0 x1 x2 x3 y0 y1 y2 y3 z0 z1 z2 z3 true w ⟨rfl⟩ (line_f 22 (by omega) begun_line a0 a1 b0 b1 c0 c1 x0 x1 x2 x3 y0 y1 y2 y3 z0 z1 z2 z3)
end Go.Proofs.Ytloonjdkiafafaa.PureLine
