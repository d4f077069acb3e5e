/- The pure statement behind BitsSums: which sums and products there are, as the document has it. No condition beyond the statement's own. -/
import Derived.Test.YtdklkeocmjofkaaMulFacts
namespace Go.Proofs.Ytdklkeocmjofkaa.Pure
open Go.RowKit Go.Proofs.Ytdklkeocmjofkaa.QA Go.Proofs.YtdklkeocmjofkaaW.PrintWords Go.Proofs.YtdklkeocmjofkaaW.PrintLast Go.Proofs.YtdklkeocmjofkaaW.PrintMore Go.Proofs.Ytdklkeocmjofkaa.Facts

theorem begun_sums : antipodelaw1_begun.f 20 = some true := by decide +kernel

theorem BitsSums : antipodelaw1_BitsSums.Pure := by
  intro a b ha hb
  refine ⟨20, ?_⟩
  have ha := in64_of_wf ha
  have hb := in64_of_wf hb
  unfold antipodelaw1_BitsSums.f
  rw [add_calls ha hb, add_ref ha hb, mul_calls ha hb, mul_ref 19 ha hb, begun_sums]
  simp

end Go.Proofs.Ytdklkeocmjofkaa.Pure
