/- BitsReads: the walk with what the callees come to put in: for every input the call returns true. No condition beyond what the opened arguments give. -/
import Derived.Test.YtdklkeocmjofkaaReadsWalk
import Derived.Test.YtdklkeocmjofkaaQARefSpec
namespace Go.Proofs.Ytdklkeocmjofkaa.LawWalk
open Go.RowKit Go.Proofs.Ytdklkeocmjofkaa.QA Go.Proofs.Ytdklkeocmjofkaa.Twin Go.Proofs.YtdklkeocmjofkaaW.PrintWords Go.Proofs.YtdklkeocmjofkaaW.PrintLast Go.Proofs.YtdklkeocmjofkaaW.PrintMore
open Go.Proofs.Ytdklkeocmjofkaa.Facts Go.Proofs.Ytdklkeocmjofkaa.Codec Go.Proofs.Ytdklkeocmjofkaa.QASpec Go.Proofs.Ytdklkeocmjofkaa.QAPutSpec Go.Proofs.Ytdklkeocmjofkaa.QARefSpec

theorem begun_reads : antipodelaw1_begun.f 40 = some true := by decide +kernel
theorem reads_walk (a0 : Option Addr) (len0 cap0 : Nat) (z0 : List Int) (a1 a2 : Int) (w : World) (w0 : (a0 = none ∧ len0 = 0 ∧ cap0 = 0 ∧ z0 = []) ∨ ∃ x, a0 = some x ∧ len0 ≤ cap0 ∧ cap0 ≤ maxLen ∧ z0.length = cap0 ∧ (∀ i, i < z0.length → w.cell? (x.add i) = some (.int .u8 (z0.getD i 0))) ∧ ∀ n ∈ z0, (Lit.int .u8 n).wf = true) :
    Calls Try.prog 6 #[.slice a0 len0 cap0, .int .i64 a1, .int .i64 a2] w fun e w' => e = .returned (.bool true) ∧ Below w.heap.size w w' := by
  obtain ⟨l0, rfl, hr0, hm0, hw0, hc0⟩ := ReadsInt.ofRowC w0
  have hC := Kd.C_of_reads (d := (0 : Int)) (h1 := fun _ => rfl) hr0
  have hb := bytes_of_wf hw0
  by_cases hm : l0.length ≤ 65536
  · exact reads_near 40 a0 cap0 l0 a1 a2 w hC hc0 ⟨begun_reads⟩ _ _ _ _ _ _ _ _ hm ⟨get_calls 40 (by omega) hb (by omega)⟩ ⟨refGet_calls 40 (by omega) hb (by omega)⟩ ⟨takeVar_calls 40 (by omega) hb (by omega)⟩ ⟨refTakeVar_calls 40 (by omega) hb (by omega)⟩ ⟨takeText_calls 40 (by omega) hb (by omega)⟩ ⟨refTakeText_calls 40 (by omega) hb (by omega)⟩
  · exact reads_far 40 a0 cap0 l0 a1 a2 w hC hc0 ⟨begun_reads⟩ (by omega)
end Go.Proofs.Ytdklkeocmjofkaa.LawWalk
