/- BitsWrites: the walk with what the callees come to put in: for every input the call returns true. No condition beyond what the opened arguments give. -/
import Derived.Test.YtdklkeocmjofkaaWritesWalk
import Derived.Test.YtdklkeocmjofkaaQARefSpec
import Derived.Test.YtdklkeocmjofkaaQARefPut
namespace Go.Proofs.Ytdklkeocmjofkaa.LawWalk
open Go.RowKit Go.Proofs.Ytdklkeocmjofkaa.QA Go.Proofs.Ytdklkeocmjofkaa.Twin Go.Proofs.YtdklkeocmjofkaaW.PrintWords Go.Proofs.YtdklkeocmjofkaaW.PrintLast Go.Proofs.YtdklkeocmjofkaaW.PrintMore
open Go.Proofs.Ytdklkeocmjofkaa.Facts Go.Proofs.Ytdklkeocmjofkaa.Codec Go.Proofs.Ytdklkeocmjofkaa.QASpec Go.Proofs.Ytdklkeocmjofkaa.QAPutSpec Go.Proofs.Ytdklkeocmjofkaa.QARefSpec

theorem begun_writes : antipodelaw1_begun.f 40 = some true := by decide +kernel
theorem writes_walk (a0 : Option Addr) (len0 cap0 : Nat) (z0 : List Int) (a1 : Option Addr) (len1 cap1 : Nat) (z1 : List Int) (a2 a3 : Int) (w : World) (w0 : (a0 = none ∧ len0 = 0 ∧ cap0 = 0 ∧ z0 = []) ∨ ∃ x, a0 = some x ∧ len0 ≤ cap0 ∧ cap0 ≤ maxLen ∧ z0.length = cap0 ∧ (∀ i, i < z0.length → w.cell? (x.add i) = some (.int .u8 (z0.getD i 0))) ∧ ∀ n ∈ z0, (Lit.int .u8 n).wf = true)
    (w1 : (a1 = none ∧ len1 = 0 ∧ cap1 = 0 ∧ z1 = []) ∨ ∃ x, a1 = some x ∧ len1 ≤ cap1 ∧ cap1 ≤ maxLen ∧ z1.length = cap1 ∧ (∀ i, i < z1.length → w.cell? (x.add i) = some (.int .u8 (z1.getD i 0))) ∧ ∀ n ∈ z1, (Lit.int .u8 n).wf = true) (w2 : (Lit.int .u64 a2).wf = true) :
    Calls Try.prog 5 #[.slice a0 len0 cap0, .slice a1 len1 cap1, .int .u64 a2, .int .i64 a3] w fun e w' => e = .returned (.bool true) ∧ Below w.heap.size w w' := by
  obtain ⟨l0, rfl, hr0, hm0, hw0, hc0⟩ := ReadsInt.ofRowC w0
  obtain ⟨l1, rfl, hr1, hm1, hw1, hc1⟩ := ReadsInt.ofRowC w1
  have hC := Kd.C_of_reads (d := (0 : Int)) (h1 := fun _ => rfl) hr0
  have hC1 := Kd.C_of_reads (d := (0 : Int)) (h1 := fun _ => rfl) hr1
  have hv := u64_of_wf w2
  by_cases hm : l0.length ≤ 65536
  · by_cases hm1 : l1.length ≤ 65536
    · exact writes_near 40 a0 cap0 l0 a1 cap1 l1 a2 a3 w hC hc0 hC1 hc1 ⟨begun_writes⟩ _ _ _ _ hm hm1 ⟨put_calls 40 (by omega) hv (by omega)⟩ ⟨refPut_calls 40 (by omega) hv (by omega)⟩ ⟨var_calls 40 (by omega) hv (by omega)⟩ ⟨refVar_calls 40 (by omega) hv (by omega)⟩ ⟨text_calls 40 (by omega) (by omega)⟩ ⟨refText_calls 40 (by omega) (by omega)⟩
    · exact writes_far1 40 a0 cap0 l0 a1 cap1 l1 a2 a3 w hC hc0 hC1 hc1 ⟨begun_writes⟩ hm (by omega)
  · exact writes_far0 40 a0 cap0 l0 a1 cap1 l1 a2 a3 w hC hc0 hC1 hc1 ⟨begun_writes⟩ (by omega)
end Go.Proofs.Ytdklkeocmjofkaa.LawWalk
