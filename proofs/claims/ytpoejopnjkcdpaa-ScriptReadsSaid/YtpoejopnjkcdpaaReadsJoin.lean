/- ScriptReads: the walk with what the callees come to put in: for every input the call returns true. No condition beyond what the opened arguments give. -/
import Derived.Test.YtpoejopnjkcdpaaReadsWalk
import Derived.Test.YtpoejopnjkcdpaaScriptSame
namespace Go.Proofs.Ytpoejopnjkcdpaa.LawWalk
open Go.RowKit Go.Proofs.Ytpoejopnjkcdpaa.QA Go.Proofs.Ytpoejopnjkcdpaa.Twin Go.Proofs.YtpoejopnjkcdpaaW.PrintWords Go.Proofs.YtpoejopnjkcdpaaW.PrintLast Go.Proofs.YtpoejopnjkcdpaaW.PrintMore
open Go.Proofs.Ytpoejopnjkcdpaa.Facts Go.Proofs.Ytpoejopnjkcdpaa.Codec Go.Proofs.Ytpoejopnjkcdpaa.St

theorem begun_reads : antipodelaw29_begun.f 9000 = some true := by decide +kernel
theorem reads_walk (a0 : Option Addr) (len0 cap0 : Nat) (z0 : List Int) (a1 : Int) (w : World) (w0 : (a0 = none ∧ len0 = 0 ∧ cap0 = 0 ∧ z0 = []) ∨ ∃ x, a0 = some x ∧ len0 ≤ cap0 ∧ cap0 ≤ maxLen ∧ z0.length = cap0 ∧ (∀ i, i < z0.length → w.cell? (x.add i) = some (.int .u8 (z0.getD i 0))) ∧ ∀ n ∈ z0, (Lit.int .u8 n).wf = true) :
    Calls Try.prog 3 #[.slice a0 len0 cap0, .int .i64 a1] w fun e w' => e = .returned (.bool true) ∧ Below w.heap.size w w' := by
  obtain ⟨l0, rfl, hr0, hm0, hw0, hc0⟩ := ReadsInt.ofRowC w0
  have hC := Kd.C_of_reads (d := (0 : Int)) (h1 := fun _ => rfl) hr0
  have hb := bytes_of_wf hw0
  by_cases hm : l0.length ≤ 4096
  · have hL := dec_len (nn a1) l0.length l0
    exact reads_near 9000 a0 cap0 l0 a1 w hC hc0 ⟨begun_reads⟩ _ hm ⟨prog_decode 9000 a1 hb (by omega) (by omega)⟩ ⟨ref_decode 9000 a1 hb (by omega) (by omega)⟩ ⟨sameAll _ 2 9000 (dec_keep _ _ _) (by omega) (by omega) (by omega)⟩
  · exact reads_far 9000 a0 cap0 l0 a1 w hC hc0 ⟨begun_reads⟩ (by omega)
end Go.Proofs.Ytpoejopnjkcdpaa.LawWalk
