/- StampReads: the walk with what the callees come to put in: for every input the call returns true. No condition beyond what the opened arguments give. -/
import Derived.Test.YtloonjdkiafafaaReadsWalk
import Derived.Test.YtloonjdkiafafaaQARefSpec
namespace Go.Proofs.Ytloonjdkiafafaa.LawWalk
open Go.RowKit Go.Proofs.Ytloonjdkiafafaa.QA Go.Proofs.Ytloonjdkiafafaa.Twin Go.Proofs.YtloonjdkiafafaaW.PrintWords Go.Proofs.YtloonjdkiafafaaW.PrintLast Go.Proofs.YtloonjdkiafafaaW.PrintMore
open Go.Proofs.Ytloonjdkiafafaa.Facts Go.Proofs.Ytloonjdkiafafaa.Codec Go.Proofs.Ytloonjdkiafafaa.QAPutSpec Go.Proofs.Ytloonjdkiafafaa.QARefSpec

theorem begun_reads : antipodelaw6_begun.f 40 = some true := by decide +kernel
theorem back_ref {u : Int} (h : U64 u) : antipoderef1_Back.f u = some (u - 9223372036854775808) := by
  have h1 := h.1
  have h2 := h.2
  unfold antipoderef1_Back.f
  by_cases c : u ≥ 9223372036854775808
  · rw [if_pos c]
    congr 1
    rw [u64w_id (by omega) (by omega), w64_id (by omega) (by omega)]
  · rw [if_neg c]
    congr 1
    rw [w64_id (x := u) (by omega) (by omega), w64_id (x := u - 9223372036854775807) (by omega) (by omega), w64_id (by omega) (by omega)]
    omega
/-- What Take comes to. -/
def takeS (l : List Int) : Int × Int × Int := if l.length < 16 then (0, 0, 2) else if l.length > 16 then (0, 0, 3) else (gv (l.take 8) - 9223372036854775808, gv (l.drop 8) - 9223372036854775808, 0)
theorem gets {l : List Int} (h : l.length = 16) : getS l 0 8 = (gv (l.take 8), 0) ∧ getS l 8 8 = (gv (l.drop 8), 0) := by
  unfold getS
  rw [h]
  have e : l.take 16 = l := List.take_of_length_le (by omega)
  constructor
  · rfl
  · show (gv ((l.take 16).drop 8), (0 : Int)) = _
    rw [e]
theorem gv_u64 {l : List Int} (hb : Bytes l) (h : l.length ≤ 8) : U64 (gv l) := by
  have := gv_range l hb
  have h2 : 256 ^ l.length ≤ 256 ^ 8 := Nat.pow_le_pow_right (by omega) h
  have h3 : ((256 ^ l.length : Nat) : Int) ≤ ((18446744073709551616 : Nat) : Int) := Int.ofNat_le.2 h2
  rw [Int.natCast_pow] at h3
  have h4 : (256 : Int) ^ l.length ≤ 18446744073709551616 := h3
  exact ⟨this.1, by omega⟩
theorem take_calls {l : List Int} (hb : Bytes l) (hl : l.length < 140737488355328) : stamp_Take.f 40 l = some (takeS l) := by
  unfold stamp_Take.f takeS
  by_cases c1 : l.length < 16
  · rw [if_pos (by omega), if_pos c1]
  by_cases c2 : l.length > 16
  · rw [if_neg (by omega), if_pos (by omega), if_neg c1, if_pos c2]
  obtain ⟨e1, e2⟩ := gets (l := l) (by omega)
  rw [if_neg (by omega), if_neg (by omega), if_neg c1, if_neg c2, get_calls 40 (by omega) hb hl, e1, get_calls 40 (by omega) hb hl, e2]
  simp only [Option.bind_some]
  rw [back_calls (gv_u64 (fun c h => hb c (List.mem_of_mem_take h)) (by rw [List.length_take]; omega)), back_calls (gv_u64 (fun c h => hb c (List.mem_of_mem_drop h)) (by rw [List.length_drop]; omega))]
  rfl
theorem refTake_calls {l : List Int} (hb : Bytes l) (hl : l.length < 140737488355328) : antipoderef6_Take.f 40 l = some (takeS l) := by
  unfold antipoderef6_Take.f takeS
  by_cases c1 : l.length < 16
  · rw [if_pos (by omega), if_pos c1]
  by_cases c2 : l.length > 16
  · rw [if_neg (by omega), if_pos (by omega), if_neg c1, if_pos c2]
  obtain ⟨e1, e2⟩ := gets (l := l) (by omega)
  rw [if_neg (by omega), if_neg (by omega), if_neg c1, if_neg c2, refGet_calls 40 (by omega) hb hl, e1, refGet_calls 40 (by omega) hb hl, e2]
  simp only [Option.bind_some]
  rw [back_ref (gv_u64 (fun c h => hb c (List.mem_of_mem_take h)) (by rw [List.length_take]; omega)), back_ref (gv_u64 (fun c h => hb c (List.mem_of_mem_drop h)) (by rw [List.length_drop]; omega))]
  rfl
theorem reads_walk (a0 : Option Addr) (len0 cap0 : Nat) (z0 : List Int) (w : World) (w0 : (a0 = none ∧ len0 = 0 ∧ cap0 = 0 ∧ z0 = []) ∨ ∃ x, a0 = some x ∧ len0 ≤ cap0 ∧ cap0 ≤ maxLen ∧ z0.length = cap0 ∧ (∀ i, i < z0.length → w.cell? (x.add i) = some (.int .u8 (z0.getD i 0))) ∧ ∀ n ∈ z0, (Lit.int .u8 n).wf = true) :
    Calls Try.prog 8 #[.slice a0 len0 cap0] w fun e w' => e = .returned (.bool true) ∧ Below w.heap.size w w' := by
  obtain ⟨l0, rfl, hr0, hm0, hw0, hc0⟩ := ReadsInt.ofRowC w0
  have hC := Kd.C_of_reads (d := (0 : Int)) (h1 := fun _ => rfl) hr0
  have hb := bytes_of_wf hw0
  by_cases hm : l0.length ≤ 100
  · exact reads_near 40 a0 cap0 l0 w hC hc0 ⟨begun_reads⟩ _ _ _ hm ⟨take_calls hb (by omega)⟩ ⟨refTake_calls hb (by omega)⟩
  · exact reads_far 40 a0 cap0 l0 w hC hc0 ⟨begun_reads⟩ (by omega)
end Go.Proofs.Ytloonjdkiafafaa.LawWalk
