/- Bytes that say an event, made again from the event: the program's bytes of an event that any bytes say are none other than bytes that say it; no longer than those. Conditions: bytes from 0 to 255, nine nodes. -/
import Derived.Test.YtpoejopnjkcdpaaZQAx5
import Derived.Test.YtpoejopnjkcdpaaZQAx6
import Derived.Test.YtpoejopnjkcdpaaZScriptSame
namespace Go.Proofs.Ytpoejopnjkcdpaa.St
set_option linter.unusedSimpArgs false
set_option linter.unusedVariables false
open Go.RowKit Go.Proofs.Ytpoejopnjkcdpaa.QA Go.Proofs.YtpoejopnjkcdpaaW.PrintWords Go.Proofs.YtpoejopnjkcdpaaW.PrintLast Go.Proofs.YtpoejopnjkcdpaaW.PrintMore Go.Proofs.Ytpoejopnjkcdpaa.Facts Go.Proofs.Ytpoejopnjkcdpaa.Codec
theorem dec_one {b : List Int} {e : S41} (hs : st b 9 = some (some e, [])) : dec b.length b 9 = [e] := by
 have h := (st_rest hs).1
 obtain ⟨m, hm⟩ : ∃ m, b.length = m + 1 := ⟨b.length - 1, by simp only [List.length_nil] at h; omega⟩
 rw [hm, dec, hs]
 simp only
 cases m <;> rfl
theorem j1_self (e : S41) (b : List Int) (k : Nat) (hk : 300 ≤ k) (hb : Bytes b) (hl : b.length ≤ 260) (hs : st b 9 = some (some e, [])) (h5 : e.f5.length ≤ 2) :
  script_bytes.j1 k b e.f0 e.f1 e.f2 e.f3 e.f4 e.f5 e.f6.f0 e.f6.f1 e.f6.f2 e.f6.f3 e.f6.f4 = some b := by
 obtain ⟨k, rfl⟩ : ∃ j, k = j + 1 := ⟨k - 1, by omega⟩
 rw [script_bytes.j1]
 have hd := prog_decode k 9 hb (by omega) (by omega)
 rw [show nn 9 = 9 from rfl, dec_one hs] at hd
 refine bind_to hd ?_
 rw [if_pos (show ((([e] : List S41).length : Nat) : Int) = 1 from rfl), if_pos (show (0 : Int) < (([e] : List S41).length : Int) by exact Int.one_pos), show rd_T41 [e] 0 = e from rfl]
 refine bind_to (prog_same k e e (by omega) (by omega)) ?_
 rw [sm_self, if_pos rfl]
def Good (e : S41) (b : List Int) : Prop := Bytes b ∧ b.length ≤ 260 ∧ (∀ t, st (b ++ t) 9 = some (some e, t)) ∧ e.f5.length ≤ 2 ∧ ∀ k, 400 ≤ k → script_bytes.f k e.f0 e.f1 e.f2 e.f3 e.f4 e.f5 e.f6.f0 e.f6.f1 e.f6.f2 e.f6.f3 e.f6.f4 = some b
theorem Good.mk {e : S41} {b : List Int} (hb : Bytes b) (hl : b.length ≤ 260) (hs : ∀ t, st (b ++ t) 9 = some (some e, t)) (h5 : e.f5.length ≤ 2)
  (hf : ∀ k, 400 ≤ k → ∃ j, 300 ≤ j ∧ script_bytes.f k e.f0 e.f1 e.f2 e.f3 e.f4 e.f5 e.f6.f0 e.f6.f1 e.f6.f2 e.f6.f3 e.f6.f4 = script_bytes.j1 j b e.f0 e.f1 e.f2 e.f3 e.f4 e.f5 e.f6.f0 e.f6.f1 e.f6.f2 e.f6.f3 e.f6.f4) : Good e b :=
 ⟨hb, hl, hs, h5, fun k hk => by
  obtain ⟨j, hj, h⟩ := hf k hk
  have h0 := hs []
  rw [List.append_nil] at h0
  exact h.trans (j1_self e b j hj hb hl h0 h5)⟩
theorem less_one {x : Int} (hx : 0 ≤ x ∧ x < 9) : wrap64 (x + 1 - 1) % 256 = x := by
 rw [w64_id (by omega) (by omega)]
 omega
theorem good2 (x h v : Int) (hx : 0 ≤ x ∧ x < 9) (hh : 0 ≤ h ∧ h < 256) (hv : 0 ≤ v ∧ v < 256) : Good ⟨2, x + 1, 0, h * 256 + v, noText, [], z39⟩ [4, x, h, v] := by
 refine Good.mk (fun q hq => by simp only [List.mem_cons, List.not_mem_nil, or_false] at hq; omega) (by simp) (fun t => ?_) (by simp) (fun k hk => ⟨k, by omega, ?_⟩)
 ·have h9 : x % 9 = x := by omega
  simp [st, h9]
 ·unfold script_bytes.f
  dsimp only
  simp only [Option.bind_some]
  rw [if_neg (show ¬ ((2 : Int) = 1) by decide), if_pos trivial, if_pos (by simp), less_one hx, show (h * 256 + v) / 256 % 256 = h by omega, show (h * 256 + v) % 256 = v by omega]
  rfl
end Go.Proofs.Ytpoejopnjkcdpaa.St

