/- What the document's own Var, Text, TakeVar, TakeText and Get, as printed, come to: the same plain codec as the program's. Under the bounds that each states. -/
import Derived.Test.YtjfgapaohldbkaaZQAx12
import Derived.Test.YtjfgapaohldbkaaZQAx14
import Derived.Test.YtjfgapaohldbkaaZQAx18
import Derived.Test.YtjfgapaohldbkaaZQAx19
import Derived.Test.YtjfgapaohldbkaaZQASpec
import Derived.Test.YtjfgapaohldbkaaZQAPutSpec
namespace Go.Proofs.Ytjfgapaohldbkaa.QARefSpec
open Go.RowKit Go.Proofs.Ytjfgapaohldbkaa.QA Go.Proofs.YtjfgapaohldbkaaW.PrintWords Go.Proofs.YtjfgapaohldbkaaW.PrintLast Go.Proofs.YtjfgapaohldbkaaW.PrintMore Go.Proofs.Ytjfgapaohldbkaa.Facts Go.Proofs.Ytjfgapaohldbkaa.Codec Go.Proofs.Ytjfgapaohldbkaa.QASpec Go.Proofs.Ytjfgapaohldbkaa.QAPutSpec
theorem refVar_loop (n : Nat) : ∀ (k : Nat) (v : Int) (acc : List Int), n < k → 0 ≤ v → v < 128 ^ (n + 1) → v < 18446744073709551616 → acc.length + n < 140737488355328 → antipoderef1_Var.l0 k v acc = some (acc ++ venc n v) := by
 induction n with
 | zero =>
  intro k v acc hk h0 h1 hu hl
  obtain ⟨k, rfl⟩ : ∃ m, k = m + 1 := ⟨k - 1, by omega⟩
  simp only [antipoderef1_Var.l0, venc]
  rw [if_neg (by omega), if_pos (by omega), show v % 256 = v by omega]
 | succ n ih =>
  intro k v acc hk h0 h1 hu hl
  obtain ⟨k, rfl⟩ : ∃ m, k = m + 1 := ⟨k - 1, by omega⟩
  simp only [antipoderef1_Var.l0, venc]
  by_cases c : v ≥ 128
  ·rw [if_pos c, if_pos (by omega), Int.tdiv_eq_ediv_of_nonneg h0, Int.tmod_eq_emod_of_nonneg h0, u64w_id (by omega) (by omega), show (v % 128 + 128) % 256 = v % 128 + 128 by omega]
   rw [ih k (v / 128) _ (by omega) (by omega) (by rw [Int.pow_succ] at h1; omega) (by omega) (by simp only [List.length_append, List.length_singleton]; omega), List.append_assoc]
   rw [if_neg (by omega)]
   rfl
  ·rw [if_neg c, if_pos (by omega), if_pos (by omega), show v % 256 = v by omega]
theorem refVar_calls (k : Nat) {l : List Int} {v : Int} (hk : 10 ≤ k) (hv : U64 v) (hl : l.length + 10 < 140737488355328) : antipoderef1_Var.f k l v = some (l ++ V v) := by
 unfold antipoderef1_Var.f
 refine bind_to rfl ?_
 rw [if_pos (by simp only [List.length_nil]; omega), List.nil_append]
 exact refVar_loop 9 k v l (by omega) hv.1 (V_lt hv) hv.2 (by omega)
theorem refText_calls (k : Nat) {l s : List Int} (hk : 10 ≤ k) (hl : l.length + s.length + 10 < 140737488355328) : antipoderef1_Text.f k l s = some (l ++ T s) := by
 unfold antipoderef1_Text.f T
 rw [u64w_id (by omega) (by omega)]
 refine bind_to (refVar_calls k hk ⟨by omega, by omega⟩ (by omega)) ?_
 have := V_len (s.length : Int)
 rw [if_pos (by simp only [List.length_append]; omega), List.append_assoc]
end Go.Proofs.Ytjfgapaohldbkaa.QARefSpec

