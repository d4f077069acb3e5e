/- What the document's own Put, as printed, comes to: the same as the program's. Under the bounds that it states. -/
import Derived.Test.YtjfgapaohldbkaaZQAx13
import Derived.Test.YtjfgapaohldbkaaZQAPutSpec
import Derived.Test.YtjfgapaohldbkaaZLex
namespace Go.Proofs.Ytjfgapaohldbkaa.QAPutSpec
open Go.RowKit Go.Proofs.Ytjfgapaohldbkaa.QA Go.Proofs.YtjfgapaohldbkaaW.PrintWords Go.Proofs.YtjfgapaohldbkaaW.PrintLast Go.Proofs.YtjfgapaohldbkaaW.PrintMore Go.Proofs.Ytjfgapaohldbkaa.Facts Go.Proofs.Ytjfgapaohldbkaa.Codec Go.Proofs.Ytjfgapaohldbkaa.Lex
theorem ref_loop (l : List Int) (hl : l.length + 8 < 140737488355328) (m : Nat) : ∀ (k : Nat) (v : Int) (s : List Int), m + s.length ≤ 8 → m < k → U64 v →
  antipoderef1_Put.l0 k l v (List.replicate m 0 ++ s) ((m : Int) - 1) = some (if 256 ^ m ≤ v then ([], 5) else (l ++ (be m v ++ s), 0)) := by
 induction m with
 | zero =>
  intro k v s h8 hk hv
  obtain ⟨k, rfl⟩ : ∃ j, k = j + 1 := ⟨k - 1, by omega⟩
  simp only [antipoderef1_Put.l0, List.replicate_zero, List.nil_append, be, Int.pow_zero]
  rw [if_neg (by omega)]
  have := hv.1
  by_cases c : v > 0
  ·rw [if_pos c, if_pos (by omega)]
  ·rw [if_neg c, if_neg (by omega)]
   refine bind_to rfl ?_
   rw [if_pos (by simp only [List.length_nil]; omega)]
   refine bind_to rfl ?_
   rw [if_pos (by rw [List.nil_append]; omega), List.nil_append]
 | succ m ih =>
  intro k v s h8 hk hv
  obtain ⟨k, rfl⟩ : ∃ j, k = j + 1 := ⟨k - 1, by omega⟩
  have h0 := hv.1
  have h1 := hv.2
  simp only [antipoderef1_Put.l0]
  rw [show ((m + 1 : Nat) : Int) - 1 = (m : Int) by omega, if_pos (by omega), if_pos (by omega), if_pos (by simp; omega), Int.tdiv_eq_ediv_of_nonneg h0, Int.tmod_eq_emod_of_nonneg h0,
   u64w_id (by omega) (by omega), w64_id (x := (m : Int) - 1) (by omega) (by omega), Int.toNat_natCast]
  have e1 : (List.replicate (m + 1) (0 : Int) ++ s).set m (v % 256 % 256) = List.replicate m 0 ++ (v % 256 :: s) := by
   rw [List.replicate_succ', List.append_assoc, List.set_append_right _ _ (by simp)]
   simp
  have hv2 : U64 (v / 256) := ⟨by omega, by omega⟩
  rw [e1, ih k (v / 256) (v % 256 :: s) (by simp only [List.length_cons]; omega) (by omega) hv2]
  have e2 : (256 ^ m ≤ v / 256) ↔ (256 : Int) ^ (m + 1) ≤ v := by
   rw [Int.pow_succ, Int.le_ediv_iff_mul_le (by omega)]
  have e3 : be m (v / 256) ++ v % 256 :: s = be (m + 1) v ++ s := by rw [be_snoc m v h0, List.append_assoc]; rfl
  rw [e3]
  by_cases c : (256 : Int) ^ (m + 1) ≤ v
  ·rw [if_pos c, if_pos (e2.2 c)]
  ·rw [if_neg c, if_neg (fun h => c (e2.1 h))]
theorem refPut_calls (k : Nat) {l : List Int} {v n : Int} (hk : 12 ≤ k) (hv : U64 v) (hl : l.length + 8 < 140737488355328) : antipoderef1_Put.f k l v n = some (putS l v n) := by
 obtain ⟨k, rfl⟩ : ∃ m, k = m + 1 := ⟨k - 1, by omega⟩
 unfold antipoderef1_Put.f putS
 simp only [antipoderef1_Put.j0]
 by_cases c1 : n < 1
 ·rw [if_pos c1, if_pos trivial, if_pos (.inl c1)]
 by_cases c2 : n > 8
 ·rw [if_neg c1, decide_eq_true c2, if_pos rfl, if_pos (.inr c2)]
 obtain ⟨m, rfl⟩ := Int.eq_ofNat_of_zero_le (show 0 ≤ n by omega)
 rw [if_neg c1, decide_eq_false c2, if_neg (by decide), if_neg (show ¬ ((m : Int) < 1 ∨ (m : Int) > 8) by omega), if_pos (by omega), Int.toNat_natCast, if_pos (by omega), w64_id (by omega) (by omega)]
 have := ref_loop l hl m k v [] (by simp; omega) (by omega) hv
 rw [List.append_nil, List.append_nil] at this
 exact this
end Go.Proofs.Ytjfgapaohldbkaa.QAPutSpec

