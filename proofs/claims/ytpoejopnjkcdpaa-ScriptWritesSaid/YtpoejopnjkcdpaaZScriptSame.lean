/- What the comparisons of events, the program's and the document's, come to: the same plain question. Conditions: what each states. -/
import Derived.Test.YtpoejopnjkcdpaaZQAx4
import Derived.Test.YtpoejopnjkcdpaaZQAx8
import Derived.Test.YtpoejopnjkcdpaaZScriptSt
namespace Go.Proofs.Ytpoejopnjkcdpaa.St
set_option linter.unusedSimpArgs false
set_option linter.unusedVariables false
open Go.RowKit Go.Proofs.Ytpoejopnjkcdpaa.QA Go.Proofs.YtpoejopnjkcdpaaW.PrintWords Go.Proofs.YtpoejopnjkcdpaaW.PrintLast Go.Proofs.YtpoejopnjkcdpaaW.PrintMore Go.Proofs.Ytpoejopnjkcdpaa.Facts Go.Proofs.Ytpoejopnjkcdpaa.Codec
def sm (a b : S41) : Bool := decide (a.f0 = b.f0 ∧ a.f1 = b.f1 ∧ a.f2 = b.f2 ∧ a.f3 = b.f3 ∧ a.f4.toList = b.f4.toList ∧ (a.f6.f0 = b.f6.f0 ∧ a.f6.f1 = b.f6.f1 ∧ a.f6.f2 = b.f6.f2 ∧ a.f6.f3 = b.f6.f3 ∧ a.f6.f4 = b.f6.f4) ∧ a.f5 = b.f5)
theorem sm_self (a : S41) : sm a a = true := decide_eq_true ⟨rfl, rfl, rfl, rfl, rfl, ⟨rfl, rfl, rfl, rfl, rfl⟩, rfl⟩
theorem rd_at {l : List Int} {i : Nat} (h : i < l.length) : rd l (i : Int) = l[i] := by
 unfold rd
 rw [Int.toNat_natCast, List.getD_eq_getElem?_getD, List.getElem?_eq_getElem h]
 rfl
theorem drop_eq_iff {a b : List Int} {i : Nat} (ha : i < a.length) (hb : i < b.length) : a.drop i = b.drop i ↔ a[i] = b[i] ∧ a.drop (i + 1) = b.drop (i + 1) := by
 rw [List.drop_eq_getElem_cons ha, List.drop_eq_getElem_cons hb]
 exact ⟨fun h => by injection h with h1 h2; exact ⟨h1, h2⟩, fun h => by rw [h.1, h.2]⟩
theorem equal_loop (a b : List Int) (hl : a.length = b.length) (hm : a.length < 1000000000) (d : Nat) : ∀ (k i : Nat), i + d = a.length → d < k → slices_Equal_int_int.l0 k a b (a.length : Int) (i : Int) = some (decide (a.drop i = b.drop i)) := by
 induction d with
 | zero =>
  intro k i hi hk
  obtain ⟨k, rfl⟩ : ∃ j, k = j + 1 := ⟨k - 1, by omega⟩
  rw [slices_Equal_int_int.l0, if_neg (by omega), List.drop_of_length_le (by omega), List.drop_of_length_le (by omega)]
  rfl
 | succ d ih =>
  intro k i hi hk
  obtain ⟨k, rfl⟩ : ∃ j, k = j + 1 := ⟨k - 1, by omega⟩
  have ha : i < a.length := by omega
  have hb : i < b.length := by omega
  have hw : wrap64 ((i : Int) + 1) = ((i + 1 : Nat) : Int) := by rw [w64_id (by omega) (by omega)]; omega
  rw [slices_Equal_int_int.l0, if_pos (by omega), if_pos (by omega), if_pos (by omega), if_pos (by omega), rd_at ha, rd_at hb, hw, ih k (i + 1) (by omega) (by omega)]
  have h := drop_eq_iff ha hb
  by_cases c : a[i] = b[i]
  ·rw [if_pos c]
   congr 1
   exact decide_eq_decide.2 ⟨fun h2 => h.2 ⟨c, h2⟩, fun h2 => (h.1 h2).2⟩
  ·rw [if_neg c]
   congr 1
   exact (decide_eq_false (fun h2 => c (h.1 h2).1)).symm
theorem equal_ints (k : Nat) (a b : List Int) (hm : a.length < 1000000000) (hk : a.length < k) : slices_Equal_int_int.f k a b = some (decide (a = b)) := by
 unfold slices_Equal_int_int.f
 by_cases c : a.length = b.length
 ·rw [if_pos (by omega)]
  exact equal_loop a b c hm a.length k 0 (by omega) hk
 ·rw [if_neg (by omega)]
  congr 1
  exact (decide_eq_false (fun h => c (by rw [h]))).symm
theorem prog_same (k : Nat) (a b : S41) (hm : a.f5.length < 1000000000) (hk : a.f5.length < k) :
  script_same.f k a.f0 a.f1 a.f2 a.f3 a.f4 a.f5 a.f6.f0 a.f6.f1 a.f6.f2 a.f6.f3 a.f6.f4 b.f0 b.f1 b.f2 b.f3 b.f4 b.f5 b.f6.f0 b.f6.f1 b.f6.f2 b.f6.f3 b.f6.f4 = some (sm a b) := by
 unfold script_same.f sm
 by_cases c0 : a.f0 = b.f0
 ·by_cases c1 : a.f1 = b.f1
  ·by_cases c2 : a.f2 = b.f2
   ·by_cases c3 : a.f3 = b.f3
    ·by_cases c4 : a.f4.toList = b.f4.toList
     ·by_cases c6 : a.f6.f0 = b.f6.f0 ∧ a.f6.f1 = b.f6.f1 ∧ a.f6.f2 = b.f6.f2 ∧ a.f6.f3 = b.f6.f3 ∧ a.f6.f4 = b.f6.f4
      ·rw [if_pos c0, if_pos c1, if_pos c2, if_pos c3, if_pos c4, if_pos (by simp [c6]), equal_ints k _ _ hm hk]
       simp [c0, c1, c2, c3, c4, c6]
      ·rw [if_pos c0, if_pos c1, if_pos c2, if_pos c3, if_pos c4, if_neg (by simpa using c6)]
       simp [c6]
     ·rw [if_pos c0, if_pos c1, if_pos c2, if_pos c3, if_neg c4]; simp [c4]
    ·rw [if_pos c0, if_pos c1, if_pos c2, if_neg c3]; simp [c3]
   ·rw [if_pos c0, if_pos c1, if_neg c2]; simp [c2]
  ·rw [if_pos c0, if_neg c1]; simp [c1]
 ·rw [if_neg c0]; simp [c0]
theorem refsame_loop (a b : S41) (hl : a.f5.length = b.f5.length) (hm : a.f5.length < 1000000000) (d : Nat) : ∀ (k i : Nat), i + d = a.f5.length → d < k →
  antipoderef29_Same.l0 k (i : Int) a.f0 a.f1 a.f2 a.f3 a.f4 a.f5 a.f6.f0 a.f6.f1 a.f6.f2 a.f6.f3 a.f6.f4 b.f0 b.f1 b.f2 b.f3 b.f4 b.f5 b.f6.f0 b.f6.f1 b.f6.f2 b.f6.f3 b.f6.f4 = some (decide (a.f5.drop i = b.f5.drop i)) := by
 induction d with
 | zero =>
  intro k i hi hk
  obtain ⟨k, rfl⟩ : ∃ j, k = j + 1 := ⟨k - 1, by omega⟩
  rw [antipoderef29_Same.l0, if_neg (by omega), List.drop_of_length_le (by omega), List.drop_of_length_le (by omega)]
  rfl
 | succ d ih =>
  intro k i hi hk
  obtain ⟨k, rfl⟩ : ∃ j, k = j + 1 := ⟨k - 1, by omega⟩
  have ha : i < a.f5.length := by omega
  have hb : i < b.f5.length := by omega
  have hw : wrap64 ((i : Int) + 1) = ((i + 1 : Nat) : Int) := by rw [w64_id (by omega) (by omega)]; omega
  rw [antipoderef29_Same.l0, if_pos (by omega), if_pos (by omega), if_pos (by omega), rd_at ha, rd_at hb, hw, ih k (i + 1) (by omega) (by omega)]
  have h := drop_eq_iff ha hb
  by_cases c : a.f5[i] = b.f5[i]
  ·rw [if_pos c]
   congr 1
   exact decide_eq_decide.2 ⟨fun h2 => h.2 ⟨c, h2⟩, fun h2 => (h.1 h2).2⟩
  ·rw [if_neg c]
   congr 1
   exact (decide_eq_false (fun h2 => c (h.1 h2).1)).symm
theorem ref_same (k : Nat) (a b : S41) (hm : a.f5.length < 1000000000) (hk : a.f5.length + 1 < k) :
  antipoderef29_Same.f k a.f0 a.f1 a.f2 a.f3 a.f4 a.f5 a.f6.f0 a.f6.f1 a.f6.f2 a.f6.f3 a.f6.f4 b.f0 b.f1 b.f2 b.f3 b.f4 b.f5 b.f6.f0 b.f6.f1 b.f6.f2 b.f6.f3 b.f6.f4 = some (sm a b) := by
 obtain ⟨k, rfl⟩ : ∃ j, k = j + 1 := ⟨k - 1, by omega⟩
 unfold antipoderef29_Same.f sm
 simp only [antipoderef29_Same.j0, if_true]
 by_cases c0 : a.f0 = b.f0
 ·by_cases c1 : a.f1 = b.f1
  ·by_cases c2 : a.f2 = b.f2
   ·by_cases c3 : a.f3 = b.f3
    ·by_cases c4 : a.f4.toList = b.f4.toList
     ·by_cases c6 : a.f6.f0 = b.f6.f0 ∧ a.f6.f1 = b.f6.f1 ∧ a.f6.f2 = b.f6.f2 ∧ a.f6.f3 = b.f6.f3 ∧ a.f6.f4 = b.f6.f4
      ·rw [if_pos c0, if_pos c1, if_pos c2, if_pos c3, if_pos c4, if_neg (by simp [c6])]
       by_cases c5 : a.f5.length = b.f5.length
       ·rw [if_neg (by simp [c5])]
        have := refsame_loop a b c5 hm a.f5.length k 0 (by omega) (by omega)
        rw [show ((0 : Nat) : Int) = 0 from rfl] at this
        rw [this]
        simp [c0, c1, c2, c3, c4, c6]
       ·rw [if_pos (by simp; omega)]
        have c7 : ¬ a.f5 = b.f5 := fun h => c5 (by rw [h])
        simp [c7]
      ·rw [if_pos c0, if_pos c1, if_pos c2, if_pos c3, if_pos c4, if_pos (by simp; omega)]
       simp [c6]
     ·rw [if_pos c0, if_pos c1, if_pos c2, if_pos c3, if_neg c4]; simp [c4]
    ·rw [if_pos c0, if_pos c1, if_pos c2, if_neg c3]; simp [c3]
   ·rw [if_pos c0, if_pos c1, if_neg c2]; simp [c2]
  ·rw [if_pos c0, if_neg c1]; simp [c1]
 ·rw [if_neg c0]; simp [c0]
theorem ev_at {L : List S41} {i : Nat} (h : i < L.length) : rd_T41 L (i : Int) = L[i] := by
 unfold rd_T41
 rw [Int.toNat_natCast, List.getD_eq_getElem?_getD, List.getElem?_eq_getElem h]
 rfl
theorem st_keep {l : List Int} {n : Int} {e : S41} {r : List Int} (h : st l n = some (some e, r)) : e.f5.length ≤ 2 := by
 cases l with
 | nil => cases h
 | cons c t =>
  rcases kinds c with hk | hk | hk | hk | hk | hk | hk | hk | hk | hk | hk | hk | hk | hk | hk | hk
  all_goals
   rcases t with _ | ⟨x, _ | ⟨y, _ | ⟨z, _ | ⟨v, t⟩⟩⟩⟩
   all_goals simp [st, hk] at h
   all_goals first
    | (obtain ⟨rfl, rfl⟩ := h; simp; done)
    | (obtain ⟨h1, rfl, rfl⟩ := h; simp; done)
theorem dec_keep (n : Int) (m : Nat) : ∀ l : List Int, ∀ e ∈ dec m l n, e.f5.length ≤ 2 := by
 induction m with
 | zero => intro l e he; cases he
 | succ m ih =>
  intro l e he
  rw [dec] at he
  rcases hs : st l n with _ | ⟨_ | x, r⟩
  ·rw [hs] at he; cases he
  ·rw [hs] at he
   exact ih r e he
  ·rw [hs] at he
   rcases List.mem_cons.1 he with rfl | he
   ·exact st_keep hs
   ·exact ih r e he
end Go.Proofs.Ytpoejopnjkcdpaa.St

