/- The document's own Decode, as printed, says the same events; and what the comparisons of events come to. Conditions: bytes from 0 to 255. -/
import Derived.Test.YtpoejopnjkcdpaaZQAx10
import Derived.Test.YtpoejopnjkcdpaaZScriptSt
namespace Go.Proofs.Ytpoejopnjkcdpaa.St
set_option linter.unusedSimpArgs false
set_option linter.unusedVariables false
open Go.RowKit Go.Proofs.Ytpoejopnjkcdpaa.QA Go.Proofs.YtpoejopnjkcdpaaW.PrintWords Go.Proofs.YtpoejopnjkcdpaaW.PrintLast Go.Proofs.YtpoejopnjkcdpaaW.PrintMore Go.Proofs.Ytpoejopnjkcdpaa.Facts Go.Proofs.Ytpoejopnjkcdpaa.Codec
theorem rd_0 (c : Int) (t : List Int) : rd (c :: t) 0 = c := rfl
theorem rd_1 (c d : Int) (t : List Int) : rd (c :: d :: t) 1 = d := rfl
theorem rd_2 (c d e : Int) (t : List Int) : rd (c :: d :: e :: t) 2 = e := rfl
theorem rd_3 (c d e f : Int) (t : List Int) : rd (c :: d :: e :: f :: t) 3 = f := rfl
theorem rd_4 (c d e f g : Int) (t : List Int) : rd (c :: d :: e :: f :: g :: t) 4 = g := rfl
theorem wb {x : Int} (h : 0 ≤ x ∧ x < 256) : wrap64 x = x := w64_id (by omega) (by omega)
def lg : List Int → Int
  | [] => 0
  | c :: t => if c % 16 = 4 then 4 else if 5 ≤ c % 16 ∧ c % 16 ≤ 9 then 2 else if c % 16 = 10 then (match t with | x :: m :: r => 3 + m | _ => 0) else if c % 16 = 11 then 4 else if c % 16 = 13 then 3 else if c % 16 = 14 then 5 else if c % 16 = 15 then 1 else 2
theorem long_lg (k : Nat) (l : List Int) (hb : Bytes l) (hl : l ≠ []) : antipoderef29_long.f (k + 1) l = some (lg l) := by
  cases l with
  | nil => exact absurd rfl hl
  | cons c t =>
    have hc := hb c List.mem_cons_self
    have ht1 : Int.tmod c 16 = c % 16 := tmod_pos hc.1
    have ht : ∀ x ∈ t, 0 ≤ x ∧ x < 256 := fun x hx => hb x (List.mem_cons_of_mem _ hx)
    unfold antipoderef29_long.f
    rw [if_pos (by simp only [List.length_cons]; omega), rd_0, ht1]
    rcases kinds c with hk | hk | hk | hk | hk | hk | hk | hk | hk | hk | hk | hk | hk | hk | hk | hk
    all_goals first
      | (simp [hk, lg, antipoderef29_long.j0]; done)
      | (rcases t with _ | ⟨x, _ | ⟨m, r⟩⟩
         · simp [hk, lg, antipoderef29_long.j0]
         · simp [hk, lg, antipoderef29_long.j0]
         · have hm := ht m (by simp)
           have h1 : ¬ ((r.length : Int) + 1 + 1 + 1 < 3) := by omega
           have h2 : (2 : Int) < (r.length : Int) + 1 + 1 + 1 := by omega
           simp [hk, lg, antipoderef29_long.j0, h1, h2, rd_2]
           rw [wb hm, w64_id (by omega) (by omega)])
def tup (e : S41) : Int × Int × Int × Int × ByteArray × List Int × Int × Int × Int × Int × Int := (e.f0, e.f1, e.f2, e.f3, e.f4, e.f5, e.f6.f0, e.f6.f1, e.f6.f2, e.f6.f3, e.f6.f4)
theorem one_st (k : Nat) (l : List Int) (n : Int) (hb : Bytes l) (hn : 1 ≤ n ∧ n ≤ 9) : match st l n with
    | none => lg l = 0 ∨ lg l > (l.length : Int)
    | some (e, r) => 1 ≤ lg l ∧ lg l ≤ (l.length : Int) ∧ r = l.drop (lg l).toNat ∧ antipoderef29_one.f (k + 1) (l.take (lg l).toNat) n = some (tup (e.getD z41)) := by
  cases l with
  | nil => exact .inl rfl
  | cons c t =>
    have hc := hb c List.mem_cons_self
    have ht : ∀ x ∈ t, 0 ≤ x ∧ x < 256 := fun x hx => hb x (List.mem_cons_of_mem _ hx)
    have ht1 : Int.tmod c 16 = c % 16 := tmod_pos hc.1
    have hn0 : n ≠ 0 := by omega
    have hmod : ∀ x : Int, 0 ≤ x → x < 256 → wrap64 (Int.tmod x n + 1) = x % n + 1 := fun x h0 h1 => by
      rw [tmod_pos h0]
      have h2 := Int.emod_nonneg x hn0
      have h3 := Int.emod_lt_of_pos x (show 0 < n by omega)
      exact w64_id (by omega) (by omega)
    have hwall : ∀ x y : Int, 0 ≤ x → x < 256 → 0 ≤ y → y < 256 → wrap64 (wrap64 (x * 256) + y) = x * 256 + y := fun x y h0 h1 h2 h3 => by
      rw [w64_id (x := x * 256) (by omega) (by omega), w64_id (by omega) (by omega)]
    by_cases hk10 : c % 16 = 10
    · rcases t with _ | ⟨x, _ | ⟨m, r⟩⟩
      · simp [st, lg, hk10]
      · simp [st, lg, hk10]
      · have hm := ht m (by simp)
        have hx := hmod x (ht x (by simp)).1 (ht x (by simp)).2
        have hwx := wb (ht x (by simp))
        obtain ⟨q, rfl⟩ := Int.eq_ofNat_of_zero_le hm.1
        have e3 : (3 + (q : Int)).toNat = q + 3 := by omega
        have h1 : ¬ (0 : Int) < 0 := by omega
        by_cases hh : (r.length : Int) < (q : Int)
        · simp [st, lg, hk10, hh]
          omega
        · have hq : q ≤ r.length := by omega
          have hl : ((r.take q).length : Int) = q := by rw [List.length_take]; omega
          have hlg : lg (c :: x :: (q : Int) :: r) = 3 + (q : Int) := by simp [lg, hk10]
          have hst : st (c :: x :: (q : Int) :: r) n = some (some ⟨6, x % n + 1, 0, 0, strOfNums (r.take q), [], z39⟩, r.drop q) := by simp [st, hk10, hh]
          rw [hst]
          simp only
          rw [hlg, e3]
          simp only [List.take_succ_cons, List.drop_succ_cons]
          refine ⟨by omega, by simp only [List.length_cons]; omega, trivial, ?_⟩
          have g1 : (0 : Int) < (((c :: x :: (q : Int) :: r.take q).length : Nat) : Int) := by simp only [List.length_cons]; omega
          have g2 : (1 : Int) < (((c :: x :: (q : Int) :: r.take q).length : Nat) : Int) := by simp only [List.length_cons]; omega
          have g3 : (3 : Int) ≤ (((c :: x :: (q : Int) :: r.take q).length : Nat) : Int) := by simp only [List.length_cons]; omega
          unfold antipoderef29_one.f
          rw [if_pos g1, rd_0, ht1, hk10, if_neg (by decide), if_pos g2, if_neg hn0, if_neg (by decide), if_neg (by decide), if_neg (by decide)]
          simp only [antipoderef29_one.j0]
          rw [if_neg (by decide), if_neg (by decide), if_neg (by decide), if_pos trivial, if_pos g3, rd_1, hwx, hx]
          rfl
    rcases kinds c with hk | hk | hk | hk | hk | hk | hk | hk | hk | hk | hk | hk | hk | hk | hk | hk
    all_goals (try (exact absurd hk hk10))
    all_goals
      clear hk10
      rcases t with _ | ⟨x, _ | ⟨y, _ | ⟨z, _ | ⟨v, t⟩⟩⟩⟩
      all_goals (try have hx := hmod x (ht x (by simp)).1 (ht x (by simp)).2)
      all_goals (try have hwx := wb (ht x (by simp)))
      all_goals (try have hwy := wb (ht y (by simp)))
      all_goals (try have hwz := wb (ht z (by simp)))
      all_goals (try have hwv := wb (ht v (by simp)))
      all_goals (try have hw1 := hwall y z (ht y (by simp)).1 (ht y (by simp)).2 (ht z (by simp)).1 (ht z (by simp)).2)
      all_goals (try have hw2 := hwall z v (ht z (by simp)).1 (ht z (by simp)).2 (ht v (by simp)).1 (ht v (by simp)).2)
      all_goals simp [st, lg, hk, antipoderef29_one.f, antipoderef29_one.j0, rd_0, rd_1, rd_2, rd_3, rd_4, ht1, tup, z41, z39, hn0, *]
    all_goals (try omega)
theorem st_pos {l : List Int} {n : Int} {e : S41} {r : List Int} (hn : 1 ≤ n) (h : st l n = some (some e, r)) : e.f0 > 0 := by
  have := (st_told hn h).1
  omega
theorem ref_loop (n : Int) (hn : 1 ≤ n ∧ n ≤ 9) (m : Nat) : ∀ (k : Nat) (l : List Int) (acc : List S41), Bytes l → l.length ≤ m → 2 * l.length + 3 < k → acc.length + l.length < 1000000000 → antipoderef29_Decode.l0 k l n acc = some (acc ++ dec m l n) := by
  induction m with
  | zero =>
    intro k l acc hb hm hk ha
    obtain rfl : l = [] := List.eq_nil_of_length_eq_zero (by omega)
    obtain ⟨k, rfl⟩ : ∃ j, k = j + 1 := ⟨k - 1, by omega⟩
    rw [antipoderef29_Decode.l0, if_neg (by simp), dec, List.append_nil]
  | succ m ih =>
    intro k l acc hb hm hk ha
    obtain ⟨k, rfl⟩ : ∃ j, k = j + 1 + 1 + 1 := ⟨k - 3, by omega⟩
    rw [antipoderef29_Decode.l0, dec]
    by_cases hl : l = []
    · subst hl
      rw [if_neg (by simp)]
      simp [st]
    · have hp : 0 < l.length := List.length_pos_iff.2 hl
      rw [if_pos (by omega)]
      refine bind_to (long_lg (k + 1) l hb hl) ?_
      have ho := one_st k l n hb hn
      rcases hs : st l n with _ | ⟨e, r⟩
      · rw [hs] at ho
        simp only at ho ⊢
        by_cases c1 : lg l = 0
        · rw [if_pos c1, antipoderef29_Decode.j3, if_pos rfl, List.append_nil]
        · rw [if_neg c1, antipoderef29_Decode.j3, decide_eq_true (by omega), if_pos rfl, List.append_nil]
      · rw [hs] at ho
        have hr := st_rest hs
        obtain ⟨g1, g2, g3, g4⟩ := ho
        rw [if_neg (by omega), antipoderef29_Decode.j3, decide_eq_false (by omega), if_neg (show ¬ (false = true) by decide), if_pos (by omega), if_pos (by omega)]
        refine bind_to g4 ?_
        rcases e with _ | e
        · simp only [Option.getD_none, tup, z41]
          refine (if_neg (show ¬ (0 : Int) > 0 by decide)).trans ?_
          rw [← g3]
          exact ih (k + 1) r acc (fun x hx => hb x (hr.2 x hx)) (by omega) (by omega) (by omega)
        · simp only [Option.getD_some, tup]
          refine (if_pos (st_pos hn.1 hs)).trans ?_
          rw [if_pos (by omega), ← g3]
          have h2 := ih (k + 1) r (acc ++ [e]) (fun x hx => hb x (hr.2 x hx)) (by omega) (by omega) (by simp only [List.length_append, List.length_singleton]; omega)
          refine h2.trans ?_
          rw [List.append_assoc]
          rfl
theorem ref_decode (k : Nat) {l : List Int} (a : Int) (hb : Bytes l) (hl : l.length < 900000000) (hk : 2 * l.length + 6 < k) : antipoderef29_Decode.f k l a = some (dec l.length l (nn a)) := by
  obtain ⟨k, rfl⟩ : ∃ j, k = j + 1 + 1 := ⟨k - 2, by omega⟩
  have h := ref_loop (nn a) (nn_range a) l.length k l [] hb (Nat.le_refl _) (by omega) (by simp only [List.length_nil]; omega)
  rw [List.nil_append] at h
  unfold antipoderef29_Decode.f
  unfold nn at h ⊢
  by_cases c1 : a < 1
  · rw [if_pos c1] at h
    rw [if_pos c1, if_pos c1, antipoderef29_Decode.j0, if_pos rfl, antipoderef29_Decode.j1]
    exact h
  · rw [if_neg c1] at h
    rw [if_neg c1, if_neg c1, antipoderef29_Decode.j0]
    by_cases c2 : a > 9
    · rw [if_pos c2] at h
      rw [if_pos c2, decide_eq_true c2, if_pos rfl, antipoderef29_Decode.j1]
      exact h
    · rw [if_neg c2] at h
      rw [if_neg c2, decide_eq_false c2, if_neg (show ¬ (false = true) by decide), antipoderef29_Decode.j1]
      exact h
end Go.Proofs.Ytpoejopnjkcdpaa.St

