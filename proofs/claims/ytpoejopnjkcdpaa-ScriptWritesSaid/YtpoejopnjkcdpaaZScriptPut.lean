/- ScriptWrites, the plain law: the program and the document make the same bytes of any events. Conditions: each number of its kind, no text over 1000, no row over 10. -/
import Derived.Test.YtpoejopnjkcdpaaZQAx14
import Derived.Test.YtpoejopnjkcdpaaZScriptRaw
import Derived.Test.YtpoejopnjkcdpaaZScriptRefDec
import Derived.Test.YtpoejopnjkcdpaaZOpenEv
import Derived.Test.YtpoejopnjkcdpaaZLex
namespace Go.Proofs.Ytpoejopnjkcdpaa.St
set_option linter.unusedSimpArgs false
set_option linter.unusedVariables false
open Go.RowKit Go.Proofs.Ytpoejopnjkcdpaa.QA Go.Proofs.YtpoejopnjkcdpaaW.PrintWords Go.Proofs.YtpoejopnjkcdpaaW.PrintLast Go.Proofs.YtpoejopnjkcdpaaW.PrintMore Go.Proofs.Ytpoejopnjkcdpaa.Facts Go.Proofs.Ytpoejopnjkcdpaa.Codec Go.Proofs.Ytpoejopnjkcdpaa.Opens
theorem str_size (l : List Int) : (strOfNums l).size = l.length := strOfNums_size l
def Ok (e : S41) : Prop := 0 ≤ e.f3 ∧ e.f4.size ≤ 255 ∧ (e.f0 = 7 → ∃ y z, e.f5 = [y, z] ∧ (0 ≤ y ∧ y < 256) ∧ (0 ≤ z ∧ z < 256))
theorem st_ok {l : List Int} {n : Int} {e : S41} {r : List Int} (hb : Bytes l) (h : st l n = some (some e, r)) : Ok e := by
  cases l with
  | nil => cases h
  | cons c t =>
    have ht : ∀ x ∈ t, 0 ≤ x ∧ x < 256 := fun x hx => hb x (List.mem_cons_of_mem _ hx)
    have h0 : (noText : ByteArray).size = 0 := rfl
    rcases kinds c with hk | hk | hk | hk | hk | hk | hk | hk | hk | hk | hk | hk | hk | hk | hk | hk
    all_goals
      rcases t with _ | ⟨x, _ | ⟨y, _ | ⟨z, _ | ⟨v, t⟩⟩⟩⟩
      all_goals (try have hx := ht x (by simp))
      all_goals (try have hy := ht y (by simp))
      all_goals (try have hz := ht z (by simp))
      all_goals (try have hv := ht v (by simp))
      all_goals simp [st, hk] at h
      all_goals first
        | (obtain ⟨rfl, rfl⟩ := h
           refine ⟨by first | exact Int.le_refl 0 | (dsimp only; omega), Nat.zero_le _, fun h7 => ?_⟩
           first | exact absurd h7 (by dsimp only; decide) | exact ⟨_, _, rfl, hy, hz⟩)
        | (obtain ⟨h1, rfl, rfl⟩ := h
           refine ⟨Int.le_refl 0, ?_, fun h7 => absurd h7 (by dsimp only; decide)⟩
           dsimp only
           rw [str_size]
           first | (rw [List.length_take]; omega) | exact Nat.zero_le _)
theorem dec_ok (n : Int) (m : Nat) : ∀ l : List Int, Bytes l → ∀ e ∈ dec m l n, Ok e := by
  induction m with
  | zero => intro l _ e he; cases he
  | succ m ih =>
    intro l hb e he
    rw [dec] at he
    rcases hs : st l n with _ | ⟨_ | x, r⟩
    · rw [hs] at he; cases he
    · rw [hs] at he
      exact ih r (fun x hx => hb x ((st_rest hs).2 x hx)) e he
    · rw [hs] at he
      rcases List.mem_cons.1 he with rfl | he
      · exact st_ok hb hs
      · exact ih r (fun x hx => hb x ((st_rest hs).2 x hx)) e he
def chk (y : List Int) (e : S41) : Bool := match dec y.length y 9 with
  | [x] => sm x e
  | _ => false
theorem chk_ok {y : List Int} {e : S41} (hb : Bytes y) (h : chk y e = true) : Ok e := by
  unfold chk at h
  rcases hL : dec y.length y 9 with _ | ⟨x, _ | ⟨x2, t⟩⟩
  · rw [hL] at h; cases h
  · rw [hL] at h
    obtain ⟨h0, h1, h2, h3, h4, h6, h5⟩ := of_decide_eq_true h
    have hx := dec_ok 9 y.length y hb x (by rw [hL]; exact List.mem_cons_self)
    obtain ⟨g1, g2, g3⟩ := hx
    refine ⟨h3 ▸ g1, ?_, fun h7 => h5 ▸ g3 (h0.trans h7)⟩
    rw [Lib.toList_data, Lib.toList_data] at h4
    rw [← data_length, ← h4, data_length]
    exact g2
  · rw [hL] at h; cases h
theorem chk_not {y : List Int} {e : S41} (hb : Bytes y) (h : ¬ Ok e) : chk y e = false := by
  cases hc : chk y e with
  | false => rfl
  | true => exact absurd (chk_ok hb hc) h
theorem j1_chk (e : S41) (b : List Int) (k : Nat) (hk : 2000 ≤ k) (hb : Bytes b) (hl : b.length ≤ 1100) :
    script_bytes.j1 k b e.f0 e.f1 e.f2 e.f3 e.f4 e.f5 e.f6.f0 e.f6.f1 e.f6.f2 e.f6.f3 e.f6.f4 = some (if chk b e = true then b else []) := by
  obtain ⟨k, rfl⟩ : ∃ j, k = j + 1 := ⟨k - 1, by omega⟩
  rw [script_bytes.j1]
  have hd := prog_decode k 9 hb (by omega) (by omega)
  have h9 : nn 9 = 9 := rfl
  rw [h9] at hd
  have h5 := dec_keep 9 b.length b
  refine bind_to hd ?_
  unfold chk
  rcases hL : dec b.length b 9 with _ | ⟨x, _ | ⟨x2, t⟩⟩
  · rw [if_neg (by simp)]; rfl
  · rw [if_pos (show ((([x] : List S41).length : Nat) : Int) = 1 from rfl), if_pos (show (0 : Int) < (([x] : List S41).length : Int) by exact Int.one_pos), show rd_T41 [x] 0 = x from rfl]
    have h6 := h5 x (by rw [hL]; exact List.mem_cons_self)
    refine bind_to (prog_same k x e (by omega) (by omega)) ?_
    show (if sm x e = true then some b else some []) = some (if sm x e = true then b else [])
    cases sm x e <;> rfl
  · rw [if_neg (by simp only [List.length_cons]; omega)]; rfl
theorem j2_chk (e : S41) (b : List Int) (k : Nat) (hk : 2900 ≤ k) (hb : Bytes b) (hl : b.length ≤ 1100) :
    antipoderef29_bytes.j2 k b e.f0 e.f1 e.f2 e.f3 e.f4 e.f5 e.f6.f0 e.f6.f1 e.f6.f2 e.f6.f3 e.f6.f4 = some (b, chk b e) := by
  obtain ⟨k, rfl⟩ : ∃ j, k = j + 1 := ⟨k - 1, by omega⟩
  rw [antipoderef29_bytes.j2]
  have hd := ref_decode k 9 hb (by omega) (by omega)
  have h9 : nn 9 = 9 := rfl
  rw [h9] at hd
  have h5 := dec_keep 9 b.length b
  refine bind_to hd ?_
  unfold chk
  rcases hL : dec b.length b 9 with _ | ⟨x, _ | ⟨x2, t⟩⟩
  · rw [if_neg (by simp)]
  · rw [if_pos (show ((([x] : List S41).length : Nat) : Int) = 1 from rfl), if_pos (show (0 : Int) < (([x] : List S41).length : Int) by exact Int.one_pos), show rd_T41 [x] 0 = x from rfl]
    have h6 := h5 x (by rw [hL]; exact List.mem_cons_self)
    refine bind_to (ref_same k x e (by omega) (by omega)) ?_
    rfl
  · rw [if_neg (by simp only [List.length_cons]; omega)]
theorem bytes_of (s : ByteArray) : Bytes (bytesOf s) := fun c hc => by
  unfold bytesOf at hc
  obtain ⟨b, _, rfl⟩ := List.mem_map.1 hc
  have := b.toNat_lt
  omega
theorem keep_all (e : S41) (hm : e.f5.length ≤ 10) (d : Nat) : ∀ (k i : Nat) (acc : List Int), i + d = e.f5.length → acc.length + d ≤ 100 → d + 2000 < k →
    script_bytes.l0 k acc e.f5 (e.f5.length : Int) (i : Int) e.f0 e.f1 e.f2 e.f3 e.f4 e.f5 e.f6.f0 e.f6.f1 e.f6.f2 e.f6.f3 e.f6.f4 = script_bytes.j1 (k - d - 1) (acc ++ (e.f5.drop i).map (· % 256)) e.f0 e.f1 e.f2 e.f3 e.f4 e.f5 e.f6.f0 e.f6.f1 e.f6.f2 e.f6.f3 e.f6.f4 := by
  induction d with
  | zero =>
    intro k i acc hi ha hk
    obtain ⟨k, rfl⟩ : ∃ j, k = j + 1 := ⟨k - 1, by omega⟩
    rw [script_bytes.l0, if_neg (by omega), List.drop_of_length_le (by omega), List.map_nil, List.append_nil]
    rfl
  | succ d ih =>
    intro k i acc hi ha hk
    obtain ⟨k, rfl⟩ : ∃ j, k = j + 1 := ⟨k - 1, by omega⟩
    have hlt : i < e.f5.length := by omega
    have hw : wrap64 ((i : Int) + 1) = ((i + 1 : Nat) : Int) := by rw [w64_id (by omega) (by omega)]; omega
    rw [script_bytes.l0, if_pos (by omega), if_pos (by omega), if_pos (by omega), if_pos (by omega), hw, rd_at hlt, ih k (i + 1) _ (by omega) (by simp only [List.length_append, List.length_singleton]; omega) (by omega), List.append_assoc, List.drop_eq_getElem_cons hlt, List.map_cons, show k + 1 - (d + 1) - 1 = k - d - 1 by omega]
    rfl
theorem wall_div {v : Int} (h : In64 v) (h0 : 0 ≤ v) : wrap64 (Int.tdiv v 256) % 256 = v / 256 % 256 := by
  rw [Int.tdiv_eq_ediv_of_nonneg h0, w64_id (by unfold In64 at h; omega) (by unfold In64 at h; omega)]
theorem wall_mod {v : Int} (h0 : 0 ≤ v) : Int.tmod v 256 % 256 = v % 256 := by
  rw [Int.tmod_eq_emod_of_nonneg h0]
  omega
theorem small_f (x : Int) : antipoderef29_small.f x 255 = some (decide (0 ≤ x ∧ x < 256)) := by
  unfold antipoderef29_small.f
  by_cases h : x ≥ 0
  · rw [if_pos h]
    congr 1
    exact decide_eq_decide.2 ⟨fun h2 => ⟨h, by omega⟩, fun h2 => by omega⟩
  · rw [if_neg h]
    congr 1
    exact (decide_eq_false (by omega)).symm
def Both (k : Nat) (e : S41) (y : List Int) (b : Bool) : Prop :=
  antipoderef29_bytes.f k e.f0 e.f1 e.f2 e.f3 e.f4 e.f5 e.f6.f0 e.f6.f1 e.f6.f2 e.f6.f3 e.f6.f4 = some (y, b) ∧ script_bytes.f k e.f0 e.f1 e.f2 e.f3 e.f4 e.f5 e.f6.f0 e.f6.f1 e.f6.f2 e.f6.f3 e.f6.f4 = some (if b = true then y else []) ∧ y.length ≤ 1100
theorem both (e : S41) (he : EvOk e) (ht : e.f4.size ≤ 1000) (h5 : e.f5.length ≤ 10) (k : Nat) (hk : 3000 ≤ k) : ∃ y b, Both k e y b := by
  have hm (x : Int) : 0 ≤ x % 256 ∧ x % 256 < 256 := by omega
  by_cases c1 : e.f0 = 1
  · refine ⟨[0, wrap64 (e.f1 - 1) % 256], chk [0, wrap64 (e.f1 - 1) % 256] e, ?_, ?_, ?_⟩
    · unfold antipoderef29_bytes.f
      rw [if_pos c1]
      exact j2_chk e _ k (by omega) (fun q hq => by simp only [List.mem_cons, List.not_mem_nil, or_false] at hq; omega) (by simp)
    · unfold script_bytes.f
      simp only [Option.bind_some]
      rw [if_pos c1]
      exact j1_chk e _ k (by omega) (fun q hq => by simp only [List.mem_cons, List.not_mem_nil, or_false] at hq; omega) (by simp)
    · simp
  by_cases c2 : e.f0 = 2
  · by_cases hw : 0 ≤ e.f3
    · refine ⟨[4, wrap64 (e.f1 - 1) % 256, e.f3 / 256 % 256, e.f3 % 256], chk [4, wrap64 (e.f1 - 1) % 256, e.f3 / 256 % 256, e.f3 % 256] e, ?_, ?_, by simp⟩
      · unfold antipoderef29_bytes.f
        rw [if_neg c1, if_pos c2, wall_div he.2.2.2.1 hw, wall_mod hw]
        exact j2_chk e _ k (by omega) (fun q hq => by simp only [List.mem_cons, List.not_mem_nil, or_false] at hq; omega) (by simp)
      · unfold script_bytes.f
        simp only [Option.bind_some]
        rw [if_neg c1, if_pos c2, if_pos (by simp)]
        exact j1_chk e _ k (by omega) (fun q hq => by simp only [List.mem_cons, List.not_mem_nil, or_false, List.mem_append] at hq; omega) (by simp)
    · have hn : ¬ Ok e := fun h => hw h.1
      refine ⟨[4, wrap64 (e.f1 - 1) % 256, wrap64 (Int.tdiv e.f3 256) % 256, Int.tmod e.f3 256 % 256], false, ?_, ?_, ?_⟩
      · unfold antipoderef29_bytes.f
        rw [if_neg c1, if_pos c2]
        refine (j2_chk e _ k (by omega) ?_ (by simp)).trans ?_
        · intro q hq
          simp only [List.mem_cons, List.not_mem_nil, or_false] at hq
          rcases hq with rfl | rfl | rfl | rfl
          · omega
          all_goals exact hm _
        · rw [chk_not (fun q hq => by
            simp only [List.mem_cons, List.not_mem_nil, or_false] at hq
            rcases hq with rfl | rfl | rfl | rfl
            · omega
            all_goals exact hm _) hn]
      · unfold script_bytes.f
        simp only [Option.bind_some]
        rw [if_neg c1, if_pos c2, if_pos (by simp)]
        have hbs : Bytes ([4, wrap64 (e.f1 - 1) % 256] ++ [e.f3 / 256 % 256, e.f3 % 256]) := fun q hq => by simp only [List.mem_cons, List.not_mem_nil, or_false, List.mem_append] at hq; omega
        refine (j1_chk e _ k (by omega) hbs (by simp)).trans ?_
        rw [chk_not hbs hn]
        rfl
      · simp
  by_cases c3 : e.f0 = 3
  · obtain ⟨k, rfl⟩ : ∃ j, k = j + 1 := ⟨k - 1, by omega⟩
    have hbs : Bytes [5, e.f2 % 256] := fun q hq => by simp only [List.mem_cons, List.not_mem_nil, or_false] at hq; omega
    refine ⟨[5, e.f2 % 256], chk [5, e.f2 % 256] e, ?_, ?_, by simp⟩
    · unfold antipoderef29_bytes.f
      rw [if_neg c1, if_neg c2, if_pos c3, antipoderef29_bytes.j0, if_pos (by simp [c3])]
      simp only [Option.bind_some]
      rw [show wrap64 (e.f0 - 3) = 0 by rw [c3, w64_id (by omega) (by omega)]; rfl, if_pos (by omega), if_pos (by exact Int.ofNat_lt.2 (by decide : 0 < 3))]
      exact j2_chk e _ k (by omega) hbs (by simp)
    · unfold script_bytes.f
      simp only [Option.bind_some]
      rw [if_neg c1, if_neg c2, if_pos c3]
      exact j1_chk e _ (k + 1) (by omega) hbs (by simp)
  by_cases c4 : e.f0 = 4
  · obtain ⟨k, rfl⟩ : ∃ j, k = j + 1 := ⟨k - 1, by omega⟩
    have hbs : Bytes [8, e.f2 % 256] := fun q hq => by simp only [List.mem_cons, List.not_mem_nil, or_false] at hq; omega
    refine ⟨[8, e.f2 % 256], chk [8, e.f2 % 256] e, ?_, ?_, by simp⟩
    · unfold antipoderef29_bytes.f
      rw [if_neg c1, if_neg c2, if_neg c3, if_pos c4, antipoderef29_bytes.j0, if_pos (by simp [c4])]
      simp only [Option.bind_some]
      rw [show wrap64 (e.f0 - 3) = 1 by rw [c4, w64_id (by omega) (by omega)]; rfl, if_pos (by omega), if_pos (by exact Int.ofNat_lt.2 (by decide : 1 < 3))]
      exact j2_chk e _ k (by omega) hbs (by simp)
    · unfold script_bytes.f
      simp only [Option.bind_some]
      rw [if_neg c1, if_neg c2, if_neg c3, if_pos c4]
      exact j1_chk e _ (k + 1) (by omega) hbs (by simp)
  by_cases c5 : e.f0 = 5
  · obtain ⟨k, rfl⟩ : ∃ j, k = j + 1 := ⟨k - 1, by omega⟩
    have hbs : Bytes [9, e.f2 % 256] := fun q hq => by simp only [List.mem_cons, List.not_mem_nil, or_false] at hq; omega
    refine ⟨[9, e.f2 % 256], chk [9, e.f2 % 256] e, ?_, ?_, by simp⟩
    · unfold antipoderef29_bytes.f
      rw [if_neg c1, if_neg c2, if_neg c3, if_neg c4, antipoderef29_bytes.j0, if_pos (by simp [c5])]
      simp only [Option.bind_some]
      rw [show wrap64 (e.f0 - 3) = 2 by rw [c5, w64_id (by omega) (by omega)]; rfl, if_pos (by omega), if_pos (by exact Int.ofNat_lt.2 (by decide : 2 < 3))]
      exact j2_chk e _ k (by omega) hbs (by simp)
    · unfold script_bytes.f
      simp only [Option.bind_some]
      rw [if_neg c1, if_neg c2, if_neg c3, if_neg c4, if_pos c5]
      exact j1_chk e _ (k + 1) (by omega) hbs (by simp)
  have c5' : ¬ ((e.f0 == 5) = true) := by simpa using c5
  obtain ⟨k, rfl⟩ : ∃ j, k = j + 1 := ⟨k - 1, by omega⟩
  by_cases c6 : e.f0 = 6
  · by_cases hs : (e.f4.size : Int) > 255
    · have hn : ¬ Ok e := fun h => by have := h.2.1; omega
      refine ⟨[], false, ?_, ?_, by simp⟩
      · unfold antipoderef29_bytes.f
        rw [if_neg c1, if_neg c2, if_neg c3, if_neg c4, antipoderef29_bytes.j0, if_neg c5', if_pos c6, if_pos hs]
      · unfold script_bytes.f
        simp only [Option.bind_some]
        rw [if_neg c1, if_neg c2, if_neg c3, if_neg c4, if_neg c5, if_pos c6, if_pos (by simp only [List.length_cons, List.length_nil]; omega)]
        have hbs : Bytes ([10, wrap64 (e.f1 - 1) % 256, (e.f4.size : Int) % 256] ++ bytesOf e.f4) := Bytes.append (fun q hq => by simp only [List.mem_cons, List.not_mem_nil, or_false] at hq; omega) (bytes_of _)
        refine (j1_chk e _ (k + 1) (by omega) hbs (by simp only [List.length_append, bytesOf_length, List.length_cons, List.length_nil]; omega)).trans ?_
        rw [chk_not hbs hn]
        rfl
    · have hbs : Bytes ([10, wrap64 (e.f1 - 1) % 256, (e.f4.size : Int) % 256] ++ bytesOf e.f4) := Bytes.append (fun q hq => by simp only [List.mem_cons, List.not_mem_nil, or_false] at hq; omega) (bytes_of _)
      have hlb : ([10, wrap64 (e.f1 - 1) % 256, (e.f4.size : Int) % 256] ++ bytesOf e.f4).length ≤ 1100 := by simp only [List.length_append, bytesOf_length, List.length_cons, List.length_nil]; omega
      refine ⟨_, chk ([10, wrap64 (e.f1 - 1) % 256, (e.f4.size : Int) % 256] ++ bytesOf e.f4) e, ?_, ?_, hlb⟩
      · unfold antipoderef29_bytes.f
        rw [if_neg c1, if_neg c2, if_neg c3, if_neg c4, antipoderef29_bytes.j0, if_neg c5', if_pos c6, if_neg hs]
        simp only [Option.bind_some]
        rw [if_pos (by simp only [List.length_cons, List.length_nil]; omega)]
        exact j2_chk e _ k (by omega) hbs hlb
      · unfold script_bytes.f
        simp only [Option.bind_some]
        rw [if_neg c1, if_neg c2, if_neg c3, if_neg c4, if_neg c5, if_pos c6, if_pos (by simp only [List.length_cons, List.length_nil]; omega)]
        exact j1_chk e _ (k + 1) (by omega) hbs hlb
  by_cases c7 : e.f0 = 7
  · have hbs : Bytes ([11, wrap64 (e.f1 - 1) % 256] ++ e.f5.map (· % 256)) := Bytes.append (fun q hq => by simp only [List.mem_cons, List.not_mem_nil, or_false] at hq; omega) (fun q hq => by obtain ⟨b, _, rfl⟩ := List.mem_map.1 hq; exact hm b)
    have hp : script_bytes.f (k + 1) e.f0 e.f1 e.f2 e.f3 e.f4 e.f5 e.f6.f0 e.f6.f1 e.f6.f2 e.f6.f3 e.f6.f4 = some (if chk ([11, wrap64 (e.f1 - 1) % 256] ++ e.f5.map (· % 256)) e = true then [11, wrap64 (e.f1 - 1) % 256] ++ e.f5.map (· % 256) else []) := by
      unfold script_bytes.f
      simp only [Option.bind_some]
      rw [if_neg c1, if_neg c2, if_neg c3, if_neg c4, if_neg c5, if_neg c6, if_pos c7]
      have hl := keep_all e h5 e.f5.length (k + 1) 0 [11, wrap64 (e.f1 - 1) % 256] (by omega) (by simp only [List.length_cons, List.length_nil]; omega) (by omega)
      rw [List.drop_zero] at hl
      refine hl.trans (j1_chk e _ _ (by omega) hbs (by simp only [List.length_append, List.length_map, List.length_cons, List.length_nil]; omega))
    by_cases hok : ∃ y z, e.f5 = [y, z] ∧ (0 ≤ y ∧ y < 256) ∧ (0 ≤ z ∧ z < 256)
    · obtain ⟨y, z, hyz, hy, hz⟩ := hok
      obtain ⟨k, rfl⟩ : ∃ j, k = j + 1 := ⟨k - 1, by omega⟩
      refine ⟨_, _, ?_, hp, by simp only [List.length_append, List.length_map, List.length_cons, List.length_nil]; omega⟩
      unfold antipoderef29_bytes.f
      rw [if_neg c1, if_neg c2, if_neg c3, if_neg c4, antipoderef29_bytes.j0, if_neg c5', if_neg c6, if_pos c7, if_pos (by rw [hyz]; rfl), if_pos (by rw [hyz]; exact Int.ofNat_lt.2 (by decide : 0 < 2))]
      refine bind_to (small_f _) ?_
      have r0 : rd e.f5 0 = y := by rw [hyz]; rfl
      have r1 : rd e.f5 1 = z := by rw [hyz]; rfl
      rw [r0, decide_eq_true hy, if_pos rfl, if_pos (by rw [hyz]; exact Int.ofNat_lt.2 (by decide : 1 < 2))]
      refine bind_to (small_f _) ?_
      rw [r1, decide_eq_true hz, antipoderef29_bytes.j1, if_neg (by decide), if_pos (by rw [hyz]; exact Int.ofNat_lt.2 (by decide : 0 < 2)), if_pos (by rw [hyz]; exact Int.ofNat_lt.2 (by decide : 1 < 2)), r0, r1]
      have hb2 : [11, wrap64 (e.f1 - 1) % 256, y % 256, z % 256] = [11, wrap64 (e.f1 - 1) % 256] ++ e.f5.map (· % 256) := by rw [hyz]; rfl
      rw [hb2]
      exact j2_chk e _ k (by omega) hbs (by simp only [List.length_append, List.length_map, List.length_cons, List.length_nil]; omega)
    · have hn : ¬ Ok e := fun h => hok (h.2.2 c7)
      rw [chk_not hbs hn] at hp
      refine ⟨[], false, ?_, hp, by simp⟩
      obtain ⟨k, rfl⟩ : ∃ j, k = j + 1 := ⟨k - 1, by omega⟩
      unfold antipoderef29_bytes.f
      rw [if_neg c1, if_neg c2, if_neg c3, if_neg c4, antipoderef29_bytes.j0, if_neg c5', if_neg c6, if_pos c7]
      have hj : antipoderef29_bytes.j1 (k + 1) (wrap64 (e.f1 - 1) % 256) true e.f0 e.f1 e.f2 e.f3 e.f4 e.f5 e.f6.f0 e.f6.f1 e.f6.f2 e.f6.f3 e.f6.f4 = some ([], false) := by rw [antipoderef29_bytes.j1, if_pos rfl]
      by_cases hl : (e.f5.length : Int) = 2
      · obtain ⟨y, z, hyz⟩ : ∃ y z, e.f5 = [y, z] := by
          rcases hf : e.f5 with _ | ⟨y, _ | ⟨z, _ | ⟨u, t⟩⟩⟩
          · rw [hf] at hl; simp at hl
          · rw [hf] at hl; simp at hl
          · exact ⟨y, z, rfl⟩
          · rw [hf] at hl; simp only [List.length_cons] at hl; omega
        have r0 : rd e.f5 0 = y := by rw [hyz]; rfl
        have r1 : rd e.f5 1 = z := by rw [hyz]; rfl
        rw [if_pos hl, if_pos (by omega)]
        refine bind_to (small_f _) ?_
        rw [r0]
        by_cases hy : 0 ≤ y ∧ y < 256
        · rw [decide_eq_true hy, if_pos rfl, if_pos (by omega)]
          refine bind_to (small_f _) ?_
          rw [r1, decide_eq_false (fun hz => hok ⟨y, z, hyz, hy, hz⟩)]
          exact hj
        · rw [decide_eq_false hy, if_neg (by decide)]
          exact hj
      · rw [if_neg hl]
        exact hj
  by_cases c8 : e.f0 = 8
  · have hbs : Bytes [12, wrap64 (e.f1 - 1) % 256] := fun q hq => by simp only [List.mem_cons, List.not_mem_nil, or_false] at hq; omega
    refine ⟨[12, wrap64 (e.f1 - 1) % 256], chk [12, wrap64 (e.f1 - 1) % 256] e, ?_, ?_, ?_⟩
    · unfold antipoderef29_bytes.f
      rw [if_neg c1, if_neg c2, if_neg c3, if_neg c4, antipoderef29_bytes.j0, if_neg c5', if_neg c6, if_neg c7, if_pos c8]
      exact j2_chk e _ k (by omega) hbs (by simp)
    · unfold script_bytes.f
      simp only [Option.bind_some]
      rw [if_neg c1, if_neg c2, if_neg c3, if_neg c4, if_neg c5, if_neg c6, if_neg c7, if_pos c8]
      exact j1_chk e _ (k + 1) (by omega) hbs (by simp)
    · simp
  by_cases c9 : e.f0 = 9
  · have hbs : Bytes [13, wrap64 (e.f1 - 1) % 256, e.f2 % 256] := fun q hq => by simp only [List.mem_cons, List.not_mem_nil, or_false] at hq; omega
    refine ⟨[13, wrap64 (e.f1 - 1) % 256, e.f2 % 256], chk [13, wrap64 (e.f1 - 1) % 256, e.f2 % 256] e, ?_, ?_, ?_⟩
    · unfold antipoderef29_bytes.f
      rw [if_neg c1, if_neg c2, if_neg c3, if_neg c4, antipoderef29_bytes.j0, if_neg c5', if_neg c6, if_neg c7, if_neg c8, if_pos c9]
      exact j2_chk e _ k (by omega) hbs (by simp)
    · unfold script_bytes.f
      simp only [Option.bind_some]
      rw [if_neg c1, if_neg c2, if_neg c3, if_neg c4, if_neg c5, if_neg c6, if_neg c7, if_neg c8, if_pos c9]
      exact j1_chk e _ (k + 1) (by omega) hbs (by simp)
    · simp
  by_cases c12 : e.f0 = 12
  · have hbs : Bytes ([14, wrap64 (e.f1 - 1) % 256, e.f2 % 256] ++ [e.f3 / 256 % 256, e.f3 % 256]) := fun q hq => by simp only [List.mem_cons, List.not_mem_nil, or_false, List.mem_append] at hq; omega
    have hp : script_bytes.f (k + 1) e.f0 e.f1 e.f2 e.f3 e.f4 e.f5 e.f6.f0 e.f6.f1 e.f6.f2 e.f6.f3 e.f6.f4 = some (if chk ([14, wrap64 (e.f1 - 1) % 256, e.f2 % 256] ++ [e.f3 / 256 % 256, e.f3 % 256]) e = true then [14, wrap64 (e.f1 - 1) % 256, e.f2 % 256] ++ [e.f3 / 256 % 256, e.f3 % 256] else []) := by
      unfold script_bytes.f
      simp only [Option.bind_some]
      rw [if_neg c1, if_neg c2, if_neg c3, if_neg c4, if_neg c5, if_neg c6, if_neg c7, if_neg c8, if_neg c9, if_pos c12, if_pos (by simp)]
      exact j1_chk e _ (k + 1) (by omega) hbs (by simp)
    by_cases hw : 0 ≤ e.f3
    · refine ⟨_, _, ?_, hp, by simp⟩
      unfold antipoderef29_bytes.f
      rw [if_neg c1, if_neg c2, if_neg c3, if_neg c4, antipoderef29_bytes.j0, if_neg c5', if_neg c6, if_neg c7, if_neg c8, if_neg c9, if_pos c12, wall_div he.2.2.2.1 hw, wall_mod hw]
      exact j2_chk e _ k (by omega) hbs (by simp)
    · have hn : ¬ Ok e := fun h => hw h.1
      rw [chk_not hbs hn] at hp
      have hb2 : Bytes [14, wrap64 (e.f1 - 1) % 256, e.f2 % 256, wrap64 (Int.tdiv e.f3 256) % 256, Int.tmod e.f3 256 % 256] := fun q hq => by
        simp only [List.mem_cons, List.not_mem_nil, or_false] at hq
        rcases hq with rfl | rfl | rfl | rfl | rfl
        · omega
        all_goals exact hm _
      refine ⟨[14, wrap64 (e.f1 - 1) % 256, e.f2 % 256, wrap64 (Int.tdiv e.f3 256) % 256, Int.tmod e.f3 256 % 256], false, ?_, hp.trans rfl, ?_⟩
      · unfold antipoderef29_bytes.f
        rw [if_neg c1, if_neg c2, if_neg c3, if_neg c4, antipoderef29_bytes.j0, if_neg c5', if_neg c6, if_neg c7, if_neg c8, if_neg c9, if_pos c12]
        refine (j2_chk e _ k (by omega) hb2 (by simp)).trans ?_
        rw [chk_not hb2 hn]
      · simp
  · refine ⟨[], false, ?_, ?_, by simp⟩
    · unfold antipoderef29_bytes.f
      rw [if_neg c1, if_neg c2, if_neg c3, if_neg c4, antipoderef29_bytes.j0, if_neg c5', if_neg c6, if_neg c7, if_neg c8, if_neg c9, if_neg c12]
    · unfold script_bytes.f
      simp only [Option.bind_some]
      rw [if_neg c1, if_neg c2, if_neg c3, if_neg c4, if_neg c5, if_neg c6, if_neg c7, if_neg c8, if_neg c9, if_neg c12]
      exact j1_chk e [] (k + 1) (by omega) (fun q hq => by cases hq) (by simp)
def Light (L : List S41) : Prop := L.length ≤ 100 ∧ ∀ e ∈ L, e.f4.size ≤ 1000 ∧ e.f5.length ≤ 10
theorem light_loop (L : List S41) (hm : L.length ≤ 100) (d : Nat) : ∀ (k i : Nat), i + d = L.length → d < k → ∃ b, antipodelaw29_light.l0 k L (i : Int) = some b ∧ (b = true → ∀ j (h : j < L.length), i ≤ j → L[j].f4.size ≤ 1000 ∧ L[j].f5.length ≤ 10) := by
  induction d with
  | zero =>
    intro k i hi hk
    obtain ⟨k, rfl⟩ : ∃ j, k = j + 1 := ⟨k - 1, by omega⟩
    exact ⟨true, by rw [antipodelaw29_light.l0, if_neg (by omega)], fun _ j h hj => by omega⟩
  | succ d ih =>
    intro k i hi hk
    obtain ⟨k, rfl⟩ : ∃ j, k = j + 1 := ⟨k - 1, by omega⟩
    have hlt : i < L.length := by omega
    have hw : wrap64 ((i : Int) + 1) = ((i + 1 : Nat) : Int) := by rw [w64_id (by omega) (by omega)]; omega
    rw [antipodelaw29_light.l0, if_pos (by omega), if_pos (by omega), ev_at hlt, hw]
    by_cases h1 : (L[i].f4.size : Int) > 1000
    · exact ⟨false, by rw [if_pos h1], fun h => by cases h⟩
    · rw [if_neg h1]
      by_cases h2 : (L[i].f5.length : Int) > 10
      · exact ⟨false, by rw [if_pos h2], fun h => by cases h⟩
      · rw [if_neg h2]
        obtain ⟨b, hb, hq⟩ := ih k (i + 1) (by omega) (by omega)
        refine ⟨b, hb, fun ht j h hj => ?_⟩
        by_cases he : j = i
        · subst he
          exact ⟨by omega, by omega⟩
        · exact hq ht j h (by omega)
theorem light_all (L : List S41) (k : Nat) (hk : 102 < k) : ∃ b, antipodelaw29_light.f k L 100 = some b ∧ (b = true → Light L) := by
  unfold antipodelaw29_light.f
  by_cases h : (L.length : Int) > 100
  · exact ⟨false, by rw [if_pos h], fun h => by cases h⟩
  · rw [if_neg h]
    obtain ⟨b, hb, hq⟩ := light_loop L (by omega) L.length k 0 (by omega) (by omega)
    refine ⟨b, hb, fun ht => ⟨by omega, fun e he => ?_⟩⟩
    obtain ⟨j, hj, rfl⟩ := List.mem_iff_getElem.1 he
    exact hq ht j hj (Nat.zero_le _)
theorem put_loops (L : List S41) (hL : Light L) (hok : ∀ e ∈ L, EvOk e) (d : Nat) : ∀ (k i : Nat) (acc : List Int), i + d = L.length → d + 3001 < k → acc.length + 1100 * d ≤ 1000000 →
    ∃ r, script_Encode.l0 k acc L (L.length : Int) (i : Int) = some r ∧ antipoderef29_Encode.l0 k L acc (i : Int) = some r := by
  induction d with
  | zero =>
    intro k i acc hi hk ha
    obtain ⟨k, rfl⟩ : ∃ j, k = j + 1 := ⟨k - 1, by omega⟩
    exact ⟨acc, by rw [script_Encode.l0, if_neg (by omega)], by rw [antipoderef29_Encode.l0, if_neg (by omega)]⟩
  | succ d ih =>
    intro k i acc hi hk ha
    obtain ⟨k, rfl⟩ : ∃ j, k = j + 1 := ⟨k - 1, by omega⟩
    have hlt : i < L.length := by omega
    have hl1 := hL.1
    have hw : wrap64 ((i : Int) + 1) = ((i + 1 : Nat) : Int) := by rw [w64_id (by omega) (by omega)]; omega
    have hmem := List.getElem_mem hlt
    have hk3 : 3000 ≤ k := by clear ih hmem hw hok hL ha; omega
    obtain ⟨y, b, hbo⟩ := both (L[i]'hlt) (hok _ hmem) (hL.2 _ hmem).1 (hL.2 _ hmem).2 k hk3
    obtain ⟨h1, h2, h3⟩ := hbo
    have hyl : (if b = true then y else []).length ≤ 1100 := by
      cases b with
      | false => rw [if_neg (by decide), List.length_nil]; omega
      | true => rw [if_pos rfl]; exact h3
    obtain ⟨r, g1, g2⟩ := ih k (i + 1) (acc ++ if b = true then y else []) (by omega) (by omega) (by rw [List.length_append]; omega)
    refine ⟨r, ?_, ?_⟩
    · rw [script_Encode.l0, if_pos (by omega), if_pos (by omega), if_pos (by omega), ev_at hlt, hw]
      refine bind_to h2 ?_
      rw [if_pos (by have := hL.1; omega)]
      exact g1
    · rw [antipoderef29_Encode.l0, if_pos (by omega), if_pos (by omega), ev_at hlt, hw]
      refine bind_to h1 ?_
      cases b with
      | true =>
        rw [if_pos rfl] at g2 hyl
        rw [if_pos rfl, if_pos (by have := hL.1; show acc.length + y.length < _; omega)]
        exact g2
      | false =>
        rw [if_neg (by decide), List.append_nil] at g2
        rw [if_neg (show ¬ ((y, false).2 = true) from fun h => by cases h)]
        exact g2
theorem put_same (L : List S41) (hL : Light L) (hok : ∀ e ∈ L, EvOk e) (k : Nat) (hk : 4000 < k) : ∃ r, script_Encode.f k L = some r ∧ antipoderef29_Encode.f k L = some r := by
  unfold script_Encode.f antipoderef29_Encode.f
  exact put_loops L hL hok L.length k 0 [] (by omega) (by have := hL.1; omega) (by have := hL.1; simp only [List.length_nil]; omega)
end Go.Proofs.Ytpoejopnjkcdpaa.St

