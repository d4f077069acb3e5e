/- Bytes that say an event, made again from the event: the program's bytes of an event that any bytes say are none other than bytes that say it; no longer than those. Conditions: bytes from 0 to 255, nine nodes. -/
import Derived.Test.YtpoejopnjkcdpaaQAx5
import Derived.Test.YtpoejopnjkcdpaaQAx6
import Derived.Test.YtpoejopnjkcdpaaScriptSame
namespace Go.Proofs.Ytpoejopnjkcdpaa.St
set_option linter.unusedSimpArgs false
set_option linter.unusedVariables false
open Go.RowKit Go.Proofs.Ytpoejopnjkcdpaa.QA Go.Proofs.YtpoejopnjkcdpaaW.PrintWords Go.Proofs.YtpoejopnjkcdpaaW.PrintLast Go.Proofs.YtpoejopnjkcdpaaW.PrintMore Go.Proofs.Ytpoejopnjkcdpaa.Facts Go.Proofs.Ytpoejopnjkcdpaa.Codec

theorem bytesOf_str {l : List Int} (h : Bytes l) : bytesOf (strOfNums l) = l := by
  unfold bytesOf
  rw [strOfNums_data, List.map_map]
  refine (List.map_congr_left (g := id) (fun x hx => ?_)).trans (List.map_id l)
  have := h x hx
  simp only [Function.comp, UInt8.toNat_ofNat', id]
  omega
theorem dec_one {b : List Int} {e : S41} (hs : st b 9 = some (some e, [])) : dec b.length b 9 = [e] := by
  have h := (st_rest hs).1
  obtain ⟨m, hm⟩ : ∃ m, b.length = m + 1 := ⟨b.length - 1, by simp only [List.length_nil] at h; omega⟩
  rw [hm, dec, hs]
  simp only
  cases m <;> rfl
theorem j1_self (e : S41) (b : List Int) (k : Nat) (hk : 300 ≤ k) (hb : Bytes b) (hl : b.length ≤ 260) (hs : st b 9 = some (some e, [])) (h5 : e.f5.length ≤ 2) :
    script_bytes.j1 k b e.f0 e.f1 e.f2 e.f3 e.f4 e.f5 e.f6.f0 e.f6.f1 e.f6.f2 e.f6.f3 e.f6.f4 = some b := by
  obtain ⟨k, rfl⟩ : ∃ j, k = j + 1 := ⟨k - 1, by omega⟩
  rw [script_bytes.j1]
  have hd := prog_decode k 9 hb (by omega) (by omega)
  rw [show nn 9 = 9 from rfl, dec_one hs] at hd
  refine bind_to hd ?_
  rw [if_pos (show ((([e] : List S41).length : Nat) : Int) = 1 from rfl), if_pos (show (0 : Int) < (([e] : List S41).length : Int) by exact Int.one_pos), show rd_T41 [e] 0 = e from rfl]
  refine bind_to (prog_same k e e (by omega) (by omega)) ?_
  rw [sm_self, if_pos rfl]
/-- The bytes b say the event e, and are what the program makes of it. -/
def Good (e : S41) (b : List Int) : Prop := Bytes b ∧ b.length ≤ 260 ∧ (∀ t, st (b ++ t) 9 = some (some e, t)) ∧ e.f5.length ≤ 2 ∧ ∀ k, 400 ≤ k → script_bytes.f k e.f0 e.f1 e.f2 e.f3 e.f4 e.f5 e.f6.f0 e.f6.f1 e.f6.f2 e.f6.f3 e.f6.f4 = some b
theorem Good.mk {e : S41} {b : List Int} (hb : Bytes b) (hl : b.length ≤ 260) (hs : ∀ t, st (b ++ t) 9 = some (some e, t)) (h5 : e.f5.length ≤ 2)
    (hf : ∀ k, 400 ≤ k → ∃ j, 300 ≤ j ∧ script_bytes.f k e.f0 e.f1 e.f2 e.f3 e.f4 e.f5 e.f6.f0 e.f6.f1 e.f6.f2 e.f6.f3 e.f6.f4 = script_bytes.j1 j b e.f0 e.f1 e.f2 e.f3 e.f4 e.f5 e.f6.f0 e.f6.f1 e.f6.f2 e.f6.f3 e.f6.f4) : Good e b :=
  ⟨hb, hl, hs, h5, fun k hk => by
    obtain ⟨j, hj, h⟩ := hf k hk
    have h0 := hs []
    rw [List.append_nil] at h0
    exact h.trans (j1_self e b j hj hb hl h0 h5)⟩
theorem less_one {x : Int} (hx : 0 ≤ x ∧ x < 9) : wrap64 (x + 1 - 1) % 256 = x := by
  rw [w64_id (by omega) (by omega)]
  omega
theorem good1 (x : Int) (hx : 0 ≤ x ∧ x < 9) : Good ⟨1, x + 1, 0, 0, noText, [], z39⟩ [0, x] := by
  refine Good.mk (fun q hq => by simp only [List.mem_cons, List.not_mem_nil, or_false] at hq; omega) (by simp) (fun t => ?_) (by simp) (fun k hk => ⟨k, by omega, ?_⟩)
  · have h9 : x % 9 = x := by omega
    simp [st, h9]
  · unfold script_bytes.f
    dsimp only
    simp only [Option.bind_some]
    rw [if_pos trivial, less_one hx]
theorem good2 (x h v : Int) (hx : 0 ≤ x ∧ x < 9) (hh : 0 ≤ h ∧ h < 256) (hv : 0 ≤ v ∧ v < 256) : Good ⟨2, x + 1, 0, h * 256 + v, noText, [], z39⟩ [4, x, h, v] := by
  refine Good.mk (fun q hq => by simp only [List.mem_cons, List.not_mem_nil, or_false] at hq; omega) (by simp) (fun t => ?_) (by simp) (fun k hk => ⟨k, by omega, ?_⟩)
  · have h9 : x % 9 = x := by omega
    simp [st, h9]
  · unfold script_bytes.f
    dsimp only
    simp only [Option.bind_some]
    rw [if_neg (show ¬ ((2 : Int) = 1) by decide), if_pos trivial, if_pos (by simp), less_one hx, show (h * 256 + v) / 256 % 256 = h by omega, show (h * 256 + v) % 256 = v by omega]
    rfl
theorem good3 (x : Int) (hx : 0 ≤ x ∧ x < 256) : Good ⟨3, 0, x, 0, noText, [], z39⟩ [5, x] := by
  refine Good.mk (fun q hq => by simp only [List.mem_cons, List.not_mem_nil, or_false] at hq; omega) (by simp) (fun t => ?_) (by simp) (fun k hk => ⟨k, by omega, ?_⟩)
  · simp [st]
  · unfold script_bytes.f
    dsimp only
    simp only [Option.bind_some]
    rw [if_neg (show ¬ ((3 : Int) = 1) by decide), if_neg (show ¬ ((3 : Int) = 2) by decide), if_pos trivial, show x % 256 = x by omega]
theorem good4 (x : Int) (hx : 0 ≤ x ∧ x < 256) : Good ⟨4, 0, x, 0, noText, [], z39⟩ [8, x] := by
  refine Good.mk (fun q hq => by simp only [List.mem_cons, List.not_mem_nil, or_false] at hq; omega) (by simp) (fun t => ?_) (by simp) (fun k hk => ⟨k, by omega, ?_⟩)
  · simp [st]
  · unfold script_bytes.f
    dsimp only
    simp only [Option.bind_some]
    rw [if_neg (show ¬ ((4 : Int) = 1) by decide), if_neg (show ¬ ((4 : Int) = 2) by decide), if_neg (show ¬ ((4 : Int) = 3) by decide), if_pos trivial, show x % 256 = x by omega]
theorem good5 (x : Int) (hx : 0 ≤ x ∧ x < 256) : Good ⟨5, 0, x, 0, noText, [], z39⟩ [9, x] := by
  refine Good.mk (fun q hq => by simp only [List.mem_cons, List.not_mem_nil, or_false] at hq; omega) (by simp) (fun t => ?_) (by simp) (fun k hk => ⟨k, by omega, ?_⟩)
  · simp [st]
  · unfold script_bytes.f
    dsimp only
    simp only [Option.bind_some]
    rw [if_neg (show ¬ ((5 : Int) = 1) by decide), if_neg (show ¬ ((5 : Int) = 2) by decide), if_neg (show ¬ ((5 : Int) = 3) by decide), if_neg (show ¬ ((5 : Int) = 4) by decide), if_pos trivial, show x % 256 = x by omega]
theorem good8 (x : Int) (hx : 0 ≤ x ∧ x < 9) : Good ⟨8, x + 1, 0, 0, noText, [], z39⟩ [12, x] := by
  refine Good.mk (fun q hq => by simp only [List.mem_cons, List.not_mem_nil, or_false] at hq; omega) (by simp) (fun t => ?_) (by simp) (fun k hk => ⟨k, by omega, ?_⟩)
  · have h9 : x % 9 = x := by omega
    simp [st, h9]
  · unfold script_bytes.f
    dsimp only
    simp only [Option.bind_some]
    rw [if_neg (show ¬ ((8 : Int) = 1) by decide), if_neg (show ¬ ((8 : Int) = 2) by decide), if_neg (show ¬ ((8 : Int) = 3) by decide), if_neg (show ¬ ((8 : Int) = 4) by decide), if_neg (show ¬ ((8 : Int) = 5) by decide), if_neg (show ¬ ((8 : Int) = 6) by decide), if_neg (show ¬ ((8 : Int) = 7) by decide), if_pos trivial, less_one hx]
theorem good9 (x y : Int) (hx : 0 ≤ x ∧ x < 9) (hy : 0 ≤ y ∧ y < 256) : Good ⟨9, x + 1, y, 0, noText, [], z39⟩ [13, x, y] := by
  refine Good.mk (fun q hq => by simp only [List.mem_cons, List.not_mem_nil, or_false] at hq; omega) (by simp) (fun t => ?_) (by simp) (fun k hk => ⟨k, by omega, ?_⟩)
  · have h9 : x % 9 = x := by omega
    simp [st, h9]
  · unfold script_bytes.f
    dsimp only
    simp only [Option.bind_some]
    rw [if_neg (show ¬ ((9 : Int) = 1) by decide), if_neg (show ¬ ((9 : Int) = 2) by decide), if_neg (show ¬ ((9 : Int) = 3) by decide), if_neg (show ¬ ((9 : Int) = 4) by decide), if_neg (show ¬ ((9 : Int) = 5) by decide), if_neg (show ¬ ((9 : Int) = 6) by decide), if_neg (show ¬ ((9 : Int) = 7) by decide), if_neg (show ¬ ((9 : Int) = 8) by decide), if_pos trivial, less_one hx, show y % 256 = y by omega]
theorem good12 (x y h v : Int) (hx : 0 ≤ x ∧ x < 9) (hy : 0 ≤ y ∧ y < 256) (hh : 0 ≤ h ∧ h < 256) (hv : 0 ≤ v ∧ v < 256) : Good ⟨12, x + 1, y, h * 256 + v, noText, [], z39⟩ [14, x, y, h, v] := by
  refine Good.mk (fun q hq => by simp only [List.mem_cons, List.not_mem_nil, or_false] at hq; omega) (by simp) (fun t => ?_) (by simp) (fun k hk => ⟨k, by omega, ?_⟩)
  · have h9 : x % 9 = x := by omega
    simp [st, h9]
  · unfold script_bytes.f
    dsimp only
    simp only [Option.bind_some]
    rw [if_neg (show ¬ ((12 : Int) = 1) by decide), if_neg (show ¬ ((12 : Int) = 2) by decide), if_neg (show ¬ ((12 : Int) = 3) by decide), if_neg (show ¬ ((12 : Int) = 4) by decide), if_neg (show ¬ ((12 : Int) = 5) by decide), if_neg (show ¬ ((12 : Int) = 6) by decide), if_neg (show ¬ ((12 : Int) = 7) by decide), if_neg (show ¬ ((12 : Int) = 8) by decide), if_neg (show ¬ ((12 : Int) = 9) by decide), if_pos trivial, if_pos (by simp), less_one hx, show y % 256 = y by omega, show (h * 256 + v) / 256 % 256 = h by omega, show (h * 256 + v) % 256 = v by omega]
    rfl
theorem good6 (x : Int) (s : List Int) (hx : 0 ≤ x ∧ x < 9) (hs : Bytes s) (hl : s.length < 256) : Good ⟨6, x + 1, 0, 0, strOfNums s, [], z39⟩ (10 :: x :: (s.length : Int) :: s) := by
  have hz : (strOfNums s).size = s.length := strOfNums_size s
  refine Good.mk (fun q hq => ?_) (by simp only [List.length_cons]; omega) (fun t => ?_) (by simp) (fun k hk => ⟨k, by omega, ?_⟩)
  · simp only [List.mem_cons] at hq
    rcases hq with rfl | rfl | rfl | hq
    · omega
    · omega
    · omega
    · exact hs q hq
  · have h9 : x % 9 = x := by omega
    have h1 : ¬ ((s.length : Int) + (t.length : Int) < (s.length : Int)) := by omega
    simp [st, h9, h1]
  · unfold script_bytes.f
    dsimp only
    simp only [Option.bind_some]
    rw [if_neg (show ¬ ((6 : Int) = 1) by decide), if_neg (show ¬ ((6 : Int) = 2) by decide), if_neg (show ¬ ((6 : Int) = 3) by decide), if_neg (show ¬ ((6 : Int) = 4) by decide), if_neg (show ¬ ((6 : Int) = 5) by decide), if_pos trivial, if_pos (by simp only [List.length_cons, List.length_nil]; omega), less_one hx, hz, show (s.length : Int) % 256 = (s.length : Int) by omega, bytesOf_str hs]
    rfl
theorem keep_loop (k : Nat) (b : List Int) (y z : Int) (hy : 0 ≤ y ∧ y < 256) (hz : 0 ≤ z ∧ z < 256) (hl : b.length < 1000) (a0 a1 a2 a3 : Int) (a4 : ByteArray) (a5 : List Int) (a6 a7 a8 a9 a10 : Int) :
    script_bytes.l0 (k + 3) b [y, z] ((([y, z] : List Int).length : Nat) : Int) 0 a0 a1 a2 a3 a4 a5 a6 a7 a8 a9 a10 = script_bytes.j1 k (b ++ [y, z]) a0 a1 a2 a3 a4 a5 a6 a7 a8 a9 a10 := by
  have e0 : ((([y, z] : List Int).length : Nat) : Int) = 2 := rfl
  have e1 : wrap64 (0 + 1) = 1 := w64_id (by omega) (by omega)
  have e2 : wrap64 (1 + 1) = 2 := w64_id (by omega) (by omega)
  have r0 : rd [y, z] 0 = y := rfl
  have r1 : rd [y, z] 1 = z := rfl
  rw [script_bytes.l0, e0, if_pos (by decide), if_pos (by decide), if_pos (by decide), if_pos (by omega), e1, r0, show y % 256 = y by omega]
  rw [script_bytes.l0, e0, if_pos (by decide), if_pos (by decide), if_pos (by decide), if_pos (by simp only [List.length_append, List.length_cons, List.length_nil]; omega), e2, r1, show z % 256 = z by omega]
  rw [script_bytes.l0, if_neg (by decide), List.append_assoc]
  rfl
theorem good7 (x y z : Int) (hx : 0 ≤ x ∧ x < 9) (hy : 0 ≤ y ∧ y < 256) (hz : 0 ≤ z ∧ z < 256) : Good ⟨7, x + 1, 0, 0, noText, [y, z], z39⟩ [11, x, y, z] := by
  refine Good.mk (fun q hq => by simp only [List.mem_cons, List.not_mem_nil, or_false] at hq; omega) (by simp) (fun t => ?_) (by simp) (fun k hk => ⟨k - 3, by omega, ?_⟩)
  · have h9 : x % 9 = x := by omega
    simp [st, h9]
  · obtain ⟨k, rfl⟩ : ∃ j, k = j + 3 := ⟨k - 3, by omega⟩
    unfold script_bytes.f
    dsimp only
    simp only [Option.bind_some]
    rw [if_neg (show ¬ ((7 : Int) = 1) by decide), if_neg (show ¬ ((7 : Int) = 2) by decide), if_neg (show ¬ ((7 : Int) = 3) by decide), if_neg (show ¬ ((7 : Int) = 4) by decide), if_neg (show ¬ ((7 : Int) = 5) by decide), if_neg (show ¬ ((7 : Int) = 6) by decide), if_pos trivial, less_one hx, keep_loop k [11, x] y z hy hz (by simp)]
    rfl
/-- Each event that bytes say is said by bytes that the program makes of it; they are no more. -/
theorem st_good {l : List Int} {e : S41} {r : List Int} (hb : Bytes l) (h : st l 9 = some (some e, r)) : ∃ b, Good e b ∧ b.length + r.length ≤ l.length := by
  have hp : ∀ x : Int, 0 ≤ x % 9 ∧ x % 9 < 9 := fun x => by omega
  cases l with
  | nil => cases h
  | cons c t =>
    have ht : ∀ x ∈ t, 0 ≤ x ∧ x < 256 := fun x hx => hb x (List.mem_cons_of_mem _ hx)
    rcases kinds c with hk | hk | hk | hk | hk | hk | hk | hk | hk | hk | hk | hk | hk | hk | hk | hk
    all_goals
      rcases t with _ | ⟨x, _ | ⟨y, _ | ⟨z, _ | ⟨v, t⟩⟩⟩⟩
      all_goals (try have hx := ht x (by simp))
      all_goals (try have hy := ht y (by simp))
      all_goals (try have hz := ht z (by simp))
      all_goals (try have hv := ht v (by simp))
      all_goals simp [st, hk] at h
      all_goals first
        | (obtain ⟨rfl, rfl⟩ := h
           first
             | exact ⟨_, good1 _ (hp x), by simp only [List.length_cons, List.length_nil]; omega⟩
             | exact ⟨_, good2 _ _ _ (hp x) hy hz, by simp only [List.length_cons, List.length_nil]; omega⟩
             | exact ⟨_, good3 _ hx, by simp only [List.length_cons, List.length_nil]; omega⟩
             | exact ⟨_, good4 _ hx, by simp only [List.length_cons, List.length_nil]; omega⟩
             | exact ⟨_, good5 _ hx, by simp only [List.length_cons, List.length_nil]; omega⟩
             | exact ⟨_, good7 _ _ _ (hp x) hy hz, by simp only [List.length_cons, List.length_nil]; omega⟩
             | exact ⟨_, good8 _ (hp x), by simp only [List.length_cons, List.length_nil]; omega⟩
             | exact ⟨_, good9 _ _ (hp x) hy, by simp only [List.length_cons, List.length_nil]; omega⟩
             | exact ⟨_, good12 _ _ _ _ (hp x) hy hz hv, by simp only [List.length_cons, List.length_nil]; omega⟩)
        | (obtain ⟨h1, rfl, rfl⟩ := h
           first
             | (refine ⟨_, good6 _ [] (hp x) (fun q hq => by cases hq) (by simp), ?_⟩
                simp only [List.length_cons, List.length_nil]
                omega)
             | (refine ⟨_, good6 _ _ (hp x) (fun q hq => ht q (by have := List.mem_of_mem_take hq; simp_all)) (by rw [List.length_take]; omega), ?_⟩
                simp only [List.length_cons, List.length_drop, List.length_take, List.length_nil]
                omega))
theorem dec_good (m : Nat) : ∀ l : List Int, Bytes l → ∃ B : List (List Int), ∃ C : List Int, C = B.flatten ∧ B.length = (dec m l 9).length ∧ (∀ i (h1 : i < B.length) (h2 : i < (dec m l 9).length), Good (dec m l 9)[i] B[i]) ∧ Bytes C ∧ C.length ≤ l.length ∧ ∀ q, C.length ≤ q → dec q C 9 = dec m l 9 := by
  induction m with
  | zero => intro l hb; exact ⟨[], [], rfl, rfl, fun i h1 => absurd h1 (Nat.not_lt_zero i), fun q hq => (by cases hq), Nat.zero_le _, fun q _ => by cases q <;> rfl⟩
  | succ m ih =>
    intro l hb
    rw [dec]
    rcases hs : st l 9 with _ | ⟨_ | e, r⟩
    · exact ⟨[], [], rfl, rfl, fun i h1 => absurd h1 (Nat.not_lt_zero i), fun q hq => (by cases hq), Nat.zero_le _, fun q _ => by cases q <;> rfl⟩
    · have hr := st_rest hs
      obtain ⟨B, C, h1, h2, h3, h4, h5, h6⟩ := ih r (fun x hx => hb x (hr.2 x hx))
      exact ⟨B, C, h1, h2, h3, h4, by omega, h6⟩
    · have hr := st_rest hs
      obtain ⟨B, C, h1, h2, h3, h4, h5, h6⟩ := ih r (fun x hx => hb x (hr.2 x hx))
      obtain ⟨b, hg, hl⟩ := st_good hb hs
      have hg1 := hg
      obtain ⟨g1, g2, g3, g4, g5⟩ := hg
      have h0 := g3 C
      have hlen := (st_rest h0).1
      rw [List.length_append] at hlen
      refine ⟨b :: B, b ++ C, by rw [List.flatten_cons, h1], by simp [h2], fun i hi1 hi2 => ?_, Bytes.append g1 h4, by rw [List.length_append]; omega, fun q hq => ?_⟩
      · cases i with
        | zero => exact hg1
        | succ i => exact h3 i (by simpa using hi1) (by simpa using hi2)
      · rw [List.length_append] at hq
        obtain ⟨q, rfl⟩ : ∃ j, q = j + 1 := ⟨q - 1, by omega⟩
        rw [dec, h0]
        simp only
        rw [h6 q (by omega)]
theorem encode_loop (L : List S41) (B : List (List Int)) (hB : B.length = L.length) (hg : ∀ i (h1 : i < B.length) (h2 : i < L.length), Good L[i] B[i]) (hm : L.length < 1000000000) (hC : B.flatten.length < 1000000000) (d : Nat) :
    ∀ (k i : Nat) (acc : List Int), i + d = L.length → d + 401 < k → acc ++ (B.drop i).flatten = B.flatten → script_Encode.l0 k acc L (L.length : Int) (i : Int) = some B.flatten := by
  induction d with
  | zero =>
    intro k i acc hi hk ha
    obtain ⟨k, rfl⟩ : ∃ j, k = j + 1 := ⟨k - 1, by omega⟩
    rw [script_Encode.l0, if_neg (by omega)]
    rw [List.drop_of_length_le (by omega), List.flatten_nil, List.append_nil] at ha
    rw [ha]
  | succ d ih =>
    intro k i acc hi hk ha
    obtain ⟨k, rfl⟩ : ∃ j, k = j + 1 := ⟨k - 1, by omega⟩
    have h1 : i < B.length := by omega
    have h2 : i < L.length := by omega
    have hw : wrap64 ((i : Int) + 1) = ((i + 1 : Nat) : Int) := by rw [w64_id (by omega) (by omega)]; omega
    rw [List.drop_eq_getElem_cons h1, List.flatten_cons, ← List.append_assoc] at ha
    have hlen := congrArg List.length ha
    rw [List.length_append, List.length_append] at hlen
    rw [script_Encode.l0, if_pos (by omega), if_pos (by omega), if_pos (by omega), ev_at h2, hw]
    refine bind_to ((hg i h1 h2).2.2.2.2 k (by omega)) ?_
    rw [if_pos (by omega)]
    exact ih k (i + 1) (acc ++ B[i]) (by omega) (by omega) ha
theorem encode_good (L : List S41) (B : List (List Int)) (hB : B.length = L.length) (hg : ∀ i (h1 : i < B.length) (h2 : i < L.length), Good L[i] B[i]) (hm : L.length < 1000000000) (hC : B.flatten.length < 1000000000) (k : Nat) (hk : L.length + 401 < k) : script_Encode.f k L = some B.flatten := by
  unfold script_Encode.f
  exact encode_loop L B hB hg hm hC L.length k 0 [] (by omega) hk (by rw [List.drop_zero, List.nil_append])
end Go.Proofs.Ytpoejopnjkcdpaa.St
