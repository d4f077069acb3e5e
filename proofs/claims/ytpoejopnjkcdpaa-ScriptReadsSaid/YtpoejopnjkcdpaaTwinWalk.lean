/- The calls of Twin, Kept and Spoil: Twin makes a twin; Kept is true of a twin that stands; Spoil changes one row alone. Bound: at most 2^20 bytes. -/
import Derived.Test.YtpoejopnjkcdpaaTwin
namespace Go.Proofs.Ytpoejopnjkcdpaa.Twin
open Go.RowKit Go.Proofs.Ytpoejopnjkcdpaa.QA Go.Proofs.YtpoejopnjkcdpaaW.PrintWords Go.Proofs.YtpoejopnjkcdpaaW.PrintLast Go.Proofs.YtpoejopnjkcdpaaW.PrintMore
attribute [local go_sem] max2_int min2_int max_two min_two max_three min_three max_four min_four
set_option linter.unusedVariables false
set_option linter.unusedSimpArgs false

theorem size5 : (Try.prog.info? 5).map (·.size) = some 1 := by kernel_rfl
/-- What stands in the row before the j-th byte of room is written. -/
def mid (l : List Int) (j : Nat) : List Int := l ++ (List.replicate j 229 ++ List.replicate (3 - j) 0)
theorem mid_len (l : List Int) (j : Nat) (h : j ≤ 3) : (mid l j).length = l.length + 3 := by unfold mid; simp; omega
theorem mid_set (l : List Int) (j : Nat) (h : j < 3) : (mid l j).set (l.length + j) 229 = mid l (j + 1) := by
  unfold mid
  rw [List.set_append_right _ _ (by omega), Nat.add_sub_cancel_left]
  congr 1
  rcases j with _ | _ | _ | j
  · rfl
  · rfl
  · rfl
  · omega
theorem splice_twin (l : List Int) : splice (nums .u8 (List.replicate (l.length + 3) 0)) 0 (nums .u8 l) = nums .u8 (mid l 0) := by
  unfold splice mid nums
  simp
theorem nums_one {l : List Int} (v : Value) (hv : v ∈ nums .u8 l) : v.oneCell' = true := by
  simp only [nums, List.mem_map] at hv
  obtain ⟨x, _, rfl⟩ := hv
  rfl
theorem copy_src {w w1 : World} {A : Option Addr} {l : List Int} (hp : 0 < l.length) (h : Kd.C (Kd.int .u8) w A l.length l) (hb : Below w.heap.size w w1) : ∃ ad, A = some ad ∧ ∀ j v, (nums .u8 l)[j]? = some v → w1.cell? (ad.add j) = some v := by
  have hr := Kd.reads_of_C (enc := Value.int .u8) (d := 0) (Kd.C_below h hb)
  obtain ⟨ad, ha, hc⟩ := hr.2.2 hp
  refine ⟨ad, ha, fun j v hv => ?_⟩
  simp only [nums, List.getElem?_map, Option.map_eq_some_iff] at hv
  obtain ⟨x, hx, rfl⟩ := hv
  have hj := (List.getElem?_eq_some_iff.1 hx).1
  rw [hc j hj, List.getD_eq_getElem?_getD, hx]
  rfl
def TwinPost (w : World) (l : List Int) (e : Ending) (w' : World) : Prop := ∃ g, e = .returned (.slice (some ⟨g, 0, none⟩) l.length (l.length + 3)) ∧ TwinAt w' g l ∧ w.heap.size ≤ g ∧ Below w.heap.size w w'

set_option maxHeartbeats 8000000 in
set_option maxRecDepth 100000 in
theorem twin_calls (A0 : Option Addr) (c0 : Nat) (l0 : List Int) (w : World) (hr0 : Kd.C (Kd.int .u8) w A0 l0.length l0) (hc0 : l0.length ≤ c0) (hm : l0.length ≤ 1048576) :
    Calls Try.prog 8 #[.slice A0 l0.length c0] w (TwinPost w l0) := by
  have HR0 := Aside0.mk hr0
  have HC0 := Aside0.mk hc0
  clear hr0 hc0
  go_enter Try.func8, Try.ntmps8
  go_wp2_with (first | ((with_reducible refine gate_dst (N := 8) rfl ?_); refine make_exact rfl 22 0 0 _ _ rfl _ (l0.length + 3) (by omega) rfl rfl Try.underlying22 info5 (by omega) ?_; intro g w1 Hg Hr Hb; have HB := Aside0.mk Hb; clear Hb) | ((with_reducible refine gate_builtin (b := .copy) (xs := #[.tmp 9, .tmp 10]) rfl ?_); refine wpList_copy_splice rfl (.tmp 9) (.tmp 10) 22 22 rfl 5 Try.underlying22 size5 (some ⟨g, 0, none⟩) A0 (l0.length + 3) (l0.length + 3) l0.length c0 rfl rfl g 0 (nums .u8 (List.replicate (l0.length + 3) 0)) 5 Hr.out (nums .u8 l0) ?c1 ?c2 ?c3 ?c4 w.heap.size w HB.out ?c5 ?c6; (case c1 => simp only [nums, List.length_map]; exact (Nat.min_eq_left (Nat.le_add_right _ _)).symm); (case c2 => intro hp; exact ⟨rfl, copy_src (by simpa [nums] using hp) HR0.out HB.out⟩); (case c3 => simp [nums]; try omega); (case c4 => intro v hv; exact nums_one v hv); (case c5 => exact Nat.le_of_eq Hg.out.symm); intro w2 HG2 hB2; rw [splice_twin] at HG2; have HB2 := Aside0.mk hB2; clear hB2))
  go_loopw [4] (fun i wr => ∃ j : Nat, j ≤ 3 ∧ i = .int .i64 ((l0.length + j : Nat) : Int) ∧ Aside0 (Full wr g (mid l0 j)) ∧ Aside0 (Below w.heap.size w wr)) (fun i _ => l0.length + 3 - (intOf i).toNat)
  case atStart => exact ⟨0, by omega, rfl, ⟨full_of_heap HG2.out (by rw [mid_len _ _ (by omega)]; unfold maxLen; omega)⟩, HB2⟩
  case round =>
    obtain ⟨j, hj, rfl, HF, HBr⟩ := hrel
    by_cases h3 : j < 3
    · have hat := full_at HF.out (l0.length + j) (by rw [mid_len _ _ hj]; omega)
      obtain ⟨hc1, hc2⟩ := hat
      go_wp2
      go_roundw
      case rel => exact ⟨j + 1, by omega, by go_num, ⟨by have := full_put HF.out (l0.length + j) 229; rwa [mid_set _ _ h3] at this⟩, ⟨HBr.out.setCell (by rw [Hg.out]; exact Nat.le_refl _) _⟩⟩
      case measure => simp [intOf]; omega
    · obtain rfl : j = 3 := by omega
      go_wp2
      go_ret
      exact ⟨g, rfl, by have := HF.out; exact this, Nat.le_of_eq Hg.out.symm, HBr.out⟩

theorem rd_room (l : List Int) (j : Nat) (h : j < 3) : rd (l ++ [229, 229, 229]) ((l.length + j : Nat) : Int) = 229 := by
  unfold rd
  rw [Int.toNat_natCast, List.getD_eq_getElem?_getD, List.getElem?_append_right (by omega), Nat.add_sub_cancel_left]
  rcases j with _ | _ | _ | j
  · rfl
  · rfl
  · rfl
  · omega
set_option maxHeartbeats 8000000 in
set_option maxRecDepth 100000 in
theorem kept_calls (g : Nat) (A0 : Option Addr) (c0 : Nat) (l0 : List Int) (w : World) (hT : TwinAt w g l0) (hr0 : Kd.C (Kd.int .u8) w A0 l0.length l0) (hc0 : l0.length ≤ c0) (hm : l0.length ≤ 1048576) :
    Calls Try.prog 10 #[.slice (some ⟨g, 0, none⟩) l0.length (l0.length + 3), .slice A0 l0.length c0] w fun e w' => e = .returned (.bool true) ∧ w = w' := by
  have hcv1 := Kd.C_string (P := Try.prog) (A := some ⟨g, 0, none⟩) (c := l0.length + 3) Try.underlying22 Try.underlying5 Try.underlying9 (twin_C hT)
  have hcv2 := Kd.C_string (P := Try.prog) (A := A0) (c := c0) Try.underlying22 Try.underlying5 Try.underlying9 hr0
  have HT := Aside0.mk hT
  clear hT hr0 hc0
  go_enter Try.func10, Try.ntmps10
  go_wp2
  clear hcv1 hcv2
  go_loop [6] (fun i => ∃ j : Nat, j ≤ 3 ∧ i = .int .i64 ((l0.length + j : Nat) : Int)) (fun i => l0.length + 3 - (intOf i).toNat)
  case atStart => exact ⟨0, by omega, rfl⟩
  case round =>
    obtain ⟨j, hj, rfl⟩ := hrel
    by_cases h3 : j < 3
    · have hat := full_at (show Full w g (l0 ++ [229, 229, 229]) from HT.out) (l0.length + j) (by simp; omega)
      rw [rd_room l0 j h3] at hat
      obtain ⟨hc1, hc2⟩ := hat
      go_wp2
      go_round
      case rel => exact ⟨j + 1, by omega, by go_num⟩
      case measure => simp [intOf]; omega
    · obtain rfl : j = 3 := by omega
      go_wp2
      go_ret
      exact ⟨rfl, rfl⟩

def Row5 (w : World) (g c : Nat) : Prop := ∃ cur, w.heap[g]? = some (.cells cur 5 (0, 0)) ∧ cur.size = c
theorem row5_at {w : World} {g c : Nat} (h : Row5 w g c) (i : Nat) (hi : i < c) : ∃ v, w.cell? ⟨g, i, none⟩ = some v ∧ w.frozen? ⟨g, i, none⟩ = false := by
  obtain ⟨cur, h1, h2⟩ := h
  refine ⟨cur[i], ?_, ?_⟩
  · unfold World.cell?
    rw [h1]
    simp [h2, hi]
  · simp [World.frozen?, h1]
theorem row5_set {w : World} {g c : Nat} (h : Row5 w g c) (i : Nat) (v : Value) : Row5 (w.setCell ⟨g, i, none⟩ v) g c := by
  obtain ⟨cur, h1, h2⟩ := h
  exact ⟨_, heap_setCell_same w g i cur 5 v h1, by simpa using h2⟩
theorem row5_keep {w : World} {g c : Nat} (h : Row5 w g c) (a : Addr) (v : Value) (hm : a.spot = none) : Row5 (w.setCell a v) g c := by
  by_cases e : g = a.block
  · subst e
    obtain ⟨b, o, m⟩ := a
    cases hm
    exact row5_set h o v
  · obtain ⟨cur, h1, h2⟩ := h
    exact ⟨cur, (Below.heap_setCell w a v g e).trans h1, h2⟩
/-- Only the block of a row is turned, and rows of bytes keep their sizes. -/
def Turned (w w' : World) (r : Option Nat) : Prop := w'.os = w.os ∧ w'.tape = w.tape ∧ w'.output = w.output ∧ w'.heap.size = w.heap.size ∧ (∀ k, some k ≠ r → w'.heap[k]? = w.heap[k]?) ∧ ∀ k c, Row5 w k c → Row5 w' k c
theorem Turned.below {w w' : World} {r : Option Nat} (h : Turned w w' r) {B : Nat} (hr : ∀ k, r = some k → B ≤ k) : Below B w w' :=
  ⟨h.1, h.2.1, h.2.2.1, Nat.le_of_eq h.2.2.2.1.symm, fun k hk => h.2.2.2.2.1 k (fun he => by have := hr k he.symm; omega)⟩
theorem Turned.refl (w : World) (r : Option Nat) : Turned w w r := ⟨rfl, rfl, rfl, rfl, fun _ _ => rfl, fun _ _ h => h⟩
theorem Turned.set {w w' : World} {g : Nat} (h : Turned w w' (some g)) (i : Nat) (v : Value) : Turned w (w'.setCell ⟨g, i, none⟩ v) (some g) := by
  obtain ⟨h1, h2, h3, h4, h5, h6⟩ := h
  have hb := (Below.refl 0 w').setCell (p := ⟨g, i, none⟩) (Nat.zero_le _) v
  exact ⟨hb.os.trans h1, hb.tape.trans h2, hb.output.trans h3, by simpa using h4, fun k hk => (Below.heap_setCell w' ⟨g, i, none⟩ v k (fun he => hk (by simp [he]))).trans (h5 k hk), fun k c hr => row5_keep (h6 k c hr) _ _ rfl⟩
/-- A slice that Spoil may write over: nil, or one at the head of a row of bytes of the call's own. -/
def Loose (w : World) (base : Nat) (v : Value) : Prop := v = .slice none 0 0 ∨ ∃ g n c, v = .slice (some ⟨g, 0, none⟩) n c ∧ base ≤ g ∧ Row5 w g c ∧ n ≤ c ∧ c ≤ maxLen
theorem loose_of_R {w : World} {base : Nat} {ok : Nat → Prop} {v : Value} {l : List Int} (h : Kd.R (Kd.int .u8) 5 w base ok v l) : Loose w base v := by
  obtain ⟨inner, ho⟩ := Kd.R_own h
  rcases ho.2 with ⟨rfl, _⟩ | ⟨g, cap, cur, rfl, hg, hh, hn, hc, hs, _⟩
  · exact .inl rfl
  · exact .inr ⟨g, _, cap, rfl, hg, ⟨cur, hh, by simpa [Kd.int, Kd.scalar] using hs⟩, hn, hc⟩
theorem loose_turned {w w' : World} {r : Option Nat} {base : Nat} {v : Value} (ht : Turned w w' r) (h : Loose w base v) : Loose w' base v := by
  rcases h with h | ⟨g, n, c, h1, h2, h3, h4, h5⟩
  · exact .inl h
  · exact .inr ⟨g, n, c, h1, h2, ht.2.2.2.2.2 g c h3, h4, h5⟩
theorem spoil_nil (w : World) : Calls Try.prog 11 #[.slice none 0 0] w fun e w' => e = .returned (.tuple #[]) ∧ Turned w w' none := by
  go_enter Try.func11, Try.ntmps11
  go_wp2
  go_loop [3] (fun i => i = .int .i64 0) (fun _ => 0)
  case atStart => rfl
  case round =>
    obtain rfl := hrel
    go_wp2
    go_end0
    exact ⟨rfl, Turned.refl _ _⟩
set_option maxHeartbeats 8000000 in
set_option maxRecDepth 100000 in
theorem spoil_row (g n c : Nat) (w : World) (hr : Row5 w g c) (hn : n ≤ c) (hc : c ≤ maxLen) :
    Calls Try.prog 11 #[.slice (some ⟨g, 0, none⟩) n c] w fun e w' => e = .returned (.tuple #[]) ∧ Turned w w' (some g) := by
  unfold maxLen at hc
  have HR := Aside0.mk hr
  clear hr
  go_enter Try.func11, Try.ntmps11
  go_wp2
  go_loopw [3] (fun i wr => ∃ j : Nat, j ≤ c ∧ i = .int .i64 (j : Int) ∧ Aside0 (Turned w wr (some g)) ∧ Aside0 (Row5 wr g c)) (fun i _ => c - (intOf i).toNat)
  case atStart => exact ⟨0, by omega, rfl, ⟨Turned.refl _ _⟩, HR⟩
  case round =>
    obtain ⟨j, hj, rfl, HT, HR2⟩ := hrel
    by_cases h3 : j < c
    · obtain ⟨v, hc1, hc2⟩ := row5_at HR2.out j h3
      go_wp2
      go_roundw
      case rel => exact ⟨j + 1, by omega, by go_num, ⟨HT.out.set j _⟩, ⟨row5_set HR2.out j _⟩⟩
      case measure => simp [intOf]; omega
    · obtain rfl : j = c := by omega
      go_wp2
      go_end0
      exact ⟨rfl, HT.out⟩
/-- Spoil of what it may write over. -/
theorem spoil_loose (base : Nat) (v : Value) (w : World) (h : Loose w base v) :
    Calls Try.prog 11 #[v] w fun e w' => e = .returned (.tuple #[]) ∧ Turned w w' v.ownBlock ∧ ∀ k, v.ownBlock = some k → base ≤ k := by
  rcases h with rfl | ⟨g, n, c, rfl, hg, hh, hn, hc⟩
  · exact (spoil_nil w).mono fun e w' ⟨h1, h2⟩ => ⟨h1, h2, fun k hk => by cases hk⟩
  · refine (spoil_row g _ c w hh hn hc).mono fun e w' ⟨h1, h2⟩ => ⟨h1, h2, fun k hk => ?_⟩
    have : g = k := by simpa [Value.ownBlock] using hk
    omega
/-- Spoil of a row of the call's own. -/
theorem spoil_calls (base : Nat) (ok : Nat → Prop) (v : Value) (l : List Int) (w : World) (h : Kd.R (Kd.int .u8) 5 w base ok v l) :
    Calls Try.prog 11 #[v] w fun e w' => e = .returned (.tuple #[]) ∧ Turned w w' v.ownBlock ∧ ∀ k, v.ownBlock = some k → base ≤ k := spoil_loose base v w (loose_of_R h)
/-- Spoil of a twin. -/
theorem spoil_twin (g : Nat) (l : List Int) (w : World) (h : TwinAt w g l) (hm : l.length ≤ 1048576) :
    Calls Try.prog 11 #[.slice (some ⟨g, 0, none⟩) l.length (l.length + 3)] w fun e w' => e = .returned (.tuple #[]) ∧ Turned w w' (some g) :=
  spoil_row g _ _ w ⟨_, full_heap h (by simp), by simp [nums]⟩ (by omega) (by unfold maxLen; omega)
end Go.Proofs.Ytpoejopnjkcdpaa.Twin
