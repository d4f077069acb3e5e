/- The calls of Twin, Kept and Spoil: Twin makes a twin; Kept is true of a twin that stands; Spoil changes one row alone. Bound: at most 2^20 bytes. -/
import Derived.Test.YtpoejopnjkcdpaaZTwin
namespace Go.Proofs.Ytpoejopnjkcdpaa.Twin
open Go.RowKit Go.Proofs.Ytpoejopnjkcdpaa.QA Go.Proofs.YtpoejopnjkcdpaaW.PrintWords Go.Proofs.YtpoejopnjkcdpaaW.PrintLast Go.Proofs.YtpoejopnjkcdpaaW.PrintMore
attribute [local go_sem] max2_int min2_int max_two min_two max_three min_three max_four min_four
set_option linter.unusedVariables false
set_option linter.unusedSimpArgs false
def Row5 (w : World) (g c : Nat) : Prop := ∃ cur, w.heap[g]? = some (.cells cur 5 (0, 0)) ∧ cur.size = c
theorem row5_at {w : World} {g c : Nat} (h : Row5 w g c) (i : Nat) (hi : i < c) : ∃ v, w.cell? ⟨g, i, none⟩ = some v ∧ w.frozen? ⟨g, i, none⟩ = false := by
 obtain ⟨cur, h1, h2⟩ := h
 refine ⟨cur[i], ?_, ?_⟩
 ·unfold World.cell?
  rw [h1]
  simp [h2, hi]
 ·simp [World.frozen?, h1]
theorem row5_set {w : World} {g c : Nat} (h : Row5 w g c) (i : Nat) (v : Value) : Row5 (w.setCell ⟨g, i, none⟩ v) g c := by
 obtain ⟨cur, h1, h2⟩ := h
 exact ⟨_, heap_setCell_same w g i cur 5 v h1, by simpa using h2⟩
theorem row5_keep {w : World} {g c : Nat} (h : Row5 w g c) (a : Addr) (v : Value) (hm : a.spot = none) : Row5 (w.setCell a v) g c := by
 by_cases e : g = a.block
 ·subst e
  obtain ⟨b, o, m⟩ := a
  cases hm
  exact row5_set h o v
 ·obtain ⟨cur, h1, h2⟩ := h
  exact ⟨cur, (Below.heap_setCell w a v g e).trans h1, h2⟩
def Turned (w w' : World) (r : Option Nat) : Prop := w'.os = w.os ∧ w'.tape = w.tape ∧ w'.output = w.output ∧ w'.heap.size = w.heap.size ∧ (∀ k, some k ≠ r → w'.heap[k]? = w.heap[k]?) ∧ ∀ k c, Row5 w k c → Row5 w' k c
theorem Turned.below {w w' : World} {r : Option Nat} (h : Turned w w' r) {B : Nat} (hr : ∀ k, r = some k → B ≤ k) : Below B w w' :=
 ⟨h.1, h.2.1, h.2.2.1, Nat.le_of_eq h.2.2.2.1.symm, fun k hk => h.2.2.2.2.1 k (fun he => by have := hr k he.symm; omega)⟩
theorem Turned.refl (w : World) (r : Option Nat) : Turned w w r := ⟨rfl, rfl, rfl, rfl, fun _ _ => rfl, fun _ _ h => h⟩
theorem Turned.set {w w' : World} {g : Nat} (h : Turned w w' (some g)) (i : Nat) (v : Value) : Turned w (w'.setCell ⟨g, i, none⟩ v) (some g) := by
 obtain ⟨h1, h2, h3, h4, h5, h6⟩ := h
 have hb := (Below.refl 0 w').setCell (p := ⟨g, i, none⟩) (Nat.zero_le _) v
 exact ⟨hb.os.trans h1, hb.tape.trans h2, hb.output.trans h3, by simpa using h4, fun k hk => (Below.heap_setCell w' ⟨g, i, none⟩ v k (fun he => hk (by simp [he]))).trans (h5 k hk), fun k c hr => row5_keep (h6 k c hr) _ _ rfl⟩
def Loose (w : World) (base : Nat) (v : Value) : Prop := v = .slice none 0 0 ∨ ∃ g n c, v = .slice (some ⟨g, 0, none⟩) n c ∧ base ≤ g ∧ Row5 w g c ∧ n ≤ c ∧ c ≤ maxLen
theorem loose_of_R {w : World} {base : Nat} {ok : Nat → Prop} {v : Value} {l : List Int} (h : Kd.R (Kd.int .u8) 5 w base ok v l) : Loose w base v := by
 obtain ⟨inner, ho⟩ := Kd.R_own h
 rcases ho.2 with ⟨rfl, _⟩ | ⟨g, cap, cur, rfl, hg, hh, hn, hc, hs, _⟩
 ·exact .inl rfl
 ·exact .inr ⟨g, _, cap, rfl, hg, ⟨cur, hh, by simpa [Kd.int, Kd.scalar] using hs⟩, hn, hc⟩
theorem spoil_nil (w : World) : Calls Try.prog 11 #[.slice none 0 0] w fun e w' => e = .returned (.tuple #[]) ∧ Turned w w' none := by
 go_enter Try.func11, Try.ntmps11
 go_wp2
 go_loop [3] (fun i => i = .int .i64 0) (fun _ => 0)
 case atStart => rfl
 case round =>
  obtain rfl := hrel
  go_wp2
  go_end0
  exact ⟨rfl, Turned.refl _ _⟩
set_option maxHeartbeats 8000000 in
set_option maxRecDepth 100000 in
theorem spoil_row (g n c : Nat) (w : World) (hr : Row5 w g c) (hn : n ≤ c) (hc : c ≤ maxLen) :
  Calls Try.prog 11 #[.slice (some ⟨g, 0, none⟩) n c] w fun e w' => e = .returned (.tuple #[]) ∧ Turned w w' (some g) := by
 unfold maxLen at hc
 have HR := Aside0.mk hr
 clear hr
 go_enter Try.func11, Try.ntmps11
 go_wp2
 go_loopw [3] (fun i wr => ∃ j : Nat, j ≤ c ∧ i = .int .i64 (j : Int) ∧ Aside0 (Turned w wr (some g)) ∧ Aside0 (Row5 wr g c)) (fun i _ => c - (intOf i).toNat)
 case atStart => exact ⟨0, by omega, rfl, ⟨Turned.refl _ _⟩, HR⟩
 case round =>
  obtain ⟨j, hj, rfl, HT, HR2⟩ := hrel
  by_cases h3 : j < c
  ·obtain ⟨v, hc1, hc2⟩ := row5_at HR2.out j h3
   go_wp2
   go_roundw
   case rel => exact ⟨j + 1, by omega, by go_num, ⟨HT.out.set j _⟩, ⟨row5_set HR2.out j _⟩⟩
   case measure => simp [intOf]; omega
  ·obtain rfl : j = c := by omega
   go_wp2
   go_end0
   exact ⟨rfl, HT.out⟩
theorem spoil_loose (base : Nat) (v : Value) (w : World) (h : Loose w base v) :
  Calls Try.prog 11 #[v] w fun e w' => e = .returned (.tuple #[]) ∧ Turned w w' v.ownBlock ∧ ∀ k, v.ownBlock = some k → base ≤ k := by
 rcases h with rfl | ⟨g, n, c, rfl, hg, hh, hn, hc⟩
 ·exact (spoil_nil w).mono fun e w' ⟨h1, h2⟩ => ⟨h1, h2, fun k hk => by cases hk⟩
 ·refine (spoil_row g _ c w hh hn hc).mono fun e w' ⟨h1, h2⟩ => ⟨h1, h2, fun k hk => ?_⟩
  have : g = k := by simpa [Value.ownBlock] using hk
  omega
end Go.Proofs.Ytpoejopnjkcdpaa.Twin

