/- What bytes say, in plain words: one event, what stands behind it; all events. The program's reader as a plain function says just this. Conditions: bytes from 0 to 255, nodes from 1 to 9. -/
import Derived.Test.YtpoejopnjkcdpaaZQAx3
import Derived.Test.YtpoejopnjkcdpaaZCodec
namespace Go.Proofs.Ytpoejopnjkcdpaa.St
set_option linter.unusedSimpArgs false
open Go.RowKit Go.Proofs.Ytpoejopnjkcdpaa.QA Go.Proofs.YtpoejopnjkcdpaaW.PrintWords Go.Proofs.YtpoejopnjkcdpaaW.PrintLast Go.Proofs.YtpoejopnjkcdpaaW.PrintMore Go.Proofs.Ytpoejopnjkcdpaa.Facts Go.Proofs.Ytpoejopnjkcdpaa.Codec
abbrev noText : ByteArray := ⟨#[]⟩
def st : List Int → Int → Option (Option S41 × List Int)
 | [], _ => none
 | c :: t, n =>
  if c % 16 = 4 then (match t with | x :: h :: v :: r => some (some ⟨2, x % n + 1, 0, h * 256 + v, noText, [], z39⟩, r) | _ => none)
  else if c % 16 = 5 ∨ c % 16 = 6 ∨ c % 16 = 7 then (match t with | x :: r => some (some ⟨3, 0, x, 0, noText, [], z39⟩, r) | _ => none)
  else if c % 16 = 8 then (match t with | x :: r => some (some ⟨4, 0, x, 0, noText, [], z39⟩, r) | _ => none)
  else if c % 16 = 9 then (match t with | x :: r => some (some ⟨5, 0, x, 0, noText, [], z39⟩, r) | _ => none)
  else if c % 16 = 10 then (match t with | x :: m :: r => if (r.length : Int) < m then none else some (some ⟨6, x % n + 1, 0, 0, strOfNums (r.take m.toNat), [], z39⟩, r.drop m.toNat) | _ => none)
  else if c % 16 = 11 then (match t with | x :: y :: z :: r => some (some ⟨7, x % n + 1, 0, 0, noText, [y, z], z39⟩, r) | _ => none)
  else if c % 16 = 12 then (match t with | x :: r => some (some ⟨8, x % n + 1, 0, 0, noText, [], z39⟩, r) | _ => none)
  else if c % 16 = 13 then (match t with | x :: y :: r => some (some ⟨9, x % n + 1, y, 0, noText, [], z39⟩, r) | _ => none)
  else if c % 16 = 14 then (match t with | x :: y :: h :: v :: r => some (some ⟨12, x % n + 1, y, h * 256 + v, noText, [], z39⟩, r) | _ => none)
  else if c % 16 = 15 then some (none, t)
  else (match t with | x :: r => some (some ⟨1, x % n + 1, 0, 0, noText, [], z39⟩, r) | _ => none)
def dec : Nat → List Int → Int → List S41
 | 0, _, _ => []
 | m + 1, l, n => match st l n with
  | none => []
  | some (some e, r) => e :: dec m r n
  | some (none, r) => dec m r n
theorem kinds (c : Int) : c % 16 = 0 ∨ c % 16 = 1 ∨ c % 16 = 2 ∨ c % 16 = 3 ∨ c % 16 = 4 ∨ c % 16 = 5 ∨ c % 16 = 6 ∨ c % 16 = 7 ∨ c % 16 = 8 ∨ c % 16 = 9 ∨ c % 16 = 10 ∨ c % 16 = 11 ∨ c % 16 = 12 ∨ c % 16 = 13 ∨ c % 16 = 14 ∨ c % 16 = 15 := by omega
theorem st_rest {l : List Int} {n : Int} {e : Option S41} {r : List Int} (h : st l n = some (e, r)) : r.length < l.length ∧ ∀ x ∈ r, x ∈ l := by
 cases l with
 | nil => cases h
 | cons c t =>
  rcases kinds c with hk | hk | hk | hk | hk | hk | hk | hk | hk | hk | hk | hk | hk | hk | hk | hk
  all_goals
   rcases t with _ | ⟨x, _ | ⟨y, _ | ⟨z, _ | ⟨v, t⟩⟩⟩⟩
   all_goals simp [st, hk] at h
   all_goals (try (obtain ⟨rfl, rfl⟩ := h))
   all_goals first
    | exact ⟨by simp only [List.length_cons, List.length_nil]; omega, fun q hq => by simp_all⟩
    | (obtain ⟨h1, rfl, rfl⟩ := h; exact ⟨by simp only [List.length_cons, List.length_drop, List.length_nil]; omega, fun q hq => by first | (have := List.mem_of_mem_drop hq; simp_all; done) | simp_all⟩)
theorem tmod_pos {c n : Int} (h : 0 ≤ c) : Int.tmod c n = c % n := Int.tmod_eq_emod_of_nonneg h
theorem event_st (l : List Int) (n : Int) (hb : Bytes l) (hl : l ≠ []) : match st l n with
  | none => (script_Decode.event l false n).2.2.2 = true
  | some (some e, r) => script_Decode.event l false n = (e, true, r, false)
  | some (none, r) => script_Decode.event l false n = (z41, false, r, false) := by
 cases l with
 | nil => exact absurd rfl hl
 | cons c t =>
  have hc := hb c List.mem_cons_self
  have ht : ∀ x ∈ t, 0 ≤ x ∧ x < 256 := fun x hx => hb x (List.mem_cons_of_mem _ hx)
  have ht1 : Int.tmod c 16 = c % 16 := tmod_pos hc.1
  rcases kinds c with hk | hk | hk | hk | hk | hk | hk | hk | hk | hk | hk | hk | hk | hk | hk | hk
  all_goals
   rcases t with _ | ⟨x, _ | ⟨y, _ | ⟨z, _ | ⟨v, t⟩⟩⟩⟩
   all_goals (try have hx := tmod_pos (n := n) (ht x (by simp)).1)
   all_goals (try have hm := (ht y (by simp)).1)
   all_goals simp [st, script_Decode.event, script_Decode.byte, script_Decode.node, script_Decode.wall, script_Decode.text, ht1, hk, *]
  ·by_cases hh : (0 : Int) < y <;> simp [hh]
  ·by_cases hh : (1 : Int) < y <;> simp [hh]
  ·by_cases hh : (t.length : Int) + 1 + 1 < y <;> simp [hh]
theorem prog_loop (n : Int) (m : Nat) : ∀ (k : Nat) (l : List Int) (acc : List S41), Bytes l → l.length ≤ m → l.length < k → acc.length + l.length < 1000000000 → script_Decode.l0 k l n acc = some (acc ++ dec m l n) := by
 induction m with
 | zero =>
  intro k l acc hb hm hk ha
  obtain rfl : l = [] := List.eq_nil_of_length_eq_zero (by omega)
  obtain ⟨k, rfl⟩ : ∃ j, k = j + 1 := ⟨k - 1, by omega⟩
  rw [script_Decode.l0, if_pos rfl, dec, List.append_nil]
 | succ m ih =>
  intro k l acc hb hm hk ha
  obtain ⟨k, rfl⟩ : ∃ j, k = j + 1 := ⟨k - 1, by omega⟩
  rw [script_Decode.l0, dec]
  by_cases hl : l = []
  ·subst hl
   rw [if_pos rfl]
   simp [st]
  ·rw [if_neg hl]
   have he := event_st l n hb hl
   rcases hs : st l n with _ | ⟨_ | e, r⟩
   ·rw [hs] at he
    simp only at he ⊢
    rw [if_pos he, List.append_nil]
   ·rw [hs] at he
    have hr := st_rest hs
    simp only at he ⊢
    rw [he, if_neg (show ¬ (false = true) by decide), if_neg (show ¬ (false = true) by decide)]
    exact ih k r acc (fun x hx => hb x (hr.2 x hx)) (by omega) (by omega) (by omega)
   ·rw [hs] at he
    have hr := st_rest hs
    simp only at he ⊢
    rw [he, if_neg (show ¬ (false = true) by decide), if_pos rfl, if_pos (by have := hr.1; omega)]
    have h2 := ih k r (acc ++ [e]) (fun x hx => hb x (hr.2 x hx)) (by omega) (by omega) (by simp only [List.length_append, List.length_singleton]; omega)
    simp only
    rw [h2, List.append_assoc]
    rfl
def nn (a : Int) : Int := if a < 1 then 1 else if a > 9 then 1 else a
theorem nn_range (a : Int) : 1 ≤ nn a ∧ nn a ≤ 9 := by unfold nn; split; exact ⟨by omega, by omega⟩; split; exact ⟨by omega, by omega⟩; exact ⟨by omega, by omega⟩
theorem prog_decode (k : Nat) {l : List Int} (a : Int) (hb : Bytes l) (hl : l.length < 900000000) (hk : l.length < k) : script_Decode.f k l a = some (dec l.length l (nn a)) := by
 unfold script_Decode.f
 have hall : l.all (fun x => decide (0 ≤ x) && decide (x < 256)) = true := by
  rw [List.all_eq_true]
  intro x hx
  have := hb x hx
  simp [this.1, this.2]
 rw [if_pos hall]
 have := prog_loop (script_Decode.nodes a) l.length k l [] hb (Nat.le_refl _) hk (by simp only [List.length_nil]; omega)
 rw [List.nil_append] at this
 exact this
def Told (n : Int) (e : S41) : Prop := (((e.f0 = 3 ∨ e.f0 = 4 ∨ e.f0 = 5) ∧ e.f1 = 0) ∨ ((e.f0 = 1 ∨ e.f0 = 2 ∨ e.f0 = 6 ∨ e.f0 = 7 ∨ e.f0 = 8 ∨ e.f0 = 9 ∨ e.f0 = 12) ∧ 1 ≤ e.f1)) ∧ e.f1 ≤ n
theorem st_told {l : List Int} {n : Int} {e : S41} {r : List Int} (hn : 1 ≤ n) (h : st l n = some (some e, r)) : Told n e := by
 have hp : ∀ x : Int, 1 ≤ x % n + 1 ∧ x % n + 1 ≤ n := fun x => by
  have h1 := Int.emod_nonneg x (show n ≠ 0 by omega)
  have h2 := Int.emod_lt_of_pos x (show 0 < n by omega)
  omega
 cases l with
 | nil => cases h
 | cons c t =>
  rcases kinds c with hk | hk | hk | hk | hk | hk | hk | hk | hk | hk | hk | hk | hk | hk | hk | hk
  all_goals
   rcases t with _ | ⟨x, _ | ⟨y, _ | ⟨z, _ | ⟨v, t⟩⟩⟩⟩
   all_goals simp [st, hk] at h
   all_goals first
    | (obtain ⟨rfl, rfl⟩ := h; have := hp x; simp [Told] <;> omega)
    | (obtain ⟨h1, rfl, rfl⟩ := h; have := hp x; simp [Told] <;> omega)
end Go.Proofs.Ytpoejopnjkcdpaa.St

