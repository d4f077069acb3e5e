/- What the statements' bounds on commands and parts tell: they come to an answer, and where it is true few short texts are there. No condition beyond the rows' lengths. -/
import Derived.Test.YtjfgapaohldbkaaZQAx11
import Derived.Test.YtjfgapaohldbkaaZQAx12
import Derived.Test.YtjfgapaohldbkaaZWireWr
namespace Go.Proofs.Ytjfgapaohldbkaa.WireLt
open Go.RowKit Go.Proofs.Ytjfgapaohldbkaa.QA Go.Proofs.YtjfgapaohldbkaaW.PrintWords Go.Proofs.Ytjfgapaohldbkaa.Facts Go.Proofs.Ytjfgapaohldbkaa.Codec Go.Proofs.Ytjfgapaohldbkaa.WireC Go.Proofs.Ytjfgapaohldbkaa.WireLaw Go.Proofs.Ytjfgapaohldbkaa.WireWr
set_option linter.unusedSimpArgs false
set_option linter.unusedVariables false
def szS (l : List S65) : Nat := (l.map fun x => x.f0.size + x.f1.size).sum
def szW (l : List S67) : Nat := (l.map fun x => x.f0.size + x.f2.size).sum
theorem szS_cons (x : S65) (l : List S65) : szS (x :: l) = x.f0.size + x.f1.size + szS l := by simp [szS]
theorem szW_cons (x : S67) (l : List S67) : szW (x :: l) = x.f0.size + x.f2.size + szW l := by simp [szW]
def LightC (c : CmdV) : Prop := c.spans.length < 100 ∧ c.writes.length < 100 ∧ szS c.spans + szW c.writes < 8192
def l1C (c : CmdV) (k : Nat) (n i : Int) : Option Bool := antipodelaw14_LightCmd.l1 k n i c.kind c.epoch c.node c.home c.by_.f0 c.by_.f1 c.by_.f2 c.by_.f3 c.at_.f0 c.at_.f1 c.wall c.yes c.spans c.writes
def l0C (c : CmdV) (k : Nat) (n i : Int) : Option Bool := antipodelaw14_LightCmd.l0 k n i c.kind c.epoch c.node c.home c.by_.f0 c.by_.f1 c.by_.f2 c.by_.f3 c.at_.f0 c.at_.f1 c.wall c.yes c.spans c.writes
def lightF (k : Nat) (c : CmdV) : Option Bool := antipodelaw14_LightCmd.f k c.kind c.epoch c.node c.home c.by_.f0 c.by_.f1 c.by_.f2 c.by_.f3 c.at_.f0 c.at_.f1 c.wall c.yes c.spans c.writes
theorem l1C_f (c : CmdV) (hs : c.writes.length ≤ 9223372036854775807) (d : Nat) : ∀ (k i n : Nat), i + d = c.writes.length → 2 * d + 2 < k → n < 32768 → ∃ b, l1C c k (n : Int) (i : Int) = some b ∧ (b = true → c.spans.length < 100 ∧ c.writes.length < 100 ∧ n + szW (c.writes.drop i) < 8192) := by
 induction d with
 | zero =>
  intro k i n hi hk hn
  obtain ⟨k, rfl⟩ : ∃ m, k = m + 1 + 1 := ⟨k - 2, by omega⟩
  simp only [l1C, antipodelaw14_LightCmd.l1]
  rw [if_neg (by omega)]
  simp only [antipodelaw14_LightCmd.j3]
  rw [if_neg (by decide), List.drop_of_length_le (by omega)]
  by_cases c1 : (n : Int) < 8192
  ·rw [if_pos c1]
   by_cases c2 : (c.spans.length : Int) < 100
   ·rw [if_pos c2]
    exact ⟨_, rfl, fun h => ⟨by omega, by have := of_decide_eq_true h; omega, by simp [szW]; omega⟩⟩
   ·rw [if_neg c2]; exact ⟨false, rfl, fun h => by cases h⟩
  ·rw [if_neg c1]; exact ⟨false, rfl, fun h => by cases h⟩
 | succ d ih =>
  intro k i n hi hk hn
  obtain ⟨k, rfl⟩ : ∃ m, k = m + 1 + 1 := ⟨k - 2, by omega⟩
  have h0 : i < c.writes.length := by omega
  simp only [l1C, antipodelaw14_LightCmd.l1]
  rw [if_pos (by omega)]
  simp only [antipodelaw14_LightCmd.j3]
  by_cases c0 : (n : Int) < 16384
  ·rw [if_pos (decide_eq_true c0), if_pos (by omega), if_pos (by omega), rd67 h0]
   by_cases c1 : (c.writes[i].f0.size : Int) > 8192
   ·rw [if_pos c1]; exact ⟨false, rfl, fun h => by cases h⟩
   rw [if_neg c1]
   by_cases c2 : (c.writes[i].f2.size : Int) > 8192
   ·rw [if_pos c2]; exact ⟨false, rfl, fun h => by cases h⟩
   rw [if_neg c2, w64_id (x := (n : Int) + _) (by omega) (by omega), w64_id (by omega) (by omega), w64_id (x := (i : Int) + 1) (by omega) (by omega)]
   obtain ⟨b, h1, h2⟩ := ih k (i + 1) (n + c.writes[i].f0.size + c.writes[i].f2.size) (by omega) (by omega) (by omega)
   refine ⟨b, ?_, fun h => ?_⟩
   ·rw [show ((n : Int) + (c.writes[i].f0.size : Int) + (c.writes[i].f2.size : Int)) = ((n + c.writes[i].f0.size + c.writes[i].f2.size : Nat) : Int) by omega]
    exact h1
   ·obtain ⟨a1, a2, a3⟩ := h2 h
    refine ⟨a1, a2, ?_⟩
    rw [List.drop_eq_getElem_cons h0, szW_cons]
    omega
  ·rw [if_neg (by simpa using c0), if_neg (by omega)]
   exact ⟨false, rfl, fun h => by cases h⟩
theorem l0C_f (c : CmdV) (hs : c.spans.length ≤ 9223372036854775807) (hws : c.writes.length ≤ 9223372036854775807) (d : Nat) : ∀ (k i n : Nat), i + d = c.spans.length → 2 * d + 2 * c.writes.length + 8 < k → n < 32768 → ∃ b, l0C c k (n : Int) (i : Int) = some b ∧ (b = true → c.spans.length < 100 ∧ c.writes.length < 100 ∧ n + szS (c.spans.drop i) + szW c.writes < 8192) := by
 have go : ∀ (k n i : Nat), 2 * c.writes.length + 4 < k → n < 32768 → c.spans.length ≤ i ∨ ¬ (n : Int) < 16384 → ∃ b, l1C c k (n : Int) 0 = some b ∧ (b = true → c.spans.length < 100 ∧ c.writes.length < 100 ∧ n + szS (c.spans.drop i) + szW c.writes < 8192) := by
  intro k n i hk hn hi
  obtain ⟨b, h1, h2⟩ := l1C_f c hws c.writes.length k 0 n (by omega) (by omega) hn
  refine ⟨b, h1, fun h => ?_⟩
  obtain ⟨a1, a2, a3⟩ := h2 h
  rw [List.drop_zero] at a3
  refine ⟨a1, a2, ?_⟩
  rcases hi with hi | hi
  ·rw [List.drop_of_length_le hi]
   simp [szS]
   exact a3
  ·omega
 induction d with
 | zero =>
  intro k i n hi hk hn
  obtain ⟨k, rfl⟩ : ∃ m, k = m + 1 + 1 := ⟨k - 2, by omega⟩
  simp only [l0C, antipodelaw14_LightCmd.l0]
  rw [if_neg (by omega)]
  simp only [antipodelaw14_LightCmd.j1]
  rw [if_neg (by decide)]
  exact go k n i (by omega) hn (.inl (by omega))
 | succ d ih =>
  intro k i n hi hk hn
  obtain ⟨k, rfl⟩ : ∃ m, k = m + 1 + 1 := ⟨k - 2, by omega⟩
  have h0 : i < c.spans.length := by omega
  simp only [l0C, antipodelaw14_LightCmd.l0]
  rw [if_pos (by omega)]
  simp only [antipodelaw14_LightCmd.j1]
  by_cases c0 : (n : Int) < 16384
  ·rw [if_pos (decide_eq_true c0), if_pos (by omega), if_pos (by omega), rd65 h0]
   by_cases c1 : (c.spans[i].f0.size : Int) > 8192
   ·rw [if_pos c1]; exact ⟨false, rfl, fun h => by cases h⟩
   rw [if_neg c1]
   by_cases c2 : (c.spans[i].f1.size : Int) > 8192
   ·rw [if_pos c2]; exact ⟨false, rfl, fun h => by cases h⟩
   rw [if_neg c2, w64_id (x := (n : Int) + _) (by omega) (by omega), w64_id (by omega) (by omega), w64_id (x := (i : Int) + 1) (by omega) (by omega)]
   obtain ⟨b, h1, h2⟩ := ih k (i + 1) (n + c.spans[i].f0.size + c.spans[i].f1.size) (by omega) (by omega) (by omega)
   refine ⟨b, ?_, fun h => ?_⟩
   ·rw [show ((n : Int) + (c.spans[i].f0.size : Int) + (c.spans[i].f1.size : Int)) = ((n + c.spans[i].f0.size + c.spans[i].f1.size : Nat) : Int) by omega]
    exact h1
   ·obtain ⟨a1, a2, a3⟩ := h2 h
    refine ⟨a1, a2, ?_⟩
    rw [List.drop_eq_getElem_cons h0, szS_cons]
    omega
  ·rw [if_neg (by simpa using c0)]
   exact go k n i (by omega) hn (.inr c0)
theorem light_cmd (c : CmdV) (hs : c.spans.length ≤ 9223372036854775807) (hws : c.writes.length ≤ 9223372036854775807) : ∃ k b, lightF k c = some b ∧ (b = true → LightC c) := by
 obtain ⟨b, h1, h2⟩ := l0C_f c hs hws c.spans.length (2 * c.spans.length + 2 * c.writes.length + 9) 0 0 (by omega) (by omega) (by omega)
 refine ⟨_, b, h1, fun h => ?_⟩
 obtain ⟨a1, a2, a3⟩ := h2 h
 rw [List.drop_zero] at a3
 exact ⟨a1, a2, by omega⟩
theorem flat_spans (l : List S65) : (l.flatMap eSpan).length ≤ szS l + 20 * l.length := by
 induction l with
 | nil => simp
 | cons x l ih =>
  have h1 := eT_len x.f0
  have h2 := eT_len x.f1
  rw [List.flatMap_cons, List.length_append, szS_cons, List.length_cons]
  have : (eSpan x).length = (eT x.f0).length + (eT x.f1).length := by unfold eSpan; rw [List.length_append]
  omega
theorem flat_writes (l : List S67) : (l.flatMap eWrite).length ≤ szW l + 21 * l.length := by
 induction l with
 | nil => simp
 | cons x l ih =>
  have h1 := eT_len x.f0
  have h2 := eT_len x.f2
  rw [List.flatMap_cons, List.length_append, szW_cons, List.length_cons]
  have : (eWrite x).length = (eT x.f0).length + 1 + (eT x.f2).length := by unfold eWrite; rw [List.length_append, List.length_append, eF_len]
  omega
theorem light_len {c : CmdV} (h : LightC c) : (eCmd c).length ≤ 14000 := by
 obtain ⟨h1, h2, h3⟩ := h
 have e1 := eN_len c.kind
 have e2 := eN_len c.epoch
 have e3 := eN_len c.node
 have e4 := eN_len c.home
 have e5 := eY_len c.by_
 have e6 := eS_len c.at_
 have e7 := eN_len c.wall
 have e8 := eN_len (c.spans.length : Int)
 have e9 := eN_len (c.writes.length : Int)
 have f1 := flat_spans c.spans
 have f2 := flat_writes c.writes
 unfold eCmd eL
 simp only [List.length_append, eF_len, List.length_cons, List.length_nil]
 omega
theorem szS_mem {l : List S65} {x : S65} (h : x ∈ l) : x.f0.size + x.f1.size ≤ szS l := by
 induction l with
 | nil => cases h
 | cons y l ih =>
  rw [szS_cons]
  rcases List.mem_cons.1 h with rfl | h
  ·omega
  ·have := ih h; omega
theorem szW_mem {l : List S67} {x : S67} (h : x ∈ l) : x.f0.size + x.f2.size ≤ szW l := by
 induction l with
 | nil => cases h
 | cons y l ih =>
  rw [szW_cons]
  rcases List.mem_cons.1 h with rfl | h
  ·omega
  ·have := ih h; omega
theorem light_good {c : CmdV} (h : LightC c) (hg : gCmd0 c) : gCmd c := by
 obtain ⟨h1, h2, h3⟩ := h
 obtain ⟨a1, a2, a3, a4, a5, a6, a7⟩ := hg
 refine ⟨a1, a2, a3, a4, a5, a6, a7, ⟨by omega, fun x hx => ?_⟩, ⟨by omega, fun x hx => ?_⟩⟩
 ·have := szS_mem hx
  exact ⟨by unfold gT; omega, by unfold gT; omega⟩
 ·have := szW_mem hx
  exact ⟨by unfold gT; omega, trivial, by unfold gT; omega⟩
theorem rd75 {l : List S75} {i : Nat} (h : i < l.length) : rd_T75 l (i : Int) = l[i] := by unfold rd_T75; rw [Int.toNat_natCast, List.getD_eq_getElem?_getD, List.getElem?_eq_getElem h]; rfl
theorem rd78 {l : List S78} {i : Nat} (h : i < l.length) : rd_T78 l (i : Int) = l[i] := by unfold rd_T78; rw [Int.toNat_natCast, List.getD_eq_getElem?_getD, List.getElem?_eq_getElem h]; rfl
def LightX (x : S75) : Prop := x.f1.length ≤ 30 ∧ x.f0.size ≤ 100 ∧ x.f3.f4.size ≤ 300 ∧ ∀ v ∈ x.f1, v.f2.size ≤ 300
def LightP (p : PartV) : Prop := p.cells.length ≤ 60 ∧ (∀ x ∈ p.cells, LightX x) ∧ p.records.length < 100 ∧ p.done.length < 100
theorem lv_f (l : List S75) (hl : l.length ≤ 60) (R : Nat) (i : Nat) (hi : i < l.length) (hv : l[i].f1.length ≤ 30) (next : ∀ k, R ≤ k → ∃ b, antipodelaw8_Light.l0 k l ((i + 1 : Nat) : Int) = some b ∧ (b = true → ∀ x ∈ l.drop (i + 1), LightX x)) (d : Nat) : ∀ (k j : Nat), j + d = l[i].f1.length → R + d + 1 ≤ k → ∃ b, antipodelaw8_Light.l1 k l (i : Int) (j : Int) = some b ∧ (b = true → (∀ v ∈ l[i].f1.drop j, v.f2.size ≤ 300) ∧ ∀ x ∈ l.drop (i + 1), LightX x) := by
 induction d with
 | zero =>
  intro k j hj hk
  obtain ⟨k, rfl⟩ : ∃ m, k = m + 1 := ⟨k - 1, by omega⟩
  simp only [antipodelaw8_Light.l1]
  rw [if_pos (by omega), if_pos (by omega), rd75 hi, if_neg (by omega), w64_id (by omega) (by omega)]
  obtain ⟨b, h1, h2⟩ := next k (by omega)
  exact ⟨b, h1, fun h => ⟨by rw [List.drop_of_length_le (by omega)]; exact (fun v hv => by cases hv), h2 h⟩⟩
 | succ d ih =>
  intro k j hj hk
  obtain ⟨k, rfl⟩ : ∃ m, k = m + 1 := ⟨k - 1, by omega⟩
  have h0 : j < l[i].f1.length := by omega
  simp only [antipodelaw8_Light.l1]
  rw [if_pos (by omega), if_pos (by omega), rd75 hi, if_pos (by omega), if_pos (by omega), rd78 h0]
  by_cases c : (l[i].f1[j].f2.size : Int) > 300
  ·rw [if_pos c]; exact ⟨false, rfl, fun h => by cases h⟩
  rw [if_neg c, w64_id (by omega) (by omega)]
  obtain ⟨b, h1, h2⟩ := ih k (j + 1) (by omega) (by omega)
  refine ⟨b, h1, fun h => ⟨fun v hv => ?_, (h2 h).2⟩⟩
  rw [List.drop_eq_getElem_cons h0] at hv
  rcases List.mem_cons.1 hv with rfl | hv
  ·omega
  ·exact (h2 h).1 v hv
theorem lc_f (l : List S75) (hl : l.length ≤ 60) (d : Nat) : ∀ (k i : Nat), i + d = l.length → 40 * d + 1 ≤ k → ∃ b, antipodelaw8_Light.l0 k l (i : Int) = some b ∧ (b = true → ∀ x ∈ l.drop i, LightX x) := by
 induction d with
 | zero =>
  intro k i hi hk
  obtain ⟨k, rfl⟩ : ∃ m, k = m + 1 := ⟨k - 1, by omega⟩
  simp only [antipodelaw8_Light.l0]
  rw [if_neg (by omega), List.drop_of_length_le (by omega)]
  exact ⟨true, rfl, fun _ x hx => by cases hx⟩
 | succ d ih =>
  intro k i hi hk
  obtain ⟨k, rfl⟩ : ∃ m, k = m + 1 + 1 := ⟨k - 2, by omega⟩
  have h0 : i < l.length := by omega
  simp only [antipodelaw8_Light.l0]
  rw [if_pos (by omega), if_pos (by omega), rd75 h0]
  have no : ∃ b, antipodelaw8_Light.j1 (k + 1) l (i : Int) true = some b ∧ (b = true → ∀ x ∈ l.drop i, LightX x) := ⟨false, rfl, fun h => by cases h⟩
  by_cases c1 : (l[i].f1.length : Int) > 30
  ·rw [if_pos c1]; exact no
  rw [if_neg c1]
  by_cases c2 : (l[i].f0.size : Int) > 100
  ·rw [if_pos c2]; exact no
  rw [if_neg c2]
  by_cases c3 : (l[i].f3.f4.size : Int) > 300
  ·rw [decide_eq_true c3]; exact no
  rw [decide_eq_false c3]
  simp only [antipodelaw8_Light.j1]
  rw [if_neg (by decide)]
  obtain ⟨b, h1, h2⟩ := lv_f l hl (40 * d + 1) i h0 (by omega) (fun k hk => ih k (i + 1) (by omega) hk) l[i].f1.length k 0 (by omega) (by omega)
  refine ⟨b, h1, fun h => fun x hx => ?_⟩
  obtain ⟨g1, g2⟩ := h2 h
  rw [List.drop_eq_getElem_cons h0] at hx
  rcases List.mem_cons.1 hx with rfl | hx
  ·exact ⟨by omega, by omega, by omega, by rw [List.drop_zero] at g1; exact g1⟩
  ·exact g2 x hx
def lightPF (k : Nat) (p : PartV) : Option Bool := antipodelaw14_LightPart.f k p.epoch p.holder p.floor.f0 p.floor.f1 p.closed p.low p.cells p.records p.done
theorem light_part (p : PartV) : ∃ k b, lightPF k p = some b ∧ (b = true → LightP p) := by
 have hc : ∃ b, antipodelaw8_Light.f (40 * p.cells.length + 1) p.cells = some b ∧ (b = true → p.cells.length ≤ 60 ∧ ∀ x ∈ p.cells, LightX x) := by
  unfold antipodelaw8_Light.f
  by_cases c : (p.cells.length : Int) > 60
  ·rw [if_pos c]; exact ⟨false, rfl, fun h => by cases h⟩
  ·rw [if_neg c]
   obtain ⟨b, h1, h2⟩ := lc_f p.cells (by omega) p.cells.length (40 * p.cells.length + 1) 0 (by omega) (by omega)
   exact ⟨b, h1, fun h => ⟨by omega, by have := h2 h; rwa [List.drop_zero] at this⟩⟩
 obtain ⟨b, h1, h2⟩ := hc
 refine ⟨40 * p.cells.length + 1, ?_⟩
 unfold lightPF antipodelaw14_LightPart.f
 rw [h1, Option.bind_some]
 cases b with
 | false => exact ⟨false, rfl, fun h => by cases h⟩
 | true =>
  rw [if_pos rfl]
  by_cases c : (p.records.length : Int) < 100
  ·rw [if_pos c]
   exact ⟨_, rfl, fun h => ⟨(h2 rfl).1, (h2 rfl).2, by omega, by have := of_decide_eq_true h; omega⟩⟩
  ·rw [if_neg c]
   exact ⟨false, rfl, fun h => by cases h⟩
end Go.Proofs.Ytjfgapaohldbkaa.WireLt

