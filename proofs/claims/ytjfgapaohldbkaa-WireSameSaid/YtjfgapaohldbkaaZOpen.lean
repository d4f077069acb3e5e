/- An argument opened, whatever its type is made of: what the model's reading of a type (DataW.trod) tells is what a kind of the print's (Kd) reads. Each under what it states. -/
import Derived.Test.YtjfgapaohldbkaaZQAll
import Derived.ChangeArms
import Derived.DataReads
import Derived.Deep.Slices
namespace Go.Proofs.Ytjfgapaohldbkaa.Opens
open Go.RowKit Go.Proofs.Ytjfgapaohldbkaa.QA Go.Proofs.YtjfgapaohldbkaaW.PrintWords Go.Proofs.YtjfgapaohldbkaaW.PrintLast Go.Proofs.YtjfgapaohldbkaaW.PrintMore
set_option linter.unusedVariables false
def Op (P : Program) (t : TypeId) {α : Type} (d : Kd α) (good : α → Prop) : Prop :=
 P.cellsOf t = d.sz ∧ ∀ (H : Type) (enc : TypeId × Value → H) (w : World) (sp : Nat → Bool) (hd : Bool) (fuel : Nat) (cs : List Value) (x : DataW H × List MemPlace), DataW.trod enc P w 0 sp hd fuel t cs = some x → ∃ a, d.K w a cs ∧ good a
section
variable {P : Program} {t e : TypeId} {α β : Type} {d : Kd α} {d' : Kd β} {good good2 : α → Prop} {good' : β → Prop}
theorem Op.mono (h : Op P t d good) (hg : ∀ a, good a → good2 a) : Op P t d good2 := ⟨h.1, fun H enc w sp hd fuel cs x hx => by
 obtain ⟨a, h1, h2⟩ := h.2 H enc w sp hd fuel cs x hx
 exact ⟨a, h1, hg a h2⟩⟩
theorem Op.int {k : IntKind} (ht : P.underlying t = some (.int k)) (hc : P.cellsOf t = 1) : Op P t (Kd.int k) (fun n => (Lit.int k n).wf = true) := ⟨hc, fun H enc w sp hd fuel cs x h => by
 obtain ⟨n, rfl, _, hw⟩ := DataW.trod_int ht h
 exact ⟨n, rfl, hw⟩⟩
theorem Op.bool (ht : P.underlying t = some .bool) (hc : P.cellsOf t = 1) : Op P t Kd.bool (fun _ => True) := ⟨hc, fun H enc w sp hd fuel cs x h => by
 obtain ⟨n, rfl, _⟩ := DataW.trod_bool ht h
 exact ⟨n, rfl, trivial⟩⟩
theorem Op.string (ht : P.underlying t = some .string) (hc : P.cellsOf t = 1) : Op P t Kd.string (fun s => s.size ≤ maxLen) := ⟨hc, fun H enc w sp hd fuel cs x h => by
 obtain ⟨n, rfl, _, hw⟩ := DataW.trod_string ht h
 exact ⟨n, rfl, hw⟩⟩
theorem list_of {Q : Nat → α → Prop} : ∀ n, (∀ i, i < n → ∃ a, Q i a) → ∃ xs : List α, xs.length = n ∧ ∀ i a, xs[i]? = some a → Q i a
 | 0, _ => ⟨[], rfl, fun i a h => by simp at h⟩
 | n + 1, h => by
  obtain ⟨xs, hl, hq⟩ := list_of n (fun i hi => h i (by omega))
  obtain ⟨a, ha⟩ := h n (by omega)
  refine ⟨xs ++ [a], by simp [hl], fun i b hb => ?_⟩
  by_cases hi : i < xs.length
  ·rw [List.getElem?_append_left hi] at hb
   exact hq i b hb
  ·rw [List.getElem?_append_right (by omega)] at hb
   by_cases hz : i - xs.length = 0
   ·rw [hz] at hb
    obtain rfl : i = n := by omega
    simp only [List.getElem?_cons_zero, Option.some.injEq] at hb
    exact hb ▸ ha
   ·obtain ⟨j, hj⟩ : ∃ j, i - xs.length = j + 1 := ⟨i - xs.length - 1, by omega⟩
    rw [hj] at hb
    simp at hb
theorem open_row (he : Op P e d good) {H : Type} {enc : TypeId × Value → H} {w : World} {sp : Nat → Bool} {hd : Bool} {fuel : Nat} {cs : List Value} {x : DataW H × List MemPlace} (ht : P.underlying t = some (.slice e)) (h : DataW.trod enc P w 0 sp hd fuel t cs = some x) :
  ∃ (A : Option Addr) (xs : List α) (c : Nat), cs = [.slice A xs.length c] ∧ xs.length ≤ c ∧ c ≤ maxLen ∧ d.C w A xs.length xs ∧ ∀ y ∈ xs, good y := by
 rcases Deep.open_slice ht h with ⟨rfl, rfl⟩ | ⟨a, len, cap, m, n, D, Pl, rfl, hb, hl, hc, hm, _, hel⟩
 ·exact ⟨none, [], 0, rfl, Nat.le_refl _, Nat.zero_le _, Kd.C_nil d w, fun y hy => by cases hy⟩
 ·have hlm : len ≤ m := by rw [hm]; split <;> omega
  obtain ⟨xs, hxl, hxs⟩ := list_of (Q := fun i (p : α) => (∃ c, c.length = d.sz ∧ d.K w p c ∧ ∀ j u, c[j]? = some u → w.cell? (a.add (i * d.sz + j)) = some u) ∧ good p) len (fun i hi => by
   obtain ⟨cs', h1, h2⟩ := hel i (by omega)
   obtain ⟨p, h3, h4⟩ := he.2 H enc w sp hd n cs' _ h2
   obtain ⟨_, hlen, hcell⟩ := World.cells?_some h1
   refine ⟨p, ⟨cs', d.K_len h3, h3, fun j u hu => ?_⟩, h4⟩
   obtain ⟨hj, _⟩ := List.getElem?_eq_some_iff.1 hu
   have h5 := hcell j (by omega)
   rw [Deep.add_add, he.1] at h5
   rw [h5]
   exact hu)
  subst hxl
  refine ⟨some a, xs, cap, rfl, hl, hc, ⟨rfl, by unfold maxLen at hc; omega, fun _ => ⟨a, rfl, fun j p hj => (hxs j p hj).1⟩⟩, fun y hy => ?_⟩
  obtain ⟨i, hi⟩ := List.mem_iff_getElem?.1 hy
  exact (hxs i y hi).2
theorem Op.slice (he : Op P e d good) (ht : P.underlying t = some (.slice e)) (hc : P.cellsOf t = 1) : Op P t (Kd.slice e d) (fun xs => xs.length ≤ maxLen ∧ ∀ y ∈ xs, good y) := ⟨hc, fun H enc w sp hd fuel cs x h => by
 obtain ⟨A, xs, c, rfl, h1, h2, h3, h4⟩ := open_row he ht h
 exact ⟨xs, ⟨A, c, rfl, h1, h3⟩, Nat.le_trans h1 h2, h4⟩⟩
theorem Op.iso (h : Op P t d good) (f : β → α) (g : α → β) (hfg : ∀ a, f (g a) = a) : Op P t (Kd.iso d f) (fun b => good (f b)) := ⟨h.1, fun H enc w sp hd fuel cs x hx => by
 obtain ⟨a, h1, h2⟩ := h.2 H enc w sp hd fuel cs x hx
 exact ⟨g a, by show d.K w (f (g a)) cs; rw [hfg]; exact h1, by show good (f (g a)); rw [hfg]; exact h2⟩⟩
def OpF (P : Program) (fs : List Field) (o : Nat) {α : Type} (d : Kd α) (good : α → Prop) : Prop :=
 ∀ (H : Type) (enc : TypeId × Value → H) (w : World) (sp : Nat → Bool) (hd : Bool) (n : Nat) (cs : List Value), cs.length = o + d.sz → (∀ f ∈ fs, ∃ y, DataW.trod enc P w 0 sp hd n f.type ((cs.drop f.offset).take (P.cellsOf f.type)) = some y) → ∃ a, d.K w a (cs.drop o) ∧ good a
theorem OpF.last {f : Field} {o : Nat} (h : Op P f.type d good) (ho : f.offset = o) : OpF P [f] o d good := fun H enc w sp hd n cs hl hf => by
 obtain ⟨y, hy⟩ := hf f List.mem_cons_self
 obtain ⟨a, h1, h2⟩ := h.2 H enc w sp hd n _ y hy
 rw [ho, h.1, List.take_of_length_le (by rw [List.length_drop]; omega)] at h1
 exact ⟨a, h1, h2⟩
theorem OpF.cons {f : Field} {fs : List Field} {o o' : Nat} (h : Op P f.type d good) (ho : f.offset = o) (ho' : o' = o + d.sz) (hs : OpF P fs o' d' good') : OpF P (f :: fs) o (Kd.pair d d') (fun x => good x.1 ∧ good' x.2) := fun H enc w sp hd n cs hl hf => by
 have hl' : cs.length = o' + d'.sz := by rw [hl, ho']; show o + (d.sz + d'.sz) = _; omega
 obtain ⟨y, hy⟩ := hf f List.mem_cons_self
 obtain ⟨a, h1, h2⟩ := h.2 H enc w sp hd n _ y hy
 obtain ⟨b, h3, h4⟩ := hs H enc w sp hd n cs hl' (fun g hg => hf g (List.mem_cons_of_mem _ hg))
 rw [ho, h.1] at h1
 refine ⟨(a, b), ⟨(cs.drop o).take d.sz, cs.drop o', ?_, h1, h3⟩, h2, h4⟩
 rw [ho', ← List.drop_drop, List.take_append_drop]
theorem Op.struct {fs : Array Field} (ht : P.underlying t = some (.struct fs)) (hc : P.cellsOf t = d.sz) (hf : OpF P fs.toList 0 d good) : Op P t d good := ⟨hc, fun H enc w sp hd fuel cs x h => by
 obtain ⟨xs, n, rfl, rfl, hl, hx, hfs⟩ := DataW.trod_struct ht h
 have := hf H enc w sp hd n cs (by rw [hl, hc, Nat.zero_add]) (fun f hf => by
  obtain ⟨i, hi⟩ := List.mem_iff_getElem?.1 hf
  have h1 := hfs i f (by simpa using hi)
  obtain ⟨hlt, _⟩ := List.getElem?_eq_some_iff.1 hi
  rw [List.getElem?_eq_getElem (by rw [hx]; simpa using hlt)] at h1
  exact ⟨_, h1⟩)
 rw [List.drop_zero] at this
 exact this⟩
end
end Go.Proofs.Ytjfgapaohldbkaa.Opens

