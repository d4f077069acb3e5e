/- A law's own answer: what can never be true. Plain theorems of this session. -/
import Derived.Test.YtloonjdkiafafaaWMore
namespace Go.Proofs.YtloonjdkiafafaaW.PrintWords
namespace NT
/-- This never answers true. -/
def NT (o : Option Bool) : Prop := ∀ r, o = some r → r = false
theorem none_ : NT none := fun _ h => absurd h (by simp)
theorem false_ : NT (some false) := fun _ h => (Option.some.inj h).symm
theorem not_ : NT (some (!true)) := fun _ h => (Option.some.inj h).symm
theorem bind_ {α : Type} {o : Option α} {f : α → Option Bool} (h : ∀ x, NT (f x)) : NT (o.bind f) := by
  intro r e
  obtain ⟨x, _, e⟩ := Option.bind_eq_some_iff.mp e
  exact h x r e
theorem ite_ {c : Prop} [Decidable c] {a b : Option Bool} (ha : NT a) (hb : NT b) : NT (if c then a else b) := by
  split
  · exact ha
  · exact hb
theorem no_if {a b : Option Bool} (hb : NT b) : NT (if false = true then a else b) := by
  rw [if_neg (by decide)]
  exact hb
theorem yes_if {a b : Option Bool} (ha : NT a) : NT (if true = true then a else b) := by
  rw [if_pos rfl]
  exact ha
theorem no_ {o : Option Bool} {r : Bool} (h : NT o) (H : o = some r) (hr : r = true) : False := by
  rw [h r H] at hr
  exact absurd hr (by decide)
end NT
end Go.Proofs.YtloonjdkiafafaaW.PrintWords
