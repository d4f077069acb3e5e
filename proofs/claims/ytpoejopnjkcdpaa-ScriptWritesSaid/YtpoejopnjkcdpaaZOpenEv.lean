/- A row of events, opened: in any world that gives it, its cells are those of a list of events, and each number is of its kind. Conditions: what DataW.trod read. -/
import Derived.Test.YtpoejopnjkcdpaaZOpen
import Derived.Test.YtpoejopnjkcdpaaZFacts
namespace Go.Proofs.Ytpoejopnjkcdpaa.Opens
open Go.RowKit Go.Proofs.Ytpoejopnjkcdpaa.QA Go.Proofs.YtpoejopnjkcdpaaW.PrintWords Go.Proofs.YtpoejopnjkcdpaaW.PrintLast Go.Proofs.YtpoejopnjkcdpaaW.PrintMore Go.Proofs.Ytpoejopnjkcdpaa.Facts
theorem i3 : Op Try.prog 3 (Kd.int .i64) In64 := (Op.int Try.underlying3 (by kernel_rfl)).mono fun _ h => in64_of_wf h
theorem i2 : Op Try.prog 2 (Kd.int .i64) In64 := (Op.int Try.underlying2 (by kernel_rfl)).mono fun _ h => in64_of_wf h
theorem u37 : Op Try.prog 37 (Kd.int .u16) (fun _ => True) := (Op.int Try.underlying37 (by kernel_rfl)).mono fun _ _ => trivial
theorem s9 : Op Try.prog 9 Kd.string (fun s => s.size ≤ maxLen) := Op.string Try.underlying9 (by kernel_rfl)
theorem r35 : Op Try.prog 35 (Kd.slice 3 (Kd.int .i64)) (fun l => l.length ≤ maxLen ∧ ∀ y ∈ l, In64 y) := Op.slice i3 Try.underlying35 (by kernel_rfl)
theorem c39 : Op Try.prog 39 k39 (fun _ => True) :=
 ((Op.struct Try.underlying39 (by kernel_rfl) (OpF.cons u37 rfl rfl (OpF.cons u37 rfl rfl (OpF.cons u37 rfl rfl (OpF.cons i3 rfl rfl (OpF.last i3 rfl)))))).iso (fun x : S39 => (x.f0, x.f1, x.f2, x.f3, x.f4)) (fun y => ⟨y.1, y.2.1, y.2.2.1, y.2.2.2.1, y.2.2.2.2⟩) (fun _ => rfl)).mono fun _ _ => trivial
def EvOk (e : S41) : Prop := In64 e.f0 ∧ In64 e.f1 ∧ In64 e.f2 ∧ In64 e.f3 ∧ ∀ y ∈ e.f5, In64 y
theorem e41 : Op Try.prog 41 k41 EvOk :=
 ((Op.struct Try.underlying41 (by kernel_rfl) (OpF.cons i3 rfl rfl (OpF.cons i3 rfl rfl (OpF.cons i3 rfl rfl (OpF.cons i2 rfl rfl (OpF.cons s9 rfl rfl (OpF.cons r35 rfl rfl (OpF.last c39 rfl)))))))).iso (fun x : S41 => (x.f0, x.f1, x.f2, x.f3, x.f4, x.f5, x.f6)) (fun y => ⟨y.1, y.2.1, y.2.2.1, y.2.2.2.1, y.2.2.2.2.1, y.2.2.2.2.2.1, y.2.2.2.2.2.2⟩) (fun _ => rfl)).mono fun _ h => ⟨h.1, h.2.1, h.2.2.1, h.2.2.2.1, h.2.2.2.2.2.1.2⟩
theorem events {H : Type} {enc : TypeId × Value → H} {w : World} {sp : Nat → Bool} {hd : Bool} {fuel : Nat} {cs : List Value} {x : DataW H × List MemPlace} (h : DataW.trod enc Try.prog w 0 sp hd fuel 25 cs = some x) :
  ∃ (A : Option Addr) (xs : List S41) (c : Nat), cs = [.slice A xs.length c] ∧ xs.length ≤ c ∧ c ≤ maxLen ∧ Kd.C k41 w A xs.length xs ∧ ∀ y ∈ xs, EvOk y := open_row e41 Try.underlying25 h
end Go.Proofs.Ytpoejopnjkcdpaa.Opens

