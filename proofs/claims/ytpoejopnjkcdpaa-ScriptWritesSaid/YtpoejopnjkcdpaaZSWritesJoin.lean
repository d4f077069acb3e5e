/- ScriptWrites: the walk with what the callees come to put in: for every input the call returns true. No condition beyond what the opened argument gives. -/
import Derived.Test.YtpoejopnjkcdpaaZSWritesWalk
import Derived.Test.YtpoejopnjkcdpaaZScriptPut
import Derived.ChangeShapes
namespace Go.Proofs.Ytpoejopnjkcdpaa.LawWalk
open Go.RowKit Go.Proofs.Ytpoejopnjkcdpaa.QA Go.Proofs.Ytpoejopnjkcdpaa.Twin Go.Proofs.YtpoejopnjkcdpaaW.PrintWords Go.Proofs.YtpoejopnjkcdpaaW.PrintLast Go.Proofs.YtpoejopnjkcdpaaW.PrintMore
open Go.Proofs.Ytpoejopnjkcdpaa.Facts Go.Proofs.Ytpoejopnjkcdpaa.Codec Go.Proofs.Ytpoejopnjkcdpaa.St Go.Proofs.Ytpoejopnjkcdpaa.Opens Go.WideShapes
theorem begun_swrites : antipodelaw29_begun.f 9000 = some true := by decide +kernel
theorem swrites_walk {H : Type} {enc : TypeId × Value → H} {sp : Nat → Bool} {hd : Bool} {base : Nat} (v0 : Value) (d : DataW H) (ps : List MemPlace) (w : World) (hv : Value.okWide Try.prog w .any base 25 v0) (h : DataW.Trod enc Try.prog w 0 sp hd 25 v0 d ps) :
  Calls Try.prog 4 #[v0] w fun e w' => e = .returned (.bool true) ∧ Below w.heap.size w w' := by
 obtain ⟨a0, n0, c0, rfl⟩ := okWide_slice Try.underlying25 hv
 obtain ⟨fuel, hf⟩ := h
 obtain ⟨A, xs, c, hcs, h1, h2, h3, h4⟩ := events hf
 simp [Value.cells] at hcs
 obtain ⟨rfl, rfl, rfl⟩ := hcs
 obtain ⟨b, hl, hq⟩ := light_all xs 9000 (by omega)
 cases b with
 | false => exact swrites_dark 9000 _ _ xs w h3 h1 ⟨begun_swrites⟩ ⟨hl⟩
 | true =>
  obtain ⟨r, g1, g2⟩ := put_same xs (hq rfl) h4 9000 (by omega)
  exact swrites_light 9000 _ _ xs w h3 h1 ⟨begun_swrites⟩ r ⟨hl⟩ ⟨g1⟩ ⟨g2⟩
end Go.Proofs.Ytpoejopnjkcdpaa.LawWalk

