/- Numbers and texts as lists of bytes, without any program: what a Var, a text, a number of n bytes are, and what they are read as. Each fact under the bounds that it states. -/
import Derived.Test.YtpoejopnjkcdpaaZFacts
namespace Go.Proofs.Ytpoejopnjkcdpaa.Codec
open Go.RowKit Go.Proofs.Ytpoejopnjkcdpaa.Facts
def venc : Nat → Int → List Int
 | 0, v => [v]
 | n + 1, v => if v < 128 then [v] else (v % 128 + 128) :: venc n (v / 128)
def Bytes (l : List Int) : Prop := ∀ c ∈ l, 0 ≤ c ∧ c < 256
theorem Bytes.append {a b : List Int} (ha : Bytes a) (hb : Bytes b) : Bytes (a ++ b) := fun c hc => by
 rcases List.mem_append.1 hc with h | h
 ·exact ha c h
 ·exact hb c h
def V (v : Int) : List Int := venc 9 v
def T (s : List Int) : List Int := V (s.length : Int) ++ s
end Go.Proofs.Ytpoejopnjkcdpaa.Codec

