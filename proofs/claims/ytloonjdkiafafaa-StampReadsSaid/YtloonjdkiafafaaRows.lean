/-
  No cell of these rows narrows 'for every input' (looked for: loops, veiled, ifaces, maps, wideKeys, modest, calm, conditions, laid).
  DERIVED. THE GIVEN ROWS OF THIS SEAT. 7 by the template 'for every input the law returns true; each argument reads behind the call as it read before'; 0 by the template 'total and deterministic' (their statements: YtloonjdkiafafaaTotals.lean).
  GIVEN WITH THE SEED: the statements are not yours to turn. If you find one false, say at which input.
  Laid BY PROGRAM, IN A SANDBOX (cutbox-rows.mjs): the forced cells as the released guide's own fill.sh prints them over the translation 382a23e4d3a7fa41… (all of the seat's roots in one cut). By AI agents, Wed Nov 11 2026. No macro, syntax, notation, axiom, sorry.
-/
import Derived.Test.YtloonjdkiafafaaChecked
import GoSem.Claim
import GoSem.ClaimJoined
import GoSem.ClaimMapViews
import Derived.JoinedTies
import Derived.KernelRfl
namespace Go.Proofs.Ytloonjdkiafafaa
/- THE CELL 'sum', in the pinned program and in every row, IS THE sha256 OF THE DUMP (.gsa) THAT YtloonjdkiafafaaProg.lean LOADS. Nothing in Lean hashes anything: it is a label: what it is worth is what the hold of that sum in a sandbox is worth. -/
noncomputable def Try.pinned : Pinned := { name := "ytloonjdkiafafaa", sum := "382a23e4d3a7fa4103987b64190bf89abe32a62a296236703b6e19feb1dfeae3", checked := Try.checked }
namespace Rows
def none {H : Type} : Left H := { results := [], args := [] }

/-- 'antipodelaw6.StampTies': WHATEVER THE INPUT: true; the input reads as it did. -/
def stampTiesSpec : ChangeSpec := { name := "stampTies", fn := fun _ => fun
  | [d1, d2] => { results := [.lit (.bool true)], args := [d1, d2] }
  | _ => none }
def stampTiesRow : OpenClaim := { program := "ytloonjdkiafafaa", sum := "382a23e4d3a7fa4103987b64190bf89abe32a62a296236703b6e19feb1dfeae3", func := "antipode/antipodelaw6.StampTies", spec := "stampTies", apart := false }
def StampTiesSaid : Prop := stampTiesRow.holds Try.pinned (OpenSpec.ofChange stampTiesSpec)

/-- ITS FALSE NEIGHBOUR: 'it returns false'. Refute it at one input. -/
def stampTiesWrong : ChangeSpec := { name := "stampTies", fn := fun _ => fun
  | [d1, d2] => { results := [.lit (.bool false)], args := [d1, d2] }
  | _ => none }
def StampTiesWrongFalsely : Prop := stampTiesRow.holds Try.pinned (OpenSpec.ofChange stampTiesWrong)

/-- 'antipodelaw6.StampClocks': WHATEVER THE INPUT: true; the input reads as it did. -/
def stampClocksSpec : ChangeSpec := { name := "stampClocks", fn := fun _ => fun
  | [d1, d2, d3, d4] => { results := [.lit (.bool true)], args := [d1, d2, d3, d4] }
  | _ => none }
def stampClocksRow : OpenClaim := { program := "ytloonjdkiafafaa", sum := "382a23e4d3a7fa4103987b64190bf89abe32a62a296236703b6e19feb1dfeae3", func := "antipode/antipodelaw6.StampClocks", spec := "stampClocks", apart := false }
def StampClocksSaid : Prop := stampClocksRow.holds Try.pinned (OpenSpec.ofChange stampClocksSpec)

/-- ITS FALSE NEIGHBOUR: 'it returns false'. Refute it at one input. -/
def stampClocksWrong : ChangeSpec := { name := "stampClocks", fn := fun _ => fun
  | [d1, d2, d3, d4] => { results := [.lit (.bool false)], args := [d1, d2, d3, d4] }
  | _ => none }
def StampClocksWrongFalsely : Prop := stampClocksRow.holds Try.pinned (OpenSpec.ofChange stampClocksWrong)

/-- 'antipodelaw6.StampLater': WHATEVER THE INPUT: true; the input reads as it did. -/
def stampLaterSpec : ChangeSpec := { name := "stampLater", fn := fun _ => fun
  | [d1, d2, d3, d4, d5] => { results := [.lit (.bool true)], args := [d1, d2, d3, d4, d5] }
  | _ => none }
def stampLaterRow : OpenClaim := { program := "ytloonjdkiafafaa", sum := "382a23e4d3a7fa4103987b64190bf89abe32a62a296236703b6e19feb1dfeae3", func := "antipode/antipodelaw6.StampLater", spec := "stampLater", apart := false }
def StampLaterSaid : Prop := stampLaterRow.holds Try.pinned (OpenSpec.ofChange stampLaterSpec)

/-- ITS FALSE NEIGHBOUR: 'it returns false'. Refute it at one input. -/
def stampLaterWrong : ChangeSpec := { name := "stampLater", fn := fun _ => fun
  | [d1, d2, d3, d4, d5] => { results := [.lit (.bool false)], args := [d1, d2, d3, d4, d5] }
  | _ => none }
def StampLaterWrongFalsely : Prop := stampLaterRow.holds Try.pinned (OpenSpec.ofChange stampLaterWrong)

/-- 'antipodelaw6.StampOrder': WHATEVER THE INPUT: true; the input reads as it did. -/
def stampOrderSpec : ChangeSpec := { name := "stampOrder", fn := fun _ => fun
  | [d1, d2, d3, d4] => { results := [.lit (.bool true)], args := [d1, d2, d3, d4] }
  | _ => none }
def stampOrderRow : OpenClaim := { program := "ytloonjdkiafafaa", sum := "382a23e4d3a7fa4103987b64190bf89abe32a62a296236703b6e19feb1dfeae3", func := "antipode/antipodelaw6.StampOrder", spec := "stampOrder", apart := false }
def StampOrderSaid : Prop := stampOrderRow.holds Try.pinned (OpenSpec.ofChange stampOrderSpec)

/-- ITS FALSE NEIGHBOUR: 'it returns false'. Refute it at one input. -/
def stampOrderWrong : ChangeSpec := { name := "stampOrder", fn := fun _ => fun
  | [d1, d2, d3, d4] => { results := [.lit (.bool false)], args := [d1, d2, d3, d4] }
  | _ => none }
def StampOrderWrongFalsely : Prop := stampOrderRow.holds Try.pinned (OpenSpec.ofChange stampOrderWrong)

/-- 'antipodelaw6.StampLine': WHATEVER THE INPUT: true; the input reads as it did. -/
def stampLineSpec : ChangeSpec := { name := "stampLine", fn := fun _ => fun
  | [d1, d2, d3, d4, d5, d6] => { results := [.lit (.bool true)], args := [d1, d2, d3, d4, d5, d6] }
  | _ => none }
def stampLineRow : OpenClaim := { program := "ytloonjdkiafafaa", sum := "382a23e4d3a7fa4103987b64190bf89abe32a62a296236703b6e19feb1dfeae3", func := "antipode/antipodelaw6.StampLine", spec := "stampLine", apart := false }
def StampLineSaid : Prop := stampLineRow.holds Try.pinned (OpenSpec.ofChange stampLineSpec)

/-- ITS FALSE NEIGHBOUR: 'it returns false'. Refute it at one input. -/
def stampLineWrong : ChangeSpec := { name := "stampLine", fn := fun _ => fun
  | [d1, d2, d3, d4, d5, d6] => { results := [.lit (.bool false)], args := [d1, d2, d3, d4, d5, d6] }
  | _ => none }
def StampLineWrongFalsely : Prop := stampLineRow.holds Try.pinned (OpenSpec.ofChange stampLineWrong)

/-- 'antipodelaw6.StampReads': WHATEVER THE INPUT: true; the input reads as it did. -/
def stampReadsSpec : ChangeSpec := { name := "stampReads", fn := fun _ => fun
  | [d] => { results := [.lit (.bool true)], args := [d] }
  | _ => none }
def stampReadsRow : OpenClaim := { program := "ytloonjdkiafafaa", sum := "382a23e4d3a7fa4103987b64190bf89abe32a62a296236703b6e19feb1dfeae3", func := "antipode/antipodelaw6.StampReads", spec := "stampReads", apart := false }
def StampReadsSaid : Prop := stampReadsRow.holds Try.pinned (OpenSpec.ofChange stampReadsSpec)

/-- ITS FALSE NEIGHBOUR: 'it returns false'. Refute it at one input. -/
def stampReadsWrong : ChangeSpec := { name := "stampReads", fn := fun _ => fun
  | [d] => { results := [.lit (.bool false)], args := [d] }
  | _ => none }
def StampReadsWrongFalsely : Prop := stampReadsRow.holds Try.pinned (OpenSpec.ofChange stampReadsWrong)

/-- 'antipodelaw6.StampBytes': WHATEVER THE INPUT: true; the input reads as it did. -/
def stampBytesSpec : ChangeSpec := { name := "stampBytes", fn := fun _ => fun
  | [d1, d2, d3] => { results := [.lit (.bool true)], args := [d1, d2, d3] }
  | _ => none }
def stampBytesRow : OpenClaim := { program := "ytloonjdkiafafaa", sum := "382a23e4d3a7fa4103987b64190bf89abe32a62a296236703b6e19feb1dfeae3", func := "antipode/antipodelaw6.StampBytes", spec := "stampBytes", apart := false }
def StampBytesSaid : Prop := stampBytesRow.holds Try.pinned (OpenSpec.ofChange stampBytesSpec)

/-- ITS FALSE NEIGHBOUR: 'it returns false'. Refute it at one input. -/
def stampBytesWrong : ChangeSpec := { name := "stampBytes", fn := fun _ => fun
  | [d1, d2, d3] => { results := [.lit (.bool false)], args := [d1, d2, d3] }
  | _ => none }
def StampBytesWrongFalsely : Prop := stampBytesRow.holds Try.pinned (OpenSpec.ofChange stampBytesWrong)

/- THE SECOND FORM. 'bulk': how many values and letters a reading holds, each counted each time it is reached (what is shared counts as often as it is met; a slice's spare places count too). A statement '..UptoSaid' is the law's where the arguments, and the package variables that the reading takes, are together of bulk at most 1048576: NARROWER than '..Said'. Prove '..Said' where nothing that the law and all that it calls make is longer than what came in: it says more and counts as full. Else prove '..UptoSaid'. A law counts once. -/
mutual
def uptoBulk {H : Type} : DataW H → Nat
  | .lit (.string bytes) => bytes.length + 1
  | .lit _ => 1
  | .nil => 1
  | .ptr d => uptoBulk d + 1
  | .slice elems spare => uptoBulkAll elems + uptoBulkAll spare + 1
  | .agg parts => uptoBulkAll parts + 1
  | .iface _ d => uptoBulk d + 1
  | .map entries => uptoBulkEntries entries + 1
  | .held _ => 1
def uptoBulkAll {H : Type} : List (DataW H) → Nat
  | [] => 0
  | d :: r => uptoBulk d + uptoBulkAll r
def uptoBulkEntries {H : Type} : List (Lit × DataW H) → Nat
  | [] => 0
  | x :: r => uptoBulkEntry x + uptoBulkEntries r
def uptoBulkEntry {H : Type} : Lit × DataW H → Nat
  | (.string bytes, d) => bytes.length + uptoBulk d + 1
  | (_, d) => uptoBulk d + 1
 end
def uptoSmall : (H : Type) → List (DataW H) → Bool := fun _ ds => decide (uptoBulkAll ds ≤ 1048576)
def OpenSpec.upto (s : _root_.Go.ChangeSpec) : _root_.Go.OpenSpec := { _root_.Go.OpenSpec.ofChange s with cond := some uptoSmall }

/-- 'antipodelaw6.StampTies', WHERE WHAT IT READS IS OF BULK AT MOST 1048576: true; the input reads as it did. -/
def stampTiesUptoRow : OpenClaim := { program := "ytloonjdkiafafaa", sum := "382a23e4d3a7fa4103987b64190bf89abe32a62a296236703b6e19feb1dfeae3", func := "antipode/antipodelaw6.StampTies", spec := "stampTies", apart := false, narrowed := true }
def StampTiesUptoSaid : Prop := stampTiesUptoRow.holds Try.pinned (OpenSpec.upto stampTiesSpec)

/-- 'antipodelaw6.StampClocks', WHERE WHAT IT READS IS OF BULK AT MOST 1048576: true; the input reads as it did. -/
def stampClocksUptoRow : OpenClaim := { program := "ytloonjdkiafafaa", sum := "382a23e4d3a7fa4103987b64190bf89abe32a62a296236703b6e19feb1dfeae3", func := "antipode/antipodelaw6.StampClocks", spec := "stampClocks", apart := false, narrowed := true }
def StampClocksUptoSaid : Prop := stampClocksUptoRow.holds Try.pinned (OpenSpec.upto stampClocksSpec)

/-- 'antipodelaw6.StampLater', WHERE WHAT IT READS IS OF BULK AT MOST 1048576: true; the input reads as it did. -/
def stampLaterUptoRow : OpenClaim := { program := "ytloonjdkiafafaa", sum := "382a23e4d3a7fa4103987b64190bf89abe32a62a296236703b6e19feb1dfeae3", func := "antipode/antipodelaw6.StampLater", spec := "stampLater", apart := false, narrowed := true }
def StampLaterUptoSaid : Prop := stampLaterUptoRow.holds Try.pinned (OpenSpec.upto stampLaterSpec)

/-- 'antipodelaw6.StampOrder', WHERE WHAT IT READS IS OF BULK AT MOST 1048576: true; the input reads as it did. -/
def stampOrderUptoRow : OpenClaim := { program := "ytloonjdkiafafaa", sum := "382a23e4d3a7fa4103987b64190bf89abe32a62a296236703b6e19feb1dfeae3", func := "antipode/antipodelaw6.StampOrder", spec := "stampOrder", apart := false, narrowed := true }
def StampOrderUptoSaid : Prop := stampOrderUptoRow.holds Try.pinned (OpenSpec.upto stampOrderSpec)

/-- 'antipodelaw6.StampLine', WHERE WHAT IT READS IS OF BULK AT MOST 1048576: true; the input reads as it did. -/
def stampLineUptoRow : OpenClaim := { program := "ytloonjdkiafafaa", sum := "382a23e4d3a7fa4103987b64190bf89abe32a62a296236703b6e19feb1dfeae3", func := "antipode/antipodelaw6.StampLine", spec := "stampLine", apart := false, narrowed := true }
def StampLineUptoSaid : Prop := stampLineUptoRow.holds Try.pinned (OpenSpec.upto stampLineSpec)

/-- 'antipodelaw6.StampReads', WHERE WHAT IT READS IS OF BULK AT MOST 1048576: true; the input reads as it did. -/
def stampReadsUptoRow : OpenClaim := { program := "ytloonjdkiafafaa", sum := "382a23e4d3a7fa4103987b64190bf89abe32a62a296236703b6e19feb1dfeae3", func := "antipode/antipodelaw6.StampReads", spec := "stampReads", apart := false, narrowed := true }
def StampReadsUptoSaid : Prop := stampReadsUptoRow.holds Try.pinned (OpenSpec.upto stampReadsSpec)

/-- 'antipodelaw6.StampBytes', WHERE WHAT IT READS IS OF BULK AT MOST 1048576: true; the input reads as it did. -/
def stampBytesUptoRow : OpenClaim := { program := "ytloonjdkiafafaa", sum := "382a23e4d3a7fa4103987b64190bf89abe32a62a296236703b6e19feb1dfeae3", func := "antipode/antipodelaw6.StampBytes", spec := "stampBytes", apart := false, narrowed := true }
def StampBytesUptoSaid : Prop := stampBytesUptoRow.holds Try.pinned (OpenSpec.upto stampBytesSpec)

end Rows
end Go.Proofs.Ytloonjdkiafafaa
