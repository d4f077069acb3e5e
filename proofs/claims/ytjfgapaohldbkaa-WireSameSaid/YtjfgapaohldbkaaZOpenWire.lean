/- The arguments of the wire's laws, opened: a command, a part. Conditions: what DataW.trod read. -/
import Derived.Test.YtjfgapaohldbkaaZOpen
import Derived.Test.YtjfgapaohldbkaaZWireRefWr
import Derived.Test.YtjfgapaohldbkaaZWireSm
import Derived.Test.YtjfgapaohldbkaaZWireTk
import Derived.WideShapes
namespace Go.Proofs.Ytjfgapaohldbkaa.Opens
open Go.RowKit Go.Proofs.Ytjfgapaohldbkaa.QA Go.Proofs.YtjfgapaohldbkaaW.PrintWords Go.Proofs.YtjfgapaohldbkaaW.PrintLast Go.Proofs.YtjfgapaohldbkaaW.PrintMore Go.Proofs.Ytjfgapaohldbkaa.Facts Go.Proofs.Ytjfgapaohldbkaa.Codec Go.Proofs.Ytjfgapaohldbkaa.WireC Go.Proofs.Ytjfgapaohldbkaa.WireLaw Go.Proofs.Ytjfgapaohldbkaa.WireRd Go.Proofs.Ytjfgapaohldbkaa.WireSm Go.Proofs.Ytjfgapaohldbkaa.WireRefWr Go.Proofs.Ytjfgapaohldbkaa.WireWr Go.WideShapes
theorem i3 : Op Try.prog 3 (Kd.int .i64) In64 := (Op.int Try.underlying3 (by kernel_rfl)).mono fun _ h => in64_of_wf h
theorem i2 : Op Try.prog 2 (Kd.int .i64) In64 := (Op.int Try.underlying2 (by kernel_rfl)).mono fun _ h => in64_of_wf h
theorem b4 : Op Try.prog 4 Kd.bool (fun _ => True) := Op.bool Try.underlying4 (by kernel_rfl)
theorem s9 : Op Try.prog 9 Kd.string (fun _ => True) := (Op.string Try.underlying9 (by kernel_rfl)).mono fun _ _ => trivial
theorem y23 : Op Try.prog 23 k23 WireLaw.gY := (Op.struct Try.underlying23 (by kernel_rfl) (OpF.cons i3 rfl rfl (OpF.cons i3 rfl rfl (OpF.cons i3 rfl rfl (OpF.last i3 rfl))))).iso (fun x : S23 => (x.f0, x.f1, x.f2, x.f3)) (fun y => ⟨y.1, y.2.1, y.2.2.1, y.2.2.2⟩) (fun _ => rfl)
theorem t25 : Op Try.prog 25 k25 WireLaw.gS := (Op.struct Try.underlying25 (by kernel_rfl) (OpF.cons i2 rfl rfl (OpF.last i2 rfl))).iso (fun x : S25 => (x.f0, x.f1)) (fun y => ⟨y.1, y.2⟩) (fun _ => rfl)
theorem p65 : Op Try.prog 65 k65 (fun _ => True) := ((Op.struct Try.underlying65 (by kernel_rfl) (OpF.cons s9 rfl rfl (OpF.last s9 rfl))).iso (fun x : S65 => (x.f0, x.f1)) (fun y => ⟨y.1, y.2⟩) (fun _ => rfl)).mono fun _ _ => trivial
theorem w67 : Op Try.prog 67 k67 (fun _ => True) := ((Op.struct Try.underlying67 (by kernel_rfl) (OpF.cons s9 rfl rfl (OpF.cons b4 rfl rfl (OpF.last s9 rfl)))).iso (fun x : S67 => (x.f0, x.f1, x.f2)) (fun y => ⟨y.1, y.2.1, y.2.2⟩) (fun _ => rfl)).mono fun _ _ => trivial
theorem o83 : Op Try.prog 83 k83 (fun x => WireLaw.gY x.f0 ∧ WireLaw.gS x.f1) := ((Op.struct Try.underlying83 (by kernel_rfl) (OpF.cons y23 rfl rfl (OpF.cons t25 rfl rfl (OpF.last b4 rfl)))).iso (fun x : S83 => (x.f0, x.f1, x.f2)) (fun y => ⟨y.1, y.2.1, y.2.2⟩) (fun _ => rfl)).mono fun _ h => ⟨h.1, h.2.1⟩
theorem v78 : Op Try.prog 78 k78 (fun x => WireLaw.gS x.f0) := ((Op.struct Try.underlying78 (by kernel_rfl) (OpF.cons t25 rfl rfl (OpF.cons b4 rfl rfl (OpF.last s9 rfl)))).iso (fun x : S78 => (x.f0, x.f1, x.f2)) (fun y => ⟨y.1, y.2.1, y.2.2⟩) (fun _ => rfl)).mono fun _ h => h.1
theorem l73 : Op Try.prog 73 k73 (fun x => WireLaw.gY x.f0 ∧ In64 x.f1 ∧ WireLaw.gS x.f2) := ((Op.struct Try.underlying73 (by kernel_rfl) (OpF.cons y23 rfl rfl (OpF.cons i3 rfl rfl (OpF.cons t25 rfl rfl (OpF.cons b4 rfl rfl (OpF.last s9 rfl)))))).iso (fun x : S73 => (x.f0, x.f1, x.f2, x.f3, x.f4)) (fun y => ⟨y.1, y.2.1, y.2.2.1, y.2.2.2.1, y.2.2.2.2⟩) (fun _ => rfl)).mono fun _ h => ⟨h.1, h.2.1, h.2.2.1⟩
def okCell (x : S75) : Prop := (∀ v ∈ x.f1, WireLaw.gS v.f0) ∧ WireLaw.gY x.f3.f0 ∧ In64 x.f3.f1 ∧ WireLaw.gS x.f3.f2
def okOut (x : S83) : Prop := WireLaw.gY x.f0 ∧ WireLaw.gS x.f1
theorem r71 : Op Try.prog 71 (Kd.slice 78 k78) (fun l => l.length ≤ maxLen ∧ ∀ y ∈ l, WireLaw.gS y.f0) := Op.slice v78 Try.underlying71 (by kernel_rfl)
theorem c75 : Op Try.prog 75 k75 okCell := ((Op.struct Try.underlying75 (by kernel_rfl) (OpF.cons s9 rfl rfl (OpF.cons r71 rfl rfl (OpF.cons b4 rfl rfl (OpF.last l73 rfl))))).iso (fun x : S75 => (x.f0, x.f1, x.f2, x.f3)) (fun y => ⟨y.1, y.2.1, y.2.2.1, y.2.2.2⟩) (fun _ => rfl)).mono fun _ h => ⟨h.2.1.2, h.2.2.2⟩
theorem r26 : Op Try.prog 26 (Kd.slice 65 k65) (fun l => l.length ≤ maxLen ∧ ∀ y ∈ l, True) := Op.slice p65 Try.underlying26 (by kernel_rfl)
theorem r27 : Op Try.prog 27 (Kd.slice 67 k67) (fun l => l.length ≤ maxLen ∧ ∀ y ∈ l, True) := Op.slice w67 Try.underlying27 (by kernel_rfl)
theorem r30 : Op Try.prog 30 (Kd.slice 75 k75) (fun l => l.length ≤ maxLen ∧ ∀ y ∈ l, okCell y) := Op.slice c75 Try.underlying30 (by kernel_rfl)
theorem r31 : Op Try.prog 31 (Kd.slice 83 k83) (fun l => l.length ≤ maxLen ∧ ∀ y ∈ l, okOut y) := Op.slice o83 Try.underlying31 (by kernel_rfl)
def k29 : Kd CmdV := Kd.iso (Kd.pair (Kd.int .i64) (Kd.pair (Kd.int .i64) (Kd.pair (Kd.int .i64) (Kd.pair (Kd.int .i64) (Kd.pair k23 (Kd.pair k25 (Kd.pair (Kd.int .i64) (Kd.pair Kd.bool (Kd.pair (Kd.slice 65 k65) (Kd.slice 67 k67)))))))))) (fun c : CmdV => (c.kind, c.epoch, c.node, c.home, c.by_, c.at_, c.wall, c.yes, c.spans, c.writes))
def k33 : Kd PartV := Kd.iso (Kd.pair (Kd.int .i64) (Kd.pair (Kd.int .i64) (Kd.pair k25 (Kd.pair (Kd.int .i64) (Kd.pair (Kd.int .i64) (Kd.pair (Kd.slice 75 k75) (Kd.pair (Kd.slice 83 k83) (Kd.slice 83 k83)))))))) (fun p : PartV => (p.epoch, p.holder, p.floor, p.closed, p.low, p.cells, p.records, p.done))
theorem c29 : Op Try.prog 29 k29 gCmd0 := ((Op.struct Try.underlying29 (by kernel_rfl) (OpF.cons i3 rfl rfl (OpF.cons i3 rfl rfl (OpF.cons i3 rfl rfl (OpF.cons i3 rfl rfl (OpF.cons y23 rfl rfl (OpF.cons t25 rfl rfl (OpF.cons i2 rfl rfl (OpF.cons b4 rfl rfl (OpF.cons r26 rfl rfl (OpF.last r27 rfl))))))))))).iso (fun c : CmdV => (c.kind, c.epoch, c.node, c.home, c.by_, c.at_, c.wall, c.yes, c.spans, c.writes)) (fun y => ⟨y.1, y.2.1, y.2.2.1, y.2.2.2.1, y.2.2.2.2.1, y.2.2.2.2.2.1, y.2.2.2.2.2.2.1, y.2.2.2.2.2.2.2.1, y.2.2.2.2.2.2.2.2.1, y.2.2.2.2.2.2.2.2.2⟩) (fun _ => rfl)).mono fun _ h => ⟨h.1, h.2.1, h.2.2.1, h.2.2.2.1, h.2.2.2.2.1, h.2.2.2.2.2.1, h.2.2.2.2.2.2.1⟩
def okPart (p : PartV) : Prop := In64 p.epoch ∧ In64 p.holder ∧ WireLaw.gS p.floor ∧ In64 p.closed ∧ In64 p.low ∧ (∀ x ∈ p.cells, okCell x) ∧ (∀ x ∈ p.records, okOut x) ∧ ∀ x ∈ p.done, okOut x
theorem p33 : Op Try.prog 33 k33 okPart := ((Op.struct Try.underlying33 (by kernel_rfl) (OpF.cons i3 rfl rfl (OpF.cons i3 rfl rfl (OpF.cons t25 rfl rfl (OpF.cons i2 rfl rfl (OpF.cons i2 rfl rfl (OpF.cons r30 rfl rfl (OpF.cons r31 rfl rfl (OpF.last r31 rfl))))))))).iso (fun p : PartV => (p.epoch, p.holder, p.floor, p.closed, p.low, p.cells, p.records, p.done)) (fun y => ⟨y.1, y.2.1, y.2.2.1, y.2.2.2.1, y.2.2.2.2.1, y.2.2.2.2.2.1, y.2.2.2.2.2.2.1, y.2.2.2.2.2.2.2⟩) (fun _ => rfl)).mono fun _ h => ⟨h.1, h.2.1, h.2.2.1, h.2.2.2.1, h.2.2.2.2.1, h.2.2.2.2.2.1.2, h.2.2.2.2.2.2.1.2, h.2.2.2.2.2.2.2.2⟩
section
variable {H : Type} {enc : TypeId × Value → H} {sp : Nat → Bool} {hd : Bool} {base : Nat} {v : Value} {d : DataW H} {ps : List MemPlace} {w : World}
set_option maxRecDepth 100000 in
theorem open_cmd (hv : Value.okWide Try.prog w .any base 29 v) (h : DataW.Trod enc Try.prog w 0 sp hd 29 v d ps) :
  ∃ (c : CmdV) (A1 A2 : Option Addr) (c1 c2 : Nat), v = cmdAgg c (.slice A1 c.spans.length c1) (.slice A2 c.writes.length c2) ∧ Kd.C k65 w A1 c.spans.length c.spans ∧ c.spans.length ≤ c1 ∧ Kd.C k67 w A2 c.writes.length c.writes ∧ c.writes.length ≤ c2 ∧ gCmd0 c := by
 obtain ⟨⟨cs⟩, rfl, _⟩ := okWide_struct Try.underlying29 hv
 obtain ⟨fuel, hf⟩ := h
 obtain ⟨c, h1, h2⟩ := c29.2 _ _ _ _ _ _ _ _ hf
 replace h1 : k29.K w c cs := h1
 obtain ⟨_, _, rfl, rfl, h1⟩ := h1
 obtain ⟨_, _, rfl, rfl, h1⟩ := h1
 obtain ⟨_, _, rfl, rfl, h1⟩ := h1
 obtain ⟨_, _, rfl, rfl, h1⟩ := h1
 obtain ⟨_, _, rfl, h3, h1⟩ := h1
 obtain ⟨_, _, rfl, rfl, h3⟩ := h3
 obtain ⟨_, _, rfl, rfl, h3⟩ := h3
 obtain ⟨_, _, rfl, rfl, h3⟩ := h3
 obtain rfl := h3
 obtain ⟨_, _, rfl, h3, h1⟩ := h1
 obtain ⟨_, _, rfl, rfl, h3⟩ := h3
 obtain rfl := h3
 obtain ⟨_, _, rfl, rfl, h1⟩ := h1
 obtain ⟨_, _, rfl, rfl, h1⟩ := h1
 obtain ⟨_, _, rfl, ⟨A1, c1, rfl, k1, j1⟩, ⟨A2, c2, rfl, k2, j2⟩⟩ := h1
 exact ⟨c, A1, A2, c1, c2, rfl, j1, k1, j2, k2, h2⟩
set_option maxRecDepth 100000 in
theorem open_part (hv : Value.okWide Try.prog w .any base 33 v) (h : DataW.Trod enc Try.prog w 0 sp hd 33 v d ps) :
  ∃ (p : PartV) (A1 A2 A3 : Option Addr) (c1 c2 c3 : Nat), v = partV p (.slice A1 p.cells.length c1) (.slice A2 p.records.length c2) (.slice A3 p.done.length c3) ∧ Kd.C k75 w A1 p.cells.length p.cells ∧ p.cells.length ≤ c1 ∧ Kd.C k83 w A2 p.records.length p.records ∧ p.records.length ≤ c2 ∧ Kd.C k83 w A3 p.done.length p.done ∧ p.done.length ≤ c3 ∧ okPart p := by
 obtain ⟨⟨cs⟩, rfl, _⟩ := okWide_struct Try.underlying33 hv
 obtain ⟨fuel, hf⟩ := h
 obtain ⟨p, h1, h2⟩ := p33.2 _ _ _ _ _ _ _ _ hf
 replace h1 : k33.K w p cs := h1
 obtain ⟨_, _, rfl, rfl, h1⟩ := h1
 obtain ⟨_, _, rfl, rfl, h1⟩ := h1
 obtain ⟨_, _, rfl, h3, h1⟩ := h1
 obtain ⟨_, _, rfl, rfl, h3⟩ := h3
 obtain rfl := h3
 obtain ⟨_, _, rfl, rfl, h1⟩ := h1
 obtain ⟨_, _, rfl, rfl, h1⟩ := h1
 obtain ⟨_, _, rfl, ⟨A1, c1, rfl, k1, j1⟩, h1⟩ := h1
 obtain ⟨_, _, rfl, ⟨A2, c2, rfl, k2, j2⟩, ⟨A3, c3, rfl, k3, j3⟩⟩ := h1
 exact ⟨p, A1, A2, A3, c1, c2, c3, rfl, j1, k1, j2, k2, j3, k3, h2⟩
end
end Go.Proofs.Ytjfgapaohldbkaa.Opens

