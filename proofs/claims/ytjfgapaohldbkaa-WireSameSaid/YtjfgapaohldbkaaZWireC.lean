/- Commands, parts and joints as lists of bytes: what is written, what is read of bytes, and that the one is the other's back. Without any program; each fact under the bounds that it states. -/
import Derived.Test.YtjfgapaohldbkaaZQAll
import Derived.Test.YtjfgapaohldbkaaZLex
namespace Go.Proofs.Ytjfgapaohldbkaa.WireC
open Go.RowKit Go.Proofs.Ytjfgapaohldbkaa.QA Go.Proofs.YtjfgapaohldbkaaW.PrintWords Go.Proofs.Ytjfgapaohldbkaa.Facts Go.Proofs.Ytjfgapaohldbkaa.Codec Go.Proofs.Ytjfgapaohldbkaa.Lex
def zig (a : Int) : Int := if 0 ≤ a then 2 * a else -2 * a - 1
def zag (u : Int) : Int := if u % 2 = 0 then u / 2 else -(u / 2) - 1
theorem zig_u64 {a : Int} (h : In64 a) : U64 (zig a) := by
 have h1 := h.1
 have h2 := h.2
 unfold zig U64
 split <;> omega
theorem zag_in64 {u : Int} (h : U64 u) : In64 (zag u) := by
 have h1 := h.1
 have h2 := h.2
 unfold zag In64
 split <;> omega
theorem zag_zig (a : Int) : zag (zig a) = a := by
 unfold zag zig
 by_cases c : 0 ≤ a
 ·rw [if_pos c, if_pos (by omega)]; omega
 ·rw [if_neg c, if_neg (by omega)]; omega
def eN (a : Int) : List Int := V (zig a)
def eT (s : ByteArray) : List Int := T (bytesOf s)
def eF (b : Bool) : List Int := [if b then 1 else 0]
def ord (a : Int) : Int := a + 9223372036854775808
def eS (x : S25) : List Int := be 8 (ord x.f0) ++ be 8 (ord x.f1)
def eY (x : S23) : List Int := eN x.f0 ++ eN x.f1 ++ eN x.f2 ++ eN x.f3
def eSpan (x : S65) : List Int := eT x.f0 ++ eT x.f1
def eWrite (x : S67) : List Int := eT x.f0 ++ eF x.f1 ++ eT x.f2
def eL {α : Type} (e : α → List Int) (l : List α) : List Int := eN (l.length : Int) ++ l.flatMap e
structure CmdV where
 kind : Int
 epoch : Int
 node : Int
 home : Int
 by_ : S23
 at_ : S25
 wall : Int
 yes : Bool
 spans : List S65
 writes : List S67
def eCmd (c : CmdV) : List Int := [1] ++ eN c.kind ++ eN c.epoch ++ eN c.node ++ eN c.home ++ eY c.by_ ++ eS c.at_ ++ eN c.wall ++ eF c.yes ++ eL eSpan c.spans ++ eL eWrite c.writes
structure PartV where
 epoch : Int
 holder : Int
 floor : S25
 closed : Int
 low : Int
 cells : List S75
 records : List S83
 done : List S83
structure JointV where
 old : S43
 new : S43
 two : Bool
abbrev Pr (α : Type) := List Int → Option (α × List Int)
namespace Pr
def pure {α : Type} (a : α) : Pr α := fun l => some (a, l)
def no {α : Type} : Pr α := fun _ => none
def bind {α β : Type} (p : Pr α) (q : α → Pr β) : Pr β := fun l => match p l with
 | none => none
 | some (v, t) => q v t
def rep {α : Type} (p : Pr α) : Nat → Pr (List α)
 | 0 => pure []
 | n + 1 => bind p fun x => bind (rep p n) fun xs => pure (x :: xs)
end Pr
def pN : Pr Int := fun l => if (tv 0 0 l).2.2 = 0 then some (zag (tv 0 0 l).1, l.drop (tv 0 0 l).2.1.toNat) else none
def pT : Pr ByteArray := fun l => if (tt l).2.2 = 0 then some (strOfNums (tt l).1, l.drop (tt l).2.1.toNat) else none
def pB : Pr Int
 | [] => none
 | c :: t => some (c, t)
def pF : Pr Bool := Pr.bind pB fun c => if c > 1 then Pr.no else Pr.pure (decide (c = 1))
def pS : Pr S25 := fun l => if l.length < 16 then none else some (⟨gv (l.take 8) - 9223372036854775808, gv ((l.take 16).drop 8) - 9223372036854775808⟩, l.drop 16)
def pY : Pr S23 := Pr.bind pN fun a => Pr.bind pN fun b => Pr.bind pN fun c => Pr.bind pN fun d => Pr.pure ⟨a, b, c, d⟩
def pL {α : Type} (p : Pr α) : Pr (List α) := Pr.bind pN fun n => if n < 0 ∨ n > 65536 then Pr.no else Pr.rep p n.toNat
def pSpan : Pr S65 := Pr.bind pT fun a => Pr.bind pT fun b => Pr.pure ⟨a, b⟩
def pWrite : Pr S67 := Pr.bind pT fun a => Pr.bind pF fun b => Pr.bind pT fun c => Pr.pure ⟨a, b, c⟩
def zCmd : CmdV := ⟨0, 0, 0, 0, ⟨0, 0, 0, 0⟩, ⟨0, 0⟩, 0, false, [], []⟩
def zPart : PartV := ⟨0, 0, ⟨0, 0⟩, 0, 0, [], [], []⟩
def pCmd0 : Pr CmdV := Pr.bind pN fun a => Pr.bind pN fun b => Pr.bind pN fun c => Pr.bind pN fun d => Pr.bind pY fun y => Pr.bind pS fun t => Pr.bind pN fun w => Pr.bind pF fun e => Pr.pure ⟨a, b, c, d, y, t, w, e, [], []⟩
def pCmd : Pr (Int × CmdV) := Pr.bind pB fun f => Pr.bind pCmd0 fun c => Pr.bind (pL pSpan) fun sp => Pr.bind (pL pWrite) fun wr => Pr.pure (f, ⟨c.kind, c.epoch, c.node, c.home, c.by_, c.at_, c.wall, c.yes, sp, wr⟩)
def Step {α : Type} (p : Pr α) (l : List Int) (s : Bool) (v : α) (l' : List Int) (s' : Bool) : Prop := (s = true → s' = true) ∧ (s = false → (s' = true ∧ p l = none) ∨ (s' = false ∧ p l = some (v, l')))
namespace Step
variable {α β : Type} {p : Pr α} {l l1 l2 : List Int} {s s1 s2 : Bool} {v : α} {u : β}
theorem pure (a : α) (l : List Int) (s : Bool) : Step (Pr.pure a) l s a l s := ⟨id, fun h => .inr ⟨h, rfl⟩⟩
theorem no (a : α) (l l1 : List Int) (s : Bool) : Step Pr.no l s a l1 true := ⟨fun _ => rfl, fun _ => .inl ⟨rfl, rfl⟩⟩
theorem bad (p : Pr α) (a : α) (l l1 : List Int) : Step p l true a l1 true := ⟨fun _ => rfl, fun h => by cases h⟩
theorem bind {q : α → Pr β} (h : Step p l s v l1 s1) (k : Step (q v) l1 s1 u l2 s2) : Step (Pr.bind p q) l s u l2 s2 := by
 refine ⟨fun e => k.1 (h.1 e), fun e => ?_⟩
 unfold Pr.bind
 rcases h.2 e with ⟨e1, e2⟩ | ⟨e1, e2⟩
 ·exact .inl ⟨k.1 e1, by rw [e2]⟩
 ·rw [e2]
  exact k.2 e1
theorem told (h : Step p l false v l1 false) : p l = some (v, l1) := by
 rcases h.2 rfl with ⟨e, _⟩ | ⟨_, e⟩
 ·cases e
 ·exact e
end Step
end Go.Proofs.Ytjfgapaohldbkaa.WireC

