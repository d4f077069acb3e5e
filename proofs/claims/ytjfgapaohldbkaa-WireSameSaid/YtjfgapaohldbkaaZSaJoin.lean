/- WireSame: the walk over the arguments as they are opened: the call returns true. -/
import Derived.Test.YtjfgapaohldbkaaZOpenWire
import Derived.Test.YtjfgapaohldbkaaZWireSa
namespace Go.Proofs.Ytjfgapaohldbkaa.SaJoin
open Go.RowKit Go.Proofs.Ytjfgapaohldbkaa.QA Go.Proofs.YtjfgapaohldbkaaW.PrintWords Go.Proofs.Ytjfgapaohldbkaa.WireC Go.Proofs.Ytjfgapaohldbkaa.Opens Go.Proofs.Ytjfgapaohldbkaa.WireSa
set_option maxRecDepth 100000 in
theorem same_open {H : Type} {enc : TypeId × Value → H} {sp : Nat → Bool} {hd : Bool} {base : Nat} (v0 v1 v2 v3 : Value) (d0 d1 d2 d3 : DataW H) (p0 p1 p2 p3 : List MemPlace) (w : World)
  (g0 : Value.okWide Try.prog w .any base 29 v0) (h0 : DataW.Trod enc Try.prog w 0 sp hd 29 v0 d0 p0) (g1 : Value.okWide Try.prog w .any base 29 v1) (h1 : DataW.Trod enc Try.prog w 0 sp hd 29 v1 d1 p1)
  (g2 : Value.okWide Try.prog w .any base 33 v2) (h2 : DataW.Trod enc Try.prog w 0 sp hd 33 v2 d2 p2) (g3 : Value.okWide Try.prog w .any base 33 v3) (h3 : DataW.Trod enc Try.prog w 0 sp hd 33 v3 d3 p3) :
  Calls Try.prog 3 #[v0, v1, v2, v3] w fun e w' => e = .returned (.bool true) ∧ Below w.heap.size w w' := by
 obtain ⟨c, E1, E2, e1, e2, rfl, a1, b1, a2, b2, gc⟩ := open_cmd g0 h0
 obtain ⟨d, F1, F2, f1, f2, rfl, a3, b3, a4, b4, gd⟩ := open_cmd g1 h1
 obtain ⟨p, M1, M2, M3, m1, m2, m3, rfl, a5, b5, a6, b6, a7, b7, _⟩ := open_part g2 h2
 obtain ⟨q, R1, R2, R3, r1, r2, r3, rfl, a8, b8, a9, b9, a10, b10, _⟩ := open_part g3 h3
 exact same_walk c d p q w a1 b1 a2 b2 a3 b3 a4 b4 a5 b5 a6 b6 a7 b7 a8 b8 a9 b9 a10 b10 gc gd
end Go.Proofs.Ytjfgapaohldbkaa.SaJoin

