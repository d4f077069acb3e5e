/- Twin, Kept and Spoil of the laws' own package: a twin is a row of the call's own with three bytes of room behind what it shows; Kept tells true of a twin that stands; Spoil writes over one row alone. Bound: at most 2^40 bytes. -/
import Derived.Test.YtpoejopnjkcdpaaQAx0
import Derived.Laws.CopyOwn
import Derived.Laws.Rows
import Derived.Lib.Hide
namespace Go.Proofs.Ytpoejopnjkcdpaa.Twin
open Go.RowKit Go.Proofs.Ytpoejopnjkcdpaa.QA Go.Proofs.YtpoejopnjkcdpaaW.PrintWords Go.Proofs.YtpoejopnjkcdpaaW.PrintLast Go.Proofs.YtpoejopnjkcdpaaW.PrintMore
set_option linter.unusedVariables false
set_option linter.unusedSimpArgs false

/-- Block g is a row of bytes, just l. -/
def Full (w : World) (g : Nat) (l : List Int) : Prop := w.ownsRow g 5 1 (.slice (some ⟨g, 0, none⟩) l.length l.length) l.length (nums .u8 l)
theorem full_of_heap {w : World} {g : Nat} {l : List Int} (h : w.heap[g]? = some (.cells (nums .u8 l).toArray 5 (0, 0))) (hm : l.length ≤ maxLen) : Full w g l :=
  ⟨by simp [nums], .inr ⟨g, l.length, _, rfl, Nat.le_refl _, h, Nat.le_refl _, hm, by simp [nums], List.take_of_length_le (by simp [nums])⟩⟩
theorem full_heap {w : World} {g : Nat} {l : List Int} (h : Full w g l) (hl : 0 < l.length) : w.heap[g]? = some (.cells (nums .u8 l).toArray 5 (0, 0)) := by
  rcases h.2 with ⟨h1, h2⟩ | ⟨g', cap, cur, h1, h2, h3, h4, h5, h6, h7⟩
  · omega
  · injection h1 with h8 h9 h10
    injection h8 with h8
    injection h8 with h8
    subst h8
    have h11 : cur.toList = nums .u8 l := by rw [← h7, List.take_of_length_le (by simp; omega)]
    rw [h3, ← h11]
theorem full_below {B : Nat} {w w1 : World} {g : Nat} {l : List Int} (h : Full w g l) (hb : Below B w w1) (hg : g < B) : Full w1 g l :=
  own_move h (fun k hk => by have : g = k := by simpa [Value.ownBlock] using hk
                             subst this; exact hb.block g hg)
theorem full_grown {w w1 : World} {g : Nat} {l : List Int} (h : Full w g l) {row : Option Nat} (hb : w.grownBy w1 row) (hg : some g ≠ row) (hlt : g < w.heap.size) : Full w1 g l :=
  own_move h (fun k hk => by have : g = k := by simpa [Value.ownBlock] using hk
                             subst this; exact hb.block g hlt hg)
theorem full_put {w : World} {g : Nat} {l : List Int} (h : Full w g l) (i : Nat) (x : Int) : Full (w.setCell ⟨g, i, none⟩ (.int .u8 x)) g (l.set i x) := by
  have h2 := own_put (show w.ownsRow g 5 1 (.slice (some ⟨g, 0, none⟩) l.length l.length) l.length (nums .u8 l) from h) (i : Int) x
  rw [Int.toNat_natCast] at h2
  unfold Full
  rw [List.length_set] at h2 ⊢
  exact h2
theorem full_at {w : World} {g : Nat} {l : List Int} (h : Full w g l) (i : Nat) (hi : i < l.length) : w.cell? ⟨g, i, none⟩ = some (.int .u8 (rd l i)) ∧ w.frozen? ⟨g, i, none⟩ = false := by
  have := own_at h (i : Int) (by omega) (by omega)
  rwa [Int.toNat_natCast] at this

/-- A twin of l stands in block g. -/
def TwinAt (w : World) (g : Nat) (l : List Int) : Prop := Full w g (l ++ [229, 229, 229])
theorem twin_below {B : Nat} {w w1 : World} {g : Nat} {l : List Int} (h : TwinAt w g l) (hb : Below B w w1) (hg : g < B) : TwinAt w1 g l := full_below h hb hg
theorem twin_own {w : World} {g : Nat} {l : List Int} (h : TwinAt w g l) : w.ownsRow g 5 1 (.slice (some ⟨g, 0, none⟩) l.length (l.length + 3)) l.length (nums .u8 l) := by
  have h1 : Full w g (l ++ [229, 229, 229]) := h
  unfold Full at h1
  have h2 := own_take (m := l.length) h1 (by simp)
  have e : (nums .u8 (l ++ [229, 229, 229])).take (l.length * 1) = nums .u8 l := by simp [nums]
  rw [e] at h2
  simpa using h2
theorem twin_lt {w : World} {g : Nat} {l : List Int} (h : TwinAt w g l) : g < w.heap.size := own_lt (twin_own h) g (by simp [Value.ownBlock])
theorem twin_C {w : World} {g : Nat} {l : List Int} (h : TwinAt w g l) : Kd.C (Kd.int .u8) w (some ⟨g, 0, none⟩) l.length l :=
  Kd.C_of_reads (enc := Value.int .u8) (d := 0) (own_reads_of' (show w.ownsRow g 5 1 (.slice (some ⟨g, 0, none⟩) l.length (l.length + 3)) l.length (encs (Value.int .u8) l) from twin_own h))

/-- make([]byte, n), its row known whole. -/
theorem make_exact {P : Program} {ops : Array Oper} {rest : List Oper} {o : Oper} {a : Act} {Q : Exit → Act → World → Prop} {W : World} (hgd : o.guard = none) (t x y : Nat) (tx ty : Operand) (ho : o.op = .makeSlice t tx ty) (m : Int) (n : Nat) (hmn : m = n) (hx : a.eval tx = .int .i64 m) (hy : a.eval ty = .int .i64 m)
    (ht : P.underlying t = some (.slice 5)) (hinfo : (P.info? 5).map (fun i => (i.zero, i.size, i.bytes)) = some (some (.int .u8 0), 1, 1)) (hl : n ≤ 281474976710656)
    (h : ∀ g w1, Hid (g = W.heap.size) → Hid (w1.heap[g]? = some (.cells (nums .u8 (List.replicate n 0)).toArray 5 (0, 0))) → Below W.heap.size W w1 → wpList P ops Q rest (a.put o.dst (.slice (some ⟨g, 0, none⟩) n n)) w1) : wpList P ops Q (o :: rest) a W := by
  subst hmn
  obtain ⟨i0, hi, hzz⟩ := Option.map_eq_some_iff.1 hinfo
  simp only [Prod.mk.injEq] at hzz
  obtain ⟨hz0, hz1, hz2⟩ := hzz
  have hr := run_make (P := P) W t 5 i0 (.int .u8 0) ht hi hz0 .i64 .i64 (n : Int) (n : Int) (by omega) (by omega) (by rw [hz2]; omega) (by omega)
  simp only [Int.toNat_natCast] at hr
  rw [hz1] at hr
  have hrun : (execOp a.eval o).run P W = .ok (.value (.slice (some ⟨W.heap.size, 0, none⟩) n n)) (W.alloc (.cells (madeCells (Value.cells (.int .u8 0)) (n * 1)) 5)) := by
    simp [execOp, ho, hx, hy, hr]
  refine Kd.event_run hgd hrun (h _ _ (Lib.hid rfl) (Lib.hid ?_) (below_alloc (Below.refl _ _) _))
  rw [heap_alloc_new]
  congr 1
  congr 1
  simp [madeCells, nums, Value.cells, Nat.mod_one]
  apply Array.ext <;> simp
end Go.Proofs.Ytpoejopnjkcdpaa.Twin
