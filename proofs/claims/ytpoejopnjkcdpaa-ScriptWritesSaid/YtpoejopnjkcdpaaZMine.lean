/- Small laws of this session beside the print's words: a slice made with no elements and a capacity of its own. Plain theorems. -/
import Derived.Test.YtpoejopnjkcdpaaZWMore
import Derived.Lib.AppendStr
namespace Go.Proofs.YtpoejopnjkcdpaaW.PrintWords
open Go.RowKit Go.Proofs.YtpoejopnjkcdpaaW.PrintLast
namespace Kd
section
variable {P : Program} {ops : Array Oper} {rest : List Oper} {o : Oper} {a : Act} {Q : Exit → Act → World → Prop} {α : Type}
theorem append_str_at {P : Program} (w : World) (base : Nat) (t u ty e : TypeId) (i : TypeInfo) (ht : P.underlying t = some (.slice e)) (hu : P.underlying u = some .string) (hi : P.info? e = some i) (hz : i.zero = some (.int .u8 0))
  (hsize : i.size = 1) (hby : i.bytes = 1) (v : Value) (n : Nat) (xs : List Value) (hown : w.ownsRow base e 1 v n xs) (s : ByteArray) (hbytes : n + s.size ≤ 140737488355328) {v1 : Value} {w1 : World} (hr1 : (Builtin.append_ #[t, u] ty #[v, .string s]).run P w = .ok v1 w1) (hnil : v1 = .slice none 0 0 ↔ v = .slice none 0 0 ∧ s.size = 0) :
  v1.ownBlock = v.ownBlock ∨ ∃ b, v1.ownBlock = some b ∧ w.heap.size ≤ b := by
 have hxl : xs.length = n := by simpa using hown.1
 rcases hown.2 with ⟨rfl, rfl⟩ | ⟨g, cap, cur, rfl, hbg, hg, hnc, hcm, hcs, htake⟩
 ·by_cases hm : s.size = 0
  ·rw [hnil.2 ⟨rfl, hm⟩]
   exact .inl rfl
  ·have hr := run_append_nil_string (P := P) w t u ty e i (.int .u8 0) ht hu hi hz s (by omega) (by omega) (by rw [hby]; omega)
   rw [hr] at hr1
   injection hr1 with h1 h2
   rw [← h1]
   exact .inr ⟨w.heap.size, rfl, Nat.le_refl _⟩
 ·by_cases hroom : n + s.size ≤ cap
  ·have hcs' : cur.size = cap := by simpa using hcs
   have hr := Lib.run_append_room_string (P := P) w t u ty e i ht hu hi hsize g n cap cur hg s hroom (by omega)
   rw [hr] at hr1
   injection hr1 with h1 h2
   rw [← h1]
   exact .inl rfl
  ·have holds : ∀ j u, xs[j]? = some u → w.cell? ((⟨g, 0, none⟩ : Addr).add j) = some u := hown.cells (g := g) rfl
   have hr := Lib.run_append_grow_string (P := P) w t u ty e i (.int .u8 0) ht hu hi hz ⟨g, 0, none⟩ n cap xs (by rw [hsize]; simpa using hxl) holds s (by omega) (by omega) (by rw [hby]; exact growslice_fits (by omega) (by omega))
   rw [hr] at hr1
   injection hr1 with h1 h2
   rw [← h1]
   exact .inr ⟨w.heap.size, rfl, Nat.le_refl _⟩
theorem R_append_str {w0 W : World} (base : Nat) (hgd : o.guard = none) (sl x : Operand) (t u e : TypeId)
  (ho : o.op = .call { callee := .builtin .append, args := #[sl, x], argTypes := #[t, u] })
  (ht : P.underlying t = some (.slice e)) (hu : P.underlying u = some .string) (hinfo : (P.info? e).map (fun i => (i.zero, i.size, i.bytes)) = some (some (.int .u8 0), 1, 1))
  (v : Value) (xs : List Int) (y : ByteArray) (ok : Nat → Prop) (hs : a.eval sl = v) (hx : a.eval x = .string y) (hfresh : ∀ k, W.heap.size ≤ k → ok k)
  (HO : (Kd.int .u8).R e W base ok v xs) (HB : Below base w0 W) (hbase : base ≤ W.heap.size) (hl : xs.length + y.size ≤ 140737488355328)
  (h : ∀ v1 w1, (Kd.int .u8).R e w1 base ok v1 (xs ++ bytesOf y) → Below base w0 w1 → W.grownBy w1 v.ownBlock → (v1.ownBlock = v.ownBlock ∨ ∃ b, v1.ownBlock = some b ∧ W.heap.size ≤ b) → wpList P ops Q rest (a.put o.dst v1) w1) :
  wpList P ops Q (o :: rest) a W := by
 obtain ⟨i0, hi, hzz⟩ := Option.map_eq_some_iff.1 hinfo
 simp only [Prod.mk.injEq] at hzz
 obtain ⟨hz0, hz1, hz2⟩ := hzz
 have hown0 : W.ownsRow base e 1 v xs.length (nums .u8 xs) := Kd.own_of_R HO
 refine wpList_plain hgd fun K hK => ?_
 obtain ⟨v1, w1, hr, hown, hg, hnil⟩ := Lib.run_append_own_string (P := P) W base t u o.type e i0 ht hu hi hz0 hz1 hz2 v xs.length (nums .u8 xs) hown0 y (by simp only [maxLen]; omega) hl hbase
 have hat := append_str_at W base t u o.type e i0 ht hu hi hz0 hz1 hz2 v xs.length (nums .u8 xs) hown0 y hl hr hnil
 have hl2 : (xs ++ bytesOf y).length = xs.length + y.size := by rw [List.length_append, bytesOf_length]
 have hc : nums .u8 (xs ++ bytesOf y) = nums .u8 xs ++ Lib.strCells y := by
  rw [nums_append]
  congr 1
  simp [nums, bytesOf, Lib.strCells]
 have hown1 : w1.ownsRow base e 1 v1 (xs ++ bytesOf y).length (encs (Value.int .u8) (xs ++ bytesOf y)) := by
  have h2 := hown
  rw [← hl2, ← hc] at h2
  exact h2
 have hok : ∀ k, v1.ownBlock = some k → ok k := by
  intro k hk
  rcases hat with hat | ⟨b, hb, hle⟩
  ·exact HO.1 k (hat ▸ hk)
  ·rw [hb] at hk
   injection hk with hk
   exact hfresh k (by omega)
 unfold Oper.wp execOp
 simp only [ho, resolve, invoke, builtin, Sem.run_bind, Sem.run_pure, Result.andThen_ok, List.map_toArray, List.map_cons, List.map_nil, hs, hx, hr]
 exact hK _ _ (h v1 w1 (Kd.R_of_own hown1 hok) (HB.grown hg hbase (own_base hown0)) hg hat)
theorem ch11_blk {w : World} {gb t : Nat} {z0 z1 z2 z3 z4 z5 z6 z7 z8 z9 z10 : Value} (h : w.heap[gb]? = some (.cells #[z0, z1, z2, z3, z4, z5, z6, z7, z8, z9, z10] t (0, 0))) (v0 v1 v2 v3 v4 v5 v6 v7 v8 v9 v10 : Value) : (((((((((((((((((((((((w).setCell ⟨gb, 0, none⟩ v0)).setCell ⟨gb, 1, none⟩ v1)).setCell ⟨gb, 2, none⟩ v2)).setCell ⟨gb, 3, none⟩ v3)).setCell ⟨gb, 4, none⟩ v4)).setCell ⟨gb, 5, none⟩ v5)).setCell ⟨gb, 6, none⟩ v6)).setCell ⟨gb, 7, none⟩ v7)).setCell ⟨gb, 8, none⟩ v8)).setCell ⟨gb, 9, none⟩ v9)).setCell ⟨gb, 10, none⟩ v10)).heap[gb]? = some (.cells #[v0, v1, v2, v3, v4, v5, v6, v7, v8, v9, v10] t (0, 0)) := (blk_put (blk_put (blk_put (blk_put (blk_put (blk_put (blk_put (blk_put (blk_put (blk_put (blk_put h 0 _ (cs' := #[v0, z1, z2, z3, z4, z5, z6, z7, z8, z9, z10]) rfl) 1 _ (cs' := #[v0, v1, z2, z3, z4, z5, z6, z7, z8, z9, z10]) rfl) 2 _ (cs' := #[v0, v1, v2, z3, z4, z5, z6, z7, z8, z9, z10]) rfl) 3 _ (cs' := #[v0, v1, v2, v3, z4, z5, z6, z7, z8, z9, z10]) rfl) 4 _ (cs' := #[v0, v1, v2, v3, v4, z5, z6, z7, z8, z9, z10]) rfl) 5 _ (cs' := #[v0, v1, v2, v3, v4, v5, z6, z7, z8, z9, z10]) rfl) 6 _ (cs' := #[v0, v1, v2, v3, v4, v5, v6, z7, z8, z9, z10]) rfl) 7 _ (cs' := #[v0, v1, v2, v3, v4, v5, v6, v7, z8, z9, z10]) rfl) 8 _ (cs' := #[v0, v1, v2, v3, v4, v5, v6, v7, v8, z9, z10]) rfl) 9 _ (cs' := #[v0, v1, v2, v3, v4, v5, v6, v7, v8, v9, z10]) rfl) 10 _ (cs' := #[v0, v1, v2, v3, v4, v5, v6, v7, v8, v9, v10]) rfl)
end
end Kd
end Go.Proofs.YtpoejopnjkcdpaaW.PrintWords

