/- Written by a program of this session (wip/myprint.sh): contracts of Go functions of the translation: each call comes to what the Lean function of its name says. -/
import Derived.Test.YtpoejopnjkcdpaaZQAx0
namespace Go.Proofs.Ytpoejopnjkcdpaa.QA
open Go.RowKit Go.Proofs.YtpoejopnjkcdpaaW.PrintWords Go.Proofs.YtpoejopnjkcdpaaW.PrintLast Go.Proofs.YtpoejopnjkcdpaaW.PrintMore
attribute [local go_sem] max2_int min2_int max_two min_two max_three min_three max_four min_four   -- for this text's walks alone
set_option linter.unusedVariables false
set_option linter.unusedSimpArgs false
def script_Decode.byte : List Int → Bool → Int × List Int × Bool
 | [], _ => (0, [], true)
 | c :: t, s => (c, t, s)
theorem script_Decode.byte_pos {l : List Int} (s : Bool) (h : 0 < l.length) : script_Decode.byte l s = (rd l 0, l.drop 1, s) := by
 cases l with
 | nil => exact absurd h (Nat.lt_irrefl 0)
 | cons c t => rfl
theorem rd_range {l : List Int} (h : ∀ x ∈ l, 0 ≤ x ∧ x < 256) (hp : 0 < l.length) : 0 ≤ rd l 0 ∧ rd l 0 < 256 := by
 cases l with
 | nil => exact absurd hp (Nat.lt_irrefl 0)
 | cons c t => exact h c List.mem_cons_self
def RD (W0 w : World) (g : Nat) (l : List Int) (n : Int) (s : Bool) : Prop :=
 ∃ A c, w.heap[g]? = some (.cells #[.slice A l.length c, .int .i64 n, .bool s] 44 (0, 0)) ∧ l.length ≤ c ∧ Kd.C (Kd.int .u8) W0 A l.length l ∧ W0.heap.size ≤ g ∧ Below W0.heap.size W0 w ∧ (∀ x ∈ l, 0 ≤ x ∧ x < 256) ∧ 1 ≤ n ∧ n ≤ 9
theorem RD.lt {W0 w : World} {g : Nat} {l : List Int} {n : Int} {s : Bool} (h : RD W0 w g l n s) : g < w.heap.size := by
 obtain ⟨A, c, h1, _⟩ := h
 exact blk_lt h1
def Rdp (W0 w : World) (g : Nat) (n : Int) (v : Value) (l : List Int) (s : Bool) (e : Ending) (w' : World) : Prop := e = .returned v ∧ RD W0 w' g l n s ∧ KeepBut w w' g none
theorem keep_set {w : World} {g j : Nat} {v : Value} : KeepBut w (w.setCell ⟨g, j, none⟩ v) g none := (KeepBut.refl w g none).set_ j v
set_option maxHeartbeats 4000000 in
set_option maxRecDepth 100000 in
theorem script_Decode.byte_calls {W0 w : World} {g : Nat} {l : List Int} {n : Int} {s : Bool} (h : RD W0 w g l n s) :
  Calls Try.prog 23 #[.pointer (some ⟨g, 0, none⟩)] w (Rdp W0 w g n (.int .i64 (script_Decode.byte l s).1) (script_Decode.byte l s).2.1 (script_Decode.byte l s).2.2) := by
 obtain ⟨A, c, hg, hlc, hC, hW, hB, hby, hn⟩ := h
 have HN := Aside0.mk hn
 clear hn
 have H0 : w.cell? ⟨g, 0, none⟩ = some (.slice A l.length c) := (blk_cell hg 0).trans rfl
 have F0 := blk_frozen hg 0
 have H2 : w.cell? ⟨g, 2, none⟩ = some (.bool s) := (blk_cell hg 2).trans rfl
 have F2 := blk_frozen hg 2
 have HG := Aside0.mk hg
 have HW := Aside0.mk hW
 have HB := Aside0.mk hB
 have HC := Aside0.mk hC
 have HL := Aside0.mk hlc
 have HY := Aside0.mk hby
 clear hg hW hB hC hlc hby
 by_cases hp : 0 < l.length
 ·have hd : (l.length == 0) = false := beq_eq_false_iff_ne.mpr (by omega)
  have hd2 : (((l.length : Nat) : Int) == 0) = false := beq_eq_false_iff_ne.mpr (by omega)
  have hd3 : ¬ l = [] := fun h => by rw [h] at hp; exact absurd hp (Nat.lt_irrefl 0)
  obtain ⟨ad, rfl, hc0⟩ : ∃ ad, A = some ad ∧ w.cell? (ad.add 0) = some (.int .u8 (rd l 0)) := by
   obtain ⟨ad, h1, h2⟩ := (Kd.reads_of_C (enc := Value.int .u8) (d := 0) (Kd.C_below HC.out HB.out)).2.2 hp
   exact ⟨ad, h1, h2 0 hp⟩
  have hr := rd_range HY.out hp
  obtain ⟨hr0, hr1⟩ := hr
  obtain ⟨i0, hi, _, hsz, _⟩ := info_parts info5
  have hcut := cut_from (P := Try.prog) 22 5 .i64 Try.underlying22 hi 1 hsz (some ad) l.length c 1 (by omega) (by omega)
  have hrC := Kd.C_drop (m := 1) (c := c) HC.out hp HL.out
  obtain ⟨A', hA'⟩ : ∃ A', A' = (if c = (1 : Int).toNat then some ad else (some ad : Option Addr).map (·.add ((1 : Int).toNat * 1))) := ⟨_, rfl⟩
  obtain ⟨t, ht⟩ : ∃ t, t = l.drop 1 := ⟨_, rfl⟩
  have hl1 : l.length - (1 : Int).toNat = t.length := by rw [ht, List.length_drop]; rfl
  have hrC' : Kd.C (Kd.int .u8) W0 A' t.length t := by rw [hA', ht]; exact hrC
  rw [← hA', hl1] at hcut
  have HC' := Aside0.mk hrC'
  have HT := Aside0.mk ht
  have HP := Aside0.mk hp
  have hc00 : w.cell? ad = some (.int .u8 (rd l 0)) := by have h0 := hc0; simpa [Addr.add] using h0
  have hp1 : (0 : Int) < (l.length : Int) := by omega
  have hp2 : (0 < l.length) = True := eq_true hp
  clear hA' hl1 hrC hrC' ht hp hi hsz
  go_enter Try.func23, Try.ntmps23
  go_wp2
  go_ret
  rw [script_Decode.byte_pos s HP.out, ← HT.out]
  exact ⟨rfl, ⟨A', _, heap_setCell_same w g 0 _ 44 _ HG.out, by have := HL.out; rw [HT.out, List.length_drop]; show l.length - 1 ≤ c - 1; omega, HC'.out, HW.out, HB.out.setCell HW.out _, fun x hx => HY.out x (by rw [HT.out] at hx; exact List.mem_of_mem_drop hx), HN.out⟩, keep_set⟩
 ·obtain rfl : l = [] := List.eq_nil_of_length_eq_zero (by omega)
  clear hp
  go_enter Try.func23, Try.ntmps23
  go_wp2
  go_ret
  exact ⟨rfl, ⟨A, c, heap_setCell_same w g 2 _ 44 _ HG.out, HL.out, HC.out, HW.out, HB.out.setCell HW.out _, HY.out, HN.out⟩, keep_set⟩
theorem RD.nodes_cell {W0 w : World} {g : Nat} {l : List Int} {n : Int} {s : Bool} (h : RD W0 w g l n s) : w.cell? ⟨g, 1, none⟩ = some (.int .i64 n) := by
 obtain ⟨A, c, h1, _⟩ := h
 exact (blk_cell h1 1).trans rfl
theorem RD.drew {W0 w : World} {g : Nat} {l : List Int} {n : Int} {s : Bool} (h : RD W0 w g l n s) : RD W0 w.drew g l n s := by
 obtain ⟨A, c, h1, h2, h3, h4, h5, h6⟩ := h
 exact ⟨A, c, h1, h2, h3, h4, below_drew h5, h6⟩
theorem RD.nodes {W0 w : World} {g : Nat} {l : List Int} {n : Int} {s : Bool} (h : RD W0 w g l n s) : 1 ≤ n ∧ n ≤ 9 := by
 obtain ⟨A, c, h1, h2, h3, h4, h5, h6, h7⟩ := h
 exact h7
theorem RD.bytes {W0 w : World} {g : Nat} {l : List Int} {n : Int} {s : Bool} (h : RD W0 w g l n s) : ∀ x ∈ l, 0 ≤ x ∧ x < 256 := by
 obtain ⟨A, c, h1, h2, h3, h4, h5, h6, h7⟩ := h
 exact h6
theorem script_Decode.byte_range {l : List Int} (s : Bool) (h : ∀ x ∈ l, 0 ≤ x ∧ x < 256) : 0 ≤ (script_Decode.byte l s).1 ∧ (script_Decode.byte l s).1 < 256 := by
 cases l with
 | nil => exact ⟨Int.le_refl 0, by show (0 : Int) < 256; omega⟩
 | cons c t => exact h c List.mem_cons_self
theorem keep_drew {w w1 : World} {g : Nat} (h : KeepBut w.drew w1 g none) : KeepBut w w1 g none := h
theorem keep_trans {w w1 w2 : World} {g : Nat} (h : KeepBut w w1 g none) (k : KeepBut w1 w2 g none) : KeepBut w w2 g none := h.trans k (.inl rfl)
def script_Decode.node (l : List Int) (s : Bool) (n : Int) : Int × List Int × Bool := (Int.tmod (script_Decode.byte l s).1 n + 1, (script_Decode.byte l s).2.1, (script_Decode.byte l s).2.2)
theorem node_sum {c n : Int} (h0 : 0 ≤ c) (h1 : c < 256) (hn : 1 ≤ n) : IntKind.i64.wrap (Int.tmod c n + 1) = Int.tmod c n + 1 := by
 have h2 : Int.tmod c n = c % n := Int.tmod_eq_emod_of_nonneg h0
 have h3 := Int.emod_nonneg c (show n ≠ 0 by omega)
 have h4 : c % n ≤ c := by
  have := Int.emod_add_mul_ediv c n
  have h5 : 0 ≤ n * (c / n) := Int.mul_nonneg (by omega) (Int.ediv_nonneg h0 (by omega))
  omega
 rw [IntKind.wrap_i64, h2]
 omega
set_option maxHeartbeats 4000000 in
set_option maxRecDepth 100000 in
theorem script_Decode.node_calls {W0 w : World} {g : Nat} {l : List Int} {n : Int} {s : Bool} (h : RD W0 w g l n s) :
  Calls Try.prog 24 #[.pointer (some ⟨g, 0, none⟩)] w (Rdp W0 w g n (.int .i64 (script_Decode.node l s n).1) (script_Decode.node l s n).2.1 (script_Decode.node l s n).2.2) := by
 have HR := Aside0.mk h
 have hsum := node_sum (script_Decode.byte_range s h.bytes).1 (script_Decode.byte_range s h.bytes).2 h.nodes.1
 have hn1 := h.nodes.1
 have hn0 : (n == 0) = false := beq_eq_false_iff_ne.mpr (by omega)
 have hn2 : ¬ n = 0 := by omega
 clear h
 unfold script_Decode.node
 go_enter Try.func24, Try.ntmps24
 go_wp2
 refine start_ (n := 9) (S := fun w' => w'.cell? ⟨g, 1, none⟩ = some (.int .i64 n)) (ds := []) #[false, false, false, false, false, false, false, false, false] (by kernel_rfl) rfl rfl ((HR.out.drew).nodes_cell) (fun hHeld => ?_)
 refine pure_ (i := 0) (N := some 3) (v := ?_) (a' := ?_) #[true, false, false, false, false, false, false, false, false] rfl rfl (by kernel_rfl) (fun _ _ _ h => h) (Or.inl ⟨by rfl, ?_⟩) ?_ ?_
 rotate_left
 ·intro w'
  go_simp
  with_reducible rfl
 rotate_left
 ·simp only [Act.put, List.setIfInBounds_toArray, List.set_cons_zero, List.set_cons_succ, i64_w, i32_w]
  rfl
 refine pure_ (i := 2) (N := some 5) (v := ?_) (a' := ?_) #[true, false, true, false, false, false, false, false, false] rfl rfl (by kernel_rfl) (fun _ _ _ h => h) (Or.inl ⟨by rfl, ?_⟩) ?_ ?_
 rotate_left
 ·intro w'
  go_simp
  with_reducible rfl
 rotate_left
 ·simp only [Act.put, List.setIfInBounds_toArray, List.set_cons_zero, List.set_cons_succ, i64_w, i32_w]
  rfl
 refine pure_ (i := 3) (N := some 6) (v := ?_) (a' := ?_) #[true, false, true, true, false, false, false, false, false] rfl rfl (by kernel_rfl) (fun _ _ _ h => h) (Or.inl ⟨by rfl, ?_⟩) ?_ ?_
 rotate_left
 ·intro w'
  go_simp
  with_reducible rfl
 rotate_left
 ·simp only [Act.put, List.setIfInBounds_toArray, List.set_cons_zero, List.set_cons_succ, i64_w, i32_w]
  rfl
 refine pure_ (i := 4) (N := some 7) (v := ?_) (a' := ?_) #[true, false, true, true, true, false, false, false, false] rfl rfl (by kernel_rfl) (fun _ _ _ h => h) (Or.inl ⟨by rfl, ?_⟩) ?_ ?_
 rotate_left
 ·intro w'
  go_simp
  with_reducible rfl
 rotate_left
 ·simp only [Act.put, List.setIfInBounds_toArray, List.set_cons_zero, List.set_cons_succ, i64_w, i32_w]
  rfl
 refine take_ (i := 5) (N := some 8) (v := ?_) (a' := ?_) #[true, false, true, true, true, true, false, false, false] rfl rfl (by kernel_rfl) (fun _ _ _ h => h) (Or.inl ⟨by rfl, ?_⟩) hHeld ?_ ?_
 rotate_left
 ·intro w' s0
  go_simp
  with_reducible rfl
 rotate_left
 ·simp only [Act.put, List.setIfInBounds_toArray, List.set_cons_zero, List.set_cons_succ, i64_w, i32_w]
  rfl
 refine one_ (i := 1) (N := some 4) #[true, true, true, true, true, true, false, false, false] rfl rfl (by kernel_rfl) (by decide) (fun K hK => ?_)
 refine goes_ Try.func23 (by kernel_rfl) rfl #[.pointer (some ⟨g, 0, none⟩)] (by rfl) rfl rfl (by simp only [List.map_toArray, List.map_cons, List.map_nil]; rfl) ?_
 with_reducible refine (script_Decode.byte_calls HR.out.drew).mono ?_
 rintro e w3 ⟨rfl, h1, k1⟩
 refine ⟨_, rfl, ?_⟩
 have HR1 := Aside0.mk h1
 have HK1 := Aside0.mk k1
 clear h1 k1
 refine hK.out _ _ (HR1.out.nodes_cell) (fun hHeld => ?_)
 clear hK K
 refine norm_ (a' := ?_) ?_ ?_
 rotate_left
 ·show Act.put _ (some 4) _ = _
  simp only [Act.put, List.setIfInBounds_toArray, List.set_cons_zero, List.set_cons_succ, i64_w, i32_w]
  rfl
 refine pure_ (i := 6) (N := some 9) (v := ?_) (a' := ?_) #[true, true, true, true, true, true, true, false, false] rfl rfl (by kernel_rfl) (fun _ _ _ h => h) (Or.inl ⟨by rfl, ?_⟩) ?_ ?_
 rotate_left
 ·intro w'
  go_simp
  with_reducible rfl
 rotate_left
 ·simp only [Act.put, List.setIfInBounds_toArray, List.set_cons_zero, List.set_cons_succ, i64_w, i32_w]
  rfl
 refine pure_ (i := 7) (N := some 10) (v := ?_) (a' := ?_) #[true, true, true, true, true, true, true, true, false] rfl rfl (by kernel_rfl) (fun _ _ _ h => h) (Or.inl ⟨by rfl, ?_⟩) ?_ ?_
 rotate_left
 ·intro w'
  go_simp
  with_reducible rfl
 rotate_left
 ·simp only [Act.put, List.setIfInBounds_toArray, List.set_cons_zero, List.set_cons_succ, i64_w, i32_w]
  rfl
 refine pure_ (i := 8) (N := some 2) (v := ?_) (a' := ?_) #[true, true, true, true, true, true, true, true, true] rfl rfl (by kernel_rfl) (fun _ _ _ h => h) (Or.inl ⟨by rfl, ?_⟩) ?_ ?_
 rotate_left
 ·intro w'
  go_simp
  with_reducible rfl
 rotate_left
 ·simp only [Act.put, List.setIfInBounds_toArray, List.set_cons_zero, List.set_cons_succ, i64_w, i32_w]
  rfl
 refine done_ (by kernel_rfl) ?_
 go_wp2
 go_ret
 exact ⟨rfl, HR1.out, keep_drew HK1.out⟩
def script_Decode.wall (l : List Int) (s : Bool) : Int × List Int × Bool :=
 ((script_Decode.byte l s).1 * 256 + (script_Decode.byte (script_Decode.byte l s).2.1 (script_Decode.byte l s).2.2).1, (script_Decode.byte (script_Decode.byte l s).2.1 (script_Decode.byte l s).2.2).2.1, (script_Decode.byte (script_Decode.byte l s).2.1 (script_Decode.byte l s).2.2).2.2)
theorem byte_rest {l : List Int} (s : Bool) (h : ∀ x ∈ l, 0 ≤ x ∧ x < 256) : ∀ x ∈ (script_Decode.byte l s).2.1, 0 ≤ x ∧ x < 256 := by
 cases l with
 | nil => intro x hx; cases hx
 | cons c t => exact fun x hx => h x (List.mem_cons_of_mem _ hx)
set_option maxHeartbeats 4000000 in
set_option maxRecDepth 100000 in
theorem script_Decode.wall_calls {W0 w : World} {g : Nat} {l : List Int} {n : Int} {s : Bool} (h : RD W0 w g l n s) :
  Calls Try.prog 25 #[.pointer (some ⟨g, 0, none⟩)] w (Rdp W0 w g n (.int .i64 (script_Decode.wall l s).1) (script_Decode.wall l s).2.1 (script_Decode.wall l s).2.2) := by
 have HR := Aside0.mk h
 have hr := script_Decode.byte_range s h.bytes
 have hq := script_Decode.byte_range (script_Decode.byte l s).2.2 (byte_rest s h.bytes)
 unfold script_Decode.wall
 have hb := script_Decode.byte_calls h
 clear h
 obtain ⟨c1, hc1⟩ : ∃ x, x = (script_Decode.byte l s).1 := ⟨_, rfl⟩
 obtain ⟨l1, hl1⟩ : ∃ x, x = (script_Decode.byte l s).2.1 := ⟨_, rfl⟩
 obtain ⟨s1, hs1⟩ : ∃ x, x = (script_Decode.byte l s).2.2 := ⟨_, rfl⟩
 rw [← hc1, ← hl1, ← hs1] at hb
 rw [← hc1] at hr
 rw [← hl1, ← hs1] at hq
 rw [← hc1, ← hl1, ← hs1]
 obtain ⟨c2, hc2⟩ : ∃ x, x = (script_Decode.byte l1 s1).1 := ⟨_, rfl⟩
 rw [← hc2] at hq ⊢
 have HC2 := Aside0.mk hc2
 have HB := Aside0.mk hb
 obtain ⟨hr0, hr1⟩ := hr
 obtain ⟨hq0, hq1⟩ := hq
 clear hc1 hl1 hs1 hc2 hb
 go_enter Try.func25, Try.ntmps25
 go_wp2_with (first | ((with_reducible refine gate_callee (f := 23) rfl ?_); refine goesL_ (some 5) rfl rfl Try.func23 (by kernel_rfl) rfl #[.pointer (some ⟨g, 0, none⟩)] rfl (by (try simp only [List.map_toArray, List.map_cons, List.map_nil]); first | done | rfl | (simp only [List.length_drop, List.length_take]; rfl)) ?_; (with_reducible refine (HB.out).mono ?_); rintro e w1 ⟨rfl, h1, k1⟩; refine ⟨_, rfl, ?_⟩; have HR1 := Aside0.mk h1; have HK1 := Aside0.mk k1; have hb2 := script_Decode.byte_calls h1; rw [← HC2.out] at hb2; have HB2 := Aside0.mk hb2; clear h1 k1 hb2) | ((with_reducible refine gate_callee (f := 23) rfl ?_); refine goesL_ (some 9) rfl rfl Try.func23 (by kernel_rfl) rfl #[.pointer (some ⟨g, 0, none⟩)] rfl (by (try simp only [List.map_toArray, List.map_cons, List.map_nil]); first | done | rfl | (simp only [List.length_drop, List.length_take]; rfl)) ?_; (with_reducible refine (HB2.out).mono ?_); rintro e w2 ⟨rfl, h2, k2⟩; refine ⟨_, rfl, ?_⟩; have HR2 := Aside0.mk h2; have HK2 := Aside0.mk k2; clear h2 k2))
 go_ret
 exact ⟨rfl, HR2.out, keep_trans HK1.out HK2.out⟩
def script_Decode.text (l : List Int) (s : Bool) : ByteArray × List Int × Bool :=
 if ((script_Decode.byte l s).2.1.length : Int) < (script_Decode.byte l s).1 then (⟨#[]⟩, (script_Decode.byte l s).2.1, true)
 else (strOfNums ((script_Decode.byte l s).2.1.take (script_Decode.byte l s).1.toNat), (script_Decode.byte l s).2.1.drop (script_Decode.byte l s).1.toNat, (script_Decode.byte l s).2.2)
set_option maxHeartbeats 4000000 in
set_option maxRecDepth 100000 in
theorem script_Decode.text_calls {W0 w : World} {g : Nat} {l : List Int} {n : Int} {s : Bool} (h : RD W0 w g l n s) :
  Calls Try.prog 26 #[.pointer (some ⟨g, 0, none⟩)] w (Rdp W0 w g n (.string (script_Decode.text l s).1) (script_Decode.text l s).2.1 (script_Decode.text l s).2.2) := by
 have HR := Aside0.mk h
 have hr := script_Decode.byte_range s h.bytes
 unfold script_Decode.text
 have hb := script_Decode.byte_calls h
 clear h
 obtain ⟨c1, hc1⟩ : ∃ x, x = (script_Decode.byte l s).1 := ⟨_, rfl⟩
 obtain ⟨l1, hl1⟩ : ∃ x, x = (script_Decode.byte l s).2.1 := ⟨_, rfl⟩
 obtain ⟨s1, hs1⟩ : ∃ x, x = (script_Decode.byte l s).2.2 := ⟨_, rfl⟩
 rw [← hc1, ← hl1, ← hs1] at hb
 rw [← hc1] at hr
 rw [← hc1, ← hl1, ← hs1]
 have HB := Aside0.mk hb
 obtain ⟨hr0, hr1⟩ := hr
 clear hc1 hl1 hs1 hb
 by_cases hlt : (l1.length : Int) < c1
 ·rw [if_pos hlt]
  have hd : decide ((l1.length : Int) < c1) = true := decide_eq_true hlt
  clear hlt
  go_enter Try.func26, Try.ntmps26
  go_wp2_with (first | ((with_reducible refine gate_callee (f := 23) rfl ?_); refine goesL_ (some 6) rfl rfl Try.func23 (by kernel_rfl) rfl #[.pointer (some ⟨g, 0, none⟩)] rfl (by (try simp only [List.map_toArray, List.map_cons, List.map_nil]); first | done | rfl | (simp only [List.length_drop, List.length_take]; rfl)) ?_; (with_reducible refine (HB.out).mono ?_); rintro e w1 ⟨rfl, h1, k1⟩; refine ⟨_, rfl, ?_⟩; have HR1 := Aside0.mk h1; have HK1 := Aside0.mk k1; obtain ⟨A, c, hg, hlc, hC, hW, hBl, hby, hn⟩ := h1; have H0 : w1.cell? ⟨g, 0, none⟩ = some (.slice A l1.length c) := (blk_cell hg 0).trans rfl; have F0 := blk_frozen hg 0; have H2 : w1.cell? ⟨g, 2, none⟩ = some (.bool s1) := (blk_cell hg 2).trans rfl; have F2 := blk_frozen hg 2; have HG := Aside0.mk hg; have HX := Aside0.mk (And.intro hlc (And.intro hC (And.intro hW (And.intro hBl (And.intro hby hn))))); clear hg hlc hC hW hBl hby hn k1))
  go_ret
  obtain ⟨x1, x2, x3, x4, x5, x6⟩ := HX.out
  exact ⟨rfl, ⟨A, c, heap_setCell_same w1 g 2 _ 44 _ HG.out, x1, x2, x3, x4.setCell x3 _, x5, x6⟩, keep_trans HK1.out keep_set⟩
 ·rw [if_neg hlt]
  have hd : decide ((l1.length : Int) < c1) = false := decide_eq_false hlt
  obtain ⟨m, rfl⟩ := Int.eq_ofNat_of_zero_le hr0
  rw [Int.toNat_natCast]
  have hm : m ≤ l1.length := by omega
  have hm2 : (m : Int) ≤ (l1.length : Int) := by omega
  have HM := Aside0.mk hm
  clear hlt hm
  obtain ⟨u, hu⟩ : ∃ u, u = l1.take m := ⟨_, rfl⟩
  obtain ⟨t, ht⟩ : ∃ t, t = l1.drop m := ⟨_, rfl⟩
  have hul : m = u.length := by rw [hu, List.length_take, Nat.min_eq_left HM.out]
  have htl : l1.length - m = t.length := by rw [ht, List.length_drop]
  rw [← hu, ← ht]
  obtain ⟨i0, hi, _, hsz, _⟩ := info_parts info5
  have HU := Aside0.mk hu
  have HT := Aside0.mk ht
  have HUL := Aside0.mk hul
  have HTL := Aside0.mk htl
  have HI := Aside0.mk (And.intro hi hsz)
  clear hu ht hul htl hi hsz
  go_enter Try.func26, Try.ntmps26
  go_wp2_with (first | ((with_reducible refine gate_callee (f := 23) rfl ?_); refine goesL_ (some 6) rfl rfl Try.func23 (by kernel_rfl) rfl #[.pointer (some ⟨g, 0, none⟩)] rfl (by (try simp only [List.map_toArray, List.map_cons, List.map_nil]); first | done | rfl | (simp only [List.length_drop, List.length_take]; rfl)) ?_; (with_reducible refine (HB.out).mono ?_); rintro e w1 ⟨rfl, h1, k1⟩; refine ⟨_, rfl, ?_⟩; have HR1 := Aside0.mk h1; have HK1 := Aside0.mk k1; obtain ⟨A, c, hg, hlc, hC, hW, hBl, hby, hn⟩ := h1; have H0 : w1.cell? ⟨g, 0, none⟩ = some (.slice A l1.length c) := (blk_cell hg 0).trans rfl; have F0 := blk_frozen hg 0; have H2 : w1.cell? ⟨g, 2, none⟩ = some (.bool s1) := (blk_cell hg 2).trans rfl; have F2 := blk_frozen hg 2; have hto := cut_to (P := Try.prog) 22 5 .i64 Try.underlying22 HI.out.1 A l1.length c (m : Int) (by omega) hm2 hlc; have hfr := cut_from (P := Try.prog) 22 5 .i64 Try.underlying22 HI.out.1 1 HI.out.2 A l1.length c (m : Int) (by omega) hm2; rw [Int.toNat_natCast] at hto hfr; have hC1 := Kd.C_below hC hBl; have hCt := Kd.C_take (m := m) hC1 HM.out; rw [← HU.out] at hCt; have hcv := Kd.C_string (P := Try.prog) (c := c) Try.underlying22 Try.underlying5 Try.underlying9 hCt; have hCd := Kd.C_drop (m := m) (c := c) hC HM.out hlc; rw [← HT.out] at hCd; obtain ⟨A', hA'⟩ : ∃ A', A' = (if c = m then A else A.map (·.add (m * 1))) := ⟨_, rfl⟩; replace hCd : Kd.C (Kd.int .u8) W0 A' t.length t := (by rw [hA']; exact hCd); rw [← hA', HTL.out] at hfr; rw [show (Value.slice A m c) = Value.slice A u.length c from by rw [← HUL.out]] at hto; have HG := Aside0.mk hg; have HX := Aside0.mk (And.intro hlc (And.intro hCd (And.intro hW (And.intro hBl (And.intro hby hn))))); clear hg hlc hC hW hBl hby hn k1 hC1 hCt hCd hA'))
  go_ret
  obtain ⟨x1, x2, x3, x4, x5, x6⟩ := HX.out
  exact ⟨rfl, ⟨A', _, heap_setCell_same w1 g 0 _ 44 _ HG.out, by have := HTL.out; omega, x2, x3, x4.setCell x3 _, fun x hx => x5 x (by rw [HT.out] at hx; exact List.mem_of_mem_drop hx), x6⟩, keep_trans HK1.out keep_set⟩
theorem RD.below {W0 w w1 : World} {g : Nat} {l : List Int} {n : Int} {s : Bool} (h : RD W0 w g l n s) (hb : Below w.heap.size w w1) : RD W0 w1 g l n s := by
 obtain ⟨A, c, h1, h2, h3, h4, h5, h6⟩ := h
 exact ⟨A, c, blk_below h1 hb, h2, h3, h4, below_then h5 h5.size hb, h6⟩
theorem RD.far {W0 w : World} {g gb : Nat} {l : List Int} {n : Int} {s : Bool} (h : RD W0 w g l n s) (hne : g ≠ gb) (hle : W0.heap.size ≤ gb) (j : Nat) (v : Value) : RD W0 (w.setCell ⟨gb, j, none⟩ v) g l n s := by
 obtain ⟨A, c, h1, h2, h3, h4, h5, h6⟩ := h
 exact ⟨A, c, (Below.heap_setCell w ⟨gb, j, none⟩ v g hne).trans h1, h2, h3, h4, h5.setCell hle _, h6⟩
def Rdc (f : Nat) (W0 : World) (g : Nat) (l : List Int) (n : Int) (s : Bool) (v : Value) (l1 : List Int) (s1 : Bool) : Prop := ∀ W, RD W0 W g l n s → Calls Try.prog f #[.pointer (some ⟨g, 0, none⟩)] W (Rdp W0 W g n v l1 s1)
theorem Rdc.go {f : Nat} {W0 W : World} {g : Nat} {l l1 : List Int} {n : Int} {s s1 : Bool} {v : Value} (h : Rdc f W0 g l n s v l1 s1) (hr : RD W0 W g l n s) : Calls Try.prog f #[.pointer (some ⟨g, 0, none⟩)] W (Rdp W0 W g n v l1 s1) := h W hr
def Evp (W0 w : World) (g : Nat) (n : Int) (a : Int) (b : Int) (c : Int) (d : Int) (t : ByteArray) (kp : List Int) (is : Bool) (l1 : List Int) (s1 : Bool) (e : Ending) (w' : World) : Prop :=
 ∃ vk, e = .returned (.tuple #[.agg #[.int .i64 a, .int .i64 b, .int .i64 c, .int .i64 d, .string t, vk, .int .u16 0, .int .u16 0, .int .u16 0, .int .i64 0, .int .i64 0], .bool is]) ∧ RD W0 w' g l1 n s1 ∧ Kd.R (Kd.int .i64) 3 w' w.heap.size (fun _ => True) vk kp ∧ KeepBut w w' g none
theorem far_keep {w W : World} {g gb : Nat} (h : KeepBut w W g none) (hp : w.heap.size ≤ gb) (j : Nat) (u : Value) : KeepBut w (W.setCell ⟨gb, j, none⟩ u) g none := keep_far h hp u
abbrev ch (w : World) (gb : Nat) (v0 v1 v2 v3 v4 v5 v6 v7 v8 v9 v10 : Value) : World := (World.setCell (World.setCell (World.setCell (World.setCell (World.setCell (World.setCell (World.setCell (World.setCell (World.setCell (World.setCell (World.setCell w ⟨gb, 0, none⟩ v0) ⟨gb, 1, none⟩ v1) ⟨gb, 2, none⟩ v2) ⟨gb, 3, none⟩ v3) ⟨gb, 4, none⟩ v4) ⟨gb, 5, none⟩ v5) ⟨gb, 6, none⟩ v6) ⟨gb, 7, none⟩ v7) ⟨gb, 8, none⟩ v8) ⟨gb, 9, none⟩ v9) ⟨gb, 10, none⟩ v10)
theorem ch_blk {w : World} {gb : Nat} {z0 z1 z2 z3 z4 z5 z6 z7 z8 z9 z10 : Value} (h : w.heap[gb]? = some (.cells #[z0, z1, z2, z3, z4, z5, z6, z7, z8, z9, z10] 41 (0, 0))) (v0 v1 v2 v3 v4 v5 v6 v7 v8 v9 v10 : Value) : (ch w gb v0 v1 v2 v3 v4 v5 v6 v7 v8 v9 v10).heap[gb]? = some (.cells #[v0, v1, v2, v3, v4, v5, v6, v7, v8, v9, v10] 41 (0, 0)) := (blk_put (blk_put (blk_put (blk_put (blk_put (blk_put (blk_put (blk_put (blk_put (blk_put (blk_put h 0 _ (cs' := #[v0, z1, z2, z3, z4, z5, z6, z7, z8, z9, z10]) rfl) 1 _ (cs' := #[v0, v1, z2, z3, z4, z5, z6, z7, z8, z9, z10]) rfl) 2 _ (cs' := #[v0, v1, v2, z3, z4, z5, z6, z7, z8, z9, z10]) rfl) 3 _ (cs' := #[v0, v1, v2, v3, z4, z5, z6, z7, z8, z9, z10]) rfl) 4 _ (cs' := #[v0, v1, v2, v3, v4, z5, z6, z7, z8, z9, z10]) rfl) 5 _ (cs' := #[v0, v1, v2, v3, v4, v5, z6, z7, z8, z9, z10]) rfl) 6 _ (cs' := #[v0, v1, v2, v3, v4, v5, v6, z7, z8, z9, z10]) rfl) 7 _ (cs' := #[v0, v1, v2, v3, v4, v5, v6, v7, z8, z9, z10]) rfl) 8 _ (cs' := #[v0, v1, v2, v3, v4, v5, v6, v7, v8, z9, z10]) rfl) 9 _ (cs' := #[v0, v1, v2, v3, v4, v5, v6, v7, v8, v9, z10]) rfl) 10 _ (cs' := #[v0, v1, v2, v3, v4, v5, v6, v7, v8, v9, v10]) rfl)
theorem ch_rd {W0 w : World} {g gb : Nat} {l : List Int} {n : Int} {s : Bool} (h : RD W0 w g l n s) (hne : g ≠ gb) (hle : W0.heap.size ≤ gb) (v0 v1 v2 v3 v4 v5 v6 v7 v8 v9 v10 : Value) : RD W0 (ch w gb v0 v1 v2 v3 v4 v5 v6 v7 v8 v9 v10) g l n s := (RD.far (RD.far (RD.far (RD.far (RD.far (RD.far (RD.far (RD.far (RD.far (RD.far (RD.far h hne hle _ _) hne hle _ _) hne hle _ _) hne hle _ _) hne hle _ _) hne hle _ _) hne hle _ _) hne hle _ _) hne hle _ _) hne hle _ _) hne hle _ _)
theorem ch_keep {w W : World} {g gb : Nat} (h : KeepBut w W g none) (hp : w.heap.size ≤ gb) (v0 v1 v2 v3 v4 v5 v6 v7 v8 v9 v10 : Value) : KeepBut w (ch W gb v0 v1 v2 v3 v4 v5 v6 v7 v8 v9 v10) g none := (far_keep (far_keep (far_keep (far_keep (far_keep (far_keep (far_keep (far_keep (far_keep (far_keep (far_keep h hp _ _) hp _ _) hp _ _) hp _ _) hp _ _) hp _ _) hp _ _) hp _ _) hp _ _) hp _ _) hp _ _)
theorem ch_R {α : Type} {d : Kd α} {e base gb : Nat} {w : World} {ok : Nat → Prop} {v : Value} {xs : List α} (h : d.R e w base ok v xs) (hok : ∀ k, ok k → k ≠ gb) (v0 v1 v2 v3 v4 v5 v6 v7 v8 v9 v10 : Value) : d.R e (ch w gb v0 v1 v2 v3 v4 v5 v6 v7 v8 v9 v10) base ok v xs := (Kd.R_far (Kd.R_far (Kd.R_far (Kd.R_far (Kd.R_far (Kd.R_far (Kd.R_far (Kd.R_far (Kd.R_far (Kd.R_far (Kd.R_far h hok _) hok _) hok _) hok _) hok _) hok _) hok _) hok _) hok _) hok _) hok _)
theorem ch_S {α : Type} {d : Kd α} {e base gb : Nat} {w : World} {ok : Nat → Prop} {v : Value} {xs : List α} (h : Kd.S d e w base ok v xs) (hok : ∀ k, ok k → k ≠ gb) (v0 v1 v2 v3 v4 v5 v6 v7 v8 v9 v10 : Value) : Kd.S d e (ch w gb v0 v1 v2 v3 v4 v5 v6 v7 v8 v9 v10) base ok v xs := (Kd.S_far (Kd.S_far (Kd.S_far (Kd.S_far (Kd.S_far (Kd.S_far (Kd.S_far (Kd.S_far (Kd.S_far (Kd.S_far (Kd.S_far h hok _) hok _) hok _) hok _) hok _) hok _) hok _) hok _) hok _) hok _) hok _)
theorem cells11 {w : World} {gb : Nat} {z0 z1 z2 z3 z4 z5 z6 z7 z8 z9 z10 : Value} (h : w.heap[gb]? = some (.cells #[z0, z1, z2, z3, z4, z5, z6, z7, z8, z9, z10] 41 (0, 0))) : w.cell? ⟨gb, 0, none⟩ = some z0 ∧ w.frozen? ⟨gb, 0, none⟩ = false ∧ w.cell? ⟨gb, 1, none⟩ = some z1 ∧ w.frozen? ⟨gb, 1, none⟩ = false ∧ w.cell? ⟨gb, 2, none⟩ = some z2 ∧ w.frozen? ⟨gb, 2, none⟩ = false ∧ w.cell? ⟨gb, 3, none⟩ = some z3 ∧ w.frozen? ⟨gb, 3, none⟩ = false ∧ w.cell? ⟨gb, 4, none⟩ = some z4 ∧ w.frozen? ⟨gb, 4, none⟩ = false ∧ w.cell? ⟨gb, 5, none⟩ = some z5 ∧ w.frozen? ⟨gb, 5, none⟩ = false ∧ w.cell? ⟨gb, 6, none⟩ = some z6 ∧ w.frozen? ⟨gb, 6, none⟩ = false ∧ w.cell? ⟨gb, 7, none⟩ = some z7 ∧ w.frozen? ⟨gb, 7, none⟩ = false ∧ w.cell? ⟨gb, 8, none⟩ = some z8 ∧ w.frozen? ⟨gb, 8, none⟩ = false ∧ w.cell? ⟨gb, 9, none⟩ = some z9 ∧ w.frozen? ⟨gb, 9, none⟩ = false ∧ w.cell? ⟨gb, 10, none⟩ = some z10 ∧ w.frozen? ⟨gb, 10, none⟩ = false := ⟨(blk_cell h 0).trans rfl, blk_frozen h 0, (blk_cell h 1).trans rfl, blk_frozen h 1, (blk_cell h 2).trans rfl, blk_frozen h 2, (blk_cell h 3).trans rfl, blk_frozen h 3, (blk_cell h 4).trans rfl, blk_frozen h 4, (blk_cell h 5).trans rfl, blk_frozen h 5, (blk_cell h 6).trans rfl, blk_frozen h 6, (blk_cell h 7).trans rfl, blk_frozen h 7, (blk_cell h 8).trans rfl, blk_frozen h 8, (blk_cell h 9).trans rfl, blk_frozen h 9, (blk_cell h 10).trans rfl, blk_frozen h 10⟩
set_option maxHeartbeats 8000000 in
set_option maxRecDepth 100000 in
theorem event0 {W0 w : World} {g : Nat} {l : List Int} {n : Int} {s : Bool} (h : RD W0 w g l n s) (c0 : Int) (x1 : Int) (l0 l1 : List Int) (s0 s1 : Bool) (h0 : 0 ≤ c0) (hk : c0 % 16 = 0) (F0 : Aside0 (Rdc 23 W0 g l n s (.int .i64 c0) l0 s0)) (F1 : Aside0 (Rdc 24 W0 g l0 n s0 (.int .i64 x1) l1 s1)) :
  Calls Try.prog 17 #[.pointer (some ⟨g, 0, none⟩)] w (Evp W0 w g n 1 x1 0 0 ⟨#[]⟩ [] true l1 s1) := by
 have HR := Aside0.mk h
 have HGL := Aside0.mk h.lt
 have HW0 := Aside0.mk (show W0.heap.size ≤ w.heap.size from by obtain ⟨A, c, h1, h2, h3, h4, h5, h6⟩ := h; exact h5.size)
 have hk2 : Int.tmod c0 16 = 0 := by rw [Int.tmod_eq_emod_of_nonneg h0]; exact hk
 clear h
 go_enter Try.func17, Try.ntmps17
 go_wp2_with (first | ((with_reducible refine gate_dst (N := 2) rfl ?_); (try (refine gate_guard (by rfl) ?_; dsimp only)); refine box_event ?hg (N := 2) ?hd (cs := #[.int .i64 0, .int .i64 0, .int .i64 0, .int .i64 0, .string ⟨#[]⟩, .slice none 0 0, .int .u16 0, .int .u16 0, .int .u16 0, .int .i64 0, .int .i64 0]) (t := 41) ?hr ?_; (case hd => rfl); (case hg => rfl); (case hr => first | (go_simp; done) | (go_simp; rfl)); intro gb hg wb hbox hb; have HK := Aside0.mk (KeepBut.of_below hb g none); have HR0 := Aside0.mk (HR.out.below hb); clear HR; have HR := HR0; clear HR0; have BK := Aside0.mk hbox; have GE := Aside0.mk (Nat.le_of_eq hg.symm); clear hg hb hbox) | ((with_reducible refine gate_callee (f := 23) rfl ?_); refine goesL_ (some 6) rfl rfl Try.func23 (by kernel_rfl) rfl #[.pointer (some ⟨g, 0, none⟩)] rfl (by (try simp only [List.map_toArray, List.map_cons, List.map_nil]); first | done | rfl) ?_; (with_reducible refine (F0.out.go HR.out).mono ?_); rintro e w1 ⟨rfl, h1, k1⟩; refine ⟨_, rfl, ?_⟩; have HKn := Aside0.mk (keep_trans HK.out k1); have BKn := Aside0.mk (k1.blk BK.out (Nat.ne_of_gt (Nat.lt_of_lt_of_le HGL.out GE.out)) (by simp)); have HRn := Aside0.mk h1; clear HK BK HR h1 k1; have HK := HKn; have BK := BKn; have HR := HRn; clear HKn BKn HRn) | ((with_reducible refine gate_callee (f := 24) rfl ?_); refine goesL_ (some 75) rfl rfl Try.func24 (by kernel_rfl) rfl #[.pointer (some ⟨g, 0, none⟩)] rfl (by (try simp only [List.map_toArray, List.map_cons, List.map_nil]); first | done | rfl) ?_; (with_reducible refine (F1.out.go HR.out).mono ?_); rintro e w2 ⟨rfl, h1, k1⟩; refine ⟨_, rfl, ?_⟩; have HKn := Aside0.mk (keep_trans HK.out k1); have BKn := Aside0.mk (k1.blk BK.out (Nat.ne_of_gt (Nat.lt_of_lt_of_le HGL.out GE.out)) (by simp)); have HRn := Aside0.mk h1; clear HK BK HR h1 k1; have HK := HKn; have BK := BKn; have HR := HRn; clear HKn BKn HRn; obtain ⟨hc0_, hf0_, hc1_, hf1_, hc2_, hf2_, hc3_, hf3_, hc4_, hf4_, hc5_, hf5_, hc6_, hf6_, hc7_, hf7_, hc8_, hf8_, hc9_, hf9_, hc10_, hf10_⟩ := cells11 BK.out))
 have HNE : g ≠ gb := Nat.ne_of_lt (Nat.lt_of_lt_of_le HGL.out GE.out)
 have HLE : W0.heap.size ≤ gb := Nat.le_trans HW0.out GE.out
 exact bodyPost_ret (results_ct rfl _ _ gb 41 #[.int .i64 1, .int .i64 x1, .int .i64 0, .int .i64 0, .string ⟨#[]⟩, .slice none 0 0, .int .u16 0, .int .u16 0, .int .u16 0, .int .i64 0, .int .i64 0] (0, 0) _ rfl (ch_blk BK.out _ _ _ _ _ _ _ _ _ _ _) Try.underlying41 rfl (by kernel_rfl)) rfl ⟨_, rfl, (ch_rd HR.out HNE HLE _ _ _ _ _ _ _ _ _ _ _), Kd.R_nil _ _ _ _ _, (ch_keep HK.out GE.out _ _ _ _ _ _ _ _ _ _ _)⟩
set_option maxHeartbeats 8000000 in
set_option maxRecDepth 100000 in
theorem event1 {W0 w : World} {g : Nat} {l : List Int} {n : Int} {s : Bool} (h : RD W0 w g l n s) (c0 : Int) (x1 : Int) (l0 l1 : List Int) (s0 s1 : Bool) (h0 : 0 ≤ c0) (hk : c0 % 16 = 1) (F0 : Aside0 (Rdc 23 W0 g l n s (.int .i64 c0) l0 s0)) (F1 : Aside0 (Rdc 24 W0 g l0 n s0 (.int .i64 x1) l1 s1)) :
  Calls Try.prog 17 #[.pointer (some ⟨g, 0, none⟩)] w (Evp W0 w g n 1 x1 0 0 ⟨#[]⟩ [] true l1 s1) := by
 have HR := Aside0.mk h
 have HGL := Aside0.mk h.lt
 have HW0 := Aside0.mk (show W0.heap.size ≤ w.heap.size from by obtain ⟨A, c, h1, h2, h3, h4, h5, h6⟩ := h; exact h5.size)
 have hk2 : Int.tmod c0 16 = 1 := by rw [Int.tmod_eq_emod_of_nonneg h0]; exact hk
 clear h
 go_enter Try.func17, Try.ntmps17
 go_wp2_with (first | ((with_reducible refine gate_dst (N := 2) rfl ?_); (try (refine gate_guard (by rfl) ?_; dsimp only)); refine box_event ?hg (N := 2) ?hd (cs := #[.int .i64 0, .int .i64 0, .int .i64 0, .int .i64 0, .string ⟨#[]⟩, .slice none 0 0, .int .u16 0, .int .u16 0, .int .u16 0, .int .i64 0, .int .i64 0]) (t := 41) ?hr ?_; (case hd => rfl); (case hg => rfl); (case hr => first | (go_simp; done) | (go_simp; rfl)); intro gb hg wb hbox hb; have HK := Aside0.mk (KeepBut.of_below hb g none); have HR0 := Aside0.mk (HR.out.below hb); clear HR; have HR := HR0; clear HR0; have BK := Aside0.mk hbox; have GE := Aside0.mk (Nat.le_of_eq hg.symm); clear hg hb hbox) | ((with_reducible refine gate_callee (f := 23) rfl ?_); refine goesL_ (some 6) rfl rfl Try.func23 (by kernel_rfl) rfl #[.pointer (some ⟨g, 0, none⟩)] rfl (by (try simp only [List.map_toArray, List.map_cons, List.map_nil]); first | done | rfl) ?_; (with_reducible refine (F0.out.go HR.out).mono ?_); rintro e w1 ⟨rfl, h1, k1⟩; refine ⟨_, rfl, ?_⟩; have HKn := Aside0.mk (keep_trans HK.out k1); have BKn := Aside0.mk (k1.blk BK.out (Nat.ne_of_gt (Nat.lt_of_lt_of_le HGL.out GE.out)) (by simp)); have HRn := Aside0.mk h1; clear HK BK HR h1 k1; have HK := HKn; have BK := BKn; have HR := HRn; clear HKn BKn HRn) | ((with_reducible refine gate_callee (f := 24) rfl ?_); refine goesL_ (some 75) rfl rfl Try.func24 (by kernel_rfl) rfl #[.pointer (some ⟨g, 0, none⟩)] rfl (by (try simp only [List.map_toArray, List.map_cons, List.map_nil]); first | done | rfl) ?_; (with_reducible refine (F1.out.go HR.out).mono ?_); rintro e w2 ⟨rfl, h1, k1⟩; refine ⟨_, rfl, ?_⟩; have HKn := Aside0.mk (keep_trans HK.out k1); have BKn := Aside0.mk (k1.blk BK.out (Nat.ne_of_gt (Nat.lt_of_lt_of_le HGL.out GE.out)) (by simp)); have HRn := Aside0.mk h1; clear HK BK HR h1 k1; have HK := HKn; have BK := BKn; have HR := HRn; clear HKn BKn HRn; obtain ⟨hc0_, hf0_, hc1_, hf1_, hc2_, hf2_, hc3_, hf3_, hc4_, hf4_, hc5_, hf5_, hc6_, hf6_, hc7_, hf7_, hc8_, hf8_, hc9_, hf9_, hc10_, hf10_⟩ := cells11 BK.out))
 have HNE : g ≠ gb := Nat.ne_of_lt (Nat.lt_of_lt_of_le HGL.out GE.out)
 have HLE : W0.heap.size ≤ gb := Nat.le_trans HW0.out GE.out
 exact bodyPost_ret (results_ct rfl _ _ gb 41 #[.int .i64 1, .int .i64 x1, .int .i64 0, .int .i64 0, .string ⟨#[]⟩, .slice none 0 0, .int .u16 0, .int .u16 0, .int .u16 0, .int .i64 0, .int .i64 0] (0, 0) _ rfl (ch_blk BK.out _ _ _ _ _ _ _ _ _ _ _) Try.underlying41 rfl (by kernel_rfl)) rfl ⟨_, rfl, (ch_rd HR.out HNE HLE _ _ _ _ _ _ _ _ _ _ _), Kd.R_nil _ _ _ _ _, (ch_keep HK.out GE.out _ _ _ _ _ _ _ _ _ _ _)⟩
set_option maxHeartbeats 8000000 in
set_option maxRecDepth 100000 in
theorem event2 {W0 w : World} {g : Nat} {l : List Int} {n : Int} {s : Bool} (h : RD W0 w g l n s) (c0 : Int) (x1 : Int) (l0 l1 : List Int) (s0 s1 : Bool) (h0 : 0 ≤ c0) (hk : c0 % 16 = 2) (F0 : Aside0 (Rdc 23 W0 g l n s (.int .i64 c0) l0 s0)) (F1 : Aside0 (Rdc 24 W0 g l0 n s0 (.int .i64 x1) l1 s1)) :
  Calls Try.prog 17 #[.pointer (some ⟨g, 0, none⟩)] w (Evp W0 w g n 1 x1 0 0 ⟨#[]⟩ [] true l1 s1) := by
 have HR := Aside0.mk h
 have HGL := Aside0.mk h.lt
 have HW0 := Aside0.mk (show W0.heap.size ≤ w.heap.size from by obtain ⟨A, c, h1, h2, h3, h4, h5, h6⟩ := h; exact h5.size)
 have hk2 : Int.tmod c0 16 = 2 := by rw [Int.tmod_eq_emod_of_nonneg h0]; exact hk
 clear h
 go_enter Try.func17, Try.ntmps17
 go_wp2_with (first | ((with_reducible refine gate_dst (N := 2) rfl ?_); (try (refine gate_guard (by rfl) ?_; dsimp only)); refine box_event ?hg (N := 2) ?hd (cs := #[.int .i64 0, .int .i64 0, .int .i64 0, .int .i64 0, .string ⟨#[]⟩, .slice none 0 0, .int .u16 0, .int .u16 0, .int .u16 0, .int .i64 0, .int .i64 0]) (t := 41) ?hr ?_; (case hd => rfl); (case hg => rfl); (case hr => first | (go_simp; done) | (go_simp; rfl)); intro gb hg wb hbox hb; have HK := Aside0.mk (KeepBut.of_below hb g none); have HR0 := Aside0.mk (HR.out.below hb); clear HR; have HR := HR0; clear HR0; have BK := Aside0.mk hbox; have GE := Aside0.mk (Nat.le_of_eq hg.symm); clear hg hb hbox) | ((with_reducible refine gate_callee (f := 23) rfl ?_); refine goesL_ (some 6) rfl rfl Try.func23 (by kernel_rfl) rfl #[.pointer (some ⟨g, 0, none⟩)] rfl (by (try simp only [List.map_toArray, List.map_cons, List.map_nil]); first | done | rfl) ?_; (with_reducible refine (F0.out.go HR.out).mono ?_); rintro e w1 ⟨rfl, h1, k1⟩; refine ⟨_, rfl, ?_⟩; have HKn := Aside0.mk (keep_trans HK.out k1); have BKn := Aside0.mk (k1.blk BK.out (Nat.ne_of_gt (Nat.lt_of_lt_of_le HGL.out GE.out)) (by simp)); have HRn := Aside0.mk h1; clear HK BK HR h1 k1; have HK := HKn; have BK := BKn; have HR := HRn; clear HKn BKn HRn) | ((with_reducible refine gate_callee (f := 24) rfl ?_); refine goesL_ (some 75) rfl rfl Try.func24 (by kernel_rfl) rfl #[.pointer (some ⟨g, 0, none⟩)] rfl (by (try simp only [List.map_toArray, List.map_cons, List.map_nil]); first | done | rfl) ?_; (with_reducible refine (F1.out.go HR.out).mono ?_); rintro e w2 ⟨rfl, h1, k1⟩; refine ⟨_, rfl, ?_⟩; have HKn := Aside0.mk (keep_trans HK.out k1); have BKn := Aside0.mk (k1.blk BK.out (Nat.ne_of_gt (Nat.lt_of_lt_of_le HGL.out GE.out)) (by simp)); have HRn := Aside0.mk h1; clear HK BK HR h1 k1; have HK := HKn; have BK := BKn; have HR := HRn; clear HKn BKn HRn; obtain ⟨hc0_, hf0_, hc1_, hf1_, hc2_, hf2_, hc3_, hf3_, hc4_, hf4_, hc5_, hf5_, hc6_, hf6_, hc7_, hf7_, hc8_, hf8_, hc9_, hf9_, hc10_, hf10_⟩ := cells11 BK.out))
 have HNE : g ≠ gb := Nat.ne_of_lt (Nat.lt_of_lt_of_le HGL.out GE.out)
 have HLE : W0.heap.size ≤ gb := Nat.le_trans HW0.out GE.out
 exact bodyPost_ret (results_ct rfl _ _ gb 41 #[.int .i64 1, .int .i64 x1, .int .i64 0, .int .i64 0, .string ⟨#[]⟩, .slice none 0 0, .int .u16 0, .int .u16 0, .int .u16 0, .int .i64 0, .int .i64 0] (0, 0) _ rfl (ch_blk BK.out _ _ _ _ _ _ _ _ _ _ _) Try.underlying41 rfl (by kernel_rfl)) rfl ⟨_, rfl, (ch_rd HR.out HNE HLE _ _ _ _ _ _ _ _ _ _ _), Kd.R_nil _ _ _ _ _, (ch_keep HK.out GE.out _ _ _ _ _ _ _ _ _ _ _)⟩
set_option maxHeartbeats 8000000 in
set_option maxRecDepth 100000 in
theorem event3 {W0 w : World} {g : Nat} {l : List Int} {n : Int} {s : Bool} (h : RD W0 w g l n s) (c0 : Int) (x1 : Int) (l0 l1 : List Int) (s0 s1 : Bool) (h0 : 0 ≤ c0) (hk : c0 % 16 = 3) (F0 : Aside0 (Rdc 23 W0 g l n s (.int .i64 c0) l0 s0)) (F1 : Aside0 (Rdc 24 W0 g l0 n s0 (.int .i64 x1) l1 s1)) :
  Calls Try.prog 17 #[.pointer (some ⟨g, 0, none⟩)] w (Evp W0 w g n 1 x1 0 0 ⟨#[]⟩ [] true l1 s1) := by
 have HR := Aside0.mk h
 have HGL := Aside0.mk h.lt
 have HW0 := Aside0.mk (show W0.heap.size ≤ w.heap.size from by obtain ⟨A, c, h1, h2, h3, h4, h5, h6⟩ := h; exact h5.size)
 have hk2 : Int.tmod c0 16 = 3 := by rw [Int.tmod_eq_emod_of_nonneg h0]; exact hk
 clear h
 go_enter Try.func17, Try.ntmps17
 go_wp2_with (first | ((with_reducible refine gate_dst (N := 2) rfl ?_); (try (refine gate_guard (by rfl) ?_; dsimp only)); refine box_event ?hg (N := 2) ?hd (cs := #[.int .i64 0, .int .i64 0, .int .i64 0, .int .i64 0, .string ⟨#[]⟩, .slice none 0 0, .int .u16 0, .int .u16 0, .int .u16 0, .int .i64 0, .int .i64 0]) (t := 41) ?hr ?_; (case hd => rfl); (case hg => rfl); (case hr => first | (go_simp; done) | (go_simp; rfl)); intro gb hg wb hbox hb; have HK := Aside0.mk (KeepBut.of_below hb g none); have HR0 := Aside0.mk (HR.out.below hb); clear HR; have HR := HR0; clear HR0; have BK := Aside0.mk hbox; have GE := Aside0.mk (Nat.le_of_eq hg.symm); clear hg hb hbox) | ((with_reducible refine gate_callee (f := 23) rfl ?_); refine goesL_ (some 6) rfl rfl Try.func23 (by kernel_rfl) rfl #[.pointer (some ⟨g, 0, none⟩)] rfl (by (try simp only [List.map_toArray, List.map_cons, List.map_nil]); first | done | rfl) ?_; (with_reducible refine (F0.out.go HR.out).mono ?_); rintro e w1 ⟨rfl, h1, k1⟩; refine ⟨_, rfl, ?_⟩; have HKn := Aside0.mk (keep_trans HK.out k1); have BKn := Aside0.mk (k1.blk BK.out (Nat.ne_of_gt (Nat.lt_of_lt_of_le HGL.out GE.out)) (by simp)); have HRn := Aside0.mk h1; clear HK BK HR h1 k1; have HK := HKn; have BK := BKn; have HR := HRn; clear HKn BKn HRn) | ((with_reducible refine gate_callee (f := 24) rfl ?_); refine goesL_ (some 75) rfl rfl Try.func24 (by kernel_rfl) rfl #[.pointer (some ⟨g, 0, none⟩)] rfl (by (try simp only [List.map_toArray, List.map_cons, List.map_nil]); first | done | rfl) ?_; (with_reducible refine (F1.out.go HR.out).mono ?_); rintro e w2 ⟨rfl, h1, k1⟩; refine ⟨_, rfl, ?_⟩; have HKn := Aside0.mk (keep_trans HK.out k1); have BKn := Aside0.mk (k1.blk BK.out (Nat.ne_of_gt (Nat.lt_of_lt_of_le HGL.out GE.out)) (by simp)); have HRn := Aside0.mk h1; clear HK BK HR h1 k1; have HK := HKn; have BK := BKn; have HR := HRn; clear HKn BKn HRn; obtain ⟨hc0_, hf0_, hc1_, hf1_, hc2_, hf2_, hc3_, hf3_, hc4_, hf4_, hc5_, hf5_, hc6_, hf6_, hc7_, hf7_, hc8_, hf8_, hc9_, hf9_, hc10_, hf10_⟩ := cells11 BK.out))
 have HNE : g ≠ gb := Nat.ne_of_lt (Nat.lt_of_lt_of_le HGL.out GE.out)
 have HLE : W0.heap.size ≤ gb := Nat.le_trans HW0.out GE.out
 exact bodyPost_ret (results_ct rfl _ _ gb 41 #[.int .i64 1, .int .i64 x1, .int .i64 0, .int .i64 0, .string ⟨#[]⟩, .slice none 0 0, .int .u16 0, .int .u16 0, .int .u16 0, .int .i64 0, .int .i64 0] (0, 0) _ rfl (ch_blk BK.out _ _ _ _ _ _ _ _ _ _ _) Try.underlying41 rfl (by kernel_rfl)) rfl ⟨_, rfl, (ch_rd HR.out HNE HLE _ _ _ _ _ _ _ _ _ _ _), Kd.R_nil _ _ _ _ _, (ch_keep HK.out GE.out _ _ _ _ _ _ _ _ _ _ _)⟩
set_option maxHeartbeats 8000000 in
set_option maxRecDepth 100000 in
theorem event4 {W0 w : World} {g : Nat} {l : List Int} {n : Int} {s : Bool} (h : RD W0 w g l n s) (c0 : Int) (x1 : Int) (x2 : Int) (l0 l1 l2 : List Int) (s0 s1 s2 : Bool) (h0 : 0 ≤ c0) (hk : c0 % 16 = 4) (F0 : Aside0 (Rdc 23 W0 g l n s (.int .i64 c0) l0 s0)) (F1 : Aside0 (Rdc 24 W0 g l0 n s0 (.int .i64 x1) l1 s1)) (F2 : Aside0 (Rdc 25 W0 g l1 n s1 (.int .i64 x2) l2 s2)) :
  Calls Try.prog 17 #[.pointer (some ⟨g, 0, none⟩)] w (Evp W0 w g n 2 x1 0 x2 ⟨#[]⟩ [] true l2 s2) := by
 have HR := Aside0.mk h
 have HGL := Aside0.mk h.lt
 have HW0 := Aside0.mk (show W0.heap.size ≤ w.heap.size from by obtain ⟨A, c, h1, h2, h3, h4, h5, h6⟩ := h; exact h5.size)
 have hk2 : Int.tmod c0 16 = 4 := by rw [Int.tmod_eq_emod_of_nonneg h0]; exact hk
 clear h
 go_enter Try.func17, Try.ntmps17
 go_wp2_with (first | ((with_reducible refine gate_dst (N := 2) rfl ?_); (try (refine gate_guard (by rfl) ?_; dsimp only)); refine box_event ?hg (N := 2) ?hd (cs := #[.int .i64 0, .int .i64 0, .int .i64 0, .int .i64 0, .string ⟨#[]⟩, .slice none 0 0, .int .u16 0, .int .u16 0, .int .u16 0, .int .i64 0, .int .i64 0]) (t := 41) ?hr ?_; (case hd => rfl); (case hg => rfl); (case hr => first | (go_simp; done) | (go_simp; rfl)); intro gb hg wb hbox hb; have HK := Aside0.mk (KeepBut.of_below hb g none); have HR0 := Aside0.mk (HR.out.below hb); clear HR; have HR := HR0; clear HR0; have BK := Aside0.mk hbox; have GE := Aside0.mk (Nat.le_of_eq hg.symm); clear hg hb hbox) | ((with_reducible refine gate_callee (f := 23) rfl ?_); refine goesL_ (some 6) rfl rfl Try.func23 (by kernel_rfl) rfl #[.pointer (some ⟨g, 0, none⟩)] rfl (by (try simp only [List.map_toArray, List.map_cons, List.map_nil]); first | done | rfl) ?_; (with_reducible refine (F0.out.go HR.out).mono ?_); rintro e w1 ⟨rfl, h1, k1⟩; refine ⟨_, rfl, ?_⟩; have HKn := Aside0.mk (keep_trans HK.out k1); have BKn := Aside0.mk (k1.blk BK.out (Nat.ne_of_gt (Nat.lt_of_lt_of_le HGL.out GE.out)) (by simp)); have HRn := Aside0.mk h1; clear HK BK HR h1 k1; have HK := HKn; have BK := BKn; have HR := HRn; clear HKn BKn HRn) | ((with_reducible refine gate_callee (f := 24) rfl ?_); refine goesL_ (some 12) rfl rfl Try.func24 (by kernel_rfl) rfl #[.pointer (some ⟨g, 0, none⟩)] rfl (by (try simp only [List.map_toArray, List.map_cons, List.map_nil]); first | done | rfl) ?_; (with_reducible refine (F1.out.go HR.out).mono ?_); rintro e w2 ⟨rfl, h1, k1⟩; refine ⟨_, rfl, ?_⟩; have HKn := Aside0.mk (keep_trans HK.out k1); have BKn := Aside0.mk (k1.blk BK.out (Nat.ne_of_gt (Nat.lt_of_lt_of_le HGL.out GE.out)) (by simp)); have HRn := Aside0.mk h1; clear HK BK HR h1 k1; have HK := HKn; have BK := BKn; have HR := HRn; clear HKn BKn HRn) | ((with_reducible refine gate_callee (f := 25) rfl ?_); refine goesL_ (some 14) rfl rfl Try.func25 (by kernel_rfl) rfl #[.pointer (some ⟨g, 0, none⟩)] rfl (by (try simp only [List.map_toArray, List.map_cons, List.map_nil]); first | done | rfl) ?_; (with_reducible refine (F2.out.go HR.out).mono ?_); rintro e w3 ⟨rfl, h1, k1⟩; refine ⟨_, rfl, ?_⟩; have HKn := Aside0.mk (keep_trans HK.out k1); have BKn := Aside0.mk (k1.blk BK.out (Nat.ne_of_gt (Nat.lt_of_lt_of_le HGL.out GE.out)) (by simp)); have HRn := Aside0.mk h1; clear HK BK HR h1 k1; have HK := HKn; have BK := BKn; have HR := HRn; clear HKn BKn HRn; obtain ⟨hc0_, hf0_, hc1_, hf1_, hc2_, hf2_, hc3_, hf3_, hc4_, hf4_, hc5_, hf5_, hc6_, hf6_, hc7_, hf7_, hc8_, hf8_, hc9_, hf9_, hc10_, hf10_⟩ := cells11 BK.out))
 have HNE : g ≠ gb := Nat.ne_of_lt (Nat.lt_of_lt_of_le HGL.out GE.out)
 have HLE : W0.heap.size ≤ gb := Nat.le_trans HW0.out GE.out
 exact bodyPost_ret (results_ct rfl _ _ gb 41 #[.int .i64 2, .int .i64 x1, .int .i64 0, .int .i64 x2, .string ⟨#[]⟩, .slice none 0 0, .int .u16 0, .int .u16 0, .int .u16 0, .int .i64 0, .int .i64 0] (0, 0) _ rfl (ch_blk BK.out _ _ _ _ _ _ _ _ _ _ _) Try.underlying41 rfl (by kernel_rfl)) rfl ⟨_, rfl, (ch_rd HR.out HNE HLE _ _ _ _ _ _ _ _ _ _ _), Kd.R_nil _ _ _ _ _, (ch_keep HK.out GE.out _ _ _ _ _ _ _ _ _ _ _)⟩
set_option maxHeartbeats 8000000 in
set_option maxRecDepth 100000 in
theorem event5 {W0 w : World} {g : Nat} {l : List Int} {n : Int} {s : Bool} (h : RD W0 w g l n s) (c0 : Int) (x1 : Int) (l0 l1 : List Int) (s0 s1 : Bool) (h0 : 0 ≤ c0) (hk : c0 % 16 = 5) (F0 : Aside0 (Rdc 23 W0 g l n s (.int .i64 c0) l0 s0)) (F1 : Aside0 (Rdc 23 W0 g l0 n s0 (.int .i64 x1) l1 s1)) :
  Calls Try.prog 17 #[.pointer (some ⟨g, 0, none⟩)] w (Evp W0 w g n 3 0 x1 0 ⟨#[]⟩ [] true l1 s1) := by
 have HR := Aside0.mk h
 have HGL := Aside0.mk h.lt
 have HW0 := Aside0.mk (show W0.heap.size ≤ w.heap.size from by obtain ⟨A, c, h1, h2, h3, h4, h5, h6⟩ := h; exact h5.size)
 have hk2 : Int.tmod c0 16 = 5 := by rw [Int.tmod_eq_emod_of_nonneg h0]; exact hk
 clear h
 go_enter Try.func17, Try.ntmps17
 go_wp2_with (first | ((with_reducible refine gate_dst (N := 2) rfl ?_); (try (refine gate_guard (by rfl) ?_; dsimp only)); refine box_event ?hg (N := 2) ?hd (cs := #[.int .i64 0, .int .i64 0, .int .i64 0, .int .i64 0, .string ⟨#[]⟩, .slice none 0 0, .int .u16 0, .int .u16 0, .int .u16 0, .int .i64 0, .int .i64 0]) (t := 41) ?hr ?_; (case hd => rfl); (case hg => rfl); (case hr => first | (go_simp; done) | (go_simp; rfl)); intro gb hg wb hbox hb; have HK := Aside0.mk (KeepBut.of_below hb g none); have HR0 := Aside0.mk (HR.out.below hb); clear HR; have HR := HR0; clear HR0; have BK := Aside0.mk hbox; have GE := Aside0.mk (Nat.le_of_eq hg.symm); clear hg hb hbox) | ((with_reducible refine gate_callee (f := 23) rfl ?_); refine goesL_ (some 6) rfl rfl Try.func23 (by kernel_rfl) rfl #[.pointer (some ⟨g, 0, none⟩)] rfl (by (try simp only [List.map_toArray, List.map_cons, List.map_nil]); first | done | rfl) ?_; (with_reducible refine (F0.out.go HR.out).mono ?_); rintro e w1 ⟨rfl, h1, k1⟩; refine ⟨_, rfl, ?_⟩; have HKn := Aside0.mk (keep_trans HK.out k1); have BKn := Aside0.mk (k1.blk BK.out (Nat.ne_of_gt (Nat.lt_of_lt_of_le HGL.out GE.out)) (by simp)); have HRn := Aside0.mk h1; clear HK BK HR h1 k1; have HK := HKn; have BK := BKn; have HR := HRn; clear HKn BKn HRn) | ((with_reducible refine gate_callee (f := 23) rfl ?_); refine goesL_ (some 21) rfl rfl Try.func23 (by kernel_rfl) rfl #[.pointer (some ⟨g, 0, none⟩)] rfl (by (try simp only [List.map_toArray, List.map_cons, List.map_nil]); first | done | rfl) ?_; (with_reducible refine (F1.out.go HR.out).mono ?_); rintro e w2 ⟨rfl, h1, k1⟩; refine ⟨_, rfl, ?_⟩; have HKn := Aside0.mk (keep_trans HK.out k1); have BKn := Aside0.mk (k1.blk BK.out (Nat.ne_of_gt (Nat.lt_of_lt_of_le HGL.out GE.out)) (by simp)); have HRn := Aside0.mk h1; clear HK BK HR h1 k1; have HK := HKn; have BK := BKn; have HR := HRn; clear HKn BKn HRn; obtain ⟨hc0_, hf0_, hc1_, hf1_, hc2_, hf2_, hc3_, hf3_, hc4_, hf4_, hc5_, hf5_, hc6_, hf6_, hc7_, hf7_, hc8_, hf8_, hc9_, hf9_, hc10_, hf10_⟩ := cells11 BK.out))
 have HNE : g ≠ gb := Nat.ne_of_lt (Nat.lt_of_lt_of_le HGL.out GE.out)
 have HLE : W0.heap.size ≤ gb := Nat.le_trans HW0.out GE.out
 exact bodyPost_ret (results_ct rfl _ _ gb 41 #[.int .i64 3, .int .i64 0, .int .i64 x1, .int .i64 0, .string ⟨#[]⟩, .slice none 0 0, .int .u16 0, .int .u16 0, .int .u16 0, .int .i64 0, .int .i64 0] (0, 0) _ rfl (ch_blk BK.out _ _ _ _ _ _ _ _ _ _ _) Try.underlying41 rfl (by kernel_rfl)) rfl ⟨_, rfl, (ch_rd HR.out HNE HLE _ _ _ _ _ _ _ _ _ _ _), Kd.R_nil _ _ _ _ _, (ch_keep HK.out GE.out _ _ _ _ _ _ _ _ _ _ _)⟩
set_option maxHeartbeats 8000000 in
set_option maxRecDepth 100000 in
theorem event6 {W0 w : World} {g : Nat} {l : List Int} {n : Int} {s : Bool} (h : RD W0 w g l n s) (c0 : Int) (x1 : Int) (l0 l1 : List Int) (s0 s1 : Bool) (h0 : 0 ≤ c0) (hk : c0 % 16 = 6) (F0 : Aside0 (Rdc 23 W0 g l n s (.int .i64 c0) l0 s0)) (F1 : Aside0 (Rdc 23 W0 g l0 n s0 (.int .i64 x1) l1 s1)) :
  Calls Try.prog 17 #[.pointer (some ⟨g, 0, none⟩)] w (Evp W0 w g n 3 0 x1 0 ⟨#[]⟩ [] true l1 s1) := by
 have HR := Aside0.mk h
 have HGL := Aside0.mk h.lt
 have HW0 := Aside0.mk (show W0.heap.size ≤ w.heap.size from by obtain ⟨A, c, h1, h2, h3, h4, h5, h6⟩ := h; exact h5.size)
 have hk2 : Int.tmod c0 16 = 6 := by rw [Int.tmod_eq_emod_of_nonneg h0]; exact hk
 clear h
 go_enter Try.func17, Try.ntmps17
 go_wp2_with (first | ((with_reducible refine gate_dst (N := 2) rfl ?_); (try (refine gate_guard (by rfl) ?_; dsimp only)); refine box_event ?hg (N := 2) ?hd (cs := #[.int .i64 0, .int .i64 0, .int .i64 0, .int .i64 0, .string ⟨#[]⟩, .slice none 0 0, .int .u16 0, .int .u16 0, .int .u16 0, .int .i64 0, .int .i64 0]) (t := 41) ?hr ?_; (case hd => rfl); (case hg => rfl); (case hr => first | (go_simp; done) | (go_simp; rfl)); intro gb hg wb hbox hb; have HK := Aside0.mk (KeepBut.of_below hb g none); have HR0 := Aside0.mk (HR.out.below hb); clear HR; have HR := HR0; clear HR0; have BK := Aside0.mk hbox; have GE := Aside0.mk (Nat.le_of_eq hg.symm); clear hg hb hbox) | ((with_reducible refine gate_callee (f := 23) rfl ?_); refine goesL_ (some 6) rfl rfl Try.func23 (by kernel_rfl) rfl #[.pointer (some ⟨g, 0, none⟩)] rfl (by (try simp only [List.map_toArray, List.map_cons, List.map_nil]); first | done | rfl) ?_; (with_reducible refine (F0.out.go HR.out).mono ?_); rintro e w1 ⟨rfl, h1, k1⟩; refine ⟨_, rfl, ?_⟩; have HKn := Aside0.mk (keep_trans HK.out k1); have BKn := Aside0.mk (k1.blk BK.out (Nat.ne_of_gt (Nat.lt_of_lt_of_le HGL.out GE.out)) (by simp)); have HRn := Aside0.mk h1; clear HK BK HR h1 k1; have HK := HKn; have BK := BKn; have HR := HRn; clear HKn BKn HRn) | ((with_reducible refine gate_callee (f := 23) rfl ?_); refine goesL_ (some 21) rfl rfl Try.func23 (by kernel_rfl) rfl #[.pointer (some ⟨g, 0, none⟩)] rfl (by (try simp only [List.map_toArray, List.map_cons, List.map_nil]); first | done | rfl) ?_; (with_reducible refine (F1.out.go HR.out).mono ?_); rintro e w2 ⟨rfl, h1, k1⟩; refine ⟨_, rfl, ?_⟩; have HKn := Aside0.mk (keep_trans HK.out k1); have BKn := Aside0.mk (k1.blk BK.out (Nat.ne_of_gt (Nat.lt_of_lt_of_le HGL.out GE.out)) (by simp)); have HRn := Aside0.mk h1; clear HK BK HR h1 k1; have HK := HKn; have BK := BKn; have HR := HRn; clear HKn BKn HRn; obtain ⟨hc0_, hf0_, hc1_, hf1_, hc2_, hf2_, hc3_, hf3_, hc4_, hf4_, hc5_, hf5_, hc6_, hf6_, hc7_, hf7_, hc8_, hf8_, hc9_, hf9_, hc10_, hf10_⟩ := cells11 BK.out))
 have HNE : g ≠ gb := Nat.ne_of_lt (Nat.lt_of_lt_of_le HGL.out GE.out)
 have HLE : W0.heap.size ≤ gb := Nat.le_trans HW0.out GE.out
 exact bodyPost_ret (results_ct rfl _ _ gb 41 #[.int .i64 3, .int .i64 0, .int .i64 x1, .int .i64 0, .string ⟨#[]⟩, .slice none 0 0, .int .u16 0, .int .u16 0, .int .u16 0, .int .i64 0, .int .i64 0] (0, 0) _ rfl (ch_blk BK.out _ _ _ _ _ _ _ _ _ _ _) Try.underlying41 rfl (by kernel_rfl)) rfl ⟨_, rfl, (ch_rd HR.out HNE HLE _ _ _ _ _ _ _ _ _ _ _), Kd.R_nil _ _ _ _ _, (ch_keep HK.out GE.out _ _ _ _ _ _ _ _ _ _ _)⟩
set_option maxHeartbeats 8000000 in
set_option maxRecDepth 100000 in
theorem event7 {W0 w : World} {g : Nat} {l : List Int} {n : Int} {s : Bool} (h : RD W0 w g l n s) (c0 : Int) (x1 : Int) (l0 l1 : List Int) (s0 s1 : Bool) (h0 : 0 ≤ c0) (hk : c0 % 16 = 7) (F0 : Aside0 (Rdc 23 W0 g l n s (.int .i64 c0) l0 s0)) (F1 : Aside0 (Rdc 23 W0 g l0 n s0 (.int .i64 x1) l1 s1)) :
  Calls Try.prog 17 #[.pointer (some ⟨g, 0, none⟩)] w (Evp W0 w g n 3 0 x1 0 ⟨#[]⟩ [] true l1 s1) := by
 have HR := Aside0.mk h
 have HGL := Aside0.mk h.lt
 have HW0 := Aside0.mk (show W0.heap.size ≤ w.heap.size from by obtain ⟨A, c, h1, h2, h3, h4, h5, h6⟩ := h; exact h5.size)
 have hk2 : Int.tmod c0 16 = 7 := by rw [Int.tmod_eq_emod_of_nonneg h0]; exact hk
 clear h
 go_enter Try.func17, Try.ntmps17
 go_wp2_with (first | ((with_reducible refine gate_dst (N := 2) rfl ?_); (try (refine gate_guard (by rfl) ?_; dsimp only)); refine box_event ?hg (N := 2) ?hd (cs := #[.int .i64 0, .int .i64 0, .int .i64 0, .int .i64 0, .string ⟨#[]⟩, .slice none 0 0, .int .u16 0, .int .u16 0, .int .u16 0, .int .i64 0, .int .i64 0]) (t := 41) ?hr ?_; (case hd => rfl); (case hg => rfl); (case hr => first | (go_simp; done) | (go_simp; rfl)); intro gb hg wb hbox hb; have HK := Aside0.mk (KeepBut.of_below hb g none); have HR0 := Aside0.mk (HR.out.below hb); clear HR; have HR := HR0; clear HR0; have BK := Aside0.mk hbox; have GE := Aside0.mk (Nat.le_of_eq hg.symm); clear hg hb hbox) | ((with_reducible refine gate_callee (f := 23) rfl ?_); refine goesL_ (some 6) rfl rfl Try.func23 (by kernel_rfl) rfl #[.pointer (some ⟨g, 0, none⟩)] rfl (by (try simp only [List.map_toArray, List.map_cons, List.map_nil]); first | done | rfl) ?_; (with_reducible refine (F0.out.go HR.out).mono ?_); rintro e w1 ⟨rfl, h1, k1⟩; refine ⟨_, rfl, ?_⟩; have HKn := Aside0.mk (keep_trans HK.out k1); have BKn := Aside0.mk (k1.blk BK.out (Nat.ne_of_gt (Nat.lt_of_lt_of_le HGL.out GE.out)) (by simp)); have HRn := Aside0.mk h1; clear HK BK HR h1 k1; have HK := HKn; have BK := BKn; have HR := HRn; clear HKn BKn HRn) | ((with_reducible refine gate_callee (f := 23) rfl ?_); refine goesL_ (some 21) rfl rfl Try.func23 (by kernel_rfl) rfl #[.pointer (some ⟨g, 0, none⟩)] rfl (by (try simp only [List.map_toArray, List.map_cons, List.map_nil]); first | done | rfl) ?_; (with_reducible refine (F1.out.go HR.out).mono ?_); rintro e w2 ⟨rfl, h1, k1⟩; refine ⟨_, rfl, ?_⟩; have HKn := Aside0.mk (keep_trans HK.out k1); have BKn := Aside0.mk (k1.blk BK.out (Nat.ne_of_gt (Nat.lt_of_lt_of_le HGL.out GE.out)) (by simp)); have HRn := Aside0.mk h1; clear HK BK HR h1 k1; have HK := HKn; have BK := BKn; have HR := HRn; clear HKn BKn HRn; obtain ⟨hc0_, hf0_, hc1_, hf1_, hc2_, hf2_, hc3_, hf3_, hc4_, hf4_, hc5_, hf5_, hc6_, hf6_, hc7_, hf7_, hc8_, hf8_, hc9_, hf9_, hc10_, hf10_⟩ := cells11 BK.out))
 have HNE : g ≠ gb := Nat.ne_of_lt (Nat.lt_of_lt_of_le HGL.out GE.out)
 have HLE : W0.heap.size ≤ gb := Nat.le_trans HW0.out GE.out
 exact bodyPost_ret (results_ct rfl _ _ gb 41 #[.int .i64 3, .int .i64 0, .int .i64 x1, .int .i64 0, .string ⟨#[]⟩, .slice none 0 0, .int .u16 0, .int .u16 0, .int .u16 0, .int .i64 0, .int .i64 0] (0, 0) _ rfl (ch_blk BK.out _ _ _ _ _ _ _ _ _ _ _) Try.underlying41 rfl (by kernel_rfl)) rfl ⟨_, rfl, (ch_rd HR.out HNE HLE _ _ _ _ _ _ _ _ _ _ _), Kd.R_nil _ _ _ _ _, (ch_keep HK.out GE.out _ _ _ _ _ _ _ _ _ _ _)⟩
set_option maxHeartbeats 8000000 in
set_option maxRecDepth 100000 in
theorem event8 {W0 w : World} {g : Nat} {l : List Int} {n : Int} {s : Bool} (h : RD W0 w g l n s) (c0 : Int) (x1 : Int) (l0 l1 : List Int) (s0 s1 : Bool) (h0 : 0 ≤ c0) (hk : c0 % 16 = 8) (F0 : Aside0 (Rdc 23 W0 g l n s (.int .i64 c0) l0 s0)) (F1 : Aside0 (Rdc 23 W0 g l0 n s0 (.int .i64 x1) l1 s1)) :
  Calls Try.prog 17 #[.pointer (some ⟨g, 0, none⟩)] w (Evp W0 w g n 4 0 x1 0 ⟨#[]⟩ [] true l1 s1) := by
 have HR := Aside0.mk h
 have HGL := Aside0.mk h.lt
 have HW0 := Aside0.mk (show W0.heap.size ≤ w.heap.size from by obtain ⟨A, c, h1, h2, h3, h4, h5, h6⟩ := h; exact h5.size)
 have hk2 : Int.tmod c0 16 = 8 := by rw [Int.tmod_eq_emod_of_nonneg h0]; exact hk
 clear h
 go_enter Try.func17, Try.ntmps17
 go_wp2_with (first | ((with_reducible refine gate_dst (N := 2) rfl ?_); (try (refine gate_guard (by rfl) ?_; dsimp only)); refine box_event ?hg (N := 2) ?hd (cs := #[.int .i64 0, .int .i64 0, .int .i64 0, .int .i64 0, .string ⟨#[]⟩, .slice none 0 0, .int .u16 0, .int .u16 0, .int .u16 0, .int .i64 0, .int .i64 0]) (t := 41) ?hr ?_; (case hd => rfl); (case hg => rfl); (case hr => first | (go_simp; done) | (go_simp; rfl)); intro gb hg wb hbox hb; have HK := Aside0.mk (KeepBut.of_below hb g none); have HR0 := Aside0.mk (HR.out.below hb); clear HR; have HR := HR0; clear HR0; have BK := Aside0.mk hbox; have GE := Aside0.mk (Nat.le_of_eq hg.symm); clear hg hb hbox) | ((with_reducible refine gate_callee (f := 23) rfl ?_); refine goesL_ (some 6) rfl rfl Try.func23 (by kernel_rfl) rfl #[.pointer (some ⟨g, 0, none⟩)] rfl (by (try simp only [List.map_toArray, List.map_cons, List.map_nil]); first | done | rfl) ?_; (with_reducible refine (F0.out.go HR.out).mono ?_); rintro e w1 ⟨rfl, h1, k1⟩; refine ⟨_, rfl, ?_⟩; have HKn := Aside0.mk (keep_trans HK.out k1); have BKn := Aside0.mk (k1.blk BK.out (Nat.ne_of_gt (Nat.lt_of_lt_of_le HGL.out GE.out)) (by simp)); have HRn := Aside0.mk h1; clear HK BK HR h1 k1; have HK := HKn; have BK := BKn; have HR := HRn; clear HKn BKn HRn) | ((with_reducible refine gate_callee (f := 23) rfl ?_); refine goesL_ (some 26) rfl rfl Try.func23 (by kernel_rfl) rfl #[.pointer (some ⟨g, 0, none⟩)] rfl (by (try simp only [List.map_toArray, List.map_cons, List.map_nil]); first | done | rfl) ?_; (with_reducible refine (F1.out.go HR.out).mono ?_); rintro e w2 ⟨rfl, h1, k1⟩; refine ⟨_, rfl, ?_⟩; have HKn := Aside0.mk (keep_trans HK.out k1); have BKn := Aside0.mk (k1.blk BK.out (Nat.ne_of_gt (Nat.lt_of_lt_of_le HGL.out GE.out)) (by simp)); have HRn := Aside0.mk h1; clear HK BK HR h1 k1; have HK := HKn; have BK := BKn; have HR := HRn; clear HKn BKn HRn; obtain ⟨hc0_, hf0_, hc1_, hf1_, hc2_, hf2_, hc3_, hf3_, hc4_, hf4_, hc5_, hf5_, hc6_, hf6_, hc7_, hf7_, hc8_, hf8_, hc9_, hf9_, hc10_, hf10_⟩ := cells11 BK.out))
 have HNE : g ≠ gb := Nat.ne_of_lt (Nat.lt_of_lt_of_le HGL.out GE.out)
 have HLE : W0.heap.size ≤ gb := Nat.le_trans HW0.out GE.out
 exact bodyPost_ret (results_ct rfl _ _ gb 41 #[.int .i64 4, .int .i64 0, .int .i64 x1, .int .i64 0, .string ⟨#[]⟩, .slice none 0 0, .int .u16 0, .int .u16 0, .int .u16 0, .int .i64 0, .int .i64 0] (0, 0) _ rfl (ch_blk BK.out _ _ _ _ _ _ _ _ _ _ _) Try.underlying41 rfl (by kernel_rfl)) rfl ⟨_, rfl, (ch_rd HR.out HNE HLE _ _ _ _ _ _ _ _ _ _ _), Kd.R_nil _ _ _ _ _, (ch_keep HK.out GE.out _ _ _ _ _ _ _ _ _ _ _)⟩
set_option maxHeartbeats 8000000 in
set_option maxRecDepth 100000 in
theorem event9 {W0 w : World} {g : Nat} {l : List Int} {n : Int} {s : Bool} (h : RD W0 w g l n s) (c0 : Int) (x1 : Int) (l0 l1 : List Int) (s0 s1 : Bool) (h0 : 0 ≤ c0) (hk : c0 % 16 = 9) (F0 : Aside0 (Rdc 23 W0 g l n s (.int .i64 c0) l0 s0)) (F1 : Aside0 (Rdc 23 W0 g l0 n s0 (.int .i64 x1) l1 s1)) :
  Calls Try.prog 17 #[.pointer (some ⟨g, 0, none⟩)] w (Evp W0 w g n 5 0 x1 0 ⟨#[]⟩ [] true l1 s1) := by
 have HR := Aside0.mk h
 have HGL := Aside0.mk h.lt
 have HW0 := Aside0.mk (show W0.heap.size ≤ w.heap.size from by obtain ⟨A, c, h1, h2, h3, h4, h5, h6⟩ := h; exact h5.size)
 have hk2 : Int.tmod c0 16 = 9 := by rw [Int.tmod_eq_emod_of_nonneg h0]; exact hk
 clear h
 go_enter Try.func17, Try.ntmps17
 go_wp2_with (first | ((with_reducible refine gate_dst (N := 2) rfl ?_); (try (refine gate_guard (by rfl) ?_; dsimp only)); refine box_event ?hg (N := 2) ?hd (cs := #[.int .i64 0, .int .i64 0, .int .i64 0, .int .i64 0, .string ⟨#[]⟩, .slice none 0 0, .int .u16 0, .int .u16 0, .int .u16 0, .int .i64 0, .int .i64 0]) (t := 41) ?hr ?_; (case hd => rfl); (case hg => rfl); (case hr => first | (go_simp; done) | (go_simp; rfl)); intro gb hg wb hbox hb; have HK := Aside0.mk (KeepBut.of_below hb g none); have HR0 := Aside0.mk (HR.out.below hb); clear HR; have HR := HR0; clear HR0; have BK := Aside0.mk hbox; have GE := Aside0.mk (Nat.le_of_eq hg.symm); clear hg hb hbox) | ((with_reducible refine gate_callee (f := 23) rfl ?_); refine goesL_ (some 6) rfl rfl Try.func23 (by kernel_rfl) rfl #[.pointer (some ⟨g, 0, none⟩)] rfl (by (try simp only [List.map_toArray, List.map_cons, List.map_nil]); first | done | rfl) ?_; (with_reducible refine (F0.out.go HR.out).mono ?_); rintro e w1 ⟨rfl, h1, k1⟩; refine ⟨_, rfl, ?_⟩; have HKn := Aside0.mk (keep_trans HK.out k1); have BKn := Aside0.mk (k1.blk BK.out (Nat.ne_of_gt (Nat.lt_of_lt_of_le HGL.out GE.out)) (by simp)); have HRn := Aside0.mk h1; clear HK BK HR h1 k1; have HK := HKn; have BK := BKn; have HR := HRn; clear HKn BKn HRn) | ((with_reducible refine gate_callee (f := 23) rfl ?_); refine goesL_ (some 31) rfl rfl Try.func23 (by kernel_rfl) rfl #[.pointer (some ⟨g, 0, none⟩)] rfl (by (try simp only [List.map_toArray, List.map_cons, List.map_nil]); first | done | rfl) ?_; (with_reducible refine (F1.out.go HR.out).mono ?_); rintro e w2 ⟨rfl, h1, k1⟩; refine ⟨_, rfl, ?_⟩; have HKn := Aside0.mk (keep_trans HK.out k1); have BKn := Aside0.mk (k1.blk BK.out (Nat.ne_of_gt (Nat.lt_of_lt_of_le HGL.out GE.out)) (by simp)); have HRn := Aside0.mk h1; clear HK BK HR h1 k1; have HK := HKn; have BK := BKn; have HR := HRn; clear HKn BKn HRn; obtain ⟨hc0_, hf0_, hc1_, hf1_, hc2_, hf2_, hc3_, hf3_, hc4_, hf4_, hc5_, hf5_, hc6_, hf6_, hc7_, hf7_, hc8_, hf8_, hc9_, hf9_, hc10_, hf10_⟩ := cells11 BK.out))
 have HNE : g ≠ gb := Nat.ne_of_lt (Nat.lt_of_lt_of_le HGL.out GE.out)
 have HLE : W0.heap.size ≤ gb := Nat.le_trans HW0.out GE.out
 exact bodyPost_ret (results_ct rfl _ _ gb 41 #[.int .i64 5, .int .i64 0, .int .i64 x1, .int .i64 0, .string ⟨#[]⟩, .slice none 0 0, .int .u16 0, .int .u16 0, .int .u16 0, .int .i64 0, .int .i64 0] (0, 0) _ rfl (ch_blk BK.out _ _ _ _ _ _ _ _ _ _ _) Try.underlying41 rfl (by kernel_rfl)) rfl ⟨_, rfl, (ch_rd HR.out HNE HLE _ _ _ _ _ _ _ _ _ _ _), Kd.R_nil _ _ _ _ _, (ch_keep HK.out GE.out _ _ _ _ _ _ _ _ _ _ _)⟩
set_option maxHeartbeats 8000000 in
set_option maxRecDepth 100000 in
theorem event10 {W0 w : World} {g : Nat} {l : List Int} {n : Int} {s : Bool} (h : RD W0 w g l n s) (c0 : Int) (x1 : Int) (x2 : ByteArray) (l0 l1 l2 : List Int) (s0 s1 s2 : Bool) (h0 : 0 ≤ c0) (hk : c0 % 16 = 10) (F0 : Aside0 (Rdc 23 W0 g l n s (.int .i64 c0) l0 s0)) (F1 : Aside0 (Rdc 24 W0 g l0 n s0 (.int .i64 x1) l1 s1)) (F2 : Aside0 (Rdc 26 W0 g l1 n s1 (.string x2) l2 s2)) :
  Calls Try.prog 17 #[.pointer (some ⟨g, 0, none⟩)] w (Evp W0 w g n 6 x1 0 0 x2 [] true l2 s2) := by
 have HR := Aside0.mk h
 have HGL := Aside0.mk h.lt
 have HW0 := Aside0.mk (show W0.heap.size ≤ w.heap.size from by obtain ⟨A, c, h1, h2, h3, h4, h5, h6⟩ := h; exact h5.size)
 have hk2 : Int.tmod c0 16 = 10 := by rw [Int.tmod_eq_emod_of_nonneg h0]; exact hk
 clear h
 go_enter Try.func17, Try.ntmps17
 go_wp2_with (first | ((with_reducible refine gate_dst (N := 2) rfl ?_); (try (refine gate_guard (by rfl) ?_; dsimp only)); refine box_event ?hg (N := 2) ?hd (cs := #[.int .i64 0, .int .i64 0, .int .i64 0, .int .i64 0, .string ⟨#[]⟩, .slice none 0 0, .int .u16 0, .int .u16 0, .int .u16 0, .int .i64 0, .int .i64 0]) (t := 41) ?hr ?_; (case hd => rfl); (case hg => rfl); (case hr => first | (go_simp; done) | (go_simp; rfl)); intro gb hg wb hbox hb; have HK := Aside0.mk (KeepBut.of_below hb g none); have HR0 := Aside0.mk (HR.out.below hb); clear HR; have HR := HR0; clear HR0; have BK := Aside0.mk hbox; have GE := Aside0.mk (Nat.le_of_eq hg.symm); clear hg hb hbox) | ((with_reducible refine gate_callee (f := 23) rfl ?_); refine goesL_ (some 6) rfl rfl Try.func23 (by kernel_rfl) rfl #[.pointer (some ⟨g, 0, none⟩)] rfl (by (try simp only [List.map_toArray, List.map_cons, List.map_nil]); first | done | rfl) ?_; (with_reducible refine (F0.out.go HR.out).mono ?_); rintro e w1 ⟨rfl, h1, k1⟩; refine ⟨_, rfl, ?_⟩; have HKn := Aside0.mk (keep_trans HK.out k1); have BKn := Aside0.mk (k1.blk BK.out (Nat.ne_of_gt (Nat.lt_of_lt_of_le HGL.out GE.out)) (by simp)); have HRn := Aside0.mk h1; clear HK BK HR h1 k1; have HK := HKn; have BK := BKn; have HR := HRn; clear HKn BKn HRn) | ((with_reducible refine gate_callee (f := 24) rfl ?_); refine goesL_ (some 36) rfl rfl Try.func24 (by kernel_rfl) rfl #[.pointer (some ⟨g, 0, none⟩)] rfl (by (try simp only [List.map_toArray, List.map_cons, List.map_nil]); first | done | rfl) ?_; (with_reducible refine (F1.out.go HR.out).mono ?_); rintro e w2 ⟨rfl, h1, k1⟩; refine ⟨_, rfl, ?_⟩; have HKn := Aside0.mk (keep_trans HK.out k1); have BKn := Aside0.mk (k1.blk BK.out (Nat.ne_of_gt (Nat.lt_of_lt_of_le HGL.out GE.out)) (by simp)); have HRn := Aside0.mk h1; clear HK BK HR h1 k1; have HK := HKn; have BK := BKn; have HR := HRn; clear HKn BKn HRn) | ((with_reducible refine gate_callee (f := 26) rfl ?_); refine goesL_ (some 38) rfl rfl Try.func26 (by kernel_rfl) rfl #[.pointer (some ⟨g, 0, none⟩)] rfl (by (try simp only [List.map_toArray, List.map_cons, List.map_nil]); first | done | rfl) ?_; (with_reducible refine (F2.out.go HR.out).mono ?_); rintro e w3 ⟨rfl, h1, k1⟩; refine ⟨_, rfl, ?_⟩; have HKn := Aside0.mk (keep_trans HK.out k1); have BKn := Aside0.mk (k1.blk BK.out (Nat.ne_of_gt (Nat.lt_of_lt_of_le HGL.out GE.out)) (by simp)); have HRn := Aside0.mk h1; clear HK BK HR h1 k1; have HK := HKn; have BK := BKn; have HR := HRn; clear HKn BKn HRn; obtain ⟨hc0_, hf0_, hc1_, hf1_, hc2_, hf2_, hc3_, hf3_, hc4_, hf4_, hc5_, hf5_, hc6_, hf6_, hc7_, hf7_, hc8_, hf8_, hc9_, hf9_, hc10_, hf10_⟩ := cells11 BK.out))
 have HNE : g ≠ gb := Nat.ne_of_lt (Nat.lt_of_lt_of_le HGL.out GE.out)
 have HLE : W0.heap.size ≤ gb := Nat.le_trans HW0.out GE.out
 exact bodyPost_ret (results_ct rfl _ _ gb 41 #[.int .i64 6, .int .i64 x1, .int .i64 0, .int .i64 0, .string x2, .slice none 0 0, .int .u16 0, .int .u16 0, .int .u16 0, .int .i64 0, .int .i64 0] (0, 0) _ rfl (ch_blk BK.out _ _ _ _ _ _ _ _ _ _ _) Try.underlying41 rfl (by kernel_rfl)) rfl ⟨_, rfl, (ch_rd HR.out HNE HLE _ _ _ _ _ _ _ _ _ _ _), Kd.R_nil _ _ _ _ _, (ch_keep HK.out GE.out _ _ _ _ _ _ _ _ _ _ _)⟩
set_option maxHeartbeats 8000000 in
set_option maxRecDepth 100000 in
theorem event11 {W0 w : World} {g : Nat} {l : List Int} {n : Int} {s : Bool} (h : RD W0 w g l n s) (c0 : Int) (x1 : Int) (x2 : Int) (x3 : Int) (l0 l1 l2 l3 : List Int) (s0 s1 s2 s3 : Bool) (h0 : 0 ≤ c0) (hk : c0 % 16 = 11) (F0 : Aside0 (Rdc 23 W0 g l n s (.int .i64 c0) l0 s0)) (F1 : Aside0 (Rdc 24 W0 g l0 n s0 (.int .i64 x1) l1 s1)) (F2 : Aside0 (Rdc 23 W0 g l1 n s1 (.int .i64 x2) l2 s2)) (F3 : Aside0 (Rdc 23 W0 g l2 n s2 (.int .i64 x3) l3 s3)) :
  Calls Try.prog 17 #[.pointer (some ⟨g, 0, none⟩)] w (Evp W0 w g n 7 x1 0 0 ⟨#[]⟩ [x2, x3] true l3 s3) := by
 have HR := Aside0.mk h
 have HGL := Aside0.mk h.lt
 have HW0 := Aside0.mk (show W0.heap.size ≤ w.heap.size from by obtain ⟨A, c, h1, h2, h3, h4, h5, h6⟩ := h; exact h5.size)
 have hk2 : Int.tmod c0 16 = 11 := by rw [Int.tmod_eq_emod_of_nonneg h0]; exact hk
 clear h
 go_enter Try.func17, Try.ntmps17
 go_wp2_with (first | ((with_reducible refine gate_dst (N := 2) rfl ?_); (try (refine gate_guard (by rfl) ?_; dsimp only)); refine box_event ?hg (N := 2) ?hd (cs := #[.int .i64 0, .int .i64 0, .int .i64 0, .int .i64 0, .string ⟨#[]⟩, .slice none 0 0, .int .u16 0, .int .u16 0, .int .u16 0, .int .i64 0, .int .i64 0]) (t := 41) ?hr ?_; (case hd => rfl); (case hg => rfl); (case hr => first | (go_simp; done) | (go_simp; rfl)); intro gb hg wb hbox hb; have HK := Aside0.mk (KeepBut.of_below hb g none); have HR0 := Aside0.mk (HR.out.below hb); clear HR; have HR := HR0; clear HR0; have BK := Aside0.mk hbox; have GE := Aside0.mk (Nat.le_of_eq hg.symm); clear hg hb hbox) | ((with_reducible refine gate_callee (f := 23) rfl ?_); refine goesL_ (some 6) rfl rfl Try.func23 (by kernel_rfl) rfl #[.pointer (some ⟨g, 0, none⟩)] rfl (by (try simp only [List.map_toArray, List.map_cons, List.map_nil]); first | done | rfl) ?_; (with_reducible refine (F0.out.go HR.out).mono ?_); rintro e w1 ⟨rfl, h1, k1⟩; refine ⟨_, rfl, ?_⟩; have HKn := Aside0.mk (keep_trans HK.out k1); have BKn := Aside0.mk (k1.blk BK.out (Nat.ne_of_gt (Nat.lt_of_lt_of_le HGL.out GE.out)) (by simp)); have HRn := Aside0.mk h1; clear HK BK HR h1 k1; have HK := HKn; have BK := BKn; have HR := HRn; clear HKn BKn HRn) | ((with_reducible refine gate_callee (f := 24) rfl ?_); refine goesL_ (some 43) rfl rfl Try.func24 (by kernel_rfl) rfl #[.pointer (some ⟨g, 0, none⟩)] rfl (by (try simp only [List.map_toArray, List.map_cons, List.map_nil]); first | done | rfl) ?_; (with_reducible refine (F1.out.go HR.out).mono ?_); rintro e w2 ⟨rfl, h1, k1⟩; refine ⟨_, rfl, ?_⟩; have HKn := Aside0.mk (keep_trans HK.out k1); have BKn := Aside0.mk (k1.blk BK.out (Nat.ne_of_gt (Nat.lt_of_lt_of_le HGL.out GE.out)) (by simp)); have HRn := Aside0.mk h1; clear HK BK HR h1 k1; have HK := HKn; have BK := BKn; have HR := HRn; clear HKn BKn HRn) | ((with_reducible refine gate_callee (f := 23) rfl ?_); refine goesL_ (some 45) rfl rfl Try.func23 (by kernel_rfl) rfl #[.pointer (some ⟨g, 0, none⟩)] rfl (by (try simp only [List.map_toArray, List.map_cons, List.map_nil]); first | done | rfl) ?_; (with_reducible refine (F2.out.go HR.out).mono ?_); rintro e w3 ⟨rfl, h1, k1⟩; refine ⟨_, rfl, ?_⟩; have HKn := Aside0.mk (keep_trans HK.out k1); have BKn := Aside0.mk (k1.blk BK.out (Nat.ne_of_gt (Nat.lt_of_lt_of_le HGL.out GE.out)) (by simp)); have HRn := Aside0.mk h1; clear HK BK HR h1 k1; have HK := HKn; have BK := BKn; have HR := HRn; clear HKn BKn HRn) | ((with_reducible refine gate_callee (f := 23) rfl ?_); refine goesL_ (some 47) rfl rfl Try.func23 (by kernel_rfl) rfl #[.pointer (some ⟨g, 0, none⟩)] rfl (by (try simp only [List.map_toArray, List.map_cons, List.map_nil]); first | done | rfl) ?_; (with_reducible refine (F3.out.go HR.out).mono ?_); rintro e w4 ⟨rfl, h1, k1⟩; refine ⟨_, rfl, ?_⟩; have HKn := Aside0.mk (keep_trans HK.out k1); have BKn := Aside0.mk (k1.blk BK.out (Nat.ne_of_gt (Nat.lt_of_lt_of_le HGL.out GE.out)) (by simp)); have HRn := Aside0.mk h1; clear HK BK HR h1 k1; have HK := HKn; have BK := BKn; have HR := HRn; clear HKn BKn HRn) | ((with_reducible refine gate_dst (N := 48) rfl ?_); refine Kd.R_lit (Kd.int .i64) _ 3 ?hg (N := 48) ?hd (xs := ([x2, x3] : List Int)) (inner := [.int .i64 x2, .int .i64 x3]) (ok := fun _ => True) (okp := fun _ => True) ?hr ?hp (fun _ hk => hk) trivial (Below.refl _ _) (Nat.le_refl _) (by simp) ?_; (case hd => rfl); (case hg => rfl); (case hr => first | (go_simp; done) | (go_simp; rfl)); (case hp => exact (Reps.snoc (Reps.snoc (Reps.none _ _) (p := x2) (c := [.int .i64 x2]) rfl rfl) (p := x3) (c := [.int .i64 x3]) rfl rfl)); intro vk wk ho hb hg_ hnew_; clear hg_ hnew_; have HKn := Aside0.mk (keep_trans HK.out (KeepBut.of_below hb g none)); have BKn := Aside0.mk (blk_below BK.out hb); have HRn := Aside0.mk (HR.out.below hb); have HO := Aside0.mk (Kd.R_lower ho HK.out.1); clear HK BK HR ho hb; have HK := HKn; have BK := BKn; have HR := HRn; clear HKn BKn HRn; obtain ⟨Ak, ck, rfl⟩ := Kd.R_slice HO.out; obtain ⟨hc0_, hf0_, hc1_, hf1_, hc2_, hf2_, hc3_, hf3_, hc4_, hf4_, hc5_, hf5_, hc6_, hf6_, hc7_, hf7_, hc8_, hf8_, hc9_, hf9_, hc10_, hf10_⟩ := cells11 BK.out))
 have HNE : g ≠ gb := Nat.ne_of_lt (Nat.lt_of_lt_of_le HGL.out GE.out)
 have HLE : W0.heap.size ≤ gb := Nat.le_trans HW0.out GE.out
 have HO3 := Kd.R_types HO.out BK.out (by intro q hq; simp [Kd.int, Kd.scalar] at hq; omega : ∀ q, q ∈ 3 :: (Kd.int .i64).E → q ≠ 41)
 exact bodyPost_ret (results_ct rfl _ _ gb 41 #[.int .i64 7, .int .i64 x1, .int .i64 0, .int .i64 0, .string ⟨#[]⟩, .slice Ak 2 ck, .int .u16 0, .int .u16 0, .int .u16 0, .int .i64 0, .int .i64 0] (0, 0) _ rfl (ch_blk BK.out _ _ _ _ _ _ _ _ _ _ _) Try.underlying41 rfl (by kernel_rfl)) rfl ⟨_, rfl, (ch_rd HR.out HNE HLE _ _ _ _ _ _ _ _ _ _ _), Kd.R_mono (ch_R HO3 (fun _ h_ => h_.2) _ _ _ _ _ _ _ _ _ _ _) (fun _ h_ => h_.1), (ch_keep HK.out GE.out _ _ _ _ _ _ _ _ _ _ _)⟩
set_option maxHeartbeats 8000000 in
set_option maxRecDepth 100000 in
theorem event12 {W0 w : World} {g : Nat} {l : List Int} {n : Int} {s : Bool} (h : RD W0 w g l n s) (c0 : Int) (x1 : Int) (l0 l1 : List Int) (s0 s1 : Bool) (h0 : 0 ≤ c0) (hk : c0 % 16 = 12) (F0 : Aside0 (Rdc 23 W0 g l n s (.int .i64 c0) l0 s0)) (F1 : Aside0 (Rdc 24 W0 g l0 n s0 (.int .i64 x1) l1 s1)) :
  Calls Try.prog 17 #[.pointer (some ⟨g, 0, none⟩)] w (Evp W0 w g n 8 x1 0 0 ⟨#[]⟩ [] true l1 s1) := by
 have HR := Aside0.mk h
 have HGL := Aside0.mk h.lt
 have HW0 := Aside0.mk (show W0.heap.size ≤ w.heap.size from by obtain ⟨A, c, h1, h2, h3, h4, h5, h6⟩ := h; exact h5.size)
 have hk2 : Int.tmod c0 16 = 12 := by rw [Int.tmod_eq_emod_of_nonneg h0]; exact hk
 clear h
 go_enter Try.func17, Try.ntmps17
 go_wp2_with (first | ((with_reducible refine gate_dst (N := 2) rfl ?_); (try (refine gate_guard (by rfl) ?_; dsimp only)); refine box_event ?hg (N := 2) ?hd (cs := #[.int .i64 0, .int .i64 0, .int .i64 0, .int .i64 0, .string ⟨#[]⟩, .slice none 0 0, .int .u16 0, .int .u16 0, .int .u16 0, .int .i64 0, .int .i64 0]) (t := 41) ?hr ?_; (case hd => rfl); (case hg => rfl); (case hr => first | (go_simp; done) | (go_simp; rfl)); intro gb hg wb hbox hb; have HK := Aside0.mk (KeepBut.of_below hb g none); have HR0 := Aside0.mk (HR.out.below hb); clear HR; have HR := HR0; clear HR0; have BK := Aside0.mk hbox; have GE := Aside0.mk (Nat.le_of_eq hg.symm); clear hg hb hbox) | ((with_reducible refine gate_callee (f := 23) rfl ?_); refine goesL_ (some 6) rfl rfl Try.func23 (by kernel_rfl) rfl #[.pointer (some ⟨g, 0, none⟩)] rfl (by (try simp only [List.map_toArray, List.map_cons, List.map_nil]); first | done | rfl) ?_; (with_reducible refine (F0.out.go HR.out).mono ?_); rintro e w1 ⟨rfl, h1, k1⟩; refine ⟨_, rfl, ?_⟩; have HKn := Aside0.mk (keep_trans HK.out k1); have BKn := Aside0.mk (k1.blk BK.out (Nat.ne_of_gt (Nat.lt_of_lt_of_le HGL.out GE.out)) (by simp)); have HRn := Aside0.mk h1; clear HK BK HR h1 k1; have HK := HKn; have BK := BKn; have HR := HRn; clear HKn BKn HRn) | ((with_reducible refine gate_callee (f := 24) rfl ?_); refine goesL_ (some 53) rfl rfl Try.func24 (by kernel_rfl) rfl #[.pointer (some ⟨g, 0, none⟩)] rfl (by (try simp only [List.map_toArray, List.map_cons, List.map_nil]); first | done | rfl) ?_; (with_reducible refine (F1.out.go HR.out).mono ?_); rintro e w2 ⟨rfl, h1, k1⟩; refine ⟨_, rfl, ?_⟩; have HKn := Aside0.mk (keep_trans HK.out k1); have BKn := Aside0.mk (k1.blk BK.out (Nat.ne_of_gt (Nat.lt_of_lt_of_le HGL.out GE.out)) (by simp)); have HRn := Aside0.mk h1; clear HK BK HR h1 k1; have HK := HKn; have BK := BKn; have HR := HRn; clear HKn BKn HRn; obtain ⟨hc0_, hf0_, hc1_, hf1_, hc2_, hf2_, hc3_, hf3_, hc4_, hf4_, hc5_, hf5_, hc6_, hf6_, hc7_, hf7_, hc8_, hf8_, hc9_, hf9_, hc10_, hf10_⟩ := cells11 BK.out))
 have HNE : g ≠ gb := Nat.ne_of_lt (Nat.lt_of_lt_of_le HGL.out GE.out)
 have HLE : W0.heap.size ≤ gb := Nat.le_trans HW0.out GE.out
 exact bodyPost_ret (results_ct rfl _ _ gb 41 #[.int .i64 8, .int .i64 x1, .int .i64 0, .int .i64 0, .string ⟨#[]⟩, .slice none 0 0, .int .u16 0, .int .u16 0, .int .u16 0, .int .i64 0, .int .i64 0] (0, 0) _ rfl (ch_blk BK.out _ _ _ _ _ _ _ _ _ _ _) Try.underlying41 rfl (by kernel_rfl)) rfl ⟨_, rfl, (ch_rd HR.out HNE HLE _ _ _ _ _ _ _ _ _ _ _), Kd.R_nil _ _ _ _ _, (ch_keep HK.out GE.out _ _ _ _ _ _ _ _ _ _ _)⟩
set_option maxHeartbeats 8000000 in
set_option maxRecDepth 100000 in
theorem event13 {W0 w : World} {g : Nat} {l : List Int} {n : Int} {s : Bool} (h : RD W0 w g l n s) (c0 : Int) (x1 : Int) (x2 : Int) (l0 l1 l2 : List Int) (s0 s1 s2 : Bool) (h0 : 0 ≤ c0) (hk : c0 % 16 = 13) (F0 : Aside0 (Rdc 23 W0 g l n s (.int .i64 c0) l0 s0)) (F1 : Aside0 (Rdc 24 W0 g l0 n s0 (.int .i64 x1) l1 s1)) (F2 : Aside0 (Rdc 23 W0 g l1 n s1 (.int .i64 x2) l2 s2)) :
  Calls Try.prog 17 #[.pointer (some ⟨g, 0, none⟩)] w (Evp W0 w g n 9 x1 x2 0 ⟨#[]⟩ [] true l2 s2) := by
 have HR := Aside0.mk h
 have HGL := Aside0.mk h.lt
 have HW0 := Aside0.mk (show W0.heap.size ≤ w.heap.size from by obtain ⟨A, c, h1, h2, h3, h4, h5, h6⟩ := h; exact h5.size)
 have hk2 : Int.tmod c0 16 = 13 := by rw [Int.tmod_eq_emod_of_nonneg h0]; exact hk
 clear h
 go_enter Try.func17, Try.ntmps17
 go_wp2_with (first | ((with_reducible refine gate_dst (N := 2) rfl ?_); (try (refine gate_guard (by rfl) ?_; dsimp only)); refine box_event ?hg (N := 2) ?hd (cs := #[.int .i64 0, .int .i64 0, .int .i64 0, .int .i64 0, .string ⟨#[]⟩, .slice none 0 0, .int .u16 0, .int .u16 0, .int .u16 0, .int .i64 0, .int .i64 0]) (t := 41) ?hr ?_; (case hd => rfl); (case hg => rfl); (case hr => first | (go_simp; done) | (go_simp; rfl)); intro gb hg wb hbox hb; have HK := Aside0.mk (KeepBut.of_below hb g none); have HR0 := Aside0.mk (HR.out.below hb); clear HR; have HR := HR0; clear HR0; have BK := Aside0.mk hbox; have GE := Aside0.mk (Nat.le_of_eq hg.symm); clear hg hb hbox) | ((with_reducible refine gate_callee (f := 23) rfl ?_); refine goesL_ (some 6) rfl rfl Try.func23 (by kernel_rfl) rfl #[.pointer (some ⟨g, 0, none⟩)] rfl (by (try simp only [List.map_toArray, List.map_cons, List.map_nil]); first | done | rfl) ?_; (with_reducible refine (F0.out.go HR.out).mono ?_); rintro e w1 ⟨rfl, h1, k1⟩; refine ⟨_, rfl, ?_⟩; have HKn := Aside0.mk (keep_trans HK.out k1); have BKn := Aside0.mk (k1.blk BK.out (Nat.ne_of_gt (Nat.lt_of_lt_of_le HGL.out GE.out)) (by simp)); have HRn := Aside0.mk h1; clear HK BK HR h1 k1; have HK := HKn; have BK := BKn; have HR := HRn; clear HKn BKn HRn) | ((with_reducible refine gate_callee (f := 24) rfl ?_); refine goesL_ (some 58) rfl rfl Try.func24 (by kernel_rfl) rfl #[.pointer (some ⟨g, 0, none⟩)] rfl (by (try simp only [List.map_toArray, List.map_cons, List.map_nil]); first | done | rfl) ?_; (with_reducible refine (F1.out.go HR.out).mono ?_); rintro e w2 ⟨rfl, h1, k1⟩; refine ⟨_, rfl, ?_⟩; have HKn := Aside0.mk (keep_trans HK.out k1); have BKn := Aside0.mk (k1.blk BK.out (Nat.ne_of_gt (Nat.lt_of_lt_of_le HGL.out GE.out)) (by simp)); have HRn := Aside0.mk h1; clear HK BK HR h1 k1; have HK := HKn; have BK := BKn; have HR := HRn; clear HKn BKn HRn) | ((with_reducible refine gate_callee (f := 23) rfl ?_); refine goesL_ (some 60) rfl rfl Try.func23 (by kernel_rfl) rfl #[.pointer (some ⟨g, 0, none⟩)] rfl (by (try simp only [List.map_toArray, List.map_cons, List.map_nil]); first | done | rfl) ?_; (with_reducible refine (F2.out.go HR.out).mono ?_); rintro e w3 ⟨rfl, h1, k1⟩; refine ⟨_, rfl, ?_⟩; have HKn := Aside0.mk (keep_trans HK.out k1); have BKn := Aside0.mk (k1.blk BK.out (Nat.ne_of_gt (Nat.lt_of_lt_of_le HGL.out GE.out)) (by simp)); have HRn := Aside0.mk h1; clear HK BK HR h1 k1; have HK := HKn; have BK := BKn; have HR := HRn; clear HKn BKn HRn; obtain ⟨hc0_, hf0_, hc1_, hf1_, hc2_, hf2_, hc3_, hf3_, hc4_, hf4_, hc5_, hf5_, hc6_, hf6_, hc7_, hf7_, hc8_, hf8_, hc9_, hf9_, hc10_, hf10_⟩ := cells11 BK.out))
 have HNE : g ≠ gb := Nat.ne_of_lt (Nat.lt_of_lt_of_le HGL.out GE.out)
 have HLE : W0.heap.size ≤ gb := Nat.le_trans HW0.out GE.out
 exact bodyPost_ret (results_ct rfl _ _ gb 41 #[.int .i64 9, .int .i64 x1, .int .i64 x2, .int .i64 0, .string ⟨#[]⟩, .slice none 0 0, .int .u16 0, .int .u16 0, .int .u16 0, .int .i64 0, .int .i64 0] (0, 0) _ rfl (ch_blk BK.out _ _ _ _ _ _ _ _ _ _ _) Try.underlying41 rfl (by kernel_rfl)) rfl ⟨_, rfl, (ch_rd HR.out HNE HLE _ _ _ _ _ _ _ _ _ _ _), Kd.R_nil _ _ _ _ _, (ch_keep HK.out GE.out _ _ _ _ _ _ _ _ _ _ _)⟩
set_option maxHeartbeats 8000000 in
set_option maxRecDepth 100000 in
theorem event14 {W0 w : World} {g : Nat} {l : List Int} {n : Int} {s : Bool} (h : RD W0 w g l n s) (c0 : Int) (x1 : Int) (x2 : Int) (x3 : Int) (l0 l1 l2 l3 : List Int) (s0 s1 s2 s3 : Bool) (h0 : 0 ≤ c0) (hk : c0 % 16 = 14) (F0 : Aside0 (Rdc 23 W0 g l n s (.int .i64 c0) l0 s0)) (F1 : Aside0 (Rdc 24 W0 g l0 n s0 (.int .i64 x1) l1 s1)) (F2 : Aside0 (Rdc 23 W0 g l1 n s1 (.int .i64 x2) l2 s2)) (F3 : Aside0 (Rdc 25 W0 g l2 n s2 (.int .i64 x3) l3 s3)) :
  Calls Try.prog 17 #[.pointer (some ⟨g, 0, none⟩)] w (Evp W0 w g n 12 x1 x2 x3 ⟨#[]⟩ [] true l3 s3) := by
 have HR := Aside0.mk h
 have HGL := Aside0.mk h.lt
 have HW0 := Aside0.mk (show W0.heap.size ≤ w.heap.size from by obtain ⟨A, c, h1, h2, h3, h4, h5, h6⟩ := h; exact h5.size)
 have hk2 : Int.tmod c0 16 = 14 := by rw [Int.tmod_eq_emod_of_nonneg h0]; exact hk
 clear h
 go_enter Try.func17, Try.ntmps17
 go_wp2_with (first | ((with_reducible refine gate_dst (N := 2) rfl ?_); (try (refine gate_guard (by rfl) ?_; dsimp only)); refine box_event ?hg (N := 2) ?hd (cs := #[.int .i64 0, .int .i64 0, .int .i64 0, .int .i64 0, .string ⟨#[]⟩, .slice none 0 0, .int .u16 0, .int .u16 0, .int .u16 0, .int .i64 0, .int .i64 0]) (t := 41) ?hr ?_; (case hd => rfl); (case hg => rfl); (case hr => first | (go_simp; done) | (go_simp; rfl)); intro gb hg wb hbox hb; have HK := Aside0.mk (KeepBut.of_below hb g none); have HR0 := Aside0.mk (HR.out.below hb); clear HR; have HR := HR0; clear HR0; have BK := Aside0.mk hbox; have GE := Aside0.mk (Nat.le_of_eq hg.symm); clear hg hb hbox) | ((with_reducible refine gate_callee (f := 23) rfl ?_); refine goesL_ (some 6) rfl rfl Try.func23 (by kernel_rfl) rfl #[.pointer (some ⟨g, 0, none⟩)] rfl (by (try simp only [List.map_toArray, List.map_cons, List.map_nil]); first | done | rfl) ?_; (with_reducible refine (F0.out.go HR.out).mono ?_); rintro e w1 ⟨rfl, h1, k1⟩; refine ⟨_, rfl, ?_⟩; have HKn := Aside0.mk (keep_trans HK.out k1); have BKn := Aside0.mk (k1.blk BK.out (Nat.ne_of_gt (Nat.lt_of_lt_of_le HGL.out GE.out)) (by simp)); have HRn := Aside0.mk h1; clear HK BK HR h1 k1; have HK := HKn; have BK := BKn; have HR := HRn; clear HKn BKn HRn) | ((with_reducible refine gate_callee (f := 24) rfl ?_); refine goesL_ (some 65) rfl rfl Try.func24 (by kernel_rfl) rfl #[.pointer (some ⟨g, 0, none⟩)] rfl (by (try simp only [List.map_toArray, List.map_cons, List.map_nil]); first | done | rfl) ?_; (with_reducible refine (F1.out.go HR.out).mono ?_); rintro e w2 ⟨rfl, h1, k1⟩; refine ⟨_, rfl, ?_⟩; have HKn := Aside0.mk (keep_trans HK.out k1); have BKn := Aside0.mk (k1.blk BK.out (Nat.ne_of_gt (Nat.lt_of_lt_of_le HGL.out GE.out)) (by simp)); have HRn := Aside0.mk h1; clear HK BK HR h1 k1; have HK := HKn; have BK := BKn; have HR := HRn; clear HKn BKn HRn) | ((with_reducible refine gate_callee (f := 23) rfl ?_); refine goesL_ (some 67) rfl rfl Try.func23 (by kernel_rfl) rfl #[.pointer (some ⟨g, 0, none⟩)] rfl (by (try simp only [List.map_toArray, List.map_cons, List.map_nil]); first | done | rfl) ?_; (with_reducible refine (F2.out.go HR.out).mono ?_); rintro e w3 ⟨rfl, h1, k1⟩; refine ⟨_, rfl, ?_⟩; have HKn := Aside0.mk (keep_trans HK.out k1); have BKn := Aside0.mk (k1.blk BK.out (Nat.ne_of_gt (Nat.lt_of_lt_of_le HGL.out GE.out)) (by simp)); have HRn := Aside0.mk h1; clear HK BK HR h1 k1; have HK := HKn; have BK := BKn; have HR := HRn; clear HKn BKn HRn) | ((with_reducible refine gate_callee (f := 25) rfl ?_); refine goesL_ (some 69) rfl rfl Try.func25 (by kernel_rfl) rfl #[.pointer (some ⟨g, 0, none⟩)] rfl (by (try simp only [List.map_toArray, List.map_cons, List.map_nil]); first | done | rfl) ?_; (with_reducible refine (F3.out.go HR.out).mono ?_); rintro e w4 ⟨rfl, h1, k1⟩; refine ⟨_, rfl, ?_⟩; have HKn := Aside0.mk (keep_trans HK.out k1); have BKn := Aside0.mk (k1.blk BK.out (Nat.ne_of_gt (Nat.lt_of_lt_of_le HGL.out GE.out)) (by simp)); have HRn := Aside0.mk h1; clear HK BK HR h1 k1; have HK := HKn; have BK := BKn; have HR := HRn; clear HKn BKn HRn; obtain ⟨hc0_, hf0_, hc1_, hf1_, hc2_, hf2_, hc3_, hf3_, hc4_, hf4_, hc5_, hf5_, hc6_, hf6_, hc7_, hf7_, hc8_, hf8_, hc9_, hf9_, hc10_, hf10_⟩ := cells11 BK.out))
 have HNE : g ≠ gb := Nat.ne_of_lt (Nat.lt_of_lt_of_le HGL.out GE.out)
 have HLE : W0.heap.size ≤ gb := Nat.le_trans HW0.out GE.out
 exact bodyPost_ret (results_ct rfl _ _ gb 41 #[.int .i64 12, .int .i64 x1, .int .i64 x2, .int .i64 x3, .string ⟨#[]⟩, .slice none 0 0, .int .u16 0, .int .u16 0, .int .u16 0, .int .i64 0, .int .i64 0] (0, 0) _ rfl (ch_blk BK.out _ _ _ _ _ _ _ _ _ _ _) Try.underlying41 rfl (by kernel_rfl)) rfl ⟨_, rfl, (ch_rd HR.out HNE HLE _ _ _ _ _ _ _ _ _ _ _), Kd.R_nil _ _ _ _ _, (ch_keep HK.out GE.out _ _ _ _ _ _ _ _ _ _ _)⟩
set_option maxHeartbeats 8000000 in
set_option maxRecDepth 100000 in
theorem event15 {W0 w : World} {g : Nat} {l : List Int} {n : Int} {s : Bool} (h : RD W0 w g l n s) (c0 : Int)  (l0 : List Int) (s0 : Bool) (h0 : 0 ≤ c0) (hk : c0 % 16 = 15) (F0 : Aside0 (Rdc 23 W0 g l n s (.int .i64 c0) l0 s0)) :
  Calls Try.prog 17 #[.pointer (some ⟨g, 0, none⟩)] w (Evp W0 w g n 0 0 0 0 ⟨#[]⟩ [] false l0 s0) := by
 have HR := Aside0.mk h
 have HGL := Aside0.mk h.lt
 have HW0 := Aside0.mk (show W0.heap.size ≤ w.heap.size from by obtain ⟨A, c, h1, h2, h3, h4, h5, h6⟩ := h; exact h5.size)
 have hk2 : Int.tmod c0 16 = 15 := by rw [Int.tmod_eq_emod_of_nonneg h0]; exact hk
 clear h
 go_enter Try.func17, Try.ntmps17
 go_wp2_with (first | ((with_reducible refine gate_dst (N := 2) rfl ?_); (try (refine gate_guard (by rfl) ?_; dsimp only)); refine box_event ?hg (N := 2) ?hd (cs := #[.int .i64 0, .int .i64 0, .int .i64 0, .int .i64 0, .string ⟨#[]⟩, .slice none 0 0, .int .u16 0, .int .u16 0, .int .u16 0, .int .i64 0, .int .i64 0]) (t := 41) ?hr ?_; (case hd => rfl); (case hg => rfl); (case hr => first | (go_simp; done) | (go_simp; rfl)); intro gb hg wb hbox hb; have HK := Aside0.mk (KeepBut.of_below hb g none); have HR0 := Aside0.mk (HR.out.below hb); clear HR; have HR := HR0; clear HR0; have BK := Aside0.mk hbox; have GE := Aside0.mk (Nat.le_of_eq hg.symm); clear hg hb hbox) | ((with_reducible refine gate_callee (f := 23) rfl ?_); refine goesL_ (some 6) rfl rfl Try.func23 (by kernel_rfl) rfl #[.pointer (some ⟨g, 0, none⟩)] rfl (by (try simp only [List.map_toArray, List.map_cons, List.map_nil]); first | done | rfl) ?_; (with_reducible refine (F0.out.go HR.out).mono ?_); rintro e w1 ⟨rfl, h1, k1⟩; refine ⟨_, rfl, ?_⟩; have HKn := Aside0.mk (keep_trans HK.out k1); have BKn := Aside0.mk (k1.blk BK.out (Nat.ne_of_gt (Nat.lt_of_lt_of_le HGL.out GE.out)) (by simp)); have HRn := Aside0.mk h1; clear HK BK HR h1 k1; have HK := HKn; have BK := BKn; have HR := HRn; clear HKn BKn HRn; obtain ⟨hc0_, hf0_, hc1_, hf1_, hc2_, hf2_, hc3_, hf3_, hc4_, hf4_, hc5_, hf5_, hc6_, hf6_, hc7_, hf7_, hc8_, hf8_, hc9_, hf9_, hc10_, hf10_⟩ := cells11 BK.out))
 have HNE : g ≠ gb := Nat.ne_of_lt (Nat.lt_of_lt_of_le HGL.out GE.out)
 have HLE : W0.heap.size ≤ gb := Nat.le_trans HW0.out GE.out
 exact bodyPost_ret (results_ct rfl _ _ gb 41 #[.int .i64 0, .int .i64 0, .int .i64 0, .int .i64 0, .string ⟨#[]⟩, .slice none 0 0, .int .u16 0, .int .u16 0, .int .u16 0, .int .i64 0, .int .i64 0] (0, 0) _ rfl (ch_blk BK.out _ _ _ _ _ _ _ _ _ _ _) Try.underlying41 rfl (by kernel_rfl)) rfl ⟨_, rfl, (ch_rd HR.out HNE HLE _ _ _ _ _ _ _ _ _ _ _), Kd.R_nil _ _ _ _ _, (ch_keep HK.out GE.out _ _ _ _ _ _ _ _ _ _ _)⟩
def script_Decode.event (l : List Int) (s : Bool) (n : Int) : S41 × Bool × List Int × Bool :=
 let k := Int.tmod (script_Decode.byte l s).1 16; let b := (script_Decode.byte l s).2.1; let s := (script_Decode.byte l s).2.2
 if k = 4 then let x := script_Decode.node b s n; let y := script_Decode.wall x.2.1 x.2.2; (⟨2, x.1, 0, y.1, ⟨#[]⟩, [], z39⟩, true, y.2)
 else if k = 5 ∨ k = 6 ∨ k = 7 then let x := script_Decode.byte b s; (⟨3, 0, x.1, 0, ⟨#[]⟩, [], z39⟩, true, x.2)
 else if k = 8 then let x := script_Decode.byte b s; (⟨4, 0, x.1, 0, ⟨#[]⟩, [], z39⟩, true, x.2)
 else if k = 9 then let x := script_Decode.byte b s; (⟨5, 0, x.1, 0, ⟨#[]⟩, [], z39⟩, true, x.2)
 else if k = 10 then let x := script_Decode.node b s n; let y := script_Decode.text x.2.1 x.2.2; (⟨6, x.1, 0, 0, y.1, [], z39⟩, true, y.2)
 else if k = 11 then let x := script_Decode.node b s n; let y := script_Decode.byte x.2.1 x.2.2; let z := script_Decode.byte y.2.1 y.2.2; (⟨7, x.1, 0, 0, ⟨#[]⟩, [y.1, z.1], z39⟩, true, z.2)
 else if k = 12 then let x := script_Decode.node b s n; (⟨8, x.1, 0, 0, ⟨#[]⟩, [], z39⟩, true, x.2)
 else if k = 13 then let x := script_Decode.node b s n; let y := script_Decode.byte x.2.1 x.2.2; (⟨9, x.1, y.1, 0, ⟨#[]⟩, [], z39⟩, true, y.2)
 else if k = 14 then let x := script_Decode.node b s n; let y := script_Decode.byte x.2.1 x.2.2; let z := script_Decode.wall y.2.1 y.2.2; (⟨12, x.1, y.1, z.1, ⟨#[]⟩, [], z39⟩, true, z.2)
 else if k = 15 then (z41, false, b, s)
 else let x := script_Decode.node b s n; (⟨1, x.1, 0, 0, ⟨#[]⟩, [], z39⟩, true, x.2)
def Evq (W0 w : World) (g : Nat) (n : Int) (E : S41 × Bool × List Int × Bool) (e : Ending) (w' : World) : Prop := Evp W0 w g n E.1.f0 E.1.f1 E.1.f2 E.1.f3 E.1.f4 E.1.f5 E.2.1 E.2.2.1 E.2.2.2 e w'
theorem evq {W0 w : World} {g : Nat} {n : Int} {E E' : S41 × Bool × List Int × Bool} (he : E = E') (h : Calls Try.prog 17 #[.pointer (some ⟨g, 0, none⟩)] w (Evq W0 w g n E')) : Calls Try.prog 17 #[.pointer (some ⟨g, 0, none⟩)] w (Evq W0 w g n E) := he ▸ h
set_option maxHeartbeats 4000000 in
theorem script_Decode.event_calls {W0 w : World} {g : Nat} {l : List Int} {n : Int} {s : Bool} (h : RD W0 w g l n s) : Calls Try.prog 17 #[.pointer (some ⟨g, 0, none⟩)] w (Evq W0 w g n (script_Decode.event l s n)) := by
 have hr := script_Decode.byte_range s h.bytes
 have h0 := hr.1
 have hall : (script_Decode.byte l s).1 % 16 = 0 ∨ (script_Decode.byte l s).1 % 16 = 1 ∨ (script_Decode.byte l s).1 % 16 = 2 ∨ (script_Decode.byte l s).1 % 16 = 3 ∨ (script_Decode.byte l s).1 % 16 = 4 ∨ (script_Decode.byte l s).1 % 16 = 5 ∨ (script_Decode.byte l s).1 % 16 = 6 ∨ (script_Decode.byte l s).1 % 16 = 7 ∨ (script_Decode.byte l s).1 % 16 = 8 ∨ (script_Decode.byte l s).1 % 16 = 9 ∨ (script_Decode.byte l s).1 % 16 = 10 ∨ (script_Decode.byte l s).1 % 16 = 11 ∨ (script_Decode.byte l s).1 % 16 = 12 ∨ (script_Decode.byte l s).1 % 16 = 13 ∨ (script_Decode.byte l s).1 % 16 = 14 ∨ (script_Decode.byte l s).1 % 16 = 15 := by omega
 have ht : Int.tmod (script_Decode.byte l s).1 16 = (script_Decode.byte l s).1 % 16 := Int.tmod_eq_emod_of_nonneg h0
 rcases hall with hk | hk | hk | hk | hk | hk | hk | hk | hk | hk | hk | hk | hk | hk | hk | hk
 ·refine evq (by unfold script_Decode.event; rw [ht, hk]) ?_
  exact event0 h _ _ _ _ _ _ h0 hk ⟨fun W hr => script_Decode.byte_calls hr⟩ ⟨fun W hr => script_Decode.node_calls hr⟩
 ·refine evq (by unfold script_Decode.event; rw [ht, hk]) ?_
  exact event1 h _ _ _ _ _ _ h0 hk ⟨fun W hr => script_Decode.byte_calls hr⟩ ⟨fun W hr => script_Decode.node_calls hr⟩
 ·refine evq (by unfold script_Decode.event; rw [ht, hk]) ?_
  exact event2 h _ _ _ _ _ _ h0 hk ⟨fun W hr => script_Decode.byte_calls hr⟩ ⟨fun W hr => script_Decode.node_calls hr⟩
 ·refine evq (by unfold script_Decode.event; rw [ht, hk]) ?_
  exact event3 h _ _ _ _ _ _ h0 hk ⟨fun W hr => script_Decode.byte_calls hr⟩ ⟨fun W hr => script_Decode.node_calls hr⟩
 ·refine evq (by unfold script_Decode.event; rw [ht, hk]) ?_
  exact event4 h _ _ _ _ _ _ _ _ _ h0 hk ⟨fun W hr => script_Decode.byte_calls hr⟩ ⟨fun W hr => script_Decode.node_calls hr⟩ ⟨fun W hr => script_Decode.wall_calls hr⟩
 ·refine evq (by unfold script_Decode.event; rw [ht, hk]) ?_
  exact event5 h _ _ _ _ _ _ h0 hk ⟨fun W hr => script_Decode.byte_calls hr⟩ ⟨fun W hr => script_Decode.byte_calls hr⟩
 ·refine evq (by unfold script_Decode.event; rw [ht, hk]) ?_
  exact event6 h _ _ _ _ _ _ h0 hk ⟨fun W hr => script_Decode.byte_calls hr⟩ ⟨fun W hr => script_Decode.byte_calls hr⟩
 ·refine evq (by unfold script_Decode.event; rw [ht, hk]) ?_
  exact event7 h _ _ _ _ _ _ h0 hk ⟨fun W hr => script_Decode.byte_calls hr⟩ ⟨fun W hr => script_Decode.byte_calls hr⟩
 ·refine evq (by unfold script_Decode.event; rw [ht, hk]) ?_
  exact event8 h _ _ _ _ _ _ h0 hk ⟨fun W hr => script_Decode.byte_calls hr⟩ ⟨fun W hr => script_Decode.byte_calls hr⟩
 ·refine evq (by unfold script_Decode.event; rw [ht, hk]) ?_
  exact event9 h _ _ _ _ _ _ h0 hk ⟨fun W hr => script_Decode.byte_calls hr⟩ ⟨fun W hr => script_Decode.byte_calls hr⟩
 ·refine evq (by unfold script_Decode.event; rw [ht, hk]) ?_
  exact event10 h _ _ _ _ _ _ _ _ _ h0 hk ⟨fun W hr => script_Decode.byte_calls hr⟩ ⟨fun W hr => script_Decode.node_calls hr⟩ ⟨fun W hr => script_Decode.text_calls hr⟩
 ·refine evq (by unfold script_Decode.event; rw [ht, hk]) ?_
  exact event11 h _ _ _ _ _ _ _ _ _ _ _ _ h0 hk ⟨fun W hr => script_Decode.byte_calls hr⟩ ⟨fun W hr => script_Decode.node_calls hr⟩ ⟨fun W hr => script_Decode.byte_calls hr⟩ ⟨fun W hr => script_Decode.byte_calls hr⟩
 ·refine evq (by unfold script_Decode.event; rw [ht, hk]) ?_
  exact event12 h _ _ _ _ _ _ h0 hk ⟨fun W hr => script_Decode.byte_calls hr⟩ ⟨fun W hr => script_Decode.node_calls hr⟩
 ·refine evq (by unfold script_Decode.event; rw [ht, hk]) ?_
  exact event13 h _ _ _ _ _ _ _ _ _ h0 hk ⟨fun W hr => script_Decode.byte_calls hr⟩ ⟨fun W hr => script_Decode.node_calls hr⟩ ⟨fun W hr => script_Decode.byte_calls hr⟩
 ·refine evq (by unfold script_Decode.event; rw [ht, hk]) ?_
  exact event14 h _ _ _ _ _ _ _ _ _ _ _ _ h0 hk ⟨fun W hr => script_Decode.byte_calls hr⟩ ⟨fun W hr => script_Decode.node_calls hr⟩ ⟨fun W hr => script_Decode.byte_calls hr⟩ ⟨fun W hr => script_Decode.wall_calls hr⟩
 ·refine evq (by unfold script_Decode.event; rw [ht, hk]) ?_
  exact event15 h _ _ _ h0 hk ⟨fun W hr => script_Decode.byte_calls hr⟩
def script_Decode.nodes (n : Int) : Int := if n < 1 then 1 else if n > 9 then 1 else n
def script_Decode.l0 : Nat → List Int → Int → List S41 → Option (List S41)
 | 0, _, _, _ => none
 | k + 1, l, n, acc =>
  if l = [] then some acc
  else if (script_Decode.event l false n).2.2.2 = true then some acc
  else if (script_Decode.event l false n).2.1 = true then (if acc.length < 1000000000 then script_Decode.l0 k (script_Decode.event l false n).2.2.1 n (acc ++ [(script_Decode.event l false n).1]) else none)
  else script_Decode.l0 k (script_Decode.event l false n).2.2.1 n acc
theorem script_Decode.event_f6 (l : List Int) (s : Bool) (n : Int) : (script_Decode.event l s n).1.f6 = z39 := by
 unfold script_Decode.event
 dsimp only
 repeat' split
 all_goals rfl
structure Dec (w : World) (g : Nat) (v6 : Value) (wr : World) (l : List Int) (n : Int) (acc : List S41) : Prop where
 rd : RD w wr g l n false
 row : Kd.S k41 41 wr w.heap.size (fun k_ => k_ ≠ g) v6 acc
theorem RD.flag {W0 w : World} {g : Nat} {l : List Int} {n : Int} {s : Bool} (h : RD W0 w g l n s) : w.cell? ⟨g, 2, none⟩ = some (.bool s) := by
 obtain ⟨A, c, h1, _⟩ := h
 exact (blk_cell h1 2).trans rfl
theorem RD.belowW {W0 w : World} {g : Nat} {l : List Int} {n : Int} {s : Bool} (h : RD W0 w g l n s) : Below W0.heap.size W0 w ∧ W0.heap.size ≤ g := by
 obtain ⟨A, c, h1, h2, h3, h4, h5, h6⟩ := h
 exact ⟨h5, h4⟩
theorem RD.head {W0 w : World} {g : Nat} {l : List Int} {n : Int} {s : Bool} (h : RD W0 w g l n s) : ∃ A c, w.cell? ⟨g, 0, none⟩ = some (.slice A l.length c) := by
 obtain ⟨A, c, h1, _⟩ := h
 exact ⟨A, c, (blk_cell h1 0).trans rfl⟩
theorem RD.grown {W0 w w1 : World} {g : Nat} {l : List Int} {n : Int} {s : Bool} {v : Value} {ok : Nat → Prop} (h : RD W0 w g l n s) (hg : w.grownBy w1 v.ownBlock) (hb : Below W0.heap.size W0 w1) (hne : ∀ k, v.ownBlock = some k → k ≠ g) : RD W0 w1 g l n s := by
 obtain ⟨A, c, h1, h2, h3, h4, h5, h6⟩ := h
 exact ⟨A, c, blk_grown h1 hg (fun e => hne g e.symm rfl), h2, h3, h4, hb, h6⟩
theorem dec_rows {w wr w1 : World} {g : Nat} {v6 vk : Value} {acc : List S41} {kp : List Int} (hv : Kd.S k41 41 wr w.heap.size (fun k_ => k_ ≠ g) v6 acc) (hk : KeepBut wr w1 g none) (hg : g < wr.heap.size) (ho : Kd.R (Kd.int .i64) 3 w1 wr.heap.size (fun _ => True) vk kp) (hb : w.heap.size ≤ wr.heap.size) :
  Kd.S k41 41 w1 w.heap.size (fun k_ => k_ ≠ g ∧ k_ < wr.heap.size) v6 acc ∧ Kd.R (Kd.int .i64) 3 w1 w.heap.size (fun k_ => (k_ ≠ g ∧ some k_ ≠ v6.ownBlock) ∧ wr.heap.size ≤ k_ ∧ k_ < w1.heap.size) vk kp ∧ wr.heap.size ≤ w1.heap.size := by
 obtain ⟨inner, hown⟩ := Kd.S_own hv
 refine ⟨Kd.S_keep (Kd.S_mono (Kd.S_bound hv) (fun k h => ⟨h.1, h.2.2.1⟩)) hk (fun _ h => h.1), Kd.R_lower (Kd.R_mono (Kd.R_bound (Kd.R_new ho hown)) (fun k h => ⟨⟨?_, h.1.2⟩, h.2.1, h.2.2.1⟩)) hb, hk.1⟩
 have := h.2.1
 omega
set_option maxHeartbeats 8000000 in
set_option maxRecDepth 100000 in
theorem script_Decode.calls_mid (k : Nat) (A0 : Option Addr) (c0 : Nat) (l0 : List Int) (a1 : Int) (r : List (S41)) (w : World) (hr0 : Kd.C (Kd.int .u8) w A0 l0.length l0) (hc0 : l0.length ≤ c0) (hby : ∀ x ∈ l0, 0 ≤ x ∧ x < 256) (h1 : ¬ a1 < 1) (h9 : ¬ a1 > 9) (h : script_Decode.l0 k l0 a1 [] = some r) :
  Calls Try.prog 9 #[.slice A0 l0.length c0, .int .i64 a1] w fun e w' => ∃ v0_ : Value, e = .returned (v0_) ∧ Kd.S k41 41 w' w.heap.size (fun _ => True) v0_ r ∧ Below w.heap.size w w' := by
 have HR0 := Aside0.mk hr0
 have HC0 := Aside0.mk hc0
 have HBY := Aside0.mk hby
 have H' := Aside0.mk h
 clear hr0 hc0 hby h
 have e1 : decide (a1 < 1) = false := decide_eq_false h1
 have e2 : decide (9 < a1) = false := decide_eq_false h9
 have e3 : 1 ≤ a1 := by omega
 have e4 : a1 ≤ 9 := by omega
 clear h1 h9
 go_enter Try.func9, Try.ntmps9
 go_wp2_with (first | ((with_reducible refine gate_dst (N := 18) rfl ?_); (try (refine gate_guard (by rfl) ?_; dsimp only)); refine box_event ?hg (N := 18) ?hd (cs := #[.slice A0 l0.length c0, .int .i64 a1, .bool false]) (t := 44) ?hr ?_; (case hd => rfl); (case hg => rfl); (case hr => first | (go_simp; done) | (go_simp; rfl)); intro g hg w0 hbox hb; have HD := Aside0.mk (Dec.mk (w := w) (g := g) (v6 := .slice none 0 0) (wr := w0) (n := a1) (acc := []) ⟨A0, c0, hbox, HC0.out, HR0.out, Nat.le_of_eq hg.symm, hb, HBY.out, by omega, by omega⟩ (Kd.S_nil _ _ _ _ _)); clear hbox hg hb))
 go_loopg [6] k (fun kq v6 wr => ∃ (l : List Int) (acc : List S41), Aside0 (script_Decode.l0 kq l a1 acc = some r) ∧ Aside0 (kq ≤ k) ∧ Aside0 (Dec w g v6 wr l a1 acc))
 case atStart => exact ⟨l0, [], H', ⟨Nat.le_refl _⟩, HD⟩
 case round =>
  clear H' HD
  obtain ⟨l, acc, HA, HK1, HD⟩ := hrel
  cases gk with
  | zero => exact absurd HA.out (by simp [script_Decode.l0])
  | succ k1 =>
   have H := HA.out
   clear HA
   rw [script_Decode.l0] at H
   obtain ⟨A2, c2, hc0_⟩ := HD.out.rd.head
   by_cases hl : l = []
   ·subst hl
    rw [if_pos rfl] at H
    have hr := Option.some.inj H
    subst hr
    clear H
    go_wp2
    go_ret
    exact ⟨_, rfl, Kd.S_mono HD.out.row (fun _ _ => trivial), HD.out.rd.belowW.1⟩
   ·rw [if_neg hl] at H
    have hp : 0 < l.length := List.length_pos_iff.2 hl
    have hp1 : (0 : Int) < (l.length : Int) := by omega
    have hd1 : decide ((0 : Int) < (l.length : Int)) = true := decide_eq_true hp1
    have hd2 : decide (0 < l.length) = true := decide_eq_true hp
    have HE := script_Decode.event_calls HD.out.rd
    have h6 := script_Decode.event_f6 l false a1
    obtain ⟨E, hE⟩ : ∃ E, E = script_Decode.event l false a1 := ⟨_, rfl⟩
    rw [← hE] at H HE h6
    clear hE hl
    obtain ⟨⟨a, b, c, d, t, kp, z⟩, is, l1, s1⟩ := E
    obtain rfl : z = z39 := h6
    try clear h6
    replace H : (if s1 = true then some acc else if is = true then (if acc.length < 1000000000 then script_Decode.l0 k1 l1 a1 (acc ++ [(⟨a, b, c, d, t, kp, z39⟩ : S41)]) else none) else script_Decode.l0 k1 l1 a1 acc) = some r := H
    replace HE : Calls Try.prog 17 #[.pointer (some ⟨g, 0, none⟩)] wr (Evp w wr g a1 a b c d t kp is l1 s1) := HE
    have HE' := Aside0.mk HE
    clear HE
    have HGL := Aside0.mk HD.out.rd.lt
    by_cases c1 : s1 = true
    ·subst c1
     rw [if_pos rfl] at H
     have hr := Option.some.inj H
     subst hr
     clear H
     go_upto_region 7 with (first | ((with_reducible refine gate_callee (f := 17) rfl ?_); refine goesL_ (some 27) rfl rfl Try.func17 (by kernel_rfl) rfl #[.pointer (some ⟨g, 0, none⟩)] rfl (by (try simp only [List.map_toArray, List.map_cons, List.map_nil]); first | done | rfl) ?_; (with_reducible refine (HE'.out).mono ?_); rintro e w1 ⟨vk, rfl, h1, ho, k1_⟩; refine ⟨_, rfl, ?_⟩; have HR1 := Aside0.mk h1; have HK := Aside0.mk k1_; have HRW := Aside0.mk (dec_rows HD.out.row k1_ HGL.out ho HD.out.rd.belowW.1.size); obtain ⟨Ak, ck, rfl⟩ := Kd.R_slice ho; clear h1 ho k1_) | ((with_reducible refine gate_dst (N := 7) rfl ?_); (try (refine gate_guard (by rfl) ?_; dsimp only)); refine box_event ?hg (N := 7) ?hd (cs := #[.int .i64 0, .int .i64 0, .int .i64 0, .int .i64 0, .string ⟨#[]⟩, .slice none 0 0, .int .u16 0, .int .u16 0, .int .u16 0, .int .i64 0, .int .i64 0]) (t := 41) ?hr ?_; (case hd => rfl); (case hg => rfl); (case hr => first | (go_simp; done) | (go_simp; rfl)); intro gb hg wb hbox hb; have HV := Aside0.mk (Kd.S_below HRW.out.1 hb); have HKP := Aside0.mk (Kd.R_below HRW.out.2.1 hb); have HWW := Aside0.mk HRW.out.2.2; have HRB := Aside0.mk (HR1.out.below hb); have HGB := Aside0.mk hg; have BK := Aside0.mk hbox; have hs_ := HRB.out.flag; have hne_ : g ≠ gb := (by rw [hg]; exact Nat.ne_of_lt HR1.out.lt); have hne2_ : gb ≠ g := Ne.symm hne_; obtain ⟨hc0_, hf0_, hc1_, hf1_, hc2_, hf2_, hc3_, hf3_, hc4_, hf4_, hc5_, hf5_, hc6_, hf6_, hc7_, hf7_, hc8_, hf8_, hc9_, hf9_, hc10_, hf10_⟩ := cells11 hbox; clear hg hbox hb))
     have HLE := Aside0.mk (show w.heap.size ≤ gb from by rw [HGB.out]; exact HR1.out.belowW.1.size)
     have HRC := Aside0.mk (show RD w (World.setCell (World.setCell (World.setCell (World.setCell (World.setCell (World.setCell (World.setCell (World.setCell (World.setCell (World.setCell (World.setCell wb ⟨gb, 0, none⟩ (.int .i64 a)) ⟨gb, 1, none⟩ (.int .i64 b)) ⟨gb, 2, none⟩ (.int .i64 c)) ⟨gb, 3, none⟩ (.int .i64 d)) ⟨gb, 4, none⟩ (.string t)) ⟨gb, 5, none⟩ (.slice Ak kp.length ck)) ⟨gb, 6, none⟩ (.int .u16 0)) ⟨gb, 7, none⟩ (.int .u16 0)) ⟨gb, 8, none⟩ (.int .u16 0)) ⟨gb, 9, none⟩ (.int .i64 0)) ⟨gb, 10, none⟩ (.int .i64 0)) g l1 a1 true from (ch_rd HRB.out hne_ HLE.out _ _ _ _ _ _ _ _ _ _ _))
     have HVC := Aside0.mk (show Kd.S k41 41 (World.setCell (World.setCell (World.setCell (World.setCell (World.setCell (World.setCell (World.setCell (World.setCell (World.setCell (World.setCell (World.setCell wb ⟨gb, 0, none⟩ (.int .i64 a)) ⟨gb, 1, none⟩ (.int .i64 b)) ⟨gb, 2, none⟩ (.int .i64 c)) ⟨gb, 3, none⟩ (.int .i64 d)) ⟨gb, 4, none⟩ (.string t)) ⟨gb, 5, none⟩ (.slice Ak kp.length ck)) ⟨gb, 6, none⟩ (.int .u16 0)) ⟨gb, 7, none⟩ (.int .u16 0)) ⟨gb, 8, none⟩ (.int .u16 0)) ⟨gb, 9, none⟩ (.int .i64 0)) ⟨gb, 10, none⟩ (.int .i64 0)) w.heap.size (fun k_ => k_ ≠ g ∧ k_ < wr.heap.size) u6 acc from (ch_S HV.out (fun k_ h_ => by have := h_.2; have := HGB.out; have := HWW.out; omega) _ _ _ _ _ _ _ _ _ _ _))
     have HKC := Aside0.mk (show Kd.R (Kd.int .i64) 3 (World.setCell (World.setCell (World.setCell (World.setCell (World.setCell (World.setCell (World.setCell (World.setCell (World.setCell (World.setCell (World.setCell wb ⟨gb, 0, none⟩ (.int .i64 a)) ⟨gb, 1, none⟩ (.int .i64 b)) ⟨gb, 2, none⟩ (.int .i64 c)) ⟨gb, 3, none⟩ (.int .i64 d)) ⟨gb, 4, none⟩ (.string t)) ⟨gb, 5, none⟩ (.slice Ak kp.length ck)) ⟨gb, 6, none⟩ (.int .u16 0)) ⟨gb, 7, none⟩ (.int .u16 0)) ⟨gb, 8, none⟩ (.int .u16 0)) ⟨gb, 9, none⟩ (.int .i64 0)) ⟨gb, 10, none⟩ (.int .i64 0)) w.heap.size (fun k_ => (k_ ≠ g ∧ some k_ ≠ u6.ownBlock) ∧ wr.heap.size ≤ k_ ∧ k_ < w1.heap.size) (.slice Ak kp.length ck) kp from (ch_R HKP.out (fun k_ h_ => by have := h_.2.2; have := HGB.out; omega) _ _ _ _ _ _ _ _ _ _ _))
     have BKC := Aside0.mk (show (World.heap (World.setCell (World.setCell (World.setCell (World.setCell (World.setCell (World.setCell (World.setCell (World.setCell (World.setCell (World.setCell (World.setCell wb ⟨gb, 0, none⟩ (.int .i64 a)) ⟨gb, 1, none⟩ (.int .i64 b)) ⟨gb, 2, none⟩ (.int .i64 c)) ⟨gb, 3, none⟩ (.int .i64 d)) ⟨gb, 4, none⟩ (.string t)) ⟨gb, 5, none⟩ (.slice Ak kp.length ck)) ⟨gb, 6, none⟩ (.int .u16 0)) ⟨gb, 7, none⟩ (.int .u16 0)) ⟨gb, 8, none⟩ (.int .u16 0)) ⟨gb, 9, none⟩ (.int .i64 0)) ⟨gb, 10, none⟩ (.int .i64 0)))[gb]? = some (.cells #[.int .i64 a, .int .i64 b, .int .i64 c, .int .i64 d, .string t, .slice Ak kp.length ck, .int .u16 0, .int .u16 0, .int .u16 0, .int .i64 0, .int .i64 0] 41 (0, 0)) from (ch_blk BK.out _ _ _ _ _ _ _ _ _ _ _))
     clear hs_ hne_ hne2_ HV HKP HRB BK hc0_ hf0_ hc1_ hf1_ hc2_ hf2_ hc3_ hf3_ hc4_ hf4_ hc5_ hf5_ hc6_ hf6_ hc7_ hf7_ hc8_ hf8_ hc9_ hf9_ hc10_ hf10_
     generalize (World.setCell (World.setCell (World.setCell (World.setCell (World.setCell (World.setCell (World.setCell (World.setCell (World.setCell (World.setCell (World.setCell wb ⟨gb, 0, none⟩ (.int .i64 a)) ⟨gb, 1, none⟩ (.int .i64 b)) ⟨gb, 2, none⟩ (.int .i64 c)) ⟨gb, 3, none⟩ (.int .i64 d)) ⟨gb, 4, none⟩ (.string t)) ⟨gb, 5, none⟩ (.slice Ak kp.length ck)) ⟨gb, 6, none⟩ (.int .u16 0)) ⟨gb, 7, none⟩ (.int .u16 0)) ⟨gb, 8, none⟩ (.int .u16 0)) ⟨gb, 9, none⟩ (.int .i64 0)) ⟨gb, 10, none⟩ (.int .i64 0)) = w2 at HRC HVC HKC BKC ⊢
     have hs2_ := HRC.out.flag
     obtain ⟨hx0_, _, hx1_, _, hx2_, _, hx3_, _, hx4_, _, hx5_, _, hx6_, _, hx7_, _, hx8_, _, hx9_, _, hx10_, _⟩ := cells11 BKC.out
     go_wp2
     go_ret
     exact ⟨_, rfl, Kd.S_mono HVC.out (fun _ _ => trivial), HRC.out.belowW.1⟩
    ·obtain rfl : s1 = false := Bool.eq_false_iff.mpr c1
     clear c1
     rw [if_neg (by decide)] at H
     by_cases c2 : is = true
     ·subst c2
      rw [if_pos rfl] at H
      by_cases c3 : acc.length < 1000000000
      ·rw [if_pos c3] at H
       have HA := Aside0.mk H
       have HL := Aside0.mk c3
       clear H c3
       go_upto_region 7 with (first | ((with_reducible refine gate_callee (f := 17) rfl ?_); refine goesL_ (some 27) rfl rfl Try.func17 (by kernel_rfl) rfl #[.pointer (some ⟨g, 0, none⟩)] rfl (by (try simp only [List.map_toArray, List.map_cons, List.map_nil]); first | done | rfl) ?_; (with_reducible refine (HE'.out).mono ?_); rintro e w1 ⟨vk, rfl, h1, ho, k1_⟩; refine ⟨_, rfl, ?_⟩; have HR1 := Aside0.mk h1; have HK := Aside0.mk k1_; have HRW := Aside0.mk (dec_rows HD.out.row k1_ HGL.out ho HD.out.rd.belowW.1.size); obtain ⟨Ak, ck, rfl⟩ := Kd.R_slice ho; clear h1 ho k1_) | ((with_reducible refine gate_dst (N := 7) rfl ?_); (try (refine gate_guard (by rfl) ?_; dsimp only)); refine box_event ?hg (N := 7) ?hd (cs := #[.int .i64 0, .int .i64 0, .int .i64 0, .int .i64 0, .string ⟨#[]⟩, .slice none 0 0, .int .u16 0, .int .u16 0, .int .u16 0, .int .i64 0, .int .i64 0]) (t := 41) ?hr ?_; (case hd => rfl); (case hg => rfl); (case hr => first | (go_simp; done) | (go_simp; rfl)); intro gb hg wb hbox hb; have HV := Aside0.mk (Kd.S_below HRW.out.1 hb); have HKP := Aside0.mk (Kd.R_below HRW.out.2.1 hb); have HWW := Aside0.mk HRW.out.2.2; have HRB := Aside0.mk (HR1.out.below hb); have HGB := Aside0.mk hg; have BK := Aside0.mk hbox; have hs_ := HRB.out.flag; have hne_ : g ≠ gb := (by rw [hg]; exact Nat.ne_of_lt HR1.out.lt); have hne2_ : gb ≠ g := Ne.symm hne_; obtain ⟨hc0_, hf0_, hc1_, hf1_, hc2_, hf2_, hc3_, hf3_, hc4_, hf4_, hc5_, hf5_, hc6_, hf6_, hc7_, hf7_, hc8_, hf8_, hc9_, hf9_, hc10_, hf10_⟩ := cells11 hbox; clear hg hbox hb))
       have HLE := Aside0.mk (show w.heap.size ≤ gb from by rw [HGB.out]; exact HR1.out.belowW.1.size)
       have HRC := Aside0.mk (show RD w (World.setCell (World.setCell (World.setCell (World.setCell (World.setCell (World.setCell (World.setCell (World.setCell (World.setCell (World.setCell (World.setCell wb ⟨gb, 0, none⟩ (.int .i64 a)) ⟨gb, 1, none⟩ (.int .i64 b)) ⟨gb, 2, none⟩ (.int .i64 c)) ⟨gb, 3, none⟩ (.int .i64 d)) ⟨gb, 4, none⟩ (.string t)) ⟨gb, 5, none⟩ (.slice Ak kp.length ck)) ⟨gb, 6, none⟩ (.int .u16 0)) ⟨gb, 7, none⟩ (.int .u16 0)) ⟨gb, 8, none⟩ (.int .u16 0)) ⟨gb, 9, none⟩ (.int .i64 0)) ⟨gb, 10, none⟩ (.int .i64 0)) g l1 a1 false from (ch_rd HRB.out hne_ HLE.out _ _ _ _ _ _ _ _ _ _ _))
       have HVC := Aside0.mk (show Kd.S k41 41 (World.setCell (World.setCell (World.setCell (World.setCell (World.setCell (World.setCell (World.setCell (World.setCell (World.setCell (World.setCell (World.setCell wb ⟨gb, 0, none⟩ (.int .i64 a)) ⟨gb, 1, none⟩ (.int .i64 b)) ⟨gb, 2, none⟩ (.int .i64 c)) ⟨gb, 3, none⟩ (.int .i64 d)) ⟨gb, 4, none⟩ (.string t)) ⟨gb, 5, none⟩ (.slice Ak kp.length ck)) ⟨gb, 6, none⟩ (.int .u16 0)) ⟨gb, 7, none⟩ (.int .u16 0)) ⟨gb, 8, none⟩ (.int .u16 0)) ⟨gb, 9, none⟩ (.int .i64 0)) ⟨gb, 10, none⟩ (.int .i64 0)) w.heap.size (fun k_ => k_ ≠ g ∧ k_ < wr.heap.size) u6 acc from (ch_S HV.out (fun k_ h_ => by have := h_.2; have := HGB.out; have := HWW.out; omega) _ _ _ _ _ _ _ _ _ _ _))
       have HKC := Aside0.mk (show Kd.R (Kd.int .i64) 3 (World.setCell (World.setCell (World.setCell (World.setCell (World.setCell (World.setCell (World.setCell (World.setCell (World.setCell (World.setCell (World.setCell wb ⟨gb, 0, none⟩ (.int .i64 a)) ⟨gb, 1, none⟩ (.int .i64 b)) ⟨gb, 2, none⟩ (.int .i64 c)) ⟨gb, 3, none⟩ (.int .i64 d)) ⟨gb, 4, none⟩ (.string t)) ⟨gb, 5, none⟩ (.slice Ak kp.length ck)) ⟨gb, 6, none⟩ (.int .u16 0)) ⟨gb, 7, none⟩ (.int .u16 0)) ⟨gb, 8, none⟩ (.int .u16 0)) ⟨gb, 9, none⟩ (.int .i64 0)) ⟨gb, 10, none⟩ (.int .i64 0)) w.heap.size (fun k_ => (k_ ≠ g ∧ some k_ ≠ u6.ownBlock) ∧ wr.heap.size ≤ k_ ∧ k_ < w1.heap.size) (.slice Ak kp.length ck) kp from (ch_R HKP.out (fun k_ h_ => by have := h_.2.2; have := HGB.out; omega) _ _ _ _ _ _ _ _ _ _ _))
       have BKC := Aside0.mk (show (World.heap (World.setCell (World.setCell (World.setCell (World.setCell (World.setCell (World.setCell (World.setCell (World.setCell (World.setCell (World.setCell (World.setCell wb ⟨gb, 0, none⟩ (.int .i64 a)) ⟨gb, 1, none⟩ (.int .i64 b)) ⟨gb, 2, none⟩ (.int .i64 c)) ⟨gb, 3, none⟩ (.int .i64 d)) ⟨gb, 4, none⟩ (.string t)) ⟨gb, 5, none⟩ (.slice Ak kp.length ck)) ⟨gb, 6, none⟩ (.int .u16 0)) ⟨gb, 7, none⟩ (.int .u16 0)) ⟨gb, 8, none⟩ (.int .u16 0)) ⟨gb, 9, none⟩ (.int .i64 0)) ⟨gb, 10, none⟩ (.int .i64 0)))[gb]? = some (.cells #[.int .i64 a, .int .i64 b, .int .i64 c, .int .i64 d, .string t, .slice Ak kp.length ck, .int .u16 0, .int .u16 0, .int .u16 0, .int .i64 0, .int .i64 0] 41 (0, 0)) from (ch_blk BK.out _ _ _ _ _ _ _ _ _ _ _))
       clear hs_ hne_ hne2_ HV HKP HRB BK hc0_ hf0_ hc1_ hf1_ hc2_ hf2_ hc3_ hf3_ hc4_ hf4_ hc5_ hf5_ hc6_ hf6_ hc7_ hf7_ hc8_ hf8_ hc9_ hf9_ hc10_ hf10_
       generalize (World.setCell (World.setCell (World.setCell (World.setCell (World.setCell (World.setCell (World.setCell (World.setCell (World.setCell (World.setCell (World.setCell wb ⟨gb, 0, none⟩ (.int .i64 a)) ⟨gb, 1, none⟩ (.int .i64 b)) ⟨gb, 2, none⟩ (.int .i64 c)) ⟨gb, 3, none⟩ (.int .i64 d)) ⟨gb, 4, none⟩ (.string t)) ⟨gb, 5, none⟩ (.slice Ak kp.length ck)) ⟨gb, 6, none⟩ (.int .u16 0)) ⟨gb, 7, none⟩ (.int .u16 0)) ⟨gb, 8, none⟩ (.int .u16 0)) ⟨gb, 9, none⟩ (.int .i64 0)) ⟨gb, 10, none⟩ (.int .i64 0)) = w2 at HRC HVC HKC BKC ⊢
       have hs2_ := HRC.out.flag
       obtain ⟨hx0_, _, hx1_, _, hx2_, _, hx3_, _, hx4_, _, hx5_, _, hx6_, _, hx7_, _, hx8_, _, hx9_, _, hx10_, _⟩ := cells11 BKC.out
       go_wp2_with (first | ((with_reducible refine gate_builtin (b := .append) (xs := #[.tmp 35, .tmp 37]) rfl ?_); at_builtin; refine Kd.S_append k41 (w0 := w) w.heap.size rfl (.tmp 35) (.tmp 37) 25 41 (.agg #[(.int .i64 0), (.int .i64 0), (.int .i64 0), (.int .i64 0), (.string ⟨#[]⟩), (.slice none 0 0), (.int .u16 0), (.int .u16 0), (.int .u16 0), (.int .i64 0), (.int .i64 0)]) 96 rfl Try.underlying25 info41 rfl (by decide) (by omega) u6 acc (⟨a, b, c, d, t, kp, z39⟩ : S41) [.int .i64 a, .int .i64 b, .int .i64 c, .int .i64 d, .string t, .slice Ak kp.length ck, .int .u16 0, .int .u16 0, .int .u16 0, .int .i64 0, .int .i64 0] (fun k_ => k_ ≠ g) (fun k_ => some k_ = (.slice Ak kp.length ck : Value).ownBlock) rfl rfl ?aP (fun k_ hk => (HKC.out.1 k_ hk.symm).1) ?aF ?aO ?aB ?aS ?aL ?_; (case aP => exact k41_mkM _ _ _ (⟨a, b, c, d, t, kp, z39⟩ : S41) (Kd.R_tight rfl HKC.out)); (case aF => exact (fun k_ hk_ => Nat.ne_of_gt (Nat.lt_of_lt_of_le HRC.out.lt hk_))); (case aO => exact Kd.S_mono HVC.out (fun k_ h_ => ⟨h_.1, fun e_ => absurd (HKC.out.1 k_ e_.symm).2.1 (Nat.not_le.2 h_.2)⟩)); (case aB => exact HRC.out.belowW.1); (case aS => exact HRC.out.belowW.1.size); (case aL => have := HL.out; omega); intro v1 wq ho2 hb2 hg2 hat2; have HO2 := Aside0.mk ho2; have HB2 := Aside0.mk hb2; have HG2 := Aside0.mk hg2; clear ho2 hb2 hg2 hat2))
       go_roundg k1
       case measure => have := HK1.out; omega
       case rel => exact ⟨l1, _, HA, ⟨by have := HK1.out; omega⟩, ⟨HRC.out.grown (ok := fun _ => True) HG2.out HB2.out (fun k_ hk_ => (Kd.S_R HVC.out).1 k_ hk_ |>.1), HO2.out⟩⟩
      ·rw [if_neg c3] at H
       cases H
     ·obtain rfl : is = false := Bool.eq_false_iff.mpr c2
      clear c2
      rw [if_neg (by decide)] at H
      have HA := Aside0.mk H
      clear H
      go_upto_region 7 with (first | ((with_reducible refine gate_callee (f := 17) rfl ?_); refine goesL_ (some 27) rfl rfl Try.func17 (by kernel_rfl) rfl #[.pointer (some ⟨g, 0, none⟩)] rfl (by (try simp only [List.map_toArray, List.map_cons, List.map_nil]); first | done | rfl) ?_; (with_reducible refine (HE'.out).mono ?_); rintro e w1 ⟨vk, rfl, h1, ho, k1_⟩; refine ⟨_, rfl, ?_⟩; have HR1 := Aside0.mk h1; have HK := Aside0.mk k1_; have HRW := Aside0.mk (dec_rows HD.out.row k1_ HGL.out ho HD.out.rd.belowW.1.size); obtain ⟨Ak, ck, rfl⟩ := Kd.R_slice ho; clear h1 ho k1_) | ((with_reducible refine gate_dst (N := 7) rfl ?_); (try (refine gate_guard (by rfl) ?_; dsimp only)); refine box_event ?hg (N := 7) ?hd (cs := #[.int .i64 0, .int .i64 0, .int .i64 0, .int .i64 0, .string ⟨#[]⟩, .slice none 0 0, .int .u16 0, .int .u16 0, .int .u16 0, .int .i64 0, .int .i64 0]) (t := 41) ?hr ?_; (case hd => rfl); (case hg => rfl); (case hr => first | (go_simp; done) | (go_simp; rfl)); intro gb hg wb hbox hb; have HV := Aside0.mk (Kd.S_below HRW.out.1 hb); have HKP := Aside0.mk (Kd.R_below HRW.out.2.1 hb); have HWW := Aside0.mk HRW.out.2.2; have HRB := Aside0.mk (HR1.out.below hb); have HGB := Aside0.mk hg; have BK := Aside0.mk hbox; have hs_ := HRB.out.flag; have hne_ : g ≠ gb := (by rw [hg]; exact Nat.ne_of_lt HR1.out.lt); have hne2_ : gb ≠ g := Ne.symm hne_; obtain ⟨hc0_, hf0_, hc1_, hf1_, hc2_, hf2_, hc3_, hf3_, hc4_, hf4_, hc5_, hf5_, hc6_, hf6_, hc7_, hf7_, hc8_, hf8_, hc9_, hf9_, hc10_, hf10_⟩ := cells11 hbox; clear hg hbox hb))
      have HLE := Aside0.mk (show w.heap.size ≤ gb from by rw [HGB.out]; exact HR1.out.belowW.1.size)
      have HRC := Aside0.mk (show RD w (World.setCell (World.setCell (World.setCell (World.setCell (World.setCell (World.setCell (World.setCell (World.setCell (World.setCell (World.setCell (World.setCell wb ⟨gb, 0, none⟩ (.int .i64 a)) ⟨gb, 1, none⟩ (.int .i64 b)) ⟨gb, 2, none⟩ (.int .i64 c)) ⟨gb, 3, none⟩ (.int .i64 d)) ⟨gb, 4, none⟩ (.string t)) ⟨gb, 5, none⟩ (.slice Ak kp.length ck)) ⟨gb, 6, none⟩ (.int .u16 0)) ⟨gb, 7, none⟩ (.int .u16 0)) ⟨gb, 8, none⟩ (.int .u16 0)) ⟨gb, 9, none⟩ (.int .i64 0)) ⟨gb, 10, none⟩ (.int .i64 0)) g l1 a1 false from (ch_rd HRB.out hne_ HLE.out _ _ _ _ _ _ _ _ _ _ _))
      have HVC := Aside0.mk (show Kd.S k41 41 (World.setCell (World.setCell (World.setCell (World.setCell (World.setCell (World.setCell (World.setCell (World.setCell (World.setCell (World.setCell (World.setCell wb ⟨gb, 0, none⟩ (.int .i64 a)) ⟨gb, 1, none⟩ (.int .i64 b)) ⟨gb, 2, none⟩ (.int .i64 c)) ⟨gb, 3, none⟩ (.int .i64 d)) ⟨gb, 4, none⟩ (.string t)) ⟨gb, 5, none⟩ (.slice Ak kp.length ck)) ⟨gb, 6, none⟩ (.int .u16 0)) ⟨gb, 7, none⟩ (.int .u16 0)) ⟨gb, 8, none⟩ (.int .u16 0)) ⟨gb, 9, none⟩ (.int .i64 0)) ⟨gb, 10, none⟩ (.int .i64 0)) w.heap.size (fun k_ => k_ ≠ g ∧ k_ < wr.heap.size) u6 acc from (ch_S HV.out (fun k_ h_ => by have := h_.2; have := HGB.out; have := HWW.out; omega) _ _ _ _ _ _ _ _ _ _ _))
      have HKC := Aside0.mk (show Kd.R (Kd.int .i64) 3 (World.setCell (World.setCell (World.setCell (World.setCell (World.setCell (World.setCell (World.setCell (World.setCell (World.setCell (World.setCell (World.setCell wb ⟨gb, 0, none⟩ (.int .i64 a)) ⟨gb, 1, none⟩ (.int .i64 b)) ⟨gb, 2, none⟩ (.int .i64 c)) ⟨gb, 3, none⟩ (.int .i64 d)) ⟨gb, 4, none⟩ (.string t)) ⟨gb, 5, none⟩ (.slice Ak kp.length ck)) ⟨gb, 6, none⟩ (.int .u16 0)) ⟨gb, 7, none⟩ (.int .u16 0)) ⟨gb, 8, none⟩ (.int .u16 0)) ⟨gb, 9, none⟩ (.int .i64 0)) ⟨gb, 10, none⟩ (.int .i64 0)) w.heap.size (fun k_ => (k_ ≠ g ∧ some k_ ≠ u6.ownBlock) ∧ wr.heap.size ≤ k_ ∧ k_ < w1.heap.size) (.slice Ak kp.length ck) kp from (ch_R HKP.out (fun k_ h_ => by have := h_.2.2; have := HGB.out; omega) _ _ _ _ _ _ _ _ _ _ _))
      have BKC := Aside0.mk (show (World.heap (World.setCell (World.setCell (World.setCell (World.setCell (World.setCell (World.setCell (World.setCell (World.setCell (World.setCell (World.setCell (World.setCell wb ⟨gb, 0, none⟩ (.int .i64 a)) ⟨gb, 1, none⟩ (.int .i64 b)) ⟨gb, 2, none⟩ (.int .i64 c)) ⟨gb, 3, none⟩ (.int .i64 d)) ⟨gb, 4, none⟩ (.string t)) ⟨gb, 5, none⟩ (.slice Ak kp.length ck)) ⟨gb, 6, none⟩ (.int .u16 0)) ⟨gb, 7, none⟩ (.int .u16 0)) ⟨gb, 8, none⟩ (.int .u16 0)) ⟨gb, 9, none⟩ (.int .i64 0)) ⟨gb, 10, none⟩ (.int .i64 0)))[gb]? = some (.cells #[.int .i64 a, .int .i64 b, .int .i64 c, .int .i64 d, .string t, .slice Ak kp.length ck, .int .u16 0, .int .u16 0, .int .u16 0, .int .i64 0, .int .i64 0] 41 (0, 0)) from (ch_blk BK.out _ _ _ _ _ _ _ _ _ _ _))
      clear hs_ hne_ hne2_ HV HKP HRB BK hc0_ hf0_ hc1_ hf1_ hc2_ hf2_ hc3_ hf3_ hc4_ hf4_ hc5_ hf5_ hc6_ hf6_ hc7_ hf7_ hc8_ hf8_ hc9_ hf9_ hc10_ hf10_
      generalize (World.setCell (World.setCell (World.setCell (World.setCell (World.setCell (World.setCell (World.setCell (World.setCell (World.setCell (World.setCell (World.setCell wb ⟨gb, 0, none⟩ (.int .i64 a)) ⟨gb, 1, none⟩ (.int .i64 b)) ⟨gb, 2, none⟩ (.int .i64 c)) ⟨gb, 3, none⟩ (.int .i64 d)) ⟨gb, 4, none⟩ (.string t)) ⟨gb, 5, none⟩ (.slice Ak kp.length ck)) ⟨gb, 6, none⟩ (.int .u16 0)) ⟨gb, 7, none⟩ (.int .u16 0)) ⟨gb, 8, none⟩ (.int .u16 0)) ⟨gb, 9, none⟩ (.int .i64 0)) ⟨gb, 10, none⟩ (.int .i64 0)) = w2 at HRC HVC HKC BKC ⊢
      have hs2_ := HRC.out.flag
      obtain ⟨hx0_, _, hx1_, _, hx2_, _, hx3_, _, hx4_, _, hx5_, _, hx6_, _, hx7_, _, hx8_, _, hx9_, _, hx10_, _⟩ := cells11 BKC.out
      go_wp2
      go_roundg k1
      case measure => have := HK1.out; omega
      case rel => exact ⟨l1, acc, HA, ⟨by have := HK1.out; omega⟩, ⟨HRC.out, Kd.S_mono HVC.out (fun _ h_ => h_.1)⟩⟩
set_option maxHeartbeats 8000000 in
set_option maxRecDepth 100000 in
theorem script_Decode.calls_lo (k : Nat) (A0 : Option Addr) (c0 : Nat) (l0 : List Int) (a1 : Int) (r : List (S41)) (w : World) (hr0 : Kd.C (Kd.int .u8) w A0 l0.length l0) (hc0 : l0.length ≤ c0) (hby : ∀ x ∈ l0, 0 ≤ x ∧ x < 256) (h1 : a1 < 1) (h : script_Decode.l0 k l0 1 [] = some r) :
  Calls Try.prog 9 #[.slice A0 l0.length c0, .int .i64 a1] w fun e w' => ∃ v0_ : Value, e = .returned (v0_) ∧ Kd.S k41 41 w' w.heap.size (fun _ => True) v0_ r ∧ Below w.heap.size w w' := by
 have HR0 := Aside0.mk hr0
 have HC0 := Aside0.mk hc0
 have HBY := Aside0.mk hby
 have H' := Aside0.mk h
 clear hr0 hc0 hby h
 have e1 : decide (a1 < 1) = true := decide_eq_true h1
 clear h1
 go_enter Try.func9, Try.ntmps9
 go_wp2_with (first | ((with_reducible refine gate_dst (N := 18) rfl ?_); (try (refine gate_guard (by rfl) ?_; dsimp only)); refine box_event ?hg (N := 18) ?hd (cs := #[.slice A0 l0.length c0, .int .i64 1, .bool false]) (t := 44) ?hr ?_; (case hd => rfl); (case hg => rfl); (case hr => first | (go_simp; done) | (go_simp; rfl)); intro g hg w0 hbox hb; have HD := Aside0.mk (Dec.mk (w := w) (g := g) (v6 := .slice none 0 0) (wr := w0) (n := 1) (acc := []) ⟨A0, c0, hbox, HC0.out, HR0.out, Nat.le_of_eq hg.symm, hb, HBY.out, by omega, by omega⟩ (Kd.S_nil _ _ _ _ _)); clear hbox hg hb))
 go_loopg [6] k (fun kq v6 wr => ∃ (l : List Int) (acc : List S41), Aside0 (script_Decode.l0 kq l 1 acc = some r) ∧ Aside0 (kq ≤ k) ∧ Aside0 (Dec w g v6 wr l 1 acc))
 case atStart => exact ⟨l0, [], H', ⟨Nat.le_refl _⟩, HD⟩
 case round =>
  clear H' HD
  obtain ⟨l, acc, HA, HK1, HD⟩ := hrel
  cases gk with
  | zero => exact absurd HA.out (by simp [script_Decode.l0])
  | succ k1 =>
   have H := HA.out
   clear HA
   rw [script_Decode.l0] at H
   obtain ⟨A2, c2, hc0_⟩ := HD.out.rd.head
   by_cases hl : l = []
   ·subst hl
    rw [if_pos rfl] at H
    have hr := Option.some.inj H
    subst hr
    clear H
    go_wp2
    go_ret
    exact ⟨_, rfl, Kd.S_mono HD.out.row (fun _ _ => trivial), HD.out.rd.belowW.1⟩
   ·rw [if_neg hl] at H
    have hp : 0 < l.length := List.length_pos_iff.2 hl
    have hp1 : (0 : Int) < (l.length : Int) := by omega
    have hd1 : decide ((0 : Int) < (l.length : Int)) = true := decide_eq_true hp1
    have hd2 : decide (0 < l.length) = true := decide_eq_true hp
    have HE := script_Decode.event_calls HD.out.rd
    have h6 := script_Decode.event_f6 l false 1
    obtain ⟨E, hE⟩ : ∃ E, E = script_Decode.event l false 1 := ⟨_, rfl⟩
    rw [← hE] at H HE h6
    clear hE hl
    obtain ⟨⟨a, b, c, d, t, kp, z⟩, is, l1, s1⟩ := E
    obtain rfl : z = z39 := h6
    try clear h6
    replace H : (if s1 = true then some acc else if is = true then (if acc.length < 1000000000 then script_Decode.l0 k1 l1 1 (acc ++ [(⟨a, b, c, d, t, kp, z39⟩ : S41)]) else none) else script_Decode.l0 k1 l1 1 acc) = some r := H
    replace HE : Calls Try.prog 17 #[.pointer (some ⟨g, 0, none⟩)] wr (Evp w wr g 1 a b c d t kp is l1 s1) := HE
    have HE' := Aside0.mk HE
    clear HE
    have HGL := Aside0.mk HD.out.rd.lt
    by_cases c1 : s1 = true
    ·subst c1
     rw [if_pos rfl] at H
     have hr := Option.some.inj H
     subst hr
     clear H
     go_upto_region 7 with (first | ((with_reducible refine gate_callee (f := 17) rfl ?_); refine goesL_ (some 27) rfl rfl Try.func17 (by kernel_rfl) rfl #[.pointer (some ⟨g, 0, none⟩)] rfl (by (try simp only [List.map_toArray, List.map_cons, List.map_nil]); first | done | rfl) ?_; (with_reducible refine (HE'.out).mono ?_); rintro e w1 ⟨vk, rfl, h1, ho, k1_⟩; refine ⟨_, rfl, ?_⟩; have HR1 := Aside0.mk h1; have HK := Aside0.mk k1_; have HRW := Aside0.mk (dec_rows HD.out.row k1_ HGL.out ho HD.out.rd.belowW.1.size); obtain ⟨Ak, ck, rfl⟩ := Kd.R_slice ho; clear h1 ho k1_) | ((with_reducible refine gate_dst (N := 7) rfl ?_); (try (refine gate_guard (by rfl) ?_; dsimp only)); refine box_event ?hg (N := 7) ?hd (cs := #[.int .i64 0, .int .i64 0, .int .i64 0, .int .i64 0, .string ⟨#[]⟩, .slice none 0 0, .int .u16 0, .int .u16 0, .int .u16 0, .int .i64 0, .int .i64 0]) (t := 41) ?hr ?_; (case hd => rfl); (case hg => rfl); (case hr => first | (go_simp; done) | (go_simp; rfl)); intro gb hg wb hbox hb; have HV := Aside0.mk (Kd.S_below HRW.out.1 hb); have HKP := Aside0.mk (Kd.R_below HRW.out.2.1 hb); have HWW := Aside0.mk HRW.out.2.2; have HRB := Aside0.mk (HR1.out.below hb); have HGB := Aside0.mk hg; have BK := Aside0.mk hbox; have hs_ := HRB.out.flag; have hne_ : g ≠ gb := (by rw [hg]; exact Nat.ne_of_lt HR1.out.lt); have hne2_ : gb ≠ g := Ne.symm hne_; obtain ⟨hc0_, hf0_, hc1_, hf1_, hc2_, hf2_, hc3_, hf3_, hc4_, hf4_, hc5_, hf5_, hc6_, hf6_, hc7_, hf7_, hc8_, hf8_, hc9_, hf9_, hc10_, hf10_⟩ := cells11 hbox; clear hg hbox hb))
     have HLE := Aside0.mk (show w.heap.size ≤ gb from by rw [HGB.out]; exact HR1.out.belowW.1.size)
     have HRC := Aside0.mk (show RD w (World.setCell (World.setCell (World.setCell (World.setCell (World.setCell (World.setCell (World.setCell (World.setCell (World.setCell (World.setCell (World.setCell wb ⟨gb, 0, none⟩ (.int .i64 a)) ⟨gb, 1, none⟩ (.int .i64 b)) ⟨gb, 2, none⟩ (.int .i64 c)) ⟨gb, 3, none⟩ (.int .i64 d)) ⟨gb, 4, none⟩ (.string t)) ⟨gb, 5, none⟩ (.slice Ak kp.length ck)) ⟨gb, 6, none⟩ (.int .u16 0)) ⟨gb, 7, none⟩ (.int .u16 0)) ⟨gb, 8, none⟩ (.int .u16 0)) ⟨gb, 9, none⟩ (.int .i64 0)) ⟨gb, 10, none⟩ (.int .i64 0)) g l1 1 true from (ch_rd HRB.out hne_ HLE.out _ _ _ _ _ _ _ _ _ _ _))
     have HVC := Aside0.mk (show Kd.S k41 41 (World.setCell (World.setCell (World.setCell (World.setCell (World.setCell (World.setCell (World.setCell (World.setCell (World.setCell (World.setCell (World.setCell wb ⟨gb, 0, none⟩ (.int .i64 a)) ⟨gb, 1, none⟩ (.int .i64 b)) ⟨gb, 2, none⟩ (.int .i64 c)) ⟨gb, 3, none⟩ (.int .i64 d)) ⟨gb, 4, none⟩ (.string t)) ⟨gb, 5, none⟩ (.slice Ak kp.length ck)) ⟨gb, 6, none⟩ (.int .u16 0)) ⟨gb, 7, none⟩ (.int .u16 0)) ⟨gb, 8, none⟩ (.int .u16 0)) ⟨gb, 9, none⟩ (.int .i64 0)) ⟨gb, 10, none⟩ (.int .i64 0)) w.heap.size (fun k_ => k_ ≠ g ∧ k_ < wr.heap.size) u6 acc from (ch_S HV.out (fun k_ h_ => by have := h_.2; have := HGB.out; have := HWW.out; omega) _ _ _ _ _ _ _ _ _ _ _))
     have HKC := Aside0.mk (show Kd.R (Kd.int .i64) 3 (World.setCell (World.setCell (World.setCell (World.setCell (World.setCell (World.setCell (World.setCell (World.setCell (World.setCell (World.setCell (World.setCell wb ⟨gb, 0, none⟩ (.int .i64 a)) ⟨gb, 1, none⟩ (.int .i64 b)) ⟨gb, 2, none⟩ (.int .i64 c)) ⟨gb, 3, none⟩ (.int .i64 d)) ⟨gb, 4, none⟩ (.string t)) ⟨gb, 5, none⟩ (.slice Ak kp.length ck)) ⟨gb, 6, none⟩ (.int .u16 0)) ⟨gb, 7, none⟩ (.int .u16 0)) ⟨gb, 8, none⟩ (.int .u16 0)) ⟨gb, 9, none⟩ (.int .i64 0)) ⟨gb, 10, none⟩ (.int .i64 0)) w.heap.size (fun k_ => (k_ ≠ g ∧ some k_ ≠ u6.ownBlock) ∧ wr.heap.size ≤ k_ ∧ k_ < w1.heap.size) (.slice Ak kp.length ck) kp from (ch_R HKP.out (fun k_ h_ => by have := h_.2.2; have := HGB.out; omega) _ _ _ _ _ _ _ _ _ _ _))
     have BKC := Aside0.mk (show (World.heap (World.setCell (World.setCell (World.setCell (World.setCell (World.setCell (World.setCell (World.setCell (World.setCell (World.setCell (World.setCell (World.setCell wb ⟨gb, 0, none⟩ (.int .i64 a)) ⟨gb, 1, none⟩ (.int .i64 b)) ⟨gb, 2, none⟩ (.int .i64 c)) ⟨gb, 3, none⟩ (.int .i64 d)) ⟨gb, 4, none⟩ (.string t)) ⟨gb, 5, none⟩ (.slice Ak kp.length ck)) ⟨gb, 6, none⟩ (.int .u16 0)) ⟨gb, 7, none⟩ (.int .u16 0)) ⟨gb, 8, none⟩ (.int .u16 0)) ⟨gb, 9, none⟩ (.int .i64 0)) ⟨gb, 10, none⟩ (.int .i64 0)))[gb]? = some (.cells #[.int .i64 a, .int .i64 b, .int .i64 c, .int .i64 d, .string t, .slice Ak kp.length ck, .int .u16 0, .int .u16 0, .int .u16 0, .int .i64 0, .int .i64 0] 41 (0, 0)) from (ch_blk BK.out _ _ _ _ _ _ _ _ _ _ _))
     clear hs_ hne_ hne2_ HV HKP HRB BK hc0_ hf0_ hc1_ hf1_ hc2_ hf2_ hc3_ hf3_ hc4_ hf4_ hc5_ hf5_ hc6_ hf6_ hc7_ hf7_ hc8_ hf8_ hc9_ hf9_ hc10_ hf10_
     generalize (World.setCell (World.setCell (World.setCell (World.setCell (World.setCell (World.setCell (World.setCell (World.setCell (World.setCell (World.setCell (World.setCell wb ⟨gb, 0, none⟩ (.int .i64 a)) ⟨gb, 1, none⟩ (.int .i64 b)) ⟨gb, 2, none⟩ (.int .i64 c)) ⟨gb, 3, none⟩ (.int .i64 d)) ⟨gb, 4, none⟩ (.string t)) ⟨gb, 5, none⟩ (.slice Ak kp.length ck)) ⟨gb, 6, none⟩ (.int .u16 0)) ⟨gb, 7, none⟩ (.int .u16 0)) ⟨gb, 8, none⟩ (.int .u16 0)) ⟨gb, 9, none⟩ (.int .i64 0)) ⟨gb, 10, none⟩ (.int .i64 0)) = w2 at HRC HVC HKC BKC ⊢
     have hs2_ := HRC.out.flag
     obtain ⟨hx0_, _, hx1_, _, hx2_, _, hx3_, _, hx4_, _, hx5_, _, hx6_, _, hx7_, _, hx8_, _, hx9_, _, hx10_, _⟩ := cells11 BKC.out
     go_wp2
     go_ret
     exact ⟨_, rfl, Kd.S_mono HVC.out (fun _ _ => trivial), HRC.out.belowW.1⟩
    ·obtain rfl : s1 = false := Bool.eq_false_iff.mpr c1
     clear c1
     rw [if_neg (by decide)] at H
     by_cases c2 : is = true
     ·subst c2
      rw [if_pos rfl] at H
      by_cases c3 : acc.length < 1000000000
      ·rw [if_pos c3] at H
       have HA := Aside0.mk H
       have HL := Aside0.mk c3
       clear H c3
       go_upto_region 7 with (first | ((with_reducible refine gate_callee (f := 17) rfl ?_); refine goesL_ (some 27) rfl rfl Try.func17 (by kernel_rfl) rfl #[.pointer (some ⟨g, 0, none⟩)] rfl (by (try simp only [List.map_toArray, List.map_cons, List.map_nil]); first | done | rfl) ?_; (with_reducible refine (HE'.out).mono ?_); rintro e w1 ⟨vk, rfl, h1, ho, k1_⟩; refine ⟨_, rfl, ?_⟩; have HR1 := Aside0.mk h1; have HK := Aside0.mk k1_; have HRW := Aside0.mk (dec_rows HD.out.row k1_ HGL.out ho HD.out.rd.belowW.1.size); obtain ⟨Ak, ck, rfl⟩ := Kd.R_slice ho; clear h1 ho k1_) | ((with_reducible refine gate_dst (N := 7) rfl ?_); (try (refine gate_guard (by rfl) ?_; dsimp only)); refine box_event ?hg (N := 7) ?hd (cs := #[.int .i64 0, .int .i64 0, .int .i64 0, .int .i64 0, .string ⟨#[]⟩, .slice none 0 0, .int .u16 0, .int .u16 0, .int .u16 0, .int .i64 0, .int .i64 0]) (t := 41) ?hr ?_; (case hd => rfl); (case hg => rfl); (case hr => first | (go_simp; done) | (go_simp; rfl)); intro gb hg wb hbox hb; have HV := Aside0.mk (Kd.S_below HRW.out.1 hb); have HKP := Aside0.mk (Kd.R_below HRW.out.2.1 hb); have HWW := Aside0.mk HRW.out.2.2; have HRB := Aside0.mk (HR1.out.below hb); have HGB := Aside0.mk hg; have BK := Aside0.mk hbox; have hs_ := HRB.out.flag; have hne_ : g ≠ gb := (by rw [hg]; exact Nat.ne_of_lt HR1.out.lt); have hne2_ : gb ≠ g := Ne.symm hne_; obtain ⟨hc0_, hf0_, hc1_, hf1_, hc2_, hf2_, hc3_, hf3_, hc4_, hf4_, hc5_, hf5_, hc6_, hf6_, hc7_, hf7_, hc8_, hf8_, hc9_, hf9_, hc10_, hf10_⟩ := cells11 hbox; clear hg hbox hb))
       have HLE := Aside0.mk (show w.heap.size ≤ gb from by rw [HGB.out]; exact HR1.out.belowW.1.size)
       have HRC := Aside0.mk (show RD w (World.setCell (World.setCell (World.setCell (World.setCell (World.setCell (World.setCell (World.setCell (World.setCell (World.setCell (World.setCell (World.setCell wb ⟨gb, 0, none⟩ (.int .i64 a)) ⟨gb, 1, none⟩ (.int .i64 b)) ⟨gb, 2, none⟩ (.int .i64 c)) ⟨gb, 3, none⟩ (.int .i64 d)) ⟨gb, 4, none⟩ (.string t)) ⟨gb, 5, none⟩ (.slice Ak kp.length ck)) ⟨gb, 6, none⟩ (.int .u16 0)) ⟨gb, 7, none⟩ (.int .u16 0)) ⟨gb, 8, none⟩ (.int .u16 0)) ⟨gb, 9, none⟩ (.int .i64 0)) ⟨gb, 10, none⟩ (.int .i64 0)) g l1 1 false from (ch_rd HRB.out hne_ HLE.out _ _ _ _ _ _ _ _ _ _ _))
       have HVC := Aside0.mk (show Kd.S k41 41 (World.setCell (World.setCell (World.setCell (World.setCell (World.setCell (World.setCell (World.setCell (World.setCell (World.setCell (World.setCell (World.setCell wb ⟨gb, 0, none⟩ (.int .i64 a)) ⟨gb, 1, none⟩ (.int .i64 b)) ⟨gb, 2, none⟩ (.int .i64 c)) ⟨gb, 3, none⟩ (.int .i64 d)) ⟨gb, 4, none⟩ (.string t)) ⟨gb, 5, none⟩ (.slice Ak kp.length ck)) ⟨gb, 6, none⟩ (.int .u16 0)) ⟨gb, 7, none⟩ (.int .u16 0)) ⟨gb, 8, none⟩ (.int .u16 0)) ⟨gb, 9, none⟩ (.int .i64 0)) ⟨gb, 10, none⟩ (.int .i64 0)) w.heap.size (fun k_ => k_ ≠ g ∧ k_ < wr.heap.size) u6 acc from (ch_S HV.out (fun k_ h_ => by have := h_.2; have := HGB.out; have := HWW.out; omega) _ _ _ _ _ _ _ _ _ _ _))
       have HKC := Aside0.mk (show Kd.R (Kd.int .i64) 3 (World.setCell (World.setCell (World.setCell (World.setCell (World.setCell (World.setCell (World.setCell (World.setCell (World.setCell (World.setCell (World.setCell wb ⟨gb, 0, none⟩ (.int .i64 a)) ⟨gb, 1, none⟩ (.int .i64 b)) ⟨gb, 2, none⟩ (.int .i64 c)) ⟨gb, 3, none⟩ (.int .i64 d)) ⟨gb, 4, none⟩ (.string t)) ⟨gb, 5, none⟩ (.slice Ak kp.length ck)) ⟨gb, 6, none⟩ (.int .u16 0)) ⟨gb, 7, none⟩ (.int .u16 0)) ⟨gb, 8, none⟩ (.int .u16 0)) ⟨gb, 9, none⟩ (.int .i64 0)) ⟨gb, 10, none⟩ (.int .i64 0)) w.heap.size (fun k_ => (k_ ≠ g ∧ some k_ ≠ u6.ownBlock) ∧ wr.heap.size ≤ k_ ∧ k_ < w1.heap.size) (.slice Ak kp.length ck) kp from (ch_R HKP.out (fun k_ h_ => by have := h_.2.2; have := HGB.out; omega) _ _ _ _ _ _ _ _ _ _ _))
       have BKC := Aside0.mk (show (World.heap (World.setCell (World.setCell (World.setCell (World.setCell (World.setCell (World.setCell (World.setCell (World.setCell (World.setCell (World.setCell (World.setCell wb ⟨gb, 0, none⟩ (.int .i64 a)) ⟨gb, 1, none⟩ (.int .i64 b)) ⟨gb, 2, none⟩ (.int .i64 c)) ⟨gb, 3, none⟩ (.int .i64 d)) ⟨gb, 4, none⟩ (.string t)) ⟨gb, 5, none⟩ (.slice Ak kp.length ck)) ⟨gb, 6, none⟩ (.int .u16 0)) ⟨gb, 7, none⟩ (.int .u16 0)) ⟨gb, 8, none⟩ (.int .u16 0)) ⟨gb, 9, none⟩ (.int .i64 0)) ⟨gb, 10, none⟩ (.int .i64 0)))[gb]? = some (.cells #[.int .i64 a, .int .i64 b, .int .i64 c, .int .i64 d, .string t, .slice Ak kp.length ck, .int .u16 0, .int .u16 0, .int .u16 0, .int .i64 0, .int .i64 0] 41 (0, 0)) from (ch_blk BK.out _ _ _ _ _ _ _ _ _ _ _))
       clear hs_ hne_ hne2_ HV HKP HRB BK hc0_ hf0_ hc1_ hf1_ hc2_ hf2_ hc3_ hf3_ hc4_ hf4_ hc5_ hf5_ hc6_ hf6_ hc7_ hf7_ hc8_ hf8_ hc9_ hf9_ hc10_ hf10_
       generalize (World.setCell (World.setCell (World.setCell (World.setCell (World.setCell (World.setCell (World.setCell (World.setCell (World.setCell (World.setCell (World.setCell wb ⟨gb, 0, none⟩ (.int .i64 a)) ⟨gb, 1, none⟩ (.int .i64 b)) ⟨gb, 2, none⟩ (.int .i64 c)) ⟨gb, 3, none⟩ (.int .i64 d)) ⟨gb, 4, none⟩ (.string t)) ⟨gb, 5, none⟩ (.slice Ak kp.length ck)) ⟨gb, 6, none⟩ (.int .u16 0)) ⟨gb, 7, none⟩ (.int .u16 0)) ⟨gb, 8, none⟩ (.int .u16 0)) ⟨gb, 9, none⟩ (.int .i64 0)) ⟨gb, 10, none⟩ (.int .i64 0)) = w2 at HRC HVC HKC BKC ⊢
       have hs2_ := HRC.out.flag
       obtain ⟨hx0_, _, hx1_, _, hx2_, _, hx3_, _, hx4_, _, hx5_, _, hx6_, _, hx7_, _, hx8_, _, hx9_, _, hx10_, _⟩ := cells11 BKC.out
       go_wp2_with (first | ((with_reducible refine gate_builtin (b := .append) (xs := #[.tmp 35, .tmp 37]) rfl ?_); at_builtin; refine Kd.S_append k41 (w0 := w) w.heap.size rfl (.tmp 35) (.tmp 37) 25 41 (.agg #[(.int .i64 0), (.int .i64 0), (.int .i64 0), (.int .i64 0), (.string ⟨#[]⟩), (.slice none 0 0), (.int .u16 0), (.int .u16 0), (.int .u16 0), (.int .i64 0), (.int .i64 0)]) 96 rfl Try.underlying25 info41 rfl (by decide) (by omega) u6 acc (⟨a, b, c, d, t, kp, z39⟩ : S41) [.int .i64 a, .int .i64 b, .int .i64 c, .int .i64 d, .string t, .slice Ak kp.length ck, .int .u16 0, .int .u16 0, .int .u16 0, .int .i64 0, .int .i64 0] (fun k_ => k_ ≠ g) (fun k_ => some k_ = (.slice Ak kp.length ck : Value).ownBlock) rfl rfl ?aP (fun k_ hk => (HKC.out.1 k_ hk.symm).1) ?aF ?aO ?aB ?aS ?aL ?_; (case aP => exact k41_mkM _ _ _ (⟨a, b, c, d, t, kp, z39⟩ : S41) (Kd.R_tight rfl HKC.out)); (case aF => exact (fun k_ hk_ => Nat.ne_of_gt (Nat.lt_of_lt_of_le HRC.out.lt hk_))); (case aO => exact Kd.S_mono HVC.out (fun k_ h_ => ⟨h_.1, fun e_ => absurd (HKC.out.1 k_ e_.symm).2.1 (Nat.not_le.2 h_.2)⟩)); (case aB => exact HRC.out.belowW.1); (case aS => exact HRC.out.belowW.1.size); (case aL => have := HL.out; omega); intro v1 wq ho2 hb2 hg2 hat2; have HO2 := Aside0.mk ho2; have HB2 := Aside0.mk hb2; have HG2 := Aside0.mk hg2; clear ho2 hb2 hg2 hat2))
       go_roundg k1
       case measure => have := HK1.out; omega
       case rel => exact ⟨l1, _, HA, ⟨by have := HK1.out; omega⟩, ⟨HRC.out.grown (ok := fun _ => True) HG2.out HB2.out (fun k_ hk_ => (Kd.S_R HVC.out).1 k_ hk_ |>.1), HO2.out⟩⟩
      ·rw [if_neg c3] at H
       cases H
     ·obtain rfl : is = false := Bool.eq_false_iff.mpr c2
      clear c2
      rw [if_neg (by decide)] at H
      have HA := Aside0.mk H
      clear H
      go_upto_region 7 with (first | ((with_reducible refine gate_callee (f := 17) rfl ?_); refine goesL_ (some 27) rfl rfl Try.func17 (by kernel_rfl) rfl #[.pointer (some ⟨g, 0, none⟩)] rfl (by (try simp only [List.map_toArray, List.map_cons, List.map_nil]); first | done | rfl) ?_; (with_reducible refine (HE'.out).mono ?_); rintro e w1 ⟨vk, rfl, h1, ho, k1_⟩; refine ⟨_, rfl, ?_⟩; have HR1 := Aside0.mk h1; have HK := Aside0.mk k1_; have HRW := Aside0.mk (dec_rows HD.out.row k1_ HGL.out ho HD.out.rd.belowW.1.size); obtain ⟨Ak, ck, rfl⟩ := Kd.R_slice ho; clear h1 ho k1_) | ((with_reducible refine gate_dst (N := 7) rfl ?_); (try (refine gate_guard (by rfl) ?_; dsimp only)); refine box_event ?hg (N := 7) ?hd (cs := #[.int .i64 0, .int .i64 0, .int .i64 0, .int .i64 0, .string ⟨#[]⟩, .slice none 0 0, .int .u16 0, .int .u16 0, .int .u16 0, .int .i64 0, .int .i64 0]) (t := 41) ?hr ?_; (case hd => rfl); (case hg => rfl); (case hr => first | (go_simp; done) | (go_simp; rfl)); intro gb hg wb hbox hb; have HV := Aside0.mk (Kd.S_below HRW.out.1 hb); have HKP := Aside0.mk (Kd.R_below HRW.out.2.1 hb); have HWW := Aside0.mk HRW.out.2.2; have HRB := Aside0.mk (HR1.out.below hb); have HGB := Aside0.mk hg; have BK := Aside0.mk hbox; have hs_ := HRB.out.flag; have hne_ : g ≠ gb := (by rw [hg]; exact Nat.ne_of_lt HR1.out.lt); have hne2_ : gb ≠ g := Ne.symm hne_; obtain ⟨hc0_, hf0_, hc1_, hf1_, hc2_, hf2_, hc3_, hf3_, hc4_, hf4_, hc5_, hf5_, hc6_, hf6_, hc7_, hf7_, hc8_, hf8_, hc9_, hf9_, hc10_, hf10_⟩ := cells11 hbox; clear hg hbox hb))
      have HLE := Aside0.mk (show w.heap.size ≤ gb from by rw [HGB.out]; exact HR1.out.belowW.1.size)
      have HRC := Aside0.mk (show RD w (World.setCell (World.setCell (World.setCell (World.setCell (World.setCell (World.setCell (World.setCell (World.setCell (World.setCell (World.setCell (World.setCell wb ⟨gb, 0, none⟩ (.int .i64 a)) ⟨gb, 1, none⟩ (.int .i64 b)) ⟨gb, 2, none⟩ (.int .i64 c)) ⟨gb, 3, none⟩ (.int .i64 d)) ⟨gb, 4, none⟩ (.string t)) ⟨gb, 5, none⟩ (.slice Ak kp.length ck)) ⟨gb, 6, none⟩ (.int .u16 0)) ⟨gb, 7, none⟩ (.int .u16 0)) ⟨gb, 8, none⟩ (.int .u16 0)) ⟨gb, 9, none⟩ (.int .i64 0)) ⟨gb, 10, none⟩ (.int .i64 0)) g l1 1 false from (ch_rd HRB.out hne_ HLE.out _ _ _ _ _ _ _ _ _ _ _))
      have HVC := Aside0.mk (show Kd.S k41 41 (World.setCell (World.setCell (World.setCell (World.setCell (World.setCell (World.setCell (World.setCell (World.setCell (World.setCell (World.setCell (World.setCell wb ⟨gb, 0, none⟩ (.int .i64 a)) ⟨gb, 1, none⟩ (.int .i64 b)) ⟨gb, 2, none⟩ (.int .i64 c)) ⟨gb, 3, none⟩ (.int .i64 d)) ⟨gb, 4, none⟩ (.string t)) ⟨gb, 5, none⟩ (.slice Ak kp.length ck)) ⟨gb, 6, none⟩ (.int .u16 0)) ⟨gb, 7, none⟩ (.int .u16 0)) ⟨gb, 8, none⟩ (.int .u16 0)) ⟨gb, 9, none⟩ (.int .i64 0)) ⟨gb, 10, none⟩ (.int .i64 0)) w.heap.size (fun k_ => k_ ≠ g ∧ k_ < wr.heap.size) u6 acc from (ch_S HV.out (fun k_ h_ => by have := h_.2; have := HGB.out; have := HWW.out; omega) _ _ _ _ _ _ _ _ _ _ _))
      have HKC := Aside0.mk (show Kd.R (Kd.int .i64) 3 (World.setCell (World.setCell (World.setCell (World.setCell (World.setCell (World.setCell (World.setCell (World.setCell (World.setCell (World.setCell (World.setCell wb ⟨gb, 0, none⟩ (.int .i64 a)) ⟨gb, 1, none⟩ (.int .i64 b)) ⟨gb, 2, none⟩ (.int .i64 c)) ⟨gb, 3, none⟩ (.int .i64 d)) ⟨gb, 4, none⟩ (.string t)) ⟨gb, 5, none⟩ (.slice Ak kp.length ck)) ⟨gb, 6, none⟩ (.int .u16 0)) ⟨gb, 7, none⟩ (.int .u16 0)) ⟨gb, 8, none⟩ (.int .u16 0)) ⟨gb, 9, none⟩ (.int .i64 0)) ⟨gb, 10, none⟩ (.int .i64 0)) w.heap.size (fun k_ => (k_ ≠ g ∧ some k_ ≠ u6.ownBlock) ∧ wr.heap.size ≤ k_ ∧ k_ < w1.heap.size) (.slice Ak kp.length ck) kp from (ch_R HKP.out (fun k_ h_ => by have := h_.2.2; have := HGB.out; omega) _ _ _ _ _ _ _ _ _ _ _))
      have BKC := Aside0.mk (show (World.heap (World.setCell (World.setCell (World.setCell (World.setCell (World.setCell (World.setCell (World.setCell (World.setCell (World.setCell (World.setCell (World.setCell wb ⟨gb, 0, none⟩ (.int .i64 a)) ⟨gb, 1, none⟩ (.int .i64 b)) ⟨gb, 2, none⟩ (.int .i64 c)) ⟨gb, 3, none⟩ (.int .i64 d)) ⟨gb, 4, none⟩ (.string t)) ⟨gb, 5, none⟩ (.slice Ak kp.length ck)) ⟨gb, 6, none⟩ (.int .u16 0)) ⟨gb, 7, none⟩ (.int .u16 0)) ⟨gb, 8, none⟩ (.int .u16 0)) ⟨gb, 9, none⟩ (.int .i64 0)) ⟨gb, 10, none⟩ (.int .i64 0)))[gb]? = some (.cells #[.int .i64 a, .int .i64 b, .int .i64 c, .int .i64 d, .string t, .slice Ak kp.length ck, .int .u16 0, .int .u16 0, .int .u16 0, .int .i64 0, .int .i64 0] 41 (0, 0)) from (ch_blk BK.out _ _ _ _ _ _ _ _ _ _ _))
      clear hs_ hne_ hne2_ HV HKP HRB BK hc0_ hf0_ hc1_ hf1_ hc2_ hf2_ hc3_ hf3_ hc4_ hf4_ hc5_ hf5_ hc6_ hf6_ hc7_ hf7_ hc8_ hf8_ hc9_ hf9_ hc10_ hf10_
      generalize (World.setCell (World.setCell (World.setCell (World.setCell (World.setCell (World.setCell (World.setCell (World.setCell (World.setCell (World.setCell (World.setCell wb ⟨gb, 0, none⟩ (.int .i64 a)) ⟨gb, 1, none⟩ (.int .i64 b)) ⟨gb, 2, none⟩ (.int .i64 c)) ⟨gb, 3, none⟩ (.int .i64 d)) ⟨gb, 4, none⟩ (.string t)) ⟨gb, 5, none⟩ (.slice Ak kp.length ck)) ⟨gb, 6, none⟩ (.int .u16 0)) ⟨gb, 7, none⟩ (.int .u16 0)) ⟨gb, 8, none⟩ (.int .u16 0)) ⟨gb, 9, none⟩ (.int .i64 0)) ⟨gb, 10, none⟩ (.int .i64 0)) = w2 at HRC HVC HKC BKC ⊢
      have hs2_ := HRC.out.flag
      obtain ⟨hx0_, _, hx1_, _, hx2_, _, hx3_, _, hx4_, _, hx5_, _, hx6_, _, hx7_, _, hx8_, _, hx9_, _, hx10_, _⟩ := cells11 BKC.out
      go_wp2
      go_roundg k1
      case measure => have := HK1.out; omega
      case rel => exact ⟨l1, acc, HA, ⟨by have := HK1.out; omega⟩, ⟨HRC.out, Kd.S_mono HVC.out (fun _ h_ => h_.1)⟩⟩
set_option maxHeartbeats 8000000 in
set_option maxRecDepth 100000 in
theorem script_Decode.calls_hi (k : Nat) (A0 : Option Addr) (c0 : Nat) (l0 : List Int) (a1 : Int) (r : List (S41)) (w : World) (hr0 : Kd.C (Kd.int .u8) w A0 l0.length l0) (hc0 : l0.length ≤ c0) (hby : ∀ x ∈ l0, 0 ≤ x ∧ x < 256) (h1 : ¬ a1 < 1) (h9 : a1 > 9) (h : script_Decode.l0 k l0 1 [] = some r) :
  Calls Try.prog 9 #[.slice A0 l0.length c0, .int .i64 a1] w fun e w' => ∃ v0_ : Value, e = .returned (v0_) ∧ Kd.S k41 41 w' w.heap.size (fun _ => True) v0_ r ∧ Below w.heap.size w w' := by
 have HR0 := Aside0.mk hr0
 have HC0 := Aside0.mk hc0
 have HBY := Aside0.mk hby
 have H' := Aside0.mk h
 clear hr0 hc0 hby h
 have e1 : decide (a1 < 1) = false := decide_eq_false h1
 have e2 : decide (9 < a1) = true := decide_eq_true h9
 clear h1 h9
 go_enter Try.func9, Try.ntmps9
 go_wp2_with (first | ((with_reducible refine gate_dst (N := 18) rfl ?_); (try (refine gate_guard (by rfl) ?_; dsimp only)); refine box_event ?hg (N := 18) ?hd (cs := #[.slice A0 l0.length c0, .int .i64 1, .bool false]) (t := 44) ?hr ?_; (case hd => rfl); (case hg => rfl); (case hr => first | (go_simp; done) | (go_simp; rfl)); intro g hg w0 hbox hb; have HD := Aside0.mk (Dec.mk (w := w) (g := g) (v6 := .slice none 0 0) (wr := w0) (n := 1) (acc := []) ⟨A0, c0, hbox, HC0.out, HR0.out, Nat.le_of_eq hg.symm, hb, HBY.out, by omega, by omega⟩ (Kd.S_nil _ _ _ _ _)); clear hbox hg hb))
 go_loopg [6] k (fun kq v6 wr => ∃ (l : List Int) (acc : List S41), Aside0 (script_Decode.l0 kq l 1 acc = some r) ∧ Aside0 (kq ≤ k) ∧ Aside0 (Dec w g v6 wr l 1 acc))
 case atStart => exact ⟨l0, [], H', ⟨Nat.le_refl _⟩, HD⟩
 case round =>
  clear H' HD
  obtain ⟨l, acc, HA, HK1, HD⟩ := hrel
  cases gk with
  | zero => exact absurd HA.out (by simp [script_Decode.l0])
  | succ k1 =>
   have H := HA.out
   clear HA
   rw [script_Decode.l0] at H
   obtain ⟨A2, c2, hc0_⟩ := HD.out.rd.head
   by_cases hl : l = []
   ·subst hl
    rw [if_pos rfl] at H
    have hr := Option.some.inj H
    subst hr
    clear H
    go_wp2
    go_ret
    exact ⟨_, rfl, Kd.S_mono HD.out.row (fun _ _ => trivial), HD.out.rd.belowW.1⟩
   ·rw [if_neg hl] at H
    have hp : 0 < l.length := List.length_pos_iff.2 hl
    have hp1 : (0 : Int) < (l.length : Int) := by omega
    have hd1 : decide ((0 : Int) < (l.length : Int)) = true := decide_eq_true hp1
    have hd2 : decide (0 < l.length) = true := decide_eq_true hp
    have HE := script_Decode.event_calls HD.out.rd
    have h6 := script_Decode.event_f6 l false 1
    obtain ⟨E, hE⟩ : ∃ E, E = script_Decode.event l false 1 := ⟨_, rfl⟩
    rw [← hE] at H HE h6
    clear hE hl
    obtain ⟨⟨a, b, c, d, t, kp, z⟩, is, l1, s1⟩ := E
    obtain rfl : z = z39 := h6
    try clear h6
    replace H : (if s1 = true then some acc else if is = true then (if acc.length < 1000000000 then script_Decode.l0 k1 l1 1 (acc ++ [(⟨a, b, c, d, t, kp, z39⟩ : S41)]) else none) else script_Decode.l0 k1 l1 1 acc) = some r := H
    replace HE : Calls Try.prog 17 #[.pointer (some ⟨g, 0, none⟩)] wr (Evp w wr g 1 a b c d t kp is l1 s1) := HE
    have HE' := Aside0.mk HE
    clear HE
    have HGL := Aside0.mk HD.out.rd.lt
    by_cases c1 : s1 = true
    ·subst c1
     rw [if_pos rfl] at H
     have hr := Option.some.inj H
     subst hr
     clear H
     go_upto_region 7 with (first | ((with_reducible refine gate_callee (f := 17) rfl ?_); refine goesL_ (some 27) rfl rfl Try.func17 (by kernel_rfl) rfl #[.pointer (some ⟨g, 0, none⟩)] rfl (by (try simp only [List.map_toArray, List.map_cons, List.map_nil]); first | done | rfl) ?_; (with_reducible refine (HE'.out).mono ?_); rintro e w1 ⟨vk, rfl, h1, ho, k1_⟩; refine ⟨_, rfl, ?_⟩; have HR1 := Aside0.mk h1; have HK := Aside0.mk k1_; have HRW := Aside0.mk (dec_rows HD.out.row k1_ HGL.out ho HD.out.rd.belowW.1.size); obtain ⟨Ak, ck, rfl⟩ := Kd.R_slice ho; clear h1 ho k1_) | ((with_reducible refine gate_dst (N := 7) rfl ?_); (try (refine gate_guard (by rfl) ?_; dsimp only)); refine box_event ?hg (N := 7) ?hd (cs := #[.int .i64 0, .int .i64 0, .int .i64 0, .int .i64 0, .string ⟨#[]⟩, .slice none 0 0, .int .u16 0, .int .u16 0, .int .u16 0, .int .i64 0, .int .i64 0]) (t := 41) ?hr ?_; (case hd => rfl); (case hg => rfl); (case hr => first | (go_simp; done) | (go_simp; rfl)); intro gb hg wb hbox hb; have HV := Aside0.mk (Kd.S_below HRW.out.1 hb); have HKP := Aside0.mk (Kd.R_below HRW.out.2.1 hb); have HWW := Aside0.mk HRW.out.2.2; have HRB := Aside0.mk (HR1.out.below hb); have HGB := Aside0.mk hg; have BK := Aside0.mk hbox; have hs_ := HRB.out.flag; have hne_ : g ≠ gb := (by rw [hg]; exact Nat.ne_of_lt HR1.out.lt); have hne2_ : gb ≠ g := Ne.symm hne_; obtain ⟨hc0_, hf0_, hc1_, hf1_, hc2_, hf2_, hc3_, hf3_, hc4_, hf4_, hc5_, hf5_, hc6_, hf6_, hc7_, hf7_, hc8_, hf8_, hc9_, hf9_, hc10_, hf10_⟩ := cells11 hbox; clear hg hbox hb))
     have HLE := Aside0.mk (show w.heap.size ≤ gb from by rw [HGB.out]; exact HR1.out.belowW.1.size)
     have HRC := Aside0.mk (show RD w (World.setCell (World.setCell (World.setCell (World.setCell (World.setCell (World.setCell (World.setCell (World.setCell (World.setCell (World.setCell (World.setCell wb ⟨gb, 0, none⟩ (.int .i64 a)) ⟨gb, 1, none⟩ (.int .i64 b)) ⟨gb, 2, none⟩ (.int .i64 c)) ⟨gb, 3, none⟩ (.int .i64 d)) ⟨gb, 4, none⟩ (.string t)) ⟨gb, 5, none⟩ (.slice Ak kp.length ck)) ⟨gb, 6, none⟩ (.int .u16 0)) ⟨gb, 7, none⟩ (.int .u16 0)) ⟨gb, 8, none⟩ (.int .u16 0)) ⟨gb, 9, none⟩ (.int .i64 0)) ⟨gb, 10, none⟩ (.int .i64 0)) g l1 1 true from (ch_rd HRB.out hne_ HLE.out _ _ _ _ _ _ _ _ _ _ _))
     have HVC := Aside0.mk (show Kd.S k41 41 (World.setCell (World.setCell (World.setCell (World.setCell (World.setCell (World.setCell (World.setCell (World.setCell (World.setCell (World.setCell (World.setCell wb ⟨gb, 0, none⟩ (.int .i64 a)) ⟨gb, 1, none⟩ (.int .i64 b)) ⟨gb, 2, none⟩ (.int .i64 c)) ⟨gb, 3, none⟩ (.int .i64 d)) ⟨gb, 4, none⟩ (.string t)) ⟨gb, 5, none⟩ (.slice Ak kp.length ck)) ⟨gb, 6, none⟩ (.int .u16 0)) ⟨gb, 7, none⟩ (.int .u16 0)) ⟨gb, 8, none⟩ (.int .u16 0)) ⟨gb, 9, none⟩ (.int .i64 0)) ⟨gb, 10, none⟩ (.int .i64 0)) w.heap.size (fun k_ => k_ ≠ g ∧ k_ < wr.heap.size) u6 acc from (ch_S HV.out (fun k_ h_ => by have := h_.2; have := HGB.out; have := HWW.out; omega) _ _ _ _ _ _ _ _ _ _ _))
     have HKC := Aside0.mk (show Kd.R (Kd.int .i64) 3 (World.setCell (World.setCell (World.setCell (World.setCell (World.setCell (World.setCell (World.setCell (World.setCell (World.setCell (World.setCell (World.setCell wb ⟨gb, 0, none⟩ (.int .i64 a)) ⟨gb, 1, none⟩ (.int .i64 b)) ⟨gb, 2, none⟩ (.int .i64 c)) ⟨gb, 3, none⟩ (.int .i64 d)) ⟨gb, 4, none⟩ (.string t)) ⟨gb, 5, none⟩ (.slice Ak kp.length ck)) ⟨gb, 6, none⟩ (.int .u16 0)) ⟨gb, 7, none⟩ (.int .u16 0)) ⟨gb, 8, none⟩ (.int .u16 0)) ⟨gb, 9, none⟩ (.int .i64 0)) ⟨gb, 10, none⟩ (.int .i64 0)) w.heap.size (fun k_ => (k_ ≠ g ∧ some k_ ≠ u6.ownBlock) ∧ wr.heap.size ≤ k_ ∧ k_ < w1.heap.size) (.slice Ak kp.length ck) kp from (ch_R HKP.out (fun k_ h_ => by have := h_.2.2; have := HGB.out; omega) _ _ _ _ _ _ _ _ _ _ _))
     have BKC := Aside0.mk (show (World.heap (World.setCell (World.setCell (World.setCell (World.setCell (World.setCell (World.setCell (World.setCell (World.setCell (World.setCell (World.setCell (World.setCell wb ⟨gb, 0, none⟩ (.int .i64 a)) ⟨gb, 1, none⟩ (.int .i64 b)) ⟨gb, 2, none⟩ (.int .i64 c)) ⟨gb, 3, none⟩ (.int .i64 d)) ⟨gb, 4, none⟩ (.string t)) ⟨gb, 5, none⟩ (.slice Ak kp.length ck)) ⟨gb, 6, none⟩ (.int .u16 0)) ⟨gb, 7, none⟩ (.int .u16 0)) ⟨gb, 8, none⟩ (.int .u16 0)) ⟨gb, 9, none⟩ (.int .i64 0)) ⟨gb, 10, none⟩ (.int .i64 0)))[gb]? = some (.cells #[.int .i64 a, .int .i64 b, .int .i64 c, .int .i64 d, .string t, .slice Ak kp.length ck, .int .u16 0, .int .u16 0, .int .u16 0, .int .i64 0, .int .i64 0] 41 (0, 0)) from (ch_blk BK.out _ _ _ _ _ _ _ _ _ _ _))
     clear hs_ hne_ hne2_ HV HKP HRB BK hc0_ hf0_ hc1_ hf1_ hc2_ hf2_ hc3_ hf3_ hc4_ hf4_ hc5_ hf5_ hc6_ hf6_ hc7_ hf7_ hc8_ hf8_ hc9_ hf9_ hc10_ hf10_
     generalize (World.setCell (World.setCell (World.setCell (World.setCell (World.setCell (World.setCell (World.setCell (World.setCell (World.setCell (World.setCell (World.setCell wb ⟨gb, 0, none⟩ (.int .i64 a)) ⟨gb, 1, none⟩ (.int .i64 b)) ⟨gb, 2, none⟩ (.int .i64 c)) ⟨gb, 3, none⟩ (.int .i64 d)) ⟨gb, 4, none⟩ (.string t)) ⟨gb, 5, none⟩ (.slice Ak kp.length ck)) ⟨gb, 6, none⟩ (.int .u16 0)) ⟨gb, 7, none⟩ (.int .u16 0)) ⟨gb, 8, none⟩ (.int .u16 0)) ⟨gb, 9, none⟩ (.int .i64 0)) ⟨gb, 10, none⟩ (.int .i64 0)) = w2 at HRC HVC HKC BKC ⊢
     have hs2_ := HRC.out.flag
     obtain ⟨hx0_, _, hx1_, _, hx2_, _, hx3_, _, hx4_, _, hx5_, _, hx6_, _, hx7_, _, hx8_, _, hx9_, _, hx10_, _⟩ := cells11 BKC.out
     go_wp2
     go_ret
     exact ⟨_, rfl, Kd.S_mono HVC.out (fun _ _ => trivial), HRC.out.belowW.1⟩
    ·obtain rfl : s1 = false := Bool.eq_false_iff.mpr c1
     clear c1
     rw [if_neg (by decide)] at H
     by_cases c2 : is = true
     ·subst c2
      rw [if_pos rfl] at H
      by_cases c3 : acc.length < 1000000000
      ·rw [if_pos c3] at H
       have HA := Aside0.mk H
       have HL := Aside0.mk c3
       clear H c3
       go_upto_region 7 with (first | ((with_reducible refine gate_callee (f := 17) rfl ?_); refine goesL_ (some 27) rfl rfl Try.func17 (by kernel_rfl) rfl #[.pointer (some ⟨g, 0, none⟩)] rfl (by (try simp only [List.map_toArray, List.map_cons, List.map_nil]); first | done | rfl) ?_; (with_reducible refine (HE'.out).mono ?_); rintro e w1 ⟨vk, rfl, h1, ho, k1_⟩; refine ⟨_, rfl, ?_⟩; have HR1 := Aside0.mk h1; have HK := Aside0.mk k1_; have HRW := Aside0.mk (dec_rows HD.out.row k1_ HGL.out ho HD.out.rd.belowW.1.size); obtain ⟨Ak, ck, rfl⟩ := Kd.R_slice ho; clear h1 ho k1_) | ((with_reducible refine gate_dst (N := 7) rfl ?_); (try (refine gate_guard (by rfl) ?_; dsimp only)); refine box_event ?hg (N := 7) ?hd (cs := #[.int .i64 0, .int .i64 0, .int .i64 0, .int .i64 0, .string ⟨#[]⟩, .slice none 0 0, .int .u16 0, .int .u16 0, .int .u16 0, .int .i64 0, .int .i64 0]) (t := 41) ?hr ?_; (case hd => rfl); (case hg => rfl); (case hr => first | (go_simp; done) | (go_simp; rfl)); intro gb hg wb hbox hb; have HV := Aside0.mk (Kd.S_below HRW.out.1 hb); have HKP := Aside0.mk (Kd.R_below HRW.out.2.1 hb); have HWW := Aside0.mk HRW.out.2.2; have HRB := Aside0.mk (HR1.out.below hb); have HGB := Aside0.mk hg; have BK := Aside0.mk hbox; have hs_ := HRB.out.flag; have hne_ : g ≠ gb := (by rw [hg]; exact Nat.ne_of_lt HR1.out.lt); have hne2_ : gb ≠ g := Ne.symm hne_; obtain ⟨hc0_, hf0_, hc1_, hf1_, hc2_, hf2_, hc3_, hf3_, hc4_, hf4_, hc5_, hf5_, hc6_, hf6_, hc7_, hf7_, hc8_, hf8_, hc9_, hf9_, hc10_, hf10_⟩ := cells11 hbox; clear hg hbox hb))
       have HLE := Aside0.mk (show w.heap.size ≤ gb from by rw [HGB.out]; exact HR1.out.belowW.1.size)
       have HRC := Aside0.mk (show RD w (World.setCell (World.setCell (World.setCell (World.setCell (World.setCell (World.setCell (World.setCell (World.setCell (World.setCell (World.setCell (World.setCell wb ⟨gb, 0, none⟩ (.int .i64 a)) ⟨gb, 1, none⟩ (.int .i64 b)) ⟨gb, 2, none⟩ (.int .i64 c)) ⟨gb, 3, none⟩ (.int .i64 d)) ⟨gb, 4, none⟩ (.string t)) ⟨gb, 5, none⟩ (.slice Ak kp.length ck)) ⟨gb, 6, none⟩ (.int .u16 0)) ⟨gb, 7, none⟩ (.int .u16 0)) ⟨gb, 8, none⟩ (.int .u16 0)) ⟨gb, 9, none⟩ (.int .i64 0)) ⟨gb, 10, none⟩ (.int .i64 0)) g l1 1 false from (ch_rd HRB.out hne_ HLE.out _ _ _ _ _ _ _ _ _ _ _))
       have HVC := Aside0.mk (show Kd.S k41 41 (World.setCell (World.setCell (World.setCell (World.setCell (World.setCell (World.setCell (World.setCell (World.setCell (World.setCell (World.setCell (World.setCell wb ⟨gb, 0, none⟩ (.int .i64 a)) ⟨gb, 1, none⟩ (.int .i64 b)) ⟨gb, 2, none⟩ (.int .i64 c)) ⟨gb, 3, none⟩ (.int .i64 d)) ⟨gb, 4, none⟩ (.string t)) ⟨gb, 5, none⟩ (.slice Ak kp.length ck)) ⟨gb, 6, none⟩ (.int .u16 0)) ⟨gb, 7, none⟩ (.int .u16 0)) ⟨gb, 8, none⟩ (.int .u16 0)) ⟨gb, 9, none⟩ (.int .i64 0)) ⟨gb, 10, none⟩ (.int .i64 0)) w.heap.size (fun k_ => k_ ≠ g ∧ k_ < wr.heap.size) u6 acc from (ch_S HV.out (fun k_ h_ => by have := h_.2; have := HGB.out; have := HWW.out; omega) _ _ _ _ _ _ _ _ _ _ _))
       have HKC := Aside0.mk (show Kd.R (Kd.int .i64) 3 (World.setCell (World.setCell (World.setCell (World.setCell (World.setCell (World.setCell (World.setCell (World.setCell (World.setCell (World.setCell (World.setCell wb ⟨gb, 0, none⟩ (.int .i64 a)) ⟨gb, 1, none⟩ (.int .i64 b)) ⟨gb, 2, none⟩ (.int .i64 c)) ⟨gb, 3, none⟩ (.int .i64 d)) ⟨gb, 4, none⟩ (.string t)) ⟨gb, 5, none⟩ (.slice Ak kp.length ck)) ⟨gb, 6, none⟩ (.int .u16 0)) ⟨gb, 7, none⟩ (.int .u16 0)) ⟨gb, 8, none⟩ (.int .u16 0)) ⟨gb, 9, none⟩ (.int .i64 0)) ⟨gb, 10, none⟩ (.int .i64 0)) w.heap.size (fun k_ => (k_ ≠ g ∧ some k_ ≠ u6.ownBlock) ∧ wr.heap.size ≤ k_ ∧ k_ < w1.heap.size) (.slice Ak kp.length ck) kp from (ch_R HKP.out (fun k_ h_ => by have := h_.2.2; have := HGB.out; omega) _ _ _ _ _ _ _ _ _ _ _))
       have BKC := Aside0.mk (show (World.heap (World.setCell (World.setCell (World.setCell (World.setCell (World.setCell (World.setCell (World.setCell (World.setCell (World.setCell (World.setCell (World.setCell wb ⟨gb, 0, none⟩ (.int .i64 a)) ⟨gb, 1, none⟩ (.int .i64 b)) ⟨gb, 2, none⟩ (.int .i64 c)) ⟨gb, 3, none⟩ (.int .i64 d)) ⟨gb, 4, none⟩ (.string t)) ⟨gb, 5, none⟩ (.slice Ak kp.length ck)) ⟨gb, 6, none⟩ (.int .u16 0)) ⟨gb, 7, none⟩ (.int .u16 0)) ⟨gb, 8, none⟩ (.int .u16 0)) ⟨gb, 9, none⟩ (.int .i64 0)) ⟨gb, 10, none⟩ (.int .i64 0)))[gb]? = some (.cells #[.int .i64 a, .int .i64 b, .int .i64 c, .int .i64 d, .string t, .slice Ak kp.length ck, .int .u16 0, .int .u16 0, .int .u16 0, .int .i64 0, .int .i64 0] 41 (0, 0)) from (ch_blk BK.out _ _ _ _ _ _ _ _ _ _ _))
       clear hs_ hne_ hne2_ HV HKP HRB BK hc0_ hf0_ hc1_ hf1_ hc2_ hf2_ hc3_ hf3_ hc4_ hf4_ hc5_ hf5_ hc6_ hf6_ hc7_ hf7_ hc8_ hf8_ hc9_ hf9_ hc10_ hf10_
       generalize (World.setCell (World.setCell (World.setCell (World.setCell (World.setCell (World.setCell (World.setCell (World.setCell (World.setCell (World.setCell (World.setCell wb ⟨gb, 0, none⟩ (.int .i64 a)) ⟨gb, 1, none⟩ (.int .i64 b)) ⟨gb, 2, none⟩ (.int .i64 c)) ⟨gb, 3, none⟩ (.int .i64 d)) ⟨gb, 4, none⟩ (.string t)) ⟨gb, 5, none⟩ (.slice Ak kp.length ck)) ⟨gb, 6, none⟩ (.int .u16 0)) ⟨gb, 7, none⟩ (.int .u16 0)) ⟨gb, 8, none⟩ (.int .u16 0)) ⟨gb, 9, none⟩ (.int .i64 0)) ⟨gb, 10, none⟩ (.int .i64 0)) = w2 at HRC HVC HKC BKC ⊢
       have hs2_ := HRC.out.flag
       obtain ⟨hx0_, _, hx1_, _, hx2_, _, hx3_, _, hx4_, _, hx5_, _, hx6_, _, hx7_, _, hx8_, _, hx9_, _, hx10_, _⟩ := cells11 BKC.out
       go_wp2_with (first | ((with_reducible refine gate_builtin (b := .append) (xs := #[.tmp 35, .tmp 37]) rfl ?_); at_builtin; refine Kd.S_append k41 (w0 := w) w.heap.size rfl (.tmp 35) (.tmp 37) 25 41 (.agg #[(.int .i64 0), (.int .i64 0), (.int .i64 0), (.int .i64 0), (.string ⟨#[]⟩), (.slice none 0 0), (.int .u16 0), (.int .u16 0), (.int .u16 0), (.int .i64 0), (.int .i64 0)]) 96 rfl Try.underlying25 info41 rfl (by decide) (by omega) u6 acc (⟨a, b, c, d, t, kp, z39⟩ : S41) [.int .i64 a, .int .i64 b, .int .i64 c, .int .i64 d, .string t, .slice Ak kp.length ck, .int .u16 0, .int .u16 0, .int .u16 0, .int .i64 0, .int .i64 0] (fun k_ => k_ ≠ g) (fun k_ => some k_ = (.slice Ak kp.length ck : Value).ownBlock) rfl rfl ?aP (fun k_ hk => (HKC.out.1 k_ hk.symm).1) ?aF ?aO ?aB ?aS ?aL ?_; (case aP => exact k41_mkM _ _ _ (⟨a, b, c, d, t, kp, z39⟩ : S41) (Kd.R_tight rfl HKC.out)); (case aF => exact (fun k_ hk_ => Nat.ne_of_gt (Nat.lt_of_lt_of_le HRC.out.lt hk_))); (case aO => exact Kd.S_mono HVC.out (fun k_ h_ => ⟨h_.1, fun e_ => absurd (HKC.out.1 k_ e_.symm).2.1 (Nat.not_le.2 h_.2)⟩)); (case aB => exact HRC.out.belowW.1); (case aS => exact HRC.out.belowW.1.size); (case aL => have := HL.out; omega); intro v1 wq ho2 hb2 hg2 hat2; have HO2 := Aside0.mk ho2; have HB2 := Aside0.mk hb2; have HG2 := Aside0.mk hg2; clear ho2 hb2 hg2 hat2))
       go_roundg k1
       case measure => have := HK1.out; omega
       case rel => exact ⟨l1, _, HA, ⟨by have := HK1.out; omega⟩, ⟨HRC.out.grown (ok := fun _ => True) HG2.out HB2.out (fun k_ hk_ => (Kd.S_R HVC.out).1 k_ hk_ |>.1), HO2.out⟩⟩
      ·rw [if_neg c3] at H
       cases H
     ·obtain rfl : is = false := Bool.eq_false_iff.mpr c2
      clear c2
      rw [if_neg (by decide)] at H
      have HA := Aside0.mk H
      clear H
      go_upto_region 7 with (first | ((with_reducible refine gate_callee (f := 17) rfl ?_); refine goesL_ (some 27) rfl rfl Try.func17 (by kernel_rfl) rfl #[.pointer (some ⟨g, 0, none⟩)] rfl (by (try simp only [List.map_toArray, List.map_cons, List.map_nil]); first | done | rfl) ?_; (with_reducible refine (HE'.out).mono ?_); rintro e w1 ⟨vk, rfl, h1, ho, k1_⟩; refine ⟨_, rfl, ?_⟩; have HR1 := Aside0.mk h1; have HK := Aside0.mk k1_; have HRW := Aside0.mk (dec_rows HD.out.row k1_ HGL.out ho HD.out.rd.belowW.1.size); obtain ⟨Ak, ck, rfl⟩ := Kd.R_slice ho; clear h1 ho k1_) | ((with_reducible refine gate_dst (N := 7) rfl ?_); (try (refine gate_guard (by rfl) ?_; dsimp only)); refine box_event ?hg (N := 7) ?hd (cs := #[.int .i64 0, .int .i64 0, .int .i64 0, .int .i64 0, .string ⟨#[]⟩, .slice none 0 0, .int .u16 0, .int .u16 0, .int .u16 0, .int .i64 0, .int .i64 0]) (t := 41) ?hr ?_; (case hd => rfl); (case hg => rfl); (case hr => first | (go_simp; done) | (go_simp; rfl)); intro gb hg wb hbox hb; have HV := Aside0.mk (Kd.S_below HRW.out.1 hb); have HKP := Aside0.mk (Kd.R_below HRW.out.2.1 hb); have HWW := Aside0.mk HRW.out.2.2; have HRB := Aside0.mk (HR1.out.below hb); have HGB := Aside0.mk hg; have BK := Aside0.mk hbox; have hs_ := HRB.out.flag; have hne_ : g ≠ gb := (by rw [hg]; exact Nat.ne_of_lt HR1.out.lt); have hne2_ : gb ≠ g := Ne.symm hne_; obtain ⟨hc0_, hf0_, hc1_, hf1_, hc2_, hf2_, hc3_, hf3_, hc4_, hf4_, hc5_, hf5_, hc6_, hf6_, hc7_, hf7_, hc8_, hf8_, hc9_, hf9_, hc10_, hf10_⟩ := cells11 hbox; clear hg hbox hb))
      have HLE := Aside0.mk (show w.heap.size ≤ gb from by rw [HGB.out]; exact HR1.out.belowW.1.size)
      have HRC := Aside0.mk (show RD w (World.setCell (World.setCell (World.setCell (World.setCell (World.setCell (World.setCell (World.setCell (World.setCell (World.setCell (World.setCell (World.setCell wb ⟨gb, 0, none⟩ (.int .i64 a)) ⟨gb, 1, none⟩ (.int .i64 b)) ⟨gb, 2, none⟩ (.int .i64 c)) ⟨gb, 3, none⟩ (.int .i64 d)) ⟨gb, 4, none⟩ (.string t)) ⟨gb, 5, none⟩ (.slice Ak kp.length ck)) ⟨gb, 6, none⟩ (.int .u16 0)) ⟨gb, 7, none⟩ (.int .u16 0)) ⟨gb, 8, none⟩ (.int .u16 0)) ⟨gb, 9, none⟩ (.int .i64 0)) ⟨gb, 10, none⟩ (.int .i64 0)) g l1 1 false from (ch_rd HRB.out hne_ HLE.out _ _ _ _ _ _ _ _ _ _ _))
      have HVC := Aside0.mk (show Kd.S k41 41 (World.setCell (World.setCell (World.setCell (World.setCell (World.setCell (World.setCell (World.setCell (World.setCell (World.setCell (World.setCell (World.setCell wb ⟨gb, 0, none⟩ (.int .i64 a)) ⟨gb, 1, none⟩ (.int .i64 b)) ⟨gb, 2, none⟩ (.int .i64 c)) ⟨gb, 3, none⟩ (.int .i64 d)) ⟨gb, 4, none⟩ (.string t)) ⟨gb, 5, none⟩ (.slice Ak kp.length ck)) ⟨gb, 6, none⟩ (.int .u16 0)) ⟨gb, 7, none⟩ (.int .u16 0)) ⟨gb, 8, none⟩ (.int .u16 0)) ⟨gb, 9, none⟩ (.int .i64 0)) ⟨gb, 10, none⟩ (.int .i64 0)) w.heap.size (fun k_ => k_ ≠ g ∧ k_ < wr.heap.size) u6 acc from (ch_S HV.out (fun k_ h_ => by have := h_.2; have := HGB.out; have := HWW.out; omega) _ _ _ _ _ _ _ _ _ _ _))
      have HKC := Aside0.mk (show Kd.R (Kd.int .i64) 3 (World.setCell (World.setCell (World.setCell (World.setCell (World.setCell (World.setCell (World.setCell (World.setCell (World.setCell (World.setCell (World.setCell wb ⟨gb, 0, none⟩ (.int .i64 a)) ⟨gb, 1, none⟩ (.int .i64 b)) ⟨gb, 2, none⟩ (.int .i64 c)) ⟨gb, 3, none⟩ (.int .i64 d)) ⟨gb, 4, none⟩ (.string t)) ⟨gb, 5, none⟩ (.slice Ak kp.length ck)) ⟨gb, 6, none⟩ (.int .u16 0)) ⟨gb, 7, none⟩ (.int .u16 0)) ⟨gb, 8, none⟩ (.int .u16 0)) ⟨gb, 9, none⟩ (.int .i64 0)) ⟨gb, 10, none⟩ (.int .i64 0)) w.heap.size (fun k_ => (k_ ≠ g ∧ some k_ ≠ u6.ownBlock) ∧ wr.heap.size ≤ k_ ∧ k_ < w1.heap.size) (.slice Ak kp.length ck) kp from (ch_R HKP.out (fun k_ h_ => by have := h_.2.2; have := HGB.out; omega) _ _ _ _ _ _ _ _ _ _ _))
      have BKC := Aside0.mk (show (World.heap (World.setCell (World.setCell (World.setCell (World.setCell (World.setCell (World.setCell (World.setCell (World.setCell (World.setCell (World.setCell (World.setCell wb ⟨gb, 0, none⟩ (.int .i64 a)) ⟨gb, 1, none⟩ (.int .i64 b)) ⟨gb, 2, none⟩ (.int .i64 c)) ⟨gb, 3, none⟩ (.int .i64 d)) ⟨gb, 4, none⟩ (.string t)) ⟨gb, 5, none⟩ (.slice Ak kp.length ck)) ⟨gb, 6, none⟩ (.int .u16 0)) ⟨gb, 7, none⟩ (.int .u16 0)) ⟨gb, 8, none⟩ (.int .u16 0)) ⟨gb, 9, none⟩ (.int .i64 0)) ⟨gb, 10, none⟩ (.int .i64 0)))[gb]? = some (.cells #[.int .i64 a, .int .i64 b, .int .i64 c, .int .i64 d, .string t, .slice Ak kp.length ck, .int .u16 0, .int .u16 0, .int .u16 0, .int .i64 0, .int .i64 0] 41 (0, 0)) from (ch_blk BK.out _ _ _ _ _ _ _ _ _ _ _))
      clear hs_ hne_ hne2_ HV HKP HRB BK hc0_ hf0_ hc1_ hf1_ hc2_ hf2_ hc3_ hf3_ hc4_ hf4_ hc5_ hf5_ hc6_ hf6_ hc7_ hf7_ hc8_ hf8_ hc9_ hf9_ hc10_ hf10_
      generalize (World.setCell (World.setCell (World.setCell (World.setCell (World.setCell (World.setCell (World.setCell (World.setCell (World.setCell (World.setCell (World.setCell wb ⟨gb, 0, none⟩ (.int .i64 a)) ⟨gb, 1, none⟩ (.int .i64 b)) ⟨gb, 2, none⟩ (.int .i64 c)) ⟨gb, 3, none⟩ (.int .i64 d)) ⟨gb, 4, none⟩ (.string t)) ⟨gb, 5, none⟩ (.slice Ak kp.length ck)) ⟨gb, 6, none⟩ (.int .u16 0)) ⟨gb, 7, none⟩ (.int .u16 0)) ⟨gb, 8, none⟩ (.int .u16 0)) ⟨gb, 9, none⟩ (.int .i64 0)) ⟨gb, 10, none⟩ (.int .i64 0)) = w2 at HRC HVC HKC BKC ⊢
      have hs2_ := HRC.out.flag
      obtain ⟨hx0_, _, hx1_, _, hx2_, _, hx3_, _, hx4_, _, hx5_, _, hx6_, _, hx7_, _, hx8_, _, hx9_, _, hx10_, _⟩ := cells11 BKC.out
      go_wp2
      go_roundg k1
      case measure => have := HK1.out; omega
      case rel => exact ⟨l1, acc, HA, ⟨by have := HK1.out; omega⟩, ⟨HRC.out, Kd.S_mono HVC.out (fun _ h_ => h_.1)⟩⟩
def script_Decode.f (k : Nat) (l0 : List Int) (a1 : Int) : Option (List (S41)) := if l0.all (fun x => decide (0 ≤ x) && decide (x < 256)) = true then script_Decode.l0 k l0 (script_Decode.nodes a1) [] else none
theorem script_Decode.calls (k : Nat) (A0 : Option Addr) (c0 : Nat) (l0 : List Int) (a1 : Int) (r : List (S41)) (w : World) (hr0 : Kd.C (Kd.int .u8) w A0 l0.length l0) (hc0 : l0.length ≤ c0) (h : script_Decode.f k l0 a1 = some r) :
  Calls Try.prog 9 #[.slice A0 l0.length c0, .int .i64 a1] w fun e w' => ∃ v0_ : Value, e = .returned (v0_) ∧ Kd.S k41 41 w' w.heap.size (fun _ => True) v0_ r ∧ Below w.heap.size w w' := by
 unfold script_Decode.f at h
 by_cases hb : l0.all (fun x => decide (0 ≤ x) && decide (x < 256)) = true
 ·rw [if_pos hb] at h
  have hby : ∀ x ∈ l0, 0 ≤ x ∧ x < 256 := by
   intro x hx
   have := List.all_eq_true.1 hb x hx
   simpa using this
  unfold script_Decode.nodes at h
  by_cases h1 : a1 < 1
  ·rw [if_pos h1] at h
   exact script_Decode.calls_lo k A0 c0 l0 a1 r w hr0 hc0 hby h1 h
  ·rw [if_neg h1] at h
   by_cases h9 : a1 > 9
   ·rw [if_pos h9] at h
    exact script_Decode.calls_hi k A0 c0 l0 a1 r w hr0 hc0 hby h1 h9 h
   ·rw [if_neg h9] at h
    exact script_Decode.calls_mid k A0 c0 l0 a1 r w hr0 hc0 hby h1 h9 h
 ·rw [if_neg hb] at h
  cases h
end Go.Proofs.Ytpoejopnjkcdpaa.QA

