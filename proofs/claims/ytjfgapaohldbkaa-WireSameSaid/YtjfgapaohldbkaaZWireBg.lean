/- What wire.Cmd, wire.SameCmd and the statements' begun come to: the bytes of a command; true where two commands are equal; true. Conditions: what each states. -/
import Derived.Test.YtjfgapaohldbkaaZWireTk
import Derived.Test.YtjfgapaohldbkaaZWireSp
import Derived.Test.YtjfgapaohldbkaaZWireWr
namespace Go.Proofs.Ytjfgapaohldbkaa.WireBg
open Go.RowKit Go.Proofs.Ytjfgapaohldbkaa.QA Go.Proofs.YtjfgapaohldbkaaW.PrintWords Go.Proofs.YtjfgapaohldbkaaW.PrintLast Go.Proofs.YtjfgapaohldbkaaW.PrintMore Go.Proofs.Ytjfgapaohldbkaa.Facts Go.Proofs.Ytjfgapaohldbkaa.Codec Go.Proofs.Ytjfgapaohldbkaa.WireC Go.Proofs.Ytjfgapaohldbkaa.WireEq Go.Proofs.Ytjfgapaohldbkaa.WireBlk Go.Proofs.Ytjfgapaohldbkaa.WireRd Go.Proofs.Ytjfgapaohldbkaa.WireSm Go.Proofs.Ytjfgapaohldbkaa.WireWr Go.Proofs.Ytjfgapaohldbkaa.WireLaw
attribute [local go_sem] max2_int min2_int max_two min_two max_three min_three max_four min_four
set_option linter.unusedVariables false
set_option linter.unusedSimpArgs false
theorem cmd_calls (c : CmdV) {A1 A2 : Option Addr} {c1 c2 : Nat} {w : World} (h1 : Kd.C k65 w A1 c.spans.length c.spans) (k1 : c.spans.length ≤ c1) (h2 : Kd.C k67 w A2 c.writes.length c.writes) (k2 : c.writes.length ≤ c2) (hg : gCmd0 c) (hs : c.spans.length < 140737488355328) (hws : c.writes.length < 140737488355328) (hl : (eCmd c).length + 200 < 140737488355328) :
  Calls Try.prog 14 #[cmdAgg c (.slice A1 c.spans.length c1) (.slice A2 c.writes.length c2)] w fun e w' => ∃ v : Value, e = .returned v ∧ Kd.R (Kd.int .u8) 5 w' w.heap.size (fun _ => True) v (eCmd c) ∧ Below w.heap.size w w' :=
 wire_Cmd.calls (c.spans.length + c.writes.length + 40) c.kind c.epoch c.node c.home c.by_.f0 c.by_.f1 c.by_.f2 c.by_.f3 c.at_.f0 c.at_.f1 c.wall c.yes A1 c1 c.spans A2 c2 c.writes (eCmd c) w h1 k1 h2 k2 (cmd_f c _ (Nat.le_refl _) hg hs hws hl)
theorem same_cmd (c d : CmdV) (hs : c.spans.length ≤ 9223372036854775807) (hws : c.writes.length ≤ 9223372036854775807) : ∃ k, wire_SameCmd.f k c.kind c.epoch c.node c.home c.by_.f0 c.by_.f1 c.by_.f2 c.by_.f3 c.at_.f0 c.at_.f1 c.wall c.yes c.spans c.writes d.kind d.epoch d.node d.home d.by_.f0 d.by_.f1 d.by_.f2 d.by_.f3 d.at_.f0 d.at_.f1 d.wall d.yes d.spans d.writes = some (eqb c d) := by
 refine ⟨c.spans.length + c.writes.length + 1, ?_⟩
 have e1 : api_Span.f (c.spans.length + c.writes.length + 1) c.spans d.spans = some (eqb c.spans d.spans) := at_rounds (fun k => api_Span.mono c.spans d.spans k) (by omega) (api_Span_eq c.spans d.spans hs)
 have e2 : api_Write.f (c.spans.length + c.writes.length + 1) c.writes d.writes = some (eqb c.writes d.writes) := at_rounds (fun k => api_Write.mono c.writes d.writes k) (by omega) (api_Write_eq c.writes d.writes hws)
 unfold wire_SameCmd.f
 have no : ∀ {p : CmdV → CmdV → Prop}, p c c → ¬ p c d → some false = some (eqb c d) := fun {p} h h2 => by rw [eqb_false.2 (fun e : c = d => h2 (by rw [← e]; exact h))]
 by_cases h0 : c.kind = d.kind
 case neg => rw [if_neg h0]; exact no (p := fun x y => x.kind = y.kind) rfl h0
 rw [if_pos h0]
 by_cases h1 : c.epoch = d.epoch
 case neg => rw [if_neg h1]; exact no (p := fun x y => x.epoch = y.epoch) rfl h1
 rw [if_pos h1]
 by_cases h2 : c.node = d.node
 case neg => rw [if_neg h2]; exact no (p := fun x y => x.node = y.node) rfl h2
 rw [if_pos h2]
 by_cases h3 : c.home = d.home
 case neg => rw [if_neg h3]; exact no (p := fun x y => x.home = y.home) rfl h3
 rw [if_pos h3]
 by_cases h4 : (c.by_.f0 == d.by_.f0 && (c.by_.f1 == d.by_.f1 && (c.by_.f2 == d.by_.f2 && (c.by_.f3 == d.by_.f3)))) = true
 case neg => rw [if_neg h4]; exact no (p := fun x y => (x.by_.f0 == y.by_.f0 && (x.by_.f1 == y.by_.f1 && (x.by_.f2 == y.by_.f2 && (x.by_.f3 == y.by_.f3)))) = true) (by simp) h4
 rw [if_pos h4]
 by_cases h5 : (c.at_.f0 == d.at_.f0 && (c.at_.f1 == d.at_.f1)) = true
 case neg => rw [if_neg h5]; exact no (p := fun x y => (x.at_.f0 == y.at_.f0 && (x.at_.f1 == y.at_.f1)) = true) (by simp) h5
 rw [if_pos h5]
 by_cases h6 : c.wall = d.wall
 case neg => rw [if_neg h6]; exact no (p := fun x y => x.wall = y.wall) rfl h6
 rw [if_pos h6]
 by_cases h7 : (c.yes == d.yes) = true
 case neg => rw [if_neg h7]; exact no (p := fun x y => (x.yes == y.yes) = true) (by simp) h7
 rw [if_pos h7]
 refine bind_to e1 ?_
 by_cases h8 : c.spans = d.spans
 case neg => rw [eqb_false.2 h8, if_neg (by decide)]; exact no (p := fun x y => x.spans = y.spans) rfl h8
 rw [eqb_true.2 h8, if_pos rfl]
 refine bind_to e2 (congrArg some ?_)
 obtain ⟨a0, a1, a2, a3, ⟨a4, a5, a6, a7⟩, ⟨a8, a9⟩, a10, a11, a12, a13⟩ := c
 obtain ⟨b0, b1, b2, b3, ⟨b4, b5, b6, b7⟩, ⟨b8, b9⟩, b10, b11, b12, b13⟩ := d
 simp only [Bool.and_eq_true, beq_iff_eq] at h0 h1 h2 h3 h4 h5 h6 h7 h8
 rw [Bool.eq_iff_iff, eqb_true, eqb_true]
 simp only [CmdV.mk.injEq, S23.mk.injEq, S25.mk.injEq]
 simp_all
theorem sameCmd_calls (c d : CmdV) {A1 A2 B1 B2 : Option Addr} {c1 c2 d1 d2 : Nat} {w : World} (h1 : Kd.C k65 w A1 c.spans.length c.spans) (k1 : c.spans.length ≤ c1) (h2 : Kd.C k67 w A2 c.writes.length c.writes) (k2 : c.writes.length ≤ c2) (h3 : Kd.C k65 w B1 d.spans.length d.spans) (k3 : d.spans.length ≤ d1) (h4 : Kd.C k67 w B2 d.writes.length d.writes) (k4 : d.writes.length ≤ d2) :
  Calls Try.prog 10 #[cmdAgg c (.slice A1 c.spans.length c1) (.slice A2 c.writes.length c2), cmdAgg d (.slice B1 d.spans.length d1) (.slice B2 d.writes.length d2)] w fun e w' => e = .returned (.bool (eqb c d)) ∧ Below w.heap.size w w' := by
 obtain ⟨k, hk⟩ := same_cmd c d h1.2.1 h2.2.1
 exact wire_SameCmd.calls k c.kind c.epoch c.node c.home c.by_.f0 c.by_.f1 c.by_.f2 c.by_.f3 c.at_.f0 c.at_.f1 c.wall c.yes A1 c1 c.spans A2 c2 c.writes d.kind d.epoch d.node d.home d.by_.f0 d.by_.f1 d.by_.f2 d.by_.f3 d.at_.f0 d.at_.f1 d.wall d.yes B1 d1 d.spans B2 d2 d.writes (eqb c d) w h1 k1 h2 k2 h3 k3 h4 k4 hk
def bCmd : CmdV := ⟨3, 0, 0, 0, ⟨0, 0, 0, 0⟩, ⟨0, 0⟩, -1, false, [], []⟩
theorem in0 : In64 0 := ⟨by omega, by omega⟩
theorem z_good : gCmd0 zCmd := ⟨in0, in0, in0, in0, ⟨in0, in0, in0, in0⟩, ⟨in0, in0⟩, in0⟩
theorem b_good : gCmd0 bCmd := ⟨⟨by decide, by decide⟩, in0, in0, in0, ⟨in0, in0, in0, in0⟩, ⟨in0, in0⟩, ⟨by decide, by decide⟩⟩
theorem b_good' : gCmd bCmd := ⟨⟨by decide, by decide⟩, in0, in0, in0, ⟨in0, in0, in0, in0⟩, ⟨in0, in0⟩, ⟨by decide, by decide⟩, ⟨Nat.zero_le _, fun x hx => by cases hx⟩, ⟨Nat.zero_le _, fun x hx => by cases hx⟩⟩
theorem z_len : (eCmd zCmd).length = 29 := by decide +kernel
theorem b_len : (eCmd bCmd).length = 29 := by decide +kernel
theorem b_bytes : Bytes (eCmd bCmd) := by
 intro x hx
 have : ((eCmd bCmd).all fun x => decide (0 ≤ x) && decide (x < 256)) = true := by decide +kernel
 have := List.all_eq_true.1 this x hx
 simpa using this
theorem taken_b {w w' : World} {e : Ending} (h : TakenCmd w (eCmd bCmd) e w') : ∃ v1 v2, e = .returned (.tuple #[cmdAgg bCmd v1 v2, .int .i64 0]) ∧ Kd.R k65 65 w' w.heap.size (fun _ => True) v1 [] ∧ Kd.R k67 67 w' w.heap.size (fun _ => True) v2 [] ∧ Below w.heap.size w w' := by
 obtain ⟨c, v1, v2, er, he, r1, r2, hb, hd⟩ := h
 have hp := rtCmd b_good' []
 rw [List.append_nil] at hp
 rcases hd with ⟨rfl, hd⟩ | ⟨_, _, hd⟩
 ·rw [hp] at hd
  injection hd with hd
  injection hd with hd _
  injection hd with _ hd
  subst hd
  exact ⟨v1, v2, he, r1, r2, hb⟩
 ·exact absurd hp (hd _)
theorem eq_bz : eqb bCmd zCmd = false := eqb_false.2 (fun h => by have := congrArg CmdV.kind h; simp [bCmd, zCmd] at this)
set_option maxHeartbeats 4000000 in
set_option maxRecDepth 100000 in
theorem begun_calls (w : World) : Calls Try.prog 7 #[] w fun e w' => e = .returned (.bool true) ∧ Below w.heap.size w w' := by
 have hu29 := Try.underlying29
 have hu33 := Try.underlying33
 go_enter Try.func7, Try.ntmps7
 have hz := eqb_self zPart
 have hbz := eq_bz
 go_wp2_with (first | ((with_reducible refine gate_callee (f := 14) rfl ?_); refine goesL_ (some 5) rfl rfl Try.func14 (by kernel_rfl) rfl #[.agg #[.int .i64 0, .int .i64 0, .int .i64 0, .int .i64 0, .int .i64 0, .int .i64 0, .int .i64 0, .int .i64 0, .int .i64 0, .int .i64 0, .int .i64 0, .bool false, .slice none 0 0, .slice none 0 0]] rfl (by (try simp only [List.map_toArray, List.map_cons, List.map_nil]); first | done | rfl) ?_; (refine (cmd_calls zCmd (A1 := none) (A2 := none) (c1 := 0) (c2 := 0) (Kd.C_nil _ _) (Nat.le_refl _) (Kd.C_nil _ _) (Nat.le_refl _) z_good (by decide) (by decide) (by rw [z_len]; decide)).mono ?_); rintro e w1 ⟨v, rfl, ho, hb⟩; refine ⟨_, rfl, ?_⟩; obtain ⟨Ab, cb, rfl⟩ := Kd.R_slice ho; rw [z_len]; have HB := Aside0.mk hb; clear ho hb) | ((with_reducible refine gate_callee (f := 14) rfl ?_); refine goesL_ (some 8) rfl rfl Try.func14 (by kernel_rfl) rfl #[.agg #[.int .i64 3, .int .i64 0, .int .i64 0, .int .i64 0, .int .i64 0, .int .i64 0, .int .i64 0, .int .i64 0, .int .i64 0, .int .i64 0, .int .i64 (-1), .bool false, .slice none 0 0, .slice none 0 0]] rfl (by (try simp only [List.map_toArray, List.map_cons, List.map_nil]); first | done | rfl) ?_; (refine (cmd_calls bCmd (A1 := none) (A2 := none) (c1 := 0) (c2 := 0) (Kd.C_nil _ _) (Nat.le_refl _) (Kd.C_nil _ _) (Nat.le_refl _) b_good (by decide) (by decide) (by rw [b_len]; decide)).mono ?_); rintro e w2 ⟨v, rfl, ho, hb⟩; refine ⟨_, rfl, ?_⟩; obtain ⟨Ac, cc, rfl, hlc, hC⟩ := Kd.R_reads ho; have HC := Aside0.mk (And.intro hC hlc); have HBn := Aside0.mk (below_step HB.out hb); clear ho hb HB hC hlc; have HB := HBn; clear HBn) | ((with_reducible refine gate_callee (f := 22) rfl ?_); refine goesL_ (some 9) rfl rfl Try.func22 (by kernel_rfl) rfl #[.slice Ac (eCmd bCmd).length cc] rfl (by (try simp only [List.map_toArray, List.map_cons, List.map_nil]); first | done | rfl) ?_; (refine (takeCmd_calls HC.out.1 HC.out.2 b_bytes (by rw [b_len]; decide)).mono ?_); rintro e w3 ht; obtain ⟨v1, v2, rfl, r1, r2, hb⟩ := taken_b ht; refine ⟨_, rfl, ?_⟩; obtain ⟨Av1, cv1, rfl, hl1, hC1⟩ := Kd.R_reads r1; obtain ⟨Av2, cv2, rfl, hl2, hC2⟩ := Kd.R_reads r2; unfold cmdAgg bCmd; have HR1 := Aside0.mk (And.intro hC1 hl1); have HR2 := Aside0.mk (And.intro hC2 hl2); have HBn := Aside0.mk (below_step HB.out hb); clear ht r1 r2 hb HB hC1 hl1 hC2 hl2; have HB := HBn; have HBS := Aside0.mk HB.out.size; clear HBn) | ((with_reducible refine gate_dst (N := 2) rfl ?_); refine box_event ?hg (N := 2) ?hd (cs := #[.int .i64 0, .int .i64 0, .int .i64 0, .int .i64 0, .int .i64 0, .int .i64 0, .int .i64 0, .int .i64 0, .int .i64 0, .int .i64 0, .int .i64 0, .bool false, .slice none 0 0, .slice none 0 0]) (t := 29) ?hr ?_; (case hd => rfl); (case hg => rfl); (case hr => first | (go_simp; done) | (go_simp; rfl)); intro gc hg w4 hbox hb; have BC := Aside0.mk hbox; have GC := Aside0.mk (show w3.heap.size ≤ gc from Nat.le_of_eq hg.symm); have HBn := Aside0.mk (below_step HB.out hb); have HB3 := Aside0.mk hb; clear HB; have HB := HBn; clear HBn hg hbox hb) | ((with_reducible refine gate_store (t := 29) (p := 2) rfl ?_); refine store_blk ?hgd (t := 29) (p := 2) (x := .tmp 10) ?ho ?hN (off := 0) (u := .agg #[.int .i64 3, .int .i64 0, .int .i64 0, .int .i64 0, .int .i64 0, .int .i64 0, .int .i64 0, .int .i64 0, .int .i64 0, .int .i64 0, .int .i64 (-1), .bool false, .slice Av1 0 cv1, .slice Av2 0 cv2]) (seg := ?_) [.int .i64 3, .int .i64 0, .int .i64 0, .int .i64 0, .int .i64 0, .int .i64 0, .int .i64 0, .int .i64 0, .int .i64 0, .int .i64 0, .int .i64 (-1), .bool false, .slice Av1 0 cv1, .slice Av2 0 cv2] ?hp ?hx BC.out ?hu ?ht ?hfit ?h1 ?hnew ?_; (case hgd => rfl); (case ho => rfl); (case hN => rfl); (case hp => rfl); (case hx => rfl); (case hu => rfl); (case ht => kernel_rfl); (case hfit => exact Nat.le_of_ble_eq_true rfl); (case h1 => exact (List.forall_mem_cons.2 ⟨rfl, List.forall_mem_cons.2 ⟨rfl, List.forall_mem_cons.2 ⟨rfl, List.forall_mem_cons.2 ⟨rfl, List.forall_mem_cons.2 ⟨rfl, List.forall_mem_cons.2 ⟨rfl, List.forall_mem_cons.2 ⟨rfl, List.forall_mem_cons.2 ⟨rfl, List.forall_mem_cons.2 ⟨rfl, List.forall_mem_cons.2 ⟨rfl, List.forall_mem_cons.2 ⟨rfl, List.forall_mem_cons.2 ⟨rfl, List.forall_mem_cons.2 ⟨rfl, List.forall_mem_cons.2 ⟨rfl, (fun _ h => by cases h)⟩⟩⟩⟩⟩⟩⟩⟩⟩⟩⟩⟩⟩⟩)); (case hnew => rfl); intro wS hS hgS; have BCn := Aside0.mk hS; have HBn := Aside0.mk (below_only HB.out hgS (Nat.le_trans HBS.out GC.out) HB.out.size); have HB3n := Aside0.mk (below_only HB3.out hgS GC.out HB3.out.size); clear BC HB HB3; have BC := BCn; have HB := HBn; have HB3 := HB3n; clear BCn HBn HB3n hS hgS; have bc_0wS : wS.cell? ⟨gc, 0, none⟩ = some (.int .i64 3) := (blk_cell BC.out 0).trans rfl; have bc_10wS : wS.cell? ⟨gc, 10, none⟩ = some (.int .i64 (-1)) := (blk_cell BC.out 10).trans rfl) | (go_at_call 12; refine (samePart_calls (A1 := none) (A2 := none) (A3 := none) (B1 := none) (B2 := none) (B3 := none) (a1 := 0) (a2 := 0) (a3 := 0) (b1 := 0) (b2 := 0) (b3 := 0) zPart zPart _ (Kd.C_nil _ _) (Nat.le_refl _) (Kd.C_nil _ _) (Nat.le_refl _) (Kd.C_nil _ _) (Nat.le_refl _) (Kd.C_nil _ _) (Nat.le_refl _) (Kd.C_nil _ _) (Nat.le_refl _) (Kd.C_nil _ _) (Nat.le_refl _)).mono ?_; rintro e w5 ⟨rfl, hb⟩; have BCn := Aside0.mk (blk_below BC.out hb); have HBn := Aside0.mk (below_step HB.out hb); have HB3n := Aside0.mk (below_step HB3.out hb); clear BC HB HB3; have BC := BCn; have HB := HBn; have HB3 := HB3n; clear BCn HBn HB3n hb; have bc_0w5 : w5.cell? ⟨gc, 0, none⟩ = some (.int .i64 3) := (blk_cell BC.out 0).trans rfl; have bc_1w5 : w5.cell? ⟨gc, 1, none⟩ = some (.int .i64 0) := (blk_cell BC.out 1).trans rfl; have bc_2w5 : w5.cell? ⟨gc, 2, none⟩ = some (.int .i64 0) := (blk_cell BC.out 2).trans rfl; have bc_3w5 : w5.cell? ⟨gc, 3, none⟩ = some (.int .i64 0) := (blk_cell BC.out 3).trans rfl; have bc_4w5 : w5.cell? ⟨gc, 4, none⟩ = some (.int .i64 0) := (blk_cell BC.out 4).trans rfl; have bc_5w5 : w5.cell? ⟨gc, 5, none⟩ = some (.int .i64 0) := (blk_cell BC.out 5).trans rfl; have bc_6w5 : w5.cell? ⟨gc, 6, none⟩ = some (.int .i64 0) := (blk_cell BC.out 6).trans rfl; have bc_7w5 : w5.cell? ⟨gc, 7, none⟩ = some (.int .i64 0) := (blk_cell BC.out 7).trans rfl; have bc_8w5 : w5.cell? ⟨gc, 8, none⟩ = some (.int .i64 0) := (blk_cell BC.out 8).trans rfl; have bc_9w5 : w5.cell? ⟨gc, 9, none⟩ = some (.int .i64 0) := (blk_cell BC.out 9).trans rfl; have bc_10w5 : w5.cell? ⟨gc, 10, none⟩ = some (.int .i64 (-1)) := (blk_cell BC.out 10).trans rfl; have bc_11w5 : w5.cell? ⟨gc, 11, none⟩ = some (.bool false) := (blk_cell BC.out 11).trans rfl; have bc_12w5 : w5.cell? ⟨gc, 12, none⟩ = some (.slice Av1 0 cv1) := (blk_cell BC.out 12).trans rfl; have bc_13w5 : w5.cell? ⟨gc, 13, none⟩ = some (.slice Av2 0 cv2) := (blk_cell BC.out 13).trans rfl) | (go_at_call 10; refine (sameCmd_calls bCmd zCmd (Kd.C_below HR1.out.1 HB3.out) HR1.out.2 (Kd.C_below HR2.out.1 HB3.out) HR2.out.2 (B1 := none) (B2 := none) (d1 := 0) (d2 := 0) (Kd.C_nil _ _) (Nat.le_refl _) (Kd.C_nil _ _) (Nat.le_refl _)).mono ?_; rintro e w6 ⟨rfl, hb⟩; have HBn := Aside0.mk (below_step HB.out hb); clear HB hb; have HB := HBn; clear HBn))
 go_ret
 exact ⟨rfl, HB.out⟩
end Go.Proofs.Ytjfgapaohldbkaa.WireBg

