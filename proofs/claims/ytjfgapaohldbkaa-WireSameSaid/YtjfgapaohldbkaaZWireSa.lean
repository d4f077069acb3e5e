/- The walk of WireSame: the call returns true, whatever its arguments are. Conditions: what the opened arguments give. -/
import Derived.Test.YtjfgapaohldbkaaZQAll
import Derived.Deep.RegionWith
import Derived.Test.YtjfgapaohldbkaaZWireBg
import Derived.Test.YtjfgapaohldbkaaZWireRs
import Derived.Test.YtjfgapaohldbkaaZWireLt
import Derived.Test.YtjfgapaohldbkaaZWireRefWr
import Derived.Test.YtjfgapaohldbkaaZQAx16
namespace Go.Proofs.Ytjfgapaohldbkaa.WireSa
open Go.RowKit Go.Proofs.Ytjfgapaohldbkaa.QA Go.Proofs.YtjfgapaohldbkaaW.PrintWords Go.Proofs.YtjfgapaohldbkaaW.PrintLast Go.Proofs.YtjfgapaohldbkaaW.PrintMore Go.Proofs.Ytjfgapaohldbkaa.Facts Go.Proofs.Ytjfgapaohldbkaa.Codec Go.Proofs.Ytjfgapaohldbkaa.Lex Go.Proofs.Ytjfgapaohldbkaa.WireC Go.Proofs.Ytjfgapaohldbkaa.WireEq Go.Proofs.Ytjfgapaohldbkaa.WireBlk Go.Proofs.Ytjfgapaohldbkaa.WireRd Go.Proofs.Ytjfgapaohldbkaa.WireSm Go.Proofs.Ytjfgapaohldbkaa.WireWr Go.Proofs.Ytjfgapaohldbkaa.WireRefWr Go.Proofs.Ytjfgapaohldbkaa.WireLaw Go.Proofs.Ytjfgapaohldbkaa.WireBg Go.Proofs.Ytjfgapaohldbkaa.WireLt
attribute [local go_sem] max2_int min2_int max_two min_two max_three min_three max_four min_four
set_option linter.unusedVariables false
set_option linter.unusedSimpArgs false
theorem load_exec {P : Program} {o : Oper} {a : Act} {W : World} {t : TypeId} {p : Tmp} {g : Nat} {e : TypeId} {cs : Array Value} {d : TypeDesc} (ho : o.op = .load t (.tmp p)) (hp : a.eval (.tmp p) = .pointer (some ⟨g, 0, none⟩)) (hh : W.heap[g]? = some (.cells cs e (0, 0))) (hu : P.underlying t = some d) (hd : (match d with | .struct _ | .array _ _ => true | _ => false) = true) (hi : (P.info? t).map (·.size) = some cs.size) : (execOp a.eval o).run P W = .ok (.value (.agg cs)) W := by
 unfold execOp
 simp only [ho, hp, Sem.run_bind, Sem.run_pure, Result.andThen_ok, load_run hh hu hd hi]
theorem lightC_calls {k : Nat} {b : Bool} (c : CmdV) {A1 A2 : Option Addr} {c1 c2 : Nat} {w : World} (h1 : Kd.C k65 w A1 c.spans.length c.spans) (k1 : c.spans.length ≤ c1) (h2 : Kd.C k67 w A2 c.writes.length c.writes) (k2 : c.writes.length ≤ c2) (h : lightF k c = some b) :
  Calls Try.prog 8 #[cmdAgg c (.slice A1 c.spans.length c1) (.slice A2 c.writes.length c2)] w fun e w' => e = .returned (.bool b) ∧ Below w.heap.size w w' :=
 antipodelaw14_LightCmd.calls k c.kind c.epoch c.node c.home c.by_.f0 c.by_.f1 c.by_.f2 c.by_.f3 c.at_.f0 c.at_.f1 c.wall c.yes A1 c1 c.spans A2 c2 c.writes b w h1 k1 h2 k2 h
theorem lightP_calls {k : Nat} {b : Bool} (p : PartV) {A1 A2 A3 : Option Addr} {a1 a2 a3 : Nat} {w : World} (h1 : Kd.C k75 w A1 p.cells.length p.cells) (k1 : p.cells.length ≤ a1) (h2 : Kd.C k83 w A2 p.records.length p.records) (k2 : p.records.length ≤ a2) (h3 : Kd.C k83 w A3 p.done.length p.done) (k3 : p.done.length ≤ a3) (h : lightPF k p = some b) :
  Calls Try.prog 9 #[partV p (.slice A1 p.cells.length a1) (.slice A2 p.records.length a2) (.slice A3 p.done.length a3)] w fun e w' => e = .returned (.bool b) ∧ Below w.heap.size w w' :=
 antipodelaw14_LightPart.calls k p.epoch p.holder p.floor.f0 p.floor.f1 p.closed p.low A1 a1 p.cells A2 a2 p.records A3 a3 p.done b w h1 k1 h2 k2 h3 k3 h
theorem T_bytes' (s : ByteArray) (h : gT s) : Bytes (eT s) := T_bytes (bytesOf_bytes s) (by rw [bytesOf_length]; unfold gT at h; omega)
theorem eN_bytes {a : Int} (h : In64 a) : Bytes (eN a) := V_bytes (zig_u64 h)
theorem eF_bytes (b : Bool) : Bytes (eF b) := fun c hc => by cases b <;> simp [eF] at hc <;> omega
theorem eS_bytes (x : S25) : Bytes (eS x) := (be_bytes 8 _).append (be_bytes 8 _)
theorem eY_bytes {x : S23} (h : WireLaw.gY x) : Bytes (eY x) := (((eN_bytes h.1).append (eN_bytes h.2.1)).append (eN_bytes h.2.2.1)).append (eN_bytes h.2.2.2)
theorem flat_bytes {α : Type} {e : α → List Int} {l : List α} (h : ∀ x ∈ l, Bytes (e x)) : Bytes (l.flatMap e) := fun c hc => by
 obtain ⟨x, hx, hc⟩ := List.mem_flatMap.1 hc
 exact h x hx c hc
theorem eL_bytes {α : Type} {e : α → List Int} {g : α → Prop} {l : List α} (hg : gL g l) (h : ∀ x, g x → Bytes (e x)) : Bytes (eL e l) := (eN_bytes ⟨by omega, by have := hg.1; omega⟩).append (flat_bytes fun x hx => h x (hg.2 x hx))
theorem eCmd_bytes {c : CmdV} (h : gCmd c) : Bytes (eCmd c) := by
 obtain ⟨h1, h2, h3, h4, h5, h6, h7, h8, h9⟩ := h
 refine ((((((((((?_ : Bytes [1]).append (eN_bytes h1)).append (eN_bytes h2)).append (eN_bytes h3)).append (eN_bytes h4)).append (eY_bytes h5)).append (eS_bytes _)).append (eN_bytes h7)).append (eF_bytes _)).append (eL_bytes h8 fun x hx => (T_bytes' _ hx.1).append (T_bytes' _ hx.2))).append (eL_bytes h9 fun x hx => ((T_bytes' _ hx.1).append (eF_bytes _)).append (T_bytes' _ hx.2.2))
 intro c hc
 rw [List.mem_singleton.1 hc]
 omega
theorem same_cmdR {c d : CmdV} (hc : LightC c) (hd : LightC d) (gc : gCmd0 c) (gd : gCmd0 d) : ∃ k, antipoderef14_SameCmd.f k c.kind c.epoch c.node c.home c.by_.f0 c.by_.f1 c.by_.f2 c.by_.f3 c.at_.f0 c.at_.f1 c.wall c.yes c.spans c.writes d.kind d.epoch d.node d.home d.by_.f0 d.by_.f1 d.by_.f2 d.by_.f3 d.at_.f0 d.at_.f1 d.wall d.yes d.spans d.writes = some (eqb c d) := by
 have h1 := hc.1
 have h2 := hc.2.1
 have h3 := hd.1
 have h4 := hd.2.1
 have l1 := light_len hc
 have l2 := light_len hd
 refine ⟨240, ?_⟩
 unfold antipoderef14_SameCmd.f
 refine bind_to (cmdR_f c 240 (by omega) gc (by omega) (by omega) (by omega)) (bind_to (cmdR_f d 240 (by omega) gd (by omega) (by omega) (by omega)) (congrArg some ?_))
 rw [Bool.eq_iff_iff, eqb_true, beq_iff_eq, str_eq_iff (eCmd_bytes (light_good hc gc)) (eCmd_bytes (light_good hd gd))]
 exact ⟨fun h => eCmd_inj (light_good hc gc) (light_good hd gd) h, fun h => by rw [h]⟩
theorem sameCmdR_calls (c d : CmdV) {A1 A2 B1 B2 : Option Addr} {c1 c2 d1 d2 : Nat} {w : World} (h1 : Kd.C k65 w A1 c.spans.length c.spans) (k1 : c.spans.length ≤ c1) (h2 : Kd.C k67 w A2 c.writes.length c.writes) (k2 : c.writes.length ≤ c2) (h3 : Kd.C k65 w B1 d.spans.length d.spans) (k3 : d.spans.length ≤ d1) (h4 : Kd.C k67 w B2 d.writes.length d.writes) (k4 : d.writes.length ≤ d2) (hc : LightC c) (hd : LightC d) (gc : gCmd0 c) (gd : gCmd0 d) :
  Calls Try.prog 11 #[cmdAgg c (.slice A1 c.spans.length c1) (.slice A2 c.writes.length c2), cmdAgg d (.slice B1 d.spans.length d1) (.slice B2 d.writes.length d2)] w fun e w' => e = .returned (.bool (eqb c d)) ∧ Below w.heap.size w w' := by
 obtain ⟨k, hk⟩ := same_cmdR hc hd gc gd
 exact antipoderef14_SameCmd.calls k c.kind c.epoch c.node c.home c.by_.f0 c.by_.f1 c.by_.f2 c.by_.f3 c.at_.f0 c.at_.f1 c.wall c.yes A1 c1 c.spans A2 c2 c.writes d.kind d.epoch d.node d.home d.by_.f0 d.by_.f1 d.by_.f2 d.by_.f3 d.at_.f0 d.at_.f1 d.wall d.yes B1 d1 d.spans B2 d2 d.writes (eqb c d) w h1 k1 h2 k2 h3 k3 h4 k4 hk
set_option maxHeartbeats 4000000 in
set_option maxRecDepth 100000 in
theorem dark0 (c d : CmdV) (p q : PartV) (w : World) {E1 E2 F1 F2 M1 M2 M3 R1 R2 R3 : Option Addr} {e1 e2 f1 f2 m1 m2 m3 r1 r2 r3 : Nat} (hc1 : Kd.C k65 w E1 c.spans.length c.spans) (kc1 : c.spans.length ≤ e1) (hc2 : Kd.C k67 w E2 c.writes.length c.writes) (kc2 : c.writes.length ≤ e2) (hd1 : Kd.C k65 w F1 d.spans.length d.spans) (kd1 : d.spans.length ≤ f1) (hd2 : Kd.C k67 w F2 d.writes.length d.writes) (kd2 : d.writes.length ≤ f2) (hp1 : Kd.C k75 w M1 p.cells.length p.cells) (kp1 : p.cells.length ≤ m1) (hp2 : Kd.C k83 w M2 p.records.length p.records) (kp2 : p.records.length ≤ m2) (hp3 : Kd.C k83 w M3 p.done.length p.done) (kp3 : p.done.length ≤ m3) (hq1 : Kd.C k75 w R1 q.cells.length q.cells) (kq1 : q.cells.length ≤ r1) (hq2 : Kd.C k83 w R2 q.records.length q.records) (kq2 : q.records.length ≤ r2) (hq3 : Kd.C k83 w R3 q.done.length q.done) (kq3 : q.done.length ≤ r3) {j1 : Nat} (AL1 : Aside0 (lightF j1 c = some false)) :
  Calls Try.prog 3 #[cmdAgg c (.slice E1 c.spans.length e1) (.slice E2 c.writes.length e2), cmdAgg d (.slice F1 d.spans.length f1) (.slice F2 d.writes.length f2), partV p (.slice M1 p.cells.length m1) (.slice M2 p.records.length m2) (.slice M3 p.done.length m3), partV q (.slice R1 q.cells.length r1) (.slice R2 q.records.length r2) (.slice R3 q.done.length r3)] w (fun e w' => e = .returned (.bool true) ∧ Below w.heap.size w w') := by
 have Hc1 := Aside0.mk (And.intro hc1 kc1)
 have Hc2 := Aside0.mk (And.intro hc2 kc2)
 have Hd1 := Aside0.mk (And.intro hd1 kd1)
 have Hd2 := Aside0.mk (And.intro hd2 kd2)
 have Hp1 := Aside0.mk (And.intro hp1 kp1)
 have Hp2 := Aside0.mk (And.intro hp2 kp2)
 have Hp3 := Aside0.mk (And.intro hp3 kp3)
 have Hq1 := Aside0.mk (And.intro hq1 kq1)
 have Hq2 := Aside0.mk (And.intro hq2 kq2)
 have Hq3 := Aside0.mk (And.intro hq3 kq3)
 clear hc1 kc1 hc2 kc2 hd1 kd1 hd2 kd2 hp1 kp1 hp2 kp2 hp3 kp3 hq1 kq1 hq2 kq2 hq3 kq3
 unfold cmdAgg partV
 go_enter Try.func3, Try.ntmps3
 go_wp2_with (first | ((with_reducible refine gate_dst (N := 4) rfl ?_); refine qX 4 #[.int .i64 c.kind, .int .i64 c.epoch, .int .i64 c.node, .int .i64 c.home, .int .i64 c.by_.f0, .int .i64 c.by_.f1, .int .i64 c.by_.f2, .int .i64 c.by_.f3, .int .i64 c.at_.f0, .int .i64 c.at_.f1, .int .i64 c.wall, .bool c.yes, .slice E1 c.spans.length e1, .slice E2 c.writes.length e2] 29 ?_; intro gc hg wBc hbox hb; have HB := Aside0.mk hb; have Bc := Aside0.mk hbox; clear hg hbox hb) | ((with_reducible refine gate_dst (N := 5) rfl ?_); refine qX 5 #[.int .i64 d.kind, .int .i64 d.epoch, .int .i64 d.node, .int .i64 d.home, .int .i64 d.by_.f0, .int .i64 d.by_.f1, .int .i64 d.by_.f2, .int .i64 d.by_.f3, .int .i64 d.at_.f0, .int .i64 d.at_.f1, .int .i64 d.wall, .bool d.yes, .slice F1 d.spans.length f1, .slice F2 d.writes.length f2] 29 ?_; intro gd hg wBd hbox hb; replace HB := Aside0.mk (below_step HB.out hb); replace Bc := Aside0.mk (blk_below Bc.out hb); have Bd := Aside0.mk hbox; clear hg hbox hb) | ((with_reducible refine gate_dst (N := 6) rfl ?_); refine qX 6 #[.int .i64 p.epoch, .int .i64 p.holder, .int .i64 p.floor.f0, .int .i64 p.floor.f1, .int .i64 p.closed, .int .i64 p.low, .slice M1 p.cells.length m1, .slice M2 p.records.length m2, .slice M3 p.done.length m3] 33 ?_; intro gp hg wBp hbox hb; replace HB := Aside0.mk (below_step HB.out hb); replace Bc := Aside0.mk (blk_below Bc.out hb); replace Bd := Aside0.mk (blk_below Bd.out hb); have Bp := Aside0.mk hbox; clear hg hbox hb) | ((with_reducible refine gate_dst (N := 7) rfl ?_); refine qX 7 #[.int .i64 q.epoch, .int .i64 q.holder, .int .i64 q.floor.f0, .int .i64 q.floor.f1, .int .i64 q.closed, .int .i64 q.low, .slice R1 q.cells.length r1, .slice R2 q.records.length r2, .slice R3 q.done.length r3] 33 ?_; intro gq hg wBq hbox hb; replace HB := Aside0.mk (below_step HB.out hb); replace Bc := Aside0.mk (blk_below Bc.out hb); replace Bd := Aside0.mk (blk_below Bd.out hb); replace Bp := Aside0.mk (blk_below Bp.out hb); have Bq := Aside0.mk hbox; clear hg hbox hb) | ((with_reducible refine gate_callee (f := 7) rfl ?_); refine qL (some 9) Try.func7 #[] ?_; (with_reducible refine (begun_calls _).mono ?_); rintro e wb ⟨rfl, hb⟩; refine ⟨_, rfl, ?_⟩; replace HB := Aside0.mk (below_step HB.out hb); replace Bc := Aside0.mk (blk_below Bc.out hb); replace Bd := Aside0.mk (blk_below Bd.out hb); replace Bp := Aside0.mk (blk_below Bp.out hb); replace Bq := Aside0.mk (blk_below Bq.out hb); clear hb) | ((with_reducible refine gate_dst (N := 11) rfl ?_); (try (refine gate_guard (by rfl) ?_; dsimp only)); refine load_blk rfl (N := 11) rfl (t := 29) (p := 4) rfl rfl (cs := #[.int .i64 c.kind, .int .i64 c.epoch, .int .i64 c.node, .int .i64 c.home, .int .i64 c.by_.f0, .int .i64 c.by_.f1, .int .i64 c.by_.f2, .int .i64 c.by_.f3, .int .i64 c.at_.f0, .int .i64 c.at_.f1, .int .i64 c.wall, .bool c.yes, .slice E1 c.spans.length e1, .slice E2 c.writes.length e2]) Bc.out Try.underlying29 rfl (by kernel_rfl) ?_) | (go_at_call_of 8 (Value.int .i64 c.kind); refine (lightC_calls c (Kd.C_below Hc1.out.1 HB.out) Hc1.out.2 (Kd.C_below Hc2.out.1 HB.out) Hc2.out.2 AL1.out).mono ?_; rintro e w1 ⟨rfl, hb⟩; replace HB := Aside0.mk (below_step HB.out hb); replace Bc := Aside0.mk (blk_below Bc.out hb); replace Bd := Aside0.mk (blk_below Bd.out hb); replace Bp := Aside0.mk (blk_below Bp.out hb); replace Bq := Aside0.mk (blk_below Bq.out hb); clear hb))
 go_ret
 exact ⟨rfl, HB.out⟩
set_option maxHeartbeats 4000000 in
set_option maxRecDepth 100000 in
theorem dark1 (c d : CmdV) (p q : PartV) (w : World) {E1 E2 F1 F2 M1 M2 M3 R1 R2 R3 : Option Addr} {e1 e2 f1 f2 m1 m2 m3 r1 r2 r3 : Nat} (hc1 : Kd.C k65 w E1 c.spans.length c.spans) (kc1 : c.spans.length ≤ e1) (hc2 : Kd.C k67 w E2 c.writes.length c.writes) (kc2 : c.writes.length ≤ e2) (hd1 : Kd.C k65 w F1 d.spans.length d.spans) (kd1 : d.spans.length ≤ f1) (hd2 : Kd.C k67 w F2 d.writes.length d.writes) (kd2 : d.writes.length ≤ f2) (hp1 : Kd.C k75 w M1 p.cells.length p.cells) (kp1 : p.cells.length ≤ m1) (hp2 : Kd.C k83 w M2 p.records.length p.records) (kp2 : p.records.length ≤ m2) (hp3 : Kd.C k83 w M3 p.done.length p.done) (kp3 : p.done.length ≤ m3) (hq1 : Kd.C k75 w R1 q.cells.length q.cells) (kq1 : q.cells.length ≤ r1) (hq2 : Kd.C k83 w R2 q.records.length q.records) (kq2 : q.records.length ≤ r2) (hq3 : Kd.C k83 w R3 q.done.length q.done) (kq3 : q.done.length ≤ r3) {j1 : Nat} (AL1 : Aside0 (lightF j1 c = some true)) {j2 : Nat} (AL2 : Aside0 (lightF j2 d = some false)) :
  Calls Try.prog 3 #[cmdAgg c (.slice E1 c.spans.length e1) (.slice E2 c.writes.length e2), cmdAgg d (.slice F1 d.spans.length f1) (.slice F2 d.writes.length f2), partV p (.slice M1 p.cells.length m1) (.slice M2 p.records.length m2) (.slice M3 p.done.length m3), partV q (.slice R1 q.cells.length r1) (.slice R2 q.records.length r2) (.slice R3 q.done.length r3)] w (fun e w' => e = .returned (.bool true) ∧ Below w.heap.size w w') := by
 have Hc1 := Aside0.mk (And.intro hc1 kc1)
 have Hc2 := Aside0.mk (And.intro hc2 kc2)
 have Hd1 := Aside0.mk (And.intro hd1 kd1)
 have Hd2 := Aside0.mk (And.intro hd2 kd2)
 have Hp1 := Aside0.mk (And.intro hp1 kp1)
 have Hp2 := Aside0.mk (And.intro hp2 kp2)
 have Hp3 := Aside0.mk (And.intro hp3 kp3)
 have Hq1 := Aside0.mk (And.intro hq1 kq1)
 have Hq2 := Aside0.mk (And.intro hq2 kq2)
 have Hq3 := Aside0.mk (And.intro hq3 kq3)
 clear hc1 kc1 hc2 kc2 hd1 kd1 hd2 kd2 hp1 kp1 hp2 kp2 hp3 kp3 hq1 kq1 hq2 kq2 hq3 kq3
 unfold cmdAgg partV
 go_enter Try.func3, Try.ntmps3
 go_wp2_with (first | ((with_reducible refine gate_dst (N := 4) rfl ?_); refine qX 4 #[.int .i64 c.kind, .int .i64 c.epoch, .int .i64 c.node, .int .i64 c.home, .int .i64 c.by_.f0, .int .i64 c.by_.f1, .int .i64 c.by_.f2, .int .i64 c.by_.f3, .int .i64 c.at_.f0, .int .i64 c.at_.f1, .int .i64 c.wall, .bool c.yes, .slice E1 c.spans.length e1, .slice E2 c.writes.length e2] 29 ?_; intro gc hg wBc hbox hb; have HB := Aside0.mk hb; have Bc := Aside0.mk hbox; clear hg hbox hb) | ((with_reducible refine gate_dst (N := 5) rfl ?_); refine qX 5 #[.int .i64 d.kind, .int .i64 d.epoch, .int .i64 d.node, .int .i64 d.home, .int .i64 d.by_.f0, .int .i64 d.by_.f1, .int .i64 d.by_.f2, .int .i64 d.by_.f3, .int .i64 d.at_.f0, .int .i64 d.at_.f1, .int .i64 d.wall, .bool d.yes, .slice F1 d.spans.length f1, .slice F2 d.writes.length f2] 29 ?_; intro gd hg wBd hbox hb; replace HB := Aside0.mk (below_step HB.out hb); replace Bc := Aside0.mk (blk_below Bc.out hb); have Bd := Aside0.mk hbox; clear hg hbox hb) | ((with_reducible refine gate_dst (N := 6) rfl ?_); refine qX 6 #[.int .i64 p.epoch, .int .i64 p.holder, .int .i64 p.floor.f0, .int .i64 p.floor.f1, .int .i64 p.closed, .int .i64 p.low, .slice M1 p.cells.length m1, .slice M2 p.records.length m2, .slice M3 p.done.length m3] 33 ?_; intro gp hg wBp hbox hb; replace HB := Aside0.mk (below_step HB.out hb); replace Bc := Aside0.mk (blk_below Bc.out hb); replace Bd := Aside0.mk (blk_below Bd.out hb); have Bp := Aside0.mk hbox; clear hg hbox hb) | ((with_reducible refine gate_dst (N := 7) rfl ?_); refine qX 7 #[.int .i64 q.epoch, .int .i64 q.holder, .int .i64 q.floor.f0, .int .i64 q.floor.f1, .int .i64 q.closed, .int .i64 q.low, .slice R1 q.cells.length r1, .slice R2 q.records.length r2, .slice R3 q.done.length r3] 33 ?_; intro gq hg wBq hbox hb; replace HB := Aside0.mk (below_step HB.out hb); replace Bc := Aside0.mk (blk_below Bc.out hb); replace Bd := Aside0.mk (blk_below Bd.out hb); replace Bp := Aside0.mk (blk_below Bp.out hb); have Bq := Aside0.mk hbox; clear hg hbox hb) | ((with_reducible refine gate_callee (f := 7) rfl ?_); refine qL (some 9) Try.func7 #[] ?_; (with_reducible refine (begun_calls _).mono ?_); rintro e wb ⟨rfl, hb⟩; refine ⟨_, rfl, ?_⟩; replace HB := Aside0.mk (below_step HB.out hb); replace Bc := Aside0.mk (blk_below Bc.out hb); replace Bd := Aside0.mk (blk_below Bd.out hb); replace Bp := Aside0.mk (blk_below Bp.out hb); replace Bq := Aside0.mk (blk_below Bq.out hb); clear hb) | ((with_reducible refine gate_dst (N := 11) rfl ?_); (try (refine gate_guard (by rfl) ?_; dsimp only)); refine load_blk rfl (N := 11) rfl (t := 29) (p := 4) rfl rfl (cs := #[.int .i64 c.kind, .int .i64 c.epoch, .int .i64 c.node, .int .i64 c.home, .int .i64 c.by_.f0, .int .i64 c.by_.f1, .int .i64 c.by_.f2, .int .i64 c.by_.f3, .int .i64 c.at_.f0, .int .i64 c.at_.f1, .int .i64 c.wall, .bool c.yes, .slice E1 c.spans.length e1, .slice E2 c.writes.length e2]) Bc.out Try.underlying29 rfl (by kernel_rfl) ?_) | (go_at_call_of 8 (Value.int .i64 c.kind); refine (lightC_calls c (Kd.C_below Hc1.out.1 HB.out) Hc1.out.2 (Kd.C_below Hc2.out.1 HB.out) Hc2.out.2 AL1.out).mono ?_; rintro e w1 ⟨rfl, hb⟩; replace HB := Aside0.mk (below_step HB.out hb); replace Bc := Aside0.mk (blk_below Bc.out hb); replace Bd := Aside0.mk (blk_below Bd.out hb); replace Bp := Aside0.mk (blk_below Bp.out hb); replace Bq := Aside0.mk (blk_below Bq.out hb); clear hb) | ((with_reducible refine gate_dst (N := 15) rfl ?_); (try (refine gate_guard (by rfl) ?_; dsimp only)); refine load_blk rfl (N := 15) rfl (t := 29) (p := 5) rfl rfl (cs := #[.int .i64 d.kind, .int .i64 d.epoch, .int .i64 d.node, .int .i64 d.home, .int .i64 d.by_.f0, .int .i64 d.by_.f1, .int .i64 d.by_.f2, .int .i64 d.by_.f3, .int .i64 d.at_.f0, .int .i64 d.at_.f1, .int .i64 d.wall, .bool d.yes, .slice F1 d.spans.length f1, .slice F2 d.writes.length f2]) Bd.out Try.underlying29 rfl (by kernel_rfl) ?_) | (go_at_call_of 8 (Value.int .i64 d.kind); refine (lightC_calls d (Kd.C_below Hd1.out.1 HB.out) Hd1.out.2 (Kd.C_below Hd2.out.1 HB.out) Hd2.out.2 AL2.out).mono ?_; rintro e w2 ⟨rfl, hb⟩; replace HB := Aside0.mk (below_step HB.out hb); replace Bc := Aside0.mk (blk_below Bc.out hb); replace Bd := Aside0.mk (blk_below Bd.out hb); replace Bp := Aside0.mk (blk_below Bp.out hb); replace Bq := Aside0.mk (blk_below Bq.out hb); clear hb))
 go_ret
 exact ⟨rfl, HB.out⟩
set_option maxHeartbeats 4000000 in
set_option maxRecDepth 100000 in
theorem dark2 (c d : CmdV) (p q : PartV) (w : World) {E1 E2 F1 F2 M1 M2 M3 R1 R2 R3 : Option Addr} {e1 e2 f1 f2 m1 m2 m3 r1 r2 r3 : Nat} (hc1 : Kd.C k65 w E1 c.spans.length c.spans) (kc1 : c.spans.length ≤ e1) (hc2 : Kd.C k67 w E2 c.writes.length c.writes) (kc2 : c.writes.length ≤ e2) (hd1 : Kd.C k65 w F1 d.spans.length d.spans) (kd1 : d.spans.length ≤ f1) (hd2 : Kd.C k67 w F2 d.writes.length d.writes) (kd2 : d.writes.length ≤ f2) (hp1 : Kd.C k75 w M1 p.cells.length p.cells) (kp1 : p.cells.length ≤ m1) (hp2 : Kd.C k83 w M2 p.records.length p.records) (kp2 : p.records.length ≤ m2) (hp3 : Kd.C k83 w M3 p.done.length p.done) (kp3 : p.done.length ≤ m3) (hq1 : Kd.C k75 w R1 q.cells.length q.cells) (kq1 : q.cells.length ≤ r1) (hq2 : Kd.C k83 w R2 q.records.length q.records) (kq2 : q.records.length ≤ r2) (hq3 : Kd.C k83 w R3 q.done.length q.done) (kq3 : q.done.length ≤ r3) {j1 : Nat} (AL1 : Aside0 (lightF j1 c = some true)) {j2 : Nat} (AL2 : Aside0 (lightF j2 d = some true)) {j3 : Nat} (AL3 : Aside0 (lightPF j3 p = some false)) :
  Calls Try.prog 3 #[cmdAgg c (.slice E1 c.spans.length e1) (.slice E2 c.writes.length e2), cmdAgg d (.slice F1 d.spans.length f1) (.slice F2 d.writes.length f2), partV p (.slice M1 p.cells.length m1) (.slice M2 p.records.length m2) (.slice M3 p.done.length m3), partV q (.slice R1 q.cells.length r1) (.slice R2 q.records.length r2) (.slice R3 q.done.length r3)] w (fun e w' => e = .returned (.bool true) ∧ Below w.heap.size w w') := by
 have Hc1 := Aside0.mk (And.intro hc1 kc1)
 have Hc2 := Aside0.mk (And.intro hc2 kc2)
 have Hd1 := Aside0.mk (And.intro hd1 kd1)
 have Hd2 := Aside0.mk (And.intro hd2 kd2)
 have Hp1 := Aside0.mk (And.intro hp1 kp1)
 have Hp2 := Aside0.mk (And.intro hp2 kp2)
 have Hp3 := Aside0.mk (And.intro hp3 kp3)
 have Hq1 := Aside0.mk (And.intro hq1 kq1)
 have Hq2 := Aside0.mk (And.intro hq2 kq2)
 have Hq3 := Aside0.mk (And.intro hq3 kq3)
 clear hc1 kc1 hc2 kc2 hd1 kd1 hd2 kd2 hp1 kp1 hp2 kp2 hp3 kp3 hq1 kq1 hq2 kq2 hq3 kq3
 unfold cmdAgg partV
 go_enter Try.func3, Try.ntmps3
 go_wp2_with (first | ((with_reducible refine gate_dst (N := 4) rfl ?_); refine qX 4 #[.int .i64 c.kind, .int .i64 c.epoch, .int .i64 c.node, .int .i64 c.home, .int .i64 c.by_.f0, .int .i64 c.by_.f1, .int .i64 c.by_.f2, .int .i64 c.by_.f3, .int .i64 c.at_.f0, .int .i64 c.at_.f1, .int .i64 c.wall, .bool c.yes, .slice E1 c.spans.length e1, .slice E2 c.writes.length e2] 29 ?_; intro gc hg wBc hbox hb; have HB := Aside0.mk hb; have Bc := Aside0.mk hbox; clear hg hbox hb) | ((with_reducible refine gate_dst (N := 5) rfl ?_); refine qX 5 #[.int .i64 d.kind, .int .i64 d.epoch, .int .i64 d.node, .int .i64 d.home, .int .i64 d.by_.f0, .int .i64 d.by_.f1, .int .i64 d.by_.f2, .int .i64 d.by_.f3, .int .i64 d.at_.f0, .int .i64 d.at_.f1, .int .i64 d.wall, .bool d.yes, .slice F1 d.spans.length f1, .slice F2 d.writes.length f2] 29 ?_; intro gd hg wBd hbox hb; replace HB := Aside0.mk (below_step HB.out hb); replace Bc := Aside0.mk (blk_below Bc.out hb); have Bd := Aside0.mk hbox; clear hg hbox hb) | ((with_reducible refine gate_dst (N := 6) rfl ?_); refine qX 6 #[.int .i64 p.epoch, .int .i64 p.holder, .int .i64 p.floor.f0, .int .i64 p.floor.f1, .int .i64 p.closed, .int .i64 p.low, .slice M1 p.cells.length m1, .slice M2 p.records.length m2, .slice M3 p.done.length m3] 33 ?_; intro gp hg wBp hbox hb; replace HB := Aside0.mk (below_step HB.out hb); replace Bc := Aside0.mk (blk_below Bc.out hb); replace Bd := Aside0.mk (blk_below Bd.out hb); have Bp := Aside0.mk hbox; clear hg hbox hb) | ((with_reducible refine gate_dst (N := 7) rfl ?_); refine qX 7 #[.int .i64 q.epoch, .int .i64 q.holder, .int .i64 q.floor.f0, .int .i64 q.floor.f1, .int .i64 q.closed, .int .i64 q.low, .slice R1 q.cells.length r1, .slice R2 q.records.length r2, .slice R3 q.done.length r3] 33 ?_; intro gq hg wBq hbox hb; replace HB := Aside0.mk (below_step HB.out hb); replace Bc := Aside0.mk (blk_below Bc.out hb); replace Bd := Aside0.mk (blk_below Bd.out hb); replace Bp := Aside0.mk (blk_below Bp.out hb); have Bq := Aside0.mk hbox; clear hg hbox hb) | ((with_reducible refine gate_callee (f := 7) rfl ?_); refine qL (some 9) Try.func7 #[] ?_; (with_reducible refine (begun_calls _).mono ?_); rintro e wb ⟨rfl, hb⟩; refine ⟨_, rfl, ?_⟩; replace HB := Aside0.mk (below_step HB.out hb); replace Bc := Aside0.mk (blk_below Bc.out hb); replace Bd := Aside0.mk (blk_below Bd.out hb); replace Bp := Aside0.mk (blk_below Bp.out hb); replace Bq := Aside0.mk (blk_below Bq.out hb); clear hb) | ((with_reducible refine gate_dst (N := 11) rfl ?_); (try (refine gate_guard (by rfl) ?_; dsimp only)); refine load_blk rfl (N := 11) rfl (t := 29) (p := 4) rfl rfl (cs := #[.int .i64 c.kind, .int .i64 c.epoch, .int .i64 c.node, .int .i64 c.home, .int .i64 c.by_.f0, .int .i64 c.by_.f1, .int .i64 c.by_.f2, .int .i64 c.by_.f3, .int .i64 c.at_.f0, .int .i64 c.at_.f1, .int .i64 c.wall, .bool c.yes, .slice E1 c.spans.length e1, .slice E2 c.writes.length e2]) Bc.out Try.underlying29 rfl (by kernel_rfl) ?_) | (go_at_call_of 8 (Value.int .i64 c.kind); refine (lightC_calls c (Kd.C_below Hc1.out.1 HB.out) Hc1.out.2 (Kd.C_below Hc2.out.1 HB.out) Hc2.out.2 AL1.out).mono ?_; rintro e w1 ⟨rfl, hb⟩; replace HB := Aside0.mk (below_step HB.out hb); replace Bc := Aside0.mk (blk_below Bc.out hb); replace Bd := Aside0.mk (blk_below Bd.out hb); replace Bp := Aside0.mk (blk_below Bp.out hb); replace Bq := Aside0.mk (blk_below Bq.out hb); clear hb) | ((with_reducible refine gate_dst (N := 15) rfl ?_); (try (refine gate_guard (by rfl) ?_; dsimp only)); refine load_blk rfl (N := 15) rfl (t := 29) (p := 5) rfl rfl (cs := #[.int .i64 d.kind, .int .i64 d.epoch, .int .i64 d.node, .int .i64 d.home, .int .i64 d.by_.f0, .int .i64 d.by_.f1, .int .i64 d.by_.f2, .int .i64 d.by_.f3, .int .i64 d.at_.f0, .int .i64 d.at_.f1, .int .i64 d.wall, .bool d.yes, .slice F1 d.spans.length f1, .slice F2 d.writes.length f2]) Bd.out Try.underlying29 rfl (by kernel_rfl) ?_) | (go_at_call_of 8 (Value.int .i64 d.kind); refine (lightC_calls d (Kd.C_below Hd1.out.1 HB.out) Hd1.out.2 (Kd.C_below Hd2.out.1 HB.out) Hd2.out.2 AL2.out).mono ?_; rintro e w2 ⟨rfl, hb⟩; replace HB := Aside0.mk (below_step HB.out hb); replace Bc := Aside0.mk (blk_below Bc.out hb); replace Bd := Aside0.mk (blk_below Bd.out hb); replace Bp := Aside0.mk (blk_below Bp.out hb); replace Bq := Aside0.mk (blk_below Bq.out hb); clear hb) | ((with_reducible refine gate_dst (N := 20) rfl ?_); (try (refine gate_guard (by rfl) ?_; dsimp only)); refine load_blk rfl (N := 20) rfl (t := 33) (p := 6) rfl rfl (cs := #[.int .i64 p.epoch, .int .i64 p.holder, .int .i64 p.floor.f0, .int .i64 p.floor.f1, .int .i64 p.closed, .int .i64 p.low, .slice M1 p.cells.length m1, .slice M2 p.records.length m2, .slice M3 p.done.length m3]) Bp.out Try.underlying33 rfl (by kernel_rfl) ?_) | (go_at_call_of 9 (Value.int .i64 p.epoch); refine (lightP_calls p (Kd.C_below Hp1.out.1 HB.out) Hp1.out.2 (Kd.C_below Hp2.out.1 HB.out) Hp2.out.2 (Kd.C_below Hp3.out.1 HB.out) Hp3.out.2 AL3.out).mono ?_; rintro e w3 ⟨rfl, hb⟩; replace HB := Aside0.mk (below_step HB.out hb); replace Bc := Aside0.mk (blk_below Bc.out hb); replace Bd := Aside0.mk (blk_below Bd.out hb); replace Bp := Aside0.mk (blk_below Bp.out hb); replace Bq := Aside0.mk (blk_below Bq.out hb); clear hb))
 go_ret
 exact ⟨rfl, HB.out⟩
set_option maxHeartbeats 4000000 in
set_option maxRecDepth 100000 in
theorem dark3 (c d : CmdV) (p q : PartV) (w : World) {E1 E2 F1 F2 M1 M2 M3 R1 R2 R3 : Option Addr} {e1 e2 f1 f2 m1 m2 m3 r1 r2 r3 : Nat} (hc1 : Kd.C k65 w E1 c.spans.length c.spans) (kc1 : c.spans.length ≤ e1) (hc2 : Kd.C k67 w E2 c.writes.length c.writes) (kc2 : c.writes.length ≤ e2) (hd1 : Kd.C k65 w F1 d.spans.length d.spans) (kd1 : d.spans.length ≤ f1) (hd2 : Kd.C k67 w F2 d.writes.length d.writes) (kd2 : d.writes.length ≤ f2) (hp1 : Kd.C k75 w M1 p.cells.length p.cells) (kp1 : p.cells.length ≤ m1) (hp2 : Kd.C k83 w M2 p.records.length p.records) (kp2 : p.records.length ≤ m2) (hp3 : Kd.C k83 w M3 p.done.length p.done) (kp3 : p.done.length ≤ m3) (hq1 : Kd.C k75 w R1 q.cells.length q.cells) (kq1 : q.cells.length ≤ r1) (hq2 : Kd.C k83 w R2 q.records.length q.records) (kq2 : q.records.length ≤ r2) (hq3 : Kd.C k83 w R3 q.done.length q.done) (kq3 : q.done.length ≤ r3) {j1 : Nat} (AL1 : Aside0 (lightF j1 c = some true)) {j2 : Nat} (AL2 : Aside0 (lightF j2 d = some true)) {j3 : Nat} (AL3 : Aside0 (lightPF j3 p = some true)) {j4 : Nat} (AL4 : Aside0 (lightPF j4 q = some false)) :
  Calls Try.prog 3 #[cmdAgg c (.slice E1 c.spans.length e1) (.slice E2 c.writes.length e2), cmdAgg d (.slice F1 d.spans.length f1) (.slice F2 d.writes.length f2), partV p (.slice M1 p.cells.length m1) (.slice M2 p.records.length m2) (.slice M3 p.done.length m3), partV q (.slice R1 q.cells.length r1) (.slice R2 q.records.length r2) (.slice R3 q.done.length r3)] w (fun e w' => e = .returned (.bool true) ∧ Below w.heap.size w w') := by
 have Hc1 := Aside0.mk (And.intro hc1 kc1)
 have Hc2 := Aside0.mk (And.intro hc2 kc2)
 have Hd1 := Aside0.mk (And.intro hd1 kd1)
 have Hd2 := Aside0.mk (And.intro hd2 kd2)
 have Hp1 := Aside0.mk (And.intro hp1 kp1)
 have Hp2 := Aside0.mk (And.intro hp2 kp2)
 have Hp3 := Aside0.mk (And.intro hp3 kp3)
 have Hq1 := Aside0.mk (And.intro hq1 kq1)
 have Hq2 := Aside0.mk (And.intro hq2 kq2)
 have Hq3 := Aside0.mk (And.intro hq3 kq3)
 clear hc1 kc1 hc2 kc2 hd1 kd1 hd2 kd2 hp1 kp1 hp2 kp2 hp3 kp3 hq1 kq1 hq2 kq2 hq3 kq3
 unfold cmdAgg partV
 go_enter Try.func3, Try.ntmps3
 go_wp2_with (first | ((with_reducible refine gate_dst (N := 4) rfl ?_); refine qX 4 #[.int .i64 c.kind, .int .i64 c.epoch, .int .i64 c.node, .int .i64 c.home, .int .i64 c.by_.f0, .int .i64 c.by_.f1, .int .i64 c.by_.f2, .int .i64 c.by_.f3, .int .i64 c.at_.f0, .int .i64 c.at_.f1, .int .i64 c.wall, .bool c.yes, .slice E1 c.spans.length e1, .slice E2 c.writes.length e2] 29 ?_; intro gc hg wBc hbox hb; have HB := Aside0.mk hb; have Bc := Aside0.mk hbox; clear hg hbox hb) | ((with_reducible refine gate_dst (N := 5) rfl ?_); refine qX 5 #[.int .i64 d.kind, .int .i64 d.epoch, .int .i64 d.node, .int .i64 d.home, .int .i64 d.by_.f0, .int .i64 d.by_.f1, .int .i64 d.by_.f2, .int .i64 d.by_.f3, .int .i64 d.at_.f0, .int .i64 d.at_.f1, .int .i64 d.wall, .bool d.yes, .slice F1 d.spans.length f1, .slice F2 d.writes.length f2] 29 ?_; intro gd hg wBd hbox hb; replace HB := Aside0.mk (below_step HB.out hb); replace Bc := Aside0.mk (blk_below Bc.out hb); have Bd := Aside0.mk hbox; clear hg hbox hb) | ((with_reducible refine gate_dst (N := 6) rfl ?_); refine qX 6 #[.int .i64 p.epoch, .int .i64 p.holder, .int .i64 p.floor.f0, .int .i64 p.floor.f1, .int .i64 p.closed, .int .i64 p.low, .slice M1 p.cells.length m1, .slice M2 p.records.length m2, .slice M3 p.done.length m3] 33 ?_; intro gp hg wBp hbox hb; replace HB := Aside0.mk (below_step HB.out hb); replace Bc := Aside0.mk (blk_below Bc.out hb); replace Bd := Aside0.mk (blk_below Bd.out hb); have Bp := Aside0.mk hbox; clear hg hbox hb) | ((with_reducible refine gate_dst (N := 7) rfl ?_); refine qX 7 #[.int .i64 q.epoch, .int .i64 q.holder, .int .i64 q.floor.f0, .int .i64 q.floor.f1, .int .i64 q.closed, .int .i64 q.low, .slice R1 q.cells.length r1, .slice R2 q.records.length r2, .slice R3 q.done.length r3] 33 ?_; intro gq hg wBq hbox hb; replace HB := Aside0.mk (below_step HB.out hb); replace Bc := Aside0.mk (blk_below Bc.out hb); replace Bd := Aside0.mk (blk_below Bd.out hb); replace Bp := Aside0.mk (blk_below Bp.out hb); have Bq := Aside0.mk hbox; clear hg hbox hb) | ((with_reducible refine gate_callee (f := 7) rfl ?_); refine qL (some 9) Try.func7 #[] ?_; (with_reducible refine (begun_calls _).mono ?_); rintro e wb ⟨rfl, hb⟩; refine ⟨_, rfl, ?_⟩; replace HB := Aside0.mk (below_step HB.out hb); replace Bc := Aside0.mk (blk_below Bc.out hb); replace Bd := Aside0.mk (blk_below Bd.out hb); replace Bp := Aside0.mk (blk_below Bp.out hb); replace Bq := Aside0.mk (blk_below Bq.out hb); clear hb) | ((with_reducible refine gate_dst (N := 11) rfl ?_); (try (refine gate_guard (by rfl) ?_; dsimp only)); refine load_blk rfl (N := 11) rfl (t := 29) (p := 4) rfl rfl (cs := #[.int .i64 c.kind, .int .i64 c.epoch, .int .i64 c.node, .int .i64 c.home, .int .i64 c.by_.f0, .int .i64 c.by_.f1, .int .i64 c.by_.f2, .int .i64 c.by_.f3, .int .i64 c.at_.f0, .int .i64 c.at_.f1, .int .i64 c.wall, .bool c.yes, .slice E1 c.spans.length e1, .slice E2 c.writes.length e2]) Bc.out Try.underlying29 rfl (by kernel_rfl) ?_) | (go_at_call_of 8 (Value.int .i64 c.kind); refine (lightC_calls c (Kd.C_below Hc1.out.1 HB.out) Hc1.out.2 (Kd.C_below Hc2.out.1 HB.out) Hc2.out.2 AL1.out).mono ?_; rintro e w1 ⟨rfl, hb⟩; replace HB := Aside0.mk (below_step HB.out hb); replace Bc := Aside0.mk (blk_below Bc.out hb); replace Bd := Aside0.mk (blk_below Bd.out hb); replace Bp := Aside0.mk (blk_below Bp.out hb); replace Bq := Aside0.mk (blk_below Bq.out hb); clear hb) | ((with_reducible refine gate_dst (N := 15) rfl ?_); (try (refine gate_guard (by rfl) ?_; dsimp only)); refine load_blk rfl (N := 15) rfl (t := 29) (p := 5) rfl rfl (cs := #[.int .i64 d.kind, .int .i64 d.epoch, .int .i64 d.node, .int .i64 d.home, .int .i64 d.by_.f0, .int .i64 d.by_.f1, .int .i64 d.by_.f2, .int .i64 d.by_.f3, .int .i64 d.at_.f0, .int .i64 d.at_.f1, .int .i64 d.wall, .bool d.yes, .slice F1 d.spans.length f1, .slice F2 d.writes.length f2]) Bd.out Try.underlying29 rfl (by kernel_rfl) ?_) | (go_at_call_of 8 (Value.int .i64 d.kind); refine (lightC_calls d (Kd.C_below Hd1.out.1 HB.out) Hd1.out.2 (Kd.C_below Hd2.out.1 HB.out) Hd2.out.2 AL2.out).mono ?_; rintro e w2 ⟨rfl, hb⟩; replace HB := Aside0.mk (below_step HB.out hb); replace Bc := Aside0.mk (blk_below Bc.out hb); replace Bd := Aside0.mk (blk_below Bd.out hb); replace Bp := Aside0.mk (blk_below Bp.out hb); replace Bq := Aside0.mk (blk_below Bq.out hb); clear hb) | ((with_reducible refine gate_dst (N := 20) rfl ?_); (try (refine gate_guard (by rfl) ?_; dsimp only)); refine load_blk rfl (N := 20) rfl (t := 33) (p := 6) rfl rfl (cs := #[.int .i64 p.epoch, .int .i64 p.holder, .int .i64 p.floor.f0, .int .i64 p.floor.f1, .int .i64 p.closed, .int .i64 p.low, .slice M1 p.cells.length m1, .slice M2 p.records.length m2, .slice M3 p.done.length m3]) Bp.out Try.underlying33 rfl (by kernel_rfl) ?_) | (go_at_call_of 9 (Value.int .i64 p.epoch); refine (lightP_calls p (Kd.C_below Hp1.out.1 HB.out) Hp1.out.2 (Kd.C_below Hp2.out.1 HB.out) Hp2.out.2 (Kd.C_below Hp3.out.1 HB.out) Hp3.out.2 AL3.out).mono ?_; rintro e w3 ⟨rfl, hb⟩; replace HB := Aside0.mk (below_step HB.out hb); replace Bc := Aside0.mk (blk_below Bc.out hb); replace Bd := Aside0.mk (blk_below Bd.out hb); replace Bp := Aside0.mk (blk_below Bp.out hb); replace Bq := Aside0.mk (blk_below Bq.out hb); clear hb) | ((with_reducible refine gate_dst (N := 25) rfl ?_); (try (refine gate_guard (by rfl) ?_; dsimp only)); refine load_blk rfl (N := 25) rfl (t := 33) (p := 7) rfl rfl (cs := #[.int .i64 q.epoch, .int .i64 q.holder, .int .i64 q.floor.f0, .int .i64 q.floor.f1, .int .i64 q.closed, .int .i64 q.low, .slice R1 q.cells.length r1, .slice R2 q.records.length r2, .slice R3 q.done.length r3]) Bq.out Try.underlying33 rfl (by kernel_rfl) ?_) | (go_at_call_of 9 (Value.int .i64 q.epoch); refine (lightP_calls q (Kd.C_below Hq1.out.1 HB.out) Hq1.out.2 (Kd.C_below Hq2.out.1 HB.out) Hq2.out.2 (Kd.C_below Hq3.out.1 HB.out) Hq3.out.2 AL4.out).mono ?_; rintro e w4 ⟨rfl, hb⟩; replace HB := Aside0.mk (below_step HB.out hb); replace Bc := Aside0.mk (blk_below Bc.out hb); replace Bd := Aside0.mk (blk_below Bd.out hb); replace Bp := Aside0.mk (blk_below Bp.out hb); replace Bq := Aside0.mk (blk_below Bq.out hb); clear hb))
 go_ret
 exact ⟨rfl, HB.out⟩
set_option maxHeartbeats 4000000 in
set_option maxRecDepth 400000 in
theorem lit (c d : CmdV) (p q : PartV) (w : World) {E1 E2 F1 F2 M1 M2 M3 R1 R2 R3 : Option Addr} {e1 e2 f1 f2 m1 m2 m3 r1 r2 r3 : Nat} (hc1 : Kd.C k65 w E1 c.spans.length c.spans) (kc1 : c.spans.length ≤ e1) (hc2 : Kd.C k67 w E2 c.writes.length c.writes) (kc2 : c.writes.length ≤ e2) (hd1 : Kd.C k65 w F1 d.spans.length d.spans) (kd1 : d.spans.length ≤ f1) (hd2 : Kd.C k67 w F2 d.writes.length d.writes) (kd2 : d.writes.length ≤ f2) (hp1 : Kd.C k75 w M1 p.cells.length p.cells) (kp1 : p.cells.length ≤ m1) (hp2 : Kd.C k83 w M2 p.records.length p.records) (kp2 : p.records.length ≤ m2) (hp3 : Kd.C k83 w M3 p.done.length p.done) (kp3 : p.done.length ≤ m3) (hq1 : Kd.C k75 w R1 q.cells.length q.cells) (kq1 : q.cells.length ≤ r1) (hq2 : Kd.C k83 w R2 q.records.length q.records) (kq2 : q.records.length ≤ r2) (hq3 : Kd.C k83 w R3 q.done.length q.done) (kq3 : q.done.length ≤ r3) {j1 : Nat} (AL1 : Aside0 (lightF j1 c = some true)) {j2 : Nat} (AL2 : Aside0 (lightF j2 d = some true)) {j3 : Nat} (AL3 : Aside0 (lightPF j3 p = some true)) {j4 : Nat} (AL4 : Aside0 (lightPF j4 q = some true)) (LCC : Aside0 (LightC c ∧ LightC d ∧ gCmd0 c ∧ gCmd0 d)) :
  Calls Try.prog 3 #[cmdAgg c (.slice E1 c.spans.length e1) (.slice E2 c.writes.length e2), cmdAgg d (.slice F1 d.spans.length f1) (.slice F2 d.writes.length f2), partV p (.slice M1 p.cells.length m1) (.slice M2 p.records.length m2) (.slice M3 p.done.length m3), partV q (.slice R1 q.cells.length r1) (.slice R2 q.records.length r2) (.slice R3 q.done.length r3)] w (fun e w' => e = .returned (.bool true) ∧ Below w.heap.size w w') := by
 have Hc1 := Aside0.mk (And.intro hc1 kc1)
 have Hc2 := Aside0.mk (And.intro hc2 kc2)
 have Hd1 := Aside0.mk (And.intro hd1 kd1)
 have Hd2 := Aside0.mk (And.intro hd2 kd2)
 have Hp1 := Aside0.mk (And.intro hp1 kp1)
 have Hp2 := Aside0.mk (And.intro hp2 kp2)
 have Hp3 := Aside0.mk (And.intro hp3 kp3)
 have Hq1 := Aside0.mk (And.intro hq1 kq1)
 have Hq2 := Aside0.mk (And.intro hq2 kq2)
 have Hq3 := Aside0.mk (And.intro hq3 kq3)
 clear hc1 kc1 hc2 kc2 hd1 kd1 hd2 kd2 hp1 kp1 hp2 kp2 hp3 kp3 hq1 kq1 hq2 kq2 hq3 kq3
 unfold cmdAgg partV
 have hcc := eqb_self c
 have hqq := eqb_self q
 go_enter Try.func3, Try.ntmps3
 go_upto_region 5 with (first | ((with_reducible refine gate_dst (N := 4) rfl ?_); refine qX 4 #[.int .i64 c.kind, .int .i64 c.epoch, .int .i64 c.node, .int .i64 c.home, .int .i64 c.by_.f0, .int .i64 c.by_.f1, .int .i64 c.by_.f2, .int .i64 c.by_.f3, .int .i64 c.at_.f0, .int .i64 c.at_.f1, .int .i64 c.wall, .bool c.yes, .slice E1 c.spans.length e1, .slice E2 c.writes.length e2] 29 ?_; intro gc hg wBc hbox hb; have HB := Aside0.mk hb; have Bc := Aside0.mk hbox; clear hg hbox hb) | ((with_reducible refine gate_dst (N := 5) rfl ?_); refine qX 5 #[.int .i64 d.kind, .int .i64 d.epoch, .int .i64 d.node, .int .i64 d.home, .int .i64 d.by_.f0, .int .i64 d.by_.f1, .int .i64 d.by_.f2, .int .i64 d.by_.f3, .int .i64 d.at_.f0, .int .i64 d.at_.f1, .int .i64 d.wall, .bool d.yes, .slice F1 d.spans.length f1, .slice F2 d.writes.length f2] 29 ?_; intro gd hg wBd hbox hb; replace HB := Aside0.mk (below_step HB.out hb); replace Bc := Aside0.mk (blk_below Bc.out hb); have Bd := Aside0.mk hbox; clear hg hbox hb) | ((with_reducible refine gate_dst (N := 6) rfl ?_); refine qX 6 #[.int .i64 p.epoch, .int .i64 p.holder, .int .i64 p.floor.f0, .int .i64 p.floor.f1, .int .i64 p.closed, .int .i64 p.low, .slice M1 p.cells.length m1, .slice M2 p.records.length m2, .slice M3 p.done.length m3] 33 ?_; intro gp hg wBp hbox hb; replace HB := Aside0.mk (below_step HB.out hb); replace Bc := Aside0.mk (blk_below Bc.out hb); replace Bd := Aside0.mk (blk_below Bd.out hb); have Bp := Aside0.mk hbox; clear hg hbox hb) | ((with_reducible refine gate_dst (N := 7) rfl ?_); refine qX 7 #[.int .i64 q.epoch, .int .i64 q.holder, .int .i64 q.floor.f0, .int .i64 q.floor.f1, .int .i64 q.closed, .int .i64 q.low, .slice R1 q.cells.length r1, .slice R2 q.records.length r2, .slice R3 q.done.length r3] 33 ?_; intro gq hg wBq hbox hb; replace HB := Aside0.mk (below_step HB.out hb); replace Bc := Aside0.mk (blk_below Bc.out hb); replace Bd := Aside0.mk (blk_below Bd.out hb); replace Bp := Aside0.mk (blk_below Bp.out hb); have Bq := Aside0.mk hbox; clear hg hbox hb) | ((with_reducible refine gate_callee (f := 7) rfl ?_); refine qL (some 9) Try.func7 #[] ?_; (with_reducible refine (begun_calls _).mono ?_); rintro e wb ⟨rfl, hb⟩; refine ⟨_, rfl, ?_⟩; replace HB := Aside0.mk (below_step HB.out hb); replace Bc := Aside0.mk (blk_below Bc.out hb); replace Bd := Aside0.mk (blk_below Bd.out hb); replace Bp := Aside0.mk (blk_below Bp.out hb); replace Bq := Aside0.mk (blk_below Bq.out hb); clear hb) | ((with_reducible refine gate_dst (N := 11) rfl ?_); (try (refine gate_guard (by rfl) ?_; dsimp only)); refine load_blk rfl (N := 11) rfl (t := 29) (p := 4) rfl rfl (cs := #[.int .i64 c.kind, .int .i64 c.epoch, .int .i64 c.node, .int .i64 c.home, .int .i64 c.by_.f0, .int .i64 c.by_.f1, .int .i64 c.by_.f2, .int .i64 c.by_.f3, .int .i64 c.at_.f0, .int .i64 c.at_.f1, .int .i64 c.wall, .bool c.yes, .slice E1 c.spans.length e1, .slice E2 c.writes.length e2]) Bc.out Try.underlying29 rfl (by kernel_rfl) ?_) | (go_at_call_of 8 (Value.int .i64 c.kind); refine (lightC_calls c (Kd.C_below Hc1.out.1 HB.out) Hc1.out.2 (Kd.C_below Hc2.out.1 HB.out) Hc2.out.2 AL1.out).mono ?_; rintro e w1 ⟨rfl, hb⟩; replace HB := Aside0.mk (below_step HB.out hb); replace Bc := Aside0.mk (blk_below Bc.out hb); replace Bd := Aside0.mk (blk_below Bd.out hb); replace Bp := Aside0.mk (blk_below Bp.out hb); replace Bq := Aside0.mk (blk_below Bq.out hb); clear hb) | ((with_reducible refine gate_dst (N := 15) rfl ?_); (try (refine gate_guard (by rfl) ?_; dsimp only)); refine load_blk rfl (N := 15) rfl (t := 29) (p := 5) rfl rfl (cs := #[.int .i64 d.kind, .int .i64 d.epoch, .int .i64 d.node, .int .i64 d.home, .int .i64 d.by_.f0, .int .i64 d.by_.f1, .int .i64 d.by_.f2, .int .i64 d.by_.f3, .int .i64 d.at_.f0, .int .i64 d.at_.f1, .int .i64 d.wall, .bool d.yes, .slice F1 d.spans.length f1, .slice F2 d.writes.length f2]) Bd.out Try.underlying29 rfl (by kernel_rfl) ?_) | (go_at_call_of 8 (Value.int .i64 d.kind); refine (lightC_calls d (Kd.C_below Hd1.out.1 HB.out) Hd1.out.2 (Kd.C_below Hd2.out.1 HB.out) Hd2.out.2 AL2.out).mono ?_; rintro e w2 ⟨rfl, hb⟩; replace HB := Aside0.mk (below_step HB.out hb); replace Bc := Aside0.mk (blk_below Bc.out hb); replace Bd := Aside0.mk (blk_below Bd.out hb); replace Bp := Aside0.mk (blk_below Bp.out hb); replace Bq := Aside0.mk (blk_below Bq.out hb); clear hb) | ((with_reducible refine gate_dst (N := 20) rfl ?_); (try (refine gate_guard (by rfl) ?_; dsimp only)); refine load_blk rfl (N := 20) rfl (t := 33) (p := 6) rfl rfl (cs := #[.int .i64 p.epoch, .int .i64 p.holder, .int .i64 p.floor.f0, .int .i64 p.floor.f1, .int .i64 p.closed, .int .i64 p.low, .slice M1 p.cells.length m1, .slice M2 p.records.length m2, .slice M3 p.done.length m3]) Bp.out Try.underlying33 rfl (by kernel_rfl) ?_) | (go_at_call_of 9 (Value.int .i64 p.epoch); refine (lightP_calls p (Kd.C_below Hp1.out.1 HB.out) Hp1.out.2 (Kd.C_below Hp2.out.1 HB.out) Hp2.out.2 (Kd.C_below Hp3.out.1 HB.out) Hp3.out.2 AL3.out).mono ?_; rintro e w3 ⟨rfl, hb⟩; replace HB := Aside0.mk (below_step HB.out hb); replace Bc := Aside0.mk (blk_below Bc.out hb); replace Bd := Aside0.mk (blk_below Bd.out hb); replace Bp := Aside0.mk (blk_below Bp.out hb); replace Bq := Aside0.mk (blk_below Bq.out hb); clear hb) | ((with_reducible refine gate_dst (N := 25) rfl ?_); (try (refine gate_guard (by rfl) ?_; dsimp only)); refine load_blk rfl (N := 25) rfl (t := 33) (p := 7) rfl rfl (cs := #[.int .i64 q.epoch, .int .i64 q.holder, .int .i64 q.floor.f0, .int .i64 q.floor.f1, .int .i64 q.closed, .int .i64 q.low, .slice R1 q.cells.length r1, .slice R2 q.records.length r2, .slice R3 q.done.length r3]) Bq.out Try.underlying33 rfl (by kernel_rfl) ?_) | (go_at_call_of 9 (Value.int .i64 q.epoch); refine (lightP_calls q (Kd.C_below Hq1.out.1 HB.out) Hq1.out.2 (Kd.C_below Hq2.out.1 HB.out) Hq2.out.2 (Kd.C_below Hq3.out.1 HB.out) Hq3.out.2 AL4.out).mono ?_; rintro e w4 ⟨rfl, hb⟩; replace HB := Aside0.mk (below_step HB.out hb); replace Bc := Aside0.mk (blk_below Bc.out hb); replace Bd := Aside0.mk (blk_below Bd.out hb); replace Bp := Aside0.mk (blk_below Bp.out hb); replace Bq := Aside0.mk (blk_below Bq.out hb); clear hb))
 have n0_ := Aside0.mk (below_drew HB.out)
 have mBc_ := Aside0.mk (blk_drew Bc.out)
 have mBd_ := Aside0.mk (blk_drew Bd.out)
 have mBp_ := Aside0.mk (blk_drew Bp.out)
 have mBq_ := Aside0.mk (blk_drew Bq.out)
 clear HB Bc Bd Bp Bq
 have HB := n0_
 have Bc := mBc_
 have Bd := mBd_
 have Bp := mBp_
 have Bq := mBq_
 clear n0_ mBc_ mBd_ mBp_ mBq_
 refine start_ (n := 27) (S := fun w' => w'.heap[gc]? = some (.cells #[.int .i64 c.kind, .int .i64 c.epoch, .int .i64 c.node, .int .i64 c.home, .int .i64 c.by_.f0, .int .i64 c.by_.f1, .int .i64 c.by_.f2, .int .i64 c.by_.f3, .int .i64 c.at_.f0, .int .i64 c.at_.f1, .int .i64 c.wall, .bool c.yes, .slice E1 c.spans.length e1, .slice E2 c.writes.length e2] 29 (0, 0)) ∧ w'.heap[gd]? = some (.cells #[.int .i64 d.kind, .int .i64 d.epoch, .int .i64 d.node, .int .i64 d.home, .int .i64 d.by_.f0, .int .i64 d.by_.f1, .int .i64 d.by_.f2, .int .i64 d.by_.f3, .int .i64 d.at_.f0, .int .i64 d.at_.f1, .int .i64 d.wall, .bool d.yes, .slice F1 d.spans.length f1, .slice F2 d.writes.length f2] 29 (0, 0)) ∧ w'.heap[gp]? = some (.cells #[.int .i64 p.epoch, .int .i64 p.holder, .int .i64 p.floor.f0, .int .i64 p.floor.f1, .int .i64 p.closed, .int .i64 p.low, .slice M1 p.cells.length m1, .slice M2 p.records.length m2, .slice M3 p.done.length m3] 33 (0, 0)) ∧ w'.heap[gq]? = some (.cells #[.int .i64 q.epoch, .int .i64 q.holder, .int .i64 q.floor.f0, .int .i64 q.floor.f1, .int .i64 q.closed, .int .i64 q.low, .slice R1 q.cells.length r1, .slice R2 q.records.length r2, .slice R3 q.done.length r3] 33 (0, 0))) (ds := []) #[false, false, false, false, false, false, false, false, false, false, false, false, false, false, false, false, false, false, false, false, false, false, false, false, false, false, false] (by kernel_rfl) rfl rfl ⟨Bc.out, Bd.out, Bp.out, Bq.out⟩ (fun hHeld => ?_)
 refine take_ (i := 0) (N := some 29) (v := ?_) (a' := ?_) #[true, false, false, false, false, false, false, false, false, false, false, false, false, false, false, false, false, false, false, false, false, false, false, false, false, false, false] rfl rfl (by kernel_rfl) (fun _ _ _ h => h) (Or.inl ⟨by rfl, ?_⟩) hHeld ?_ ?_
 rotate_left
 ·rintro w' ⟨s0, s1, s2, s3⟩
  rw [load_exec (t := 29) (p := 4) ?_ ?_ s0 Try.underlying29 rfl (by kernel_rfl)]
  all_goals rfl
 rotate_left
 ·simp only [Act.put, s1, s2, s3, i64_w, i32_w]
  rfl
 refine take_ (i := 1) (N := some 30) (v := ?_) (a' := ?_) #[true, true, false, false, false, false, false, false, false, false, false, false, false, false, false, false, false, false, false, false, false, false, false, false, false, false, false] rfl rfl (by kernel_rfl) (fun _ _ _ h => h) (Or.inl ⟨by rfl, ?_⟩) hHeld ?_ ?_
 rotate_left
 ·rintro w' ⟨s0, s1, s2, s3⟩
  rw [load_exec (t := 29) (p := 5) ?_ ?_ s1 Try.underlying29 rfl (by kernel_rfl)]
  all_goals rfl
 rotate_left
 ·simp only [Act.put, s1, s2, s3, i64_w, i32_w]
  rfl
 refine take_ (i := 3) (N := some 32) (v := ?_) (a' := ?_) #[true, true, false, true, false, false, false, false, false, false, false, false, false, false, false, false, false, false, false, false, false, false, false, false, false, false, false] rfl rfl (by kernel_rfl) (fun _ _ _ h => h) (Or.inl ⟨by rfl, ?_⟩) hHeld ?_ ?_
 rotate_left
 ·rintro w' ⟨s0, s1, s2, s3⟩
  rw [load_exec (t := 29) (p := 4) ?_ ?_ s0 Try.underlying29 rfl (by kernel_rfl)]
  all_goals rfl
 rotate_left
 ·simp only [Act.put, s1, s2, s3, i64_w, i32_w]
  rfl
 refine take_ (i := 4) (N := some 33) (v := ?_) (a' := ?_) #[true, true, false, true, true, false, false, false, false, false, false, false, false, false, false, false, false, false, false, false, false, false, false, false, false, false, false] rfl rfl (by kernel_rfl) (fun _ _ _ h => h) (Or.inl ⟨by rfl, ?_⟩) hHeld ?_ ?_
 rotate_left
 ·rintro w' ⟨s0, s1, s2, s3⟩
  rw [load_exec (t := 29) (p := 5) ?_ ?_ s1 Try.underlying29 rfl (by kernel_rfl)]
  all_goals rfl
 rotate_left
 ·simp only [Act.put, s1, s2, s3, i64_w, i32_w]
  rfl
 refine one_ (i := 2) (N := some 31) #[true, true, true, true, true, false, false, false, false, false, false, false, false, false, false, false, false, false, false, false, false, false, false, false, false, false, false] rfl rfl (by kernel_rfl) (by decide) (fun K hK => ?_)
 refine qG Try.func10 #[.agg #[.int .i64 c.kind, .int .i64 c.epoch, .int .i64 c.node, .int .i64 c.home, .int .i64 c.by_.f0, .int .i64 c.by_.f1, .int .i64 c.by_.f2, .int .i64 c.by_.f3, .int .i64 c.at_.f0, .int .i64 c.at_.f1, .int .i64 c.wall, .bool c.yes, .slice E1 c.spans.length e1, .slice E2 c.writes.length e2], .agg #[.int .i64 d.kind, .int .i64 d.epoch, .int .i64 d.node, .int .i64 d.home, .int .i64 d.by_.f0, .int .i64 d.by_.f1, .int .i64 d.by_.f2, .int .i64 d.by_.f3, .int .i64 d.at_.f0, .int .i64 d.at_.f1, .int .i64 d.wall, .bool d.yes, .slice F1 d.spans.length f1, .slice F2 d.writes.length f2]] ?_
 refine (sameCmd_calls c d (Kd.C_below Hc1.out.1 HB.out) Hc1.out.2 (Kd.C_below Hc2.out.1 HB.out) Hc2.out.2 (Kd.C_below Hd1.out.1 HB.out) Hd1.out.2 (Kd.C_below Hd2.out.1 HB.out) Hd2.out.2).mono ?_
 rintro e v1 ⟨rfl, hb⟩
 refine ⟨_, rfl, ?_⟩
 replace HB := Aside0.mk (below_step HB.out hb)
 replace Bc := Aside0.mk (blk_below Bc.out hb)
 replace Bd := Aside0.mk (blk_below Bd.out hb)
 replace Bp := Aside0.mk (blk_below Bp.out hb)
 replace Bq := Aside0.mk (blk_below Bq.out hb)
 clear hb
 refine hK.out _ _ ⟨Bc.out, Bd.out, Bp.out, Bq.out⟩ (fun hHeld => ?_)
 clear hK K
 refine norm_ (a' := ?_) ?_ ?_
 rotate_left
 ·show Act.put _ (some 31) _ = _
  simp only [Act.put, s1, s2, s3, i64_w, i32_w]
  rfl
 refine one_ (i := 5) (N := some 34) #[true, true, true, true, true, true, false, false, false, false, false, false, false, false, false, false, false, false, false, false, false, false, false, false, false, false, false] rfl rfl (by kernel_rfl) (by decide) (fun K hK => ?_)
 refine qG Try.func11 #[.agg #[.int .i64 c.kind, .int .i64 c.epoch, .int .i64 c.node, .int .i64 c.home, .int .i64 c.by_.f0, .int .i64 c.by_.f1, .int .i64 c.by_.f2, .int .i64 c.by_.f3, .int .i64 c.at_.f0, .int .i64 c.at_.f1, .int .i64 c.wall, .bool c.yes, .slice E1 c.spans.length e1, .slice E2 c.writes.length e2], .agg #[.int .i64 d.kind, .int .i64 d.epoch, .int .i64 d.node, .int .i64 d.home, .int .i64 d.by_.f0, .int .i64 d.by_.f1, .int .i64 d.by_.f2, .int .i64 d.by_.f3, .int .i64 d.at_.f0, .int .i64 d.at_.f1, .int .i64 d.wall, .bool d.yes, .slice F1 d.spans.length f1, .slice F2 d.writes.length f2]] ?_
 refine (sameCmdR_calls c d (Kd.C_below Hc1.out.1 HB.out) Hc1.out.2 (Kd.C_below Hc2.out.1 HB.out) Hc2.out.2 (Kd.C_below Hd1.out.1 HB.out) Hd1.out.2 (Kd.C_below Hd2.out.1 HB.out) Hd2.out.2 LCC.out.1 LCC.out.2.1 LCC.out.2.2.1 LCC.out.2.2.2).mono ?_
 rintro e v2 ⟨rfl, hb⟩
 refine ⟨_, rfl, ?_⟩
 replace HB := Aside0.mk (below_step HB.out hb)
 replace Bc := Aside0.mk (blk_below Bc.out hb)
 replace Bd := Aside0.mk (blk_below Bd.out hb)
 replace Bp := Aside0.mk (blk_below Bp.out hb)
 replace Bq := Aside0.mk (blk_below Bq.out hb)
 clear hb
 refine hK.out _ _ ⟨Bc.out, Bd.out, Bp.out, Bq.out⟩ (fun hHeld => ?_)
 clear hK K
 refine norm_ (a' := ?_) ?_ ?_
 rotate_left
 ·show Act.put _ (some 34) _ = _
  simp only [Act.put, s1, s2, s3, i64_w, i32_w]
  rfl
 refine pure_ (i := 6) (N := some 35) (v := ?_) (a' := ?_) #[true, true, true, true, true, true, true, false, false, false, false, false, false, false, false, false, false, false, false, false, false, false, false, false, false, false, false] rfl rfl (by kernel_rfl) (fun _ _ _ h => h) (Or.inl ⟨by rfl, ?_⟩) ?_ ?_
 rotate_left
 ·intro w'
  go_simp
  with_reducible rfl
 rotate_left
 ·simp only [Act.put, s1, s2, s3, i64_w, i32_w]
  rfl
 refine pure_ (i := 7) (N := some 36) (v := ?_) (a' := ?_) #[true, true, true, true, true, true, true, true, false, false, false, false, false, false, false, false, false, false, false, false, false, false, false, false, false, false, false] rfl rfl (by kernel_rfl) (fun _ _ _ h => h) (Or.inl ⟨by rfl, ?_⟩) ?_ ?_
 rotate_left
 ·intro w'
  go_simp
  with_reducible rfl
 rotate_left
 ·simp only [Act.put, s1, s2, s3, i64_w, i32_w]
  rfl
 refine take_ (i := 8) (N := some 37) (v := ?_) (a' := ?_) #[true, true, true, true, true, true, true, true, true, false, false, false, false, false, false, false, false, false, false, false, false, false, false, false, false, false, false] rfl rfl (by kernel_rfl) (fun _ _ _ h => h) (Or.inl ⟨by rfl, ?_⟩) hHeld ?_ ?_
 rotate_left
 ·rintro w' ⟨s0, s1, s2, s3⟩
  rw [load_exec (t := 33) (p := 6) ?_ ?_ s2 Try.underlying33 rfl (by kernel_rfl)]
  all_goals rfl
 rotate_left
 ·simp only [Act.put, s1, s2, s3, i64_w, i32_w]
  rfl
 refine take_ (i := 9) (N := some 38) (v := ?_) (a' := ?_) #[true, true, true, true, true, true, true, true, true, true, false, false, false, false, false, false, false, false, false, false, false, false, false, false, false, false, false] rfl rfl (by kernel_rfl) (fun _ _ _ h => h) (Or.inl ⟨by rfl, ?_⟩) hHeld ?_ ?_
 rotate_left
 ·rintro w' ⟨s0, s1, s2, s3⟩
  rw [load_exec (t := 33) (p := 7) ?_ ?_ s3 Try.underlying33 rfl (by kernel_rfl)]
  all_goals rfl
 rotate_left
 ·simp only [Act.put, s1, s2, s3, i64_w, i32_w]
  rfl
 refine take_ (i := 11) (N := some 40) (v := ?_) (a' := ?_) #[true, true, true, true, true, true, true, true, true, true, false, true, false, false, false, false, false, false, false, false, false, false, false, false, false, false, false] rfl rfl (by kernel_rfl) (fun _ _ _ h => h) (Or.inl ⟨by rfl, ?_⟩) hHeld ?_ ?_
 rotate_left
 ·rintro w' ⟨s0, s1, s2, s3⟩
  rw [load_exec (t := 33) (p := 6) ?_ ?_ s2 Try.underlying33 rfl (by kernel_rfl)]
  all_goals rfl
 rotate_left
 ·simp only [Act.put, s1, s2, s3, i64_w, i32_w]
  rfl
 refine take_ (i := 12) (N := some 41) (v := ?_) (a' := ?_) #[true, true, true, true, true, true, true, true, true, true, false, true, true, false, false, false, false, false, false, false, false, false, false, false, false, false, false] rfl rfl (by kernel_rfl) (fun _ _ _ h => h) (Or.inl ⟨by rfl, ?_⟩) hHeld ?_ ?_
 rotate_left
 ·rintro w' ⟨s0, s1, s2, s3⟩
  rw [load_exec (t := 33) (p := 7) ?_ ?_ s3 Try.underlying33 rfl (by kernel_rfl)]
  all_goals rfl
 rotate_left
 ·simp only [Act.put, s1, s2, s3, i64_w, i32_w]
  rfl
 refine one_ (i := 10) (N := some 39) #[true, true, true, true, true, true, true, true, true, true, true, true, true, false, false, false, false, false, false, false, false, false, false, false, false, false, false] rfl rfl (by kernel_rfl) (by decide) (fun K hK => ?_)
 refine qG Try.func12 #[.agg #[.int .i64 p.epoch, .int .i64 p.holder, .int .i64 p.floor.f0, .int .i64 p.floor.f1, .int .i64 p.closed, .int .i64 p.low, .slice M1 p.cells.length m1, .slice M2 p.records.length m2, .slice M3 p.done.length m3], .agg #[.int .i64 q.epoch, .int .i64 q.holder, .int .i64 q.floor.f0, .int .i64 q.floor.f1, .int .i64 q.closed, .int .i64 q.low, .slice R1 q.cells.length r1, .slice R2 q.records.length r2, .slice R3 q.done.length r3]] ?_
 refine (samePart_calls p q _ (Kd.C_below Hp1.out.1 HB.out) Hp1.out.2 (Kd.C_below Hp2.out.1 HB.out) Hp2.out.2 (Kd.C_below Hp3.out.1 HB.out) Hp3.out.2 (Kd.C_below Hq1.out.1 HB.out) Hq1.out.2 (Kd.C_below Hq2.out.1 HB.out) Hq2.out.2 (Kd.C_below Hq3.out.1 HB.out) Hq3.out.2).mono ?_
 rintro e v3 ⟨rfl, hb⟩
 refine ⟨_, rfl, ?_⟩
 replace HB := Aside0.mk (below_step HB.out hb)
 replace Bc := Aside0.mk (blk_below Bc.out hb)
 replace Bd := Aside0.mk (blk_below Bd.out hb)
 replace Bp := Aside0.mk (blk_below Bp.out hb)
 replace Bq := Aside0.mk (blk_below Bq.out hb)
 clear hb
 refine hK.out _ _ ⟨Bc.out, Bd.out, Bp.out, Bq.out⟩ (fun hHeld => ?_)
 clear hK K
 refine norm_ (a' := ?_) ?_ ?_
 rotate_left
 ·show Act.put _ (some 39) _ = _
  simp only [Act.put, s1, s2, s3, i64_w, i32_w]
  rfl
 refine one_ (i := 13) (N := some 42) #[true, true, true, true, true, true, true, true, true, true, true, true, true, true, false, false, false, false, false, false, false, false, false, false, false, false, false] rfl rfl (by kernel_rfl) (by decide) (fun K hK => ?_)
 refine qG Try.func13 #[.agg #[.int .i64 p.epoch, .int .i64 p.holder, .int .i64 p.floor.f0, .int .i64 p.floor.f1, .int .i64 p.closed, .int .i64 p.low, .slice M1 p.cells.length m1, .slice M2 p.records.length m2, .slice M3 p.done.length m3], .agg #[.int .i64 q.epoch, .int .i64 q.holder, .int .i64 q.floor.f0, .int .i64 q.floor.f1, .int .i64 q.closed, .int .i64 q.low, .slice R1 q.cells.length r1, .slice R2 q.records.length r2, .slice R3 q.done.length r3]] ?_
 refine (samePartR_calls p q _ (Kd.C_below Hp1.out.1 HB.out) Hp1.out.2 (Kd.C_below Hp2.out.1 HB.out) Hp2.out.2 (Kd.C_below Hp3.out.1 HB.out) Hp3.out.2 (Kd.C_below Hq1.out.1 HB.out) Hq1.out.2 (Kd.C_below Hq2.out.1 HB.out) Hq2.out.2 (Kd.C_below Hq3.out.1 HB.out) Hq3.out.2).mono ?_
 rintro e v4 ⟨rfl, hb⟩
 refine ⟨_, rfl, ?_⟩
 replace HB := Aside0.mk (below_step HB.out hb)
 replace Bc := Aside0.mk (blk_below Bc.out hb)
 replace Bd := Aside0.mk (blk_below Bd.out hb)
 replace Bp := Aside0.mk (blk_below Bp.out hb)
 replace Bq := Aside0.mk (blk_below Bq.out hb)
 clear hb
 refine hK.out _ _ ⟨Bc.out, Bd.out, Bp.out, Bq.out⟩ (fun hHeld => ?_)
 clear hK K
 refine norm_ (a' := ?_) ?_ ?_
 rotate_left
 ·show Act.put _ (some 42) _ = _
  simp only [Act.put, s1, s2, s3, i64_w, i32_w]
  rfl
 refine pure_ (i := 14) (N := some 43) (v := ?_) (a' := ?_) #[true, true, true, true, true, true, true, true, true, true, true, true, true, true, true, false, false, false, false, false, false, false, false, false, false, false, false] rfl rfl (by kernel_rfl) (fun _ _ _ h => h) (Or.inl ⟨by rfl, ?_⟩) ?_ ?_
 rotate_left
 ·intro w'
  go_simp
  with_reducible rfl
 rotate_left
 ·simp only [Act.put, s1, s2, s3, i64_w, i32_w]
  rfl
 refine pure_ (i := 15) (N := some 44) (v := ?_) (a' := ?_) #[true, true, true, true, true, true, true, true, true, true, true, true, true, true, true, true, false, false, false, false, false, false, false, false, false, false, false] rfl rfl (by kernel_rfl) (fun _ _ _ h => h) (Or.inl ⟨by rfl, ?_⟩) ?_ ?_
 rotate_left
 ·intro w'
  go_simp
  with_reducible rfl
 rotate_left
 ·simp only [Act.put, s1, s2, s3, i64_w, i32_w]
  rfl
 refine pure_ (i := 16) (N := some 45) (v := ?_) (a' := ?_) #[true, true, true, true, true, true, true, true, true, true, true, true, true, true, true, true, true, false, false, false, false, false, false, false, false, false, false] rfl rfl (by kernel_rfl) (fun _ _ _ h => h) (Or.inl ⟨by rfl, ?_⟩) ?_ ?_
 rotate_left
 ·intro w'
  go_simp
  with_reducible rfl
 rotate_left
 ·simp only [Act.put, s1, s2, s3, i64_w, i32_w]
  rfl
 refine take_ (i := 17) (N := some 46) (v := ?_) (a' := ?_) #[true, true, true, true, true, true, true, true, true, true, true, true, true, true, true, true, true, true, false, false, false, false, false, false, false, false, false] rfl rfl (by kernel_rfl) (fun _ _ _ h => h) (Or.inl ⟨by rfl, ?_⟩) hHeld ?_ ?_
 rotate_left
 ·rintro w' ⟨s0, s1, s2, s3⟩
  rw [load_exec (t := 29) (p := 4) ?_ ?_ s0 Try.underlying29 rfl (by kernel_rfl)]
  all_goals rfl
 rotate_left
 ·simp only [Act.put, s1, s2, s3, i64_w, i32_w]
  rfl
 refine take_ (i := 18) (N := some 47) (v := ?_) (a' := ?_) #[true, true, true, true, true, true, true, true, true, true, true, true, true, true, true, true, true, true, true, false, false, false, false, false, false, false, false] rfl rfl (by kernel_rfl) (fun _ _ _ h => h) (Or.inl ⟨by rfl, ?_⟩) hHeld ?_ ?_
 rotate_left
 ·rintro w' ⟨s0, s1, s2, s3⟩
  rw [load_exec (t := 29) (p := 4) ?_ ?_ s0 Try.underlying29 rfl (by kernel_rfl)]
  all_goals rfl
 rotate_left
 ·simp only [Act.put, s1, s2, s3, i64_w, i32_w]
  rfl
 refine one_ (i := 19) (N := some 48) #[true, true, true, true, true, true, true, true, true, true, true, true, true, true, true, true, true, true, true, true, false, false, false, false, false, false, false] rfl rfl (by kernel_rfl) (by decide) (fun K hK => ?_)
 refine qG Try.func10 #[.agg #[.int .i64 c.kind, .int .i64 c.epoch, .int .i64 c.node, .int .i64 c.home, .int .i64 c.by_.f0, .int .i64 c.by_.f1, .int .i64 c.by_.f2, .int .i64 c.by_.f3, .int .i64 c.at_.f0, .int .i64 c.at_.f1, .int .i64 c.wall, .bool c.yes, .slice E1 c.spans.length e1, .slice E2 c.writes.length e2], .agg #[.int .i64 c.kind, .int .i64 c.epoch, .int .i64 c.node, .int .i64 c.home, .int .i64 c.by_.f0, .int .i64 c.by_.f1, .int .i64 c.by_.f2, .int .i64 c.by_.f3, .int .i64 c.at_.f0, .int .i64 c.at_.f1, .int .i64 c.wall, .bool c.yes, .slice E1 c.spans.length e1, .slice E2 c.writes.length e2]] ?_
 refine (sameCmd_calls c c (Kd.C_below Hc1.out.1 HB.out) Hc1.out.2 (Kd.C_below Hc2.out.1 HB.out) Hc2.out.2 (Kd.C_below Hc1.out.1 HB.out) Hc1.out.2 (Kd.C_below Hc2.out.1 HB.out) Hc2.out.2).mono ?_
 rintro e v5 ⟨rfl, hb⟩
 refine ⟨_, rfl, ?_⟩
 replace HB := Aside0.mk (below_step HB.out hb)
 replace Bc := Aside0.mk (blk_below Bc.out hb)
 replace Bd := Aside0.mk (blk_below Bd.out hb)
 replace Bp := Aside0.mk (blk_below Bp.out hb)
 replace Bq := Aside0.mk (blk_below Bq.out hb)
 clear hb
 refine hK.out _ _ ⟨Bc.out, Bd.out, Bp.out, Bq.out⟩ (fun hHeld => ?_)
 clear hK K
 refine norm_ (a' := ?_) ?_ ?_
 rotate_left
 ·show Act.put _ (some 48) _ = _
  simp only [Act.put, s1, s2, s3, i64_w, i32_w]
  rfl
 refine pure_ (i := 20) (N := some 49) (v := ?_) (a' := ?_) #[true, true, true, true, true, true, true, true, true, true, true, true, true, true, true, true, true, true, true, true, true, false, false, false, false, false, false] rfl rfl (by kernel_rfl) (fun _ _ _ h => h) (Or.inl ⟨by rfl, ?_⟩) ?_ ?_
 rotate_left
 ·intro w'
  go_simp
  with_reducible rfl
 rotate_left
 ·simp only [Act.put, s1, s2, s3, i64_w, i32_w]
  rfl
 refine pure_ (i := 21) (N := some 50) (v := ?_) (a' := ?_) #[true, true, true, true, true, true, true, true, true, true, true, true, true, true, true, true, true, true, true, true, true, true, false, false, false, false, false] rfl rfl (by kernel_rfl) (fun _ _ _ h => h) (Or.inl ⟨by rfl, ?_⟩) ?_ ?_
 rotate_left
 ·intro w'
  go_simp
  with_reducible rfl
 rotate_left
 ·simp only [Act.put, s1, s2, s3, i64_w, i32_w]
  rfl
 refine take_ (i := 22) (N := some 51) (v := ?_) (a' := ?_) #[true, true, true, true, true, true, true, true, true, true, true, true, true, true, true, true, true, true, true, true, true, true, true, false, false, false, false] rfl rfl (by kernel_rfl) (fun _ _ _ h => h) (Or.inl ⟨by rfl, ?_⟩) hHeld ?_ ?_
 rotate_left
 ·rintro w' ⟨s0, s1, s2, s3⟩
  rw [load_exec (t := 33) (p := 7) ?_ ?_ s3 Try.underlying33 rfl (by kernel_rfl)]
  all_goals rfl
 rotate_left
 ·simp only [Act.put, s1, s2, s3, i64_w, i32_w]
  rfl
 refine take_ (i := 23) (N := some 52) (v := ?_) (a' := ?_) #[true, true, true, true, true, true, true, true, true, true, true, true, true, true, true, true, true, true, true, true, true, true, true, true, false, false, false] rfl rfl (by kernel_rfl) (fun _ _ _ h => h) (Or.inl ⟨by rfl, ?_⟩) hHeld ?_ ?_
 rotate_left
 ·rintro w' ⟨s0, s1, s2, s3⟩
  rw [load_exec (t := 33) (p := 7) ?_ ?_ s3 Try.underlying33 rfl (by kernel_rfl)]
  all_goals rfl
 rotate_left
 ·simp only [Act.put, s1, s2, s3, i64_w, i32_w]
  rfl
 refine one_ (i := 24) (N := some 53) #[true, true, true, true, true, true, true, true, true, true, true, true, true, true, true, true, true, true, true, true, true, true, true, true, true, false, false] rfl rfl (by kernel_rfl) (by decide) (fun K hK => ?_)
 refine qG Try.func12 #[.agg #[.int .i64 q.epoch, .int .i64 q.holder, .int .i64 q.floor.f0, .int .i64 q.floor.f1, .int .i64 q.closed, .int .i64 q.low, .slice R1 q.cells.length r1, .slice R2 q.records.length r2, .slice R3 q.done.length r3], .agg #[.int .i64 q.epoch, .int .i64 q.holder, .int .i64 q.floor.f0, .int .i64 q.floor.f1, .int .i64 q.closed, .int .i64 q.low, .slice R1 q.cells.length r1, .slice R2 q.records.length r2, .slice R3 q.done.length r3]] ?_
 refine (samePart_calls q q _ (Kd.C_below Hq1.out.1 HB.out) Hq1.out.2 (Kd.C_below Hq2.out.1 HB.out) Hq2.out.2 (Kd.C_below Hq3.out.1 HB.out) Hq3.out.2 (Kd.C_below Hq1.out.1 HB.out) Hq1.out.2 (Kd.C_below Hq2.out.1 HB.out) Hq2.out.2 (Kd.C_below Hq3.out.1 HB.out) Hq3.out.2).mono ?_
 rintro e v6 ⟨rfl, hb⟩
 refine ⟨_, rfl, ?_⟩
 replace HB := Aside0.mk (below_step HB.out hb)
 replace Bc := Aside0.mk (blk_below Bc.out hb)
 replace Bd := Aside0.mk (blk_below Bd.out hb)
 replace Bp := Aside0.mk (blk_below Bp.out hb)
 replace Bq := Aside0.mk (blk_below Bq.out hb)
 clear hb
 refine hK.out _ _ ⟨Bc.out, Bd.out, Bp.out, Bq.out⟩ (fun hHeld => ?_)
 clear hK K
 refine norm_ (a' := ?_) ?_ ?_
 rotate_left
 ·show Act.put _ (some 53) _ = _
  simp only [Act.put, s1, s2, s3, i64_w, i32_w]
  rfl
 refine pure_ (i := 25) (N := some 54) (v := ?_) (a' := ?_) #[true, true, true, true, true, true, true, true, true, true, true, true, true, true, true, true, true, true, true, true, true, true, true, true, true, true, false] rfl rfl (by kernel_rfl) (fun _ _ _ h => h) (Or.inl ⟨by rfl, ?_⟩) ?_ ?_
 rotate_left
 ·intro w'
  go_simp
  with_reducible rfl
 rotate_left
 ·simp only [Act.put, s1, s2, s3, i64_w, i32_w]
  rfl
 refine pure_ (i := 26) (N := some 8) (v := ?_) (a' := ?_) #[true, true, true, true, true, true, true, true, true, true, true, true, true, true, true, true, true, true, true, true, true, true, true, true, true, true, true] rfl rfl (by kernel_rfl) (fun _ _ _ h => h) (Or.inl ⟨by rfl, ?_⟩) ?_ ?_
 rotate_left
 ·intro w'
  go_simp
  with_reducible rfl
 rotate_left
 ·simp only [Act.put, s1, s2, s3, i64_w, i32_w]
  rfl
 refine done_ (by kernel_rfl) ?_
 go_wp2
 go_ret
 exact ⟨by first | rfl | (simp; done), HB.out⟩
theorem same_walk (c d : CmdV) (p q : PartV) (w : World) {E1 E2 F1 F2 M1 M2 M3 R1 R2 R3 : Option Addr} {e1 e2 f1 f2 m1 m2 m3 r1 r2 r3 : Nat} (hc1 : Kd.C k65 w E1 c.spans.length c.spans) (kc1 : c.spans.length ≤ e1) (hc2 : Kd.C k67 w E2 c.writes.length c.writes) (kc2 : c.writes.length ≤ e2) (hd1 : Kd.C k65 w F1 d.spans.length d.spans) (kd1 : d.spans.length ≤ f1) (hd2 : Kd.C k67 w F2 d.writes.length d.writes) (kd2 : d.writes.length ≤ f2) (hp1 : Kd.C k75 w M1 p.cells.length p.cells) (kp1 : p.cells.length ≤ m1) (hp2 : Kd.C k83 w M2 p.records.length p.records) (kp2 : p.records.length ≤ m2) (hp3 : Kd.C k83 w M3 p.done.length p.done) (kp3 : p.done.length ≤ m3) (hq1 : Kd.C k75 w R1 q.cells.length q.cells) (kq1 : q.cells.length ≤ r1) (hq2 : Kd.C k83 w R2 q.records.length q.records) (kq2 : q.records.length ≤ r2) (hq3 : Kd.C k83 w R3 q.done.length q.done) (kq3 : q.done.length ≤ r3) (gc : gCmd0 c) (gd : gCmd0 d) :
  Calls Try.prog 3 #[cmdAgg c (.slice E1 c.spans.length e1) (.slice E2 c.writes.length e2), cmdAgg d (.slice F1 d.spans.length f1) (.slice F2 d.writes.length f2), partV p (.slice M1 p.cells.length m1) (.slice M2 p.records.length m2) (.slice M3 p.done.length m3), partV q (.slice R1 q.cells.length r1) (.slice R2 q.records.length r2) (.slice R3 q.done.length r3)] w (fun e w' => e = .returned (.bool true) ∧ Below w.heap.size w w') := by
 obtain ⟨j1, b1, l1, g1⟩ := light_cmd c hc1.2.1 hc2.2.1
 obtain ⟨j2, b2, l2, g2⟩ := light_cmd d hd1.2.1 hd2.2.1
 obtain ⟨j3, b3, l3, g3⟩ := light_part p
 obtain ⟨j4, b4, l4, g4⟩ := light_part q
 cases b1 with
 | false => exact dark0 c d p q w hc1 kc1 hc2 kc2 hd1 kd1 hd2 kd2 hp1 kp1 hp2 kp2 hp3 kp3 hq1 kq1 hq2 kq2 hq3 kq3 ⟨l1⟩
 | true =>
  cases b2 with
  | false => exact dark1 c d p q w hc1 kc1 hc2 kc2 hd1 kd1 hd2 kd2 hp1 kp1 hp2 kp2 hp3 kp3 hq1 kq1 hq2 kq2 hq3 kq3 ⟨l1⟩ ⟨l2⟩
  | true =>
   cases b3 with
   | false => exact dark2 c d p q w hc1 kc1 hc2 kc2 hd1 kd1 hd2 kd2 hp1 kp1 hp2 kp2 hp3 kp3 hq1 kq1 hq2 kq2 hq3 kq3 ⟨l1⟩ ⟨l2⟩ ⟨l3⟩
   | true =>
    cases b4 with
    | false => exact dark3 c d p q w hc1 kc1 hc2 kc2 hd1 kd1 hd2 kd2 hp1 kp1 hp2 kp2 hp3 kp3 hq1 kq1 hq2 kq2 hq3 kq3 ⟨l1⟩ ⟨l2⟩ ⟨l3⟩ ⟨l4⟩
    | true => exact lit c d p q w hc1 kc1 hc2 kc2 hd1 kd1 hd2 kd2 hp1 kp1 hp2 kp2 hp3 kp3 hq1 kq1 hq2 kq2 hq3 kq3 ⟨l1⟩ ⟨l2⟩ ⟨l3⟩ ⟨l4⟩ ⟨⟨g1 rfl, g2 rfl, gc, gd⟩⟩
end Go.Proofs.Ytjfgapaohldbkaa.WireSa

