/- What Go functions of this seat answer: each has a Lean function ('.f') and a contract ('.calls'). Conditions: those of each theorem. Written by a program over the kit's printer; what is marked 'typed by hand' is this session's. -/
import Derived.Test.YtkacoffiinggiaaK0
import Derived.Test.YtkacoffiinggiaaK6
namespace Go.Proofs.Ytkacoffiinggiaa.K
open Go.RowKit Go.Proofs.YtkacoffiinggiaaW.PrintWords Go.Proofs.YtkacoffiinggiaaW.PrintLast Go.Proofs.YtkacoffiinggiaaW.PrintMore
attribute [local go_sem] max2_int min2_int max_two min_two max_three min_three max_four min_four   -- for this text's walks alone
set_option linter.unusedVariables false
set_option linter.unusedSimpArgs false

/-! ### hauberkref02_Of: function 18 (typed by hand) -/
theorem wpList_build_eq {P : Program} {ops : Array Oper} {rest : List Oper} {o : Oper} {a : Act} {w : World} {Q : Exit → Act → World → Prop} (hg : o.guard = none) (t : TypeId) (parts : Array (Nat × Operand)) (ho : o.op = .build t parts) (cs : Array Value)
  (hb : P.built t (parts.map fun (i, x) => (i, a.eval x)).toList = some cs) (h : wpList P ops Q rest (a.put o.dst (.agg cs)) w) : wpList P ops Q (o :: rest) a w :=
 wpList_build hg t parts ho (by rw [hb]; rfl) (by rw [hb]; exact h)
theorem of_setRow {w : World} {g : Nat} {old cs : Array Value} {t : TypeId} (h : w.heap[g]? = some (.cells old t (0, 0))) : (w.setRow g cs).heap[g]? = some (.cells cs t (0, 0)) := setRow_heap w g old cs t _ h
theorem of_setRow_ne {w : World} {g k : Nat} {cs : Array Value} (h : k ≠ g) : (w.setRow g cs).heap[k]? = w.heap[k]? := by
 show (w.heap.modify g _)[k]? = _
 rw [Array.getElem?_modify, if_neg (fun e => h e.symm)]
theorem of_setRow_below {B : Nat} {w0 w : World} {g : Nat} {cs : Array Value} (h : Below B w0 w) (hg : B ≤ g) : Below B w0 (w.setRow g cs) :=
 ⟨h.os, h.tape, h.output, by show _ ≤ (w.heap.modify g _).size; rw [Array.size_modify]; exact h.size, fun k hk => (of_setRow_ne (by omega)).trans (h.block k hk)⟩
theorem of_res (tmps : Array Value) (w : World) (g : Nat) (cs : Array Value) (fr : Nat × Nat) (hp : tmps.getD 2 undef = .pointer (some ⟨g, 0, none⟩)) (hg : w.heap[g]? = some (.cells cs 62 fr)) (hi : cs.size = 4) :
  (results Try.f18 tmps).run Try.prog w = .ok (.agg cs) w :=
 results_cell_row rfl _ _ g 62 _ fr _ hp hg Try.underlying62 rfl (by rw [hi]; kernel_rfl)
theorem of_put4 {w : World} {g : Nat} {a0 a1 a2 a3 : Value} (h : w.heap[g]? = some (.cells #[a0, a1, a2, a3] 62 (0, 0))) (b0 b1 b2 b3 : Value) :
  ((((w.setCell ⟨g, 0, none⟩ b0).setCell ⟨g, 1, none⟩ b1).setCell ⟨g, 2, none⟩ b2).setCell ⟨g, 3, none⟩ b3).heap[g]? = some (.cells #[b0, b1, b2, b3] 62 (0, 0)) :=
 blk_put (cs := #[b0, b1, b2, a3]) (blk_put (cs := #[b0, b1, a2, a3]) (blk_put (cs := #[b0, a1, a2, a3]) (blk_put (cs := #[a0, a1, a2, a3]) h 0 _ rfl) 1 _ rfl) 2 _ rfl) 3 _ rfl
theorem of_no (op : Int) (h : op < 1 ∨ op > 55) : cm_ent op = ⟨op, 0, 0, 0, 0⟩ := by
 have : (cm_e13.all (fun e => decide (1 ≤ e.n ∧ e.n ≤ 55))) = true := by decide +kernel
 unfold cm_ent
 rw [List.find?_eq_none.2]
 ·rfl
 ·intro e he
  have h2 := of_decide_eq_true (List.all_eq_true.mp this e he)
  simp only [decide_eq_true_eq]
  omega
set_option maxHeartbeats 60000000 in
set_option maxRecDepth 100000 in
theorem of_calls (op : Int) (w : World) : Calls Try.prog 18 #[.int .i64 op] w fun e w' => e = .returned (.agg #[.int .u8 (cm_ent op).form, .int .i64 (cm_ent op).op, .int .i64 (cm_ent op).f3, .int .i64 (cm_ent op).f7]) ∧ Below w.heap.size w w' := by
 have HB := Aside0.mk (Below.refl w.heap.size w)
 have hu62 := Try.underlying62
 have hu71 := Try.underlying71
 have hu72 := Try.underlying72
 have hu73 := Try.underlying73
 go_enter Try.func18, Try.ntmps18
 go_upto_region 1 with (first | ((with_reducible refine gate_dst (N := 2) rfl ?_); (try (refine gate_guard (by rfl) ?_; dsimp only)); refine box_event ?hg (N := 2) ?hd (cs := #[.int .u8 0, .int .i64 0, .int .i64 0, .int .i64 0]) (t := 62) ?hr ?_; (case hd => rfl); (case hg => rfl); (case hr => first | (go_simp; done) | (go_simp; rfl)); intro g2 hg w1 hbox hb; have n0_ := Aside0.mk (below_step (by repeat (first | (with_reducible first | exact HB.out | apply below_alloc | apply pw_below_drewN | apply below_drew1) | exact HB.out)) hb); have n1_ := Aside0.mk hbox; have n2_ := Aside0.mk ((by rw [hg]; exact (below_size (by repeat (first | (with_reducible first | exact HB.out | apply below_alloc | apply pw_below_drewN | apply below_drew1) | exact HB.out)))) : w.heap.size ≤ g2); clear HB; have HB := n0_; have BK2 := n1_; have GE2 := n2_; clear n0_ n1_ n2_; clear hb hbox hg; have hc2_0 : w1.cell? ⟨g2, 0, none⟩ = some (.int .u8 0) := (blk_cell BK2.out 0).trans rfl; have hc2_1 : w1.cell? ⟨g2, 1, none⟩ = some (.int .i64 0) := (blk_cell BK2.out 1).trans rfl; have hc2_2 : w1.cell? ⟨g2, 2, none⟩ = some (.int .i64 0) := (blk_cell BK2.out 2).trans rfl; have hc2_3 : w1.cell? ⟨g2, 3, none⟩ = some (.int .i64 0) := (blk_cell BK2.out 3).trans rfl; have hf2_0 := blk_frozen BK2.out 0; have hf2_1 := blk_frozen BK2.out 1; have hf2_2 := blk_frozen BK2.out 2; have hf2_3 := blk_frozen BK2.out 3))
 go_simp
 clear hc2_0 hc2_1 hc2_2 hc2_3 hf2_0 hf2_1 hf2_2 hf2_3
 go_cut [3] (fun v3 wc => ∃ g3, v3 = .pointer (some ⟨g3, 0, none⟩) ∧ Aside0 (wc.heap[g3]? = some (.cells #[.int .i64 0, .int .i64 0, .int .i64 0, .int .i64 0, .int .i64 0, .int .i64 32, .int .i64 1, .int .i64 0, .int .i64 2, .int .i64 0, .int .i64 3, .int .i64 0, .int .i64 4, .int .i64 0, .int .i64 5, .int .i64 0, .int .i64 5, .int .i64 32, .int .i64 6, .int .i64 0, .int .i64 7, .int .i64 0, .int .i64 0, .int .i64 1, .int .i64 1, .int .i64 1, .int .i64 3, .int .i64 1, .int .i64 4, .int .i64 1, .int .i64 5, .int .i64 1, .int .i64 6, .int .i64 1, .int .i64 7, .int .i64 1, .int .i64 0, .int .i64 0, .int .i64 0, .int .i64 32, .int .i64 1, .int .i64 0, .int .i64 5, .int .i64 0, .int .i64 5, .int .i64 32, .int .i64 0, .int .i64 1, .int .i64 4, .int .i64 1, .int .i64 5, .int .i64 1, .int .i64 6, .int .i64 1, .int .i64 7, .int .i64 1] 72 (0, 0))) ∧ Aside0 (wc.heap[g2]? = some (.cells #[.int .u8 0, .int .i64 0, .int .i64 0, .int .i64 0] 62 (0, 0))) ∧ Aside0 (g2 ≠ g3) ∧ Aside0 (Below w.heap.size w wc))
 case first =>
  --D
  skip
  go_step
  ((with_reducible refine gate_dst (N := 6) rfl ?_); refine wpList_build_eq rfl 71 _ rfl #[.int .i64 0, .int .i64 0] (by rw [List.map_toArray]; simp only [List.map_cons, List.map_nil, Act.eval]; kernel_rfl) ?_)
  go_simp
  ((with_reducible refine gate_dst (N := 7) rfl ?_); refine wpList_build_eq rfl 71 _ rfl #[.int .i64 0, .int .i64 0] (by rw [List.map_toArray]; simp only [List.map_cons, List.map_nil, Act.eval]; kernel_rfl) ?_)
  go_simp
  ((with_reducible refine gate_dst (N := 8) rfl ?_); refine wpList_build_eq rfl 71 _ rfl #[.int .i64 0, .int .i64 32] (by rw [List.map_toArray]; simp only [List.map_cons, List.map_nil, Act.eval]; kernel_rfl) ?_)
  go_simp
  ((with_reducible refine gate_dst (N := 9) rfl ?_); refine wpList_build_eq rfl 71 _ rfl #[.int .i64 1, .int .i64 0] (by rw [List.map_toArray]; simp only [List.map_cons, List.map_nil, Act.eval]; kernel_rfl) ?_)
  go_simp
  ((with_reducible refine gate_dst (N := 10) rfl ?_); refine wpList_build_eq rfl 71 _ rfl #[.int .i64 2, .int .i64 0] (by rw [List.map_toArray]; simp only [List.map_cons, List.map_nil, Act.eval]; kernel_rfl) ?_)
  go_simp
  ((with_reducible refine gate_dst (N := 11) rfl ?_); refine wpList_build_eq rfl 71 _ rfl #[.int .i64 3, .int .i64 0] (by rw [List.map_toArray]; simp only [List.map_cons, List.map_nil, Act.eval]; kernel_rfl) ?_)
  go_simp
  ((with_reducible refine gate_dst (N := 12) rfl ?_); refine wpList_build_eq rfl 71 _ rfl #[.int .i64 4, .int .i64 0] (by rw [List.map_toArray]; simp only [List.map_cons, List.map_nil, Act.eval]; kernel_rfl) ?_)
  go_simp
  ((with_reducible refine gate_dst (N := 13) rfl ?_); refine wpList_build_eq rfl 71 _ rfl #[.int .i64 5, .int .i64 0] (by rw [List.map_toArray]; simp only [List.map_cons, List.map_nil, Act.eval]; kernel_rfl) ?_)
  go_simp
  ((with_reducible refine gate_dst (N := 14) rfl ?_); refine wpList_build_eq rfl 71 _ rfl #[.int .i64 5, .int .i64 32] (by rw [List.map_toArray]; simp only [List.map_cons, List.map_nil, Act.eval]; kernel_rfl) ?_)
  go_simp
  ((with_reducible refine gate_dst (N := 15) rfl ?_); refine wpList_build_eq rfl 71 _ rfl #[.int .i64 6, .int .i64 0] (by rw [List.map_toArray]; simp only [List.map_cons, List.map_nil, Act.eval]; kernel_rfl) ?_)
  go_simp
  ((with_reducible refine gate_dst (N := 16) rfl ?_); refine wpList_build_eq rfl 71 _ rfl #[.int .i64 7, .int .i64 0] (by rw [List.map_toArray]; simp only [List.map_cons, List.map_nil, Act.eval]; kernel_rfl) ?_)
  go_simp
  ((with_reducible refine gate_dst (N := 17) rfl ?_); refine wpList_build_eq rfl 71 _ rfl #[.int .i64 0, .int .i64 1] (by rw [List.map_toArray]; simp only [List.map_cons, List.map_nil, Act.eval]; kernel_rfl) ?_)
  go_simp
  ((with_reducible refine gate_dst (N := 18) rfl ?_); refine wpList_build_eq rfl 71 _ rfl #[.int .i64 1, .int .i64 1] (by rw [List.map_toArray]; simp only [List.map_cons, List.map_nil, Act.eval]; kernel_rfl) ?_)
  go_simp
  ((with_reducible refine gate_dst (N := 19) rfl ?_); refine wpList_build_eq rfl 71 _ rfl #[.int .i64 3, .int .i64 1] (by rw [List.map_toArray]; simp only [List.map_cons, List.map_nil, Act.eval]; kernel_rfl) ?_)
  go_simp
  ((with_reducible refine gate_dst (N := 20) rfl ?_); refine wpList_build_eq rfl 71 _ rfl #[.int .i64 4, .int .i64 1] (by rw [List.map_toArray]; simp only [List.map_cons, List.map_nil, Act.eval]; kernel_rfl) ?_)
  go_simp
  ((with_reducible refine gate_dst (N := 21) rfl ?_); refine wpList_build_eq rfl 71 _ rfl #[.int .i64 5, .int .i64 1] (by rw [List.map_toArray]; simp only [List.map_cons, List.map_nil, Act.eval]; kernel_rfl) ?_)
  go_simp
  ((with_reducible refine gate_dst (N := 22) rfl ?_); refine wpList_build_eq rfl 71 _ rfl #[.int .i64 6, .int .i64 1] (by rw [List.map_toArray]; simp only [List.map_cons, List.map_nil, Act.eval]; kernel_rfl) ?_)
  go_simp
  ((with_reducible refine gate_dst (N := 23) rfl ?_); refine wpList_build_eq rfl 71 _ rfl #[.int .i64 7, .int .i64 1] (by rw [List.map_toArray]; simp only [List.map_cons, List.map_nil, Act.eval]; kernel_rfl) ?_)
  go_simp
  ((with_reducible refine gate_dst (N := 24) rfl ?_); refine wpList_build_eq rfl 71 _ rfl #[.int .i64 0, .int .i64 0] (by rw [List.map_toArray]; simp only [List.map_cons, List.map_nil, Act.eval]; kernel_rfl) ?_)
  go_simp
  ((with_reducible refine gate_dst (N := 25) rfl ?_); refine wpList_build_eq rfl 71 _ rfl #[.int .i64 0, .int .i64 32] (by rw [List.map_toArray]; simp only [List.map_cons, List.map_nil, Act.eval]; kernel_rfl) ?_)
  go_simp
  ((with_reducible refine gate_dst (N := 26) rfl ?_); refine wpList_build_eq rfl 71 _ rfl #[.int .i64 1, .int .i64 0] (by rw [List.map_toArray]; simp only [List.map_cons, List.map_nil, Act.eval]; kernel_rfl) ?_)
  go_simp
  ((with_reducible refine gate_dst (N := 27) rfl ?_); refine wpList_build_eq rfl 71 _ rfl #[.int .i64 5, .int .i64 0] (by rw [List.map_toArray]; simp only [List.map_cons, List.map_nil, Act.eval]; kernel_rfl) ?_)
  go_simp
  ((with_reducible refine gate_dst (N := 28) rfl ?_); refine wpList_build_eq rfl 71 _ rfl #[.int .i64 5, .int .i64 32] (by rw [List.map_toArray]; simp only [List.map_cons, List.map_nil, Act.eval]; kernel_rfl) ?_)
  go_simp
  ((with_reducible refine gate_dst (N := 29) rfl ?_); refine wpList_build_eq rfl 71 _ rfl #[.int .i64 0, .int .i64 1] (by rw [List.map_toArray]; simp only [List.map_cons, List.map_nil, Act.eval]; kernel_rfl) ?_)
  go_simp
  ((with_reducible refine gate_dst (N := 30) rfl ?_); refine wpList_build_eq rfl 71 _ rfl #[.int .i64 4, .int .i64 1] (by rw [List.map_toArray]; simp only [List.map_cons, List.map_nil, Act.eval]; kernel_rfl) ?_)
  go_simp
  ((with_reducible refine gate_dst (N := 31) rfl ?_); refine wpList_build_eq rfl 71 _ rfl #[.int .i64 5, .int .i64 1] (by rw [List.map_toArray]; simp only [List.map_cons, List.map_nil, Act.eval]; kernel_rfl) ?_)
  go_simp
  ((with_reducible refine gate_dst (N := 32) rfl ?_); refine wpList_build_eq rfl 71 _ rfl #[.int .i64 6, .int .i64 1] (by rw [List.map_toArray]; simp only [List.map_cons, List.map_nil, Act.eval]; kernel_rfl) ?_)
  go_simp
  ((with_reducible refine gate_dst (N := 33) rfl ?_); refine wpList_build_eq rfl 71 _ rfl #[.int .i64 7, .int .i64 1] (by rw [List.map_toArray]; simp only [List.map_cons, List.map_nil, Act.eval]; kernel_rfl) ?_)
  go_simp
  ((with_reducible refine gate_dst (N := 34) rfl ?_); refine wpList_build_eq rfl 72 _ rfl #[.int .i64 0, .int .i64 0, .int .i64 0, .int .i64 0, .int .i64 0, .int .i64 32, .int .i64 1, .int .i64 0, .int .i64 2, .int .i64 0, .int .i64 3, .int .i64 0, .int .i64 4, .int .i64 0, .int .i64 5, .int .i64 0, .int .i64 5, .int .i64 32, .int .i64 6, .int .i64 0, .int .i64 7, .int .i64 0, .int .i64 0, .int .i64 1, .int .i64 1, .int .i64 1, .int .i64 3, .int .i64 1, .int .i64 4, .int .i64 1, .int .i64 5, .int .i64 1, .int .i64 6, .int .i64 1, .int .i64 7, .int .i64 1, .int .i64 0, .int .i64 0, .int .i64 0, .int .i64 32, .int .i64 1, .int .i64 0, .int .i64 5, .int .i64 0, .int .i64 5, .int .i64 32, .int .i64 0, .int .i64 1, .int .i64 4, .int .i64 1, .int .i64 5, .int .i64 1, .int .i64 6, .int .i64 1, .int .i64 7, .int .i64 1] (by rw [List.map_toArray]; simp only [List.map_cons, List.map_nil, Act.eval]; kernel_rfl) ?_)
  go_simp
  ((with_reducible refine gate_dst (N := 3) rfl ?_); (try (refine gate_guard (by rfl) ?_; dsimp only)); refine box_event ?hg (N := 3) ?hd (cs := #[.int .i64 0, .int .i64 0, .int .i64 0, .int .i64 0, .int .i64 0, .int .i64 0, .int .i64 0, .int .i64 0, .int .i64 0, .int .i64 0, .int .i64 0, .int .i64 0, .int .i64 0, .int .i64 0, .int .i64 0, .int .i64 0, .int .i64 0, .int .i64 0, .int .i64 0, .int .i64 0, .int .i64 0, .int .i64 0, .int .i64 0, .int .i64 0, .int .i64 0, .int .i64 0, .int .i64 0, .int .i64 0, .int .i64 0, .int .i64 0, .int .i64 0, .int .i64 0, .int .i64 0, .int .i64 0, .int .i64 0, .int .i64 0, .int .i64 0, .int .i64 0, .int .i64 0, .int .i64 0, .int .i64 0, .int .i64 0, .int .i64 0, .int .i64 0, .int .i64 0, .int .i64 0, .int .i64 0, .int .i64 0, .int .i64 0, .int .i64 0, .int .i64 0, .int .i64 0, .int .i64 0, .int .i64 0, .int .i64 0, .int .i64 0]) (t := 72) ?hr ?_; (case hd => rfl); (case hg => rfl); (case hr => kernel_rfl); intro g3 hg w2 hbox hb; have n0_ := Aside0.mk (blk_below (by (with_reducible repeat (first | refine blk_drewN ?_ _ | refine blk_drew ?_ | refine blk_alloc ?_ _)); exact BK2.out) hb); have n1_ := Aside0.mk (below_step (by repeat (first | (with_reducible first | exact HB.out | apply below_alloc | apply pw_below_drewN | apply below_drew1 | refine below_set ?_ GE2.out) | exact HB.out)) hb); have n2_ := Aside0.mk hbox; have n3_ := Aside0.mk ((by rw [hg]; exact (below_size (by repeat (first | (with_reducible first | exact HB.out | apply below_alloc | apply pw_below_drewN | apply below_drew1 | refine below_set ?_ GE2.out) | exact HB.out)))) : w.heap.size ≤ g3); have n4_ := Aside0.mk ((by rw [hg]; exact Nat.ne_of_lt (blk_lt (by (with_reducible repeat (first | refine blk_drewN ?_ _ | refine blk_drew ?_ | refine blk_alloc ?_ _)); exact BK2.out))) : g2 ≠ g3); clear BK2; clear HB; have BK2 := n0_; have HB := n1_; have BK3 := n2_; have GE3 := n3_; have NB2_3 := n4_; clear n0_ n1_ n2_ n3_ n4_; clear hb hbox hg; have NB3_2 := Aside0.mk (Ne.symm NB2_3.out))
  go_simp
  ((with_reducible refine gate_store (t := 72) (p := 3) rfl ?_); refine wpList_store_row rfl 72 _ _ rfl g3 #[.int .i64 0, .int .i64 0, .int .i64 0, .int .i64 0, .int .i64 0, .int .i64 32, .int .i64 1, .int .i64 0, .int .i64 2, .int .i64 0, .int .i64 3, .int .i64 0, .int .i64 4, .int .i64 0, .int .i64 5, .int .i64 0, .int .i64 5, .int .i64 32, .int .i64 6, .int .i64 0, .int .i64 7, .int .i64 0, .int .i64 0, .int .i64 1, .int .i64 1, .int .i64 1, .int .i64 3, .int .i64 1, .int .i64 4, .int .i64 1, .int .i64 5, .int .i64 1, .int .i64 6, .int .i64 1, .int .i64 7, .int .i64 1, .int .i64 0, .int .i64 0, .int .i64 0, .int .i64 32, .int .i64 1, .int .i64 0, .int .i64 5, .int .i64 0, .int .i64 5, .int .i64 32, .int .i64 0, .int .i64 1, .int .i64 4, .int .i64 1, .int .i64 5, .int .i64 1, .int .i64 6, .int .i64 1, .int .i64 7, .int .i64 1] (by rfl) (by rfl) 72 _ BK3.out (by kernel_rfl) (by kernel_rfl) (by kernel_rfl) ?_)
  go_step
  (try simp only [Act.put])
  go_step
  go_step
  go_meet
  case rel => exact ⟨_, rfl, ⟨of_setRow BK3.out⟩, ⟨(of_setRow_ne NB2_3.out).trans BK2.out⟩, NB2_3, ⟨of_setRow_below HB.out GE3.out⟩⟩
  --E
 case rest =>
  clear BK2 HB
  obtain ⟨g3, rfl, BK3, BK2, NB2_3, HB⟩ := hcut
  by_cases h27 : 1 ≤ op ∧ op ≤ 27
  ·have hop : op = 1 ∨ op = 2 ∨ op = 3 ∨ op = 4 ∨ op = 5 ∨ op = 6 ∨ op = 7 ∨ op = 8 ∨ op = 9 ∨ op = 10 ∨ op = 11 ∨ op = 12 ∨ op = 13 ∨ op = 14 ∨ op = 15 ∨ op = 16 ∨ op = 17 ∨ op = 18 ∨ op = 19 ∨ op = 20 ∨ op = 21 ∨ op = 22 ∨ op = 23 ∨ op = 24 ∨ op = 25 ∨ op = 26 ∨ op = 27 := by omega
   clear h27
   rcases hop with rfl | rfl | rfl | rfl | rfl | rfl | rfl | rfl | rfl | rfl | rfl | rfl | rfl | rfl | rfl | rfl | rfl | rfl | rfl | rfl | rfl | rfl | rfl | rfl | rfl | rfl | rfl
   ·as_aux_lemma =>
     have hc3_0 : wc.cell? ⟨g3, 2, none⟩ = some (.int .i64 0) := (blk_cell BK3.out 2).trans rfl
     have hf3_0 := blk_frozen BK3.out 2
     have hc3_1 : wc.cell? ⟨g3, 3, none⟩ = some (.int .i64 0) := (blk_cell BK3.out 3).trans rfl
     have hf3_1 := blk_frozen BK3.out 3
     have hc2_0 : wc.cell? ⟨g2, 0, none⟩ = some (.int .u8 0) := (blk_cell BK2.out 0).trans rfl
     have hc2_1 : wc.cell? ⟨g2, 1, none⟩ = some (.int .i64 0) := (blk_cell BK2.out 1).trans rfl
     have hc2_2 : wc.cell? ⟨g2, 2, none⟩ = some (.int .i64 0) := (blk_cell BK2.out 2).trans rfl
     have hc2_3 : wc.cell? ⟨g2, 3, none⟩ = some (.int .i64 0) := (blk_cell BK2.out 3).trans rfl
     have hf2_0 := blk_frozen BK2.out 0
     have hf2_1 := blk_frozen BK2.out 1
     have hf2_2 := blk_frozen BK2.out 2
     have hf2_3 := blk_frozen BK2.out 3
     go_wp2
     go_region
     go_wp2
     refine bodyPost_ret (of_res _ _ g2 _ (0, 0) rfl (of_put4 BK2.out _ _ _ _) rfl) rfl ?_
     exact ⟨rfl, ((((HB.out.setCell GE2.out _).setCell GE2.out _).setCell GE2.out _).setCell GE2.out _).drew⟩
   ·as_aux_lemma =>
     have hc3_0 : wc.cell? ⟨g3, 4, none⟩ = some (.int .i64 0) := (blk_cell BK3.out 4).trans rfl
     have hf3_0 := blk_frozen BK3.out 4
     have hc3_1 : wc.cell? ⟨g3, 5, none⟩ = some (.int .i64 32) := (blk_cell BK3.out 5).trans rfl
     have hf3_1 := blk_frozen BK3.out 5
     have hc2_0 : wc.cell? ⟨g2, 0, none⟩ = some (.int .u8 0) := (blk_cell BK2.out 0).trans rfl
     have hc2_1 : wc.cell? ⟨g2, 1, none⟩ = some (.int .i64 0) := (blk_cell BK2.out 1).trans rfl
     have hc2_2 : wc.cell? ⟨g2, 2, none⟩ = some (.int .i64 0) := (blk_cell BK2.out 2).trans rfl
     have hc2_3 : wc.cell? ⟨g2, 3, none⟩ = some (.int .i64 0) := (blk_cell BK2.out 3).trans rfl
     have hf2_0 := blk_frozen BK2.out 0
     have hf2_1 := blk_frozen BK2.out 1
     have hf2_2 := blk_frozen BK2.out 2
     have hf2_3 := blk_frozen BK2.out 3
     go_wp2
     go_region
     go_wp2
     refine bodyPost_ret (of_res _ _ g2 _ (0, 0) rfl (of_put4 BK2.out _ _ _ _) rfl) rfl ?_
     exact ⟨rfl, ((((HB.out.setCell GE2.out _).setCell GE2.out _).setCell GE2.out _).setCell GE2.out _).drew⟩
   ·as_aux_lemma =>
     have hc3_0 : wc.cell? ⟨g3, 6, none⟩ = some (.int .i64 1) := (blk_cell BK3.out 6).trans rfl
     have hf3_0 := blk_frozen BK3.out 6
     have hc3_1 : wc.cell? ⟨g3, 7, none⟩ = some (.int .i64 0) := (blk_cell BK3.out 7).trans rfl
     have hf3_1 := blk_frozen BK3.out 7
     have hc2_0 : wc.cell? ⟨g2, 0, none⟩ = some (.int .u8 0) := (blk_cell BK2.out 0).trans rfl
     have hc2_1 : wc.cell? ⟨g2, 1, none⟩ = some (.int .i64 0) := (blk_cell BK2.out 1).trans rfl
     have hc2_2 : wc.cell? ⟨g2, 2, none⟩ = some (.int .i64 0) := (blk_cell BK2.out 2).trans rfl
     have hc2_3 : wc.cell? ⟨g2, 3, none⟩ = some (.int .i64 0) := (blk_cell BK2.out 3).trans rfl
     have hf2_0 := blk_frozen BK2.out 0
     have hf2_1 := blk_frozen BK2.out 1
     have hf2_2 := blk_frozen BK2.out 2
     have hf2_3 := blk_frozen BK2.out 3
     go_wp2
     go_region
     go_wp2
     refine bodyPost_ret (of_res _ _ g2 _ (0, 0) rfl (of_put4 BK2.out _ _ _ _) rfl) rfl ?_
     exact ⟨rfl, ((((HB.out.setCell GE2.out _).setCell GE2.out _).setCell GE2.out _).setCell GE2.out _).drew⟩
   ·as_aux_lemma =>
     have hc3_0 : wc.cell? ⟨g3, 8, none⟩ = some (.int .i64 2) := (blk_cell BK3.out 8).trans rfl
     have hf3_0 := blk_frozen BK3.out 8
     have hc3_1 : wc.cell? ⟨g3, 9, none⟩ = some (.int .i64 0) := (blk_cell BK3.out 9).trans rfl
     have hf3_1 := blk_frozen BK3.out 9
     have hc2_0 : wc.cell? ⟨g2, 0, none⟩ = some (.int .u8 0) := (blk_cell BK2.out 0).trans rfl
     have hc2_1 : wc.cell? ⟨g2, 1, none⟩ = some (.int .i64 0) := (blk_cell BK2.out 1).trans rfl
     have hc2_2 : wc.cell? ⟨g2, 2, none⟩ = some (.int .i64 0) := (blk_cell BK2.out 2).trans rfl
     have hc2_3 : wc.cell? ⟨g2, 3, none⟩ = some (.int .i64 0) := (blk_cell BK2.out 3).trans rfl
     have hf2_0 := blk_frozen BK2.out 0
     have hf2_1 := blk_frozen BK2.out 1
     have hf2_2 := blk_frozen BK2.out 2
     have hf2_3 := blk_frozen BK2.out 3
     go_wp2
     go_region
     go_wp2
     refine bodyPost_ret (of_res _ _ g2 _ (0, 0) rfl (of_put4 BK2.out _ _ _ _) rfl) rfl ?_
     exact ⟨rfl, ((((HB.out.setCell GE2.out _).setCell GE2.out _).setCell GE2.out _).setCell GE2.out _).drew⟩
   ·as_aux_lemma =>
     have hc3_0 : wc.cell? ⟨g3, 10, none⟩ = some (.int .i64 3) := (blk_cell BK3.out 10).trans rfl
     have hf3_0 := blk_frozen BK3.out 10
     have hc3_1 : wc.cell? ⟨g3, 11, none⟩ = some (.int .i64 0) := (blk_cell BK3.out 11).trans rfl
     have hf3_1 := blk_frozen BK3.out 11
     have hc2_0 : wc.cell? ⟨g2, 0, none⟩ = some (.int .u8 0) := (blk_cell BK2.out 0).trans rfl
     have hc2_1 : wc.cell? ⟨g2, 1, none⟩ = some (.int .i64 0) := (blk_cell BK2.out 1).trans rfl
     have hc2_2 : wc.cell? ⟨g2, 2, none⟩ = some (.int .i64 0) := (blk_cell BK2.out 2).trans rfl
     have hc2_3 : wc.cell? ⟨g2, 3, none⟩ = some (.int .i64 0) := (blk_cell BK2.out 3).trans rfl
     have hf2_0 := blk_frozen BK2.out 0
     have hf2_1 := blk_frozen BK2.out 1
     have hf2_2 := blk_frozen BK2.out 2
     have hf2_3 := blk_frozen BK2.out 3
     go_wp2
     go_region
     go_wp2
     refine bodyPost_ret (of_res _ _ g2 _ (0, 0) rfl (of_put4 BK2.out _ _ _ _) rfl) rfl ?_
     exact ⟨rfl, ((((HB.out.setCell GE2.out _).setCell GE2.out _).setCell GE2.out _).setCell GE2.out _).drew⟩
   ·as_aux_lemma =>
     have hc3_0 : wc.cell? ⟨g3, 12, none⟩ = some (.int .i64 4) := (blk_cell BK3.out 12).trans rfl
     have hf3_0 := blk_frozen BK3.out 12
     have hc3_1 : wc.cell? ⟨g3, 13, none⟩ = some (.int .i64 0) := (blk_cell BK3.out 13).trans rfl
     have hf3_1 := blk_frozen BK3.out 13
     have hc2_0 : wc.cell? ⟨g2, 0, none⟩ = some (.int .u8 0) := (blk_cell BK2.out 0).trans rfl
     have hc2_1 : wc.cell? ⟨g2, 1, none⟩ = some (.int .i64 0) := (blk_cell BK2.out 1).trans rfl
     have hc2_2 : wc.cell? ⟨g2, 2, none⟩ = some (.int .i64 0) := (blk_cell BK2.out 2).trans rfl
     have hc2_3 : wc.cell? ⟨g2, 3, none⟩ = some (.int .i64 0) := (blk_cell BK2.out 3).trans rfl
     have hf2_0 := blk_frozen BK2.out 0
     have hf2_1 := blk_frozen BK2.out 1
     have hf2_2 := blk_frozen BK2.out 2
     have hf2_3 := blk_frozen BK2.out 3
     go_wp2
     go_region
     go_wp2
     refine bodyPost_ret (of_res _ _ g2 _ (0, 0) rfl (of_put4 BK2.out _ _ _ _) rfl) rfl ?_
     exact ⟨rfl, ((((HB.out.setCell GE2.out _).setCell GE2.out _).setCell GE2.out _).setCell GE2.out _).drew⟩
   ·as_aux_lemma =>
     have hc3_0 : wc.cell? ⟨g3, 14, none⟩ = some (.int .i64 5) := (blk_cell BK3.out 14).trans rfl
     have hf3_0 := blk_frozen BK3.out 14
     have hc3_1 : wc.cell? ⟨g3, 15, none⟩ = some (.int .i64 0) := (blk_cell BK3.out 15).trans rfl
     have hf3_1 := blk_frozen BK3.out 15
     have hc2_0 : wc.cell? ⟨g2, 0, none⟩ = some (.int .u8 0) := (blk_cell BK2.out 0).trans rfl
     have hc2_1 : wc.cell? ⟨g2, 1, none⟩ = some (.int .i64 0) := (blk_cell BK2.out 1).trans rfl
     have hc2_2 : wc.cell? ⟨g2, 2, none⟩ = some (.int .i64 0) := (blk_cell BK2.out 2).trans rfl
     have hc2_3 : wc.cell? ⟨g2, 3, none⟩ = some (.int .i64 0) := (blk_cell BK2.out 3).trans rfl
     have hf2_0 := blk_frozen BK2.out 0
     have hf2_1 := blk_frozen BK2.out 1
     have hf2_2 := blk_frozen BK2.out 2
     have hf2_3 := blk_frozen BK2.out 3
     go_wp2
     go_region
     go_wp2
     refine bodyPost_ret (of_res _ _ g2 _ (0, 0) rfl (of_put4 BK2.out _ _ _ _) rfl) rfl ?_
     exact ⟨rfl, ((((HB.out.setCell GE2.out _).setCell GE2.out _).setCell GE2.out _).setCell GE2.out _).drew⟩
   ·as_aux_lemma =>
     have hc3_0 : wc.cell? ⟨g3, 16, none⟩ = some (.int .i64 5) := (blk_cell BK3.out 16).trans rfl
     have hf3_0 := blk_frozen BK3.out 16
     have hc3_1 : wc.cell? ⟨g3, 17, none⟩ = some (.int .i64 32) := (blk_cell BK3.out 17).trans rfl
     have hf3_1 := blk_frozen BK3.out 17
     have hc2_0 : wc.cell? ⟨g2, 0, none⟩ = some (.int .u8 0) := (blk_cell BK2.out 0).trans rfl
     have hc2_1 : wc.cell? ⟨g2, 1, none⟩ = some (.int .i64 0) := (blk_cell BK2.out 1).trans rfl
     have hc2_2 : wc.cell? ⟨g2, 2, none⟩ = some (.int .i64 0) := (blk_cell BK2.out 2).trans rfl
     have hc2_3 : wc.cell? ⟨g2, 3, none⟩ = some (.int .i64 0) := (blk_cell BK2.out 3).trans rfl
     have hf2_0 := blk_frozen BK2.out 0
     have hf2_1 := blk_frozen BK2.out 1
     have hf2_2 := blk_frozen BK2.out 2
     have hf2_3 := blk_frozen BK2.out 3
     go_wp2
     go_region
     go_wp2
     refine bodyPost_ret (of_res _ _ g2 _ (0, 0) rfl (of_put4 BK2.out _ _ _ _) rfl) rfl ?_
     exact ⟨rfl, ((((HB.out.setCell GE2.out _).setCell GE2.out _).setCell GE2.out _).setCell GE2.out _).drew⟩
   ·as_aux_lemma =>
     have hc3_0 : wc.cell? ⟨g3, 18, none⟩ = some (.int .i64 6) := (blk_cell BK3.out 18).trans rfl
     have hf3_0 := blk_frozen BK3.out 18
     have hc3_1 : wc.cell? ⟨g3, 19, none⟩ = some (.int .i64 0) := (blk_cell BK3.out 19).trans rfl
     have hf3_1 := blk_frozen BK3.out 19
     have hc2_0 : wc.cell? ⟨g2, 0, none⟩ = some (.int .u8 0) := (blk_cell BK2.out 0).trans rfl
     have hc2_1 : wc.cell? ⟨g2, 1, none⟩ = some (.int .i64 0) := (blk_cell BK2.out 1).trans rfl
     have hc2_2 : wc.cell? ⟨g2, 2, none⟩ = some (.int .i64 0) := (blk_cell BK2.out 2).trans rfl
     have hc2_3 : wc.cell? ⟨g2, 3, none⟩ = some (.int .i64 0) := (blk_cell BK2.out 3).trans rfl
     have hf2_0 := blk_frozen BK2.out 0
     have hf2_1 := blk_frozen BK2.out 1
     have hf2_2 := blk_frozen BK2.out 2
     have hf2_3 := blk_frozen BK2.out 3
     go_wp2
     go_region
     go_wp2
     refine bodyPost_ret (of_res _ _ g2 _ (0, 0) rfl (of_put4 BK2.out _ _ _ _) rfl) rfl ?_
     exact ⟨rfl, ((((HB.out.setCell GE2.out _).setCell GE2.out _).setCell GE2.out _).setCell GE2.out _).drew⟩
   ·as_aux_lemma =>
     have hc3_0 : wc.cell? ⟨g3, 20, none⟩ = some (.int .i64 7) := (blk_cell BK3.out 20).trans rfl
     have hf3_0 := blk_frozen BK3.out 20
     have hc3_1 : wc.cell? ⟨g3, 21, none⟩ = some (.int .i64 0) := (blk_cell BK3.out 21).trans rfl
     have hf3_1 := blk_frozen BK3.out 21
     have hc2_0 : wc.cell? ⟨g2, 0, none⟩ = some (.int .u8 0) := (blk_cell BK2.out 0).trans rfl
     have hc2_1 : wc.cell? ⟨g2, 1, none⟩ = some (.int .i64 0) := (blk_cell BK2.out 1).trans rfl
     have hc2_2 : wc.cell? ⟨g2, 2, none⟩ = some (.int .i64 0) := (blk_cell BK2.out 2).trans rfl
     have hc2_3 : wc.cell? ⟨g2, 3, none⟩ = some (.int .i64 0) := (blk_cell BK2.out 3).trans rfl
     have hf2_0 := blk_frozen BK2.out 0
     have hf2_1 := blk_frozen BK2.out 1
     have hf2_2 := blk_frozen BK2.out 2
     have hf2_3 := blk_frozen BK2.out 3
     go_wp2
     go_region
     go_wp2
     refine bodyPost_ret (of_res _ _ g2 _ (0, 0) rfl (of_put4 BK2.out _ _ _ _) rfl) rfl ?_
     exact ⟨rfl, ((((HB.out.setCell GE2.out _).setCell GE2.out _).setCell GE2.out _).setCell GE2.out _).drew⟩
   ·as_aux_lemma =>
     have hc3_0 : wc.cell? ⟨g3, 22, none⟩ = some (.int .i64 0) := (blk_cell BK3.out 22).trans rfl
     have hf3_0 := blk_frozen BK3.out 22
     have hc3_1 : wc.cell? ⟨g3, 23, none⟩ = some (.int .i64 1) := (blk_cell BK3.out 23).trans rfl
     have hf3_1 := blk_frozen BK3.out 23
     have hc2_0 : wc.cell? ⟨g2, 0, none⟩ = some (.int .u8 0) := (blk_cell BK2.out 0).trans rfl
     have hc2_1 : wc.cell? ⟨g2, 1, none⟩ = some (.int .i64 0) := (blk_cell BK2.out 1).trans rfl
     have hc2_2 : wc.cell? ⟨g2, 2, none⟩ = some (.int .i64 0) := (blk_cell BK2.out 2).trans rfl
     have hc2_3 : wc.cell? ⟨g2, 3, none⟩ = some (.int .i64 0) := (blk_cell BK2.out 3).trans rfl
     have hf2_0 := blk_frozen BK2.out 0
     have hf2_1 := blk_frozen BK2.out 1
     have hf2_2 := blk_frozen BK2.out 2
     have hf2_3 := blk_frozen BK2.out 3
     go_wp2
     go_region
     go_wp2
     refine bodyPost_ret (of_res _ _ g2 _ (0, 0) rfl (of_put4 BK2.out _ _ _ _) rfl) rfl ?_
     exact ⟨rfl, ((((HB.out.setCell GE2.out _).setCell GE2.out _).setCell GE2.out _).setCell GE2.out _).drew⟩
   ·as_aux_lemma =>
     have hc3_0 : wc.cell? ⟨g3, 24, none⟩ = some (.int .i64 1) := (blk_cell BK3.out 24).trans rfl
     have hf3_0 := blk_frozen BK3.out 24
     have hc3_1 : wc.cell? ⟨g3, 25, none⟩ = some (.int .i64 1) := (blk_cell BK3.out 25).trans rfl
     have hf3_1 := blk_frozen BK3.out 25
     have hc2_0 : wc.cell? ⟨g2, 0, none⟩ = some (.int .u8 0) := (blk_cell BK2.out 0).trans rfl
     have hc2_1 : wc.cell? ⟨g2, 1, none⟩ = some (.int .i64 0) := (blk_cell BK2.out 1).trans rfl
     have hc2_2 : wc.cell? ⟨g2, 2, none⟩ = some (.int .i64 0) := (blk_cell BK2.out 2).trans rfl
     have hc2_3 : wc.cell? ⟨g2, 3, none⟩ = some (.int .i64 0) := (blk_cell BK2.out 3).trans rfl
     have hf2_0 := blk_frozen BK2.out 0
     have hf2_1 := blk_frozen BK2.out 1
     have hf2_2 := blk_frozen BK2.out 2
     have hf2_3 := blk_frozen BK2.out 3
     go_wp2
     go_region
     go_wp2
     refine bodyPost_ret (of_res _ _ g2 _ (0, 0) rfl (of_put4 BK2.out _ _ _ _) rfl) rfl ?_
     exact ⟨rfl, ((((HB.out.setCell GE2.out _).setCell GE2.out _).setCell GE2.out _).setCell GE2.out _).drew⟩
   ·as_aux_lemma =>
     have hc3_0 : wc.cell? ⟨g3, 26, none⟩ = some (.int .i64 3) := (blk_cell BK3.out 26).trans rfl
     have hf3_0 := blk_frozen BK3.out 26
     have hc3_1 : wc.cell? ⟨g3, 27, none⟩ = some (.int .i64 1) := (blk_cell BK3.out 27).trans rfl
     have hf3_1 := blk_frozen BK3.out 27
     have hc2_0 : wc.cell? ⟨g2, 0, none⟩ = some (.int .u8 0) := (blk_cell BK2.out 0).trans rfl
     have hc2_1 : wc.cell? ⟨g2, 1, none⟩ = some (.int .i64 0) := (blk_cell BK2.out 1).trans rfl
     have hc2_2 : wc.cell? ⟨g2, 2, none⟩ = some (.int .i64 0) := (blk_cell BK2.out 2).trans rfl
     have hc2_3 : wc.cell? ⟨g2, 3, none⟩ = some (.int .i64 0) := (blk_cell BK2.out 3).trans rfl
     have hf2_0 := blk_frozen BK2.out 0
     have hf2_1 := blk_frozen BK2.out 1
     have hf2_2 := blk_frozen BK2.out 2
     have hf2_3 := blk_frozen BK2.out 3
     go_wp2
     go_region
     go_wp2
     refine bodyPost_ret (of_res _ _ g2 _ (0, 0) rfl (of_put4 BK2.out _ _ _ _) rfl) rfl ?_
     exact ⟨rfl, ((((HB.out.setCell GE2.out _).setCell GE2.out _).setCell GE2.out _).setCell GE2.out _).drew⟩
   ·as_aux_lemma =>
     have hc3_0 : wc.cell? ⟨g3, 28, none⟩ = some (.int .i64 4) := (blk_cell BK3.out 28).trans rfl
     have hf3_0 := blk_frozen BK3.out 28
     have hc3_1 : wc.cell? ⟨g3, 29, none⟩ = some (.int .i64 1) := (blk_cell BK3.out 29).trans rfl
     have hf3_1 := blk_frozen BK3.out 29
     have hc2_0 : wc.cell? ⟨g2, 0, none⟩ = some (.int .u8 0) := (blk_cell BK2.out 0).trans rfl
     have hc2_1 : wc.cell? ⟨g2, 1, none⟩ = some (.int .i64 0) := (blk_cell BK2.out 1).trans rfl
     have hc2_2 : wc.cell? ⟨g2, 2, none⟩ = some (.int .i64 0) := (blk_cell BK2.out 2).trans rfl
     have hc2_3 : wc.cell? ⟨g2, 3, none⟩ = some (.int .i64 0) := (blk_cell BK2.out 3).trans rfl
     have hf2_0 := blk_frozen BK2.out 0
     have hf2_1 := blk_frozen BK2.out 1
     have hf2_2 := blk_frozen BK2.out 2
     have hf2_3 := blk_frozen BK2.out 3
     go_wp2
     go_region
     go_wp2
     refine bodyPost_ret (of_res _ _ g2 _ (0, 0) rfl (of_put4 BK2.out _ _ _ _) rfl) rfl ?_
     exact ⟨rfl, ((((HB.out.setCell GE2.out _).setCell GE2.out _).setCell GE2.out _).setCell GE2.out _).drew⟩
   ·as_aux_lemma =>
     have hc3_0 : wc.cell? ⟨g3, 30, none⟩ = some (.int .i64 5) := (blk_cell BK3.out 30).trans rfl
     have hf3_0 := blk_frozen BK3.out 30
     have hc3_1 : wc.cell? ⟨g3, 31, none⟩ = some (.int .i64 1) := (blk_cell BK3.out 31).trans rfl
     have hf3_1 := blk_frozen BK3.out 31
     have hc2_0 : wc.cell? ⟨g2, 0, none⟩ = some (.int .u8 0) := (blk_cell BK2.out 0).trans rfl
     have hc2_1 : wc.cell? ⟨g2, 1, none⟩ = some (.int .i64 0) := (blk_cell BK2.out 1).trans rfl
     have hc2_2 : wc.cell? ⟨g2, 2, none⟩ = some (.int .i64 0) := (blk_cell BK2.out 2).trans rfl
     have hc2_3 : wc.cell? ⟨g2, 3, none⟩ = some (.int .i64 0) := (blk_cell BK2.out 3).trans rfl
     have hf2_0 := blk_frozen BK2.out 0
     have hf2_1 := blk_frozen BK2.out 1
     have hf2_2 := blk_frozen BK2.out 2
     have hf2_3 := blk_frozen BK2.out 3
     go_wp2
     go_region
     go_wp2
     refine bodyPost_ret (of_res _ _ g2 _ (0, 0) rfl (of_put4 BK2.out _ _ _ _) rfl) rfl ?_
     exact ⟨rfl, ((((HB.out.setCell GE2.out _).setCell GE2.out _).setCell GE2.out _).setCell GE2.out _).drew⟩
   ·as_aux_lemma =>
     have hc3_0 : wc.cell? ⟨g3, 32, none⟩ = some (.int .i64 6) := (blk_cell BK3.out 32).trans rfl
     have hf3_0 := blk_frozen BK3.out 32
     have hc3_1 : wc.cell? ⟨g3, 33, none⟩ = some (.int .i64 1) := (blk_cell BK3.out 33).trans rfl
     have hf3_1 := blk_frozen BK3.out 33
     have hc2_0 : wc.cell? ⟨g2, 0, none⟩ = some (.int .u8 0) := (blk_cell BK2.out 0).trans rfl
     have hc2_1 : wc.cell? ⟨g2, 1, none⟩ = some (.int .i64 0) := (blk_cell BK2.out 1).trans rfl
     have hc2_2 : wc.cell? ⟨g2, 2, none⟩ = some (.int .i64 0) := (blk_cell BK2.out 2).trans rfl
     have hc2_3 : wc.cell? ⟨g2, 3, none⟩ = some (.int .i64 0) := (blk_cell BK2.out 3).trans rfl
     have hf2_0 := blk_frozen BK2.out 0
     have hf2_1 := blk_frozen BK2.out 1
     have hf2_2 := blk_frozen BK2.out 2
     have hf2_3 := blk_frozen BK2.out 3
     go_wp2
     go_region
     go_wp2
     refine bodyPost_ret (of_res _ _ g2 _ (0, 0) rfl (of_put4 BK2.out _ _ _ _) rfl) rfl ?_
     exact ⟨rfl, ((((HB.out.setCell GE2.out _).setCell GE2.out _).setCell GE2.out _).setCell GE2.out _).drew⟩
   ·as_aux_lemma =>
     have hc3_0 : wc.cell? ⟨g3, 34, none⟩ = some (.int .i64 7) := (blk_cell BK3.out 34).trans rfl
     have hf3_0 := blk_frozen BK3.out 34
     have hc3_1 : wc.cell? ⟨g3, 35, none⟩ = some (.int .i64 1) := (blk_cell BK3.out 35).trans rfl
     have hf3_1 := blk_frozen BK3.out 35
     have hc2_0 : wc.cell? ⟨g2, 0, none⟩ = some (.int .u8 0) := (blk_cell BK2.out 0).trans rfl
     have hc2_1 : wc.cell? ⟨g2, 1, none⟩ = some (.int .i64 0) := (blk_cell BK2.out 1).trans rfl
     have hc2_2 : wc.cell? ⟨g2, 2, none⟩ = some (.int .i64 0) := (blk_cell BK2.out 2).trans rfl
     have hc2_3 : wc.cell? ⟨g2, 3, none⟩ = some (.int .i64 0) := (blk_cell BK2.out 3).trans rfl
     have hf2_0 := blk_frozen BK2.out 0
     have hf2_1 := blk_frozen BK2.out 1
     have hf2_2 := blk_frozen BK2.out 2
     have hf2_3 := blk_frozen BK2.out 3
     go_wp2
     go_region
     go_wp2
     refine bodyPost_ret (of_res _ _ g2 _ (0, 0) rfl (of_put4 BK2.out _ _ _ _) rfl) rfl ?_
     exact ⟨rfl, ((((HB.out.setCell GE2.out _).setCell GE2.out _).setCell GE2.out _).setCell GE2.out _).drew⟩
   ·as_aux_lemma =>
     have hc3_0 : wc.cell? ⟨g3, 36, none⟩ = some (.int .i64 0) := (blk_cell BK3.out 36).trans rfl
     have hf3_0 := blk_frozen BK3.out 36
     have hc3_1 : wc.cell? ⟨g3, 37, none⟩ = some (.int .i64 0) := (blk_cell BK3.out 37).trans rfl
     have hf3_1 := blk_frozen BK3.out 37
     have hc2_0 : wc.cell? ⟨g2, 0, none⟩ = some (.int .u8 0) := (blk_cell BK2.out 0).trans rfl
     have hc2_1 : wc.cell? ⟨g2, 1, none⟩ = some (.int .i64 0) := (blk_cell BK2.out 1).trans rfl
     have hc2_2 : wc.cell? ⟨g2, 2, none⟩ = some (.int .i64 0) := (blk_cell BK2.out 2).trans rfl
     have hc2_3 : wc.cell? ⟨g2, 3, none⟩ = some (.int .i64 0) := (blk_cell BK2.out 3).trans rfl
     have hf2_0 := blk_frozen BK2.out 0
     have hf2_1 := blk_frozen BK2.out 1
     have hf2_2 := blk_frozen BK2.out 2
     have hf2_3 := blk_frozen BK2.out 3
     go_wp2
     go_region
     go_wp2
     refine bodyPost_ret (of_res _ _ g2 _ (0, 0) rfl (of_put4 BK2.out _ _ _ _) rfl) rfl ?_
     exact ⟨rfl, ((((HB.out.setCell GE2.out _).setCell GE2.out _).setCell GE2.out _).setCell GE2.out _).drew⟩
   ·as_aux_lemma =>
     have hc3_0 : wc.cell? ⟨g3, 38, none⟩ = some (.int .i64 0) := (blk_cell BK3.out 38).trans rfl
     have hf3_0 := blk_frozen BK3.out 38
     have hc3_1 : wc.cell? ⟨g3, 39, none⟩ = some (.int .i64 32) := (blk_cell BK3.out 39).trans rfl
     have hf3_1 := blk_frozen BK3.out 39
     have hc2_0 : wc.cell? ⟨g2, 0, none⟩ = some (.int .u8 0) := (blk_cell BK2.out 0).trans rfl
     have hc2_1 : wc.cell? ⟨g2, 1, none⟩ = some (.int .i64 0) := (blk_cell BK2.out 1).trans rfl
     have hc2_2 : wc.cell? ⟨g2, 2, none⟩ = some (.int .i64 0) := (blk_cell BK2.out 2).trans rfl
     have hc2_3 : wc.cell? ⟨g2, 3, none⟩ = some (.int .i64 0) := (blk_cell BK2.out 3).trans rfl
     have hf2_0 := blk_frozen BK2.out 0
     have hf2_1 := blk_frozen BK2.out 1
     have hf2_2 := blk_frozen BK2.out 2
     have hf2_3 := blk_frozen BK2.out 3
     go_wp2
     go_region
     go_wp2
     refine bodyPost_ret (of_res _ _ g2 _ (0, 0) rfl (of_put4 BK2.out _ _ _ _) rfl) rfl ?_
     exact ⟨rfl, ((((HB.out.setCell GE2.out _).setCell GE2.out _).setCell GE2.out _).setCell GE2.out _).drew⟩
   ·as_aux_lemma =>
     have hc3_0 : wc.cell? ⟨g3, 40, none⟩ = some (.int .i64 1) := (blk_cell BK3.out 40).trans rfl
     have hf3_0 := blk_frozen BK3.out 40
     have hc3_1 : wc.cell? ⟨g3, 41, none⟩ = some (.int .i64 0) := (blk_cell BK3.out 41).trans rfl
     have hf3_1 := blk_frozen BK3.out 41
     have hc2_0 : wc.cell? ⟨g2, 0, none⟩ = some (.int .u8 0) := (blk_cell BK2.out 0).trans rfl
     have hc2_1 : wc.cell? ⟨g2, 1, none⟩ = some (.int .i64 0) := (blk_cell BK2.out 1).trans rfl
     have hc2_2 : wc.cell? ⟨g2, 2, none⟩ = some (.int .i64 0) := (blk_cell BK2.out 2).trans rfl
     have hc2_3 : wc.cell? ⟨g2, 3, none⟩ = some (.int .i64 0) := (blk_cell BK2.out 3).trans rfl
     have hf2_0 := blk_frozen BK2.out 0
     have hf2_1 := blk_frozen BK2.out 1
     have hf2_2 := blk_frozen BK2.out 2
     have hf2_3 := blk_frozen BK2.out 3
     go_wp2
     go_region
     go_wp2
     refine bodyPost_ret (of_res _ _ g2 _ (0, 0) rfl (of_put4 BK2.out _ _ _ _) rfl) rfl ?_
     exact ⟨rfl, ((((HB.out.setCell GE2.out _).setCell GE2.out _).setCell GE2.out _).setCell GE2.out _).drew⟩
   ·as_aux_lemma =>
     have hc3_0 : wc.cell? ⟨g3, 42, none⟩ = some (.int .i64 5) := (blk_cell BK3.out 42).trans rfl
     have hf3_0 := blk_frozen BK3.out 42
     have hc3_1 : wc.cell? ⟨g3, 43, none⟩ = some (.int .i64 0) := (blk_cell BK3.out 43).trans rfl
     have hf3_1 := blk_frozen BK3.out 43
     have hc2_0 : wc.cell? ⟨g2, 0, none⟩ = some (.int .u8 0) := (blk_cell BK2.out 0).trans rfl
     have hc2_1 : wc.cell? ⟨g2, 1, none⟩ = some (.int .i64 0) := (blk_cell BK2.out 1).trans rfl
     have hc2_2 : wc.cell? ⟨g2, 2, none⟩ = some (.int .i64 0) := (blk_cell BK2.out 2).trans rfl
     have hc2_3 : wc.cell? ⟨g2, 3, none⟩ = some (.int .i64 0) := (blk_cell BK2.out 3).trans rfl
     have hf2_0 := blk_frozen BK2.out 0
     have hf2_1 := blk_frozen BK2.out 1
     have hf2_2 := blk_frozen BK2.out 2
     have hf2_3 := blk_frozen BK2.out 3
     go_wp2
     go_region
     go_wp2
     refine bodyPost_ret (of_res _ _ g2 _ (0, 0) rfl (of_put4 BK2.out _ _ _ _) rfl) rfl ?_
     exact ⟨rfl, ((((HB.out.setCell GE2.out _).setCell GE2.out _).setCell GE2.out _).setCell GE2.out _).drew⟩
   ·as_aux_lemma =>
     have hc3_0 : wc.cell? ⟨g3, 44, none⟩ = some (.int .i64 5) := (blk_cell BK3.out 44).trans rfl
     have hf3_0 := blk_frozen BK3.out 44
     have hc3_1 : wc.cell? ⟨g3, 45, none⟩ = some (.int .i64 32) := (blk_cell BK3.out 45).trans rfl
     have hf3_1 := blk_frozen BK3.out 45
     have hc2_0 : wc.cell? ⟨g2, 0, none⟩ = some (.int .u8 0) := (blk_cell BK2.out 0).trans rfl
     have hc2_1 : wc.cell? ⟨g2, 1, none⟩ = some (.int .i64 0) := (blk_cell BK2.out 1).trans rfl
     have hc2_2 : wc.cell? ⟨g2, 2, none⟩ = some (.int .i64 0) := (blk_cell BK2.out 2).trans rfl
     have hc2_3 : wc.cell? ⟨g2, 3, none⟩ = some (.int .i64 0) := (blk_cell BK2.out 3).trans rfl
     have hf2_0 := blk_frozen BK2.out 0
     have hf2_1 := blk_frozen BK2.out 1
     have hf2_2 := blk_frozen BK2.out 2
     have hf2_3 := blk_frozen BK2.out 3
     go_wp2
     go_region
     go_wp2
     refine bodyPost_ret (of_res _ _ g2 _ (0, 0) rfl (of_put4 BK2.out _ _ _ _) rfl) rfl ?_
     exact ⟨rfl, ((((HB.out.setCell GE2.out _).setCell GE2.out _).setCell GE2.out _).setCell GE2.out _).drew⟩
   ·as_aux_lemma =>
     have hc3_0 : wc.cell? ⟨g3, 46, none⟩ = some (.int .i64 0) := (blk_cell BK3.out 46).trans rfl
     have hf3_0 := blk_frozen BK3.out 46
     have hc3_1 : wc.cell? ⟨g3, 47, none⟩ = some (.int .i64 1) := (blk_cell BK3.out 47).trans rfl
     have hf3_1 := blk_frozen BK3.out 47
     have hc2_0 : wc.cell? ⟨g2, 0, none⟩ = some (.int .u8 0) := (blk_cell BK2.out 0).trans rfl
     have hc2_1 : wc.cell? ⟨g2, 1, none⟩ = some (.int .i64 0) := (blk_cell BK2.out 1).trans rfl
     have hc2_2 : wc.cell? ⟨g2, 2, none⟩ = some (.int .i64 0) := (blk_cell BK2.out 2).trans rfl
     have hc2_3 : wc.cell? ⟨g2, 3, none⟩ = some (.int .i64 0) := (blk_cell BK2.out 3).trans rfl
     have hf2_0 := blk_frozen BK2.out 0
     have hf2_1 := blk_frozen BK2.out 1
     have hf2_2 := blk_frozen BK2.out 2
     have hf2_3 := blk_frozen BK2.out 3
     go_wp2
     go_region
     go_wp2
     refine bodyPost_ret (of_res _ _ g2 _ (0, 0) rfl (of_put4 BK2.out _ _ _ _) rfl) rfl ?_
     exact ⟨rfl, ((((HB.out.setCell GE2.out _).setCell GE2.out _).setCell GE2.out _).setCell GE2.out _).drew⟩
   ·as_aux_lemma =>
     have hc3_0 : wc.cell? ⟨g3, 48, none⟩ = some (.int .i64 4) := (blk_cell BK3.out 48).trans rfl
     have hf3_0 := blk_frozen BK3.out 48
     have hc3_1 : wc.cell? ⟨g3, 49, none⟩ = some (.int .i64 1) := (blk_cell BK3.out 49).trans rfl
     have hf3_1 := blk_frozen BK3.out 49
     have hc2_0 : wc.cell? ⟨g2, 0, none⟩ = some (.int .u8 0) := (blk_cell BK2.out 0).trans rfl
     have hc2_1 : wc.cell? ⟨g2, 1, none⟩ = some (.int .i64 0) := (blk_cell BK2.out 1).trans rfl
     have hc2_2 : wc.cell? ⟨g2, 2, none⟩ = some (.int .i64 0) := (blk_cell BK2.out 2).trans rfl
     have hc2_3 : wc.cell? ⟨g2, 3, none⟩ = some (.int .i64 0) := (blk_cell BK2.out 3).trans rfl
     have hf2_0 := blk_frozen BK2.out 0
     have hf2_1 := blk_frozen BK2.out 1
     have hf2_2 := blk_frozen BK2.out 2
     have hf2_3 := blk_frozen BK2.out 3
     go_wp2
     go_region
     go_wp2
     refine bodyPost_ret (of_res _ _ g2 _ (0, 0) rfl (of_put4 BK2.out _ _ _ _) rfl) rfl ?_
     exact ⟨rfl, ((((HB.out.setCell GE2.out _).setCell GE2.out _).setCell GE2.out _).setCell GE2.out _).drew⟩
   ·as_aux_lemma =>
     have hc3_0 : wc.cell? ⟨g3, 50, none⟩ = some (.int .i64 5) := (blk_cell BK3.out 50).trans rfl
     have hf3_0 := blk_frozen BK3.out 50
     have hc3_1 : wc.cell? ⟨g3, 51, none⟩ = some (.int .i64 1) := (blk_cell BK3.out 51).trans rfl
     have hf3_1 := blk_frozen BK3.out 51
     have hc2_0 : wc.cell? ⟨g2, 0, none⟩ = some (.int .u8 0) := (blk_cell BK2.out 0).trans rfl
     have hc2_1 : wc.cell? ⟨g2, 1, none⟩ = some (.int .i64 0) := (blk_cell BK2.out 1).trans rfl
     have hc2_2 : wc.cell? ⟨g2, 2, none⟩ = some (.int .i64 0) := (blk_cell BK2.out 2).trans rfl
     have hc2_3 : wc.cell? ⟨g2, 3, none⟩ = some (.int .i64 0) := (blk_cell BK2.out 3).trans rfl
     have hf2_0 := blk_frozen BK2.out 0
     have hf2_1 := blk_frozen BK2.out 1
     have hf2_2 := blk_frozen BK2.out 2
     have hf2_3 := blk_frozen BK2.out 3
     go_wp2
     go_region
     go_wp2
     refine bodyPost_ret (of_res _ _ g2 _ (0, 0) rfl (of_put4 BK2.out _ _ _ _) rfl) rfl ?_
     exact ⟨rfl, ((((HB.out.setCell GE2.out _).setCell GE2.out _).setCell GE2.out _).setCell GE2.out _).drew⟩
   ·as_aux_lemma =>
     have hc3_0 : wc.cell? ⟨g3, 52, none⟩ = some (.int .i64 6) := (blk_cell BK3.out 52).trans rfl
     have hf3_0 := blk_frozen BK3.out 52
     have hc3_1 : wc.cell? ⟨g3, 53, none⟩ = some (.int .i64 1) := (blk_cell BK3.out 53).trans rfl
     have hf3_1 := blk_frozen BK3.out 53
     have hc2_0 : wc.cell? ⟨g2, 0, none⟩ = some (.int .u8 0) := (blk_cell BK2.out 0).trans rfl
     have hc2_1 : wc.cell? ⟨g2, 1, none⟩ = some (.int .i64 0) := (blk_cell BK2.out 1).trans rfl
     have hc2_2 : wc.cell? ⟨g2, 2, none⟩ = some (.int .i64 0) := (blk_cell BK2.out 2).trans rfl
     have hc2_3 : wc.cell? ⟨g2, 3, none⟩ = some (.int .i64 0) := (blk_cell BK2.out 3).trans rfl
     have hf2_0 := blk_frozen BK2.out 0
     have hf2_1 := blk_frozen BK2.out 1
     have hf2_2 := blk_frozen BK2.out 2
     have hf2_3 := blk_frozen BK2.out 3
     go_wp2
     go_region
     go_wp2
     refine bodyPost_ret (of_res _ _ g2 _ (0, 0) rfl (of_put4 BK2.out _ _ _ _) rfl) rfl ?_
     exact ⟨rfl, ((((HB.out.setCell GE2.out _).setCell GE2.out _).setCell GE2.out _).setCell GE2.out _).drew⟩
   ·as_aux_lemma =>
     have hc3_0 : wc.cell? ⟨g3, 54, none⟩ = some (.int .i64 7) := (blk_cell BK3.out 54).trans rfl
     have hf3_0 := blk_frozen BK3.out 54
     have hc3_1 : wc.cell? ⟨g3, 55, none⟩ = some (.int .i64 1) := (blk_cell BK3.out 55).trans rfl
     have hf3_1 := blk_frozen BK3.out 55
     have hc2_0 : wc.cell? ⟨g2, 0, none⟩ = some (.int .u8 0) := (blk_cell BK2.out 0).trans rfl
     have hc2_1 : wc.cell? ⟨g2, 1, none⟩ = some (.int .i64 0) := (blk_cell BK2.out 1).trans rfl
     have hc2_2 : wc.cell? ⟨g2, 2, none⟩ = some (.int .i64 0) := (blk_cell BK2.out 2).trans rfl
     have hc2_3 : wc.cell? ⟨g2, 3, none⟩ = some (.int .i64 0) := (blk_cell BK2.out 3).trans rfl
     have hf2_0 := blk_frozen BK2.out 0
     have hf2_1 := blk_frozen BK2.out 1
     have hf2_2 := blk_frozen BK2.out 2
     have hf2_3 := blk_frozen BK2.out 3
     go_wp2
     go_region
     go_wp2
     refine bodyPost_ret (of_res _ _ g2 _ (0, 0) rfl (of_put4 BK2.out _ _ _ _) rfl) rfl ?_
     exact ⟨rfl, ((((HB.out.setCell GE2.out _).setCell GE2.out _).setCell GE2.out _).setCell GE2.out _).drew⟩
  ·by_cases h1 : op < 1
   ·as_aux_lemma =>
    have HNO := Aside0.mk (of_no op (.inl h1))
    have h18 : ¬ 18 ≤ op := by omega
    have h1b : ¬ 1 ≤ op := by omega
    have h28 : op < 28 := by omega
    clear h27
    go_upto_region 6 with (fail)
    go_cut [4] (fun v4 wc => ∃ g4, v4 = .pointer (some ⟨g4, 0, none⟩) ∧ Aside0 (wc.heap[g2]? = some (.cells #[.int .u8 0, .int .i64 0, .int .i64 0, .int .i64 0] 62 (0, 0))) ∧ Aside0 (Below w.heap.size w wc))
    case first =>
     --D
     skip
     go_step
     ((with_reducible refine gate_dst (N := 65) rfl ?_); refine wpList_build_eq rfl 73 _ rfl #[.int .i64 0, .int .i64 2, .int .i64 3, .int .i64 4, .int .i64 6, .int .i64 7, .int .i64 1, .int .i64 5, .int .i64 5, .int .i64 0, .int .i64 0, .int .i64 4, .int .i64 2, .int .i64 3, .int .i64 0, .int .i64 2, .int .i64 3, .int .i64 0, .int .i64 1, .int .i64 4, .int .i64 5, .int .i64 6, .int .i64 7, .int .i64 0, .int .i64 0, .int .i64 0, .int .i64 0, .int .i64 0] (by rw [List.map_toArray]; simp only [List.map_cons, List.map_nil, Act.eval]; kernel_rfl) ?_)
     go_simp
     ((with_reducible refine gate_dst (N := 4) rfl ?_); (try (refine gate_guard (by rfl) ?_; dsimp only)); refine box_event ?hg (N := 4) ?hd (cs := #[.int .i64 0, .int .i64 0, .int .i64 0, .int .i64 0, .int .i64 0, .int .i64 0, .int .i64 0, .int .i64 0, .int .i64 0, .int .i64 0, .int .i64 0, .int .i64 0, .int .i64 0, .int .i64 0, .int .i64 0, .int .i64 0, .int .i64 0, .int .i64 0, .int .i64 0, .int .i64 0, .int .i64 0, .int .i64 0, .int .i64 0, .int .i64 0, .int .i64 0, .int .i64 0, .int .i64 0, .int .i64 0]) (t := 73) ?hr ?_; (case hd => rfl); (case hg => rfl); (case hr => kernel_rfl); intro g4 hg w3 hbox hb; have n0_ := Aside0.mk (blk_below (by (with_reducible repeat (first | refine blk_drewN ?_ _ | refine blk_drew ?_ | refine blk_alloc ?_ _)); exact BK2.out) hb); have n1_ := Aside0.mk (below_step (by repeat (first | (with_reducible first | exact HB.out | apply below_alloc | apply pw_below_drewN | apply below_drew1 | refine below_set ?_ GE2.out) | exact HB.out)) hb); have n2_ := Aside0.mk hbox; have n3_ := Aside0.mk ((by rw [hg]; exact (below_size (by repeat (first | (with_reducible first | exact HB.out | apply below_alloc | apply pw_below_drewN | apply below_drew1 | refine below_set ?_ GE2.out) | exact HB.out)))) : w.heap.size ≤ g4); have n4_ := Aside0.mk ((by rw [hg]; exact Nat.ne_of_lt (blk_lt (by (with_reducible repeat (first | refine blk_drewN ?_ _ | refine blk_drew ?_ | refine blk_alloc ?_ _)); exact BK2.out))) : g2 ≠ g4); clear BK2; clear HB; have BK2 := n0_; have HB := n1_; have BK4 := n2_; have GE4 := n3_; have NB2_4 := n4_; clear n0_ n1_ n2_ n3_ n4_; clear hb hbox hg; have NB4_2 := Aside0.mk (Ne.symm NB2_4.out))
     go_simp
     ((with_reducible refine gate_store (t := 73) (p := 4) rfl ?_); refine wpList_store_row rfl 73 _ _ rfl g4 #[.int .i64 0, .int .i64 2, .int .i64 3, .int .i64 4, .int .i64 6, .int .i64 7, .int .i64 1, .int .i64 5, .int .i64 5, .int .i64 0, .int .i64 0, .int .i64 4, .int .i64 2, .int .i64 3, .int .i64 0, .int .i64 2, .int .i64 3, .int .i64 0, .int .i64 1, .int .i64 4, .int .i64 5, .int .i64 6, .int .i64 7, .int .i64 0, .int .i64 0, .int .i64 0, .int .i64 0, .int .i64 0] (by rfl) (by rfl) 73 _ BK4.out (by kernel_rfl) (by kernel_rfl) (by kernel_rfl) ?_)
     go_step
     (try simp only [Act.put])
     go_step
     go_step
     go_meet
     case rel => exact ⟨_, rfl, ⟨(of_setRow_ne NB2_4.out).trans BK2.out⟩, ⟨of_setRow_below HB.out GE4.out⟩⟩
     --E
    case rest =>
     clear BK3 BK2 HB
     obtain ⟨g4, rfl, BK2, HB⟩ := hcut
     have hc2_0 : wc.cell? ⟨g2, 0, none⟩ = some (.int .u8 0) := (blk_cell BK2.out 0).trans rfl
     have hc2_1 : wc.cell? ⟨g2, 1, none⟩ = some (.int .i64 0) := (blk_cell BK2.out 1).trans rfl
     have hc2_2 : wc.cell? ⟨g2, 2, none⟩ = some (.int .i64 0) := (blk_cell BK2.out 2).trans rfl
     have hc2_3 : wc.cell? ⟨g2, 3, none⟩ = some (.int .i64 0) := (blk_cell BK2.out 3).trans rfl
     have hf2_0 := blk_frozen BK2.out 0
     have hf2_1 := blk_frozen BK2.out 1
     have hf2_2 := blk_frozen BK2.out 2
     have hf2_3 := blk_frozen BK2.out 3
     go_wp2
     refine bodyPost_ret (of_res _ _ g2 _ (0, 0) rfl (of_put4 BK2.out _ _ _ _) rfl) rfl ?_
     exact ⟨by rw [HNO.out], (((HB.out.setCell GE2.out _).setCell GE2.out _).setCell GE2.out _).setCell GE2.out _⟩
   have h27' : 27 < op := by omega
   have h27b : ¬ op ≤ 17 := by omega
   have h27c : 18 ≤ op := by omega
   have h27d : ¬ op ≤ 27 := by omega
   have h27e : 1 ≤ op := by omega
   clear h27 h1
   go_upto_region 6 with (fail)
   go_cut [4] (fun v4 wc => ∃ g4, v4 = .pointer (some ⟨g4, 0, none⟩) ∧ Aside0 (wc.heap[g4]? = some (.cells #[.int .i64 0, .int .i64 2, .int .i64 3, .int .i64 4, .int .i64 6, .int .i64 7, .int .i64 1, .int .i64 5, .int .i64 5, .int .i64 0, .int .i64 0, .int .i64 4, .int .i64 2, .int .i64 3, .int .i64 0, .int .i64 2, .int .i64 3, .int .i64 0, .int .i64 1, .int .i64 4, .int .i64 5, .int .i64 6, .int .i64 7, .int .i64 0, .int .i64 0, .int .i64 0, .int .i64 0, .int .i64 0] 73 (0, 0))) ∧ Aside0 (wc.heap[g2]? = some (.cells #[.int .u8 0, .int .i64 0, .int .i64 0, .int .i64 0] 62 (0, 0))) ∧ Aside0 (Below w.heap.size w wc))
   case first =>
    --D
    skip
    go_step
    ((with_reducible refine gate_dst (N := 65) rfl ?_); refine wpList_build_eq rfl 73 _ rfl #[.int .i64 0, .int .i64 2, .int .i64 3, .int .i64 4, .int .i64 6, .int .i64 7, .int .i64 1, .int .i64 5, .int .i64 5, .int .i64 0, .int .i64 0, .int .i64 4, .int .i64 2, .int .i64 3, .int .i64 0, .int .i64 2, .int .i64 3, .int .i64 0, .int .i64 1, .int .i64 4, .int .i64 5, .int .i64 6, .int .i64 7, .int .i64 0, .int .i64 0, .int .i64 0, .int .i64 0, .int .i64 0] (by rw [List.map_toArray]; simp only [List.map_cons, List.map_nil, Act.eval]; kernel_rfl) ?_)
    go_simp
    ((with_reducible refine gate_dst (N := 4) rfl ?_); (try (refine gate_guard (by rfl) ?_; dsimp only)); refine box_event ?hg (N := 4) ?hd (cs := #[.int .i64 0, .int .i64 0, .int .i64 0, .int .i64 0, .int .i64 0, .int .i64 0, .int .i64 0, .int .i64 0, .int .i64 0, .int .i64 0, .int .i64 0, .int .i64 0, .int .i64 0, .int .i64 0, .int .i64 0, .int .i64 0, .int .i64 0, .int .i64 0, .int .i64 0, .int .i64 0, .int .i64 0, .int .i64 0, .int .i64 0, .int .i64 0, .int .i64 0, .int .i64 0, .int .i64 0, .int .i64 0]) (t := 73) ?hr ?_; (case hd => rfl); (case hg => rfl); (case hr => kernel_rfl); intro g4 hg w3 hbox hb; have n0_ := Aside0.mk (blk_below (by (with_reducible repeat (first | refine blk_drewN ?_ _ | refine blk_drew ?_ | refine blk_alloc ?_ _)); exact BK2.out) hb); have n1_ := Aside0.mk (below_step (by repeat (first | (with_reducible first | exact HB.out | apply below_alloc | apply pw_below_drewN | apply below_drew1 | refine below_set ?_ GE2.out) | exact HB.out)) hb); have n2_ := Aside0.mk hbox; have n3_ := Aside0.mk ((by rw [hg]; exact (below_size (by repeat (first | (with_reducible first | exact HB.out | apply below_alloc | apply pw_below_drewN | apply below_drew1 | refine below_set ?_ GE2.out) | exact HB.out)))) : w.heap.size ≤ g4); have n4_ := Aside0.mk ((by rw [hg]; exact Nat.ne_of_lt (blk_lt (by (with_reducible repeat (first | refine blk_drewN ?_ _ | refine blk_drew ?_ | refine blk_alloc ?_ _)); exact BK2.out))) : g2 ≠ g4); clear BK2; clear HB; have BK2 := n0_; have HB := n1_; have BK4 := n2_; have GE4 := n3_; have NB2_4 := n4_; clear n0_ n1_ n2_ n3_ n4_; clear hb hbox hg; have NB4_2 := Aside0.mk (Ne.symm NB2_4.out))
    go_simp
    ((with_reducible refine gate_store (t := 73) (p := 4) rfl ?_); refine wpList_store_row rfl 73 _ _ rfl g4 #[.int .i64 0, .int .i64 2, .int .i64 3, .int .i64 4, .int .i64 6, .int .i64 7, .int .i64 1, .int .i64 5, .int .i64 5, .int .i64 0, .int .i64 0, .int .i64 4, .int .i64 2, .int .i64 3, .int .i64 0, .int .i64 2, .int .i64 3, .int .i64 0, .int .i64 1, .int .i64 4, .int .i64 5, .int .i64 6, .int .i64 7, .int .i64 0, .int .i64 0, .int .i64 0, .int .i64 0, .int .i64 0] (by rfl) (by rfl) 73 _ BK4.out (by kernel_rfl) (by kernel_rfl) (by kernel_rfl) ?_)
    go_step
    (try simp only [Act.put])
    go_step
    go_step
    go_meet
    case rel => exact ⟨_, rfl, ⟨of_setRow BK4.out⟩, ⟨(of_setRow_ne NB2_4.out).trans BK2.out⟩, ⟨of_setRow_below HB.out GE4.out⟩⟩
    --E
   case rest =>
    clear BK3 BK2 HB
    obtain ⟨g4, rfl, BK4, BK2, HB⟩ := hcut
    have hc2_0 : wc.cell? ⟨g2, 0, none⟩ = some (.int .u8 0) := (blk_cell BK2.out 0).trans rfl
    have hc2_1 : wc.cell? ⟨g2, 1, none⟩ = some (.int .i64 0) := (blk_cell BK2.out 1).trans rfl
    have hc2_2 : wc.cell? ⟨g2, 2, none⟩ = some (.int .i64 0) := (blk_cell BK2.out 2).trans rfl
    have hc2_3 : wc.cell? ⟨g2, 3, none⟩ = some (.int .i64 0) := (blk_cell BK2.out 3).trans rfl
    have hf2_0 := blk_frozen BK2.out 0
    have hf2_1 := blk_frozen BK2.out 1
    have hf2_2 := blk_frozen BK2.out 2
    have hf2_3 := blk_frozen BK2.out 3
    by_cases h55 : 28 ≤ op ∧ op ≤ 55
    ·have hop : op = 28 ∨ op = 29 ∨ op = 30 ∨ op = 31 ∨ op = 32 ∨ op = 33 ∨ op = 34 ∨ op = 35 ∨ op = 36 ∨ op = 37 ∨ op = 38 ∨ op = 39 ∨ op = 40 ∨ op = 41 ∨ op = 42 ∨ op = 43 ∨ op = 44 ∨ op = 45 ∨ op = 46 ∨ op = 47 ∨ op = 48 ∨ op = 49 ∨ op = 50 ∨ op = 51 ∨ op = 52 ∨ op = 53 ∨ op = 54 ∨ op = 55 := by omega
     clear h55 h27' h27b h27c h27d h27e
     rcases hop with rfl | rfl | rfl | rfl | rfl | rfl | rfl | rfl | rfl | rfl | rfl | rfl | rfl | rfl | rfl | rfl | rfl | rfl | rfl | rfl | rfl | rfl | rfl | rfl | rfl | rfl | rfl | rfl
     ·as_aux_lemma =>
       have hc4_0 : wc.cell? ⟨g4, 0, none⟩ = some (.int .i64 0) := (blk_cell BK4.out 0).trans rfl
       have hf4_0 := blk_frozen BK4.out 0
       go_wp2
       refine bodyPost_ret (of_res _ _ g2 _ (0, 0) rfl (of_put4 BK2.out _ _ _ _) rfl) rfl ?_
       exact ⟨rfl, (((HB.out.setCell GE2.out _).setCell GE2.out _).setCell GE2.out _).setCell GE2.out _⟩
     ·as_aux_lemma =>
       have hc4_0 : wc.cell? ⟨g4, 1, none⟩ = some (.int .i64 2) := (blk_cell BK4.out 1).trans rfl
       have hf4_0 := blk_frozen BK4.out 1
       go_wp2
       refine bodyPost_ret (of_res _ _ g2 _ (0, 0) rfl (of_put4 BK2.out _ _ _ _) rfl) rfl ?_
       exact ⟨rfl, (((HB.out.setCell GE2.out _).setCell GE2.out _).setCell GE2.out _).setCell GE2.out _⟩
     ·as_aux_lemma =>
       have hc4_0 : wc.cell? ⟨g4, 2, none⟩ = some (.int .i64 3) := (blk_cell BK4.out 2).trans rfl
       have hf4_0 := blk_frozen BK4.out 2
       go_wp2
       refine bodyPost_ret (of_res _ _ g2 _ (0, 0) rfl (of_put4 BK2.out _ _ _ _) rfl) rfl ?_
       exact ⟨rfl, (((HB.out.setCell GE2.out _).setCell GE2.out _).setCell GE2.out _).setCell GE2.out _⟩
     ·as_aux_lemma =>
       have hc4_0 : wc.cell? ⟨g4, 3, none⟩ = some (.int .i64 4) := (blk_cell BK4.out 3).trans rfl
       have hf4_0 := blk_frozen BK4.out 3
       go_wp2
       refine bodyPost_ret (of_res _ _ g2 _ (0, 0) rfl (of_put4 BK2.out _ _ _ _) rfl) rfl ?_
       exact ⟨rfl, (((HB.out.setCell GE2.out _).setCell GE2.out _).setCell GE2.out _).setCell GE2.out _⟩
     ·as_aux_lemma =>
       have hc4_0 : wc.cell? ⟨g4, 4, none⟩ = some (.int .i64 6) := (blk_cell BK4.out 4).trans rfl
       have hf4_0 := blk_frozen BK4.out 4
       go_wp2
       refine bodyPost_ret (of_res _ _ g2 _ (0, 0) rfl (of_put4 BK2.out _ _ _ _) rfl) rfl ?_
       exact ⟨rfl, (((HB.out.setCell GE2.out _).setCell GE2.out _).setCell GE2.out _).setCell GE2.out _⟩
     ·as_aux_lemma =>
       have hc4_0 : wc.cell? ⟨g4, 5, none⟩ = some (.int .i64 7) := (blk_cell BK4.out 5).trans rfl
       have hf4_0 := blk_frozen BK4.out 5
       go_wp2
       refine bodyPost_ret (of_res _ _ g2 _ (0, 0) rfl (of_put4 BK2.out _ _ _ _) rfl) rfl ?_
       exact ⟨rfl, (((HB.out.setCell GE2.out _).setCell GE2.out _).setCell GE2.out _).setCell GE2.out _⟩
     ·as_aux_lemma =>
       have hc4_0 : wc.cell? ⟨g4, 6, none⟩ = some (.int .i64 1) := (blk_cell BK4.out 6).trans rfl
       have hf4_0 := blk_frozen BK4.out 6
       go_wp2
       refine bodyPost_ret (of_res _ _ g2 _ (0, 0) rfl (of_put4 BK2.out _ _ _ _) rfl) rfl ?_
       exact ⟨rfl, (((HB.out.setCell GE2.out _).setCell GE2.out _).setCell GE2.out _).setCell GE2.out _⟩
     ·as_aux_lemma =>
       have hc4_0 : wc.cell? ⟨g4, 7, none⟩ = some (.int .i64 5) := (blk_cell BK4.out 7).trans rfl
       have hf4_0 := blk_frozen BK4.out 7
       go_wp2
       refine bodyPost_ret (of_res _ _ g2 _ (0, 0) rfl (of_put4 BK2.out _ _ _ _) rfl) rfl ?_
       exact ⟨rfl, (((HB.out.setCell GE2.out _).setCell GE2.out _).setCell GE2.out _).setCell GE2.out _⟩
     ·as_aux_lemma =>
       have hc4_0 : wc.cell? ⟨g4, 8, none⟩ = some (.int .i64 5) := (blk_cell BK4.out 8).trans rfl
       have hf4_0 := blk_frozen BK4.out 8
       go_wp2
       refine bodyPost_ret (of_res _ _ g2 _ (0, 0) rfl (of_put4 BK2.out _ _ _ _) rfl) rfl ?_
       exact ⟨rfl, (((HB.out.setCell GE2.out _).setCell GE2.out _).setCell GE2.out _).setCell GE2.out _⟩
     ·as_aux_lemma =>
       have hc4_0 : wc.cell? ⟨g4, 9, none⟩ = some (.int .i64 0) := (blk_cell BK4.out 9).trans rfl
       have hf4_0 := blk_frozen BK4.out 9
       go_wp2
       refine bodyPost_ret (of_res _ _ g2 _ (0, 0) rfl (of_put4 BK2.out _ _ _ _) rfl) rfl ?_
       exact ⟨rfl, (((HB.out.setCell GE2.out _).setCell GE2.out _).setCell GE2.out _).setCell GE2.out _⟩
     ·as_aux_lemma =>
       have hc4_0 : wc.cell? ⟨g4, 10, none⟩ = some (.int .i64 0) := (blk_cell BK4.out 10).trans rfl
       have hf4_0 := blk_frozen BK4.out 10
       go_wp2
       refine bodyPost_ret (of_res _ _ g2 _ (0, 0) rfl (of_put4 BK2.out _ _ _ _) rfl) rfl ?_
       exact ⟨rfl, (((HB.out.setCell GE2.out _).setCell GE2.out _).setCell GE2.out _).setCell GE2.out _⟩
     ·as_aux_lemma =>
       have hc4_0 : wc.cell? ⟨g4, 11, none⟩ = some (.int .i64 4) := (blk_cell BK4.out 11).trans rfl
       have hf4_0 := blk_frozen BK4.out 11
       go_wp2
       refine bodyPost_ret (of_res _ _ g2 _ (0, 0) rfl (of_put4 BK2.out _ _ _ _) rfl) rfl ?_
       exact ⟨rfl, (((HB.out.setCell GE2.out _).setCell GE2.out _).setCell GE2.out _).setCell GE2.out _⟩
     ·as_aux_lemma =>
       have hc4_0 : wc.cell? ⟨g4, 12, none⟩ = some (.int .i64 2) := (blk_cell BK4.out 12).trans rfl
       have hf4_0 := blk_frozen BK4.out 12
       go_wp2
       refine bodyPost_ret (of_res _ _ g2 _ (0, 0) rfl (of_put4 BK2.out _ _ _ _) rfl) rfl ?_
       exact ⟨rfl, (((HB.out.setCell GE2.out _).setCell GE2.out _).setCell GE2.out _).setCell GE2.out _⟩
     ·as_aux_lemma =>
       have hc4_0 : wc.cell? ⟨g4, 13, none⟩ = some (.int .i64 3) := (blk_cell BK4.out 13).trans rfl
       have hf4_0 := blk_frozen BK4.out 13
       go_wp2
       refine bodyPost_ret (of_res _ _ g2 _ (0, 0) rfl (of_put4 BK2.out _ _ _ _) rfl) rfl ?_
       exact ⟨rfl, (((HB.out.setCell GE2.out _).setCell GE2.out _).setCell GE2.out _).setCell GE2.out _⟩
     ·as_aux_lemma =>
       have hc4_0 : wc.cell? ⟨g4, 14, none⟩ = some (.int .i64 0) := (blk_cell BK4.out 14).trans rfl
       have hf4_0 := blk_frozen BK4.out 14
       go_wp2
       refine bodyPost_ret (of_res _ _ g2 _ (0, 0) rfl (of_put4 BK2.out _ _ _ _) rfl) rfl ?_
       exact ⟨rfl, (((HB.out.setCell GE2.out _).setCell GE2.out _).setCell GE2.out _).setCell GE2.out _⟩
     ·as_aux_lemma =>
       have hc4_0 : wc.cell? ⟨g4, 15, none⟩ = some (.int .i64 2) := (blk_cell BK4.out 15).trans rfl
       have hf4_0 := blk_frozen BK4.out 15
       go_wp2
       refine bodyPost_ret (of_res _ _ g2 _ (0, 0) rfl (of_put4 BK2.out _ _ _ _) rfl) rfl ?_
       exact ⟨rfl, (((HB.out.setCell GE2.out _).setCell GE2.out _).setCell GE2.out _).setCell GE2.out _⟩
     ·as_aux_lemma =>
       have hc4_0 : wc.cell? ⟨g4, 16, none⟩ = some (.int .i64 3) := (blk_cell BK4.out 16).trans rfl
       have hf4_0 := blk_frozen BK4.out 16
       go_wp2
       refine bodyPost_ret (of_res _ _ g2 _ (0, 0) rfl (of_put4 BK2.out _ _ _ _) rfl) rfl ?_
       exact ⟨rfl, (((HB.out.setCell GE2.out _).setCell GE2.out _).setCell GE2.out _).setCell GE2.out _⟩
     ·as_aux_lemma =>
       have hc4_0 : wc.cell? ⟨g4, 17, none⟩ = some (.int .i64 0) := (blk_cell BK4.out 17).trans rfl
       have hf4_0 := blk_frozen BK4.out 17
       go_wp2
       refine bodyPost_ret (of_res _ _ g2 _ (0, 0) rfl (of_put4 BK2.out _ _ _ _) rfl) rfl ?_
       exact ⟨rfl, (((HB.out.setCell GE2.out _).setCell GE2.out _).setCell GE2.out _).setCell GE2.out _⟩
     ·as_aux_lemma =>
       have hc4_0 : wc.cell? ⟨g4, 18, none⟩ = some (.int .i64 1) := (blk_cell BK4.out 18).trans rfl
       have hf4_0 := blk_frozen BK4.out 18
       go_wp2
       refine bodyPost_ret (of_res _ _ g2 _ (0, 0) rfl (of_put4 BK2.out _ _ _ _) rfl) rfl ?_
       exact ⟨rfl, (((HB.out.setCell GE2.out _).setCell GE2.out _).setCell GE2.out _).setCell GE2.out _⟩
     ·as_aux_lemma =>
       have hc4_0 : wc.cell? ⟨g4, 19, none⟩ = some (.int .i64 4) := (blk_cell BK4.out 19).trans rfl
       have hf4_0 := blk_frozen BK4.out 19
       go_wp2
       refine bodyPost_ret (of_res _ _ g2 _ (0, 0) rfl (of_put4 BK2.out _ _ _ _) rfl) rfl ?_
       exact ⟨rfl, (((HB.out.setCell GE2.out _).setCell GE2.out _).setCell GE2.out _).setCell GE2.out _⟩
     ·as_aux_lemma =>
       have hc4_0 : wc.cell? ⟨g4, 20, none⟩ = some (.int .i64 5) := (blk_cell BK4.out 20).trans rfl
       have hf4_0 := blk_frozen BK4.out 20
       go_wp2
       refine bodyPost_ret (of_res _ _ g2 _ (0, 0) rfl (of_put4 BK2.out _ _ _ _) rfl) rfl ?_
       exact ⟨rfl, (((HB.out.setCell GE2.out _).setCell GE2.out _).setCell GE2.out _).setCell GE2.out _⟩
     ·as_aux_lemma =>
       have hc4_0 : wc.cell? ⟨g4, 21, none⟩ = some (.int .i64 6) := (blk_cell BK4.out 21).trans rfl
       have hf4_0 := blk_frozen BK4.out 21
       go_wp2
       refine bodyPost_ret (of_res _ _ g2 _ (0, 0) rfl (of_put4 BK2.out _ _ _ _) rfl) rfl ?_
       exact ⟨rfl, (((HB.out.setCell GE2.out _).setCell GE2.out _).setCell GE2.out _).setCell GE2.out _⟩
     ·as_aux_lemma =>
       have hc4_0 : wc.cell? ⟨g4, 22, none⟩ = some (.int .i64 7) := (blk_cell BK4.out 22).trans rfl
       have hf4_0 := blk_frozen BK4.out 22
       go_wp2
       refine bodyPost_ret (of_res _ _ g2 _ (0, 0) rfl (of_put4 BK2.out _ _ _ _) rfl) rfl ?_
       exact ⟨rfl, (((HB.out.setCell GE2.out _).setCell GE2.out _).setCell GE2.out _).setCell GE2.out _⟩
     ·as_aux_lemma =>
       have hc4_0 : wc.cell? ⟨g4, 23, none⟩ = some (.int .i64 0) := (blk_cell BK4.out 23).trans rfl
       have hf4_0 := blk_frozen BK4.out 23
       go_wp2
       refine bodyPost_ret (of_res _ _ g2 _ (0, 0) rfl (of_put4 BK2.out _ _ _ _) rfl) rfl ?_
       exact ⟨rfl, (((HB.out.setCell GE2.out _).setCell GE2.out _).setCell GE2.out _).setCell GE2.out _⟩
     ·as_aux_lemma =>
       have hc4_0 : wc.cell? ⟨g4, 24, none⟩ = some (.int .i64 0) := (blk_cell BK4.out 24).trans rfl
       have hf4_0 := blk_frozen BK4.out 24
       go_wp2
       refine bodyPost_ret (of_res _ _ g2 _ (0, 0) rfl (of_put4 BK2.out _ _ _ _) rfl) rfl ?_
       exact ⟨rfl, (((HB.out.setCell GE2.out _).setCell GE2.out _).setCell GE2.out _).setCell GE2.out _⟩
     ·as_aux_lemma =>
       have hc4_0 : wc.cell? ⟨g4, 25, none⟩ = some (.int .i64 0) := (blk_cell BK4.out 25).trans rfl
       have hf4_0 := blk_frozen BK4.out 25
       go_wp2
       refine bodyPost_ret (of_res _ _ g2 _ (0, 0) rfl (of_put4 BK2.out _ _ _ _) rfl) rfl ?_
       exact ⟨rfl, (((HB.out.setCell GE2.out _).setCell GE2.out _).setCell GE2.out _).setCell GE2.out _⟩
     ·as_aux_lemma =>
       have hc4_0 : wc.cell? ⟨g4, 26, none⟩ = some (.int .i64 0) := (blk_cell BK4.out 26).trans rfl
       have hf4_0 := blk_frozen BK4.out 26
       go_wp2
       refine bodyPost_ret (of_res _ _ g2 _ (0, 0) rfl (of_put4 BK2.out _ _ _ _) rfl) rfl ?_
       exact ⟨rfl, (((HB.out.setCell GE2.out _).setCell GE2.out _).setCell GE2.out _).setCell GE2.out _⟩
     ·as_aux_lemma =>
       have hc4_0 : wc.cell? ⟨g4, 27, none⟩ = some (.int .i64 0) := (blk_cell BK4.out 27).trans rfl
       have hf4_0 := blk_frozen BK4.out 27
       go_wp2
       refine bodyPost_ret (of_res _ _ g2 _ (0, 0) rfl (of_put4 BK2.out _ _ _ _) rfl) rfl ?_
       exact ⟨rfl, (((HB.out.setCell GE2.out _).setCell GE2.out _).setCell GE2.out _).setCell GE2.out _⟩
    ·have HNO := Aside0.mk (of_no op (by omega))
     have hgt : 55 < op := by omega
     have hge : ¬ op < 28 := by omega
     clear h55
     go_wp2
     refine bodyPost_ret (of_res _ _ g2 _ (0, 0) rfl (of_put4 BK2.out _ _ _ _) rfl) rfl ?_
     exact ⟨by rw [HNO.out], (((HB.out.setCell GE2.out _).setCell GE2.out _).setCell GE2.out _).setCell GE2.out _⟩
def hauberkref02_Of.f (op : Int) : Option (Int × Int × Int × Int) := some ((cm_ent op).form, (cm_ent op).op, (cm_ent op).f3, (cm_ent op).f7)
theorem hauberkref02_Of.calls (op r0 r1 r2 r3 : Int) (w : World) (h : hauberkref02_Of.f op = some (r0, r1, r2, r3)) : Calls Try.prog 18 #[.int .i64 op] w fun e w' => e = .returned (.agg #[.int .u8 r0, .int .i64 r1, .int .i64 r2, .int .i64 r3]) ∧ Below w.heap.size w w' := by
 have h' := Option.some.inj h
 simp only [Prod.mk.injEq] at h'
 obtain ⟨rfl, rfl, rfl, rfl⟩ := h'
 exact of_calls op w

end Go.Proofs.Ytkacoffiinggiaa.K
