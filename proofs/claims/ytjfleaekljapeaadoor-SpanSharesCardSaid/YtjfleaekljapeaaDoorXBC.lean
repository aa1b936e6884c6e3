import Derived.Test.YtjfleaekljapeaaDoorXAD
import Derived.Test.YtjfleaekljapeaaDoorXBB
import Derived.Deep.DeepMust
import Derived.Test.YtjfleaekljapeaaDoorProg
import Derived.Below
import Derived.Deep.Draws
import Derived.Deep.AppendLies
import Derived.Maps.AppendAt
import Derived.OwnWalk
import Derived.Laws.BytesArg
import Derived.Laws.MakeOwn
import Derived.Laws.OwnMore
import Derived.Deep.OwnRows
import Derived.Tactics
import Derived.Lib.ConvBytes
import Derived.Laws.Slices
import Derived.WalkKit
import Derived.KernelRfl
import Derived.RowKit3
import Derived.Deep.LoopGhost
import Derived.Deep.QuietTactic
import Derived.BigQuiet
import Derived.WideLaws
import Derived.Deep.DeepCutAuto
import Derived.Deep.CutBlock
import Derived.Deep.RegionHeld3
import Derived.Deep.MidRow
import Derived.Laws.Tables
import Derived.StillTailTactics
import Derived.Laws.Rows
import Derived.Lib.AppendStr
import Derived.ArgAppend
import Derived.Laws.IdiomCopy
import Derived.OrdersHeld
import Derived.Laws.BitsLemmas
import Derived.Laws.BitsAllLaws
import Derived.RowKit
import Derived.RegionTactic
import Derived.Deep.RegionWith
import Derived.Lib.Hide
import Derived.Test.YtjfleaekljapeaaDoorXAA
import Derived.Test.YtjfleaekljapeaaDoorXAB
import Derived.Test.YtjfleaekljapeaaDoorXAC
import Derived.Deep.RegionLaw
import Derived.Laws.CopyOwn
import Derived.Laws.EntriesVeiled
import Derived.Shelf.Spec.TrailingZeros
import Derived.Test.YtjfleaekljapeaaDoorXBA
namespace Go.Proofs.YtjfleaekljapeaaDoor.K
open Go.RowKit Go.Proofs.YtjfleaekljapeaaDoorW.PrintWords Go.Proofs.YtjfleaekljapeaaDoorW.PrintLast Go.Proofs.YtjfleaekljapeaaDoorW.PrintMore
attribute [local go_sem] max2_int min2_int max_two min_two max_three min_three max_four min_four   -- for this text's walks alone
set_option linter.unusedVariables false
set_option linter.unusedSimpArgs false
def span_Meet.f (a0_0 : Int) (a0_1 : Int) (a1_0 : Int) (a1_1 : Int) : Option (Bool) := if a0_0 <= a0_1 then (if a1_0 <= a1_1 then (if a0_0 <= a1_1 then (some (decide (a1_0 <= a0_1))) else (some false)) else (some false)) else (some false)
set_option maxHeartbeats 8000000 in
set_option maxRecDepth 100000 in
theorem span_Meet.calls (a0_0 : Int) (a0_1 : Int) (a1_0 : Int) (a1_1 : Int) (r : Bool) (w : World) (h : span_Meet.f a0_0 a0_1 a1_0 a1_1 = some r) :
  Calls Tryd.prog 17 #[.agg #[.int .i64 a0_0, .int .i64 a0_1], .agg #[.int .i64 a1_0, .int .i64 a1_1]] w fun e w' => e = .returned (.bool r) /\ Below w.heap.size w w' := by
 have hu39 := Tryd.underlying39
 have HB := Aside0.mk (Below.refl w.heap.size w)
 have H : (if a0_0 <= a0_1 then (if a1_0 <= a1_1 then (if a0_0 <= a1_1 then (some (decide (a1_0 <= a0_1))) else (some false)) else (some false)) else (some false)) = some r := h
 clear h
 by_cases c3 : a0_0 <= a0_1
 ·rw [if_pos c3] at H
  have c3b0 : decide (a0_0 <= a0_1) = true := decide_eq_true c3
  clear c3
  by_cases c4 : a1_0 <= a1_1
  ·rw [if_pos c4] at H
   have c4b0 : decide (a1_0 <= a1_1) = true := decide_eq_true c4
   clear c4
   by_cases c5 : a0_0 <= a1_1
   ·rw [if_pos c5] at H
    have c5b0 : decide (a0_0 <= a1_1) = true := decide_eq_true c5
    clear c5
    obtain rfl := Option.some.inj H
    go_enter Tryd.func17, Tryd.ntmps17
    go_wp2_with (first | ((with_reducible refine gate_dst (N := 2) rfl ?_); refine box_event ?hg (N := 2) ?hd (cs := #[.int .i64 a0_0, .int .i64 a0_1]) (t := 39) ?hr ?_; (case hd => rfl); (case hg => rfl); (case hr => first | (go_simp; done) | (go_simp; rfl)); intro gb263 hg w6 hbox hb; have n0_ := Aside0.mk (below_step (by repeat (first | (with_reducible first | exact HB.out | apply below_alloc | apply pw_below_drewN | apply below_drew1) | exact HB.out)) hb); have n1_ := Aside0.mk (hbox); have n2_ := Aside0.mk ((by rw [hg]; exact (below_size (by repeat (first | (with_reducible first | exact HB.out | apply below_alloc | apply pw_below_drewN | apply below_drew1) | exact HB.out))) : w.heap.size <= gb263)); have n3_ := Aside0.mk ((by rw [hg]; exact (below_size (by repeat (first | (with_reducible first | exact HB.out | apply below_alloc | apply pw_below_drewN | apply below_drew1) | exact HB.out))) : w.heap.size <= gb263)); clear HB; have HB := n0_; have BK263 := n1_; have GW263 := n2_; have GE263 := n3_; clear n0_ n1_ n2_ n3_; clear hb hbox hg) | ((with_reducible refine gate_dst (N := 3) rfl ?_); refine box_event ?hg (N := 3) ?hd (cs := #[.int .i64 a1_0, .int .i64 a1_1]) (t := 39) ?hr ?_; (case hd => rfl); (case hg => rfl); (case hr => first | (go_simp; done) | (go_simp; rfl)); intro gb264 hg w7 hbox hb; have n0_ := Aside0.mk (blk_below (g := gb263) (o := .cells #[.int .i64 a0_0, .int .i64 a0_1] 39 (0, 0)) (by (with_reducible repeat (first | refine blk_drewN ?_ _ | refine blk_drew ?_ | refine blk_alloc ?_ _)); exact BK263.out) hb); have n1_ := Aside0.mk (below_step (by repeat (first | (with_reducible first | exact HB.out | apply below_alloc | apply pw_below_drewN | apply below_drew1 | refine below_set ?_ GE263.out) | exact HB.out)) hb); have n2_ := Aside0.mk (hbox); have n3_ := Aside0.mk ((by rw [hg]; exact (below_size (by repeat (first | (with_reducible first | exact HB.out | apply below_alloc | apply pw_below_drewN | apply below_drew1 | refine below_set ?_ GE263.out) | exact HB.out))) : w.heap.size <= gb264)); have n4_ := Aside0.mk ((by rw [hg]; exact (below_size (by repeat (first | (with_reducible first | exact HB.out | apply below_alloc | apply pw_below_drewN | apply below_drew1 | refine below_set ?_ GE263.out) | exact HB.out))) : w.heap.size <= gb264)); have n5_ := Aside0.mk ((by rw [hg]; exact Nat.ne_of_lt (blk_lt (g := gb263) (o := .cells #[.int .i64 a0_0, .int .i64 a0_1] 39 (0, 0)) (by (with_reducible repeat (first | refine blk_drewN ?_ _ | refine blk_drew ?_ | refine blk_alloc ?_ _)); exact BK263.out)) : gb263 ≠ gb264)); have n6_ := Aside0.mk ((by rw [hg]; exact Nat.ne_of_gt (blk_lt (g := gb263) (o := .cells #[.int .i64 a0_0, .int .i64 a0_1] 39 (0, 0)) (by (with_reducible repeat (first | refine blk_drewN ?_ _ | refine blk_drew ?_ | refine blk_alloc ?_ _)); exact BK263.out)) : gb264 ≠ gb263)); clear BK263; clear HB; have BK263 := n0_; have HB := n1_; have BK264 := n2_; have GW264 := n3_; have GE264 := n4_; have NB263_264 := n5_; have NB264_263 := n6_; clear n0_ n1_ n2_ n3_ n4_ n5_ n6_; clear hb hbox hg; have hnb8 := NB263_264.out; have hnc8 := NB264_263.out; have hcz9_0 : w7.cell? ⟨gb263, 0, none⟩ = some (.int .i64 a0_0) := (blk_cell BK263.out 0).trans rfl; have hcz9_1 : w7.cell? ⟨gb263, 1, none⟩ = some (.int .i64 a0_1) := (blk_cell BK263.out 1).trans rfl; have hfz9_0 := blk_frozen BK263.out 0; have hfz9_1 := blk_frozen BK263.out 1; have hcz10_0 : w7.cell? ⟨gb264, 0, none⟩ = some (.int .i64 a1_0) := (blk_cell BK264.out 0).trans rfl; have hcz10_1 : w7.cell? ⟨gb264, 1, none⟩ = some (.int .i64 a1_1) := (blk_cell BK264.out 1).trans rfl; have hfz10_0 := blk_frozen BK264.out 0; have hfz10_1 := blk_frozen BK264.out 1))
    go_ret
    exact ⟨by first | rfl | (simp [errW_none, errW_some] <;> rfl) | (simp [*, errW_none, errW_some] <;> rfl), by repeat (first | (with_reducible first | exact HB.out | apply below_alloc | apply pw_below_drewN | apply below_drew1 | refine below_set ?_ GE263.out | refine below_set ?_ GE264.out) | exact HB.out)⟩
   ·rw [if_neg c5] at H
    have c5b0 : decide (a0_0 <= a1_1) = false := decide_eq_false c5
    clear c5
    obtain rfl := Option.some.inj H
    go_enter Tryd.func17, Tryd.ntmps17
    go_wp2_with (first | ((with_reducible refine gate_dst (N := 2) rfl ?_); refine box_event ?hg (N := 2) ?hd (cs := #[.int .i64 a0_0, .int .i64 a0_1]) (t := 39) ?hr ?_; (case hd => rfl); (case hg => rfl); (case hr => first | (go_simp; done) | (go_simp; rfl)); intro gb263 hg w11 hbox hb; have n0_ := Aside0.mk (below_step (by repeat (first | (with_reducible first | exact HB.out | apply below_alloc | apply pw_below_drewN | apply below_drew1) | exact HB.out)) hb); have n1_ := Aside0.mk (hbox); have n2_ := Aside0.mk ((by rw [hg]; exact (below_size (by repeat (first | (with_reducible first | exact HB.out | apply below_alloc | apply pw_below_drewN | apply below_drew1) | exact HB.out))) : w.heap.size <= gb263)); have n3_ := Aside0.mk ((by rw [hg]; exact (below_size (by repeat (first | (with_reducible first | exact HB.out | apply below_alloc | apply pw_below_drewN | apply below_drew1) | exact HB.out))) : w.heap.size <= gb263)); clear HB; have HB := n0_; have BK263 := n1_; have GW263 := n2_; have GE263 := n3_; clear n0_ n1_ n2_ n3_; clear hb hbox hg) | ((with_reducible refine gate_dst (N := 3) rfl ?_); refine box_event ?hg (N := 3) ?hd (cs := #[.int .i64 a1_0, .int .i64 a1_1]) (t := 39) ?hr ?_; (case hd => rfl); (case hg => rfl); (case hr => first | (go_simp; done) | (go_simp; rfl)); intro gb264 hg w12 hbox hb; have n0_ := Aside0.mk (blk_below (g := gb263) (o := .cells #[.int .i64 a0_0, .int .i64 a0_1] 39 (0, 0)) (by (with_reducible repeat (first | refine blk_drewN ?_ _ | refine blk_drew ?_ | refine blk_alloc ?_ _)); exact BK263.out) hb); have n1_ := Aside0.mk (below_step (by repeat (first | (with_reducible first | exact HB.out | apply below_alloc | apply pw_below_drewN | apply below_drew1 | refine below_set ?_ GE263.out) | exact HB.out)) hb); have n2_ := Aside0.mk (hbox); have n3_ := Aside0.mk ((by rw [hg]; exact (below_size (by repeat (first | (with_reducible first | exact HB.out | apply below_alloc | apply pw_below_drewN | apply below_drew1 | refine below_set ?_ GE263.out) | exact HB.out))) : w.heap.size <= gb264)); have n4_ := Aside0.mk ((by rw [hg]; exact (below_size (by repeat (first | (with_reducible first | exact HB.out | apply below_alloc | apply pw_below_drewN | apply below_drew1 | refine below_set ?_ GE263.out) | exact HB.out))) : w.heap.size <= gb264)); have n5_ := Aside0.mk ((by rw [hg]; exact Nat.ne_of_lt (blk_lt (g := gb263) (o := .cells #[.int .i64 a0_0, .int .i64 a0_1] 39 (0, 0)) (by (with_reducible repeat (first | refine blk_drewN ?_ _ | refine blk_drew ?_ | refine blk_alloc ?_ _)); exact BK263.out)) : gb263 ≠ gb264)); have n6_ := Aside0.mk ((by rw [hg]; exact Nat.ne_of_gt (blk_lt (g := gb263) (o := .cells #[.int .i64 a0_0, .int .i64 a0_1] 39 (0, 0)) (by (with_reducible repeat (first | refine blk_drewN ?_ _ | refine blk_drew ?_ | refine blk_alloc ?_ _)); exact BK263.out)) : gb264 ≠ gb263)); clear BK263; clear HB; have BK263 := n0_; have HB := n1_; have BK264 := n2_; have GW264 := n3_; have GE264 := n4_; have NB263_264 := n5_; have NB264_263 := n6_; clear n0_ n1_ n2_ n3_ n4_ n5_ n6_; clear hb hbox hg; have hnb13 := NB263_264.out; have hnc13 := NB264_263.out; have hcz14_0 : w12.cell? ⟨gb263, 0, none⟩ = some (.int .i64 a0_0) := (blk_cell BK263.out 0).trans rfl; have hcz14_1 : w12.cell? ⟨gb263, 1, none⟩ = some (.int .i64 a0_1) := (blk_cell BK263.out 1).trans rfl; have hfz14_0 := blk_frozen BK263.out 0; have hfz14_1 := blk_frozen BK263.out 1; have hcz15_0 : w12.cell? ⟨gb264, 0, none⟩ = some (.int .i64 a1_0) := (blk_cell BK264.out 0).trans rfl; have hcz15_1 : w12.cell? ⟨gb264, 1, none⟩ = some (.int .i64 a1_1) := (blk_cell BK264.out 1).trans rfl; have hfz15_0 := blk_frozen BK264.out 0; have hfz15_1 := blk_frozen BK264.out 1))
    go_ret
    exact ⟨by first | rfl | (simp [errW_none, errW_some] <;> rfl) | (simp [*, errW_none, errW_some] <;> rfl), by repeat (first | (with_reducible first | exact HB.out | apply below_alloc | apply pw_below_drewN | apply below_drew1 | refine below_set ?_ GE263.out | refine below_set ?_ GE264.out) | exact HB.out)⟩
  ·rw [if_neg c4] at H
   have c4b0 : decide (a1_0 <= a1_1) = false := decide_eq_false c4
   clear c4
   obtain rfl := Option.some.inj H
   go_enter Tryd.func17, Tryd.ntmps17
   go_wp2_with (first | ((with_reducible refine gate_dst (N := 2) rfl ?_); refine box_event ?hg (N := 2) ?hd (cs := #[.int .i64 a0_0, .int .i64 a0_1]) (t := 39) ?hr ?_; (case hd => rfl); (case hg => rfl); (case hr => first | (go_simp; done) | (go_simp; rfl)); intro gb263 hg w16 hbox hb; have n0_ := Aside0.mk (below_step (by repeat (first | (with_reducible first | exact HB.out | apply below_alloc | apply pw_below_drewN | apply below_drew1) | exact HB.out)) hb); have n1_ := Aside0.mk (hbox); have n2_ := Aside0.mk ((by rw [hg]; exact (below_size (by repeat (first | (with_reducible first | exact HB.out | apply below_alloc | apply pw_below_drewN | apply below_drew1) | exact HB.out))) : w.heap.size <= gb263)); have n3_ := Aside0.mk ((by rw [hg]; exact (below_size (by repeat (first | (with_reducible first | exact HB.out | apply below_alloc | apply pw_below_drewN | apply below_drew1) | exact HB.out))) : w.heap.size <= gb263)); clear HB; have HB := n0_; have BK263 := n1_; have GW263 := n2_; have GE263 := n3_; clear n0_ n1_ n2_ n3_; clear hb hbox hg) | ((with_reducible refine gate_dst (N := 3) rfl ?_); refine box_event ?hg (N := 3) ?hd (cs := #[.int .i64 a1_0, .int .i64 a1_1]) (t := 39) ?hr ?_; (case hd => rfl); (case hg => rfl); (case hr => first | (go_simp; done) | (go_simp; rfl)); intro gb264 hg w17 hbox hb; have n0_ := Aside0.mk (blk_below (g := gb263) (o := .cells #[.int .i64 a0_0, .int .i64 a0_1] 39 (0, 0)) (by (with_reducible repeat (first | refine blk_drewN ?_ _ | refine blk_drew ?_ | refine blk_alloc ?_ _)); exact BK263.out) hb); have n1_ := Aside0.mk (below_step (by repeat (first | (with_reducible first | exact HB.out | apply below_alloc | apply pw_below_drewN | apply below_drew1 | refine below_set ?_ GE263.out) | exact HB.out)) hb); have n2_ := Aside0.mk (hbox); have n3_ := Aside0.mk ((by rw [hg]; exact (below_size (by repeat (first | (with_reducible first | exact HB.out | apply below_alloc | apply pw_below_drewN | apply below_drew1 | refine below_set ?_ GE263.out) | exact HB.out))) : w.heap.size <= gb264)); have n4_ := Aside0.mk ((by rw [hg]; exact (below_size (by repeat (first | (with_reducible first | exact HB.out | apply below_alloc | apply pw_below_drewN | apply below_drew1 | refine below_set ?_ GE263.out) | exact HB.out))) : w.heap.size <= gb264)); have n5_ := Aside0.mk ((by rw [hg]; exact Nat.ne_of_lt (blk_lt (g := gb263) (o := .cells #[.int .i64 a0_0, .int .i64 a0_1] 39 (0, 0)) (by (with_reducible repeat (first | refine blk_drewN ?_ _ | refine blk_drew ?_ | refine blk_alloc ?_ _)); exact BK263.out)) : gb263 ≠ gb264)); have n6_ := Aside0.mk ((by rw [hg]; exact Nat.ne_of_gt (blk_lt (g := gb263) (o := .cells #[.int .i64 a0_0, .int .i64 a0_1] 39 (0, 0)) (by (with_reducible repeat (first | refine blk_drewN ?_ _ | refine blk_drew ?_ | refine blk_alloc ?_ _)); exact BK263.out)) : gb264 ≠ gb263)); clear BK263; clear HB; have BK263 := n0_; have HB := n1_; have BK264 := n2_; have GW264 := n3_; have GE264 := n4_; have NB263_264 := n5_; have NB264_263 := n6_; clear n0_ n1_ n2_ n3_ n4_ n5_ n6_; clear hb hbox hg; have hnb18 := NB263_264.out; have hnc18 := NB264_263.out; have hcz19_0 : w17.cell? ⟨gb263, 0, none⟩ = some (.int .i64 a0_0) := (blk_cell BK263.out 0).trans rfl; have hcz19_1 : w17.cell? ⟨gb263, 1, none⟩ = some (.int .i64 a0_1) := (blk_cell BK263.out 1).trans rfl; have hfz19_0 := blk_frozen BK263.out 0; have hfz19_1 := blk_frozen BK263.out 1; have hcz20_0 : w17.cell? ⟨gb264, 0, none⟩ = some (.int .i64 a1_0) := (blk_cell BK264.out 0).trans rfl; have hcz20_1 : w17.cell? ⟨gb264, 1, none⟩ = some (.int .i64 a1_1) := (blk_cell BK264.out 1).trans rfl; have hfz20_0 := blk_frozen BK264.out 0; have hfz20_1 := blk_frozen BK264.out 1))
   go_ret
   exact ⟨by first | rfl | (simp [errW_none, errW_some] <;> rfl) | (simp [*, errW_none, errW_some] <;> rfl), by repeat (first | (with_reducible first | exact HB.out | apply below_alloc | apply pw_below_drewN | apply below_drew1 | refine below_set ?_ GE263.out | refine below_set ?_ GE264.out) | exact HB.out)⟩
 ·rw [if_neg c3] at H
  have c3b0 : decide (a0_0 <= a0_1) = false := decide_eq_false c3
  clear c3
  obtain rfl := Option.some.inj H
  go_enter Tryd.func17, Tryd.ntmps17
  go_wp2_with (first | ((with_reducible refine gate_dst (N := 2) rfl ?_); refine box_event ?hg (N := 2) ?hd (cs := #[.int .i64 a0_0, .int .i64 a0_1]) (t := 39) ?hr ?_; (case hd => rfl); (case hg => rfl); (case hr => first | (go_simp; done) | (go_simp; rfl)); intro gb263 hg w21 hbox hb; have n0_ := Aside0.mk (below_step (by repeat (first | (with_reducible first | exact HB.out | apply below_alloc | apply pw_below_drewN | apply below_drew1) | exact HB.out)) hb); have n1_ := Aside0.mk (hbox); have n2_ := Aside0.mk ((by rw [hg]; exact (below_size (by repeat (first | (with_reducible first | exact HB.out | apply below_alloc | apply pw_below_drewN | apply below_drew1) | exact HB.out))) : w.heap.size <= gb263)); have n3_ := Aside0.mk ((by rw [hg]; exact (below_size (by repeat (first | (with_reducible first | exact HB.out | apply below_alloc | apply pw_below_drewN | apply below_drew1) | exact HB.out))) : w.heap.size <= gb263)); clear HB; have HB := n0_; have BK263 := n1_; have GW263 := n2_; have GE263 := n3_; clear n0_ n1_ n2_ n3_; clear hb hbox hg) | ((with_reducible refine gate_dst (N := 3) rfl ?_); refine box_event ?hg (N := 3) ?hd (cs := #[.int .i64 a1_0, .int .i64 a1_1]) (t := 39) ?hr ?_; (case hd => rfl); (case hg => rfl); (case hr => first | (go_simp; done) | (go_simp; rfl)); intro gb264 hg w22 hbox hb; have n0_ := Aside0.mk (blk_below (g := gb263) (o := .cells #[.int .i64 a0_0, .int .i64 a0_1] 39 (0, 0)) (by (with_reducible repeat (first | refine blk_drewN ?_ _ | refine blk_drew ?_ | refine blk_alloc ?_ _)); exact BK263.out) hb); have n1_ := Aside0.mk (below_step (by repeat (first | (with_reducible first | exact HB.out | apply below_alloc | apply pw_below_drewN | apply below_drew1 | refine below_set ?_ GE263.out) | exact HB.out)) hb); have n2_ := Aside0.mk (hbox); have n3_ := Aside0.mk ((by rw [hg]; exact (below_size (by repeat (first | (with_reducible first | exact HB.out | apply below_alloc | apply pw_below_drewN | apply below_drew1 | refine below_set ?_ GE263.out) | exact HB.out))) : w.heap.size <= gb264)); have n4_ := Aside0.mk ((by rw [hg]; exact (below_size (by repeat (first | (with_reducible first | exact HB.out | apply below_alloc | apply pw_below_drewN | apply below_drew1 | refine below_set ?_ GE263.out) | exact HB.out))) : w.heap.size <= gb264)); have n5_ := Aside0.mk ((by rw [hg]; exact Nat.ne_of_lt (blk_lt (g := gb263) (o := .cells #[.int .i64 a0_0, .int .i64 a0_1] 39 (0, 0)) (by (with_reducible repeat (first | refine blk_drewN ?_ _ | refine blk_drew ?_ | refine blk_alloc ?_ _)); exact BK263.out)) : gb263 ≠ gb264)); have n6_ := Aside0.mk ((by rw [hg]; exact Nat.ne_of_gt (blk_lt (g := gb263) (o := .cells #[.int .i64 a0_0, .int .i64 a0_1] 39 (0, 0)) (by (with_reducible repeat (first | refine blk_drewN ?_ _ | refine blk_drew ?_ | refine blk_alloc ?_ _)); exact BK263.out)) : gb264 ≠ gb263)); clear BK263; clear HB; have BK263 := n0_; have HB := n1_; have BK264 := n2_; have GW264 := n3_; have GE264 := n4_; have NB263_264 := n5_; have NB264_263 := n6_; clear n0_ n1_ n2_ n3_ n4_ n5_ n6_; clear hb hbox hg; have hnb23 := NB263_264.out; have hnc23 := NB264_263.out; have hcz24_0 : w22.cell? ⟨gb263, 0, none⟩ = some (.int .i64 a0_0) := (blk_cell BK263.out 0).trans rfl; have hcz24_1 : w22.cell? ⟨gb263, 1, none⟩ = some (.int .i64 a0_1) := (blk_cell BK263.out 1).trans rfl; have hfz24_0 := blk_frozen BK263.out 0; have hfz24_1 := blk_frozen BK263.out 1))
  go_ret
  exact ⟨by first | rfl | (simp [errW_none, errW_some] <;> rfl) | (simp [*, errW_none, errW_some] <;> rfl), by repeat (first | (with_reducible first | exact HB.out | apply below_alloc | apply pw_below_drewN | apply below_drew1 | refine below_set ?_ GE263.out | refine below_set ?_ GE264.out) | exact HB.out)⟩
end Go.Proofs.YtjfleaekljapeaaDoor.K
namespace Go.Proofs.YtjfleaekljapeaaDoor.K
open Go.RowKit Go.Proofs.YtjfleaekljapeaaDoorW.PrintWords Go.Proofs.YtjfleaekljapeaaDoorW.PrintLast Go.Proofs.YtjfleaekljapeaaDoorW.PrintMore
attribute [local go_sem] max2_int min2_int max_two min_two max_three min_three max_four min_four   -- for this text's walks alone
set_option linter.unusedVariables false
set_option linter.unusedSimpArgs false
set_option linter.unusedSectionVars false
section
open Go.Proofs.YtjfleaekljapeaaDoor.EvLib
theorem sp_in (ev : Nat -> Bool) : ∀ (k n : Nat), n < k -> ev n = true -> ∃ a b : Int, spOne ev k = (a, b) /\ a <= n /\ (n : Int) <= b
 | k + 1, n, hn, he => by
  have hs := spOne_shape ev k
  unfold spOne
  by_cases e : n = k
  ·subst e
   rw [if_pos he]
   rcases hs with h | ⟨a, b, h, h1, h2, h3⟩
   ·rw [h]
    exact ⟨n, n, spw_new _, Int.le_refl _, Int.le_refl _⟩
   ·rw [h]
    exact ⟨a, n, spw_up a b n h2 h3, by omega, Int.le_refl _⟩
  ·obtain ⟨a, b, h, h1, h2⟩ := sp_in ev k n (by omega) he
   split
   ·rcases hs with h3 | ⟨a', b', h3, h4, h5, h6⟩
    ·rw [h] at h3
     injection h3 with h3 h4
     omega
    ·rw [h3]
     rw [h] at h3
     injection h3 with h7 h8
     exact ⟨a', k, spw_up a' b' k h5 h6, by omega, by omega⟩
   ·exact ⟨a, b, h, h1, h2⟩
def meetB (a b : Int × Int) : Bool := decide (a.1 <= a.2) && (decide (b.1 <= b.2) && (decide (a.1 <= b.2) && decide (b.1 <= a.2)))
theorem meet_f (a b : Int × Int) : span_Meet.f a.1 a.2 b.1 b.2 = some (meetB a b) := by
 unfold span_Meet.f meetB
 by_cases h1 : a.1 <= a.2 <;> by_cases h2 : b.1 <= b.2 <;> by_cases h3 : a.1 <= b.2 <;> simp [h1, h2, h3]
def plOf (n : Nat) (x y : Nat) : List Int := ((List.range n).map (fun k : Nat => (k : Int))).set y (x : Int)
theorem plOf_len (n x y : Nat) : (plOf n x y).length = n := by unfold plOf; simp
theorem plOf_rn (n x y r : Nat) (hr : r < n) : rnP (plOf n x y) (n : Int) (r : Int) = if r = y then (x : Int) else (r : Int) := by
 have e : rd (plOf n x y) (r : Int) = if r = y then (x : Int) else (r : Int) := by
  unfold plOf
  by_cases h : r = y
  ·subst h
   rw [if_pos rfl, rd_set_eq _ r _ (by simpa using hr)]
  ·rw [if_neg h, rd_set_ne _ y r _ (fun e => h e.symm)]
   unfold rd
   rw [Int.toNat_natCast, List.getD_eq_getElem?_getD, List.getElem?_map, List.getElem?_range hr]
   rfl
 have hnn : ¬ (if r = y then (x : Int) else (r : Int)) < 0 := by split <;> omega
 unfold rnP
 rw [e, if_neg hnn]
section
variable {nk : Nat} {code : List S44} (hok : CodeOk nk code) (h64 : nk <= 64) {R : List Int} (hW : Words R) (hRl : R.length = code.length + 1) (hL : ∀ r : Nat, Least code (r : Int) (lb R r))
include hok h64 hW hRl hL
theorem ev_span (r n : Nat) (hr : r < nk) (hn : n < code.length) (he : evOf code R r n = true) : ((spRes (lvLists R code.length) code nk []).getD r (0, -1)).1 <= n /\ (n : Int) <= ((spRes (lvLists R code.length) code nk []).getD r (0, -1)).2 := by
 rw [res_at hok h64 hW hRl [] (fun x hx => by cases hx) r hr]
 obtain ⟨k, hk⟩ : ∃ k, code.length = k + 1 := ⟨code.length - 1, by omega⟩
 rw [hk, show decide ((r : Int) ∈ ([] : List Int)) = false from rfl, rf_is, if_neg (by decide), <- hk]
 obtain ⟨a, b, h, h1, h2⟩ := sp_in (evOf code R r) code.length n hn he
 rw [h]
 exact ⟨h1, h2⟩
theorem not_both (x y : Nat) (hx : x < nk) (hy : y < nk) (hm : meetB ((spRes (lvLists R code.length) code nk []).getD x (0, -1)) ((spRes (lvLists R code.length) code nk []).getD y (0, -1)) = false) (n : Nat) (hn : n < code.length) : ¬ (evOf code R x n = true /\ evOf code R y n = true) := by
 rintro ⟨h1, h2⟩
 have e1 := ev_span hok h64 hW hRl hL x n hx hn h1
 have e2 := ev_span hok h64 hW hRl hL y n hy hn h2
 have : meetB ((spRes (lvLists R code.length) code nk []).getD x (0, -1)) ((spRes (lvLists R code.length) code nk []).getD y (0, -1)) = true := by
  unfold meetB
  simp only [Bool.and_eq_true, decide_eq_true_eq]
  omega
 rw [hm] at this
 cases this
omit h64 hW hRl in
theorem ev_live (n : Nat) (hn : n < code.length) (r : Nat) (h : (lvNext code n).any (fun m => lb R r m.toNat) = true ∨ (r : Int) ∈ lvWrites (rd_T44 code n)) : evOf code R r n = true := by
 unfold evOf
 cases hw : wrB (rd_T44 code n) (r : Int) with
 | true => rw [Bool.or_true]
 | false =>
  rcases h with h | h
  ·rw [(hL r).fix n hn]
   unfold stp
   rw [h, hw]
   simp
  ·rw [(hok.wrm n hn r).1 h] at hw
   cases hw
omit h64 hW hRl in
/-- A renaming that keeps what is live at once apart. -/
theorem ren_of (nk' : Nat) (rn : Int -> Int) (hrg : ∀ r : Int, 0 <= r -> r < nk -> 0 <= rn r /\ rn r < nk') (hap : ∀ d r : Nat, d < nk -> r < nk -> d ≠ r -> rn d = rn r -> ∀ n, n < code.length -> ¬ (evOf code R d n = true /\ evOf code R r n = true)) : Ren nk nk' code rn (lb R) where
 fix := fun r n hn h => by rw [(hL r).fix n hn]; exact h
 rng := hrg
 apart := fun n hn d hd r hr hne h e => by
  have h1 := hok.wr n hn d hd
  obtain ⟨q, rfl⟩ := Int.eq_ofNat_of_zero_le h1.1
  exact hap q r (by omega) hr (by omega) e n hn ⟨ev_live hok hL n hn q (.inr hd), ev_live hok hL n hn r h⟩
theorem ren_pl (x y : Nat) (hx : x < nk) (hy : y < nk) (hm : meetB ((spRes (lvLists R code.length) code nk []).getD x (0, -1)) ((spRes (lvLists R code.length) code nk []).getD y (0, -1)) = false) : Ren nk (nk + nk) code (rnP (plOf nk x y) (nk : Int)) (lb R) := by
 refine ren_of hok hL (nk + nk) _ (fun r h0 h1 => ?_) (fun d r hd hr hne e n hn hb => ?_)
 ·obtain ⟨q, rfl⟩ := Int.eq_ofNat_of_zero_le h0
  rw [plOf_rn nk x y q (by omega)]
  split <;> omega
 ·rw [plOf_rn nk x y d hd, plOf_rn nk x y r hr] at e
  have h := not_both hok h64 hW hRl hL x y hx hy hm n hn
  by_cases c1 : d = y
  ·rw [if_pos c1] at e
   by_cases c2 : r = y
   ·omega
   ·rw [if_neg c2] at e
    obtain rfl : x = r := by omega
    subst c1
    exact h ⟨hb.2, hb.1⟩
  ·rw [if_neg c1] at e
   by_cases c2 : r = y
   ·rw [if_pos c2] at e
    obtain rfl : x = d := by omega
    subst c2
    exact h hb
   ·rw [if_neg c2] at e
    omega
end
theorem code_okg {nm : ByteArray} {l1 l2 l3 : List Int} {code : List S44} (hc : code.length <= 80) (hg : goodB nm l1 l2 l3 code = true) (ho : ∀ n : Nat, n < code.length -> (rd_T44 code n).f8.length <= 40) : CodeOk l2.length code := by
 unfold goodB fnB at hg
 simp only [Bool.and_eq_true, decide_eq_true_eq] at hg
 obtain ⟨⟨_, hc0, _, _, _, hcode, hlast⟩, _⟩ := hg
 have hins : ∀ n, n < code.length -> InsP l2.length l3.length code.length (rd_T44 code n) := fun n hn => ins_p (List.all_eq_true.1 hcode n (List.mem_range.2 hn))
 constructor
 ·omega
 ·exact hc
 ·intro n hn m hm
  have hi := hins n hn
  have hto : ∃ q : Nat, (rd_T44 code n).f9 = q /\ q < code.length := ⟨(rd_T44 code n).f9.toNat, by have := hi.tgt; omega, by have := hi.tgt; omega⟩
  have hlt : ¬ ((rd_T44 code n).f0 = 43 ∨ (rd_T44 code n).f0 = 22) -> (rd_T44 code n).f0 ≠ 18 -> n + 1 < code.length := by
   intro h1 h2
   by_cases e : n = code.length - 1
   ·unfold lastB at hlast
    rw [<- e] at hlast
    simp only [Bool.or_eq_true, beq_iff_eq] at hlast
    omega
   ·omega
  unfold lvNext at hm
  split at hm
  ·cases hm
  ·rename_i h1
   split at hm
   ·simp only [List.mem_singleton] at hm; subst hm; exact hto
   ·rename_i h2
    split at hm
    ·simp only [List.mem_cons, List.not_mem_nil, or_false] at hm
     rcases hm with rfl | rfl
     ·exact ⟨n + 1, by omega, hlt h1 h2⟩
     ·exact hto
    ·simp only [List.mem_singleton] at hm; subst hm
     exact ⟨n + 1, by omega, hlt h1 h2⟩
 ·intro n hn r hr
  have hi := hins n hn
  unfold lvWrites at hr
  split at hr
  ·rename_i h1
   simp only [List.mem_singleton] at hr; subst hr
   exact hi.r1 h1
  ·exact hi.outs r hr
 ·intro n hn r hr
  have hi := hins n hn
  unfold lvReads lvPre at hr
  rw [List.mem_append] at hr
  rcases hr with hr | hr
  ·split at hr
   ·rename_i h1
    simp only [List.mem_singleton] at hr; subst hr
    exact hi.r2 (by rw [h1]; rfl)
   ·split at hr
    ·rename_i h1
     simp only [List.mem_cons, List.not_mem_nil, or_false] at hr
     rcases hr with rfl | rfl
     ·exact hi.r2 (by rw [h1, Bool.or_true])
     ·exact hi.r3 h1
    ·cases hr
  ·exact hi.args r hr
 ·exact ho
 ·intro n hn r
  have hi := hins n hn
  unfold lvWrites wrB
  rw [us0_wop]
  cases e : lvWop (rd_T44 code n).f0 with
  | true =>
   rw [hi.o0 e]
   simp
   exact ⟨fun h => h.symm, fun h => h.symm⟩
  | false => simp
 ·intro n hn r
  unfold lvReads lvPre rdB
  rw [us1_ra, us2_rab]
  cases e : lvRa (rd_T44 code n).f0 with
  | true =>
   rw [ra_not_rab _ e]
   simp
   constructor <;> rintro (h | h)
   ·exact .inl h.symm
   ·exact .inr h
   ·exact .inl h.symm
   ·exact .inr h
  | false =>
   cases e2 : lvRab (rd_T44 code n).f0 with
   | true =>
    simp
    constructor <;> rintro (h | h | h)
    ·exact .inl h.symm
    ·exact .inr (.inl h.symm)
    ·exact .inr (.inr h)
    ·exact .inl h.symm
    ·exact .inr (.inl h.symm)
    ·exact .inr (.inr h)
   | false => simp
theorem si_of {w0 : World} {gt gf : Nat} {f : Fr4} (hun : UnSt w0 gt gf f.cs) (hfn : FnC f.A1 f.c1 [] f.A2 f.c2 f.l2 f.A3 f.c3 f.l3 f.A4 f.c4 f.code w0) (hl2 : f.l2.length <= 80) (hl3 : f.l3.length <= 10) (hc : f.code.length <= 80) (hg : goodB f.nm [] f.l2 f.l3 f.code = true) (ho : ∀ n : Nat, n < f.code.length -> (rd_T44 f.code n).f8.length <= 40) (hf4 : ∀ n : Nat, n < f.code.length -> R64 (rd_T44 f.code n).f4) (ha7 : ∀ n : Nat, n < f.code.length -> (rd_T44 f.code n).f7.length <= 17592186043904) : SI w0 gt gf f := by
 have hok := code_okg hc hg ho
 unfold goodB fnB at hg
 simp only [Bool.and_eq_true] at hg
 obtain ⟨⟨_, _, _, _, hsl, hcode, _⟩, hcall⟩ := hg
 have hca : ∀ n : Nat, n < f.code.length -> callB f.nm f.code (rd_T44 f.code n) = true := fun n hn => List.all_eq_true.1 hcall n (List.mem_range.2 hn)
 refine ⟨hun, hfn, hl2, hok, fun n hn => ins_facts (List.all_eq_true.1 hcode n (List.mem_range.2 hn)), hf4, ⟨hl3, fun x hx => ?_⟩, fun n hn h42 => ?_, fun n hn h30 => ?_, ha7⟩
 ·obtain ⟨q, hq, e⟩ := mem_getD hx
  have := List.all_eq_true.1 hsl q (List.mem_range.2 hq)
  rw [e] at this
  simp at this
  omega
 ·have h := hca n hn
  unfold callB at h
  rw [h42] at h
  simp only [Bool.and_eq_true, beq_self_eq_true, Bool.not_true, Bool.false_or] at h
  obtain ⟨_, h1, h2, h3⟩ := h
  refine ⟨h1, List.length_eq_zero_iff.1 (by simpa using h2), fun n' hn' h43 => ?_⟩
  have h4 := List.all_eq_true.1 h3 n' (List.mem_range.2 hn')
  rw [h43] at h4
  simpa using h4
 ·have h := hca n hn
  unfold callB at h
  rw [h30] at h
  simp at h
  exact h
theorem run_sim {w0 : World} {gt gf nk' : Nat} {f : Fr4} (hSI : SI w0 gt gf f) {rn : Int -> Int} {lv : Nat -> Nat -> Bool} (hR : Ren f.l2.length nk' f.code rn lv) : runP nk' f.l3 (f.code.map (renI rn)) = runP f.l2.length f.l3 f.code := by
 have h : callP nk' f.l3 (f.code.map (renI rn)) 401 p1 = callP f.l2.length f.l3 f.code 401 p1 := by
  unfold callP
  split
  ·rfl
  ·have hz : ∀ (k : Nat) (j : Int), rd (List.replicate k (0 : Int)) j = 0 := fun k j => by
    unfold rd
    rw [List.getD_eq_getElem?_getD, List.getElem?_replicate]
    split <;> rfl
   exact sim hR hSI.ok hSI.ins f.l3 (fun n n' hn hn' h42 h43 => (hSI.c42 n hn h42).2.2 n' hn' h43) 401 _ _ _ _ _ 0 hSI.ok.pos (by simp) (by simp) (fun r _ _ => by rw [hz, hz])
 unfold runP
 rw [h]
theorem ins_good {nm : ByteArray} {l1 l2 l3 : List Int} {code : List S44} (hg : goodB nm l1 l2 l3 code = true) : ∀ n : Nat, n < code.length -> InsF l2.length l3.length code.length (rd_T44 code n) := by
 unfold goodB fnB at hg
 simp only [Bool.and_eq_true] at hg
 obtain ⟨⟨_, _, _, _, _, hcode, _⟩, _⟩ := hg
 exact fun n hn => ins_facts (List.all_eq_true.1 hcode n (List.mem_range.2 hn))
def plS (n r : Nat) : List Int := (List.range n).map (fun k : Nat => if k < r then (k : Int) else 0)
theorem plS_zero (n : Nat) : plS n 0 = List.replicate n 0 := by
 unfold plS
 apply List.ext_getElem
 ·simp
 ·intro i h1 h2
  simp
theorem plS_next (n r : Nat) (hr : r < n) : (plS n r).set r (r : Int) = plS n (r + 1) := by
 unfold plS
 apply List.ext_getElem
 ·simp
 ·intro i h1 h2
  simp only [List.getElem_set, List.getElem_map, List.getElem_range]
  by_cases h : r = i
  ·subst h
   rw [if_pos rfl, if_pos (by omega)]
  ·rw [if_neg h]
   by_cases h3 : i < r
   ·rw [if_pos h3, if_pos (by omega)]
   ·rw [if_neg h3, if_neg (by omega)]
theorem plS_end (n x y : Nat) : (plS n n).set y (x : Int) = plOf n x y := by
 unfold plOf
 congr 1
 unfold plS
 apply List.map_congr_left
 intro k hk
 rw [if_pos (List.mem_range.1 hk)]
theorem pl_new (W : World) (n : Nat) (hn : n <= 9223372036854775807) : Rw (Kd.int .i64) 3 W (W.alloc (.cells (madeCells #[.int .i64 0] n) 3)) (.slice (some ⟨W.heap.size, 0, none⟩) n n) (plS n 0) := by
 have h := own_made W W.heap.size 3 .i64 n (Nat.le_refl _) hn
 rw [plS_zero]
 refine Kd.R_of_own (enc := Value.int .i64) (h1 := fun _ => rfl) ?_ (fun _ _ => trivial)
 rw [List.length_replicate]
 exact h
theorem si_ren {W : World} {gt gf : Nat} {g : Fr4} {rn : Int -> Int} {code : List S44} (hun : UnSt W gt gf g.cs) (hfn : FnC g.A1 g.c1 [] g.A2 g.c2 g.l2 g.A3 g.c3 g.l3 g.A4 g.c4 g.code W) (hcode : g.code = code.map (renI rn)) (hl2 : g.l2.length <= 80) (hl3 : g.l3.length <= 10) (hc : code.length <= 80) (hg : goodB g.nm [] g.l2 g.l3 g.code = true) (ho : ∀ n : Nat, n < code.length -> (rd_T44 code n).f8.length <= 40) (hf4 : ∀ n : Nat, n < code.length -> R64 (rd_T44 code n).f4) (ha7 : ∀ n : Nat, n < code.length -> (rd_T44 code n).f7.length <= 17592186043904) : SI W gt gf g := by
 have hlen : g.code.length = code.length := by rw [hcode, List.length_map]
 have hr : ∀ n : Nat, n < code.length -> rd_T44 g.code n = renI rn (rd_T44 code n) := fun n hn => by rw [hcode]; exact ren_get rn hn
 refine si_of hun hfn hl2 hl3 (by omega) hg (fun n hn => ?_) (fun n hn => ?_) (fun n hn => ?_)
 ·rw [hr n (by omega)]
  show ((rd_T44 code n).f8.map rn).length <= 40
  rw [List.length_map]
  exact ho n (by omega)
 ·rw [hr n (by omega)]
  exact hf4 n (by omega)
 ·rw [hr n (by omega)]
  show ((rd_T44 code n).f7.map rn).length <= 17592186043904
  rw [List.length_map]
  exact ha7 n (by omega)
theorem c56 {W : World} {g : Nat} (h : W.heap[g]? = some (.cells #[.int .u8 5, .int .u8 6] 5 (0, 0))) : Kd.C (Kd.int .u8) W (some ⟨g, 0, none⟩) 2 [5, 6] := by
 refine Kd.C_of_reads (enc := Value.int .u8) (d := 0) (h1 := fun _ => rfl) ⟨rfl, by decide, fun _ => ⟨_, rfl, fun j hj => ?_⟩⟩
 match j, hj with
 | 0, _ => exact (blk_cell h 0).trans rfl
 | 1, _ => exact (blk_cell h 1).trans rfl
end
set_option maxHeartbeats 8000000 in
set_option maxRecDepth 20000 in
theorem run_calls (w0 : World) (gt gf gi : Nat) (f : Fr4) (hSI : SI w0 gt gf f) (hA1 : f.nm = mainS) (hgood : goodB f.nm [] f.l2 f.l3 f.code = true) (hi : Kd.C (Kd.int .u8) w0 (some ⟨gi, 0, none⟩) 2 [5, 6]) :
  Calls Tryd.prog 22 #[.agg #[.slice (some ⟨gt, 0, none⟩) 2 2, .slice (some ⟨gf, 0, none⟩) 1 1], .slice (some ⟨gi, 0, none⟩) 2 2, .int .i64 400] w0 (RunPost (runP f.l2.length f.l3 f.code) w0) := by
 have hu95 := Tryd.underlying95
 have hu56 := Tryd.underlying56
 have hu62 := Tryd.underlying62
 have hu25 := Tryd.underlying25
 have hu89 := Tryd.underlying89
 have hu71 := Tryd.underlying71
 have hu22 := Tryd.underlying22
 have hu53 := Tryd.underlying53
 have hu54 := Tryd.underlying54
 have HSI := Aside0.mk hSI
 have HI := Aside0.mk hi
 have HGD := Aside0.mk (show ∀ W, Below w0.heap.size w0 W -> Calls Tryd.prog 19 #[.agg #[.slice (some ⟨gt, 0, none⟩) 2 2, .slice (some ⟨gf, 0, none⟩) 1 1]] W fun e w' => e = .returned (.bool true) /\ Below W.heap.size W w' from fun W hb => by
  have h := good_calls (nm := f.nm) gt gf W (by exact hSI.un.step hb) (hSI.fn.below hb) rfl (by rw [hA1]; unfold sameS; simp)
  rw [hgood] at h
  exact h)
 have HFU := Aside0.mk (show ∀ W, Below w0.heap.size w0 W -> Calls Tryd.prog 38 #[.agg #[.slice (some ⟨gt, 0, none⟩) 2 2, .slice (some ⟨gf, 0, none⟩) 1 1], .string ⟨#[109, 97, 105, 110]⟩] W (fun e w' => e = .returned (.tuple #[.agg #[.string f.nm, .slice f.A1 0 f.c1, .slice f.A2 f.l2.length f.c2, .slice f.A3 f.l3.length f.c3, .slice f.A4 f.code.length f.c4], .bool true]) /\ Below W.heap.size W w') from fun W9 hb => by
  have h := fun_calls (nm := f.nm) (A1 := f.A1) (c1 := f.c1) (l1 := []) (A2 := f.A2) (c2 := f.c2) (l2 := f.l2) (A3 := f.A3) (c3 := f.c3) (l3 := f.l3) (A4 := f.A4) (c4 := f.c4) (code := f.code) mainS gt gf W9 (by exact hSI.un.step hb)
  rw [show sameS f.nm mainS = true by rw [hA1]; unfold sameS; simp] at h
  exact h)
 clear hSI hA1 hgood hi
 go_enter Tryd.func22, Tryd.ntmps22
 go_upto_region 2 with (fail)
 have HRN := Aside0.mk (show Rn w0 gt gf ((((w0.alloc (.cells #[.slice (some ⟨gt, 0, none⟩) 2 2, .slice (some ⟨gf, 0, none⟩) 1 1] 56)).alloc (.cells z62 62)).alloc (.cells #[.int .u64 1] 42)).alloc (.cells (s0V gt gf (w0.heap.size + 1 + 1) gi).cs 95)) (w0.heap.size + 1 + 1 + 1) (s0V gt gf (w0.heap.size + 1 + 1) gi) p0 (s0V gt gf (w0.heap.size + 1 + 1) gi).cs z62 from rn_new HI.out)
 generalize hW4 : World.alloc (World.alloc (World.alloc (World.alloc w0 _) _) _) _ = W4
 rw [show ((((w0.alloc (.cells #[.slice (some ⟨gt, 0, none⟩) 2 2, .slice (some ⟨gf, 0, none⟩) 1 1] 56)).alloc (.cells z62 62)).alloc (.cells #[.int .u64 1] 42)).alloc (.cells (s0V gt gf (w0.heap.size + 1 + 1) gi).cs 95)) = W4 from hW4] at HRN
 clear hW4
 obtain ⟨s, es⟩ : ∃ s : SV, s = s0V gt gf (w0.heap.size + 1 + 1) gi := ⟨_, rfl⟩
 rw [<- es] at HRN
 clear es
 generalize hgk : w0.heap.size + 1 + 1 = gk at HRN ⊢
 generalize hgs : gk + 1 = gs at HRN ⊢
 clear hgk hgs
 have z0 := (blk_cell HRN.out.hu 0).trans (show _ = some (Value.slice (some ⟨gt, 0, none⟩) 2 2) from rfl)
 have z1 := (blk_cell HRN.out.hu 1).trans (show _ = some (Value.slice (some ⟨gf, 0, none⟩) 1 1) from rfl)
 go_upto_region 4 with (first | (go_at_call 19; (with_reducible refine (HGD.out _ HRN.out.st.below).mono ?_); rintro e w5 ⟨rfl, hb5⟩; have n0_ := Aside0.mk (HRN.out.step hb5); clear HRN z0 z1 hb5; have HRN := n0_; clear n0_))
 have z0 := (blk_cell HRN.out.hu 0).trans (show _ = some (Value.slice (some ⟨gt, 0, none⟩) 2 2) from rfl)
 go_wp2
 clear z0
 go_loopg [24] 2 (fun gg v24 w' => ∃ (j : Nat) (s : SV) (F : Int) (T : List Int), j <= 2 /\ 2 - j <= gg /\ v24 = .int .i64 (j : Int) /\ Aside0 ((j = 0 /\ F = 4096 /\ T = []) ∨ (j = 1 /\ F = 4112 /\ T = [4096]) ∨ (j = 2 /\ F = 4120 /\ T = [4096, 4112])) /\ Aside0 (Rn w0 gt gf w' gs s { p0 with tops := T, free := F } s.cs z62))
 case atStart => exact ⟨0, s, 4096, [], by decide, Nat.le_refl _, rfl, ⟨.inl ⟨rfl, rfl, rfl⟩⟩, HRN⟩
 case round =>
  clear HRN
  obtain ⟨j, s, F, T, hj, hgj, rfl, HC, HX⟩ := hrel
  rcases HC.out with hc | hc | hc
  ·clear HC
   obtain ⟨rfl, rfl, rfl⟩ := hc
   have HUP := Aside0.mk (fun W => up_calls 4096 W (by decide) (by decide))
   rw [show upI 4096 = 4096 from by decide] at HUP
   have x8 := (blk_cell HX.out.hs 8).trans (show _ = some (Value.int .i64 s.free) from rfl)
   rw [show s.free = 4096 from HX.out.st.num.free] at x8
   have q8 := blk_frozen HX.out.hs 8
   go_upto_region 8 with (first | (go_at_call 39; (with_reducible refine (HUP.out _).mono ?_); rintro e w' ⟨rfl, rfl⟩))
   have n0_ := Aside0.mk (HX.out.free 4096)
   clear HX x8 q8
   have HX := n0_
   clear n0_
   obtain ⟨s2, es2⟩ : ∃ s2 : SV, s2 = s.setFree 4096 := ⟨_, rfl⟩
   rw [<- es2] at HX
   clear es2
   generalize World.setCell _ ⟨gs, 8, none⟩ (.int .i64 4096) = w6 at HX ⊢
   have x8 := (blk_cell HX.out.hs 8).trans (show _ = some (Value.int .i64 s2.free) from rfl)
   rw [show s2.free = 4096 from HX.out.st.num.free] at x8
   have x2 := (blk_cell HX.out.hs 2).trans (show _ = some (Value.slice s2.a2 s2.n2 s2.c2) from rfl)
   have hn2 : s2.n2 = 0 := HX.out.st.tops.reads.1
   rw [hn2] at x2
   have htv : Rw (Kd.int .i64) 3 w0 w6 (.slice s2.a2 0 s2.c2) [] := by have h := HX.out.st.tops; rw [show s2.tv = .slice s2.a2 0 s2.c2 by unfold SV.tv; rw [hn2]] at h; exact h
   have HTV := Aside0.mk htv
   have HTE := Aside0.mk (show s2.tv = .slice s2.a2 0 s2.c2 by unfold SV.tv; rw [hn2])
   have HN2 := Aside0.mk hn2
   clear htv hn2
   go_upto_region 9 with (first | ((with_reducible refine gate_builtin (b := .append) (xs := #[.tmp 32, .tmp 35]) rfl ?_); at_builtin; refine Kd.R_append (Kd.int .i64) (w0 := w0) w0.heap.size rfl (.tmp 32) (.tmp 35) 22 3 (.int .i64 0) 8 rfl Tryd.underlying22 info3 rfl (by decide) (by omega) (.slice s2.a2 0 s2.c2) [] 4096 [.int .i64 4096] (fun _ => True) (fun _ => False) rfl rfl ?aP (fun _ hk => hk.elim) ?aF ?aO ?aB ?aS ?aL ?_; (case aP => exact rfl); (case aB => exact HX.out.st.below); (case aF => exact (fun _ _ => trivial)); (case aO => exact HTV.out); (case aS => exact (below_size HX.out.st.below)); (case aL => decide); intro v1 w9 ho hb hg hat; obtain ⟨A1, c1, e1⟩ := Kd.R_slice ho; subst e1; have HX9 := Aside0.mk (HX.out.tops (A := A1) (n := 1) (c := c1) (l := [4096]) (by rw [HTE.out]; exact ⟨ho, hg, hat⟩)); clear ho hb hg hat HX x8 x2; have q2 := blk_frozen HX9.out.hs 2; have y2 := (blk_cell HX9.out.hs 2).trans (show _ = some (Value.slice s2.a2 s2.n2 s2.c2) from rfl)))
   have n0_ := Aside0.mk (show Rn w0 gt gf (w9.setCell ⟨gs, 2, none⟩ (.slice A1 1 c1)) gs (s2.setT A1 1 c1) _ (s2.setT A1 1 c1).cs z62 from HX9.out.put 2 (.slice A1 1 c1))
   clear HX9 q2 y2
   have HX := n0_
   clear n0_
   obtain ⟨s3, es3⟩ : ∃ s3 : SV, s3 = s2.setT A1 1 c1 := ⟨_, rfl⟩
   rw [<- es3] at HX
   clear es3
   generalize World.setCell _ ⟨gs, 2, none⟩ (.slice A1 1 c1) = w10 at HX ⊢
   have HXD := Aside0.mk (HX.out.step (below_drew (Below.refl _ _)))
   have x8 := (blk_cell HXD.out.hs 8).trans (show _ = some (Value.int .i64 s3.free) from rfl)
   rw [show s3.free = 4096 from HXD.out.st.num.free] at x8
   have q8 := blk_frozen HXD.out.hs 8
   have z0 := (blk_cell HXD.out.hu 0).trans (show _ = some (Value.slice (some ⟨gt, 0, none⟩) 2 2) from rfl)
   have y1 := (blk_cell (blk_below HSI.out.un.ht HXD.out.st.below) 1).trans (show _ = some (Value.int .i64 16) from rfl)
   go_upto_region 10 with (fail)
   first | go_region_with (fail) | fail
   all_goals
    clear x8 q8 z0 y1
    generalize hw11 : World.drew _ = w11
    have n0_ := Aside0.mk (show Rn w0 gt gf w11 gs (s3.setFree 4112) _ (s3.setFree 4112).cs z62 by rw [<- hw11]; exact (HX.out.free 4112).step (below_drew (Below.refl _ _)))
    clear HX HXD hw11
    have HX2 := n0_
    clear n0_
    obtain ⟨s4, es4⟩ : ∃ s4 : SV, s4 = s3.setFree 4112 := ⟨_, rfl⟩
    rw [<- es4] at HX2
    clear es4
    have x8 := (blk_cell HX2.out.hs 8).trans (show _ = some (Value.int .i64 s4.free) from rfl)
    rw [show s4.free = 4112 from HX2.out.st.num.free] at x8
    go_wp2
    go_roundg (2 - 1)
    case measure => omega
    case rel => exact ⟨1, s4, 4112, [4096], by decide, Nat.le_refl _, by go_num, ⟨.inr (.inl ⟨rfl, rfl, rfl⟩)⟩, HX2⟩
  ·clear HC
   obtain ⟨rfl, rfl, rfl⟩ := hc
   have HUP := Aside0.mk (fun W => up_calls 4112 W (by decide) (by decide))
   rw [show upI 4112 = 4112 from by decide] at HUP
   have x8 := (blk_cell HX.out.hs 8).trans (show _ = some (Value.int .i64 s.free) from rfl)
   rw [show s.free = 4112 from HX.out.st.num.free] at x8
   have q8 := blk_frozen HX.out.hs 8
   go_upto_region 8 with (first | (go_at_call 39; (with_reducible refine (HUP.out _).mono ?_); rintro e w' ⟨rfl, rfl⟩))
   have n0_ := Aside0.mk (HX.out.free 4112)
   clear HX x8 q8
   have HX := n0_
   clear n0_
   obtain ⟨s2, es2⟩ : ∃ s2 : SV, s2 = s.setFree 4112 := ⟨_, rfl⟩
   rw [<- es2] at HX
   clear es2
   generalize World.setCell _ ⟨gs, 8, none⟩ (.int .i64 4112) = w6 at HX ⊢
   have x8 := (blk_cell HX.out.hs 8).trans (show _ = some (Value.int .i64 s2.free) from rfl)
   rw [show s2.free = 4112 from HX.out.st.num.free] at x8
   have x2 := (blk_cell HX.out.hs 2).trans (show _ = some (Value.slice s2.a2 s2.n2 s2.c2) from rfl)
   have hn2 : s2.n2 = 1 := HX.out.st.tops.reads.1
   rw [hn2] at x2
   have htv : Rw (Kd.int .i64) 3 w0 w6 (.slice s2.a2 1 s2.c2) [4096] := by have h := HX.out.st.tops; rw [show s2.tv = .slice s2.a2 1 s2.c2 by unfold SV.tv; rw [hn2]] at h; exact h
   have HTV := Aside0.mk htv
   have HTE := Aside0.mk (show s2.tv = .slice s2.a2 1 s2.c2 by unfold SV.tv; rw [hn2])
   have HN2 := Aside0.mk hn2
   clear htv hn2
   go_upto_region 9 with (first | ((with_reducible refine gate_builtin (b := .append) (xs := #[.tmp 32, .tmp 35]) rfl ?_); at_builtin; refine Kd.R_append (Kd.int .i64) (w0 := w0) w0.heap.size rfl (.tmp 32) (.tmp 35) 22 3 (.int .i64 0) 8 rfl Tryd.underlying22 info3 rfl (by decide) (by omega) (.slice s2.a2 1 s2.c2) [4096] 4112 [.int .i64 4112] (fun _ => True) (fun _ => False) rfl rfl ?aP (fun _ hk => hk.elim) ?aF ?aO ?aB ?aS ?aL ?_; (case aP => exact rfl); (case aB => exact HX.out.st.below); (case aF => exact (fun _ _ => trivial)); (case aO => exact HTV.out); (case aS => exact (below_size HX.out.st.below)); (case aL => decide); intro v1 w9 ho hb hg hat; obtain ⟨A1, c1, e1⟩ := Kd.R_slice ho; subst e1; have HX9 := Aside0.mk (HX.out.tops (A := A1) (n := 2) (c := c1) (l := [4096, 4112]) (by rw [HTE.out]; exact ⟨ho, hg, hat⟩)); clear ho hb hg hat HX x8 x2; have q2 := blk_frozen HX9.out.hs 2; have y2 := (blk_cell HX9.out.hs 2).trans (show _ = some (Value.slice s2.a2 s2.n2 s2.c2) from rfl)))
   have n0_ := Aside0.mk (show Rn w0 gt gf (w9.setCell ⟨gs, 2, none⟩ (.slice A1 2 c1)) gs (s2.setT A1 2 c1) _ (s2.setT A1 2 c1).cs z62 from HX9.out.put 2 (.slice A1 2 c1))
   clear HX9 q2 y2
   have HX := n0_
   clear n0_
   obtain ⟨s3, es3⟩ : ∃ s3 : SV, s3 = s2.setT A1 2 c1 := ⟨_, rfl⟩
   rw [<- es3] at HX
   clear es3
   generalize World.setCell _ ⟨gs, 2, none⟩ (.slice A1 2 c1) = w10 at HX ⊢
   have HXD := Aside0.mk (HX.out.step (below_drew (Below.refl _ _)))
   have x8 := (blk_cell HXD.out.hs 8).trans (show _ = some (Value.int .i64 s3.free) from rfl)
   rw [show s3.free = 4112 from HXD.out.st.num.free] at x8
   have q8 := blk_frozen HXD.out.hs 8
   have z0 := (blk_cell HXD.out.hu 0).trans (show _ = some (Value.slice (some ⟨gt, 0, none⟩) 2 2) from rfl)
   have y1 := (blk_cell (blk_below HSI.out.un.ht HXD.out.st.below) 3).trans (show _ = some (Value.int .i64 8) from rfl)
   go_upto_region 10 with (fail)
   first | go_region_with (fail) | fail
   all_goals
    clear x8 q8 z0 y1
    generalize hw11 : World.drew _ = w11
    have n0_ := Aside0.mk (show Rn w0 gt gf w11 gs (s3.setFree 4120) _ (s3.setFree 4120).cs z62 by rw [<- hw11]; exact (HX.out.free 4120).step (below_drew (Below.refl _ _)))
    clear HX HXD hw11
    have HX2 := n0_
    clear n0_
    obtain ⟨s4, es4⟩ : ∃ s4 : SV, s4 = s3.setFree 4120 := ⟨_, rfl⟩
    rw [<- es4] at HX2
    clear es4
    have x8 := (blk_cell HX2.out.hs 8).trans (show _ = some (Value.int .i64 s4.free) from rfl)
    rw [show s4.free = 4120 from HX2.out.st.num.free] at x8
    go_wp2
    go_roundg (2 - 2)
    case measure => omega
    case rel => exact ⟨2, s4, 4120, [4096, 4112], by decide, Nat.le_refl _, by go_num, ⟨.inr (.inr ⟨rfl, rfl, rfl⟩)⟩, HX2⟩
  ·clear HC
   obtain ⟨rfl, rfl, rfl⟩ := hc
   have x8 := (blk_cell HX.out.hs 8).trans (show _ = some (Value.int .i64 s.free) from rfl)
   rw [show s.free = 4120 from HX.out.st.num.free] at x8
   have q8 := blk_frozen HX.out.hs 8
   have HUP := Aside0.mk (fun W => up_calls 4120 W (by decide) (by decide))
   rw [show upI 4120 = 4128 from by decide] at HUP
   go_upto_region 14 with (first | (go_at_call 39; (with_reducible refine (HUP.out _).mono ?_); rintro e w' ⟨rfl, rfl⟩))
   have n0_ := Aside0.mk (show Rn w0 gt gf (World.setCell _ ⟨gs, 8, none⟩ (.int .i64 4128)) gs (s.setFree 4128) p1 (s.setFree 4128).cs z62 from HX.out.free 4128)
   clear HX x8 q8 HUP
   have HX := n0_
   clear n0_
   obtain ⟨s2, es2⟩ : ∃ s2 : SV, s2 = s.setFree 4128 := ⟨_, rfl⟩
   rw [<- es2] at HX
   clear es2
   generalize World.setCell _ ⟨gs, 8, none⟩ (.int .i64 4128) = w6 at HX ⊢
   have z0 := (blk_cell HX.out.hu 0).trans (show _ = some (Value.slice (some ⟨gt, 0, none⟩) 2 2) from rfl)
   have z1 := (blk_cell HX.out.hu 1).trans (show _ = some (Value.slice (some ⟨gf, 0, none⟩) 1 1) from rfl)
   go_upto_region 15 with (first | (go_at_call 38; (with_reducible refine (HFU.out _ HX.out.st.below).mono ?_); rintro e w1 ⟨rfl, hb1⟩; have HB1 := Aside0.mk hb1; clear hb1 z0 z1))
   have HBB := Aside0.mk (below_step HB1.out ((Below.refl _ _).alloc (Nat.le_refl _) (.cells f.cs 25)))
   have HH := Aside0.mk (show (w1.alloc (.cells f.cs 25)).heap[w1.heap.size]? = some (.cells f.cs 25 (0, 0)) from heap_alloc_new _ _)
   have n0_ := Aside0.mk (HX.out.step HBB.out)
   clear HX HBB HB1
   have HX := n0_
   clear n0_
   rw [show (w1.alloc (.cells f.cs 25)) = w1.alloc (.cells #[.string f.nm, .slice f.A1 0 f.c1, .slice f.A2 f.l2.length f.c2, .slice f.A3 f.l3.length f.c3, .slice f.A4 f.code.length f.c4] 25) from rfl] at HX HH
   generalize hgh : w1.heap.size = gh at HH ⊢
   generalize w1.alloc (.cells #[.string f.nm, .slice f.A1 0 f.c1, .slice f.A2 f.l2.length f.c2, .slice f.A3 f.l3.length f.c3, .slice f.A4 f.code.length f.c4] 25) = W5 at HX HH ⊢
   clear hgh
   have HCC := Aside0.mk (call_ok HSI.out 401 W5 s2 p1 0 none 0 HX.out.st p1_pi rfl (by decide) (by decide) (by decide) (by decide))
   have HRUN := Aside0.mk (show runP f.l2.length f.l3 f.code = if (callP f.l2.length f.l3 f.code 401 p1).1.stop < 0 then { (callP f.l2.length f.l3 f.code 401 p1).1 with stop := 1, code := if (callP f.l2.length f.l3 f.code 401 p1).2 = [] then (callP f.l2.length f.l3 f.code 401 p1).1.code else by8 (rd (callP f.l2.length f.l3 f.code 401 p1).2 0) } else (callP f.l2.length f.l3 f.code 401 p1).1 from rfl)
   generalize callP f.l2.length f.l3 f.code 401 p1 = R at HCC HRUN
   go_upto_region 16 with (first | (go_at_call 40; (with_reducible refine HCC.out.mono ?_); rintro e w7 ⟨s7, A9, c9, rfl, hp7, hr7⟩; have HX7 := Aside0.mk (HX.out.pst hp7); have HR7 := Aside0.mk hr7; clear hp7 hr7) | ((with_reducible refine gate_dst (N := 63) rfl ?_); refine load95 _ rfl rfl _ rfl _ HX.out.hs (Cs.of s2) ?_) | ((with_reducible refine gate_dst (N := 64) rfl ?_); refine wpList_load_row rfl 25 _ rfl gh rfl 25 f.cs (0, 0) _ HH.out hu25 rfl (by kernel_rfl) ?_) | ((with_reducible refine gate_store (t := 95) (p := 7) rfl ?_); refine storeS _ _ rfl rfl rfl _ rfl _ rfl _ HX7.out.hs rfl (Cs.of s7) ?_; intro W8 h8 hk8))
   have HX8 := Aside0.mk (HX7.out.copy h8 hk8)
   have HR8 := Aside0.mk ((show Rw (Kd.int .u64) 42 W5 w7 (.slice A9 R.2.length c9) R.2 from HR7.out).keep rfl hk8 (fun k e he => (show Rw (Kd.int .u64) 42 W5 w7 (.slice A9 R.2.length c9) R.2 from HR7.out).not_at HX7.out.hs (by decide) (he ▸ e)))
   clear HX7 HR7 HCC h8 hk8 HX HH
   have x15 := (blk_cell HX8.out.hs 15).trans (show _ = some (Value.int .i64 s7.stop) from rfl)
   by_cases hz : R.1.stop < 0
   ·have hz7 : s7.stop < 0 := by rw [HX8.out.st.num.stop]; exact hz
    have q15 := blk_frozen HX8.out.hs 15
    go_upto_region 18 with (fail)
    clear x15 q15 hz7
    have n0_ := Aside0.mk (show Rn w0 gt gf (World.setCell _ ⟨gs, 15, none⟩ (.int .i64 1)) gs ({ s7 with stop := 1 } : SV) { R.1 with stop := 1 } ({ s7 with stop := 1 } : SV).cs z62 from (HX8.out.put 15 (.int .i64 1)).nums ⟨HX8.out.st.num.1, HX8.out.st.num.2, HX8.out.st.num.3, HX8.out.st.num.4, HX8.out.st.num.5, HX8.out.st.num.6, HX8.out.st.num.7, HX8.out.st.num.8, rfl, HX8.out.st.num.10⟩ ⟨rfl, rfl, rfl, rfl, rfl, rfl, rfl, rfl, rfl⟩ ⟨rfl, rfl, rfl, rfl, rfl, rfl, rfl⟩)
    have n1_ := Aside0.mk (HR8.out.keep rfl (kp_set W8 gs 15 (.int .i64 1)) (fun k e he => HR8.out.not_at HX8.out.hs (by decide) (he ▸ e)))
    clear HX8 HR8
    have HX8 := n0_
    have HR8 := n1_
    clear n0_ n1_
    obtain ⟨s8, es8⟩ : ∃ s8 : SV, s8 = ({ s7 with stop := 1 } : SV) := ⟨_, rfl⟩
    rw [<- es8] at HX8
    clear es8
    generalize World.setCell W8 ⟨gs, 15, none⟩ (.int .i64 1) = w10 at HX8 HR8 ⊢
    by_cases hl : 0 < (R.2.length : Int)
    ·obtain ⟨g9, cap9, e9, _, _, _⟩ := Kd.R_form HR8.out (show 0 < R.2.length by omega)
     injection e9 with e9 e10 e11
     subst e9
     subst e11
     have HRP := Aside0.mk (show runP f.l2.length f.l3 f.code = { R.1 with stop := 1, code := by8 (rd R.2 0) } by rw [HRUN.out, if_pos hz, if_neg (fun h => by rw [h] at hl; simp at hl)])
     obtain ⟨hx, _⟩ := Kd.R_celln 0 HR8.out (0 : Int) (by decide) hl
     rw [show rdOf (0 : Int) R.2 0 = rd R.2 0 from rfl, show ((0 : Int)).toNat = 0 from rfl] at hx
     generalize rd R.2 0 = x at hx HRP
     have HZ := Aside0.mk hz
     clear hz e10
     have q16 := blk_frozen HX8.out.hs 16
     have x16 := (blk_cell HX8.out.hs 16).trans (show _ = some (Value.int .u8 s8.code) from rfl)
     go_upto_region 20 with (fail)
     clear hx q16 x16
     have n0_ := Aside0.mk (show Rn w0 gt gf (World.setCell _ ⟨gs, 16, none⟩ (.int .u8 (by8 x))) gs ({ s8 with code := by8 x } : SV) { R.1 with stop := 1, code := by8 x } ({ s8 with code := by8 x } : SV).cs z62 from (HX8.out.put 16 (.int .u8 (by8 x))).nums ⟨HX8.out.st.num.1, HX8.out.st.num.2, HX8.out.st.num.3, HX8.out.st.num.4, HX8.out.st.num.5, HX8.out.st.num.6, HX8.out.st.num.7, HX8.out.st.num.8, HX8.out.st.num.9, rfl⟩ ⟨rfl, rfl, rfl, rfl, rfl, rfl, rfl, rfl, rfl⟩ ⟨rfl, rfl, rfl, rfl, rfl, rfl, rfl⟩)
     clear HX8 HR8
     have HX8 := n0_
     clear n0_
     obtain ⟨s9, es9⟩ : ∃ s9 : SV, s9 = ({ s8 with code := by8 x } : SV) := ⟨_, rfl⟩
     rw [<- es9] at HX8
     clear es9
     generalize hw12 : World.setCell w10 ⟨gs, 16, none⟩ _ = w12
     rw [show World.setCell w10 ⟨gs, 16, none⟩ (.int .u8 (by8 x)) = w12 from hw12] at HX8
     clear hw12
     have x15 := (blk_cell HX8.out.hs 15).trans (show _ = some (Value.int .i64 s9.stop) from rfl)
     have x16 := (blk_cell HX8.out.hs 16).trans (show _ = some (Value.int .u8 s9.code) from rfl)
     have x11 := (blk_cell HX8.out.hs 11).trans (show _ = some (Value.slice s9.a8 s9.n8 s9.c8) from rfl)
     have x13 := (blk_cell HX8.out.hs 13).trans (show _ = some (Value.int .i64 s9.steps) from rfl)
     have x14 := (blk_cell HX8.out.hs 14).trans (show _ = some (Value.int .i64 s9.checks) from rfl)
     go_wp2_with (first | ((with_reducible refine gate_store (t := 62) (p := 6) rfl ?_); refine storeK 62 6 info62 _ _ rfl rfl rfl (w0.heap.size + 1) rfl #[.int .i64 s9.stop, .int .u8 s9.code, .int .i64 0, .slice s9.a8 s9.n8 s9.c8, .int .i64 s9.steps, .int .i64 s9.checks] rfl _ HX8.out.hz rfl rfl (by simp [Value.oneCell']) ?_; intro W9 h9 hk9))
     refine bodyPost_ret (results_cell_row rfl _ _ (w0.heap.size + 1) 62 _ (0, 0) _ rfl h9 hu62 rfl (by kernel_rfl)) rfl ?_
     rw [HRP.out]
     exact run_end HX8.out hk9
    ·have HRP := Aside0.mk (show runP f.l2.length f.l3 f.code = { R.1 with stop := 1 } by
      have e : R.2 = [] := List.length_eq_zero_iff.1 (by omega)
      rw [HRUN.out, if_pos hz, if_pos e])
     have HZ := Aside0.mk hz
     clear hz
     have x15 := (blk_cell HX8.out.hs 15).trans (show _ = some (Value.int .i64 s8.stop) from rfl)
     have x16 := (blk_cell HX8.out.hs 16).trans (show _ = some (Value.int .u8 s8.code) from rfl)
     have x11 := (blk_cell HX8.out.hs 11).trans (show _ = some (Value.slice s8.a8 s8.n8 s8.c8) from rfl)
     have x13 := (blk_cell HX8.out.hs 13).trans (show _ = some (Value.int .i64 s8.steps) from rfl)
     have x14 := (blk_cell HX8.out.hs 14).trans (show _ = some (Value.int .i64 s8.checks) from rfl)
     go_wp2_with (first | ((with_reducible refine gate_store (t := 62) (p := 6) rfl ?_); refine storeK 62 6 info62 _ _ rfl rfl rfl (w0.heap.size + 1) rfl #[.int .i64 s8.stop, .int .u8 s8.code, .int .i64 0, .slice s8.a8 s8.n8 s8.c8, .int .i64 s8.steps, .int .i64 s8.checks] rfl _ HX8.out.hz rfl rfl (by simp [Value.oneCell']) ?_; intro W9 h9 hk9))
     refine bodyPost_ret (results_cell_row rfl _ _ (w0.heap.size + 1) 62 _ (0, 0) _ rfl h9 hu62 rfl (by kernel_rfl)) rfl ?_
     rw [HRP.out]
     exact run_end HX8.out hk9
   ·have hz7 : ¬ s7.stop < 0 := by rw [HX8.out.st.num.stop]; exact hz
    have HRP := Aside0.mk (show runP f.l2.length f.l3 f.code = R.1 by rw [HRUN.out, if_neg hz])
    clear hz x15
    have x15 := (blk_cell HX8.out.hs 15).trans (show _ = some (Value.int .i64 s7.stop) from rfl)
    have x16 := (blk_cell HX8.out.hs 16).trans (show _ = some (Value.int .u8 s7.code) from rfl)
    have x11 := (blk_cell HX8.out.hs 11).trans (show _ = some (Value.slice s7.a8 s7.n8 s7.c8) from rfl)
    have x13 := (blk_cell HX8.out.hs 13).trans (show _ = some (Value.int .i64 s7.steps) from rfl)
    have x14 := (blk_cell HX8.out.hs 14).trans (show _ = some (Value.int .i64 s7.checks) from rfl)
    go_wp2_with (first | ((with_reducible refine gate_store (t := 62) (p := 6) rfl ?_); refine storeK 62 6 info62 _ _ rfl rfl rfl (w0.heap.size + 1) rfl #[.int .i64 s7.stop, .int .u8 s7.code, .int .i64 0, .slice s7.a8 s7.n8 s7.c8, .int .i64 s7.steps, .int .i64 s7.checks] rfl _ HX8.out.hz rfl rfl (by simp [Value.oneCell']) ?_; intro W9 h9 hk9))
    refine bodyPost_ret (results_cell_row rfl _ _ (w0.heap.size + 1) 62 _ (0, 0) _ rfl h9 hu62 rfl (by kernel_rfl)) rfl ?_
    rw [HRP.out]
    exact run_end HX8.out hk9
end Go.Proofs.YtjfleaekljapeaaDoor.K
