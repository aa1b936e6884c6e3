import Derived.Test.YtjfleaekljapeaaDoorSpanAw
import Derived.Test.YtjfleaekljapeaaDoorK42
import Derived.Test.YtjfleaekljapeaaDoorK43
import Derived.Deep.DeepMust
import Derived.Test.YtjfleaekljapeaaDoorProg
import Derived.Below
import Derived.Deep.Draws
import Derived.Deep.AppendLies
import Derived.Maps.AppendAt
import Derived.OwnWalk
import Derived.Laws.BytesArg
import Derived.Laws.MakeOwn
import Derived.Laws.OwnMore
import Derived.Deep.OwnRows
import Derived.Tactics
import Derived.Lib.ConvBytes
import Derived.Laws.Slices
import Derived.WalkKit
import Derived.KernelRfl
import Derived.RowKit3
import Derived.Deep.LoopGhost
import Derived.Deep.QuietTactic
import Derived.BigQuiet
import Derived.WideLaws
import Derived.Deep.DeepCutAuto
import Derived.Deep.CutBlock
import Derived.Deep.RegionHeld3
import Derived.Laws.Rows
import Derived.Lib.AppendStr
import Derived.ArgAppend
import Derived.Laws.IdiomCopy
import Derived.OrdersHeld
import Derived.Laws.BitsLemmas
import Derived.RowKit
import Derived.RegionTactic
import Derived.Deep.RegionWith
import Derived.Lib.Hide
import Derived.Test.YtjfleaekljapeaaDoorWWords
import Derived.Test.YtjfleaekljapeaaDoorWLast
import Derived.Test.YtjfleaekljapeaaDoorWTab
import Derived.Test.YtjfleaekljapeaaDoorWFour
import Derived.Test.YtjfleaekljapeaaDoorWQPut
import Derived.Test.YtjfleaekljapeaaDoorWApart
import Derived.Test.YtjfleaekljapeaaDoorWArr
import Derived.Test.YtjfleaekljapeaaDoorWZeros
import Derived.Test.YtjfleaekljapeaaDoorWFoot
import Derived.Test.YtjfleaekljapeaaDoorWKept
import Derived.Test.YtjfleaekljapeaaDoorWShare
import Derived.Test.YtjfleaekljapeaaDoorWN
import Derived.Test.YtjfleaekljapeaaDoorWEqStruct
import Derived.Test.YtjfleaekljapeaaDoorWRepsOne
import Derived.Test.YtjfleaekljapeaaDoorWGuard
import Derived.Test.YtjfleaekljapeaaDoorWNEv
import Derived.Test.YtjfleaekljapeaaDoorWMore
import Derived.Deep.RegionLaw
import Derived.Laws.CopyOwn
import Derived.Shelf.Spec.TrailingZeros
namespace Go.Proofs.YtjfleaekljapeaaDoor.K
open Go.RowKit Go.Proofs.YtjfleaekljapeaaDoorW.PrintWords Go.Proofs.YtjfleaekljapeaaDoorW.PrintLast Go.Proofs.YtjfleaekljapeaaDoorW.PrintMore
attribute [local go_sem] max2_int min2_int max_two min_two max_three min_three max_four min_four   -- for this text's walks alone
set_option linter.unusedVariables false
set_option linter.unusedSimpArgs false
set_option linter.unusedSectionVars false
/-! ### hauberklaw15_SpanMeets: function 6, typed by hand -/
theorem refMeet_none (a1 b0 b1 : Int) (h1 : a1 ≤ 127) : ∀ (k : Nat) (n a0 : Int), -128 ≤ n → (a1 + 1 - n).toNat < k → (∀ m, n ≤ m → m ≤ a1 → ¬ (b0 ≤ m ∧ m ≤ b1)) → hauberkref15_Meet.l0 k n a0 a1 b0 b1 = some false
  | 0, n, a0, hn, hk, hm => by omega
  | k + 1, n, a0, hn, hk, hm => by
    unfold hauberkref15_Meet.l0
    by_cases c : n ≤ a1
    · have hnm := hm n (Int.le_refl _) c
      have e : wrap64 (n + 1) = n + 1 := by unfold wrap64; omega
      have ih := refMeet_none a1 b0 b1 h1 k (n + 1) a0 (by omega) (by omega) (fun m h h' => hm m (by omega) h')
      rw [if_pos c, e, ih]
      by_cases c2 : n ≥ b0
      · rw [if_pos c2, if_neg (by omega)]
      · rw [if_neg c2]
    · rw [if_neg c]
theorem refMeet_some (a1 b0 b1 : Int) (h1 : a1 ≤ 127) : ∀ (k : Nat) (n a0 : Int), -128 ≤ n → (a1 + 1 - n).toNat < k → (∃ m, n ≤ m ∧ m ≤ a1 ∧ b0 ≤ m ∧ m ≤ b1) → hauberkref15_Meet.l0 k n a0 a1 b0 b1 = some true
  | 0, n, a0, hn, hk, hm => by omega
  | k + 1, n, a0, hn, hk, hm => by
    unfold hauberkref15_Meet.l0
    obtain ⟨m, m1, m2, m3, m4⟩ := hm
    rw [if_pos (by omega : n ≤ a1)]
    have e : wrap64 (n + 1) = n + 1 := by unfold wrap64; omega
    by_cases c : n = m
    · subst c
      rw [if_pos m3, if_pos m4]
    · have ih := refMeet_some a1 b0 b1 h1 k (n + 1) a0 (by omega) (by omega) ⟨m, by omega, m2, m3, m4⟩
      rw [e, ih]
      by_cases c2 : n ≥ b0
      · rw [if_pos c2]
        by_cases c3 : n ≤ b1
        · rw [if_pos c3]
        · rw [if_neg c3]
      · rw [if_neg c2]
def meetB (a0 a1 b0 b1 : Int) : Bool := decide (a0 ≤ a1) && decide (b0 ≤ b1) && decide (a0 ≤ b1) && decide (b0 ≤ a1)
theorem refMeet_f (a0 a1 b0 b1 : Int) (h0 : -128 ≤ a0) (h1 : a1 ≤ 127) : hauberkref15_Meet.f 300 a0 a1 b0 b1 = some (meetB a0 a1 b0 b1) := by
  unfold hauberkref15_Meet.f
  by_cases c : ∃ m, a0 ≤ m ∧ m ≤ a1 ∧ b0 ≤ m ∧ m ≤ b1
  · rw [refMeet_some a1 b0 b1 h1 300 a0 a0 h0 (by omega) c]
    obtain ⟨m, m1, m2, m3, m4⟩ := c
    congr 1
    symm
    simp only [meetB, Bool.and_eq_true, decide_eq_true_eq]
    omega
  · rw [refMeet_none a1 b0 b1 h1 300 a0 a0 h0 (by omega) (fun m h h' h'' => c ⟨m, h, h', h''.1, h''.2⟩)]
    congr 1
    symm
    rw [Bool.eq_false_iff]
    intro hh
    simp only [meetB, Bool.and_eq_true, decide_eq_true_eq] at hh
    refine c ⟨max a0 b0, ?_, ?_, ?_, ?_⟩ <;> omega
theorem spanMeet_f (a0 a1 b0 b1 : Int) : span_Meet.f a0 a1 b0 b1 = some (meetB a0 a1 b0 b1) := by
  unfold span_Meet.f meetB
  by_cases c1 : a0 ≤ a1 <;> by_cases c2 : b0 ≤ b1 <;> by_cases c3 : a0 ≤ b1 <;> simp [c1, c2, c3]
theorem meetB_symm (a0 a1 b0 b1 : Int) : meetB b0 b1 a0 a1 = meetB a0 a1 b0 b1 := by
  rw [Bool.eq_iff_iff]; simp only [meetB, Bool.and_eq_true, decide_eq_true_eq]; omega
theorem meetB_self (a0 a1 : Int) : meetB a0 a1 a0 a1 = decide (a0 ≤ a1) := by
  rw [Bool.eq_iff_iff]; simp only [meetB, Bool.and_eq_true, decide_eq_true_eq]; omega
set_option maxHeartbeats 4000000 in
set_option maxRecDepth 100000 in
theorem meets_calls (a0 a1 b0 b1 : Int) (ha0 : -128 ≤ a0 ∧ a0 ≤ 127) (ha1 : -128 ≤ a1 ∧ a1 ≤ 127) (hb0 : -128 ≤ b0 ∧ b0 ≤ 127) (hb1 : -128 ≤ b1 ∧ b1 ≤ 127) (w : World) (hT : TzTab w) (hp : 0 < w.heap.size) :
    Calls Tryd.prog 6 #[.agg #[.int .i8 a0, .int .i8 a1], .agg #[.int .i8 b0, .int .i8 b1]] w (AwPost w) := by
  have hu39 := Tryd.underlying39
  have hu38 := Tryd.underlying38
  have hu47 := Tryd.underlying47
  have hu46 := Tryd.underlying46
  have hT' := Aside0.mk hT
  clear hT
  have wa0 : IntKind.i64.wrap a0 = a0 := by rw [IntKind.wrap_i64]; omega
  have wa1 : IntKind.i64.wrap a1 = a1 := by rw [IntKind.wrap_i64]; omega
  have wb0 : IntKind.i64.wrap b0 = b0 := by rw [IntKind.wrap_i64]; omega
  have wb1 : IntKind.i64.wrap b1 = b1 := by rw [IntKind.wrap_i64]; omega
  have HM1 := Aside0.mk (refMeet_f a0 a1 b0 b1 ha0.1 ha1.2)
  have HM2 := Aside0.mk (spanMeet_f a0 a1 b0 b1)
  have HM3 := Aside0.mk ((spanMeet_f b0 b1 a0 a1).trans (congrArg some (meetB_symm a0 a1 b0 b1)))
  have HM4 := Aside0.mk ((spanMeet_f a0 a1 a0 a1).trans (congrArg some (meetB_self a0 a1)))
  generalize meetB a0 a1 b0 b1 = m at HM1 HM2 HM3
  clear ha0 ha1 hb0 hb1
  have HB := Aside0.mk (Below.refl w.heap.size w)
  go_enter Tryd.func6, Tryd.ntmps6
  go_upto_region 3 with (first | ((with_reducible refine gate_dst (N := 2) rfl ?_); refine box_event ?hg (N := 2) ?hd (cs := #[.int .i8 a0, .int .i8 a1]) (t := 47) ?hr ?_; (case hd => rfl); (case hg => rfl); (case hr => first | (go_simp; done) | (go_simp; rfl)); intro ga hg w1 hbox hb; have BA := Aside0.mk hbox; have HB1 := Aside0.mk (below_step HB.out hb); have GA : Aside0 (w.heap.size ≤ ga) := ⟨by rw [hg]; exact below_size HB.out⟩; clear hb hbox hg) | ((with_reducible refine gate_dst (N := 3) rfl ?_); refine box_event ?hg (N := 3) ?hd (cs := #[.int .i8 b0, .int .i8 b1]) (t := 47) ?hr ?_; (case hd => rfl); (case hg => rfl); (case hr => first | (go_simp; done) | (go_simp; rfl)); intro gb hg w2 hbox hb; have BA2 := Aside0.mk (blk_below BA.out hb); have BB := Aside0.mk hbox; have HB2 := Aside0.mk (below_step HB1.out hb); have GB : Aside0 (w.heap.size ≤ gb) := ⟨by rw [hg]; exact below_size HB1.out⟩; have NE : Aside0 (ga ≠ gb) := ⟨by rw [hg]; exact Nat.ne_of_lt (blk_lt BA.out)⟩; clear hb hbox hg) | (go_at_call 10; (with_reducible refine (awake_calls _ ?h1 ?h2).mono ?_); (case h1 => exact hT'.out.below hp HB2.out); (case h2 => exact Nat.lt_of_lt_of_le hp (below_size HB2.out)); rintro e w3 ⟨rfl, hb⟩; have BA3 := Aside0.mk (blk_below BA2.out hb); have BB3 := Aside0.mk (blk_below BB.out hb); have HB3 := Aside0.mk (below_step HB2.out hb); clear hb))
  go_cut [5, 6] (fun v5 v6 wc => ∃ (g1 g2 : Nat), v5 = .pointer (some ⟨g1, 0, none⟩) ∧ v6 = .pointer (some ⟨g2, 0, none⟩) ∧ Aside0 (wc.heap[g1]? = some (.cells #[.int .i64 a0, .int .i64 a1] 39 (0, 0))) ∧ Aside0 (wc.heap[g2]? = some (.cells #[.int .i64 b0, .int .i64 b1] 39 (0, 0))) ∧ Aside0 (Below w.heap.size w wc))
  case first =>
    have hne := NE.out
    have hne2 := Ne.symm NE.out
    have ca0 : w3.cell? ⟨ga, 0, none⟩ = some (.int .i8 a0) := (blk_cell BA3.out 0).trans rfl
    have ca1 : w3.cell? ⟨ga, 1, none⟩ = some (.int .i8 a1) := (blk_cell BA3.out 1).trans rfl
    have cb0 : w3.cell? ⟨gb, 0, none⟩ = some (.int .i8 b0) := (blk_cell BB3.out 0).trans rfl
    have cb1 : w3.cell? ⟨gb, 1, none⟩ = some (.int .i8 b1) := (blk_cell BB3.out 1).trans rfl
    have ca0' : ∀ O : Obj, (w3.alloc O).cell? ⟨ga, 0, none⟩ = some (.int .i8 a0) := fun O => (blk_cell (lv_al BA3.out O) 0).trans rfl
    have ca0'' : ∀ O O' : Obj, ((w3.alloc O).alloc O').cell? ⟨ga, 0, none⟩ = some (.int .i8 a0) := fun O O' => (blk_cell (lv_al (lv_al BA3.out O) O') 0).trans rfl
    have ca1' : ∀ O : Obj, (w3.alloc O).cell? ⟨ga, 1, none⟩ = some (.int .i8 a1) := fun O => (blk_cell (lv_al BA3.out O) 1).trans rfl
    have ca1'' : ∀ O O' : Obj, ((w3.alloc O).alloc O').cell? ⟨ga, 1, none⟩ = some (.int .i8 a1) := fun O O' => (blk_cell (lv_al (lv_al BA3.out O) O') 1).trans rfl
    have cb0' : ∀ O : Obj, (w3.alloc O).cell? ⟨gb, 0, none⟩ = some (.int .i8 b0) := fun O => (blk_cell (lv_al BB3.out O) 0).trans rfl
    have cb0'' : ∀ O O' : Obj, ((w3.alloc O).alloc O').cell? ⟨gb, 0, none⟩ = some (.int .i8 b0) := fun O O' => (blk_cell (lv_al (lv_al BB3.out O) O') 0).trans rfl
    have cb1' : ∀ O : Obj, (w3.alloc O).cell? ⟨gb, 1, none⟩ = some (.int .i8 b1) := fun O => (blk_cell (lv_al BB3.out O) 1).trans rfl
    have cb1'' : ∀ O O' : Obj, ((w3.alloc O).alloc O').cell? ⟨gb, 1, none⟩ = some (.int .i8 b1) := fun O O' => (blk_cell (lv_al (lv_al BB3.out O) O') 1).trans rfl
    go_region
    all_goals go_wp2
    all_goals go_meet
    case rel => exact ⟨_, _, rfl, rfl, ⟨lv_al (heap_alloc_new w3 _) _⟩, ⟨two_new w3 _ _⟩, ⟨(((HB3.out.alloc (below_size HB3.out) _).alloc (by have := below_size HB3.out; simp; omega) _).drew)⟩⟩
    case rel => exact ⟨_, _, rfl, rfl, ⟨two_new w3 _ _⟩, ⟨lv_al (heap_alloc_new w3 _) _⟩, ⟨(((HB3.out.alloc (below_size HB3.out) _).alloc (by have := below_size HB3.out; simp; omega) _).drew)⟩⟩
  case rest =>
    clear HB HB1 HB2 HB3 BA BA2 BA3 BB BB3 GA GB NE
    obtain ⟨g1, g2, rfl, rfl, B1, B2, HB⟩ := hcut
    have d10wc : wc.cell? ⟨g1, 0, none⟩ = some (.int .i64 a0) := (blk_cell B1.out 0).trans rfl
    have d11wc : wc.cell? ⟨g1, 1, none⟩ = some (.int .i64 a1) := (blk_cell B1.out 1).trans rfl
    have d20wc : wc.cell? ⟨g2, 0, none⟩ = some (.int .i64 b0) := (blk_cell B2.out 0).trans rfl
    have d21wc : wc.cell? ⟨g2, 1, none⟩ = some (.int .i64 b1) := (blk_cell B2.out 1).trans rfl
    go_upto_region 5 with ((go_at_call 16; (with_reducible refine (hauberkref15_Meet.calls 300 a0 a1 b0 b1 m _ HM1.out).mono ?_); rintro e w4 ⟨rfl, hb⟩; have n0_ := Aside0.mk (blk_below B1.out hb); have n1_ := Aside0.mk (blk_below B2.out hb); have n2_ := Aside0.mk (below_step HB.out hb); clear B1 B2 HB; have B1 := n0_; have B2 := n1_; have HB := n2_; clear n0_ n1_ n2_ hb))
    have d10w4 : w4.cell? ⟨g1, 0, none⟩ = some (.int .i64 a0) := (blk_cell B1.out 0).trans rfl
    have d11w4 : w4.cell? ⟨g1, 1, none⟩ = some (.int .i64 a1) := (blk_cell B1.out 1).trans rfl
    have d20w4 : w4.cell? ⟨g2, 0, none⟩ = some (.int .i64 b0) := (blk_cell B2.out 0).trans rfl
    have d21w4 : w4.cell? ⟨g2, 1, none⟩ = some (.int .i64 b1) := (blk_cell B2.out 1).trans rfl
    go_region_held3 (fun w' => w'.cell? ⟨g1, 0, none⟩ = some (.int .i64 a0) ∧ w'.cell? ⟨g1, 1, none⟩ = some (.int .i64 a1) ∧ w'.cell? ⟨g2, 0, none⟩ = some (.int .i64 b0) ∧ w'.cell? ⟨g2, 1, none⟩ = some (.int .i64 b1)) (go_keep) (first | (go_at_call 17; (with_reducible refine (span_Meet.calls a0 a1 b0 b1 m _ HM2.out).mono ?_); rintro e w5 ⟨rfl, hb⟩; have n0_ := Aside0.mk (blk_below (by (with_reducible repeat (first | refine blk_drewN ?_ _ | refine blk_drew ?_ | refine blk_alloc ?_ _)); exact B1.out) hb); have n1_ := Aside0.mk (blk_below (by (with_reducible repeat (first | refine blk_drewN ?_ _ | refine blk_drew ?_ | refine blk_alloc ?_ _)); exact B2.out) hb); have n2_ := Aside0.mk (below_step (by repeat (first | (with_reducible first | exact HB.out | apply below_alloc | apply pw_below_drewN | apply below_drew1) | exact HB.out)) hb); clear B1 B2 HB; have B1 := n0_; have B2 := n1_; have HB := n2_; clear n0_ n1_ n2_ hb; have d10w5 : w5.cell? ⟨g1, 0, none⟩ = some (.int .i64 a0) := (blk_cell B1.out 0).trans rfl; have d11w5 : w5.cell? ⟨g1, 1, none⟩ = some (.int .i64 a1) := (blk_cell B1.out 1).trans rfl; have d20w5 : w5.cell? ⟨g2, 0, none⟩ = some (.int .i64 b0) := (blk_cell B2.out 0).trans rfl; have d21w5 : w5.cell? ⟨g2, 1, none⟩ = some (.int .i64 b1) := (blk_cell B2.out 1).trans rfl) | (go_at_call 17; (with_reducible refine (span_Meet.calls b0 b1 a0 a1 m _ HM3.out).mono ?_); rintro e w6 ⟨rfl, hb⟩; have n0_ := Aside0.mk (blk_below (by (with_reducible repeat (first | refine blk_drewN ?_ _ | refine blk_drew ?_ | refine blk_alloc ?_ _)); exact B1.out) hb); have n1_ := Aside0.mk (blk_below (by (with_reducible repeat (first | refine blk_drewN ?_ _ | refine blk_drew ?_ | refine blk_alloc ?_ _)); exact B2.out) hb); have n2_ := Aside0.mk (below_step (by repeat (first | (with_reducible first | exact HB.out | apply below_alloc | apply pw_below_drewN | apply below_drew1) | exact HB.out)) hb); clear B1 B2 HB; have B1 := n0_; have B2 := n1_; have HB := n2_; clear n0_ n1_ n2_ hb; have d10w6 : w6.cell? ⟨g1, 0, none⟩ = some (.int .i64 a0) := (blk_cell B1.out 0).trans rfl; have d11w6 : w6.cell? ⟨g1, 1, none⟩ = some (.int .i64 a1) := (blk_cell B1.out 1).trans rfl; have d20w6 : w6.cell? ⟨g2, 0, none⟩ = some (.int .i64 b0) := (blk_cell B2.out 0).trans rfl; have d21w6 : w6.cell? ⟨g2, 1, none⟩ = some (.int .i64 b1) := (blk_cell B2.out 1).trans rfl) | (go_at_call 17; (with_reducible refine (span_Meet.calls a0 a1 a0 a1 _ _ HM4.out).mono ?_); rintro e w7 ⟨rfl, hb⟩; have n0_ := Aside0.mk (blk_below (by (with_reducible repeat (first | refine blk_drewN ?_ _ | refine blk_drew ?_ | refine blk_alloc ?_ _)); exact B1.out) hb); have n1_ := Aside0.mk (blk_below (by (with_reducible repeat (first | refine blk_drewN ?_ _ | refine blk_drew ?_ | refine blk_alloc ?_ _)); exact B2.out) hb); have n2_ := Aside0.mk (below_step (by repeat (first | (with_reducible first | exact HB.out | apply below_alloc | apply pw_below_drewN | apply below_drew1) | exact HB.out)) hb); clear B1 B2 HB; have B1 := n0_; have B2 := n1_; have HB := n2_; clear n0_ n1_ n2_ hb; have d10w7 : w7.cell? ⟨g1, 0, none⟩ = some (.int .i64 a0) := (blk_cell B1.out 0).trans rfl; have d11w7 : w7.cell? ⟨g1, 1, none⟩ = some (.int .i64 a1) := (blk_cell B1.out 1).trans rfl; have d20w7 : w7.cell? ⟨g2, 0, none⟩ = some (.int .i64 b0) := (blk_cell B2.out 0).trans rfl; have d21w7 : w7.cell? ⟨g2, 1, none⟩ = some (.int .i64 b1) := (blk_cell B2.out 1).trans rfl))
    go_wp2
    go_ret
    exact ⟨rfl, HB.out⟩
end Go.Proofs.YtjfleaekljapeaaDoor.K
