import Derived.Test.YtjfleaekljapeaaDoorZA
import Derived.Test.YtjfleaekljapeaaDoorZFlow
import Derived.Deep.DeepMust
import Derived.Test.YtjfleaekljapeaaDoorProg
import Derived.Below
import Derived.Deep.Draws
import Derived.Deep.AppendLies
import Derived.Maps.AppendAt
import Derived.OwnWalk
import Derived.Laws.BytesArg
import Derived.Laws.MakeOwn
import Derived.Laws.OwnMore
import Derived.Deep.OwnRows
import Derived.Tactics
import Derived.Lib.ConvBytes
import Derived.Laws.Slices
import Derived.WalkKit
import Derived.KernelRfl
import Derived.RowKit3
import Derived.Deep.LoopGhost
import Derived.Deep.QuietTactic
import Derived.BigQuiet
import Derived.WideLaws
import Derived.Deep.DeepCutAuto
import Derived.Deep.CutBlock
import Derived.Deep.RegionHeld3
import Derived.Deep.MidRow
import Derived.Laws.Rows
import Derived.Lib.AppendStr
import Derived.ArgAppend
import Derived.Laws.IdiomCopy
import Derived.OrdersHeld
import Derived.Laws.BitsLemmas
import Derived.RowKit
import Derived.RegionTactic
import Derived.Deep.RegionWith
import Derived.Lib.Hide
import Derived.Test.YtjfleaekljapeaaDoorWWords
import Derived.Test.YtjfleaekljapeaaDoorWLast
import Derived.Test.YtjfleaekljapeaaDoorWTab
import Derived.Test.YtjfleaekljapeaaDoorWFour
import Derived.Test.YtjfleaekljapeaaDoorWQPut
import Derived.Test.YtjfleaekljapeaaDoorWApart
import Derived.Test.YtjfleaekljapeaaDoorWArr
import Derived.Test.YtjfleaekljapeaaDoorWZeros
import Derived.Test.YtjfleaekljapeaaDoorWFoot
import Derived.Test.YtjfleaekljapeaaDoorWKept
import Derived.Test.YtjfleaekljapeaaDoorWShare
import Derived.Test.YtjfleaekljapeaaDoorWN
import Derived.Test.YtjfleaekljapeaaDoorWEqStruct
import Derived.Test.YtjfleaekljapeaaDoorWRepsOne
import Derived.Test.YtjfleaekljapeaaDoorWGuard
import Derived.Test.YtjfleaekljapeaaDoorWNEv
import Derived.Test.YtjfleaekljapeaaDoorWMore
import Derived.Deep.RegionLaw
import Derived.Laws.CopyOwn
import Derived.Shelf.Spec.TrailingZeros
namespace Go.Proofs.YtjfleaekljapeaaDoor.K
open Go.RowKit Go.Proofs.YtjfleaekljapeaaDoorW.PrintWords Go.Proofs.YtjfleaekljapeaaDoorW.PrintLast Go.Proofs.YtjfleaekljapeaaDoorW.PrintMore
attribute [local go_sem] max2_int min2_int max_two min_two max_three min_three max_four min_four   -- for this text's walks alone
set_option linter.unusedVariables false
set_option linter.unusedSimpArgs false
set_option linter.unusedSectionVars false
/-! ### hauberkref12.Uses (35), hauberkref15.Reads (46), Writes (31), typed by hand -/
def us0 (op : Int) : Bool := op == 1 || (op == 21 || (op == 30 || (op == 31 || (op == 32 || (op == 33 || (op == 2 || (op == 4 || (op == 35 || op == 3))))))))
def us1 (op : Int) : Bool := op == 2 || (op == 4 || (op == 35 || (op == 3 || (op == 19 || (op == 20 || (op == 22 || (op == 37 || (op == 38 || (op == 40 || op == 36)))))))))
def us2 (op : Int) : Bool := op == 3 || op == 36
def UsPost (op : Int) (w : World) (e : Ending) (w' : World) : Prop := e = .returned (.agg #[.bool (us0 op), .bool (us1 op), .bool (us2 op)]) ∧ Below w.heap.size w w'
theorem us_new (w : World) (u : Array Value) (t : TypeId) : Below w.heap.size w (w.alloc (.cells u t)) := (Below.refl _ _).alloc (Nat.le_refl _) _
set_option maxHeartbeats 2000000 in
theorem uses_yes (op : Int) (w : World) (ho : op = 1 ∨ op = 21 ∨ op = 30 ∨ op = 31 ∨ op = 32 ∨ op = 33 ∨ op = 2 ∨ op = 4 ∨ op = 35 ∨ op = 3 ∨ op = 19 ∨ op = 20 ∨ op = 22 ∨ op = 37 ∨ op = 38 ∨ op = 40 ∨ op = 36) : Calls Tryd.prog 35 #[.int .i64 op] w (UsPost op w) := by
  rcases ho with rfl | rfl | rfl | rfl | rfl | rfl | rfl | rfl | rfl | rfl | rfl | rfl | rfl | rfl | rfl | rfl | rfl
  all_goals
    go_enter Tryd.func35, Tryd.ntmps35
    go_wp2
    refine bodyPost_ret (results_cell_row rfl _ _ w.heap.size 84 _ (0, 0) _ rfl (heap_alloc_new w _) Tryd.underlying84 rfl (by kernel_rfl)) rfl ?_
    exact ⟨rfl, us_new w _ _⟩
set_option maxHeartbeats 2000000 in
theorem uses_no (op : Int) (w : World) (h : (us0 op || us1 op) = false) : Calls Tryd.prog 35 #[.int .i64 op] w (UsPost op w) := by
  have e0 : us0 op = false := by revert h; cases us0 op <;> simp
  have e1 : us1 op = false := by revert h; cases us1 op <;> simp
  have HP := Aside0.mk (show us0 op = false ∧ us1 op = false ∧ us2 op = false from ⟨e0, e1, by
    unfold us1 at e1
    simp only [Bool.or_eq_false_iff] at e1
    unfold us2
    simp only [Bool.or_eq_false_iff]
    exact ⟨e1.2.2.2.1, e1.2.2.2.2.2.2.2.2.2.2⟩⟩)
  unfold us0 at e0
  unfold us1 at e1
  simp only [Bool.or_eq_false_iff] at e0 e1
  obtain ⟨n1, n2, n3, n4, n5, n6, n7, n8, n9, n10⟩ := e0
  obtain ⟨_, _, _, _, m1, m2, m3, m4, m5, m6, m7⟩ := e1
  clear h
  go_enter Tryd.func35, Tryd.ntmps35
  go_wp2
  refine bodyPost_ret (results_cell_row rfl _ _ w.heap.size 84 _ (0, 0) _ rfl (heap_alloc_new w _) Tryd.underlying84 rfl (by kernel_rfl)) rfl ?_
  exact ⟨by rw [HP.out.1, HP.out.2.1, HP.out.2.2], us_new w _ _⟩
theorem uses_calls (op : Int) (w : World) : Calls Tryd.prog 35 #[.int .i64 op] w (UsPost op w) := by
  cases h : (us0 op || us1 op) with
  | false => exact uses_no op w h
  | true =>
    refine uses_yes op w ?_
    unfold us0 us1 at h
    simp only [Bool.or_eq_true, beq_iff_eq] at h
    omega
def rdB (i : S44) (r : Int) : Bool := (us1 i.f0 && i.f2 == r) || ((us2 i.f0 && i.f3 == r) || decide (r ∈ i.f7))
def wrB (i : S44) (r : Int) : Bool := (us0 i.f0 && i.f1 == r) || decide (r ∈ i.f8)
theorem has_calls (A0 : Option Addr) (c0 : Nat) (l0 : List Int) (a1 : Int) (w : World) (hr0 : Kd.C (Kd.int .i64) w A0 l0.length l0) (hc0 : l0.length ≤ c0) : Calls Tryd.prog 32 #[.slice A0 l0.length c0, .int .i64 a1] w fun e w' => e = .returned (.bool (decide (a1 ∈ l0))) ∧ Drawn0 w w' := by
  obtain ⟨k, hk⟩ := (has_f l0 a1 hr0.2.1).rounds
  exact hauberkref15_has.calls k A0 c0 l0 a1 _ w hr0 hc0 hk
set_option maxHeartbeats 4000000 in
set_option maxRecDepth 100000 in
theorem reads_calls (i : S44) (A7 : Option Addr) (c7 : Nat) (A8 : Option Addr) (c8 : Nat) (r : Int) (w : World) (hr7 : Kd.C (Kd.int .i64) w A7 i.f7.length i.f7) (hc7 : i.f7.length ≤ c7) :
    Calls Tryd.prog 46 #[.agg (i44 i A7 c7 A8 c8), .int .i64 r] w fun e w' => e = .returned (.bool (rdB i r)) ∧ Below w.heap.size w w' := by
  have hu44 := Tryd.underlying44
  have hu84 := Tryd.underlying84
  have HR := Aside0.mk hr7
  have HC := Aside0.mk hc7
  obtain ⟨f0, f1, f2, f3, f4, f5, f6, l7, l8, f9⟩ := i
  unfold i44
  dsimp only at HR HC ⊢
  have HV := Aside0.mk (show rdB ⟨f0, f1, f2, f3, f4, f5, f6, l7, l8, f9⟩ r = ((us1 f0 && f2 == r) || ((us2 f0 && f3 == r) || decide (r ∈ l7))) from rfl)
  generalize rdB ⟨f0, f1, f2, f3, f4, f5, f6, l7, l8, f9⟩ r = res at HV
  clear hr7 hc7
  have HU := Aside0.mk (uses_calls f0)
  unfold UsPost at HU
  generalize us0 f0 = b0 at HU HV
  generalize us1 f0 = b1 at HU HV
  generalize us2 f0 = b2 at HU HV
  go_enter Tryd.func46, Tryd.ntmps46
  go_upto_region 2 with (first | (go_at_call 35; (with_reducible refine (HU.out _).mono ?_); rintro e w1 ⟨rfl, hb⟩; have HB := Aside0.mk hb; clear hb))
  have g44 : (w1.alloc (.cells #[.bool b0, .bool b1, .bool b2] 84)).heap[w.heap.size]? = some (.cells #[.int .i64 f0, .int .i64 f1, .int .i64 f2, .int .i64 f3, .int .u64 f4, .int .i64 f5, .string f6, .slice A7 l7.length c7, .slice A8 l8.length c8, .int .i64 f9] 44 (0, 0)) := lv_al (blk_below (heap_alloc_new w _) HB.out) _
  have hx2 : (w1.alloc (.cells #[.bool b0, .bool b1, .bool b2] 84)).cell? ⟨w.heap.size, 2, none⟩ = some (.int .i64 f2) := (blk_cell g44 2).trans rfl
  have hx3 : (w1.alloc (.cells #[.bool b0, .bool b1, .bool b2] 84)).cell? ⟨w.heap.size, 3, none⟩ = some (.int .i64 f3) := (blk_cell g44 3).trans rfl
  have hx7 : (w1.alloc (.cells #[.bool b0, .bool b1, .bool b2] 84)).cell? ⟨w.heap.size, 7, none⟩ = some (.slice A7 l7.length c7) := (blk_cell g44 7).trans rfl
  have g84 : (w1.alloc (.cells #[.bool b0, .bool b1, .bool b2] 84)).heap[w1.heap.size]? = some (.cells #[.bool b0, .bool b1, .bool b2] 84 (0, 0)) := heap_alloc_new w1 _
  have hy1 : (w1.alloc (.cells #[.bool b0, .bool b1, .bool b2] 84)).cell? ⟨w1.heap.size, 1, none⟩ = some (.bool b1) := (blk_cell g84 1).trans rfl
  have hy2 : (w1.alloc (.cells #[.bool b0, .bool b1, .bool b2] 84)).cell? ⟨w1.heap.size, 2, none⟩ = some (.bool b2) := (blk_cell g84 2).trans rfl
  have HB1 := Aside0.mk (show Below w.heap.size w (w1.alloc (.cells #[.bool b0, .bool b1, .bool b2] 84)) from (below_step (us_new w _ _) HB.out).alloc (below_size (below_step (us_new w _ _) HB.out)) _)
  have HH := Aside0.mk (has_calls A7 c7 l7 r _ (Kd.C_below HR.out HB1.out) HC.out)
  generalize decide (r ∈ l7) = bh at HH HV
  generalize w1.alloc (.cells #[.bool b0, .bool b1, .bool b2] 84) = w2 at *
  clear HU HB HR HC g44 g84
  have fin : ∀ w', Drawn0 w2 w' → Below w.heap.size w w' := fun w' hd => below_step HB1.out hd.below
  cases b1 <;> cases b2 <;> cases hx : (f2 == r) <;> cases hy : (f3 == r)
  all_goals
    have HV2 := Aside0.mk HV.out
    clear HV
    simp only [hx, hy, Bool.true_and, Bool.false_and, Bool.and_true, Bool.and_false, Bool.true_or, Bool.false_or] at HV2
    subst_vars
    go_wp2_with (first | (go_at_call 32; (with_reducible refine HH.out.mono ?_); rintro e w3 ⟨rfl, hd⟩; have HD := Aside0.mk hd; clear hd))
    go_ret
    first
    | exact ⟨by have h := HV2.out; subst h; rfl, HB1.out⟩
    | exact ⟨by have h := HV2.out; subst h; rfl, fin _ HD.out⟩
set_option maxHeartbeats 4000000 in
set_option maxRecDepth 100000 in
theorem writes_calls (i : S44) (A7 : Option Addr) (c7 : Nat) (A8 : Option Addr) (c8 : Nat) (r : Int) (w : World) (hr8 : Kd.C (Kd.int .i64) w A8 i.f8.length i.f8) (hc8 : i.f8.length ≤ c8) :
    Calls Tryd.prog 31 #[.agg (i44 i A7 c7 A8 c8), .int .i64 r] w fun e w' => e = .returned (.bool (wrB i r)) ∧ Below w.heap.size w w' := by
  have hu44 := Tryd.underlying44
  have hu84 := Tryd.underlying84
  have HR := Aside0.mk hr8
  have HC := Aside0.mk hc8
  obtain ⟨f0, f1, f2, f3, f4, f5, f6, l7, l8, f9⟩ := i
  unfold i44
  dsimp only at HR HC ⊢
  have HV := Aside0.mk (show wrB ⟨f0, f1, f2, f3, f4, f5, f6, l7, l8, f9⟩ r = ((us0 f0 && f1 == r) || decide (r ∈ l8)) from rfl)
  generalize wrB ⟨f0, f1, f2, f3, f4, f5, f6, l7, l8, f9⟩ r = res at HV
  clear hr8 hc8
  have HU := Aside0.mk (uses_calls f0)
  unfold UsPost at HU
  generalize us0 f0 = b0 at HU HV
  generalize us1 f0 = b1 at HU HV
  generalize us2 f0 = b2 at HU HV
  have i0 : ∀ W, (Instr.index 84 (.agg #[.bool b0, .bool b1, .bool b2]) (.int .i64 0)).run Tryd.prog W = .ok (.bool b0) W := fun _ => by cases b0 <;> cases b1 <;> cases b2 <;> kernel_rfl
  have H1 : Aside0 (∀ w1, Below (w.alloc (.cells #[.int .i64 f0, .int .i64 f1, .int .i64 f2, .int .i64 f3, .int .u64 f4, .int .i64 f5, .string f6, .slice A7 l7.length c7, .slice A8 l8.length c8, .int .i64 f9] 44)).heap.size (w.alloc (.cells #[.int .i64 f0, .int .i64 f1, .int .i64 f2, .int .i64 f3, .int .u64 f4, .int .i64 f5, .string f6, .slice A7 l7.length c7, .slice A8 l8.length c8, .int .i64 f9] 44)) w1 → w1.cell? ⟨w.heap.size, 1, none⟩ = some (.int .i64 f1) ∧ w1.cell? ⟨w.heap.size, 8, none⟩ = some (.slice A8 l8.length c8) ∧ Below w.heap.size w w1) := ⟨fun w1 hb => by
    have g44 : w1.heap[w.heap.size]? = some (.cells #[.int .i64 f0, .int .i64 f1, .int .i64 f2, .int .i64 f3, .int .u64 f4, .int .i64 f5, .string f6, .slice A7 l7.length c7, .slice A8 l8.length c8, .int .i64 f9] 44 (0, 0)) := blk_below (heap_alloc_new w _) hb
    exact ⟨(blk_cell g44 1).trans rfl, (blk_cell g44 8).trans rfl, below_step (us_new w _ _) hb⟩⟩
  have H2 : Aside0 (∀ w1, Below w.heap.size w w1 → Calls Tryd.prog 32 #[.slice A8 l8.length c8, .int .i64 r] w1 fun e w' => e = .returned (.bool (decide (r ∈ l8))) ∧ Drawn0 w1 w') := ⟨fun w1 hb => has_calls A8 c8 l8 r _ (Kd.C_below HR.out hb) HC.out⟩
  generalize decide (r ∈ l8) = bh at H2 HV
  clear HR HC
  cases b0 <;> cases hx : (f1 == r)
  all_goals
    have HV2 := Aside0.mk HV.out
    clear HV
    simp only [hx, Bool.true_and, Bool.false_and, Bool.and_true, Bool.and_false, Bool.true_or, Bool.false_or] at HV2
    go_enter Tryd.func31, Tryd.ntmps31
    go_wp2_with (first | (go_at_call 35; (with_reducible refine (HU.out _).mono ?_); rintro e w1 ⟨rfl, hb⟩; obtain ⟨hx1, hx8, hb1⟩ := H1.out _ hb; have HB := Aside0.mk hb1; clear hb hb1) | (go_at_call 32; (with_reducible refine (H2.out _ HB.out).mono ?_); rintro e w3 ⟨rfl, hd⟩; have HD := Aside0.mk hd; clear hd))
    go_ret
    first
    | exact ⟨by have h := HV2.out; subst h; rfl, HB.out⟩
    | exact ⟨by have h := HV2.out; subst h; rfl, below_step HB.out HD.out.below⟩
end Go.Proofs.YtjfleaekljapeaaDoor.K
namespace Go.Proofs.YtjfleaekljapeaaDoor.K
open Go.RowKit Go.Proofs.YtjfleaekljapeaaDoorW.PrintWords Go.Proofs.YtjfleaekljapeaaDoorW.PrintLast Go.Proofs.YtjfleaekljapeaaDoorW.PrintMore
set_option linter.unusedVariables false
def hauberkref15_Writes.f (a0_0 : Int) (a0_1 : Int) (a0_2 : Int) (a0_3 : Int) (a0_4 : Int) (a0_5 : Int) (a0_6 : ByteArray) (l0_7 : List Int) (l0_8 : List Int) (a0_9 : Int) (a1 : Int) : Option (Bool) := some (wrB ⟨a0_0, a0_1, a0_2, a0_3, a0_4, a0_5, a0_6, l0_7, l0_8, a0_9⟩ a1)
theorem hauberkref15_Writes.calls (a0_0 : Int) (a0_1 : Int) (a0_2 : Int) (a0_3 : Int) (a0_4 : Int) (a0_5 : Int) (a0_6 : ByteArray) (A0_7 : Option Addr) (c0_7 : Nat) (l0_7 : List Int) (A0_8 : Option Addr) (c0_8 : Nat) (l0_8 : List Int) (a0_9 : Int) (a1 : Int) (r : Bool) (w : World) (hr0_7 : Kd.C (Kd.int .i64) w A0_7 l0_7.length l0_7) (hc0_7 : l0_7.length ≤ c0_7) (hr0_8 : Kd.C (Kd.int .i64) w A0_8 l0_8.length l0_8) (hc0_8 : l0_8.length ≤ c0_8) (h : hauberkref15_Writes.f a0_0 a0_1 a0_2 a0_3 a0_4 a0_5 a0_6 l0_7 l0_8 a0_9 a1 = some r) :
  Calls Tryd.prog 31 #[.agg #[.int .i64 a0_0, .int .i64 a0_1, .int .i64 a0_2, .int .i64 a0_3, .int .u64 a0_4, .int .i64 a0_5, .string a0_6, .slice A0_7 l0_7.length c0_7, .slice A0_8 l0_8.length c0_8, .int .i64 a0_9], .int .i64 a1] w fun e w' => e = .returned (.bool r) ∧ Below w.heap.size w w' := by
  obtain rfl := Option.some.inj h
  exact writes_calls ⟨a0_0, a0_1, a0_2, a0_3, a0_4, a0_5, a0_6, l0_7, l0_8, a0_9⟩ A0_7 c0_7 A0_8 c0_8 a1 w hr0_8 hc0_8
end Go.Proofs.YtjfleaekljapeaaDoor.K
namespace Go.Proofs.YtjfleaekljapeaaDoor.K
open Go.RowKit Go.Proofs.YtjfleaekljapeaaDoorW.PrintWords Go.Proofs.YtjfleaekljapeaaDoorW.PrintLast Go.Proofs.YtjfleaekljapeaaDoorW.PrintMore
set_option linter.unusedVariables false
def hauberkref15_Reads.f (a0_0 : Int) (a0_1 : Int) (a0_2 : Int) (a0_3 : Int) (a0_4 : Int) (a0_5 : Int) (a0_6 : ByteArray) (l0_7 : List Int) (l0_8 : List Int) (a0_9 : Int) (a1 : Int) : Option (Bool) := some (rdB ⟨a0_0, a0_1, a0_2, a0_3, a0_4, a0_5, a0_6, l0_7, l0_8, a0_9⟩ a1)
theorem hauberkref15_Reads.calls (a0_0 : Int) (a0_1 : Int) (a0_2 : Int) (a0_3 : Int) (a0_4 : Int) (a0_5 : Int) (a0_6 : ByteArray) (A0_7 : Option Addr) (c0_7 : Nat) (l0_7 : List Int) (A0_8 : Option Addr) (c0_8 : Nat) (l0_8 : List Int) (a0_9 : Int) (a1 : Int) (r : Bool) (w : World) (hr0_7 : Kd.C (Kd.int .i64) w A0_7 l0_7.length l0_7) (hc0_7 : l0_7.length ≤ c0_7) (hr0_8 : Kd.C (Kd.int .i64) w A0_8 l0_8.length l0_8) (hc0_8 : l0_8.length ≤ c0_8) (h : hauberkref15_Reads.f a0_0 a0_1 a0_2 a0_3 a0_4 a0_5 a0_6 l0_7 l0_8 a0_9 a1 = some r) :
  Calls Tryd.prog 46 #[.agg #[.int .i64 a0_0, .int .i64 a0_1, .int .i64 a0_2, .int .i64 a0_3, .int .u64 a0_4, .int .i64 a0_5, .string a0_6, .slice A0_7 l0_7.length c0_7, .slice A0_8 l0_8.length c0_8, .int .i64 a0_9], .int .i64 a1] w fun e w' => e = .returned (.bool r) ∧ Below w.heap.size w w' := by
  obtain rfl := Option.some.inj h
  exact reads_calls ⟨a0_0, a0_1, a0_2, a0_3, a0_4, a0_5, a0_6, l0_7, l0_8, a0_9⟩ A0_7 c0_7 A0_8 c0_8 a1 w hr0_7 hc0_7
end Go.Proofs.YtjfleaekljapeaaDoor.K
