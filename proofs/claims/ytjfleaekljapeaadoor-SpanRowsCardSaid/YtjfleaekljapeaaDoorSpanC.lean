import Derived.Test.YtjfleaekljapeaaDoorK0
import Derived.Test.YtjfleaekljapeaaDoorFlowA
import Derived.Test.YtjfleaekljapeaaDoorFlowS
import Derived.Deep.DeepMust
import Derived.Test.YtjfleaekljapeaaDoorProg
import Derived.Below
import Derived.Deep.Draws
import Derived.Deep.AppendLies
import Derived.Maps.AppendAt
import Derived.OwnWalk
import Derived.Laws.BytesArg
import Derived.Laws.MakeOwn
import Derived.Laws.OwnMore
import Derived.Deep.OwnRows
import Derived.Tactics
import Derived.Lib.ConvBytes
import Derived.Laws.Slices
import Derived.WalkKit
import Derived.KernelRfl
import Derived.RowKit3
import Derived.Deep.LoopGhost
import Derived.Deep.QuietTactic
import Derived.BigQuiet
import Derived.WideLaws
import Derived.Deep.DeepCutAuto
import Derived.Deep.CutBlock
import Derived.Deep.RegionHeld3
import Derived.Laws.Rows
import Derived.Lib.AppendStr
import Derived.ArgAppend
import Derived.Laws.IdiomCopy
import Derived.OrdersHeld
import Derived.Laws.BitsLemmas
import Derived.RowKit
import Derived.RegionTactic
import Derived.Deep.RegionWith
import Derived.Lib.Hide
import Derived.Test.YtjfleaekljapeaaDoorWWords
import Derived.Test.YtjfleaekljapeaaDoorWLast
import Derived.Test.YtjfleaekljapeaaDoorWTab
import Derived.Test.YtjfleaekljapeaaDoorWFour
import Derived.Test.YtjfleaekljapeaaDoorWQPut
import Derived.Test.YtjfleaekljapeaaDoorWApart
import Derived.Test.YtjfleaekljapeaaDoorWArr
import Derived.Test.YtjfleaekljapeaaDoorWZeros
import Derived.Test.YtjfleaekljapeaaDoorWFoot
import Derived.Test.YtjfleaekljapeaaDoorWKept
import Derived.Test.YtjfleaekljapeaaDoorWShare
import Derived.Test.YtjfleaekljapeaaDoorWN
import Derived.Test.YtjfleaekljapeaaDoorWEqStruct
import Derived.Test.YtjfleaekljapeaaDoorWRepsOne
import Derived.Test.YtjfleaekljapeaaDoorWGuard
import Derived.Test.YtjfleaekljapeaaDoorWNEv
import Derived.Test.YtjfleaekljapeaaDoorWMore
import Derived.Deep.RegionLaw
import Derived.Laws.CopyOwn
import Derived.Shelf.Spec.TrailingZeros
namespace Go.Proofs.YtjfleaekljapeaaDoor.K
open Go.RowKit Go.Proofs.YtjfleaekljapeaaDoorW.PrintWords Go.Proofs.YtjfleaekljapeaaDoorW.PrintLast Go.Proofs.YtjfleaekljapeaaDoorW.PrintMore
attribute [local go_sem] max2_int min2_int max_two min_two max_three min_three max_four min_four   -- for this text's walks alone
set_option linter.unusedVariables false
set_option linter.unusedSimpArgs false
set_option linter.unusedSectionVars false
/-! ### slices.Grow, slices.Concat at whole numbers: functions 49, 28 -/
theorem cc_info3 : (Tryd.prog.info? 3).map (fun i => (i.zero, i.size, i.bytes)) = some (some (.int .i64 0), 1, 8) := by kernel_rfl
theorem R_take0 {w : World} {base : Nat} {A : Option Addr} {n c : Nat} {xs : List Int} (h : Kd.R (Kd.int .i64) 3 w base (fun _ => True) (.slice A n c) xs) : Kd.R (Kd.int .i64) 3 w base (fun _ => True) (.slice A 0 c) [] := by
  obtain ⟨inner, ho⟩ := Kd.R_own h
  rcases ho.2 with ⟨e, _⟩ | ⟨g, cap, cur, e, hb, hg, hnc, hcm, hcs, _⟩
  · injection e with e1 e2 e3
    subst e1 e3
    exact Kd.R_nil _ _ _ _ _
  · injection e with e1 e2 e3
    subst e1 e3
    exact ⟨fun _ _ => trivial, [], ⟨rfl, .inr ⟨g, c, cur, rfl, hb, hg, Nat.zero_le _, hcm, hcs, by simp⟩⟩, Reps.none _ _⟩
def RowPost (xs : List Int) (w : World) (e : Ending) (w' : World) : Prop := ∃ v : Value, e = .returned v ∧ Kd.R (Kd.int .i64) 3 w' w.heap.size (fun _ => True) v xs ∧ Below w.heap.size w w'
set_option maxHeartbeats 2000000 in
theorem gr_calls (n : Nat) (hn : n ≤ 3000000) (w : World) : Calls Tryd.prog 49 #[.slice none 0 0, .int .i64 (n : Int)] w (RowPost [] w) := by
  have HB := Aside0.mk (Below.refl w.heap.size w)
  have n0 : 0 ≤ (n : Int) := by omega
  have n1 : (n : Int) ≤ 3000000 := by omega
  by_cases h : n = 0
  · subst h
    go_enter Tryd.func49, Tryd.ntmps49
    go_wp2
    go_ret
    exact ⟨_, rfl, Kd.R_nil _ _ _ _ _, HB.out⟩
  · have h1 : 0 < (n : Int) := by omega
    go_enter Tryd.func49, Tryd.ntmps49
    go_wp2_with (first | ((with_reducible refine gate_builtin (b := .append) (xs := #[.tmp 20, .tmp 21]) rfl ?_); refine Kd.R_append_zeros (Kd.int .i64) (w0 := w) w.heap.size rfl (.tmp 20) (.tmp 21) 22 3 3 (.int .i64 0) 8 rfl Tryd.underlying22 Tryd.underlying3 cc_info3 rfl (by decide) (by omega) (.slice none 0 0) [] (0 : Int) (n : Int) (fun _ => True) rfl rfl ?hz ?hf ?hO n0 HB.out (below_size HB.out) ?hl ?_; (case hz => rfl); (case hf => exact fun _ _ => trivial); (case hO => exact Kd.R_nil _ _ _ _ _); (case hl => simp; omega); intro v22 w22 ho hb hg hat; clear HB; have HB := Aside0.mk hb; have HO := Aside0.mk ho; clear hb ho hg hat; obtain ⟨Ao, co, eo⟩ := Kd.R_slice HO.out; subst eo))
    go_ret
    exact ⟨_, rfl, R_take0 HO.out, HB.out⟩
set_option maxHeartbeats 2000000 in
set_option maxRecDepth 100000 in
theorem cc_calls (ga : Nat) (A1 : Option Addr) (c1 : Nat) (l1 : List Int) (A2 : Option Addr) (c2 : Nat) (l2 : List Int) (w : World) (hg : w.heap[ga]? = some (.cells #[.slice A1 l1.length c1, .slice A2 l2.length c2] 22 (0, 0)))
    (hr1 : (Kd.int .i64).C w A1 l1.length l1) (hr2 : (Kd.int .i64).C w A2 l2.length l2) (hl1 : l1.length ≤ 1000001) (hl2 : l2.length ≤ 1000001) :
    Calls Tryd.prog 28 #[.slice (some ⟨ga, 0, none⟩) 2 2] w (RowPost (l1 ++ l2) w) := by
  have hc0 : w.cell? ⟨ga, 0, none⟩ = some (.slice A1 l1.length c1) := (blk_cell hg 0).trans rfl
  have hc1 : w.cell? ⟨ga, 1, none⟩ = some (.slice A2 l2.length c2) := (blk_cell hg 1).trans rfl
  have HC0 := Aside0.mk hc0
  have HC1 := Aside0.mk hc1
  have HR1 := Aside0.mk hr1
  have HR2 := Aside0.mk hr2
  have HL1 := Aside0.mk hl1
  have HL2 := Aside0.mk hl2
  have HB := Aside0.mk (Below.refl w.heap.size w)
  have i1 : (l1.length : Int) ≤ 1000001 := by omega
  have i2 : (l2.length : Int) ≤ 1000001 := by omega
  clear hg hr1 hr2
  go_enter Tryd.func28, Tryd.ntmps28
  go_wp2
  go_loopg [3, 11] 2 (fun gg v3 v11 w' => ∃ j : Nat, j ≤ 2 ∧ 2 - j ≤ gg ∧ v11 = .int .i64 j ∧ v3 = .int .i64 (if j = 0 then 0 else if j = 1 then (l1.length : Int) else ((l1.length + l2.length : Nat) : Int)) ∧ w' = w)
  case atStart => exact ⟨0, by omega, by omega, rfl, rfl, rfl⟩
  case round =>
    obtain ⟨j, hj, hjg, rfl, rfl, hwr⟩ := hrel
    obtain rfl := hwr.symm
    clear hwr
    have hj3 : j = 0 ∨ j = 1 ∨ j = 2 := by omega
    clear hj
    rcases hj3 with rfl | rfl | rfl
    · rw [if_pos rfl]
      go_wp2
      go_roundg 1
      case measure => omega
      case rel => exact ⟨1, by omega, by omega, by go_num, by rw [if_neg (by decide), if_pos rfl], rfl⟩
    · rw [if_neg (by decide), if_pos rfl]
      have hw : IntKind.i64.wrap ((l1.length : Int) + (l2.length : Int)) = (l1.length : Int) + (l2.length : Int) := by rw [IntKind.wrap_i64]; omega
      go_wp2
      go_roundg 0
      case measure => omega
      case rel => exact ⟨2, by omega, by omega, by go_num, by rw [if_neg (by decide), if_neg (by decide)]; go_num, rfl⟩
    · rw [if_neg (by decide), if_neg (by decide)]
      clear hc0 hc1
      have HGR := Aside0.mk (show ∀ W : World, Calls Tryd.prog 49 #[.slice none 0 0, .int .i64 ((l1.length : Int) + (l2.length : Int))] W (RowPost [] W) by
        intro W
        have := gr_calls (l1.length + l2.length) (by omega) W
        rwa [Int.natCast_add] at this)
      go_wp2_with (first | (go_at_call 49; (with_reducible refine (HGR.out _).mono ?_); rintro e w24 ⟨v24, rfl, hr, hb⟩; have HO := Aside0.mk hr; clear HB; have HB := Aside0.mk hb; clear hr hb))
      go_loopg [6, 27] 2 (fun gg v6 v27 w' => ∃ j : Nat, j ≤ 2 ∧ 2 - j ≤ gg ∧ v27 = .int .i64 j ∧ Aside0 (Kd.R (Kd.int .i64) 3 w' w.heap.size (fun _ => True) v6 (if j = 0 then [] else if j = 1 then l1 else l1 ++ l2)) ∧ Aside0 (Below w.heap.size w w'))
      case atStart => exact ⟨0, by omega, by omega, rfl, ⟨by rw [if_pos rfl]; exact HO.out⟩, HB⟩
      case round =>
        clear HO HB
        obtain ⟨j, hj, hjg, rfl, HO, HB⟩ := hrel
        have hj3 : j = 0 ∨ j = 1 ∨ j = 2 := by omega
        clear hj
        rcases hj3 with rfl | rfl | rfl
        · replace HO := Aside0.mk (show Kd.R (Kd.int .i64) 3 wr w.heap.size (fun _ => True) u6 [] by have := HO.out; rwa [if_pos rfl] at this)
          obtain ⟨Ao, co, eo⟩ := Kd.R_slice HO.out
          subst eo
          have h0 := pw_cell_below HB.out HC0.out
          go_wp2_with (first | ((with_reducible refine gate_builtin (b := .append) (xs := #[.tmp 31, .tmp 32]) rfl ?_); at_builtin; refine Kd.R_append_rows (Kd.int .i64) (Rr := (Kd.int .i64).K w) (w0 := w) w.heap.size rfl (.tmp 31) (.tmp 32) 22 3 (.int .i64 0) 8 rfl Tryd.underlying22 cc_info3 rfl (by decide) (by omega) (.slice Ao 0 co) [] l1 A1 l1.length c1 (fun _ => True) (fun _ => False) rfl rfl ?aO ?aR (fun _ _ h => h) (fun _ h => h.elim) ?aF ?aB ?aS ?aL ?_; (case aO => exact HO.out); (case aR => exact Kd.C_below HR1.out HB.out); (case aF => exact fun _ _ => trivial); (case aB => exact HB.out); (case aS => exact below_size HB.out); (case aL => have := HL1.out; have := HL2.out; simp; omega); intro v33 w33 ho hb hg hat; clear HB HO; have HB := Aside0.mk hb; have HO := Aside0.mk ho; clear hb ho hg hat))
          go_roundg 1
          case measure => omega
          case rel => exact ⟨1, by omega, by omega, by go_num, ⟨by rw [if_neg (by decide), if_pos rfl]; simpa using HO.out⟩, HB⟩
        · replace HO := Aside0.mk (show Kd.R (Kd.int .i64) 3 wr w.heap.size (fun _ => True) u6 l1 by have := HO.out; rwa [if_neg (by decide), if_pos rfl] at this)
          obtain ⟨Ao, co, eo⟩ := Kd.R_slice HO.out
          subst eo
          have h1 := pw_cell_below HB.out HC1.out
          go_wp2_with (first | ((with_reducible refine gate_builtin (b := .append) (xs := #[.tmp 31, .tmp 32]) rfl ?_); at_builtin; refine Kd.R_append_rows (Kd.int .i64) (Rr := (Kd.int .i64).K w) (w0 := w) w.heap.size rfl (.tmp 31) (.tmp 32) 22 3 (.int .i64 0) 8 rfl Tryd.underlying22 cc_info3 rfl (by decide) (by omega) (.slice Ao l1.length co) l1 l2 A2 l2.length c2 (fun _ => True) (fun _ => False) rfl rfl ?aO ?aR (fun _ _ h => h) (fun _ h => h.elim) ?aF ?aB ?aS ?aL ?_; (case aO => exact HO.out); (case aR => exact Kd.C_below HR2.out HB.out); (case aF => exact fun _ _ => trivial); (case aB => exact HB.out); (case aS => exact below_size HB.out); (case aL => have := HL1.out; have := HL2.out; simp; omega); intro v33 w33 ho hb hg hat; clear HB HO; have HB := Aside0.mk hb; have HO := Aside0.mk ho; clear hb ho hg hat))
          go_roundg 0
          case measure => omega
          case rel => exact ⟨2, by omega, by omega, by go_num, ⟨by rw [if_neg (by decide), if_neg (by decide)]; exact HO.out⟩, HB⟩
        · obtain ⟨y, hy⟩ : ∃ y, y = l1 ++ l2 := ⟨_, rfl⟩
          replace HO := Aside0.mk (show Kd.R (Kd.int .i64) 3 wr w.heap.size (fun _ => True) u6 y by have := HO.out; rw [if_neg (by decide), if_neg (by decide), ← hy] at this; exact this)
          have HY := Aside0.mk hy
          clear hy
          obtain ⟨Ao, co, eo⟩ := Kd.R_slice HO.out
          subst eo
          go_wp2
          go_ret
          exact ⟨_, rfl, by rw [← HY.out]; exact HO.out, HB.out⟩
end Go.Proofs.YtjfleaekljapeaaDoor.K
