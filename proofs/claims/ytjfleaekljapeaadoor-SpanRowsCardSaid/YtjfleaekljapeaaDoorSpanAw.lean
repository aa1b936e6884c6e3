import Derived.Test.YtjfleaekljapeaaDoorSpanS
import Derived.Deep.DeepMust
import Derived.Test.YtjfleaekljapeaaDoorProg
import Derived.Below
import Derived.Deep.Draws
import Derived.Deep.AppendLies
import Derived.Maps.AppendAt
import Derived.OwnWalk
import Derived.Laws.BytesArg
import Derived.Laws.MakeOwn
import Derived.Laws.OwnMore
import Derived.Deep.OwnRows
import Derived.Tactics
import Derived.Lib.ConvBytes
import Derived.Laws.Slices
import Derived.WalkKit
import Derived.KernelRfl
import Derived.RowKit3
import Derived.Deep.LoopGhost
import Derived.Deep.QuietTactic
import Derived.BigQuiet
import Derived.WideLaws
import Derived.Deep.DeepCutAuto
import Derived.Deep.CutBlock
import Derived.Deep.RegionHeld3
import Derived.Laws.Rows
import Derived.Lib.AppendStr
import Derived.ArgAppend
import Derived.Laws.IdiomCopy
import Derived.OrdersHeld
import Derived.Laws.BitsLemmas
import Derived.RowKit
import Derived.RegionTactic
import Derived.Deep.RegionWith
import Derived.Lib.Hide
import Derived.Test.YtjfleaekljapeaaDoorWWords
import Derived.Test.YtjfleaekljapeaaDoorWLast
import Derived.Test.YtjfleaekljapeaaDoorWTab
import Derived.Test.YtjfleaekljapeaaDoorWFour
import Derived.Test.YtjfleaekljapeaaDoorWQPut
import Derived.Test.YtjfleaekljapeaaDoorWApart
import Derived.Test.YtjfleaekljapeaaDoorWArr
import Derived.Test.YtjfleaekljapeaaDoorWZeros
import Derived.Test.YtjfleaekljapeaaDoorWFoot
import Derived.Test.YtjfleaekljapeaaDoorWKept
import Derived.Test.YtjfleaekljapeaaDoorWShare
import Derived.Test.YtjfleaekljapeaaDoorWN
import Derived.Test.YtjfleaekljapeaaDoorWEqStruct
import Derived.Test.YtjfleaekljapeaaDoorWRepsOne
import Derived.Test.YtjfleaekljapeaaDoorWGuard
import Derived.Test.YtjfleaekljapeaaDoorWNEv
import Derived.Test.YtjfleaekljapeaaDoorWMore
import Derived.Deep.RegionLaw
import Derived.Laws.CopyOwn
import Derived.Shelf.Spec.TrailingZeros
namespace Go.Proofs.YtjfleaekljapeaaDoor.K
open Go.RowKit Go.Proofs.YtjfleaekljapeaaDoorW.PrintWords Go.Proofs.YtjfleaekljapeaaDoorW.PrintLast Go.Proofs.YtjfleaekljapeaaDoorW.PrintMore
attribute [local go_sem] max2_int min2_int max_two min_two max_three min_three max_four min_four   -- for this text's walks alone
set_option linter.unusedVariables false
set_option linter.unusedSimpArgs false
set_option linter.unusedSectionVars false
/-! ### hauberklaw15.awake: function 10 -/
def awI (op dst a b n : Int) (args : List Int) : S44 := ⟨op, dst, a, b, n, 0, ⟨#[]⟩, args, [], 0⟩
def awCode : List S44 := [awI 1 0 0 0 0 [], awI 1 1 0 0 0 [], awI 3 2 0 1 1 [], awI 43 0 0 0 0 [2]]
def awR : List Int := [0, 1, 3, 4, 0]
theorem aw_run : lvRun awCode 2 (List.replicate (awCode.length + 1) 0) = some awR := by decide +kernel
theorem aw_mem1 : lvMem 1 = [0] := by rw [lvMem_odd 0 (by omega), lvMem_zero]; rfl
theorem aw_mem3 : lvMem 3 = [0, 1] := by rw [lvMem_odd 1 (by omega), aw_mem1]; rfl
theorem aw_mem4 : lvMem 4 = [2] := by rw [lvMem_double 2 (by omega), lvMem_double 1 (by omega), aw_mem1]; rfl
theorem aw_lists : lvLists awR awCode.length = [[], [0], [0, 1], [2]] := by
  show [lvMem 0, lvMem 1, lvMem 3, lvMem 4] = _
  rw [lvMem_zero, aw_mem1, aw_mem3, aw_mem4]
theorem four {P : Nat → Prop} (h0 : P 0) (h1 : P 1) (h2 : P 2) (h3 : P 3) : ∀ n, n < 4 → P n := by
  intro n hn
  have : n = 0 ∨ n = 1 ∨ n = 2 ∨ n = 3 := by omega
  rcases this with rfl | rfl | rfl | rfl <;> assumption
theorem aw_ok : LvOk awCode where
  len := by decide
  next := four (by decide +kernel) (by decide +kernel) (by decide +kernel) (by decide +kernel)
  wr := four (by decide +kernel) (by decide +kernel) (by decide +kernel) (by decide +kernel)
  rds := four (by decide +kernel) (by decide +kernel) (by decide +kernel) (by decide +kernel)
  args := four (by decide +kernel) (by decide +kernel) (by decide +kernel) (by decide +kernel)
  outs := four (by decide +kernel) (by decide +kernel) (by decide +kernel) (by decide +kernel)
theorem aw_sp : SpOk (lvLists awR awCode.length) awCode 3 [] := by
  rw [aw_lists]
  exact ⟨rfl, four (by decide +kernel) (by decide +kernel) (by decide +kernel) (by decide +kernel), four (by decide +kernel) (by decide +kernel) (by decide +kernel) (by decide +kernel), four (by decide +kernel) (by decide +kernel) (by decide +kernel) (by decide +kernel), by simp, by simp⟩
theorem aw_res : spRes (lvLists awR awCode.length) awCode 3 [] = [(0, 2), (1, 2), (2, 3)] := by
  rw [aw_lists]
  decide +kernel
def awV (i : S44) (v7 : Value) : List Value := [.int .i64 i.f0, .int .i64 i.f1, .int .i64 i.f2, .int .i64 i.f3, .int .u64 i.f4, .int .i64 i.f5, .string i.f6, v7, .slice none 0 0, .int .i64 i.f9]
def awCells (a1 : Nat) : Array Value := (awV (awI 1 0 0 0 0 []) (.slice none 0 0) ++ (awV (awI 1 1 0 0 0 []) (.slice none 0 0) ++ (awV (awI 3 2 0 1 1 []) (.slice none 0 0) ++ awV (awI 43 0 0 0 0 [2]) (.slice (some ⟨a1, 0, none⟩) 1 1)))).toArray
theorem nil_int (W : World) : (Kd.int .i64).C W none ([] : List Int).length [] := ⟨rfl, by simp, fun h => absurd h (by simp)⟩
theorem aw_K0 (W : World) (op dst a b n : Int) : k44.K W (awI op dst a b n []) (awV (awI op dst a b n []) (.slice none 0 0)) :=
  k44_mk W (awI op dst a b n []) (A7 := none) (c7 := 0) (Nat.le_refl _) (nil_int W) (A8 := none) (c8 := 0) (Nat.le_refl _) (nil_int W)
theorem aw_K1 {W : World} {a1 : Nat} (h : W.heap[a1]? = some (.cells #[.int .i64 2] 3 (0, 0))) (op dst a b n : Int) : k44.K W (awI op dst a b n [2]) (awV (awI op dst a b n [2]) (.slice (some ⟨a1, 0, none⟩) 1 1)) :=
  k44_mk W (awI op dst a b n [2]) (A7 := some ⟨a1, 0, none⟩) (c7 := 1) (Nat.le_refl _) (one_int h) (A8 := none) (c8 := 0) (Nat.le_refl _) (nil_int W)
theorem row_C {α : Type} {d : Kd α} {W : World} {g t : Nat} {cur : List Value} {xs : List α} (h : W.heap[g]? = some (.cells cur.toArray t (0, 0))) (hr : Reps (d.K W) d.sz xs cur) (hl : xs.length ≤ 9223372036854775807) : d.C W (some ⟨g, 0, none⟩) xs.length xs := by
  refine ⟨rfl, hl, fun _ => ⟨_, rfl, fun j p hj => ⟨(cur.drop (j * d.sz)).take d.sz, d.K_len (hr.2 j p hj), hr.2 j p hj, fun i u hi => ?_⟩⟩⟩
  have hi2 : i < d.sz := by have h1 := (List.getElem?_eq_some_iff.1 hi).1; rw [d.K_len (hr.2 j p hj)] at h1; exact h1
  rw [add_plain, blk_cell h, List.getElem?_toArray]
  rw [List.getElem?_take, if_pos hi2, List.getElem?_drop] at hi
  exact hi
theorem aw_C {W : World} {a1 a2 : Nat} (h1 : W.heap[a1]? = some (.cells #[.int .i64 2] 3 (0, 0))) (h2 : W.heap[a2]? = some (.cells (awCells a1) 44 (0, 0))) : Kd.C k44 W (some ⟨a2, 0, none⟩) 4 awCode := by
  refine row_C (cur := awV (awI 1 0 0 0 0 []) (.slice none 0 0) ++ (awV (awI 1 1 0 0 0 []) (.slice none 0 0) ++ (awV (awI 3 2 0 1 1 []) (.slice none 0 0) ++ awV (awI 43 0 0 0 0 [2]) (.slice (some ⟨a1, 0, none⟩) 1 1)))) h2 ?_ (by decide)
  have e : awV (awI 43 0 0 0 0 [2]) (.slice (some ⟨a1, 0, none⟩) 1 1) = awV (awI 43 0 0 0 0 [2]) (.slice (some ⟨a1, 0, none⟩) 1 1) ++ [] := by simp
  rw [e]
  exact Reps.front (aw_K0 W 1 0 0 0 0) rfl (Reps.front (aw_K0 W 1 1 0 0 0) rfl (Reps.front (aw_K0 W 3 2 0 1 1) rfl (Reps.front (aw_K1 h1 43 0 0 0 0) rfl (Reps.none _ _) rfl) rfl) rfl) rfl
theorem kinds_C {W : World} {a0 : Nat} (h : W.heap[a0]? = some (.cells #[.int .i64 1, .int .i64 1, .int .i64 1] 3 (0, 0))) : (Kd.int .i64).C W (some ⟨a0, 0, none⟩) 3 [1, 1, 1] := by
  refine row_C (d := Kd.int .i64) (cur := [.int .i64 1, .int .i64 1, .int .i64 1]) h ?_ (by decide)
  exact ⟨rfl, fun j p hj => by
    have hj3 : j < 3 := (List.getElem?_eq_some_iff.1 hj).1
    have : j = 0 ∨ j = 1 ∨ j = 2 := by omega
    rcases this with rfl | rfl | rfl <;> (have e : (1 : Int) = p := by simpa using hj) <;> subst e <;> rfl⟩
theorem aw_spans (a0 a1 a2 : Nat) (W : World) (h0 : W.heap[a0]? = some (.cells #[.int .i64 1, .int .i64 1, .int .i64 1] 3 (0, 0))) (h1 : W.heap[a1]? = some (.cells #[.int .i64 2] 3 (0, 0))) (h2 : W.heap[a2]? = some (.cells (awCells a1) 44 (0, 0))) (hT : TzTab W) (hp : 0 < W.heap.size) :
    Calls Tryd.prog 14 #[.agg #[.string ⟨#[102]⟩, .slice none 0 0, .slice (some ⟨a0, 0, none⟩) 3 3, .slice none 0 0, .slice (some ⟨a2, 0, none⟩) 4 4]] W (SpPost [(0, 2), (1, 2), (2, 3)] 3 W) := by
  have := spans_calls ⟨#[102]⟩ none 0 [] (some ⟨a0, 0, none⟩) 3 [1, 1, 1] none 0 [] (some ⟨a2, 0, none⟩) 4 awCode W (nil_int W) (Nat.le_refl _) (kinds_C h0) (Nat.le_refl _) (nil_int W) (Nat.le_refl _) (aw_C h1 h2) (Nat.le_refl _) (by decide) aw_ok 2 awR aw_run (by decide) aw_sp hT hp
  have e := aw_res
  rw [show ([1, 1, 1] : List Int).length = 3 from rfl, e] at this
  exact this
theorem three_new (W : World) (A B C : Obj) : (((W.alloc A).alloc B).alloc C).heap[W.heap.size + 1 + 1]? = some C := by
  have := two_new (W.alloc A) B C
  rw [show (W.alloc A).heap.size = W.heap.size + 1 by simp] at this
  exact this
theorem three_below (w : World) (A B C : Obj) : Below w.heap.size w (((w.alloc A).alloc B).alloc C) := (((Below.refl _ _).alloc (Nat.le_refl _) _).alloc (by simp) _).alloc (by simp; omega) _
def AwPost (w : World) (e : Ending) (w' : World) : Prop := e = .returned (.bool true) ∧ Below w.heap.size w w'
set_option maxHeartbeats 2000000 in
set_option maxRecDepth 100000 in
theorem awake_calls (w : World) (hT : TzTab w) (hp : 0 < w.heap.size) : Calls Tryd.prog 10 #[] w (AwPost w) := by
  have hu39 := Tryd.underlying39
  have hu44 := Tryd.underlying44
  have hu25 := Tryd.underlying25
  have HT := Aside0.mk hT
  clear hT
  go_enter Tryd.func10, Tryd.ntmps10
  go_wp2_with (first | (go_at_call 14; (with_reducible refine (aw_spans w.heap.size (w.heap.size + 1) (w.heap.size + 1 + 1) _ ?h0 ?h1 ?h2 ?h3 ?h4).mono ?_); (case h0 => exact lv_al (lv_al (heap_alloc_new w _) _) _); (case h1 => exact lv_al (two_new w _ _) _); (case h2 => exact three_new w _ _ _); (case h3 => exact HT.out.below hp (three_below w _ _ _)); (case h4 => simp); rintro e w10 ⟨g, rfl, hg, hl, hlo, hb⟩; have HB := Aside0.mk (below_step (three_below w _ _ _) hb); have hs0 : w10.cell? ⟨g, 0, none⟩ = some (.int .i64 0) := (blk_cell hg 0).trans rfl; have hs1 : w10.cell? ⟨g, 1, none⟩ = some (.int .i64 2) := (blk_cell hg 1).trans rfl; have hs2 : w10.cell? ⟨g, 2, none⟩ = some (.int .i64 1) := (blk_cell hg 2).trans rfl; have hs3 : w10.cell? ⟨g, 3, none⟩ = some (.int .i64 2) := (blk_cell hg 3).trans rfl; have hs4 : w10.cell? ⟨g, 4, none⟩ = some (.int .i64 2) := (blk_cell hg 4).trans rfl; have hs5 : w10.cell? ⟨g, 5, none⟩ = some (.int .i64 3) := (blk_cell hg 5).trans rfl; clear hg hl hlo hb))
  go_ret
  exact ⟨rfl, HB.out⟩
end Go.Proofs.YtjfleaekljapeaaDoor.K
