import Derived.Test.YtjfleaekljapeaaDoorSpanRo
import Derived.Deep.DeepMust
import Derived.Test.YtjfleaekljapeaaDoorProg
import Derived.Below
import Derived.Deep.Draws
import Derived.Deep.AppendLies
import Derived.Maps.AppendAt
import Derived.OwnWalk
import Derived.Laws.BytesArg
import Derived.Laws.MakeOwn
import Derived.Laws.OwnMore
import Derived.Deep.OwnRows
import Derived.Tactics
import Derived.Lib.ConvBytes
import Derived.Laws.Slices
import Derived.WalkKit
import Derived.KernelRfl
import Derived.RowKit3
import Derived.Deep.LoopGhost
import Derived.Deep.QuietTactic
import Derived.BigQuiet
import Derived.WideLaws
import Derived.Deep.DeepCutAuto
import Derived.Deep.CutBlock
import Derived.Deep.RegionHeld3
import Derived.Deep.MidRow
import Derived.Laws.Rows
import Derived.Lib.AppendStr
import Derived.ArgAppend
import Derived.Laws.IdiomCopy
import Derived.OrdersHeld
import Derived.Laws.BitsLemmas
import Derived.RowKit
import Derived.RegionTactic
import Derived.Deep.RegionWith
import Derived.Lib.Hide
import Derived.Test.YtjfleaekljapeaaDoorWWords
import Derived.Test.YtjfleaekljapeaaDoorWLast
import Derived.Test.YtjfleaekljapeaaDoorWTab
import Derived.Test.YtjfleaekljapeaaDoorWFour
import Derived.Test.YtjfleaekljapeaaDoorWQPut
import Derived.Test.YtjfleaekljapeaaDoorWApart
import Derived.Test.YtjfleaekljapeaaDoorWArr
import Derived.Test.YtjfleaekljapeaaDoorWZeros
import Derived.Test.YtjfleaekljapeaaDoorWFoot
import Derived.Test.YtjfleaekljapeaaDoorWKept
import Derived.Test.YtjfleaekljapeaaDoorWShare
import Derived.Test.YtjfleaekljapeaaDoorWN
import Derived.Test.YtjfleaekljapeaaDoorWEqStruct
import Derived.Test.YtjfleaekljapeaaDoorWRepsOne
import Derived.Test.YtjfleaekljapeaaDoorWGuard
import Derived.Test.YtjfleaekljapeaaDoorWNEv
import Derived.Test.YtjfleaekljapeaaDoorWMore
import Derived.Deep.RegionLaw
import Derived.Laws.CopyOwn
import Derived.Shelf.Spec.TrailingZeros
namespace Go.Proofs.YtjfleaekljapeaaDoor.K
open Go.RowKit Go.Proofs.YtjfleaekljapeaaDoorW.PrintWords Go.Proofs.YtjfleaekljapeaaDoorW.PrintLast Go.Proofs.YtjfleaekljapeaaDoorW.PrintMore
attribute [local go_sem] max2_int min2_int max_two min_two max_three min_three max_four min_four   -- for this text's walks alone
set_option linter.unusedVariables false
set_option linter.unusedSimpArgs false
set_option linter.unusedSectionVars false
/-! ### hauberklaw15_SpanRows: function 5, typed by hand -/
theorem u64_range (x : Int) : 0 ≤ IntKind.u64.wrap x ∧ IntKind.u64.wrap x < 18446744073709551616 := by
  have : IntKind.u64.wrap x = x % 18446744073709551616 := by rfl
  rw [this]; omega
theorem tmod_small (x m : Int) (hx : 0 ≤ x) (hm : 0 < m) : 0 ≤ x.tmod m ∧ x.tmod m < m := ⟨Int.tmod_nonneg _ hx, Int.tmod_lt_of_pos _ hm⟩
theorem ro_N (x : Int) : ∃ N : Nat, (2 ≤ N ∧ N ≤ 31) ∧ wrap64 (wrap64 ((IntKind.u64.wrap x).tmod 30) + 2) = (N : Int) := by
  obtain ⟨h0, h1⟩ := tmod_small (IntKind.u64.wrap x) 30 (u64_range x).1 (by decide)
  refine ⟨((IntKind.u64.wrap x).tmod 30 + 2).toNat, by omega, ?_⟩
  generalize (IntKind.u64.wrap x).tmod 30 = y at h0 h1
  unfold wrap64; omega
theorem ro_A (x m : Int) (h : 0 < m) (hm : m ≤ 31) : ∃ A : Nat, (A : Int) < m ∧ wrap64 ((IntKind.u64.wrap x).tmod m) = (A : Int) := by
  obtain ⟨h0, h1⟩ := tmod_small (IntKind.u64.wrap x) m (u64_range x).1 h
  refine ⟨((IntKind.u64.wrap x).tmod m).toNat, by omega, ?_⟩
  generalize (IntKind.u64.wrap x).tmod m = y at h0 h1
  unfold wrap64; omega
theorem u64_id (x : Int) (h0 : 0 ≤ x) (h1 : x < 100) : IntKind.u64.wrap x = x := by
  have : IntKind.u64.wrap x = x % 18446744073709551616 := by rfl
  rw [this]; omega
theorem i64_id (x : Int) (h0 : 0 ≤ x) (h1 : x < 100) : IntKind.i64.wrap x = x := by rw [IntKind.wrap_i64]; omega
def roFn (gk : Nat) (v : Value) : Array Value := #[.string ⟨#[109, 97, 105, 110]⟩, .slice none 0 0, .slice (some ⟨gk, 0, none⟩) 2 2, .slice none 0 0, v]
def roV (op dst : Int) : List Value := [.int .i64 op, .int .i64 dst, .int .i64 0, .int .i64 0, .int .u64 0, .int .i64 0, .string ⟨#[]⟩, .slice none 0 0, .slice none 0 0, .int .i64 0]
theorem ro_info44 : (Tryd.prog.info? 44).map (fun i => (i.zero, i.size, i.bytes)) = some (some (.agg (roV 0 0).toArray), 10, 120) := by kernel_rfl
theorem ro_M (W : World) (base : Nat) (ok : Nat → Prop) (op dst : Int) : k44.M W base ok (roI op dst) (roV op dst) :=
  k44_mkM W base ok (roI op dst) (Kd.R_nil _ _ _ _ _) (Kd.R_nil _ _ _ _ _)
/-- While the code is made. -/
structure RoSt (w0 w : World) (gf gk : Nat) (v : Value) (xs : List S44) : Prop where
  hf : w.heap[gf]? = some (.cells (roFn gk v) 25 (0, 0))
  hk : w.heap[gk]? = some (.cells #[.int .i64 1, .int .i64 1] 3 (0, 0))
  hr : Kd.R k44 44 w w0.heap.size (fun _ => True) v xs
  hg : w0.heap.size ≤ gf
  hb : Below w0.heap.size w0 w
theorem ro_store {w0 w : World} {gf gk : Nat} {v v' : Value} {xs : List S44} (hf : w.heap[gf]? = some (.cells (roFn gk v) 25 (0, 0))) (hk : w.heap[gk]? = some (.cells #[.int .i64 1, .int .i64 1] 3 (0, 0))) (hr : Kd.R k44 44 w w0.heap.size (fun _ => True) v' xs) (hg : w0.heap.size ≤ gf) (hb : Below w0.heap.size w0 w) :
    RoSt w0 (w.setCell ⟨gf, 4, none⟩ v') gf gk v' xs :=
  ⟨blk_put hf 4 v' rfl, blk_far hk (blk_ne hk hf (by decide)) v', Kd.R_set hr hf (by decide) 4 v', hg, below_set hb hg⟩
theorem ro_upd {w0 w : World} {gf gk : Nat} {vc : Value} {xs : List S44} (h : RoSt w0 w gf gk vc xs) (k : Nat) (hk : k < xs.length) (op dst : Int) :
    ∃ g cap, vc = .slice (some ⟨g, 0, none⟩) xs.length cap ∧ w.there g (k * 10) 10 ∧ RoSt w0 (w.setCells g (k * 10) (roV op dst)) gf gk vc (xs.set k (roI op dst)) := by
  obtain ⟨g, cap, e, hbg, hgl, cells, hc⟩ := Kd.R_form h.hr (by omega)
  subst e
  obtain ⟨c, hcl, hM, hcc, hfz⟩ := Kd.R_elem h.hr z44 (k : Int) (by omega) (by omega)
  have hcl : c.length = 10 := hcl
  obtain ⟨h1, h2⟩ := Kd.R_seg h.hr (k : Int) (by omega) (by omega) hcl hcc (j := 0) (seg := roV op dst) (by show 0 + 10 ≤ 10; omega) (x' := roI op dst) (okp := fun _ => False)
    (by rw [List.take_zero, List.nil_append, show (roV op dst).length = 10 from rfl, List.drop_of_length_le (by omega), List.append_nil]; exact ro_M _ _ _ _ _) (fun _ hh => hh.elim)
  rw [Int.toNat_natCast] at h1 h2 hcc hfz
  have hB : Below w0.heap.size w0 (w.setCells g (k * 10) (roV op dst)) := h.hb.trans ⟨h2.os, h2.tape, h2.output, h2.size, fun k' hk' => h2.block k' (Nat.lt_of_lt_of_le hk' (below_size h.hb)) (fun he => by injection he with he; omega)⟩
  refine ⟨g, cap, rfl, ?_, ?_⟩
  · intro i hi
    have hi2 : i < c.length := by omega
    have e1 : w.cell? ⟨g, k * 10 + i, none⟩ = some c[i] := hcc i _ (List.getElem?_eq_getElem hi2)
    exact ⟨by rw [e1]; rfl, hfz i⟩
  · have ef : gf ≠ g := fun he => by
      have := h.hf
      rw [he, hc] at this
      have h25 : (44 : Nat) = 25 := by injection this with h3; injection h3
      exact absurd h25 (by decide)
    have ek : gk ≠ g := fun he => by
      have := h.hk
      rw [he, hc] at this
      have h25 : (44 : Nat) = 3 := by injection this with h3; injection h3
      exact absurd h25 (by decide)
    exact ⟨(setCells_far _ _ gf ef).trans h.hf, (setCells_far _ _ gk ek).trans h.hk, h1, h.hg, hB⟩
def roL (first : Bool) (A N : Nat) : List S44 := (List.range N).map fun j => if j = A ∧ first = false then roI 1 0 else roI 1 1
theorem roL_len (first : Bool) (A N : Nat) : (roL first A N).length = N := by simp [roL]
theorem roL_true (A N : Nat) : roL true A N = List.replicate N (roI 1 1) := by
  refine List.ext_getElem (by simp [roL]) fun j h1 h2 => ?_
  simp [roL]
theorem roL_false (A N : Nat) : roL false A N = (List.replicate N (roI 1 1)).set A (roI 1 0) := by
  refine List.ext_getElem (by simp [roL]) fun j h1 h2 => ?_
  rw [List.getElem_set]
  simp only [roL, List.getElem_map, List.getElem_range, List.getElem_replicate, and_true]
  by_cases c : j = A
  · rw [if_pos c, if_pos c.symm]
  · rw [if_neg c, if_neg (Ne.symm c)]
theorem roL_code (first : Bool) (A B N : Nat) (hB : B < N) : (roL first A N).set B (roI 20 0) ++ [roI 43 0] = roCode first N A B := by
  unfold roCode
  congr 1
  refine List.ext_getElem (by simp [roL]) fun j h1 h2 => ?_
  rw [List.getElem_set]
  simp only [roL, List.getElem_map, List.getElem_range, roIns]
  by_cases c : j = B
  · rw [if_pos c.symm, if_pos c]
  · rw [if_neg (Ne.symm c), if_neg c]
end Go.Proofs.YtjfleaekljapeaaDoor.K
