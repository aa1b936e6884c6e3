import Derived.Test.YtjfleaekljapeaaDoorSpanMt
import Derived.Test.YtjfleaekljapeaaDoorK75
import Derived.Deep.DeepMust
import Derived.Test.YtjfleaekljapeaaDoorProg
import Derived.Below
import Derived.Deep.Draws
import Derived.Deep.AppendLies
import Derived.Maps.AppendAt
import Derived.OwnWalk
import Derived.Laws.BytesArg
import Derived.Laws.MakeOwn
import Derived.Laws.OwnMore
import Derived.Deep.OwnRows
import Derived.Tactics
import Derived.Lib.ConvBytes
import Derived.Laws.Slices
import Derived.WalkKit
import Derived.KernelRfl
import Derived.RowKit3
import Derived.Deep.LoopGhost
import Derived.Deep.QuietTactic
import Derived.BigQuiet
import Derived.WideLaws
import Derived.Deep.DeepCutAuto
import Derived.Deep.CutBlock
import Derived.Deep.RegionHeld3
import Derived.Laws.Rows
import Derived.Lib.AppendStr
import Derived.ArgAppend
import Derived.Laws.IdiomCopy
import Derived.OrdersHeld
import Derived.Laws.BitsLemmas
import Derived.RowKit
import Derived.RegionTactic
import Derived.Deep.RegionWith
import Derived.Lib.Hide
import Derived.Test.YtjfleaekljapeaaDoorWWords
import Derived.Test.YtjfleaekljapeaaDoorWLast
import Derived.Test.YtjfleaekljapeaaDoorWTab
import Derived.Test.YtjfleaekljapeaaDoorWFour
import Derived.Test.YtjfleaekljapeaaDoorWQPut
import Derived.Test.YtjfleaekljapeaaDoorWApart
import Derived.Test.YtjfleaekljapeaaDoorWArr
import Derived.Test.YtjfleaekljapeaaDoorWZeros
import Derived.Test.YtjfleaekljapeaaDoorWFoot
import Derived.Test.YtjfleaekljapeaaDoorWKept
import Derived.Test.YtjfleaekljapeaaDoorWShare
import Derived.Test.YtjfleaekljapeaaDoorWN
import Derived.Test.YtjfleaekljapeaaDoorWEqStruct
import Derived.Test.YtjfleaekljapeaaDoorWRepsOne
import Derived.Test.YtjfleaekljapeaaDoorWGuard
import Derived.Test.YtjfleaekljapeaaDoorWNEv
import Derived.Test.YtjfleaekljapeaaDoorWMore
import Derived.Deep.RegionLaw
import Derived.Laws.CopyOwn
import Derived.Shelf.Spec.TrailingZeros
namespace Go.Proofs.YtjfleaekljapeaaDoor.K
open Go.RowKit Go.Proofs.YtjfleaekljapeaaDoorW.PrintWords Go.Proofs.YtjfleaekljapeaaDoorW.PrintLast Go.Proofs.YtjfleaekljapeaaDoorW.PrintMore
attribute [local go_sem] max2_int min2_int max_two min_two max_three min_three max_four min_four   -- for this text's walks alone
set_option linter.unusedVariables false
set_option linter.unusedSimpArgs false
set_option linter.unusedSectionVars false
/-! ### hauberklaw15_SpanMost: function 8, typed by hand -/
structure C66 where
  f0 : Int
  f1 : Int
def z66 : C66 := ⟨0, 0⟩
def k66 : Kd C66 := Kd.iso (Kd.pair (Kd.int .u8) (Kd.int .u8)) (fun x : C66 => (x.f0, x.f1))
theorem k66_open {w : World} {x : C66} {cs : List Value} (h : k66.K w x cs) : cs = [.int .u8 x.f0, .int .u8 x.f1] := by
  obtain ⟨_, _, rfl, rfl, rfl⟩ := h
  exact rfl
def rd66 (xs : List C66) (k : Nat) : C66 := xs.getD k z66
theorem at_66 {w : World} {A : Option Addr} {n : Nat} {xs : List C66} (h : Kd.C k66 w A n xs) (k : Nat) (h1 : k < n) : ∃ ad , A = some ad ∧ w.cell? (ad.add (k * 2)) = some (.int .u8 (rd66 xs k).f0) ∧ w.cell? ⟨(ad.add (k * 2)).block, (ad.add (k * 2)).off + 1, none⟩ = some (.int .u8 (rd66 xs k).f1) := by
  obtain ⟨ad, c, e, _, hK, hc0⟩ := Kd.C_get h z66 (k : Int) (by omega) (by omega)
  have hc : ∀ j u, c[j]? = some u → w.cell? (ad.add (k * 2 + j)) = some u := hc0
  obtain rfl := k66_open hK
  exact ⟨ad, e, hc 0 _ rfl, by rw [← add_field _ _ 1 (by omega)]; exact hc 1 _ rfl⟩
def moSp (l : List C66) : List S39 := l.map fun x => ⟨x.f0, x.f1⟩
def holdsAt (n : Int) (x : S39) : Bool := decide (x.f0 ≤ n) && decide (n ≤ x.f1)
def cntAt (s : List S39) (n : Int) : Nat := s.countP (holdsAt n)
def mst (s : List S39) : Nat → Nat
  | 0 => 0
  | n + 1 => max (mst s n) (cntAt s n)
theorem cntAt_take (s : List S39) (n : Int) (k : Nat) (hk : k < s.length) : cntAt (s.take (k + 1)) n = cntAt (s.take k) n + (if holdsAt n (s.getD k z39) then 1 else 0) := by
  unfold cntAt
  rw [List.take_add_one, List.countP_append, List.getElem?_eq_getElem hk, List.getD_eq_getElem?_getD, List.getElem?_eq_getElem hk]
  simp [List.countP_cons]
theorem cntAt_le (s : List S39) (n : Int) : cntAt s n ≤ s.length := List.countP_le_length
theorem mst_le (s : List S39) : ∀ k, mst s k ≤ s.length
  | 0 => Nat.zero_le _
  | k + 1 => by
    exact Nat.max_le.2 ⟨mst_le s k, cntAt_le s (k : Int)⟩
theorem holds_meet (x : Int) (y : S39) : span_Meet.f x x y.f0 y.f1 = some (holdsAt x y) := by
  rw [spanMeet_f]
  unfold meetB holdsAt
  congr 1
  rw [Bool.eq_iff_iff]
  simp only [Bool.and_eq_true, decide_eq_true_eq]
  omega
theorem mx_max (a b : Int) : mx a b = max a b := by unfold mx; split <;> omega
theorem most_l1 (s : List S39) (hs : s.length ≤ 40) (i : Nat) (hi : i < s.length) (m : Nat) (R : Int) (F : Nat)
    (hR : ∀ k, F ≤ k → span_Most.l0 (k) s (if (s.getD i z39).f0 ≤ (s.getD i z39).f1 then max (m : Int) (cntAt s (s.getD i z39).f0) else m) s s.length ((i : Int) + 1) = some R) :
    ∀ (d : Nat) (j : Nat), s.length - j = d → j ≤ s.length → ∀ k, F + d + 1 ≤ k → span_Most.l1 k s m (cntAt (s.take j) (s.getD i z39).f0) s s.length i s s.length j (s.getD i z39).f0 (s.getD i z39).f1 = some R
  | d, j, hd, hj, 0, hk => by omega
  | d, j, hd, hj, k + 1, hk => by
    unfold span_Most.l1
    have hc := cntAt_le (s.take j) (s.getD i z39).f0
    rw [List.length_take] at hc
    by_cases c : j < s.length
    · have e1 : wrap64 ((j : Int) + 1) = ((j + 1 : Nat) : Int) := by unfold wrap64; omega
      have e2 : wrap64 ((cntAt (s.take j) (s.getD i z39).f0 : Int) + 1) = ((cntAt (s.take j) (s.getD i z39).f0 + 1 : Nat) : Int) := by unfold wrap64; omega
      have er : rd_T39 s (j : Int) = s.getD j z39 := by unfold rd_T39; simp
      rw [if_pos (by omega), if_pos (by omega), if_pos (by omega), er, holds_meet, e1, e2]
      show (if holdsAt _ _ = true then _ else _) = _
      have ht := cntAt_take s (s.getD i z39).f0 j c
      have ih := most_l1 s hs i hi m R F hR (d - 1) (j + 1) (by omega) (by omega) k (by omega)
      by_cases ch : holdsAt (s.getD i z39).f0 (s.getD j z39) = true
      · rw [if_pos ch]; rw [if_pos ch] at ht; rw [← ht]; exact ih
      · rw [if_neg ch]; rw [if_neg ch] at ht; have ht2 := ht.trans (Nat.add_zero _); rw [← ht2]; exact ih
    · have ej : j = s.length := by omega
      subst ej
      rw [if_neg (by omega), List.take_length]
      have e1 : wrap64 ((i : Int) + 1) = (i : Int) + 1 := by unfold wrap64; omega
      have := hR k (by omega)
      rw [e1]
      by_cases cf : (s.getD i z39).f0 ≤ (s.getD i z39).f1
      · rw [if_pos cf, mx_max]; rw [if_pos cf] at this
        exact this
      · rw [if_neg cf]; rw [if_neg cf] at this
        exact this
def bst (s : List S39) : Nat → Nat
  | 0 => 0
  | i + 1 => if (s.getD i z39).f0 ≤ (s.getD i z39).f1 then max (bst s i) (cntAt s (s.getD i z39).f0) else bst s i
theorem most_l0 (s : List S39) (hs : s.length ≤ 40) : ∀ (d i : Nat), s.length - i = d → i ≤ s.length → ∀ k, 50 * d + 1 ≤ k → span_Most.l0 k s (bst s i) s s.length i = some (bst s s.length : Int)
  | d, i, hd, hi, 0, hk => by omega
  | d, i, hd, hi, k + 1, hk => by
    unfold span_Most.l0
    by_cases c : i < s.length
    · have er : rd_T39 s (i : Int) = s.getD i z39 := by unfold rd_T39; simp
      rw [if_pos (by omega), if_pos (by omega), if_pos (by omega), er]
      have := most_l1 s hs i c (bst s i) (bst s s.length : Int) (50 * (d - 1) + 1) (fun k' hk' => by
        have ih := most_l0 s hs (d - 1) (i + 1) (by omega) (by omega) k' (by omega)
        rw [← ih]
        congr 1
        show _ = ((if (s.getD i z39).f0 ≤ (s.getD i z39).f1 then max (bst s i) (cntAt s (s.getD i z39).f0) else bst s i : Nat) : Int)
        split <;> omega) s.length 0 (by omega) (by omega) k (by omega)
      simpa [cntAt] using this
    · have : i = s.length := by omega
      subst this
      rw [if_neg (by omega)]
termination_by d => d
theorem most_f (s : List S39) (hs : s.length ≤ 40) : span_Most.f 2001 s = some (bst s s.length : Int) := by
  have := most_l0 s hs s.length 0 (by omega) (by omega) 2001 (by omega)
  exact this
theorem bst_mono (s : List S39) (i : Nat) : bst s i ≤ bst s (i + 1) := by
  show bst s i ≤ (if (s.getD i z39).f0 ≤ (s.getD i z39).f1 then max (bst s i) (cntAt s (s.getD i z39).f0) else bst s i)
  split
  · exact Nat.le_max_left _ _
  · exact Nat.le_refl _
theorem bst_le (s : List S39) (i : Nat) : ∀ d, bst s i ≤ bst s (i + d)
  | 0 => Nat.le_refl _
  | d + 1 => Nat.le_trans (bst_le s i d) (bst_mono s (i + d))
theorem bst_ge (s : List S39) (i : Nat) (hi : i < s.length) (hv : (s.getD i z39).f0 ≤ (s.getD i z39).f1) : cntAt s (s.getD i z39).f0 ≤ bst s s.length := by
  have h1 : cntAt s (s.getD i z39).f0 ≤ bst s (i + 1) := by
    have e : bst s (i + 1) = max (bst s i) (cntAt s (s.getD i z39).f0) := if_pos hv
    rw [e]; exact Nat.le_max_right _ _
  have h2 := bst_le s (i + 1) (s.length - (i + 1))
  rw [show i + 1 + (s.length - (i + 1)) = s.length by omega] at h2
  omega
theorem mst_mono (s : List S39) (i : Nat) : ∀ d, mst s i ≤ mst s (i + d)
  | 0 => Nat.le_refl _
  | d + 1 => Nat.le_trans (mst_mono s i d) (Nat.le_max_left _ _)
theorem mst_ge (s : List S39) (n k : Nat) (h : n < k) : cntAt s n ≤ mst s k := by
  have h1 : cntAt s n ≤ mst s (n + 1) := Nat.le_max_right _ _
  have h2 := mst_mono s (n + 1) (k - (n + 1))
  rw [show n + 1 + (k - (n + 1)) = k by omega] at h2
  omega
theorem bst_le_mst (s : List S39) (h : ∀ x ∈ s, 0 ≤ x.f0 ∧ x.f0 < 256) : ∀ i, i ≤ s.length → bst s i ≤ mst s 256
  | 0, _ => Nat.zero_le _
  | i + 1, hi => by
    have ih := bst_le_mst s h i (by omega)
    show (if _ then max _ _ else _) ≤ _
    split
    · have hm : s.getD i z39 ∈ s := by rw [List.getD_eq_getElem?_getD, List.getElem?_eq_getElem (by omega : i < s.length)]; exact List.getElem_mem _
      obtain ⟨h0, h1⟩ := h _ hm
      have := mst_ge s (s.getD i z39).f0.toNat 256 (by omega)
      rw [Int.toNat_of_nonneg h0] at this
      exact Nat.max_le.2 ⟨ih, this⟩
    · exact ih
theorem exists_max (l : List S39) (h : l ≠ []) : ∃ x ∈ l, ∀ y ∈ l, y.f0 ≤ x.f0 := by
  induction l with
  | nil => exact absurd rfl h
  | cons a r ih =>
    by_cases hr : r = []
    · subst hr
      exact ⟨a, List.mem_cons_self, fun y hy => by rw [List.mem_singleton.1 hy]; exact Int.le_refl _⟩
    · obtain ⟨x, hx, hm⟩ := ih hr
      by_cases c : x.f0 ≤ a.f0
      · refine ⟨a, List.mem_cons_self, fun y hy => ?_⟩
        rcases List.mem_cons.1 hy with rfl | hy
        · exact Int.le_refl _
        · exact Int.le_trans (hm y hy) c
      · refine ⟨x, List.mem_cons_of_mem _ hx, fun y hy => ?_⟩
        rcases List.mem_cons.1 hy with rfl | hy
        · omega
        · exact hm y hy
theorem cnt_le_bst (s : List S39) (n : Int) : cntAt s n ≤ bst s s.length := by
  by_cases hf : s.filter (holdsAt n) = []
  · unfold cntAt
    rw [List.countP_eq_length_filter, hf]
    exact Nat.zero_le _
  · obtain ⟨x, hx, hm⟩ := exists_max _ hf
    obtain ⟨hxs, hxh⟩ := List.mem_filter.1 hx
    obtain ⟨i, hi, rfl⟩ := List.getElem_of_mem hxs
    have eg : s.getD i z39 = s[i] := by rw [List.getD_eq_getElem?_getD, List.getElem?_eq_getElem hi]; rfl
    unfold holdsAt at hxh
    simp only [Bool.and_eq_true, decide_eq_true_eq] at hxh
    have h1 := bst_ge s i hi (by rw [eg]; omega)
    rw [eg] at h1
    refine Nat.le_trans ?_ h1
    unfold cntAt
    refine List.countP_mono_left fun y hy hh => ?_
    have hmy := hm y (List.mem_filter.2 ⟨hy, hh⟩)
    unfold holdsAt at hh ⊢
    simp only [Bool.and_eq_true, decide_eq_true_eq] at hh ⊢
    omega
theorem mst_le_bst (s : List S39) : ∀ k, mst s k ≤ bst s s.length
  | 0 => Nat.zero_le _
  | k + 1 => by
    exact Nat.max_le.2 ⟨mst_le_bst s k, cnt_le_bst s (k : Int)⟩
theorem most_eq (s : List S39) (h : ∀ x ∈ s, 0 ≤ x.f0 ∧ x.f0 < 256) : bst s s.length = mst s 256 :=
  Nat.le_antisymm (bst_le_mst s h _ (Nat.le_refl _)) (mst_le_bst s 256)
set_option maxHeartbeats 4000000 in
set_option maxRecDepth 100000 in
theorem most_calls (l : List C66) (A0 : Option Addr) (c0 : Nat) (w : World) (hl : ∀ x ∈ l, (0 ≤ x.f0 ∧ x.f0 < 256) ∧ (0 ≤ x.f1 ∧ x.f1 < 256)) (hr0 : Kd.C k66 w A0 l.length l) (hc0 : l.length ≤ c0) (hT : TzTab w) (hp : 0 < w.heap.size) :
    Calls Tryd.prog 8 #[.slice A0 l.length c0] w (AwPost w) := by
  have hu39 := Tryd.underlying39
  have hu66 := Tryd.underlying66
  have hu65 := Tryd.underlying65
  have hu33 := Tryd.underlying33
  have HT := Aside0.mk hT
  have HR := Aside0.mk hr0
  have HL := Aside0.mk hl
  have HC := Aside0.mk hc0
  have HB := Aside0.mk (Below.refl w.heap.size w)
  clear hT hr0 hl hc0
  by_cases hlen : 40 < l.length
  · have hd : decide ((40 : Int) < (l.length : Int)) = true := decide_eq_true (by omega)
    clear hlen
    go_enter Tryd.func8, Tryd.ntmps8
    go_wp2_with (first | (go_at_call 10; (with_reducible refine (awake_calls _ ?h1 ?h2).mono ?_); (case h1 => exact HT.out.below hp HB.out); (case h2 => exact Nat.lt_of_lt_of_le hp (below_size HB.out)); rintro e w1 ⟨rfl, hb⟩; have n0_ := Aside0.mk (below_step HB.out hb); clear HB; have HB := n0_; clear n0_ hb))
    go_ret
    exact ⟨rfl, HB.out⟩
  · have hd : decide ((40 : Int) < (l.length : Int)) = false := decide_eq_false (by omega)
    have HLEN := Aside0.mk (show l.length ≤ 40 by omega)
    clear hlen
    go_enter Tryd.func8, Tryd.ntmps8
    go_wp2_with (first | (go_at_call 10; (with_reducible refine (awake_calls _ ?h1 ?h2).mono ?_); (case h1 => exact HT.out.below hp HB.out); (case h2 => exact Nat.lt_of_lt_of_le hp (below_size HB.out)); rintro e w1 ⟨rfl, hb⟩; have n0_ := Aside0.mk (below_step HB.out hb); clear HB; have HB := n0_; clear n0_ hb))
    clear hd
    go_loopg [3, 21] l.length (fun gg v3 v21 w' => ∃ (i : Nat), i ≤ l.length ∧ l.length - i ≤ gg ∧ v21 = .int .i64 i ∧ Aside0 (Kd.R k39 39 w' w.heap.size (fun _ => True) v3 (moSp (l.take i))) ∧ Aside0 (Below w.heap.size w w'))
    case atStart => exact ⟨0, Nat.zero_le _, by omega, rfl, ⟨Kd.R_nil _ _ _ _ _⟩, HB⟩
    case round =>
      clear HB
      obtain ⟨i, hi, hg, rfl, HO, HB⟩ := hrel
      by_cases hlt : i < l.length
      · obtain ⟨ad, eA, hx0, hx1⟩ := at_66 HR.out i hlt
        cases eA
        replace hx0 := (HB.out.cell (World.block_lt_of_cell? w _ hx0)).trans hx0
        replace hx1 := (HB.out.cell (World.block_lt_of_cell? w _ hx1)).trans hx1
        have hm : rd66 l i ∈ l := by unfold rd66; rw [List.getD_eq_getElem?_getD, List.getElem?_eq_getElem hlt]; exact List.getElem_mem _
        obtain ⟨⟨b1, b2⟩, b3, b4⟩ := HL.out _ hm
        have hw0 : IntKind.i64.wrap (rd66 l i).f0 = (rd66 l i).f0 := by rw [IntKind.wrap_i64]; omega
        have hw1 : IntKind.i64.wrap (rd66 l i).f1 = (rd66 l i).f1 := by rw [IntKind.wrap_i64]; omega
        have hwi : IntKind.i64.wrap ((i : Int) + 1) = ((i + 1 : Nat) : Int) := by have := HLEN.out; rw [IntKind.wrap_i64]; omega
        have HN : Aside0 (moSp (l.take (i + 1)) = moSp (l.take i) ++ [⟨(rd66 l i).f0, (rd66 l i).f1⟩]) := ⟨by
          unfold moSp rd66
          rw [List.take_add_one, List.map_append, List.getElem?_eq_getElem hlt, List.getD_eq_getElem?_getD, List.getElem?_eq_getElem hlt]; rfl⟩
        have HLi := Aside0.mk (show (moSp (l.take i)).length ≤ 40 by have := HLEN.out; unfold moSp; simp; omega)
        have p0 : (0 : Int) ≤ (i : Int) := by omega
        have q0 : (i : Int) < (l.length : Int) := by omega
        have q0b : decide ((i : Int) < (l.length : Int)) = true := decide_eq_true q0
        clear hm b1 b2 b3 b4
        go_upto_region 6 with (fail)
        go_cut [5] (fun v5 wc => ∃ g5, v5 = .pointer (some ⟨g5, 0, none⟩) ∧ Aside0 (wc.heap[g5]? = some (.cells #[.int .u8 (rd66 l i).f0, .int .u8 (rd66 l i).f1] 66 (0, 0))) ∧ Aside0 (Kd.R k39 39 wc w.heap.size (fun _ => True) u3 (moSp (l.take i))) ∧ Aside0 (Below w.heap.size w wc))
        case first =>
          go_wp2
          go_meet
          case rel => exact ⟨_, rfl, ⟨heap_alloc_new wr _⟩, ⟨Kd.R_alloc HO.out _⟩, ⟨HB.out.alloc (below_size HB.out) _⟩⟩
        case rest =>
        clear HB HO hx0 hx1
        obtain ⟨g5, rfl, HG, HO, HB⟩ := hcut
        have hy0 : wc.cell? ⟨g5, 0, none⟩ = some (.int .u8 (rd66 l i).f0) := (blk_cell HG.out 0).trans rfl
        have hy1 : wc.cell? ⟨g5, 1, none⟩ = some (.int .u8 (rd66 l i).f1) := (blk_cell HG.out 1).trans rfl
        go_wp2_with (first | ((with_reducible refine gate_builtin (b := .append) (xs := #[.tmp 25, .tmp 33]) rfl ?_); at_builtin; refine Kd.R_append k39 (w0 := w) w.heap.size rfl (.tmp 25) (.tmp 33) 33 39 (.agg #[.int .i64 0, .int .i64 0]) 16 rfl Tryd.underlying33 rp_info39 rfl (by decide) (by omega) u3 (moSp (l.take i)) ⟨(rd66 l i).f0, (rd66 l i).f1⟩ [.int .i64 (rd66 l i).f0, .int .i64 (rd66 l i).f1] (fun _ => True) (fun _ => False) rfl rfl ?aP (fun _ hk => hk.elim) ?aF ?aO ?aB ?aS ?aL ?_; (case aP => exact k39_mkM _ _ _ _); (case aB => exact HB.out); (case aF => exact (fun _ _ => trivial)); (case aO => exact HO.out); (case aS => exact below_size HB.out); (case aL => have := HLi.out; omega); intro v34 w34 ho hb hg hat; rw [← HN.out] at ho; clear HB HO; have HB := Aside0.mk hb; have HO := Aside0.mk ho; clear ho hb hg hat))
        go_roundg (l.length - (i + 1))
        case measure => omega
        case rel => exact ⟨i + 1, by omega, Nat.le_refl _, rfl, HO, HB⟩
      · obtain rfl : i = l.length := by omega
        have q0b : decide ((l.length : Int) < (l.length : Int)) = false := decide_eq_false (by omega)
        rw [List.take_length] at HO
        have HS := Aside0.mk (show ∀ x ∈ moSp l, 0 ≤ x.f0 ∧ x.f0 < 256 by
          intro x hx
          obtain ⟨y, hy, rfl⟩ := List.mem_map.1 hx
          exact (HL.out y hy).1)
        have HSL := Aside0.mk (show (moSp l).length ≤ 40 by have := HLEN.out; unfold moSp; simpa using this)
        clear HL HR HLEN HC hlt hg hi
        generalize moSp l = s at HO HS HSL
        generalize wr = wa at HO HB ⊢
        obtain ⟨A3, c3, rfl, h3, hC3⟩ := Kd.R_reads HO.out
        have HC3 := Aside0.mk hC3
        have H3 := Aside0.mk h3
        have HM := Aside0.mk (show span_Most.f 2001 s = some ((mst s 256 : Nat) : Int) by rw [most_f s HSL.out, most_eq s HS.out])
        clear HO h3 hC3 HS
        have HBB := HB
        clear HB
        have HB := Aside0.mk (Below.refl wa.heap.size wa)
        go_wp2
        clear q0b
        go_loopg [6, 7] 256 (fun gg v6 v7 w' => ∃ (n : Nat), n ≤ 256 ∧ 256 - n ≤ gg ∧ v6 = .int .i64 (mst s n : Nat) ∧ v7 = .int .i64 (n : Nat) ∧ Aside0 (Below wa.heap.size wa w'))
        case atStart => exact ⟨0, by omega, by omega, rfl, rfl, HB⟩
        case round =>
          clear HB
          obtain ⟨n, hn, hg, rfl, rfl, HB⟩ := hrel
          by_cases hlt : n < 256
          · have hd : decide ((n : Int) < 256) = true := decide_eq_true (by omega)
            have hwn : IntKind.i64.wrap ((n : Int) + 1) = ((n + 1 : Nat) : Int) := by rw [IntKind.wrap_i64]; omega
            go_wp2
            go_loopg [8, 42] s.length (fun g2 v8 v42 w2 => ∃ (k : Nat), k ≤ s.length ∧ s.length - k ≤ g2 ∧ v8 = .int .i64 (cntAt (s.take k) (n : Int) : Nat) ∧ v42 = .int .i64 (k : Nat) ∧ Aside0 (Below wa.heap.size wa w2))
            case atStart => exact ⟨0, by omega, by omega, rfl, rfl, ⟨by repeat (first | (with_reducible first | exact HB.out | apply below_alloc | apply pw_below_drewN | apply below_drew1) | exact HB.out)⟩⟩
            case round =>
              clear HB
              obtain ⟨k, hk, hg2, rfl, rfl, HB⟩ := hrel
              by_cases hkl : k < s.length
              · have hdk : decide ((k : Int) < (s.length : Int)) = true := decide_eq_true (by omega)
                have p0 : (0 : Int) ≤ (k : Int) := by omega
                have q0 : (k : Int) < (s.length : Int) := by omega
                obtain ⟨ad3, eA, hx0, hx1⟩ := at_T39 HC3.out (k : Int) p0 q0
                have er : rd_T39 s (k : Int) = s.getD k z39 := by unfold rd_T39; simp
                rw [er] at hx0 hx1
                cases eA
                replace hx0 := (HB.out.cell (World.block_lt_of_cell? wa _ hx0)).trans hx0
                replace hx1 := (HB.out.cell (World.block_lt_of_cell? wa _ hx1)).trans hx1
                have hwk : IntKind.i64.wrap ((k : Int) + 1) = ((k + 1 : Nat) : Int) := by have := HSL.out; rw [IntKind.wrap_i64]; omega
                have hwc : IntKind.i64.wrap ((cntAt (s.take k) (n : Int) : Int) + 1) = ((cntAt (s.take k) (n : Int) + 1 : Nat) : Int) := by have := HSL.out; have := cntAt_le (s.take k) (n : Int); rw [List.length_take] at this; rw [IntKind.wrap_i64]; omega
                have HN := Aside0.mk (cntAt_take s (n : Int) k hkl)
                rw [Int.toNat_natCast] at hx0 hx1
                clear er
                have HN' := HN.out
                clear HN
                generalize s.getD k z39 = x at hx0 hx1 HN'
                have HN := Aside0.mk HN'
                clear HN'
                by_cases c1 : x.f0 ≤ (n : Int)
                · by_cases c2 : (n : Int) ≤ x.f1
                  · have HN1 := Aside0.mk (show cntAt (s.take (k + 1)) (n : Int) = cntAt (s.take k) (n : Int) + 1 from by rw [HN.out, if_pos (by unfold holdsAt; rw [Bool.and_eq_true, decide_eq_true_eq, decide_eq_true_eq]; exact ⟨c1, c2⟩)])
                    have dc1 : decide (x.f0 ≤ (n : Int)) = true := decide_eq_true c1
                    have dc2 : decide ((n : Int) ≤ x.f1) = true := decide_eq_true c2
                    clear HN c1 c2
                    go_wp2
                    go_roundg (s.length - (k + 1))
                    case measure => omega
                    case rel => exact ⟨k + 1, by omega, Nat.le_refl _, (by rw [HN1.out]; simp), rfl, ⟨HB.out.alloc (below_size HB.out) _⟩⟩
                  · have HN1 := Aside0.mk (show cntAt (s.take (k + 1)) (n : Int) = cntAt (s.take k) (n : Int) from by rw [HN.out, if_neg (by unfold holdsAt; rw [Bool.and_eq_true, decide_eq_true_eq, decide_eq_true_eq]; exact fun hh => by omega)]; exact Nat.add_zero _)
                    have dc1 : decide (x.f0 ≤ (n : Int)) = true := decide_eq_true c1
                    have dc2 : decide ((n : Int) ≤ x.f1) = false := decide_eq_false c2
                    clear HN c1 c2
                    go_wp2
                    go_roundg (s.length - (k + 1))
                    case measure => omega
                    case rel => exact ⟨k + 1, by omega, Nat.le_refl _, by rw [HN1.out], rfl, ⟨HB.out.alloc (below_size HB.out) _⟩⟩
                · have HN1 := Aside0.mk (show cntAt (s.take (k + 1)) (n : Int) = cntAt (s.take k) (n : Int) from by rw [HN.out, if_neg (by unfold holdsAt; rw [Bool.and_eq_true, decide_eq_true_eq, decide_eq_true_eq]; exact fun hh => by omega)]; exact Nat.add_zero _)
                  have dc1 : decide (x.f0 ≤ (n : Int)) = false := decide_eq_false c1
                  clear HN c1
                  go_wp2
                  go_roundg (s.length - (k + 1))
                  case measure => omega
                  case rel => exact ⟨k + 1, by omega, Nat.le_refl _, by rw [HN1.out], rfl, ⟨HB.out.alloc (below_size HB.out) _⟩⟩
              · obtain rfl : k = s.length := by omega
                have hdk : decide ((s.length : Int) < (s.length : Int)) = false := decide_eq_false (by omega)
                rw [List.take_length]
                by_cases hmx : (mst s n : Int) < (cntAt s (n : Int) : Int)
                · have hmd : decide ((mst s n : Int) < (cntAt s (n : Int) : Int)) = true := decide_eq_true hmx
                  have HE := Aside0.mk (show mst s (n + 1) = cntAt s (n : Int) from Nat.max_eq_right (by omega))
                  go_wp2
                  go_roundg (256 - (n + 1))
                  case measure => omega
                  case rel => exact ⟨n + 1, by omega, Nat.le_refl _, by rw [HE.out], rfl, HB⟩
                · have hmd : decide ((mst s n : Int) < (cntAt s (n : Int) : Int)) = false := decide_eq_false hmx
                  have HE := Aside0.mk (show mst s (n + 1) = mst s n from Nat.max_eq_left (by omega))
                  go_wp2
                  go_roundg (256 - (n + 1))
                  case measure => omega
                  case rel => exact ⟨n + 1, by omega, Nat.le_refl _, by rw [HE.out], rfl, HB⟩
          · obtain rfl : n = 256 := by omega
            have hd : decide (((256 : Nat) : Int) < 256) = false := by decide
            go_wp2_with (first | (go_at_call 23; (with_reducible refine (span_Most.calls 2001 A3 c3 s ((mst s 256 : Nat) : Int) _ ?h1 ?h2 HM.out).mono ?_); (case h1 => exact Kd.C_below HC3.out HB.out); (case h2 => exact H3.out); rintro e w2 ⟨rfl, hb⟩; have n0_ := Aside0.mk (below_step HBB.out (below_step HB.out hb)); clear HB; have HB := n0_; clear n0_ hb))
            go_ret
            exact ⟨rfl, HB.out⟩
end Go.Proofs.YtjfleaekljapeaaDoor.K
