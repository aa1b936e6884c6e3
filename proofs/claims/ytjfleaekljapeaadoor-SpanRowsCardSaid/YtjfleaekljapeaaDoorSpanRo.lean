import Derived.Test.YtjfleaekljapeaaDoorSpanMt
import Derived.Deep.DeepMust
import Derived.Test.YtjfleaekljapeaaDoorProg
import Derived.Below
import Derived.Deep.Draws
import Derived.Deep.AppendLies
import Derived.Maps.AppendAt
import Derived.OwnWalk
import Derived.Laws.BytesArg
import Derived.Laws.MakeOwn
import Derived.Laws.OwnMore
import Derived.Deep.OwnRows
import Derived.Tactics
import Derived.Lib.ConvBytes
import Derived.Laws.Slices
import Derived.WalkKit
import Derived.KernelRfl
import Derived.RowKit3
import Derived.Deep.LoopGhost
import Derived.Deep.QuietTactic
import Derived.BigQuiet
import Derived.WideLaws
import Derived.Deep.DeepCutAuto
import Derived.Deep.CutBlock
import Derived.Deep.RegionHeld3
import Derived.Deep.MidRow
import Derived.Laws.Rows
import Derived.Lib.AppendStr
import Derived.ArgAppend
import Derived.Laws.IdiomCopy
import Derived.OrdersHeld
import Derived.Laws.BitsLemmas
import Derived.RowKit
import Derived.RegionTactic
import Derived.Deep.RegionWith
import Derived.Lib.Hide
import Derived.Test.YtjfleaekljapeaaDoorWWords
import Derived.Test.YtjfleaekljapeaaDoorWLast
import Derived.Test.YtjfleaekljapeaaDoorWTab
import Derived.Test.YtjfleaekljapeaaDoorWFour
import Derived.Test.YtjfleaekljapeaaDoorWQPut
import Derived.Test.YtjfleaekljapeaaDoorWApart
import Derived.Test.YtjfleaekljapeaaDoorWArr
import Derived.Test.YtjfleaekljapeaaDoorWZeros
import Derived.Test.YtjfleaekljapeaaDoorWFoot
import Derived.Test.YtjfleaekljapeaaDoorWKept
import Derived.Test.YtjfleaekljapeaaDoorWShare
import Derived.Test.YtjfleaekljapeaaDoorWN
import Derived.Test.YtjfleaekljapeaaDoorWEqStruct
import Derived.Test.YtjfleaekljapeaaDoorWRepsOne
import Derived.Test.YtjfleaekljapeaaDoorWGuard
import Derived.Test.YtjfleaekljapeaaDoorWNEv
import Derived.Test.YtjfleaekljapeaaDoorWMore
import Derived.Deep.RegionLaw
import Derived.Laws.CopyOwn
import Derived.Shelf.Spec.TrailingZeros
namespace Go.Proofs.YtjfleaekljapeaaDoor.K
open Go.RowKit Go.Proofs.YtjfleaekljapeaaDoorW.PrintWords Go.Proofs.YtjfleaekljapeaaDoorW.PrintLast Go.Proofs.YtjfleaekljapeaaDoorW.PrintMore
attribute [local go_sem] max2_int min2_int max_two min_two max_three min_three max_four min_four   -- for this text's walks alone
set_option linter.unusedVariables false
set_option linter.unusedSimpArgs false
set_option linter.unusedSectionVars false
/-! ### SpanRows: the plain law -/
def roI (op dst : Int) : S44 := ⟨op, dst, 0, 0, 0, 0, ⟨#[]⟩, [], [], 0⟩
def roIns (first : Bool) (a b j : Nat) : S44 := if j = b then roI 20 0 else if j = a ∧ first = false then roI 1 0 else roI 1 1
def roCode (first : Bool) (n a b : Nat) : List S44 := (List.range n).map (roIns first a b) ++ [roI 43 0]
def roAt (first : Bool) (a b j : Nat) : Int := if (first = true ∨ a < j) ∧ j ≤ b then 1 else 0
def roR (first : Bool) (n a b : Nat) : List Int := (List.range (n + 2)).map (roAt first a b)
theorem roCode_len (first : Bool) (n a b : Nat) : (roCode first n a b).length = n + 1 := by simp [roCode]
theorem roCode_at (first : Bool) (n a b j : Nat) (h : j < n) : rd_T44 (roCode first n a b) (j : Nat) = roIns first a b j := by
  unfold rd_T44 roCode
  rw [List.getD_eq_getElem?_getD, Int.toNat_natCast, List.getElem?_append_left (by simpa using h), List.getElem?_map, List.getElem?_range h]; rfl
theorem roCode_end (first : Bool) (n a b : Nat) : rd_T44 (roCode first n a b) (n : Nat) = roI 43 0 := by
  unfold rd_T44 roCode
  rw [List.getD_eq_getElem?_getD, Int.toNat_natCast, List.getElem?_append_right (by simp)]; simp
theorem roAt_01 (first : Bool) (a b j : Nat) : roAt first a b j = 0 ∨ roAt first a b j = 1 := by
  unfold roAt; split <;> simp
theorem ro_or (x : Int) (h : x = 0 ∨ x = 1) : Go.bits .or .u64 0 x = x := by rcases h with rfl | rfl <;> decide +kernel
theorem ro_put0f (x : Int) (h : x = 0 ∨ x = 1) : lvPut x 0 false = 0 := by rcases h with rfl | rfl <;> decide +kernel
theorem ro_put1f (x : Int) (h : x = 0 ∨ x = 1) : lvPut x 1 false = x := by rcases h with rfl | rfl <;> decide +kernel
theorem ro_put0t (x : Int) (h : x = 0 ∨ x = 1) : lvPut x 0 true = 1 := by rcases h with rfl | rfl <;> decide +kernel
theorem ro_now (first : Bool) (n a b : Nat) (hab : a < b) (hb : b < n) (L : List Int) (m : Nat) (hm : m < n + 1) (hL : m < n → rd L (m + 1 : Nat) = roAt first a b (m + 1)) :
    lvNow (roCode first n a b) L m = roAt first a b m := by
  by_cases hmn : m = n
  · subst hmn
    unfold lvNow lvNext
    rw [roCode_end]
    show (0 : Int) = _
    unfold roAt
    rw [if_neg (by omega)]
  · have hlt : m < n := by omega
    have h1 := hL hlt
    have h01 := roAt_01 first a b (m + 1)
    have eN : lvNext (roCode first n a b) m = [(m : Int) + 1] := by
      unfold lvNext
      rw [roCode_at _ _ _ _ _ hlt]
      unfold roIns
      (repeat' split) <;> simp_all [roI]
    unfold lvNow
    rw [eN, roCode_at _ _ _ _ _ hlt]
    have eO : [(m : Int) + 1].foldl (lvOr L) 0 = roAt first a b (m + 1) := by
      show Go.bits .or .u64 0 (rd L ((m : Int) + 1)) = _
      rw [show (m : Int) + 1 = ((m + 1 : Nat) : Int) by simp, h1, ro_or _ h01]
    rw [eO]
    unfold roIns
    by_cases c1 : m = b
    · rw [if_pos c1]
      show lvPut (roAt first a b (m + 1)) 0 true = _
      rw [ro_put0t _ h01]
      unfold roAt
      rw [if_pos ⟨by omega, by omega⟩]
    · rw [if_neg c1]
      by_cases c2 : m = a ∧ first = false
      · rw [if_pos c2]
        show lvPut (roAt first a b (m + 1)) 0 false = _
        rw [ro_put0f _ h01]
        unfold roAt
        rw [if_neg (by rw [c2.2]; simp; omega)]
      · rw [if_neg c2]
        show lvPut (roAt first a b (m + 1)) 1 false = _
        rw [ro_put1f _ h01]
        unfold roAt
        cases first
        · simp at c2 ⊢
          have : (a < m + 1 ∧ m + 1 ≤ b) ↔ (a < m ∧ m ≤ b) := by omega
          simp [this]
        · simp
          have : (m + 1 ≤ b) ↔ (m ≤ b) := by omega
          simp [this]
theorem rd_set (L : List Int) (m : Nat) (x : Int) (j : Nat) (hm : m < L.length) : rd (L.set m x) (j : Nat) = if j = m then x else rd L (j : Nat) := by
  unfold rd
  rw [Int.toNat_natCast, List.getD_eq_getElem?_getD, List.getD_eq_getElem?_getD, List.getElem?_set]
  by_cases c : m = j
  · subst c
    rw [if_pos rfl, if_pos hm, if_pos rfl]; rfl
  · rw [if_neg c, if_neg (Ne.symm c)]
theorem ro_ext (first : Bool) (n a b : Nat) (L : List Int) (hl : L.length = n + 2) (h : ∀ j, j ≤ n + 1 → rd L (j : Nat) = roAt first a b j) : L = roR first n a b := by
  refine List.ext_getElem (by simp [roR, hl]) fun j h1 h2 => ?_
  have := h j (by omega)
  unfold rd at this
  rw [Int.toNat_natCast, List.getD_eq_getElem?_getD, List.getElem?_eq_getElem h1] at this
  simpa [roR] using this
theorem ro_in (first : Bool) (n a b : Nat) (hab : a < b) (hb : b < n) : ∀ (m : Nat) (L : List Int) (f : Bool), m ≤ n + 1 → L.length = n + 2 → (∀ j, m ≤ j → j ≤ n + 1 → rd L (j : Nat) = roAt first a b j) → (lvIn (roCode first n a b) m L f).1 = roR first n a b
  | 0, L, f, _, hl, h => ro_ext first n a b L hl (fun j hj => h j (Nat.zero_le _) hj)
  | m + 1, L, f, hm, hl, h => by
    have e := ro_now first n a b hab hb L m (by omega) (fun hlt => h (m + 1) (Nat.le_refl _) (by omega))
    unfold lvIn
    by_cases c : lvNow (roCode first n a b) L m = rd L m
    · rw [if_pos c]
      refine ro_in first n a b hab hb m L f (by omega) hl fun j h1 h2 => ?_
      by_cases cj : j = m
      · subst cj; rw [← e, c]
      · exact h j (by omega) h2
    · rw [if_neg c]
      refine ro_in first n a b hab hb m _ true (by omega) (by rw [List.length_set]; exact hl) fun j h1 h2 => ?_
      rw [rd_set L m _ j (by omega)]
      by_cases cj : j = m
      · subst cj; rw [if_pos rfl, e]
      · rw [if_neg cj]; exact h j (by omega) h2
theorem roR_at (first : Bool) (n a b j : Nat) (h : j ≤ n + 1) : rd (roR first n a b) (j : Nat) = roAt first a b j := by
  unfold rd roR
  rw [Int.toNat_natCast, List.getD_eq_getElem?_getD, List.getElem?_map, List.getElem?_range (by omega)]; rfl
theorem ro_fix (first : Bool) (n a b : Nat) (hab : a < b) (hb : b < n) : ∀ (m : Nat) (f : Bool), m ≤ n + 1 → lvIn (roCode first n a b) m (roR first n a b) f = (roR first n a b, f)
  | 0, f, _ => rfl
  | m + 1, f, hm => by
    have e := ro_now first n a b hab hb (roR first n a b) m (by omega) (fun hlt => roR_at first n a b (m + 1) (by omega))
    unfold lvIn
    rw [if_pos (by rw [e, roR_at first n a b m (by omega)])]
    exact ro_fix first n a b hab hb m f (by omega)
theorem ro_run (first : Bool) (n a b : Nat) (hab : a < b) (hb : b < n) : lvRun (roCode first n a b) 2 (List.replicate ((roCode first n a b).length + 1) 0) = some (roR first n a b) := by
  have h1 := ro_in first n a b hab hb (n + 1) (List.replicate (n + 2) 0) false (Nat.le_refl _) (by simp) (fun j h1 h2 => by
    obtain rfl : j = n + 1 := by omega
    unfold rd roAt
    rw [if_neg (by omega)]
    simp)
  have h2 := ro_fix first n a b hab hb (n + 1) false (Nat.le_refl _)
  unfold lvRun
  rw [roCode_len, h1]
  split
  · unfold lvRun
    rw [roCode_len, h2]
    rfl
  · rfl
theorem roR_take (first : Bool) (n a b : Nat) : lvLists (roR first n a b) (roCode first n a b).length = (List.range (n + 1)).map fun j => lvMem (roAt first a b j).toNat := by
  unfold lvLists roR
  rw [roCode_len, ← List.map_take, List.take_range, Nat.min_eq_left (by omega), List.map_map]
  rfl
theorem ro_mem1 : lvMem 1 = [0] := aw_mem1
theorem ro_mem (first : Bool) (a b j : Nat) : lvMem (roAt first a b j).toNat = if (first = true ∨ a < j) ∧ j ≤ b then [0] else [] := by
  unfold roAt
  split
  · exact ro_mem1
  · exact lvMem_zero
theorem ro_xs (first : Bool) (n a b j : Nat) (h : j < n + 1) : (lvLists (roR first n a b) (roCode first n a b).length).getD j [] = if (first = true ∨ a < j) ∧ j ≤ b then [0] else [] := by
  rw [roR_take, List.getD_eq_getElem?_getD, List.getElem?_map, List.getElem?_range h]
  exact ro_mem first a b j
theorem ro_wr (first : Bool) (a b j : Nat) : lvWrites (roIns first a b j) = if j = b then [] else if j = a ∧ first = false then [0] else [1] := by
  unfold roIns
  (repeat' split) <;> rfl
theorem ro_wrEnd : lvWrites (roI 43 0) = [] := rfl
theorem ro_bits (first : Bool) (n a b : Nat) : ∀ x ∈ roR first n a b, 0 ≤ x ∧ x < 18446744073709551616 := by
  intro x hx
  obtain ⟨j, _, rfl⟩ := List.mem_map.1 hx
  rcases roAt_01 first a b j with e | e <;> rw [e] <;> decide
theorem ro_at2 (first : Bool) (n a b j : Nat) (h : j < (roCode first n a b).length) : rd_T44 (roCode first n a b) (j : Nat) = if j < n then roIns first a b j else roI 43 0 := by
  rw [roCode_len] at h
  split
  · rename_i hlt; exact roCode_at first n a b j hlt
  · obtain rfl : j = n := by omega
    exact roCode_end first j a b
theorem ro_wrIn (first : Bool) (n a b j : Nat) (h : j < (roCode first n a b).length) : ∀ r ∈ lvWrites (rd_T44 (roCode first n a b) (j : Nat)), r = 0 ∨ r = 1 := by
  rw [ro_at2 first n a b j h]
  split
  · rw [ro_wr]; (repeat' split) <;> simp
  · rw [ro_wrEnd]; simp
theorem ro_ok (first : Bool) (n a b : Nat) (hn : n ≤ 40) : LvOk (roCode first n a b) where
  len := by rw [roCode_len]; omega
  next := by
    intro j hj m hm
    unfold lvNext at hm
    rw [ro_at2 first n a b j hj] at hm
    rw [roCode_len] at hj ⊢
    split at hm
    · unfold roIns at hm
      (repeat' split at hm) <;> simp_all [roI] <;> omega
    · simp [roI] at hm
  wr := fun j hj r hr => by rcases ro_wrIn first n a b j hj r hr with rfl | rfl <;> decide
  rds := by
    intro j hj r hr
    rw [ro_at2 first n a b j hj] at hr
    have : r = 0 := by
      split at hr
      · unfold roIns at hr
        (repeat' split at hr) <;> simp [lvReads, lvPre, lvRa, lvRab, roI] at hr
        exact hr
      · simp [lvReads, lvPre, lvRa, lvRab, roI] at hr
    subst this; decide
  args := by
    intro j hj
    rw [ro_at2 first n a b j hj]
    unfold roIns
    (repeat' split) <;> simp [roI]
  outs := by
    intro j hj
    rw [ro_at2 first n a b j hj]
    unfold roIns
    (repeat' split) <;> simp [roI]
theorem ro_sp (first : Bool) (n a b : Nat) : SpOk (lvLists (roR first n a b) (roCode first n a b).length) (roCode first n a b) 2 [] where
  xl := by rw [roR_take, roCode_len]; simp
  xm := by
    intro j hj r hr
    rw [roCode_len] at hj
    rw [ro_xs first n a b j hj] at hr
    split at hr
    · obtain rfl := List.mem_singleton.1 hr; decide
    · simp at hr
  xc := by
    intro j hj
    rw [roCode_len] at hj
    rw [ro_xs first n a b j hj]
    split <;> simp
  wm := fun j hj r hr => by rcases ro_wrIn first n a b j hj r hr with rfl | rfl <;> decide
  pm := by simp
  pl := by simp
/-- Where register 0 begins. -/
def roSt (first : Bool) (a : Nat) : Nat := if first = true then 0 else a
def roP (first : Bool) (a b k : Nat) : Int × Int := if k ≤ roSt first a then (0, -1) else (((roSt first a : Nat) : Int), ((min (k - 1) b : Nat) : Int))
theorem ro_put0 (p q : Int × Int) (j : Int) : spPut j [p, q] 0 = [spWith p j, q] := rfl
theorem ro_put1 (p q : Int × Int) (j : Int) : spPut j [p, q] 1 = [p, spWith q j] := rfl
theorem ro_line (first : Bool) (n a b : Nat) (hab : a < b) (hb : b < n) (k : Nat) (hk : k < n + 1) (q : Int × Int) : ∃ q', spLine (lvLists (roR first n a b) (roCode first n a b).length) (roCode first n a b) [roP first a b k, q] k = [roP first a b (k + 1), q'] := by
  unfold spLine
  rw [ro_xs first n a b k hk, ro_at2 first n a b k (by rw [roCode_len]; exact hk)]
  have w0 : ∀ st : Nat, k = st → spWith (0, -1) (k : Int) = (((st : Nat) : Int), ((k : Nat) : Int)) := fun st h => by subst h; rfl
  have w1 : ∀ st : Nat, st < k → spWith (((st : Nat) : Int), ((k - 1 : Nat) : Int)) (k : Int) = (((st : Nat) : Int), ((k : Nat) : Int)) := fun st h => by
    unfold spWith mn mx
    rw [if_neg (by show ¬ (((k - 1 : Nat) : Int) < (st : Int)); omega), if_neg (by show ¬ ((k : Int) < (st : Int)); omega), if_pos (by show ((k - 1 : Nat) : Int) < (k : Int); omega)]
  by_cases hl : k < n
  · rw [if_pos hl, ro_wr]
    cases first
    · by_cases c1 : k < a
      · rw [if_neg (by simp; omega), if_neg (by omega), if_neg (by omega)]
        refine ⟨spWith q k, ?_⟩
        have e1 : roP false a b k = (0, -1) := if_pos (by simp [roSt]; omega)
        have e2 : roP false a b (k + 1) = (0, -1) := if_pos (by simp [roSt]; omega)
        rw [e1, e2]; rfl
      · by_cases c2 : k = a
        · rw [if_neg (by simp; omega), if_neg (by omega), if_pos ⟨c2, rfl⟩]
          refine ⟨q, ?_⟩
          have e1 : roP false a b k = (0, -1) := if_pos (by simp [roSt]; omega)
          have e2 : roP false a b (k + 1) = (((a : Nat) : Int), ((k : Nat) : Int)) := by unfold roP; rw [if_neg (by simp [roSt]; omega)]; simp [roSt]; omega
          rw [e1, e2, ← w0 a c2]; rfl
        · have e1 : roP false a b k = (((a : Nat) : Int), ((min (k - 1) b : Nat) : Int)) := by unfold roP; rw [if_neg (by simp [roSt]; omega)]; simp [roSt]
          have e2 : roP false a b (k + 1) = (((a : Nat) : Int), ((min k b : Nat) : Int)) := by unfold roP; rw [if_neg (by simp [roSt]; omega)]; simp [roSt]
          by_cases c3 : k ≤ b
          · rw [if_pos ⟨.inr (by omega), c3⟩, e1, e2, show min (k - 1) b = k - 1 by omega, show min k b = k by omega, ← w1 a (by omega)]
            by_cases c4 : k = b
            · rw [if_pos c4]; exact ⟨q, rfl⟩
            · rw [if_neg c4, if_neg (by omega)]; exact ⟨spWith q k, rfl⟩
          · rw [if_neg (by omega), if_neg (by omega), if_neg (by omega), e1, e2, show min (k - 1) b = b by omega, show min k b = b by omega]
            exact ⟨spWith q k, rfl⟩
    · have e2 : roP true a b (k + 1) = (((0 : Nat) : Int), ((min k b : Nat) : Int)) := by unfold roP; rw [if_neg (by simp [roSt])]; simp [roSt]
      by_cases c3 : k ≤ b
      · have e0 : spWith (roP true a b k) (k : Int) = (((0 : Nat) : Int), ((k : Nat) : Int)) := by
          by_cases c0 : k = 0
          · have e1 : roP true a b k = (0, -1) := if_pos (by simp [roSt]; omega)
            rw [e1]; exact w0 0 c0
          · have e1 : roP true a b k = (((0 : Nat) : Int), ((k - 1 : Nat) : Int)) := by unfold roP; rw [if_neg (by simp [roSt]; omega), show min (k - 1) b = k - 1 by omega]; simp [roSt]
            rw [e1]; exact w1 0 (by omega)
        rw [if_pos ⟨.inl rfl, c3⟩, e2, show min k b = k by omega, ← e0]
        by_cases c4 : k = b
        · rw [if_pos c4]; exact ⟨q, rfl⟩
        · rw [if_neg c4, if_neg (by simp)]; exact ⟨spWith q k, rfl⟩
      · have e1 : roP true a b k = (((0 : Nat) : Int), ((b : Nat) : Int)) := by unfold roP; rw [if_neg (by simp [roSt]; omega), show min (k - 1) b = b by omega]; simp [roSt]
        rw [if_neg (by omega), if_neg (by omega), if_neg (by simp), e1, e2, show min k b = b by omega]
        exact ⟨spWith q k, rfl⟩
  · rw [if_neg hl, if_neg (by omega), ro_wrEnd]
    refine ⟨q, ?_⟩
    have e1 : ∀ m, b < m → roP first a b m = (((roSt first a : Nat) : Int), ((b : Nat) : Int)) := fun m hm => by
      unfold roP
      have : roSt first a ≤ a := by unfold roSt; split <;> omega
      rw [if_neg (by omega), show min (m - 1) b = b by omega]
    rw [e1 k (by omega), e1 (k + 1) (by omega)]; rfl
theorem ro_lines (first : Bool) (n a b : Nat) (hab : a < b) (hb : b < n) : ∀ k, k ≤ n + 1 → ∃ q, spLines (lvLists (roR first n a b) (roCode first n a b).length) (roCode first n a b) 2 k = [roP first a b k, q]
  | 0, _ => ⟨(0, -1), by
    have : roP first a b 0 = (0, -1) := if_pos (Nat.zero_le _)
    rw [this]; rfl⟩
  | k + 1, hk => by
    obtain ⟨q, hq⟩ := ro_lines first n a b hab hb k (by omega)
    have e : spLines (lvLists (roR first n a b) (roCode first n a b).length) (roCode first n a b) 2 (k + 1) = spLine (lvLists (roR first n a b) (roCode first n a b).length) (roCode first n a b) (spLines (lvLists (roR first n a b) (roCode first n a b).length) (roCode first n a b) 2 k) k := by
      unfold spLines
      rw [List.range_succ, List.foldl_append]; rfl
    rw [e, hq]
    exact ro_line first n a b hab hb k (by omega) q
theorem ro_res (first : Bool) (n a b : Nat) (hab : a < b) (hb : b < n) : ∃ q, spRes (lvLists (roR first n a b) (roCode first n a b).length) (roCode first n a b) 2 [] = [(((roSt first a : Nat) : Int), ((b : Nat) : Int)), q] := by
  obtain ⟨q, hq⟩ := ro_lines first n a b hab hb (n + 1) (Nat.le_refl _)
  refine ⟨q, ?_⟩
  have : roSt first a ≤ a := by unfold roSt; split <;> omega
  have e : roP first a b (n + 1) = (((roSt first a : Nat) : Int), ((b : Nat) : Int)) := by
    unfold roP
    rw [if_neg (by omega), show min (n + 1 - 1) b = b by omega]
  unfold spRes
  rw [e] at hq
  rw [roCode_len] at hq ⊢
  exact hq
end Go.Proofs.YtjfleaekljapeaaDoor.K
