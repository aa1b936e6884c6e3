import Derived.Test.YtpfbloddhfphiaaK0
import Derived.Test.YtpfbloddhfphiaaK18
import Derived.Test.YtpfbloddhfphiaaK19
import Derived.Test.YtpfbloddhfphiaaK22
import Derived.Test.YtpfbloddhfphiaaK23
import Derived.Test.YtpfbloddhfphiaaScanX
import Derived.Deep.DeepMust
import Derived.Test.YtpfbloddhfphiaaProg
import Derived.Below
import Derived.Deep.Draws
import Derived.Deep.AppendLies
import Derived.Maps.AppendAt
import Derived.OwnWalk
import Derived.Laws.BytesArg
import Derived.Laws.MakeOwn
import Derived.Laws.OwnMore
import Derived.Deep.OwnRows
import Derived.Tactics
import Derived.Lib.ConvBytes
import Derived.Laws.Slices
import Derived.WalkKit
import Derived.KernelRfl
import Derived.RowKit3
import Derived.Deep.LoopGhost
import Derived.Deep.QuietTactic
import Derived.BigQuiet
import Derived.WideLaws
import Derived.Deep.DeepCutAuto
import Derived.Deep.CutBlock
import Derived.Deep.RegionHeld3
import Derived.Deep.MidRow
import Derived.Laws.Rows
import Derived.Lib.AppendStr
import Derived.ArgAppend
import Derived.Laws.IdiomCopy
import Derived.OrdersHeld
import Derived.Laws.BitsLemmas
import Derived.RowKit
import Derived.RegionTactic
import Derived.Deep.RegionWith
import Derived.Lib.Hide
import Derived.Test.YtpfbloddhfphiaaWWords
import Derived.Test.YtpfbloddhfphiaaWLast
import Derived.Test.YtpfbloddhfphiaaWTab
import Derived.Test.YtpfbloddhfphiaaWFour
import Derived.Test.YtpfbloddhfphiaaWQPut
import Derived.Test.YtpfbloddhfphiaaWApart
import Derived.Test.YtpfbloddhfphiaaWArr
import Derived.Test.YtpfbloddhfphiaaWZeros
import Derived.Test.YtpfbloddhfphiaaWFoot
import Derived.Test.YtpfbloddhfphiaaWKept
import Derived.Test.YtpfbloddhfphiaaWShare
import Derived.Test.YtpfbloddhfphiaaWN
import Derived.Test.YtpfbloddhfphiaaWEqStruct
import Derived.Test.YtpfbloddhfphiaaWRepsOne
import Derived.Test.YtpfbloddhfphiaaWGuard
import Derived.Test.YtpfbloddhfphiaaWNEv
import Derived.Test.YtpfbloddhfphiaaWMore
import Derived.Deep.RegionLaw
import Derived.Laws.CopyOwn
namespace Go.Proofs.Ytpfbloddhfphiaa.K
open Go.RowKit Go.Proofs.YtpfbloddhfphiaaW.PrintWords Go.Proofs.YtpfbloddhfphiaaW.PrintLast Go.Proofs.YtpfbloddhfphiaaW.PrintMore
attribute [local go_sem] max2_int min2_int max_two min_two max_three min_three max_four min_four   -- for this text's walks alone
set_option linter.unusedVariables false
set_option linter.unusedSimpArgs false
set_option linter.unusedSectionVars false
/-! ### whether places fit: what both functions answer -/
theorem refMeet_none (a1 b0 b1 : Int) (h1 : a1 ≤ 1000) : ∀ (k : Nat) (n a0 : Int), -1000 ≤ n → (a1 + 1 - n).toNat < k → (∀ m, n ≤ m → m ≤ a1 → ¬ (b0 ≤ m ∧ m ≤ b1)) → hauberkref15_Meet.l0 k n a0 a1 b0 b1 = some false
  | 0, n, a0, hn, hk, hm => by omega
  | k + 1, n, a0, hn, hk, hm => by
    unfold hauberkref15_Meet.l0
    by_cases c : n ≤ a1
    · have hnm := hm n (Int.le_refl _) c
      have e : wrap64 (n + 1) = n + 1 := by unfold wrap64; omega
      have ih := refMeet_none a1 b0 b1 h1 k (n + 1) a0 (by omega) (by omega) (fun m h h' => hm m (by omega) h')
      rw [if_pos c, e, ih]
      by_cases c2 : n ≥ b0
      · rw [if_pos c2, if_neg (by omega)]
      · rw [if_neg c2]
    · rw [if_neg c]
theorem refMeet_some (a1 b0 b1 : Int) (h1 : a1 ≤ 1000) : ∀ (k : Nat) (n a0 : Int), -1000 ≤ n → (a1 + 1 - n).toNat < k → (∃ m, n ≤ m ∧ m ≤ a1 ∧ b0 ≤ m ∧ m ≤ b1) → hauberkref15_Meet.l0 k n a0 a1 b0 b1 = some true
  | 0, n, a0, hn, hk, hm => by omega
  | k + 1, n, a0, hn, hk, hm => by
    unfold hauberkref15_Meet.l0
    obtain ⟨m, m1, m2, m3, m4⟩ := hm
    rw [if_pos (by omega : n ≤ a1)]
    have e : wrap64 (n + 1) = n + 1 := by unfold wrap64; omega
    by_cases c : n = m
    · subst c
      rw [if_pos m3, if_pos m4]
    · have ih := refMeet_some a1 b0 b1 h1 k (n + 1) a0 (by omega) (by omega) ⟨m, by omega, m2, m3, m4⟩
      rw [e, ih]
      by_cases c2 : n ≥ b0
      · rw [if_pos c2]
        by_cases c3 : n ≤ b1
        · rw [if_pos c3]
        · rw [if_neg c3]
      · rw [if_neg c2]
def meetB (a0 a1 b0 b1 : Int) : Bool := decide (a0 ≤ a1) && decide (b0 ≤ b1) && decide (a0 ≤ b1) && decide (b0 ≤ a1)
theorem refMeet_f (k : Nat) (hk : 300 ≤ k) (a0 a1 b0 b1 : Int) (h0 : 0 ≤ a0) (h1 : a1 < 256) : hauberkref15_Meet.f k a0 a1 b0 b1 = some (meetB a0 a1 b0 b1) := by
  unfold hauberkref15_Meet.f
  by_cases c : ∃ m, a0 ≤ m ∧ m ≤ a1 ∧ b0 ≤ m ∧ m ≤ b1
  · rw [refMeet_some a1 b0 b1 (by omega) k a0 a0 (by omega) (by omega) c]
    obtain ⟨m, m1, m2, m3, m4⟩ := c
    congr 1
    symm
    simp only [meetB, Bool.and_eq_true, decide_eq_true_eq]
    omega
  · rw [refMeet_none a1 b0 b1 (by omega) k a0 a0 (by omega) (by omega) (fun m h h' h'' => c ⟨m, h, h', h''.1, h''.2⟩)]
    congr 1
    symm
    rw [Bool.eq_false_iff]
    intro hh
    simp only [meetB, Bool.and_eq_true, decide_eq_true_eq] at hh
    refine c ⟨max a0 b0, ?_, ?_, ?_, ?_⟩ <;> omega
theorem spanMeet_f (a0 a1 b0 b1 : Int) : span_Meet.f a0 a1 b0 b1 = some (meetB a0 a1 b0 b1) := by
  unfold span_Meet.f meetB
  by_cases c1 : a0 ≤ a1 <;> by_cases c2 : b0 ≤ b1 <;> by_cases c3 : a0 ≤ b1 <;> simp [c1, c2, c3]

def gd1 (c : Nat → Bool) : Nat → Nat → Bool
  | 0, _ => true
  | d + 1, k => if c k = true then false else gd1 c d (k + 1)
/-- i and k stand in one place and meet. -/
def conf (l : List C45) (P : List Int) (i k : Nat) : Bool :=
  decide (0 ≤ P.getD i 0) && decide (P.getD k 0 = P.getD i 0) && meetB (l.getD i z45).f0 (l.getD i z45).f1 (l.getD k z45).f0 (l.getD k z45).f1
def badP (P : List Int) (n : Int) (i : Nat) : Bool := decide (P.getD i 0 < -1) || decide (n ≤ P.getD i 0)
def gd0 (l : List C45) (P : List Int) (n : Int) : Nat → Nat → Bool
  | 0, _ => true
  | d + 1, i => if badP P n i = true then false else (if gd1 (conf l P i) i 0 = true then gd0 l P n d (i + 1) else false)
def goodB (l : List C45) (P : List Int) (n : Int) : Bool := if P.length = l.length then gd0 l P n l.length 0 else false
theorem rdA (l : List C45) (i : Nat) : rd_T35 (spA l) (i : Int) = ⟨(l.getD i z45).f0, (l.getD i z45).f1⟩ := by
  unfold rd_T35 spA
  rw [Int.toNat_natCast, List.getD_eq_getElem?_getD, List.getElem?_map, List.getD_eq_getElem?_getD]
  cases l[i]? <;> rfl
theorem rdB (l : List C45) (i : Nat) : rd_T34 (spB l) (i : Int) = ⟨(l.getD i z45).f0, (l.getD i z45).f1⟩ := by
  unfold rd_T34 spB
  rw [Int.toNat_natCast, List.getD_eq_getElem?_getD, List.getElem?_map, List.getD_eq_getElem?_getD]
  cases l[i]? <;> rfl
theorem rdP (P : List Int) (i : Nat) : rd P (i : Int) = P.getD i 0 := by
  unfold rd
  simp
theorem w64 (i : Nat) (h : i < 1000) : wrap64 ((i : Int) + 1) = ((i + 1 : Nat) : Int) := by unfold wrap64; omega
section
variable (l : List C45) (P : List Int) (n : Int) (hP : P.length = l.length) (hl : l.length ≤ 60)
include hP hl
theorem sg_l1 (i : Nat) (hi : i < l.length) (R : Bool) (Fu : Nat) (hR : ∀ k, Fu ≤ k → scan_Good.l0 k (spA l) P n P (P.length : Int) ((i + 1 : Nat) : Int) = some R) :
    ∀ (d j : Nat), i - j = d → j ≤ i → ∀ k, Fu + d + 1 ≤ k → scan_Good.l1 k (spA l) P n (i : Int) (P.getD i 0) P (P.length : Int) (i : Int) (i : Int) (j : Int) = some (if gd1 (conf l P i) d j = true then R else false)
  | d, j, hd, hj, 0, hk => by omega
  | 0, j, hd, hj, k + 1, hk => by
    obtain rfl : j = i := by omega
    unfold scan_Good.l1
    rw [if_neg (by omega), w64 j (by omega), hR k (by omega)]
    rfl
  | d + 1, j, hd, hj, k + 1, hk => by
    have ih := sg_l1 i hi R Fu hR d (j + 1) (by omega) (by omega) k (by omega)
    unfold scan_Good.l1
    rw [if_pos (by omega : (j : Int) < (i : Int)), w64 j (by omega), ih, if_pos (by omega : (0 : Int) ≤ (j : Int)), if_pos (by omega : (j : Int) < (P.length : Int)), rdP, if_pos (by omega : (0 : Int) ≤ (i : Int)),
      if_pos (by rw [spA_len]; omega : (i : Int) < ((spA l).length : Int)), if_pos (by rw [spA_len]; omega : (j : Int) < ((spA l).length : Int)), rdA, rdA, spanMeet_f]
    show (if P.getD i 0 ≥ 0 then (if P.getD j 0 = P.getD i 0 then (if meetB _ _ _ _ = true then _ else _) else _) else _) = some (if (if conf l P i j = true then false else gd1 (conf l P i) d (j + 1)) = true then R else false)
    by_cases c1 : P.getD i 0 ≥ 0
    · rw [if_pos c1]
      by_cases c2 : P.getD j 0 = P.getD i 0
      · rw [if_pos c2]
        by_cases c3 : meetB (l.getD i z45).f0 (l.getD i z45).f1 (l.getD j z45).f0 (l.getD j z45).f1 = true
        · have hc : conf l P i j = true := by unfold conf; rw [c3, decide_eq_true c2, decide_eq_true c1]; rfl
          rw [if_pos c3, if_pos hc]; rfl
        · have hc : ¬ conf l P i j = true := by unfold conf; rw [Bool.eq_false_iff.2 c3]; simp
          rw [if_neg c3, if_neg hc]
      · have hc : ¬ conf l P i j = true := by unfold conf; rw [decide_eq_false c2]; simp
        rw [if_neg c2, if_neg hc]
    · have hc : ¬ conf l P i j = true := by unfold conf; rw [decide_eq_false c1]; simp
      rw [if_neg c1, if_neg hc]
theorem sg_l0 : ∀ (d i : Nat), l.length - i = d → i ≤ l.length → ∀ k, 400 + 100 * d ≤ k → scan_Good.l0 k (spA l) P n P (P.length : Int) (i : Int) = some (gd0 l P n d i)
  | d, i, hd, hi, 0, hk => by omega
  | d, i, hd, hi, 1, hk => by omega
  | 0, i, hd, hi, k + 2, hk => by
    unfold scan_Good.l0
    rw [if_neg (by omega)]; rfl
  | d + 1, i, hd, hi, k + 2, hk => by
    have h1 := sg_l1 l P n hP hl i (by omega) (gd0 l P n d (i + 1)) (400 + 100 * d) (fun k' hk' => sg_l0 d (i + 1) (by omega) (by omega) k' hk') i 0 rfl (by omega) k (by omega)
    have hj : ∀ b, scan_Good.j1 (k + 1) (spA l) P n (i : Int) (P.getD i 0) P (P.length : Int) (i : Int) b = some (if b = true then false else (if gd1 (conf l P i) i 0 = true then gd0 l P n d (i + 1) else false)) := by
      intro b
      unfold scan_Good.j1
      cases b with
      | true => rfl
      | false => exact h1
    unfold scan_Good.l0
    rw [if_pos (by omega), if_pos (by omega), if_pos (by omega), rdP, hj, hj]
    show _ = some (if badP P n i = true then false else _)
    unfold badP
    by_cases c : P.getD i 0 < -1
    · rw [if_pos c, decide_eq_true c]; rfl
    · rw [if_neg c, decide_eq_false c, Bool.false_or]
end
section
variable (l : List C45) (P : List Int) (n : Int) (hP : P.length = l.length) (hl : l.length ≤ 60) (hb : ∀ x ∈ l, (0 ≤ x.f0 ∧ x.f0 < 256) ∧ (0 ≤ x.f1 ∧ x.f1 < 256))
include hP hl hb
theorem rg_l1 (i : Nat) (hi : i < l.length) (R : Bool) (Fu : Nat) (hFu : 300 ≤ Fu) (hR : ∀ k, Fu ≤ k → hauberkref16_Good.l0 k (spB l) P n (l.length : Int) ((i + 1 : Nat) : Int) = some R) :
    ∀ (d j : Nat), i - j = d → j ≤ i → ∀ k, Fu + d + 1 ≤ k → hauberkref16_Good.l1 k (spB l) P n (i : Int) (j : Int) (l.length : Int) (i : Int) = some (if gd1 (conf l P i) d j = true then R else false)
  | d, j, hd, hj, 0, hk => by omega
  | 0, j, hd, hj, k + 1, hk => by
    obtain rfl : j = i := by omega
    unfold hauberkref16_Good.l1
    rw [if_neg (by omega), w64 j (by omega), hR k (by omega)]
    rfl
  | d + 1, j, hd, hj, k + 1, hk => by
    have ih := rg_l1 i hi R Fu hFu hR d (j + 1) (by omega) (by omega) k (by omega)
    have hm : l.getD i z45 ∈ l := by rw [List.getD_eq_getElem?_getD, List.getElem?_eq_getElem hi]; exact List.getElem_mem _
    obtain ⟨⟨b1, _⟩, _, b4⟩ := hb _ hm
    unfold hauberkref16_Good.l1
    rw [if_pos (by omega : (j : Int) < (i : Int)), w64 j (by omega), ih, if_pos (by omega : (0 : Int) ≤ (i : Int)), if_pos (by omega : (i : Int) < (P.length : Int)), rdP, if_pos (by omega : (0 : Int) ≤ (j : Int)), if_pos (by omega : (j : Int) < (P.length : Int)), rdP,
      if_pos (by rw [spB_len]; omega : (i : Int) < ((spB l).length : Int)), if_pos (by rw [spB_len]; omega : (j : Int) < ((spB l).length : Int)), rdB, rdB, refMeet_f k (by omega) _ _ _ _ b1 b4]
    show (if P.getD i 0 ≥ 0 then (if P.getD i 0 = P.getD j 0 then (if meetB _ _ _ _ = true then _ else _) else _) else _) = some (if (if conf l P i j = true then false else gd1 (conf l P i) d (j + 1)) = true then R else false)
    by_cases c1 : P.getD i 0 ≥ 0
    · rw [if_pos c1]
      by_cases c2 : P.getD i 0 = P.getD j 0
      · rw [if_pos c2]
        by_cases c3 : meetB (l.getD i z45).f0 (l.getD i z45).f1 (l.getD j z45).f0 (l.getD j z45).f1 = true
        · have hc : conf l P i j = true := by unfold conf; rw [c3, decide_eq_true c2.symm, decide_eq_true c1]; rfl
          rw [if_pos c3, if_pos hc]; rfl
        · have hc : ¬ conf l P i j = true := by unfold conf; rw [Bool.eq_false_iff.2 c3]; simp
          rw [if_neg c3, if_neg hc]
      · have hc : ¬ conf l P i j = true := by unfold conf; rw [show decide (P.getD j 0 = P.getD i 0) = false from decide_eq_false (fun h => c2 h.symm)]; simp
        rw [if_neg c2, if_neg hc]
    · have hc : ¬ conf l P i j = true := by unfold conf; rw [decide_eq_false c1]; simp
      rw [if_neg c1, if_neg hc]
theorem rg_l0 : ∀ (d i : Nat), l.length - i = d → i ≤ l.length → ∀ k, 400 + 100 * d ≤ k → hauberkref16_Good.l0 k (spB l) P n (l.length : Int) (i : Int) = some (gd0 l P n d i)
  | d, i, hd, hi, 0, hk => by omega
  | d, i, hd, hi, 1, hk => by omega
  | 0, i, hd, hi, k + 2, hk => by
    unfold hauberkref16_Good.l0
    rw [if_neg (by omega)]; rfl
  | d + 1, i, hd, hi, k + 2, hk => by
    have h1 := rg_l1 l P n hP hl hb i (by omega) (gd0 l P n d (i + 1)) (400 + 100 * d) (by omega) (fun k' hk' => rg_l0 d (i + 1) (by omega) (by omega) k' hk') i 0 rfl (by omega) k (by omega)
    have hj : ∀ b, hauberkref16_Good.j1 (k + 1) (spB l) P n (i : Int) (l.length : Int) (i : Int) b = some (if b = true then false else (if gd1 (conf l P i) i 0 = true then gd0 l P n d (i + 1) else false)) := by
      intro b
      unfold hauberkref16_Good.j1
      cases b with
      | true => rfl
      | false => exact h1
    unfold hauberkref16_Good.l0
    rw [if_pos (by omega), if_pos (by omega), if_pos (by omega), rdP, hj, hj]
    show _ = some (if badP P n i = true then false else _)
    unfold badP
    by_cases c : P.getD i 0 < -1
    · rw [if_pos c, decide_eq_true c]; rfl
    · rw [if_neg c, decide_eq_false c, Bool.false_or]
end
theorem scanGood_f (l : List C45) (P : List Int) (n : Int) (hl : l.length ≤ 60) : scan_Good.f 10000 (spA l) P n = some (goodB l P n) := by
  unfold scan_Good.f goodB
  rw [spA_len]
  by_cases c : P.length = l.length
  · rw [if_pos (by omega), if_pos c]
    exact sg_l0 l P n c hl l.length 0 (by omega) (by omega) 10000 (by omega)
  · rw [if_neg (by omega), if_neg c]
theorem refGood_f (l : List C45) (P : List Int) (n : Int) (hl : l.length ≤ 60) (hb : ∀ x ∈ l, (0 ≤ x.f0 ∧ x.f0 < 256) ∧ (0 ≤ x.f1 ∧ x.f1 < 256)) : hauberkref16_Good.f 10000 (spB l) P n = some (goodB l P n) := by
  unfold hauberkref16_Good.f goodB
  rw [spB_len]
  by_cases c : P.length = l.length
  · rw [if_pos (by omega), if_pos c]
    exact rg_l0 l P n c hl hb l.length 0 (by omega) (by omega) 10000 (by omega)
  · rw [if_neg (by omega), if_neg c]
end Go.Proofs.Ytpfbloddhfphiaa.K
