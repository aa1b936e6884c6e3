import Derived.Test.YtpfbloddhfphiaaK0
import Derived.Test.YtpfbloddhfphiaaK27
import Derived.Test.YtpfbloddhfphiaaK28
import Derived.Test.YtpfbloddhfphiaaScanG
import Derived.Test.YtpfbloddhfphiaaScanO
import Derived.Deep.DeepMust
import Derived.Test.YtpfbloddhfphiaaProg
import Derived.Below
import Derived.Deep.Draws
import Derived.Deep.AppendLies
import Derived.Maps.AppendAt
import Derived.OwnWalk
import Derived.Laws.BytesArg
import Derived.Laws.MakeOwn
import Derived.Laws.OwnMore
import Derived.Deep.OwnRows
import Derived.Tactics
import Derived.Lib.ConvBytes
import Derived.Laws.Slices
import Derived.WalkKit
import Derived.KernelRfl
import Derived.RowKit3
import Derived.Deep.LoopGhost
import Derived.Deep.QuietTactic
import Derived.BigQuiet
import Derived.WideLaws
import Derived.Deep.DeepCutAuto
import Derived.Deep.CutBlock
import Derived.Deep.RegionHeld3
import Derived.Deep.MidRow
import Derived.Laws.Rows
import Derived.Lib.AppendStr
import Derived.ArgAppend
import Derived.Laws.IdiomCopy
import Derived.OrdersHeld
import Derived.Laws.BitsLemmas
import Derived.RowKit
import Derived.RegionTactic
import Derived.Deep.RegionWith
import Derived.Lib.Hide
import Derived.Test.YtpfbloddhfphiaaWWords
import Derived.Test.YtpfbloddhfphiaaWLast
import Derived.Test.YtpfbloddhfphiaaWTab
import Derived.Test.YtpfbloddhfphiaaWFour
import Derived.Test.YtpfbloddhfphiaaWQPut
import Derived.Test.YtpfbloddhfphiaaWApart
import Derived.Test.YtpfbloddhfphiaaWArr
import Derived.Test.YtpfbloddhfphiaaWZeros
import Derived.Test.YtpfbloddhfphiaaWFoot
import Derived.Test.YtpfbloddhfphiaaWKept
import Derived.Test.YtpfbloddhfphiaaWShare
import Derived.Test.YtpfbloddhfphiaaWN
import Derived.Test.YtpfbloddhfphiaaWEqStruct
import Derived.Test.YtpfbloddhfphiaaWRepsOne
import Derived.Test.YtpfbloddhfphiaaWGuard
import Derived.Test.YtpfbloddhfphiaaWNEv
import Derived.Test.YtpfbloddhfphiaaWMore
import Derived.Deep.RegionLaw
import Derived.Laws.CopyOwn
namespace Go.Proofs.Ytpfbloddhfphiaa.K
open Go.RowKit Go.Proofs.YtpfbloddhfphiaaW.PrintWords Go.Proofs.YtpfbloddhfphiaaW.PrintLast Go.Proofs.YtpfbloddhfphiaaW.PrintMore
attribute [local go_sem] max2_int min2_int max_two min_two max_three min_three max_four min_four   -- for this text's walks alone
set_option linter.unusedVariables false
set_option linter.unusedSimpArgs false
set_option linter.unusedSectionVars false
/-! ### what hauberkref16's few and Least answer -/
def oneAt (l : List C45) (K : List Bool) (i j : Nat) : Bool :=
  K.getD i false && K.getD j false && decide ((l.getD i z45).f0 ≤ (l.getD i z45).f1) && decide ((l.getD j z45).f0 ≤ (l.getD i z45).f0) && decide ((l.getD i z45).f0 ≤ (l.getD j z45).f1)
def cntJ (l : List C45) (K : List Bool) (i j : Nat) : Nat → Nat
  | 0 => 0
  | d + 1 => (if oneAt l K i j = true then 1 else 0) + cntJ l K i (j + 1) d
def fwB (l : List C45) (K : List Bool) (n : Int) : Nat → Nat → Bool
  | 0, _ => true
  | d + 1, i => if n < (cntJ l K i 0 l.length : Int) then false else fwB l K n d (i + 1)
theorem cntJ_le (l : List C45) (K : List Bool) (i : Nat) : ∀ d j, cntJ l K i j d ≤ d
  | 0, _ => Nat.le_refl _
  | d + 1, j => by
    have := cntJ_le l K i d (j + 1)
    unfold cntJ
    split <;> omega
theorem rdK (K : List Bool) (i : Nat) : rdOf false K (i : Int) = K.getD i false := by unfold rdOf; rw [Int.toNat_natCast]
section
variable (l : List C45) (K : List Bool) (n : Int) (hK : K.length = l.length) (hl : l.length ≤ 60)
include hK hl
theorem fw_l1 (i : Nat) (hi : i < l.length) (R : Bool) (Fu : Nat) (hR : ∀ k, Fu ≤ k → hauberkref16_few.l0 k (spB l) K n (l.length : Int) ((i + 1 : Nat) : Int) = some R) :
    ∀ (d j : Nat) (m : Nat), l.length - j = d → j ≤ l.length → m ≤ j → ∀ k, Fu + d + 1 ≤ k → hauberkref16_few.l1 k (spB l) K n (i : Int) (m : Int) (l.length : Int) (i : Int) ((spB l).length : Int) (j : Int) = some (if n < ((m + cntJ l K i j d : Nat) : Int) then false else R)
  | d, j, m, hd, hj, hm, 0, hk => by omega
  | 0, j, m, hd, hj, hm, k + 1, hk => by
    obtain rfl : j = l.length := by omega
    unfold hauberkref16_few.l1
    rw [spB_len, if_neg (by omega), w64 i (by omega), hR k (by omega), show m + cntJ l K i l.length 0 = m from rfl]
    by_cases h : n < (m : Int)
    · rw [if_pos h, if_pos h]
    · rw [if_neg h, if_neg h]
  | d + 1, j, m, hd, hj, hm, k + 1, hk => by
    have h0 := fw_l1 i hi R Fu hR d (j + 1) m (by omega) (by omega) (by omega) k (by omega)
    have h1 := fw_l1 i hi R Fu hR d (j + 1) (m + 1) (by omega) (by omega) (by omega) k (by omega)
    rw [spB_len] at h0 h1
    unfold hauberkref16_few.l1
    rw [spB_len, if_pos (by omega : (j : Int) < (l.length : Int)), w64 j (by omega), w64 m (by omega), h0, h1, if_pos (by omega : (0 : Int) ≤ (i : Int)), if_pos (by omega : (i : Int) < (K.length : Int)), rdK, if_pos (by omega : (0 : Int) ≤ (j : Int)), if_pos (by omega : (j : Int) < (K.length : Int)), rdK,
      if_pos (by omega : (i : Int) < (l.length : Int)), if_pos (by omega : (j : Int) < (l.length : Int)), rdB, rdB]
    show (if K.getD i false = true then (if K.getD j false = true then (if (l.getD i z45).f0 ≤ (l.getD i z45).f1 then (if (l.getD j z45).f0 ≤ (l.getD i z45).f0 then (if (l.getD i z45).f0 ≤ (l.getD j z45).f1 then _ else _) else _) else _) else _) else _) = some (if n < ((m + ((if oneAt l K i j = true then 1 else 0) + cntJ l K i (j + 1) d) : Nat) : Int) then false else R)
    have hno : ∀ (h : ¬ oneAt l K i j = true), (some (if n < ((m + cntJ l K i (j + 1) d : Nat) : Int) then false else R)) = some (if n < ((m + ((if oneAt l K i j = true then 1 else 0) + cntJ l K i (j + 1) d) : Nat) : Int) then false else R) := fun h => by rw [if_neg h, Nat.zero_add]
    by_cases c1 : K.getD i false = true
    · rw [if_pos c1]
      by_cases c2 : K.getD j false = true
      · rw [if_pos c2]
        by_cases c3 : (l.getD i z45).f0 ≤ (l.getD i z45).f1
        · rw [if_pos c3]
          by_cases c4 : (l.getD j z45).f0 ≤ (l.getD i z45).f0
          · rw [if_pos c4]
            by_cases c5 : (l.getD i z45).f0 ≤ (l.getD j z45).f1
            · have hc : oneAt l K i j = true := by unfold oneAt; rw [c1, c2, decide_eq_true c3, decide_eq_true c4, decide_eq_true c5]; rfl
              rw [if_pos c5, if_pos hc, ← Nat.add_assoc]
            · rw [if_neg c5]; exact hno (by unfold oneAt; rw [decide_eq_false c5]; simp)
          · rw [if_neg c4]; exact hno (by unfold oneAt; rw [decide_eq_false c4]; simp)
        · rw [if_neg c3]; exact hno (by unfold oneAt; rw [decide_eq_false c3]; simp)
      · rw [if_neg c2]; exact hno (by unfold oneAt; rw [Bool.eq_false_iff.2 c2]; simp)
    · rw [if_neg c1]; exact hno (by unfold oneAt; rw [Bool.eq_false_iff.2 c1]; simp)
theorem fw_l0 : ∀ (d i : Nat), l.length - i = d → i ≤ l.length → ∀ k, 100 + 100 * d ≤ k → hauberkref16_few.l0 k (spB l) K n (l.length : Int) (i : Int) = some (fwB l K n d i)
  | d, i, hd, hi, 0, hk => by omega
  | 0, i, hd, hi, k + 1, hk => by
    unfold hauberkref16_few.l0
    rw [if_neg (by omega)]; rfl
  | d + 1, i, hd, hi, k + 1, hk => by
    have h1 := fw_l1 l K n hK hl i (by omega) (fwB l K n d (i + 1)) (100 + 100 * d) (fun k' hk' => fw_l0 d (i + 1) (by omega) (by omega) k' hk') l.length 0 0 (by omega) (by omega) (Nat.le_refl _) k (by omega)
    unfold hauberkref16_few.l0
    rw [if_pos (by omega)]
    rw [Nat.zero_add] at h1
    exact h1
theorem few_f (k : Nat) (hk : 100 + 100 * l.length ≤ k) : hauberkref16_few.f k (spB l) K n = some (fwB l K n l.length 0) := by
  unfold hauberkref16_few.f
  rw [spB_len]
  exact fw_l0 l K n hK hl l.length 0 (by omega) (by omega) k hk
end
def bit (c i : Nat) : Bool := decide (c / 2 ^ i % 2 = 1)
def kl (c N i : Nat) : List Bool := (List.range N).map fun k => decide (k < i) && bit c k
theorem kl_len (c N i : Nat) : (kl c N i).length = N := by simp [kl]
theorem kl_zero (c N : Nat) : kl c N 0 = List.replicate N false := by
  unfold kl
  refine List.ext_getElem (by simp) fun j h1 h2 => by simp
theorem kl_succ (c N i : Nat) (hi : i < N) : kl c N (i + 1) = (kl c N i).set i (bit c i) := by
  unfold kl
  refine List.ext_getElem (by simp) fun j h1 h2 => ?_
  rw [List.getElem_set]
  simp only [List.getElem_map, List.getElem_range]
  by_cases h : i = j
  · subst h; rw [if_pos rfl, decide_eq_true (by omega), Bool.true_and]
  · rw [if_neg h]
    by_cases h3 : j < i
    · rw [decide_eq_true h3, decide_eq_true (by omega : j < i + 1)]
    · rw [decide_eq_false h3, decide_eq_false (by omega : ¬ j < i + 1)]
/-- How many of the first i are not chosen, of those that have an instruction. -/
def goneN (l : List C45) (c : Nat) : Nat → Nat
  | 0 => 0
  | i + 1 => goneN l c i + (if bit c i = false ∧ (l.getD i z45).f0 ≤ (l.getD i z45).f1 then 1 else 0)
theorem goneN_le (l : List C45) (c : Nat) : ∀ i, goneN l c i ≤ i
  | 0 => Nat.le_refl _
  | i + 1 => by have := goneN_le l c i; unfold goneN; split <;> omega
def lst (l : List C45) (n : Int) : Nat → Nat → Nat → Nat
  | 0, _, best => best
  | d + 1, c, best => lst l n d (c + 1) (if goneN l c l.length < best ∧ fwB l (kl c l.length l.length) n l.length 0 = true then goneN l c l.length else best)
theorem pow9 {i : Nat} (h : i ≤ 9) : 2 ^ i ≤ 512 := Nat.pow_le_pow_right (by decide) h
section
variable (l : List C45) (n : Int) (hl : l.length ≤ 9)
include hl
theorem ls_l2 (c : Nat) (hc : c < 2 ^ l.length) (best : Nat) (R : Int) (Fu : Nat) (hFu : 1000 ≤ Fu) (hR : ∀ k, Fu ≤ k → hauberkref16_Least.l1 k (spB l) n (((if goneN l c l.length < best ∧ fwB l (kl c l.length l.length) n l.length 0 = true then goneN l c l.length else best) : Nat) : Int) ((2 ^ l.length : Nat) : Int) ((c + 1 : Nat) : Int) = some R) :
    ∀ (d i : Nat), l.length - i = d → i ≤ l.length → ∀ k, Fu + d + 1 ≤ k → hauberkref16_Least.l2 k (spB l) n (best : Int) ((2 ^ l.length : Nat) : Int) (c : Int) (kl c l.length i) (goneN l c i : Int) ((c / 2 ^ i : Nat) : Int) ((spB l).length : Int) (i : Int) = some R
  | d, i, hd, hi, 0, hk => by omega
  | 0, i, hd, hi, k + 1, hk => by
    obtain rfl : i = l.length := by omega
    have hp := pow9 hl
    unfold hauberkref16_Least.l2
    rw [spB_len, if_neg (by omega), w64 c (by omega), few_f l _ n (kl_len _ _ _) (by omega) k (by omega)]
    have hr := hR k (by omega)
    by_cases h1 : goneN l c l.length < best
    · rw [if_pos (by omega : (goneN l c l.length : Int) < (best : Int))]
      show (if fwB l (kl c l.length l.length) n l.length 0 = true then _ else _) = _
      by_cases h2 : fwB l (kl c l.length l.length) n l.length 0 = true
      · rw [if_pos ⟨h1, h2⟩] at hr
        rw [if_pos h2]; exact hr
      · rw [if_neg (fun h => h2 h.2)] at hr
        rw [if_neg h2]; exact hr
    · rw [if_neg (fun h => h1 h.1)] at hr
      rw [if_neg (by omega : ¬ (goneN l c l.length : Int) < (best : Int))]; exact hr
  | d + 1, i, hd, hi, k + 1, hk => by
    have ih := ls_l2 c hc best R Fu hFu hR d (i + 1) (by omega) (by omega) k (by omega)
    rw [spB_len] at ih
    have hp := pow9 hl
    have hci : c / 2 ^ i ≤ c := Nat.div_le_self _ _
    have hg := goneN_le l c i
    have e1 : (Int.tmod ((c / 2 ^ i : Nat) : Int) 2 == 1) = bit c i := by
      have e : Int.tmod ((c / 2 ^ i : Nat) : Int) 2 = ((c / 2 ^ i % 2 : Nat) : Int) := (Int.ofNat_tmod _ 2).symm
      rw [e]
      unfold bit
      rw [Bool.eq_iff_iff, beq_iff_eq, decide_eq_true_eq]
      omega
    have e2 : wrap64 (Int.tdiv ((c / 2 ^ i : Nat) : Int) 2) = ((c / 2 ^ (i + 1) : Nat) : Int) := by
      have e : Int.tdiv ((c / 2 ^ i : Nat) : Int) 2 = ((c / 2 ^ i / 2 : Nat) : Int) := (Int.ofNat_tdiv _ 2).symm
      rw [e, Nat.div_div_eq_div_mul, ← Nat.pow_succ]
      have : c / 2 ^ (i + 1) ≤ c := Nat.div_le_self _ _
      generalize c / 2 ^ (i + 1) = m at this
      unfold wrap64; omega
    have e3 : rdOf false ((kl c l.length i).set i (bit c i)) (i : Int) = bit c i := by
      rw [rdK, List.getD_eq_getElem?_getD, List.getElem?_set_self (by rw [kl_len]; omega)]; rfl
    unfold hauberkref16_Least.l2
    rw [spB_len, if_pos (by omega : (i : Int) < (l.length : Int)), if_pos (by omega : (0 : Int) ≤ (i : Int)), if_pos (by rw [kl_len]; omega : (i : Int) < ((kl c l.length i).length : Int)), e1, e2, w64 i (by omega), w64 (goneN l c i) (by omega), Int.toNat_natCast]
    show (if rdOf false ((kl c l.length i).set i (bit c i)) (i : Int) = true then _ else (if (i : Int) < (l.length : Int) then (if (rd_T34 (spB l) (i : Int)).f0 ≤ (rd_T34 (spB l) (i : Int)).f1 then _ else _) else none)) = _
    rw [e3, if_pos (by omega : (i : Int) < (l.length : Int)), rdB]
    show (if bit c i = true then _ else (if (l.getD i z45).f0 ≤ (l.getD i z45).f1 then _ else _)) = _
    rw [kl_succ c l.length i (by omega)] at ih
    unfold goneN at ih
    cases hb : bit c i with
    | true =>
      rw [hb, if_neg (fun h => by cases h.1), Nat.add_zero] at ih
      rw [if_pos rfl]; exact ih
    | false =>
      rw [hb] at ih
      rw [if_neg (by simp)]
      by_cases h2 : (l.getD i z45).f0 ≤ (l.getD i z45).f1
      · rw [if_pos ⟨rfl, h2⟩] at ih
        rw [if_pos h2]; exact ih
      · rw [if_neg (fun h => h2 h.2), Nat.add_zero] at ih
        rw [if_neg h2]; exact ih
theorem ls_l1 : ∀ (d c best : Nat), 2 ^ l.length - c = d → c ≤ 2 ^ l.length → ∀ k, 2000 + 100 * d ≤ k → hauberkref16_Least.l1 k (spB l) n (best : Int) ((2 ^ l.length : Nat) : Int) (c : Int) = some ((lst l n d c best : Nat) : Int)
  | d, c, best, hd, hc, 0, hk => by omega
  | 0, c, best, hd, hc, k + 1, hk => by
    unfold hauberkref16_Least.l1
    rw [if_neg (by omega)]; rfl
  | d + 1, c, best, hd, hc, k + 1, hk => by
    have h2 := ls_l2 l n hl c (by omega) best ((lst l n (d + 1) c best : Nat) : Int) (2000 + 100 * d) (by omega) (fun k' hk' => ls_l1 d (c + 1) _ (by omega) (by omega) k' hk') l.length 0 (by omega) (by omega) k (by omega)
    unfold hauberkref16_Least.l1
    rw [if_pos (by omega), spB_len, if_pos (by omega), if_pos (by omega), Int.toNat_natCast, ← kl_zero c]
    rw [spB_len, Nat.pow_zero, Nat.div_one] at h2
    exact h2
theorem ls_l0 : ∀ (d i : Nat), l.length - i = d → i ≤ l.length → ∀ k, 60000 + d ≤ k → hauberkref16_Least.l0 k (spB l) n (l.length : Int) ((2 ^ i : Nat) : Int) (l.length : Int) (i : Int) = some ((lst l n (2 ^ l.length) 0 l.length : Nat) : Int)
  | d, i, hd, hi, 0, hk => by omega
  | 0, i, hd, hi, k + 1, hk => by
    obtain rfl : i = l.length := by omega
    have hp := pow9 hl
    unfold hauberkref16_Least.l0
    rw [if_neg (by omega)]
    exact ls_l1 l n hl (2 ^ l.length) 0 l.length (Nat.sub_zero _) (Nat.zero_le _) k (by omega)
  | d + 1, i, hd, hi, k + 1, hk => by
    have ih := ls_l0 d (i + 1) (by omega) (by omega) k (by omega)
    have hp := pow9 (by omega : i ≤ 9)
    unfold hauberkref16_Least.l0
    have e : wrap64 (((2 ^ i : Nat) : Int) * 2) = ((2 ^ (i + 1) : Nat) : Int) := by
      rw [Nat.pow_succ]
      generalize 2 ^ i = m at hp
      unfold wrap64; omega
    rw [if_pos (by omega), w64 i (by omega), e]
    exact ih
end
theorem least_f (l : List C45) (n : Int) (hl : l.length ≤ 9) : hauberkref16_Least.f 61000 (spB l) n = some ((lst l n (2 ^ l.length) 0 l.length : Nat) : Int) := by
  unfold hauberkref16_Least.f
  rw [spB_len]
  exact ls_l0 l n hl l.length 0 (by omega) (by omega) 61000 (by omega)
end Go.Proofs.Ytpfbloddhfphiaa.K
