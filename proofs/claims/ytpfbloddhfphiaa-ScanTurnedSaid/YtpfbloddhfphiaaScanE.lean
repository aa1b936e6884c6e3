import Derived.Test.YtpfbloddhfphiaaK0
import Derived.Test.YtpfbloddhfphiaaScanM
import Derived.Deep.DeepMust
import Derived.Test.YtpfbloddhfphiaaProg
import Derived.Below
import Derived.Deep.Draws
import Derived.Deep.AppendLies
import Derived.Maps.AppendAt
import Derived.OwnWalk
import Derived.Laws.BytesArg
import Derived.Laws.MakeOwn
import Derived.Laws.OwnMore
import Derived.Deep.OwnRows
import Derived.Tactics
import Derived.Lib.ConvBytes
import Derived.Laws.Slices
import Derived.WalkKit
import Derived.KernelRfl
import Derived.RowKit3
import Derived.Deep.LoopGhost
import Derived.Deep.QuietTactic
import Derived.BigQuiet
import Derived.WideLaws
import Derived.Deep.DeepCutAuto
import Derived.Deep.CutBlock
import Derived.Deep.RegionHeld3
import Derived.Deep.MidRow
import Derived.Laws.Rows
import Derived.Lib.AppendStr
import Derived.ArgAppend
import Derived.Laws.IdiomCopy
import Derived.OrdersHeld
import Derived.Laws.BitsLemmas
import Derived.RowKit
import Derived.RegionTactic
import Derived.Deep.RegionWith
import Derived.Lib.Hide
import Derived.Test.YtpfbloddhfphiaaWWords
import Derived.Test.YtpfbloddhfphiaaWLast
import Derived.Test.YtpfbloddhfphiaaWTab
import Derived.Test.YtpfbloddhfphiaaWFour
import Derived.Test.YtpfbloddhfphiaaWQPut
import Derived.Test.YtpfbloddhfphiaaWApart
import Derived.Test.YtpfbloddhfphiaaWArr
import Derived.Test.YtpfbloddhfphiaaWZeros
import Derived.Test.YtpfbloddhfphiaaWFoot
import Derived.Test.YtpfbloddhfphiaaWKept
import Derived.Test.YtpfbloddhfphiaaWShare
import Derived.Test.YtpfbloddhfphiaaWN
import Derived.Test.YtpfbloddhfphiaaWEqStruct
import Derived.Test.YtpfbloddhfphiaaWRepsOne
import Derived.Test.YtpfbloddhfphiaaWGuard
import Derived.Test.YtpfbloddhfphiaaWNEv
import Derived.Test.YtpfbloddhfphiaaWMore
import Derived.Deep.RegionLaw
import Derived.Laws.CopyOwn
namespace Go.Proofs.Ytpfbloddhfphiaa.K
open Go.RowKit Go.Proofs.YtpfbloddhfphiaaW.PrintWords Go.Proofs.YtpfbloddhfphiaaW.PrintLast Go.Proofs.YtpfbloddhfphiaaW.PrintMore
attribute [local go_sem] max2_int min2_int max_two min_two max_three min_three max_four min_four   -- for this text's walks alone
set_option linter.unusedVariables false
set_option linter.unusedSimpArgs false
set_option linter.unusedSectionVars false
/-! ### Least is what Places spills -/
theorem ffA (l : List C45) (k : Nat) : ff (spA l) k = (l.getD k z45).f0 := by
  unfold ff spA
  rw [List.getD_eq_getElem?_getD, List.getElem?_map, List.getD_eq_getElem?_getD]
  cases l[k]? <;> rfl
theorem ttA (l : List C45) (k : Nat) : tt (spA l) k = (l.getD k z45).f1 := by
  unfold tt spA
  rw [List.getD_eq_getElem?_getD, List.getElem?_map, List.getD_eq_getElem?_getD]
  cases l[k]? <;> rfl
def goneQ (l : List C45) (q : Nat → Bool) : Nat → Nat
  | 0 => 0
  | i + 1 => goneQ l q i + (if q i = false ∧ (l.getD i z45).f0 ≤ (l.getD i z45).f1 then 1 else 0)
theorem goneN_Q (l : List C45) (c : Nat) : ∀ i, goneN l c i = goneQ l (bit c) i
  | 0 => rfl
  | i + 1 => by unfold goneN goneQ; rw [goneN_Q l c i]
theorem goneQ_congr (l : List C45) (q q' : Nat → Bool) : ∀ i, (∀ k, k < i → q k = q' k) → goneQ l q i = goneQ l q' i
  | 0, _ => rfl
  | i + 1, h => by
    unfold goneQ
    rw [goneQ_congr l q q' i (fun k hk => h k (by omega)), h i (by omega)]
theorem goneQ_ord (l : List C45) (q : Nat → Bool) : ∀ i, goneQ l q i + (plOrd (spA l) i).countP q = (plOrd (spA l) i).length
  | 0 => rfl
  | i + 1 => by
    have ih := goneQ_ord l q i
    rw [plOrd_succ]
    unfold goneQ
    rw [← ffA, ← ttA]
    by_cases h : ff (spA l) i ≤ tt (spA l) i
    · rw [if_pos h, List.countP_append, List.length_append, List.countP_cons, List.countP_nil, List.length_singleton]
      cases hq : q i with
      | true => rw [if_neg (fun h2 => by cases h2.1), if_pos rfl]; omega
      | false => rw [if_pos ⟨rfl, h⟩, if_neg (by simp)]; omega
    · rw [if_neg h, if_neg (fun h2 => h h2.2)]; omega
theorem goneQ_perm {l : List C45} {ord : List Nat} (hp : ord.Perm (plOrd (spA l) l.length)) (q : Nat → Bool) : goneQ l q l.length + ord.countP q = ord.length := by
  rw [hp.countP_eq, hp.length_eq]
  exact goneQ_ord l q l.length
theorem cntJ_range (l : List C45) (K : List Bool) (i : Nat) : ∀ d j, cntJ l K i j d = (List.range' j d).countP (oneAt l K i)
  | 0, _ => rfl
  | d + 1, j => by
    unfold cntJ
    rw [List.range'_succ, List.countP_cons, cntJ_range l K i d (j + 1)]
    omega
theorem cntJ_stand {l : List C45} {K : List Bool} {q : Nat → Bool} {ord : List Nat} (hp : ord.Perm (plOrd (spA l) l.length)) (hK : ∀ k, k < l.length → K.getD k false = q k) (i : Nat) (hi : i < l.length) :
    cntJ l K i 0 l.length = if q i = true ∧ ff (spA l) i ≤ tt (spA l) i then stand (spA l) q ord (ff (spA l) i) else 0 := by
  rw [cntJ_range, ← List.range_eq_range']
  split
  · rename_i h
    unfold stand
    rw [hp.countP_eq]
    unfold plOrd
    rw [List.countP_filter]
    refine List.countP_congr fun k hk => ?_
    rw [List.mem_range] at hk
    unfold oneAt
    rw [hK i hi, hK k hk, h.1, ← ffA, ← ttA, ← ffA, ← ttA, decide_eq_true h.2]
    simp only [Bool.and_eq_true, decide_eq_true_eq, Bool.true_and, Bool.and_true]
    constructor
    · rintro ⟨⟨a, b⟩, c⟩; exact ⟨⟨⟨a, b⟩, c⟩, by omega⟩
    · rintro ⟨⟨⟨a, b⟩, c⟩, _⟩; exact ⟨⟨a, b⟩, c⟩
  · rename_i h
    rw [List.countP_eq_zero]
    intro k _ hk
    unfold oneAt at hk
    rw [hK i hi, ← ffA, ← ttA] at hk
    simp only [Bool.and_eq_true, decide_eq_true_eq] at hk
    exact h ⟨hk.1.1.1.1, hk.1.1.2⟩
theorem fwB_iff (l : List C45) (K : List Bool) (n : Int) : ∀ d i, fwB l K n d i = true ↔ ∀ k, i ≤ k → k < i + d → (cntJ l K k 0 l.length : Int) ≤ n
  | 0, i => ⟨fun _ k h1 h2 => by omega, fun _ => rfl⟩
  | d + 1, i => by
    unfold fwB
    split
    · rename_i h
      refine ⟨fun h2 => ?_, fun h2 => ?_⟩
      · cases h2
      · have := h2 i (Nat.le_refl _) (by omega)
        omega
    · rename_i h
      rw [fwB_iff l K n d (i + 1)]
      constructor
      · intro h2 k h3 h4
        by_cases hk : k = i
        · subst hk; omega
        · exact h2 k (by omega) (by omega)
      · exact fun h2 k h3 h4 => h2 k (by omega) (by omega)
theorem lst_le_best (l : List C45) (n : Int) : ∀ d c best, lst l n d c best ≤ best
  | 0, _, _ => Nat.le_refl _
  | d + 1, c, best => by
    refine Nat.le_trans (lst_le_best l n d (c + 1) _) ?_
    split
    · rename_i h; omega
    · exact Nat.le_refl _
theorem lst_le (l : List C45) (n : Int) (c' : Nat) (hf : fwB l (kl c' l.length l.length) n l.length 0 = true) : ∀ d c best, c ≤ c' → c' < c + d → lst l n d c best ≤ goneN l c' l.length
  | 0, c, best, h1, h2 => by omega
  | d + 1, c, best, h1, h2 => by
    unfold lst
    by_cases hc : c = c'
    · subst hc
      refine Nat.le_trans (lst_le_best l n d (c + 1) _) ?_
      split
      · exact Nat.le_refl _
      · rename_i h
        exact Nat.le_of_not_lt fun hlt => h ⟨hlt, hf⟩
    · exact lst_le l n c' hf d (c + 1) _ (by omega) (by omega)
theorem lst_ge (l : List C45) (n : Int) (sp : Nat) (h : ∀ c, fwB l (kl c l.length l.length) n l.length 0 = true → sp ≤ goneN l c l.length) : ∀ d c best, sp ≤ best → sp ≤ lst l n d c best
  | 0, _, _, hb => hb
  | d + 1, c, best, hb => by
    unfold lst
    refine lst_ge l n sp h d (c + 1) _ ?_
    split
    · rename_i h2; exact h c h2.2
    · exact hb
def encN (q : Nat → Bool) : Nat → Nat
  | 0 => 0
  | N + 1 => encN q N + (if q N = true then 2 ^ N else 0)
theorem encN_lt (q : Nat → Bool) : ∀ N, encN q N < 2 ^ N
  | 0 => Nat.one_pos
  | N + 1 => by
    have := encN_lt q N
    unfold encN
    rw [Nat.pow_succ]
    split <;> omega
theorem encN_bit (q : Nat → Bool) : ∀ N i, i < N → bit (encN q N) i = q i
  | 0, i, h => by omega
  | N + 1, i, h => by
    have hlt := encN_lt q N
    unfold bit encN
    by_cases hi : i = N
    · subst hi
      have hp : 0 < 2 ^ i := Nat.pow_pos (by decide)
      cases hq : q i with
      | true =>
        rw [if_pos rfl, Nat.add_div_right _ hp, Nat.div_eq_of_lt hlt]; rfl
      | false =>
        rw [if_neg (by simp), Nat.add_zero, Nat.div_eq_of_lt hlt]; rfl
    · have ih := encN_bit q N i (by omega)
      unfold bit at ih
      rw [← ih]
      split
      · have e : 2 ^ N = 2 ^ i * (2 * 2 ^ (N - i - 1)) := by
          rw [← Nat.pow_succ', ← Nat.pow_add]; congr 1; omega
        rw [e, Nat.add_mul_div_left _ _ (Nat.pow_pos (by decide)), Nat.add_mul_mod_self_left]
      · rw [Nat.add_zero]
theorem kl_getD (c N k : Nat) (hk : k < N) : (kl c N N).getD k false = bit c k := by
  unfold kl
  rw [List.getD_eq_getElem?_getD, List.getElem?_map, List.getElem?_range hk]
  show (decide (k < N) && bit c k) = bit c k
  rw [decide_eq_true hk, Bool.true_and]
/-- Least is how many Places leaves without a place. -/
theorem least_is {l : List C45} {n : Nat} {ord : List Nat} (hp : ord.Perm (plOrd (spA l) l.length)) (hs : ord.Pairwise (fun a b => ff (spA l) a ≤ ff (spA l) b)) (hb : ∀ x ∈ l, (0 ≤ x.f0 ∧ x.f0 < 256) ∧ (0 ≤ x.f1 ∧ x.f1 < 256)) :
    lst l (n : Int) (2 ^ l.length) 0 l.length = goneQ l (kp (plRun (spA l) n ord)) l.length := by
  have ho : Ord (spA l) ord := ord_of (by rw [spA_len]; exact hp) hs
  have ht : ∀ k ∈ ord, tt (spA l) k < 1000 := fun k hk => by
    have hkl := ((ho.mem k).1 hk).1
    rw [spA_len] at hkl
    rw [ttA]
    have := (hb (l.getD k z45) (by rw [List.getD_eq_getElem?_getD, List.getElem?_eq_getElem hkl]; exact List.getElem_mem _)).2
    omega
  have hlow : ∀ c, fwB l (kl c l.length l.length) (n : Int) l.length 0 = true → goneQ l (kp (plRun (spA l) n ord)) l.length ≤ goneN l c l.length := fun c hf => by
    rw [fwB_iff] at hf
    have hfeas : ∀ m ∈ ord, bit c m = true → stand (spA l) (bit c) ord (ff (spA l) m) ≤ n := fun m hm hbm => by
      obtain ⟨h1, h2⟩ := (ho.mem m).1 hm
      rw [spA_len] at h1
      have := hf m (Nat.zero_le _) (by omega)
      rw [cntJ_stand hp (fun k hk => kl_getD c l.length k hk) m h1, if_pos ⟨hbm, h2⟩] at this
      omega
    have := most_kept (n := n) ho ht hfeas
    have e1 := goneQ_perm hp (bit c)
    have e2 := goneQ_perm hp (kp (plRun (spA l) n ord))
    rw [goneN_Q]
    omega
  have hfit : fwB l (kl (encN (kp (plRun (spA l) n ord)) l.length) l.length l.length) (n : Int) l.length 0 = true := by
    rw [fwB_iff]
    intro i _ hi
    rw [cntJ_stand (q := kp (plRun (spA l) n ord)) hp (fun k hk => by rw [kl_getD _ _ _ hk]; exact encN_bit _ _ _ hk) i (by omega)]
    split
    · have := kept_fits (n := n) ho (ff (spA l) i); omega
    · omega
  refine Nat.le_antisymm ?_ ?_
  · refine Nat.le_trans (lst_le l n _ hfit (2 ^ l.length) 0 l.length (Nat.zero_le _) (by rw [Nat.zero_add]; exact encN_lt _ _)) ?_
    rw [goneN_Q, goneQ_congr l _ (kp (plRun (spA l) n ord)) l.length (fun k hk => encN_bit _ _ _ hk)]
    exact Nat.le_refl _
  · refine lst_ge l n _ hlow _ _ _ ?_
    have e2 := goneQ_perm hp (kp (plRun (spA l) n ord))
    have : ord.length ≤ l.length := by rw [hp.length_eq]; exact plOrd_le _ _
    omega
end Go.Proofs.Ytpfbloddhfphiaa.K
