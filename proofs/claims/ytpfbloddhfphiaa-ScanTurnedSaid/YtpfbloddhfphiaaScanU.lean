import Derived.Test.YtpfbloddhfphiaaK0
import Derived.Test.YtpfbloddhfphiaaScanE
import Derived.Test.YtpfbloddhfphiaaScanLw
import Derived.Deep.DeepMust
import Derived.Test.YtpfbloddhfphiaaProg
import Derived.Below
import Derived.Deep.Draws
import Derived.Deep.AppendLies
import Derived.Maps.AppendAt
import Derived.OwnWalk
import Derived.Laws.BytesArg
import Derived.Laws.MakeOwn
import Derived.Laws.OwnMore
import Derived.Deep.OwnRows
import Derived.Tactics
import Derived.Lib.ConvBytes
import Derived.Laws.Slices
import Derived.WalkKit
import Derived.KernelRfl
import Derived.RowKit3
import Derived.Deep.LoopGhost
import Derived.Deep.QuietTactic
import Derived.BigQuiet
import Derived.WideLaws
import Derived.Deep.DeepCutAuto
import Derived.Deep.CutBlock
import Derived.Deep.RegionHeld3
import Derived.Deep.MidRow
import Derived.Laws.Rows
import Derived.Lib.AppendStr
import Derived.ArgAppend
import Derived.Laws.IdiomCopy
import Derived.OrdersHeld
import Derived.Laws.BitsLemmas
import Derived.RowKit
import Derived.RegionTactic
import Derived.Deep.RegionWith
import Derived.Lib.Hide
import Derived.Test.YtpfbloddhfphiaaWWords
import Derived.Test.YtpfbloddhfphiaaWLast
import Derived.Test.YtpfbloddhfphiaaWTab
import Derived.Test.YtpfbloddhfphiaaWFour
import Derived.Test.YtpfbloddhfphiaaWQPut
import Derived.Test.YtpfbloddhfphiaaWApart
import Derived.Test.YtpfbloddhfphiaaWArr
import Derived.Test.YtpfbloddhfphiaaWZeros
import Derived.Test.YtpfbloddhfphiaaWFoot
import Derived.Test.YtpfbloddhfphiaaWKept
import Derived.Test.YtpfbloddhfphiaaWShare
import Derived.Test.YtpfbloddhfphiaaWN
import Derived.Test.YtpfbloddhfphiaaWEqStruct
import Derived.Test.YtpfbloddhfphiaaWRepsOne
import Derived.Test.YtpfbloddhfphiaaWGuard
import Derived.Test.YtpfbloddhfphiaaWNEv
import Derived.Test.YtpfbloddhfphiaaWMore
import Derived.Deep.RegionLaw
import Derived.Laws.CopyOwn
namespace Go.Proofs.Ytpfbloddhfphiaa.K
open Go.RowKit Go.Proofs.YtpfbloddhfphiaaW.PrintWords Go.Proofs.YtpfbloddhfphiaaW.PrintLast Go.Proofs.YtpfbloddhfphiaaW.PrintMore
attribute [local go_sem] max2_int min2_int max_two min_two max_three min_three max_four min_four   -- for this text's walks alone
set_option linter.unusedVariables false
set_option linter.unusedSimpArgs false
set_option linter.unusedSectionVars false
/-! ### ScanTurned: the spilled are as many in another order, and with all spans further on -/
theorem turn_le {A B : List S35} {n : Nat} {oa ob : List Nat} (ha : Ord A oa) (hb : Ord B ob) (σ : Nat → Nat) (d : Int) (hp : ob.Perm (oa.map σ)) (hf : ∀ k ∈ oa, ff B (σ k) = ff A k + d) (ht : ∀ k ∈ oa, tt B (σ k) = tt A k + d) (hA : ∀ k ∈ oa, tt A k < 1000) :
    ob.countP (kp (plRun B n ob)) ≤ oa.countP (kp (plRun A n oa)) := by
  have h1 : ∀ x, stand A (fun k => kp (plRun B n ob) (σ k)) oa x = stand B (kp (plRun B n ob)) ob (x + d) := fun x => by
    unfold stand
    rw [hp.countP_eq, List.countP_map]
    refine List.countP_congr fun k hk => ?_
    show _ ↔ (kp (plRun B n ob) (σ k) && decide (ff B (σ k) ≤ x + d) && decide (x + d ≤ tt B (σ k))) = true
    rw [hf k hk, ht k hk]
    simp only [Bool.and_eq_true, decide_eq_true_eq]
    constructor <;> rintro ⟨⟨h1, h2⟩, h3⟩ <;> exact ⟨⟨h1, by omega⟩, by omega⟩
  have h2 := most_kept (n := n) ha hA (q := fun k => kp (plRun B n ob) (σ k)) (fun m hm _ => by rw [h1]; exact kept_fits hb _)
  rw [hp.countP_eq, List.countP_map]
  exact h2
def turn (l : List C45) (k : Nat) : List C45 := l.drop k ++ l.take k
theorem turn_len (l : List C45) (k : Nat) : (turn l k).length = l.length := by
  unfold turn; rw [List.length_append, List.length_drop, List.length_take]; omega
theorem turn_turn (l : List C45) (k : Nat) (hk : k ≤ l.length) : turn (turn l k) (l.length - k) = l := by
  unfold turn
  have e : l.length - k = (l.drop k).length := by rw [List.length_drop]
  rw [e, List.drop_left, List.take_left, List.take_append_drop]
def sg (n k j : Nat) : Nat := if k ≤ j then j - k else j + (n - k)
theorem sg_lt {n k j : Nat} (hk : k ≤ n) (hj : j < n) : sg n k j < n := by unfold sg; split <;> omega
theorem sg_inj {n k i j : Nat} (hk : k ≤ n) (hi : i < n) (hj : j < n) (h : sg n k i = sg n k j) : i = j := by
  unfold sg at h
  split at h <;> split at h <;> omega
theorem turn_get (l : List C45) (k j : Nat) (hk : k ≤ l.length) (hj : j < l.length) : (turn l k).getD (sg l.length k j) z45 = l.getD j z45 := by
  unfold turn sg
  rw [List.getD_eq_getElem?_getD, List.getD_eq_getElem?_getD]
  by_cases c : k ≤ j
  · rw [if_pos c, List.getElem?_append_left (by rw [List.length_drop]; omega), List.getElem?_drop, show k + (j - k) = j by omega]
  · rw [if_neg c, List.getElem?_append_right (by rw [List.length_drop]; omega), List.length_drop, show j + (l.length - k) - (l.length - k) = j by omega, List.getElem?_take, if_pos (by omega)]
theorem mem_plOrd {l : List S35} {i k : Nat} : k ∈ plOrd l i ↔ k < i ∧ ff l k ≤ tt l k := by
  unfold plOrd
  rw [List.mem_filter, List.mem_range, decide_eq_true_eq]
theorem nd_plOrd (l : List S35) (i : Nat) : (plOrd l i).Nodup := by
  unfold plOrd
  exact List.nodup_range.sublist List.filter_sublist
theorem turn_ff (l : List C45) (k j : Nat) (hk : k ≤ l.length) (hj : j < l.length) : ff (spA (turn l k)) (sg l.length k j) = ff (spA l) j := by
  rw [ffA, ffA, turn_get l k j hk hj]
theorem turn_tt (l : List C45) (k j : Nat) (hk : k ≤ l.length) (hj : j < l.length) : tt (spA (turn l k)) (sg l.length k j) = tt (spA l) j := by
  rw [ttA, ttA, turn_get l k j hk hj]
theorem nodup_map_on {f : Nat → Nat} : ∀ {l : List Nat}, (∀ a ∈ l, ∀ b ∈ l, f a = f b → a = b) → l.Nodup → (l.map f).Nodup
  | [], _, _ => List.nodup_nil
  | x :: t, h, hn => by
    rw [List.nodup_cons] at hn
    rw [List.map_cons, List.nodup_cons]
    refine ⟨fun hm => ?_, nodup_map_on (fun a ha b hb => h a (List.mem_cons_of_mem _ ha) b (List.mem_cons_of_mem _ hb)) hn.2⟩
    obtain ⟨y, hy, e⟩ := List.mem_map.1 hm
    have := h y (List.mem_cons_of_mem _ hy) x List.mem_cons_self e
    subst this
    exact hn.1 hy
theorem turn_perm (l : List C45) (k : Nat) (hk : k ≤ l.length) : (plOrd (spA (turn l k)) l.length).Perm ((plOrd (spA l) l.length).map (sg l.length k)) := by
  refine (List.perm_ext_iff_of_nodup (nd_plOrd _ _) ?_).2 fun m => ?_
  · refine nodup_map_on (fun a ha b hb h => sg_inj hk (mem_plOrd.1 ha).1 (mem_plOrd.1 hb).1 h) (nd_plOrd _ _)
  · rw [mem_plOrd, List.mem_map]
    constructor
    · rintro ⟨h1, h2⟩
      obtain ⟨j, hj, e⟩ : ∃ j, j < l.length ∧ sg l.length k j = m := by
        unfold sg
        by_cases c : m < l.length - k
        · exact ⟨m + k, by omega, by rw [if_pos (by omega)]; omega⟩
        · exact ⟨m - (l.length - k), by omega, by rw [if_neg (by omega)]; omega⟩
      subst e
      rw [turn_ff l k j hk hj, turn_tt l k j hk hj] at h2
      exact ⟨j, mem_plOrd.2 ⟨hj, h2⟩, rfl⟩
    · rintro ⟨j, hj, rfl⟩
      obtain ⟨h1, h2⟩ := mem_plOrd.1 hj
      exact ⟨sg_lt hk h1, by rw [turn_ff l k j hk h1, turn_tt l k j hk h1]; exact h2⟩
theorem tt_small {l : List C45} (hb : ∀ x ∈ l, (0 ≤ x.f0 ∧ x.f0 < 256) ∧ (0 ≤ x.f1 ∧ x.f1 < 256)) (k : Nat) : tt (spA l) k < 1000 := by
  rw [ttA, List.getD_eq_getElem?_getD]
  by_cases c : k < l.length
  · rw [List.getElem?_eq_getElem c]
    have := (hb _ (List.getElem_mem c)).2
    show (l[k]).f1 < 1000
    omega
  · rw [List.getElem?_eq_none (by omega)]
    show z45.f1 < 1000
    decide
section
variable {l : List C45} {n : Nat} {oa ob : List Nat} (ha : oa.Perm (plOrd (spA l) l.length)) (sa : oa.Pairwise (fun a b => ff (spA l) a ≤ ff (spA l) b)) (hb : ∀ x ∈ l, (0 ≤ x.f0 ∧ x.f0 < 256) ∧ (0 ≤ x.f1 ∧ x.f1 < 256))
include ha sa hb
theorem turn_kept {k : Nat} (hk : k ≤ l.length) (pb : ob.Perm (plOrd (spA (turn l k)) l.length)) (sb : ob.Pairwise (fun a b => ff (spA (turn l k)) a ≤ ff (spA (turn l k)) b)) :
    ob.countP (kp (plRun (spA (turn l k)) n ob)) ≤ oa.countP (kp (plRun (spA l) n oa)) := by
  have hA : Ord (spA l) oa := ord_of (by rw [spA_len]; exact ha) sa
  have hB : Ord (spA (turn l k)) ob := ord_of (by rw [spA_len, turn_len]; exact pb) sb
  have hlt : ∀ j ∈ oa, j < l.length := fun j hj => (mem_plOrd.1 (ha.mem_iff.1 hj)).1
  exact turn_le hA hB (sg l.length k) 0 (pb.trans ((turn_perm l k hk).trans (ha.symm.map _))) (fun j hj => by rw [turn_ff l k j hk (hlt j hj), Int.add_zero]) (fun j hj => by rw [turn_tt l k j hk (hlt j hj), Int.add_zero]) (fun j _ => tt_small hb j)
end
theorem turn_mem {l : List C45} {k : Nat} {x : C45} (h : x ∈ turn l k) : x ∈ l := by
  unfold turn at h
  rcases List.mem_append.1 h with h | h
  · exact List.mem_of_mem_drop h
  · exact List.mem_of_mem_take h
theorem turn_gone {l : List C45} {n k : Nat} {oa ob : List Nat} (hb : ∀ x ∈ l, (0 ≤ x.f0 ∧ x.f0 < 256) ∧ (0 ≤ x.f1 ∧ x.f1 < 256)) (hk : k ≤ l.length)
    (ha : oa.Perm (plOrd (spA l) l.length)) (sa : oa.Pairwise (fun a b => ff (spA l) a ≤ ff (spA l) b))
    (pb : ob.Perm (plOrd (spA (turn l k)) (turn l k).length)) (sb : ob.Pairwise (fun a b => ff (spA (turn l k)) a ≤ ff (spA (turn l k)) b)) :
    goneQ l (kp (plRun (spA l) n oa)) l.length = goneQ (turn l k) (kp (plRun (spA (turn l k)) n ob)) (turn l k).length := by
  have pb' := pb
  rw [turn_len] at pb'
  have h1 := turn_kept (n := n) ha sa hb hk pb' sb
  have h2 := turn_kept (l := turn l k) (n := n) (k := l.length - k) (oa := ob) (ob := oa) pb sb (fun x hx => hb x (turn_mem hx)) (by rw [turn_len]; omega) (by rw [turn_turn l k hk, turn_len]; exact ha) (by rw [turn_turn l k hk]; exact sa)
  rw [turn_turn l k hk] at h2
  have e1 := goneQ_perm ha (kp (plRun (spA l) n oa))
  have e2 := goneQ_perm pb (kp (plRun (spA (turn l k)) n ob))
  have e3 : ob.length = oa.length := by
    rw [(pb'.trans (turn_perm l k hk)).length_eq, List.length_map, ha.length_eq]
  omega
/-- All spans further on by seven. -/
def mv (x : S35) : S35 := ⟨x.f0 + 7, x.f1 + 7⟩
def spM (l : List C45) : List S35 := (spA l).map mv
theorem spM_len (l : List C45) : (spM l).length = l.length := by unfold spM; rw [List.length_map, spA_len]
theorem ffM (l : List C45) (k : Nat) (hk : k < l.length) : ff (spM l) k = ff (spA l) k + 7 := by
  unfold ff spM
  rw [List.getD_eq_getElem?_getD, List.getElem?_map, List.getD_eq_getElem?_getD, List.getElem?_eq_getElem (by rw [spA_len]; exact hk)]
  rfl
theorem ttM (l : List C45) (k : Nat) (hk : k < l.length) : tt (spM l) k = tt (spA l) k + 7 := by
  unfold tt spM
  rw [List.getD_eq_getElem?_getD, List.getElem?_map, List.getD_eq_getElem?_getD, List.getElem?_eq_getElem (by rw [spA_len]; exact hk)]
  rfl
theorem plOrdM (l : List C45) : plOrd (spM l) l.length = plOrd (spA l) l.length := by
  unfold plOrd
  refine List.filter_congr fun k hk => ?_
  have hk' := List.mem_range.1 hk
  rw [ffM l k hk', ttM l k hk']
  exact decide_eq_decide.2 (by omega)
theorem moved_gone {l : List C45} {n : Nat} {oa ob : List Nat} (hb : ∀ x ∈ l, (0 ≤ x.f0 ∧ x.f0 < 256) ∧ (0 ≤ x.f1 ∧ x.f1 < 256))
    (ha : oa.Perm (plOrd (spA l) l.length)) (sa : oa.Pairwise (fun a b => ff (spA l) a ≤ ff (spA l) b))
    (pb : ob.Perm (plOrd (spM l) l.length)) (sb : ob.Pairwise (fun a b => ff (spM l) a ≤ ff (spM l) b)) :
    goneQ l (kp (plRun (spA l) n oa)) l.length = goneQ l (kp (plRun (spM l) n ob)) l.length := by
  have hA : Ord (spA l) oa := ord_of (by rw [spA_len]; exact ha) sa
  have hB : Ord (spM l) ob := ord_of (by rw [spM_len]; exact pb) sb
  have pb2 := pb
  rw [plOrdM] at pb2
  have hla : ∀ j ∈ oa, j < l.length := fun j hj => (mem_plOrd.1 (ha.mem_iff.1 hj)).1
  have hlb : ∀ j ∈ ob, j < l.length := fun j hj => (mem_plOrd.1 (pb.mem_iff.1 hj)).1
  have h1 := turn_le (n := n) hA hB id 7 (by rw [List.map_id]; exact pb2.trans ha.symm) (fun k hk => ffM l k (hla k hk)) (fun k hk => ttM l k (hla k hk)) (fun k _ => tt_small hb k)
  have h2 := turn_le (n := n) hB hA id (-7) (by rw [List.map_id]; exact ha.trans pb2.symm) (fun k hk => by have := ffM l k (hlb k hk); show ff (spA l) k = _; omega) (fun k hk => by have := ttM l k (hlb k hk); show tt (spA l) k = _; omega) (fun k hk => by
    have h := ttM l k (hlb k hk)
    have h3 : tt (spA l) k < 256 := by
      rw [ttA, List.getD_eq_getElem?_getD, List.getElem?_eq_getElem (hlb k hk)]
      have := (hb _ (List.getElem_mem (hlb k hk))).2
      show (l[k]'(hlb k hk)).f1 < 256
      omega
    omega)
  have e1 := goneQ_perm ha (kp (plRun (spA l) n oa))
  have e2 := goneQ_perm pb2 (kp (plRun (spM l) n ob))
  have e3 : ob.length = oa.length := (pb2.trans ha.symm).length_eq
  omega
end Go.Proofs.Ytpfbloddhfphiaa.K
