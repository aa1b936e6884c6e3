import Derived.Test.YtpfbloddhfphiaaK0
import Derived.Test.YtpfbloddhfphiaaK31
import Derived.Test.YtpfbloddhfphiaaScanE
import Derived.Test.YtpfbloddhfphiaaScanLw
import Derived.Test.YtpfbloddhfphiaaScanV
import Derived.Deep.DeepMust
import Derived.Test.YtpfbloddhfphiaaProg
import Derived.Below
import Derived.Deep.Draws
import Derived.Deep.AppendLies
import Derived.Maps.AppendAt
import Derived.OwnWalk
import Derived.Laws.BytesArg
import Derived.Laws.MakeOwn
import Derived.Laws.OwnMore
import Derived.Deep.OwnRows
import Derived.Tactics
import Derived.Lib.ConvBytes
import Derived.Laws.Slices
import Derived.WalkKit
import Derived.KernelRfl
import Derived.RowKit3
import Derived.Deep.LoopGhost
import Derived.Deep.QuietTactic
import Derived.BigQuiet
import Derived.WideLaws
import Derived.Deep.DeepCutAuto
import Derived.Deep.CutBlock
import Derived.Deep.RegionHeld3
import Derived.Deep.MidRow
import Derived.Laws.Rows
import Derived.Lib.AppendStr
import Derived.ArgAppend
import Derived.Laws.IdiomCopy
import Derived.OrdersHeld
import Derived.Laws.BitsLemmas
import Derived.RowKit
import Derived.RegionTactic
import Derived.Deep.RegionWith
import Derived.Lib.Hide
import Derived.Test.YtpfbloddhfphiaaWWords
import Derived.Test.YtpfbloddhfphiaaWLast
import Derived.Test.YtpfbloddhfphiaaWTab
import Derived.Test.YtpfbloddhfphiaaWFour
import Derived.Test.YtpfbloddhfphiaaWQPut
import Derived.Test.YtpfbloddhfphiaaWApart
import Derived.Test.YtpfbloddhfphiaaWArr
import Derived.Test.YtpfbloddhfphiaaWZeros
import Derived.Test.YtpfbloddhfphiaaWFoot
import Derived.Test.YtpfbloddhfphiaaWKept
import Derived.Test.YtpfbloddhfphiaaWShare
import Derived.Test.YtpfbloddhfphiaaWN
import Derived.Test.YtpfbloddhfphiaaWEqStruct
import Derived.Test.YtpfbloddhfphiaaWRepsOne
import Derived.Test.YtpfbloddhfphiaaWGuard
import Derived.Test.YtpfbloddhfphiaaWNEv
import Derived.Test.YtpfbloddhfphiaaWMore
import Derived.Deep.RegionLaw
import Derived.Laws.CopyOwn
namespace Go.Proofs.Ytpfbloddhfphiaa.K
open Go.RowKit Go.Proofs.YtpfbloddhfphiaaW.PrintWords Go.Proofs.YtpfbloddhfphiaaW.PrintLast Go.Proofs.YtpfbloddhfphiaaW.PrintMore
attribute [local go_sem] max2_int min2_int max_two min_two max_three min_three max_four min_four   -- for this text's walks alone
set_option linter.unusedVariables false
set_option linter.unusedSimpArgs false
set_option linter.unusedSectionVars false
/-! ### span.Most, and what it has to do with what Places spills -/
def holdsAt (n : Int) (x : S35) : Bool := decide (x.f0 ≤ n) && decide (n ≤ x.f1)
def cntAt (s : List S35) (n : Int) : Nat := s.countP (holdsAt n)
theorem cntAt_take (s : List S35) (n : Int) (k : Nat) (hk : k < s.length) : cntAt (s.take (k + 1)) n = cntAt (s.take k) n + (if holdsAt n (s.getD k z35) then 1 else 0) := by
  unfold cntAt
  rw [List.take_add_one, List.countP_append, List.getElem?_eq_getElem hk, List.getD_eq_getElem?_getD, List.getElem?_eq_getElem hk]
  simp [List.countP_cons]
theorem cntAt_le (s : List S35) (n : Int) : cntAt s n ≤ s.length := List.countP_le_length
theorem holds_meet (x : Int) (y : S35) : span_Meet.f x x y.f0 y.f1 = some (holdsAt x y) := by
  rw [spanMeet_f]
  unfold meetB holdsAt
  congr 1
  rw [Bool.eq_iff_iff]
  simp only [Bool.and_eq_true, decide_eq_true_eq]
  omega
theorem mx_max (a b : Int) : mx a b = max a b := by unfold mx; split <;> omega
theorem most_l1 (s : List S35) (hs : s.length ≤ 40) (i : Nat) (hi : i < s.length) (m : Nat) (R : Int) (F : Nat)
    (hR : ∀ k, F ≤ k → span_Most.l0 (k) s (if (s.getD i z35).f0 ≤ (s.getD i z35).f1 then max (m : Int) (cntAt s (s.getD i z35).f0) else m) s s.length ((i : Int) + 1) = some R) :
    ∀ (d : Nat) (j : Nat), s.length - j = d → j ≤ s.length → ∀ k, F + d + 1 ≤ k → span_Most.l1 k s m (cntAt (s.take j) (s.getD i z35).f0) s s.length i s s.length j (s.getD i z35).f0 (s.getD i z35).f1 = some R
  | d, j, hd, hj, 0, hk => by omega
  | d, j, hd, hj, k + 1, hk => by
    unfold span_Most.l1
    have hc := cntAt_le (s.take j) (s.getD i z35).f0
    rw [List.length_take] at hc
    by_cases c : j < s.length
    · have e1 : wrap64 ((j : Int) + 1) = ((j + 1 : Nat) : Int) := by unfold wrap64; omega
      have e2 : wrap64 ((cntAt (s.take j) (s.getD i z35).f0 : Int) + 1) = ((cntAt (s.take j) (s.getD i z35).f0 + 1 : Nat) : Int) := by unfold wrap64; omega
      have er : rd_T35 s (j : Int) = s.getD j z35 := by unfold rd_T35; simp
      rw [if_pos (by omega), if_pos (by omega), if_pos (by omega), er, holds_meet, e1, e2]
      show (if holdsAt _ _ = true then _ else _) = _
      have ht := cntAt_take s (s.getD i z35).f0 j c
      have ih := most_l1 s hs i hi m R F hR (d - 1) (j + 1) (by omega) (by omega) k (by omega)
      by_cases ch : holdsAt (s.getD i z35).f0 (s.getD j z35) = true
      · rw [if_pos ch]; rw [if_pos ch] at ht; rw [← ht]; exact ih
      · rw [if_neg ch]; rw [if_neg ch] at ht; have ht2 := ht.trans (Nat.add_zero _); rw [← ht2]; exact ih
    · have ej : j = s.length := by omega
      subst ej
      rw [if_neg (by omega), List.take_length]
      have e1 : wrap64 ((i : Int) + 1) = (i : Int) + 1 := by unfold wrap64; omega
      have := hR k (by omega)
      rw [e1]
      by_cases cf : (s.getD i z35).f0 ≤ (s.getD i z35).f1
      · rw [if_pos cf, mx_max]; rw [if_pos cf] at this
        exact this
      · rw [if_neg cf]; rw [if_neg cf] at this
        exact this
def bst (s : List S35) : Nat → Nat
  | 0 => 0
  | i + 1 => if (s.getD i z35).f0 ≤ (s.getD i z35).f1 then max (bst s i) (cntAt s (s.getD i z35).f0) else bst s i
theorem most_l0 (s : List S35) (hs : s.length ≤ 40) : ∀ (d i : Nat), s.length - i = d → i ≤ s.length → ∀ k, 50 * d + 1 ≤ k → span_Most.l0 k s (bst s i) s s.length i = some (bst s s.length : Int)
  | d, i, hd, hi, 0, hk => by omega
  | d, i, hd, hi, k + 1, hk => by
    unfold span_Most.l0
    by_cases c : i < s.length
    · have er : rd_T35 s (i : Int) = s.getD i z35 := by unfold rd_T35; simp
      rw [if_pos (by omega), if_pos (by omega), if_pos (by omega), er]
      have := most_l1 s hs i c (bst s i) (bst s s.length : Int) (50 * (d - 1) + 1) (fun k' hk' => by
        have ih := most_l0 s hs (d - 1) (i + 1) (by omega) (by omega) k' (by omega)
        rw [← ih]
        congr 1
        show _ = ((if (s.getD i z35).f0 ≤ (s.getD i z35).f1 then max (bst s i) (cntAt s (s.getD i z35).f0) else bst s i : Nat) : Int)
        split <;> omega) s.length 0 (by omega) (by omega) k (by omega)
      simpa [cntAt] using this
    · have : i = s.length := by omega
      subst this
      rw [if_neg (by omega)]
termination_by d => d
theorem most_f (s : List S35) (hs : s.length ≤ 40) : span_Most.f 2001 s = some (bst s s.length : Int) := by
  have := most_l0 s hs s.length 0 (by omega) (by omega) 2001 (by omega)
  exact this
theorem bst_mono (s : List S35) (i : Nat) : bst s i ≤ bst s (i + 1) := by
  show bst s i ≤ (if (s.getD i z35).f0 ≤ (s.getD i z35).f1 then max (bst s i) (cntAt s (s.getD i z35).f0) else bst s i)
  split
  · exact Nat.le_max_left _ _
  · exact Nat.le_refl _
theorem bst_le (s : List S35) (i : Nat) : ∀ d, bst s i ≤ bst s (i + d)
  | 0 => Nat.le_refl _
  | d + 1 => Nat.le_trans (bst_le s i d) (bst_mono s (i + d))
theorem bst_ge (s : List S35) (i : Nat) (hi : i < s.length) (hv : (s.getD i z35).f0 ≤ (s.getD i z35).f1) : cntAt s (s.getD i z35).f0 ≤ bst s s.length := by
  have h1 : cntAt s (s.getD i z35).f0 ≤ bst s (i + 1) := by
    have e : bst s (i + 1) = max (bst s i) (cntAt s (s.getD i z35).f0) := if_pos hv
    rw [e]; exact Nat.le_max_right _ _
  have h2 := bst_le s (i + 1) (s.length - (i + 1))
  rw [show i + 1 + (s.length - (i + 1)) = s.length by omega] at h2
  omega

theorem getD_map_range (s : List S35) : (List.range s.length).map (fun k => s.getD k z35) = s := by
  refine List.ext_getElem (by simp) fun j h1 h2 => ?_
  rw [List.getElem_map, List.getElem_range, List.getD_eq_getElem?_getD, List.getElem?_eq_getElem h2]; rfl
theorem stand_cnt {s : List S35} {ord : List Nat} (hp : ord.Perm (plOrd s s.length)) (x : Int) : stand s (fun _ => true) ord x = cntAt s x := by
  unfold stand cntAt
  rw [hp.countP_eq]
  unfold plOrd
  rw [List.countP_filter]
  have e : s.countP (holdsAt x) = ((List.range s.length).map (fun k => s.getD k z35)).countP (holdsAt x) := by rw [getD_map_range]
  rw [e, List.countP_map]
  refine List.countP_congr fun k _ => ?_
  show _ ↔ holdsAt x (s.getD k z35) = true
  unfold holdsAt ff tt
  simp only [Bool.and_eq_true, decide_eq_true_eq, Bool.true_and]
  constructor
  · rintro ⟨h, _⟩; exact h
  · rintro ⟨h1, h2⟩; exact ⟨⟨h1, h2⟩, by omega⟩
theorem bst_at (s : List S35) : ∀ k, 1 ≤ bst s k → ∃ i, i < k ∧ (s.getD i z35).f0 ≤ (s.getD i z35).f1 ∧ cntAt s (s.getD i z35).f0 = bst s k
  | 0, h => by simp [bst] at h
  | k + 1, h => by
    by_cases hv : (s.getD k z35).f0 ≤ (s.getD k z35).f1
    · have e : bst s (k + 1) = max (bst s k) (cntAt s (s.getD k z35).f0) := if_pos hv
      by_cases hm : bst s k ≤ cntAt s (s.getD k z35).f0
      · exact ⟨k, by omega, hv, by rw [e, Nat.max_eq_right hm]⟩
      · have hm2 : cntAt s (s.getD k z35).f0 ≤ bst s k := by omega
        obtain ⟨i, h1, h2, h3⟩ := bst_at s k (by omega)
        exact ⟨i, by omega, h2, by rw [h3, e, Nat.max_eq_left hm2]⟩
    · have e : bst s (k + 1) = bst s k := if_neg hv
      rw [e] at h ⊢
      obtain ⟨i, h1, h2, h3⟩ := bst_at s k h
      exact ⟨i, by omega, h2, h3⟩
theorem bst_le_len (s : List S35) : ∀ k, bst s k ≤ s.length
  | 0 => Nat.zero_le _
  | k + 1 => by
    have h1 := bst_le_len s k
    have h2 := cntAt_le s (s.getD k z35).f0
    show (if (s.getD k z35).f0 ≤ (s.getD k z35).f1 then max (bst s k) (cntAt s (s.getD k z35).f0) else bst s k) ≤ _
    split
    · exact Nat.max_le.2 ⟨h1, h2⟩
    · exact h1
section
variable {l : List C45} {ord : List Nat} (hp : ord.Perm (plOrd (spA l) l.length)) (hs : ord.Pairwise (fun a b => ff (spA l) a ≤ ff (spA l) b)) (hb : ∀ x ∈ l, (0 ≤ x.f0 ∧ x.f0 < 256) ∧ (0 ≤ x.f1 ∧ x.f1 < 256))
include hp hs
theorem all_none (hb : ∀ x ∈ l, (0 ≤ x.f0 ∧ x.f0 < 256) ∧ (0 ≤ x.f1 ∧ x.f1 < 256)) : goneQ l (kp (plRun (spA l) (bst (spA l) l.length) ord)) l.length = 0 := by
  have ho : Ord (spA l) ord := ord_of (by rw [spA_len]; exact hp) hs
  have ht : ∀ k ∈ ord, tt (spA l) k < 1000 := fun k hk => by
    have hkl := ((ho.mem k).1 hk).1
    rw [spA_len] at hkl
    rw [ttA]
    have := (hb (l.getD k z45) (by rw [List.getD_eq_getElem?_getD, List.getElem?_eq_getElem hkl]; exact List.getElem_mem _)).2
    omega
  have hf : ∀ m ∈ ord, (fun _ : Nat => true) m = true → stand (spA l) (fun _ => true) ord (ff (spA l) m) ≤ bst (spA l) l.length := fun m hm _ => by
    obtain ⟨h1, h2⟩ := (ho.mem m).1 hm
    rw [stand_cnt (by rw [spA_len]; exact hp)]
    have := bst_ge (spA l) m h1 h2
    rw [spA_len] at this
    exact this
  have h1 := most_kept (n := bst (spA l) l.length) ho ht hf
  have h2 := goneQ_perm hp (kp (plRun (spA l) (bst (spA l) l.length) ord))
  have h3 : ord.countP (fun _ => true) = ord.length := by rw [List.countP_true]
  omega
theorem less_some (n : Nat) (hn : bst (spA l) l.length = n + 1) : 0 < goneQ l (kp (plRun (spA l) n ord)) l.length := by
  have ho : Ord (spA l) ord := ord_of (by rw [spA_len]; exact hp) hs
  refine Nat.pos_of_ne_zero fun h0 => ?_
  have h2 := goneQ_perm hp (kp (plRun (spA l) n ord))
  rw [h0, Nat.zero_add] at h2
  have hall : ∀ k ∈ ord, kp (plRun (spA l) n ord) k = true := List.countP_eq_length.1 h2
  obtain ⟨i, h3, h4, h5⟩ := bst_at (spA l) l.length (by omega)
  have h6 := kept_fits (n := n) ho (ff (spA l) i)
  have h7 : stand (spA l) (kp (plRun (spA l) n ord)) ord (ff (spA l) i) = stand (spA l) (fun _ => true) ord (ff (spA l) i) := by
    unfold stand
    refine List.countP_congr fun k hk => ?_
    rw [hall k hk]
  rw [h7, stand_cnt (by rw [spA_len]; exact hp)] at h6
  have h8 : cntAt (spA l) (ff (spA l) i) = n + 1 := by rw [← hn, ← h5]; rfl
  omega
end
/-! ### hauberklaw16.ScanAll: function 7, typed by hand -/
def PlAl (l : List C45) (N : Nat) (w : World) (e : Ending) (w' : World) : Prop :=
  ∃ (ord : List Nat) (P : List Int) (go : Nat), ord.Perm (plOrd (spA l) l.length) ∧ ord.Pairwise (fun a b => ff (spA l) a ≤ ff (spA l) b) ∧ P.length = l.length ∧ goneQ l (ps P) l.length = goneQ l (kp (plRun (spA l) N ord)) l.length ∧
    e = .returned (.tuple #[.slice (some ⟨go, 0, none⟩) l.length l.length, .int .i64 0]) ∧ Kd.C (Kd.int .i64) w' (some ⟨go, 0, none⟩) P.length P ∧ Below w.heap.size w w'
theorem plal_calls (l : List C45) (Aa : Option Addr) (ca : Nat) (N : Nat) (w : World) (hrow : Kd.C k35 w Aa (spA l).length (spA l)) (hc : (spA l).length ≤ ca) (hA : ∀ a, Aa = some a → a.block < w.heap.size) (hl : l.length ≤ 60) (hN : N ≤ 32) :
    Calls Try.prog 10 #[.slice Aa (spA l).length ca, .int .i64 (N : Int)] w (PlAl l N w) := by
  refine Calls.mono (places_calls60 Aa ca (spA l) N w hrow hc hA (by rw [spA_len]; omega) hN) ?_
  rintro e w' ⟨ord, go, hp, hs, rfl, ho, hlo, hbl⟩
  rw [spA_len] at hp
  have hol : (plRun (spA l) N ord).out.length = l.length := by
    have := (plAt_inv (spA l) N ord (fun k hk => by have := plOrd_lt (spA l) k (by rw [spA_len]; exact hp.mem_iff.1 hk); exact this) ord.length (Nat.le_refl _)).olen
    rw [plAt_all, spA_len] at this
    exact this
  exact ⟨ord, (plRun (spA l) N ord).out, go, hp, hs, hol, rfl, by rw [spA_len], rowI_C ho (by omega), hbl⟩
set_option maxHeartbeats 8000000 in
set_option maxRecDepth 100000 in
theorem all_calls (l : List C45) (A0 : Option Addr) (c0 : Nat) (w : World) (hl : ∀ x ∈ l, (0 ≤ x.f0 ∧ x.f0 < 256) ∧ (0 ≤ x.f1 ∧ x.f1 < 256)) (hr0 : Kd.C k45 w A0 l.length l) (hc0 : l.length ≤ c0) :
    Calls Try.prog 7 #[.slice A0 l.length c0] w (awPost w) := by
  have HR0 := Aside0.mk hr0
  have HL := Aside0.mk hl
  have HC0 := Aside0.mk hc0
  have HB := Aside0.mk (Below.refl w.heap.size w)
  clear hl hr0 hc0
  by_cases h1 : 30 < l.length
  · have d1 : decide ((30 : Int) < (l.length : Int)) = true := decide_eq_true (by omega)
    clear h1
    go_enter Try.func7, Try.ntmps7
    go_wp2_with (first | (go_at_call 8; (with_reducible refine (awake_calls _).mono ?_); rintro e w1 ⟨rfl, hb⟩; have n0_ := Aside0.mk (below_step HB.out hb); clear HB; have HB := n0_; clear n0_ hb))
    go_ret
    exact ⟨rfl, HB.out⟩
  · have d1 : decide ((30 : Int) < (l.length : Int)) = false := decide_eq_false (by omega)
    have HLEN := Aside0.mk (show l.length ≤ 30 by omega)
    have HMO := Aside0.mk (show span_Most.f 2001 (spA l) = some ((bst (spA l) l.length : Nat) : Int) by
      have := most_f (spA l) (by rw [spA_len]; have := HLEN.out; omega)
      rw [spA_len] at this
      exact this)
    have HML := Aside0.mk (show bst (spA l) l.length ≤ 30 by have := bst_le_len (spA l) l.length; rw [spA_len] at this; have := HLEN.out; omega)
    clear h1
    obtain ⟨M, hM⟩ : ∃ M, bst (spA l) l.length = M := ⟨_, rfl⟩
    have HMM := Aside0.mk hM
    rw [hM] at HMO HML
    clear hM
    go_enter Try.func7, Try.ntmps7
    go_upto_region 3 with (first | (go_at_call 8; (with_reducible refine (awake_calls _).mono ?_); rintro e w1 ⟨rfl, hb⟩; have n0_ := Aside0.mk (below_step HB.out hb); clear HB; have HB := n0_; clear n0_ hb))
    go_upto_region 4 with (first | (go_at_call 9; (with_reducible refine (spans_calls l A0 c0 w1 HL.out (Kd.C_below HR0.out HB.out) HC0.out (by have := HLEN.out; omega)).mono ?_); rintro e w2 ⟨va, vb, rfl, hS⟩; have HS := Aside0.mk hS; have HB2 := Aside0.mk (below_step HB.out hS.hB); clear hS))
    obtain ⟨Aa, ca, ea, hca, hra⟩ := Kd.R_reads HS.out.ha
    subst ea
    have HRA := Aside0.mk hra
    have HCA := Aside0.mk hca
    have HAL := Aside0.mk (r_lt HS.out.ha)
    clear HS HB hra hca d1
    go_upto_region 5 with (first | (go_at_call 15; (with_reducible refine (span_Most.calls 2001 Aa ca (spA l) ((M : Nat) : Int) w2 HRA.out HCA.out HMO.out).mono ?_); rintro e w3 ⟨rfl, hb⟩; have HB3 := Aside0.mk hb; clear hb))
    have H1 := Aside0.mk (plal_calls l Aa ca M w3 (Kd.C_below HRA.out HB3.out) HCA.out (fun a ha => Nat.lt_of_lt_of_le (HAL.out a ha) (below_size HB3.out)) (by have := HLEN.out; omega) (by have := HML.out; omega))
    go_upto_region 6 with (first | (go_at_call 10; (with_reducible refine H1.out.mono ?_); rintro e w4 ⟨ord, P, go, hp, hs, hPl, hsp, rfl, hrp, hb⟩; have HPL := Aside0.mk hPl; have HSP := Aside0.mk (show goneQ l (ps P) l.length = 0 by rw [hsp, ← HMM.out]; exact all_none hp hs HL.out); have HRP := Aside0.mk hrp; have HB4 := Aside0.mk (below_step (below_step HB2.out HB3.out) hb); have HB34 := Aside0.mk (below_step HB3.out hb); clear hp hs hPl hsp hrp hb H1))
    have H2 : Aside0 (Calls Try.prog 13 #[.slice A0 l.length c0, .slice (some ⟨go, 0, none⟩) l.length l.length] w4 (spillPost 0 w4)) := ⟨by
      have h := spilled_calls l A0 c0 P (some ⟨go, 0, none⟩) l.length w4 (Kd.C_below HR0.out HB4.out) HRP.out HPL.out (by have := HLEN.out; omega)
      rw [HSP.out, HPL.out] at h
      exact h⟩
    have z1 : ((l.length : Int) != (l.length : Int)) = false := by simp
    clear HSP HRP HPL
    by_cases hM0 : M = 0
    · subst hM0
      go_wp2_with (first | (go_at_call 13; (with_reducible refine H2.out.mono ?_); rintro e w5 ⟨rfl, hb⟩; have HB5 := Aside0.mk (below_step HB4.out hb); clear hb))
      go_ret
      exact ⟨rfl, HB5.out⟩
    · obtain ⟨n, hn⟩ : ∃ n, M = n + 1 := ⟨M - 1, by omega⟩
      have U1 := Aside0.mk (show IntKind.i64.wrap ((M : Int) - 1) = (n : Int) by rw [IntKind.wrap_i64]; have := HML.out; omega)
      have HNN := Aside0.mk hn
      have n1 : ¬ ((M : Int) = 0) := by omega
      have n1b : ((M : Int) == 0) = false := by simpa using n1
      clear hn hM0
      go_upto_region 10 with (first | (go_at_call 13; (with_reducible refine H2.out.mono ?_); rintro e w5 ⟨rfl, hb⟩; have HB5 := Aside0.mk (below_step HB4.out hb); have HB35 := Aside0.mk (below_step HB34.out hb); clear hb))
      have H3 := Aside0.mk (plal_calls l Aa ca n w5 (Kd.C_below HRA.out HB35.out) HCA.out (fun a ha => Nat.lt_of_lt_of_le (HAL.out a ha) (below_size HB35.out)) (by have := HLEN.out; omega) (by have := HML.out; have := HNN.out; omega))
      have u1 := U1.out
      go_upto_region 11 with (first | (go_at_call 10; (with_reducible refine H3.out.mono ?_); rintro e w6 ⟨ord, P, go, hp, hs, hPl, hsp, rfl, hrp, hb⟩; have HPL := Aside0.mk hPl; have HSP := Aside0.mk (show 0 < goneQ l (ps P) l.length by rw [hsp]; exact less_some hp hs n (by rw [HMM.out]; exact HNN.out)); have HRP := Aside0.mk hrp; have HB6 := Aside0.mk (below_step HB5.out hb); clear hp hs hPl hsp hrp hb H3))
      clear u1
      obtain ⟨sp, hsp⟩ : ∃ sp, goneQ l (ps P) l.length = sp := ⟨_, rfl⟩
      have H4 : Aside0 (Calls Try.prog 13 #[.slice A0 l.length c0, .slice (some ⟨go, 0, none⟩) l.length l.length] w6 (spillPost sp w6)) := ⟨by
        have h := spilled_calls l A0 c0 P (some ⟨go, 0, none⟩) l.length w6 (Kd.C_below HR0.out HB6.out) HRP.out HPL.out (by have := HLEN.out; omega)
        rw [hsp, HPL.out] at h
        exact h⟩
      rw [hsp] at HSP
      have n2 : (0 : Int) < (sp : Int) := by have := HSP.out; omega
      have n3 : 0 < sp := HSP.out
      have z2 : ((l.length : Int) == (l.length : Int)) = true := by simp
      clear hsp HSP HRP HPL
      go_wp2_with (first | (go_at_call 13; (with_reducible refine H4.out.mono ?_); rintro e w7 ⟨rfl, hb⟩; have HB7 := Aside0.mk (below_step HB6.out hb); clear hb))
      go_ret
      exact ⟨rfl, HB7.out⟩
end Go.Proofs.Ytpfbloddhfphiaa.K
