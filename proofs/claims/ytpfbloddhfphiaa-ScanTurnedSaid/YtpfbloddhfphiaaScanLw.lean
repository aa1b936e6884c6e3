import Derived.Test.YtpfbloddhfphiaaK0
import Derived.Test.YtpfbloddhfphiaaScanY
import Derived.Deep.DeepMust
import Derived.Test.YtpfbloddhfphiaaProg
import Derived.Below
import Derived.Deep.Draws
import Derived.Deep.AppendLies
import Derived.Maps.AppendAt
import Derived.OwnWalk
import Derived.Laws.BytesArg
import Derived.Laws.MakeOwn
import Derived.Laws.OwnMore
import Derived.Deep.OwnRows
import Derived.Tactics
import Derived.Lib.ConvBytes
import Derived.Laws.Slices
import Derived.WalkKit
import Derived.KernelRfl
import Derived.RowKit3
import Derived.Deep.LoopGhost
import Derived.Deep.QuietTactic
import Derived.BigQuiet
import Derived.WideLaws
import Derived.Deep.DeepCutAuto
import Derived.Deep.CutBlock
import Derived.Deep.RegionHeld3
import Derived.Deep.MidRow
import Derived.Laws.Rows
import Derived.Lib.AppendStr
import Derived.ArgAppend
import Derived.Laws.IdiomCopy
import Derived.OrdersHeld
import Derived.Laws.BitsLemmas
import Derived.RowKit
import Derived.RegionTactic
import Derived.Deep.RegionWith
import Derived.Lib.Hide
import Derived.Test.YtpfbloddhfphiaaWWords
import Derived.Test.YtpfbloddhfphiaaWLast
import Derived.Test.YtpfbloddhfphiaaWTab
import Derived.Test.YtpfbloddhfphiaaWFour
import Derived.Test.YtpfbloddhfphiaaWQPut
import Derived.Test.YtpfbloddhfphiaaWApart
import Derived.Test.YtpfbloddhfphiaaWArr
import Derived.Test.YtpfbloddhfphiaaWZeros
import Derived.Test.YtpfbloddhfphiaaWFoot
import Derived.Test.YtpfbloddhfphiaaWKept
import Derived.Test.YtpfbloddhfphiaaWShare
import Derived.Test.YtpfbloddhfphiaaWN
import Derived.Test.YtpfbloddhfphiaaWEqStruct
import Derived.Test.YtpfbloddhfphiaaWRepsOne
import Derived.Test.YtpfbloddhfphiaaWGuard
import Derived.Test.YtpfbloddhfphiaaWNEv
import Derived.Test.YtpfbloddhfphiaaWMore
import Derived.Deep.RegionLaw
import Derived.Laws.CopyOwn
namespace Go.Proofs.Ytpfbloddhfphiaa.K
open Go.RowKit Go.Proofs.YtpfbloddhfphiaaW.PrintWords Go.Proofs.YtpfbloddhfphiaaW.PrintLast Go.Proofs.YtpfbloddhfphiaaW.PrintMore
attribute [local go_sem] max2_int min2_int max_two min_two max_three min_three max_four min_four   -- for this text's walks alone
set_option linter.unusedVariables false
set_option linter.unusedSimpArgs false
set_option linter.unusedSectionVars false
/-! ### hauberklaw16.ScanLeast: function 5, typed by hand -/
theorem goneQ_out (l : List C45) (s : PS) (i : Nat) : goneQ l (ps s.out) i = goneQ l (kp s) i := rfl
/-- What ScanLeast leans on: Places' answer, what is spilled of it, and Least. -/
def PlLe (l : List C45) (N : Nat) (w : World) (e : Ending) (w' : World) : Prop :=
  ∃ (P : List Int) (go : Nat), P.length = l.length ∧ goneQ l (ps P) l.length = lst l (N : Int) (2 ^ l.length) 0 l.length ∧ e = .returned (.tuple #[.slice (some ⟨go, 0, none⟩) l.length l.length, .int .i64 0]) ∧
    Kd.C (Kd.int .i64) w' (some ⟨go, 0, none⟩) P.length P ∧ Below w.heap.size w w'
theorem plle_calls (l : List C45) (Aa : Option Addr) (ca : Nat) (N : Nat) (w : World) (hrow : Kd.C k35 w Aa (spA l).length (spA l)) (hc : (spA l).length ≤ ca) (hA : ∀ a, Aa = some a → a.block < w.heap.size) (hl : l.length ≤ 9) (hN : N ≤ 9) (hb : ∀ x ∈ l, (0 ≤ x.f0 ∧ x.f0 < 256) ∧ (0 ≤ x.f1 ∧ x.f1 < 256)) :
    Calls Try.prog 10 #[.slice Aa (spA l).length ca, .int .i64 (N : Int)] w (PlLe l N w) := by
  refine Calls.mono (places_calls Aa ca (spA l) N w hrow hc hA (by rw [spA_len]; omega) (by omega)) ?_
  rintro e w' ⟨ord, go, hp, hs, rfl, ho, hlo, hbl⟩
  rw [spA_len] at hp
  have hol : (plRun (spA l) N ord).out.length = l.length := by
    have := (plAt_inv (spA l) N ord (fun k hk => by have := plOrd_lt (spA l) k (by rw [spA_len]; exact hp.mem_iff.1 hk); exact this) ord.length (Nat.le_refl _)).olen
    rw [plAt_all, spA_len] at this
    exact this
  exact ⟨(plRun (spA l) N ord).out, go, hol, by rw [least_is hp hs hb]; rfl, by rw [spA_len], rowI_C ho (by omega), hbl⟩
theorem r_lt {α : Type} {d : Kd α} {e base : Nat} {ok : Nat → Prop} {w : World} {A : Option Addr} {n c : Nat} {xs : List α} (h : d.R e w base ok (.slice A n c) xs) : ∀ a, A = some a → a.block < w.heap.size := by
  intro a ha
  subst ha
  obtain ⟨g, hg⟩ := Kd.R_head h
  obtain ⟨cells, hc⟩ := Kd.R_typed h g (by rw [hg]; rfl)
  rw [hg]
  exact blk_lt hc
set_option maxHeartbeats 8000000 in
set_option maxRecDepth 100000 in
theorem least_calls (l : List C45) (A0 : Option Addr) (c0 : Nat) (n : Int) (w : World) (hl : ∀ x ∈ l, (0 ≤ x.f0 ∧ x.f0 < 256) ∧ (0 ≤ x.f1 ∧ x.f1 < 256)) (hr0 : Kd.C k45 w A0 l.length l) (hc0 : l.length ≤ c0) :
    Calls Try.prog 5 #[.slice A0 l.length c0, .int .i64 n] w (awPost w) := by
  have HR0 := Aside0.mk hr0
  have HL := Aside0.mk hl
  have HC0 := Aside0.mk hc0
  have HB := Aside0.mk (Below.refl w.heap.size w)
  clear hl hr0 hc0
  by_cases h1 : 9 < l.length
  · have d1 : decide ((9 : Int) < (l.length : Int)) = true := decide_eq_true (by omega)
    clear h1
    go_enter Try.func5, Try.ntmps5
    go_wp2_with (first | (go_at_call 8; (with_reducible refine (awake_calls _).mono ?_); rintro e w1 ⟨rfl, hb⟩; have n0_ := Aside0.mk (below_step HB.out hb); clear HB; have HB := n0_; clear n0_ hb))
    go_ret
    exact ⟨rfl, HB.out⟩
  · have d1 : decide ((9 : Int) < (l.length : Int)) = false := decide_eq_false (by omega)
    by_cases h2 : n < 0
    · have d2 : decide (n < 0) = true := decide_eq_true h2
      clear h1 h2
      go_enter Try.func5, Try.ntmps5
      go_wp2_with (first | (go_at_call 8; (with_reducible refine (awake_calls _).mono ?_); rintro e w1 ⟨rfl, hb⟩; have n0_ := Aside0.mk (below_step HB.out hb); clear HB; have HB := n0_; clear n0_ hb))
      go_ret
      exact ⟨rfl, HB.out⟩
    · by_cases h3 : 9 < n
      · have d2 : decide (n < 0) = false := decide_eq_false h2
        have d3 : decide (9 < n) = true := decide_eq_true h3
        clear h1 h2 h3
        go_enter Try.func5, Try.ntmps5
        go_wp2_with (first | (go_at_call 8; (with_reducible refine (awake_calls _).mono ?_); rintro e w1 ⟨rfl, hb⟩; have n0_ := Aside0.mk (below_step HB.out hb); clear HB; have HB := n0_; clear n0_ hb))
        go_ret
        exact ⟨rfl, HB.out⟩
      · obtain ⟨N, rfl⟩ := Int.eq_ofNat_of_zero_le (by omega : 0 ≤ n)
        have hN : N ≤ 9 := by omega
        have d2 : decide ((N : Int) < 0) = false := decide_eq_false h2
        have d3 : decide ((9 : Int) < (N : Int)) = false := decide_eq_false h3
        have HLEN := Aside0.mk (show l.length ≤ 9 by omega)
        have HLS := Aside0.mk (least_f l (N : Int) HLEN.out)
        clear h1 h2 h3
        go_enter Try.func5, Try.ntmps5
        go_upto_region 3 with (first | (go_at_call 8; (with_reducible refine (awake_calls _).mono ?_); rintro e w1 ⟨rfl, hb⟩; have n0_ := Aside0.mk (below_step HB.out hb); clear HB; have HB := n0_; clear n0_ hb))
        go_upto_region 4 with (first | (go_at_call 9; (with_reducible refine (spans_calls l A0 c0 w1 HL.out (Kd.C_below HR0.out HB.out) HC0.out (by have := HLEN.out; omega)).mono ?_); rintro e w2 ⟨va, vb, rfl, hS⟩; have HS := Aside0.mk hS; have HB2 := Aside0.mk (below_step HB.out hS.hB); clear hS))
        obtain ⟨Aa, ca, ea, hca, hra⟩ := Kd.R_reads HS.out.ha
        obtain ⟨Ab, cb, eb, hcb, hrb⟩ := Kd.R_reads HS.out.hb
        subst ea; subst eb
        have H1 := Aside0.mk (plle_calls l Aa ca N w2 hra hca (r_lt HS.out.ha) HLEN.out hN HL.out)
        have HRB := Aside0.mk hrb
        have HCB := Aside0.mk hcb
        clear HS HB hra hrb hca hcb d1 d2 d3
        go_upto_region 5 with (first | (go_at_call 10; (with_reducible refine H1.out.mono ?_); rintro e w3 ⟨P, go, hPl, hsp, rfl, hrp, hb⟩; have HPL := Aside0.mk hPl; have HSP := Aside0.mk hsp; have HRP := Aside0.mk hrp; have HB3 := Aside0.mk hb; clear hPl hsp hrp hb H1))
        have H2 : Aside0 (Calls Try.prog 13 #[.slice A0 l.length c0, .slice (some ⟨go, 0, none⟩) l.length l.length] w3 (spillPost (lst l (N : Int) (2 ^ l.length) 0 l.length) w3)) := ⟨by
          have h := spilled_calls l A0 c0 P (some ⟨go, 0, none⟩) l.length w3 (Kd.C_below HR0.out (below_step HB2.out HB3.out)) HRP.out HPL.out (by have := HLEN.out; omega)
          rw [HSP.out, HPL.out] at h
          exact h⟩
        have H3 : Aside0 (∀ w4, Below w3.heap.size w3 w4 → Calls Try.prog 14 #[.slice Ab (spB l).length cb, .int .i64 (N : Int)] w4 fun e w' => e = .returned (.int .i64 (lst l (N : Int) (2 ^ l.length) 0 l.length : Nat)) ∧ Below w4.heap.size w4 w') :=
          ⟨fun w4 hb => hauberkref16_Least.calls 61000 Ab cb (spB l) (N : Int) _ w4 (Kd.C_below HRB.out (below_step HB3.out hb)) HCB.out HLS.out⟩
        generalize lst l (N : Int) (2 ^ l.length) 0 l.length = r at H2 H3
        clear HSP HLS HRP HRB
        have z1 : ((l.length : Int) == (l.length : Int)) = true := by simp
        go_wp2_with (first | (go_at_call 13; (with_reducible refine H2.out.mono ?_); rintro e w4 ⟨rfl, hb⟩; have HB4 := Aside0.mk hb; clear hb) | (go_at_call 14; (with_reducible refine (H3.out _ HB4.out).mono ?_); rintro e w5 ⟨rfl, hb⟩; have HB5 := Aside0.mk (below_step (below_step (below_step HB2.out HB3.out) HB4.out) hb); clear hb))
        go_ret
        exact ⟨rfl, HB5.out⟩
end Go.Proofs.Ytpfbloddhfphiaa.K
