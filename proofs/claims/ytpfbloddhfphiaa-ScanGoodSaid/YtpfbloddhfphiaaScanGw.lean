import Derived.Test.YtpfbloddhfphiaaK0
import Derived.Test.YtpfbloddhfphiaaK19
import Derived.Test.YtpfbloddhfphiaaScanG
import Derived.Test.YtpfbloddhfphiaaScanA
import Derived.Deep.DeepMust
import Derived.Test.YtpfbloddhfphiaaProg
import Derived.Below
import Derived.Deep.Draws
import Derived.Deep.AppendLies
import Derived.Maps.AppendAt
import Derived.OwnWalk
import Derived.Laws.BytesArg
import Derived.Laws.MakeOwn
import Derived.Laws.OwnMore
import Derived.Deep.OwnRows
import Derived.Tactics
import Derived.Lib.ConvBytes
import Derived.Laws.Slices
import Derived.WalkKit
import Derived.KernelRfl
import Derived.RowKit3
import Derived.Deep.LoopGhost
import Derived.Deep.QuietTactic
import Derived.BigQuiet
import Derived.WideLaws
import Derived.Deep.DeepCutAuto
import Derived.Deep.CutBlock
import Derived.Deep.RegionHeld3
import Derived.Deep.MidRow
import Derived.Laws.Rows
import Derived.Lib.AppendStr
import Derived.ArgAppend
import Derived.Laws.IdiomCopy
import Derived.OrdersHeld
import Derived.Laws.BitsLemmas
import Derived.RowKit
import Derived.RegionTactic
import Derived.Deep.RegionWith
import Derived.Lib.Hide
import Derived.Test.YtpfbloddhfphiaaWWords
import Derived.Test.YtpfbloddhfphiaaWLast
import Derived.Test.YtpfbloddhfphiaaWTab
import Derived.Test.YtpfbloddhfphiaaWFour
import Derived.Test.YtpfbloddhfphiaaWQPut
import Derived.Test.YtpfbloddhfphiaaWApart
import Derived.Test.YtpfbloddhfphiaaWArr
import Derived.Test.YtpfbloddhfphiaaWZeros
import Derived.Test.YtpfbloddhfphiaaWFoot
import Derived.Test.YtpfbloddhfphiaaWKept
import Derived.Test.YtpfbloddhfphiaaWShare
import Derived.Test.YtpfbloddhfphiaaWN
import Derived.Test.YtpfbloddhfphiaaWEqStruct
import Derived.Test.YtpfbloddhfphiaaWRepsOne
import Derived.Test.YtpfbloddhfphiaaWGuard
import Derived.Test.YtpfbloddhfphiaaWNEv
import Derived.Test.YtpfbloddhfphiaaWMore
import Derived.Deep.RegionLaw
import Derived.Laws.CopyOwn
namespace Go.Proofs.Ytpfbloddhfphiaa.K
open Go.RowKit Go.Proofs.YtpfbloddhfphiaaW.PrintWords Go.Proofs.YtpfbloddhfphiaaW.PrintLast Go.Proofs.YtpfbloddhfphiaaW.PrintMore
attribute [local go_sem] max2_int min2_int max_two min_two max_three min_three max_four min_four   -- for this text's walks alone
set_option linter.unusedVariables false
set_option linter.unusedSimpArgs false
set_option linter.unusedSectionVars false
/-! ### hauberklaw16.ScanGood: function 4, typed by hand -/
set_option maxHeartbeats 8000000 in
set_option maxRecDepth 100000 in
theorem good_calls (l : List C45) (A0 : Option Addr) (c0 : Nat) (P : List Int) (A1 : Option Addr) (c1 : Nat) (n : Int) (w : World) (hl : ∀ x ∈ l, (0 ≤ x.f0 ∧ x.f0 < 256) ∧ (0 ≤ x.f1 ∧ x.f1 < 256)) (hr0 : Kd.C k45 w A0 l.length l) (hc0 : l.length ≤ c0) (hr1 : Kd.C (Kd.int .i64) w A1 P.length P) (hc1 : P.length ≤ c1) :
    Calls Try.prog 4 #[.slice A0 l.length c0, .slice A1 P.length c1, .int .i64 n] w (awPost w) := by
  have HR0 := Aside0.mk hr0
  have HR1 := Aside0.mk hr1
  have HL := Aside0.mk hl
  have HC0 := Aside0.mk hc0
  have HC1 := Aside0.mk hc1
  have HB := Aside0.mk (Below.refl w.heap.size w)
  clear hl hr0 hr1 hc0 hc1
  by_cases h1 : 60 < l.length
  · have d1 : decide ((60 : Int) < (l.length : Int)) = true := decide_eq_true (by omega)
    clear h1
    go_enter Try.func4, Try.ntmps4
    go_wp2_with (first | (go_at_call 8; (with_reducible refine (awake_calls _).mono ?_); rintro e w1 ⟨rfl, hb⟩; have n0_ := Aside0.mk (below_step HB.out hb); clear HB; have HB := n0_; clear n0_ hb))
    go_ret
    exact ⟨rfl, HB.out⟩
  · have d1 : decide ((60 : Int) < (l.length : Int)) = false := decide_eq_false (by omega)
    by_cases h2 : 60 < P.length
    · have d2 : decide ((60 : Int) < (P.length : Int)) = true := decide_eq_true (by omega)
      clear h1 h2
      go_enter Try.func4, Try.ntmps4
      go_wp2_with (first | (go_at_call 8; (with_reducible refine (awake_calls _).mono ?_); rintro e w1 ⟨rfl, hb⟩; have n0_ := Aside0.mk (below_step HB.out hb); clear HB; have HB := n0_; clear n0_ hb))
      go_ret
      exact ⟨rfl, HB.out⟩
    · have d2 : decide ((60 : Int) < (P.length : Int)) = false := decide_eq_false (by omega)
      have HLEN := Aside0.mk (show l.length ≤ 60 by omega)
      have HGA := Aside0.mk (scanGood_f l P n HLEN.out)
      have HGB := Aside0.mk (refGood_f l P n HLEN.out HL.out)
      clear h1 h2
      generalize goodB l P n = r at HGA HGB
      go_enter Try.func4, Try.ntmps4
      go_upto_region 3 with (first | (go_at_call 8; (with_reducible refine (awake_calls _).mono ?_); rintro e w1 ⟨rfl, hb⟩; have n0_ := Aside0.mk (below_step HB.out hb); clear HB; have HB := n0_; clear n0_ hb))
      go_upto_region 4 with (first | (go_at_call 9; (with_reducible refine (spans_calls l A0 c0 w1 HL.out (Kd.C_below HR0.out HB.out) HC0.out HLEN.out).mono ?_); rintro e w2 ⟨va, vb, rfl, hS⟩; have HS := Aside0.mk hS; have HB2 := Aside0.mk (below_step HB.out hS.hB); clear hS))
      obtain ⟨Aa, ca, ea, hca, hra⟩ := Kd.R_reads HS.out.ha
      obtain ⟨Ab, cb, eb, hcb, hrb⟩ := Kd.R_reads HS.out.hb
      subst ea; subst eb
      have H1 := Aside0.mk (scan_Good.calls 10000 Aa ca (spA l) A1 c1 P n r w2 hra hca (Kd.C_below HR1.out HB2.out) HC1.out HGA.out)
      have H2 : Aside0 (∀ w3, Below w2.heap.size w2 w3 → Calls Try.prog 11 #[.slice Ab (spB l).length cb, .slice A1 P.length c1, .int .i64 n] w3 fun e w' => e = .returned (.bool r) ∧ Below w3.heap.size w3 w') :=
        ⟨fun w3 hb => hauberkref16_Good.calls 10000 Ab cb (spB l) A1 c1 P n r w3 (Kd.C_below hrb hb) hcb (Kd.C_below HR1.out (below_step HB2.out hb)) HC1.out HGB.out⟩
      clear HS HB hra hrb HGA HGB d1 d2
      go_wp2_with (first | (go_at_call 12; (with_reducible refine H1.out.mono ?_); rintro e w3 ⟨rfl, hb⟩; have HB3 := Aside0.mk hb; clear hb) | (go_at_call 11; (with_reducible refine (H2.out _ HB3.out).mono ?_); rintro e w4 ⟨rfl, hb⟩; have HB4 := Aside0.mk (below_step (below_step HB2.out HB3.out) hb); clear hb))
      trace_state
      go_ret
      exact ⟨by simp, HB4.out⟩
end Go.Proofs.Ytpfbloddhfphiaa.K
