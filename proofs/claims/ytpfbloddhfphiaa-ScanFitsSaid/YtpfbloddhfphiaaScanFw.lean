import Derived.Test.YtpfbloddhfphiaaK0
import Derived.Test.YtpfbloddhfphiaaK23
import Derived.Test.YtpfbloddhfphiaaScanF
import Derived.Test.YtpfbloddhfphiaaScanV
import Derived.Test.YtpfbloddhfphiaaScanG
import Derived.Test.YtpfbloddhfphiaaScanA
import Derived.Deep.DeepMust
import Derived.Test.YtpfbloddhfphiaaProg
import Derived.Below
import Derived.Deep.Draws
import Derived.Deep.AppendLies
import Derived.Maps.AppendAt
import Derived.OwnWalk
import Derived.Laws.BytesArg
import Derived.Laws.MakeOwn
import Derived.Laws.OwnMore
import Derived.Deep.OwnRows
import Derived.Tactics
import Derived.Lib.ConvBytes
import Derived.Laws.Slices
import Derived.WalkKit
import Derived.KernelRfl
import Derived.RowKit3
import Derived.Deep.LoopGhost
import Derived.Deep.QuietTactic
import Derived.BigQuiet
import Derived.WideLaws
import Derived.Deep.DeepCutAuto
import Derived.Deep.CutBlock
import Derived.Deep.RegionHeld3
import Derived.Deep.MidRow
import Derived.Laws.Rows
import Derived.Lib.AppendStr
import Derived.ArgAppend
import Derived.Laws.IdiomCopy
import Derived.OrdersHeld
import Derived.Laws.BitsLemmas
import Derived.RowKit
import Derived.RegionTactic
import Derived.Deep.RegionWith
import Derived.Lib.Hide
import Derived.Test.YtpfbloddhfphiaaWWords
import Derived.Test.YtpfbloddhfphiaaWLast
import Derived.Test.YtpfbloddhfphiaaWTab
import Derived.Test.YtpfbloddhfphiaaWFour
import Derived.Test.YtpfbloddhfphiaaWQPut
import Derived.Test.YtpfbloddhfphiaaWApart
import Derived.Test.YtpfbloddhfphiaaWArr
import Derived.Test.YtpfbloddhfphiaaWZeros
import Derived.Test.YtpfbloddhfphiaaWFoot
import Derived.Test.YtpfbloddhfphiaaWKept
import Derived.Test.YtpfbloddhfphiaaWShare
import Derived.Test.YtpfbloddhfphiaaWN
import Derived.Test.YtpfbloddhfphiaaWEqStruct
import Derived.Test.YtpfbloddhfphiaaWRepsOne
import Derived.Test.YtpfbloddhfphiaaWGuard
import Derived.Test.YtpfbloddhfphiaaWNEv
import Derived.Test.YtpfbloddhfphiaaWMore
import Derived.Deep.RegionLaw
import Derived.Laws.CopyOwn
namespace Go.Proofs.Ytpfbloddhfphiaa.K
open Go.RowKit Go.Proofs.YtpfbloddhfphiaaW.PrintWords Go.Proofs.YtpfbloddhfphiaaW.PrintLast Go.Proofs.YtpfbloddhfphiaaW.PrintMore
attribute [local go_sem] max2_int min2_int max_two min_two max_three min_three max_four min_four   -- for this text's walks alone
set_option linter.unusedVariables false
set_option linter.unusedSimpArgs false
set_option linter.unusedSectionVars false
/-! ### hauberklaw16.ScanFits: function 3, typed by hand -/
def PlFi (l : List C45) (N : Nat) (w : World) (e : Ending) (w' : World) : Prop :=
  ∃ (P : List Int) (go : Nat), P.length = l.length ∧ goodB l P (N : Int) = true ∧ (∀ k, k < l.length → (l.getD k z45).f1 < (l.getD k z45).f0 → P.getD k 0 = min 0 ((N : Int) - 1)) ∧
    e = .returned (.tuple #[.slice (some ⟨go, 0, none⟩) l.length l.length, .int .i64 0]) ∧ Kd.C (Kd.int .i64) w' (some ⟨go, 0, none⟩) P.length P ∧ Below w.heap.size w w'
theorem plfi_calls (l : List C45) (Aa : Option Addr) (ca : Nat) (N : Nat) (w : World) (hrow : Kd.C k35 w Aa (spA l).length (spA l)) (hc : (spA l).length ≤ ca) (hA : ∀ a, Aa = some a → a.block < w.heap.size) (hl : l.length ≤ 60) (hN : N ≤ 32) :
    Calls Try.prog 10 #[.slice Aa (spA l).length ca, .int .i64 (N : Int)] w (PlFi l N w) := by
  refine Calls.mono (places_calls60 Aa ca (spA l) N w hrow hc hA (by rw [spA_len]; omega) hN) ?_
  rintro e w' ⟨ord, go, hp, hs, rfl, ho, hlo, hbl⟩
  rw [spA_len] at hp
  have hol : (plRun (spA l) N ord).out.length = l.length := by
    have := (plAt_inv (spA l) N ord (fun k hk => by have := plOrd_lt (spA l) k (by rw [spA_len]; exact hp.mem_iff.1 hk); exact this) ord.length (Nat.le_refl _)).olen
    rw [plAt_all, spA_len] at this
    exact this
  exact ⟨(plRun (spA l) N ord).out, go, hol, fits_good hp hs, fun k h1 h2 => fits_empty hp hs k h1 h2, by rw [spA_len], rowI_C ho (by omega), hbl⟩
theorem r_lt {α : Type} {d : Kd α} {e base : Nat} {ok : Nat → Prop} {w : World} {A : Option Addr} {n c : Nat} {xs : List α} (h : d.R e w base ok (.slice A n c) xs) : ∀ a, A = some a → a.block < w.heap.size := by
  intro a ha
  subst ha
  obtain ⟨g, hg⟩ := Kd.R_head h
  obtain ⟨cells, hc⟩ := Kd.R_typed h g (by rw [hg]; rfl)
  rw [hg]
  exact blk_lt hc
theorem int_at {w : World} {A : Option Addr} {n : Nat} {xs : List Int} (h : Kd.C (Kd.int .i64) w A n xs) (k : Nat) (hk : k < xs.length) : ∃ ad, A = some ad ∧ w.cell? (ad.add k) = some (.int .i64 (xs.getD k 0)) := by
  obtain ⟨h1, h2, h3⟩ := h
  obtain ⟨ad, e, hc⟩ := h3 (by omega)
  obtain ⟨cs, _, hK, hcc⟩ := hc k _ (List.getElem?_eq_getElem hk)
  obtain rfl : cs = [Value.int .i64 xs[k]] := hK
  have h2 := hcc 0 _ rfl
  rw [show (Kd.int .i64).sz = 1 from rfl, Nat.mul_one, Nat.add_zero] at h2
  refine ⟨ad, e, ?_⟩
  rw [h2, List.getD_eq_getElem?_getD, List.getElem?_eq_getElem hk]
  rfl
set_option maxHeartbeats 8000000 in
set_option maxRecDepth 100000 in
theorem fits_calls (l : List C45) (A0 : Option Addr) (c0 : Nat) (n : Int) (w : World) (hl : ∀ x ∈ l, (0 ≤ x.f0 ∧ x.f0 < 256) ∧ (0 ≤ x.f1 ∧ x.f1 < 256)) (hr0 : Kd.C k45 w A0 l.length l) (hc0 : l.length ≤ c0) :
    Calls Try.prog 3 #[.slice A0 l.length c0, .int .i64 n] w (awPost w) := by
  have hu35 := Try.underlying35
  have hu34 := Try.underlying34
  have HR0 := Aside0.mk hr0
  have HL := Aside0.mk hl
  have HC0 := Aside0.mk hc0
  have HB := Aside0.mk (Below.refl w.heap.size w)
  clear hl hr0 hc0
  by_cases h1 : 60 < l.length
  · have d1 : decide ((60 : Int) < (l.length : Int)) = true := decide_eq_true (by omega)
    clear h1
    go_enter Try.func3, Try.ntmps3
    go_wp2_with (first | (go_at_call 8; (with_reducible refine (awake_calls _).mono ?_); rintro e w1 ⟨rfl, hb⟩; have n0_ := Aside0.mk (below_step HB.out hb); clear HB; have HB := n0_; clear n0_ hb))
    go_ret
    exact ⟨rfl, HB.out⟩
  · have d1 : decide ((60 : Int) < (l.length : Int)) = false := decide_eq_false (by omega)
    have HLEN := Aside0.mk (show l.length ≤ 60 by omega)
    clear h1
    by_cases h2 : n < 0 ∨ 32 < n
    · have HN := Aside0.mk h2
      have hn2 : ¬ n < 0 → 32 < n := fun h => h2.resolve_left h
      by_cases c1 : n < 0
      · clear h2 hn2
        go_enter Try.func3, Try.ntmps3
        go_upto_region 3 with (first | (go_at_call 8; (with_reducible refine (awake_calls _).mono ?_); rintro e w1 ⟨rfl, hb⟩; have n0_ := Aside0.mk (below_step HB.out hb); clear HB; have HB := n0_; clear n0_ hb))
        go_upto_region 4 with (first | (go_at_call 9; (with_reducible refine (spans_calls l A0 c0 w1 HL.out (Kd.C_below HR0.out HB.out) HC0.out HLEN.out).mono ?_); rintro e w2 ⟨va, vb, rfl, hS⟩; have HS := Aside0.mk hS; have HB2 := Aside0.mk (below_step HB.out hS.hB); clear hS))
        obtain ⟨Aa, ca, ea, hca, hra⟩ := Kd.R_reads HS.out.ha
        subst ea
        go_wp2_with (first | (go_at_call 10; (with_reducible refine (places_bad Aa ca (spA l) n w2 HN.out).mono ?_); rintro e w3 ⟨rfl, hb⟩; have HB3 := Aside0.mk (below_step HB2.out hb); clear hb))
        go_ret
        exact ⟨rfl, HB3.out⟩
      · have c2 := hn2 c1
        clear h2 hn2
        go_enter Try.func3, Try.ntmps3
        go_upto_region 3 with (first | (go_at_call 8; (with_reducible refine (awake_calls _).mono ?_); rintro e w1 ⟨rfl, hb⟩; have n0_ := Aside0.mk (below_step HB.out hb); clear HB; have HB := n0_; clear n0_ hb))
        go_upto_region 4 with (first | (go_at_call 9; (with_reducible refine (spans_calls l A0 c0 w1 HL.out (Kd.C_below HR0.out HB.out) HC0.out HLEN.out).mono ?_); rintro e w2 ⟨va, vb, rfl, hS⟩; have HS := Aside0.mk hS; have HB2 := Aside0.mk (below_step HB.out hS.hB); clear hS))
        obtain ⟨Aa, ca, ea, hca, hra⟩ := Kd.R_reads HS.out.ha
        subst ea
        go_wp2_with (first | (go_at_call 10; (with_reducible refine (places_bad Aa ca (spA l) n w2 HN.out).mono ?_); rintro e w3 ⟨rfl, hb⟩; have HB3 := Aside0.mk (below_step HB2.out hb); clear hb))
        go_ret
        exact ⟨rfl, HB3.out⟩
    · obtain ⟨N, rfl⟩ := Int.eq_ofNat_of_zero_le (by omega : 0 ≤ n)
      have hN : N ≤ 32 := by omega
      have c1 : ¬ ((N : Int) < 0) := by omega
      have c2 : ¬ ((32 : Int) < (N : Int)) := by omega
      clear h2
      go_enter Try.func3, Try.ntmps3
      go_upto_region 3 with (first | (go_at_call 8; (with_reducible refine (awake_calls _).mono ?_); rintro e w1 ⟨rfl, hb⟩; have n0_ := Aside0.mk (below_step HB.out hb); clear HB; have HB := n0_; clear n0_ hb))
      go_upto_region 4 with (first | (go_at_call 9; (with_reducible refine (spans_calls l A0 c0 w1 HL.out (Kd.C_below HR0.out HB.out) HC0.out HLEN.out).mono ?_); rintro e w2 ⟨va, vb, rfl, hS⟩; have HS := Aside0.mk hS; have HB2 := Aside0.mk (below_step HB.out hS.hB); clear hS))
      obtain ⟨Aa, ca, ea, hca, hra⟩ := Kd.R_reads HS.out.ha
      obtain ⟨Ab, cb, eb, hcb, hrb⟩ := Kd.R_reads HS.out.hb
      subst ea; subst eb
      have H1 := Aside0.mk (plfi_calls l Aa ca N w2 hra hca (r_lt HS.out.ha) HLEN.out hN)
      have HRA := Aside0.mk hra
      have HRB := Aside0.mk hrb
      have HCB := Aside0.mk hcb
      clear HS HB hra hrb hca hcb d1
      go_upto_region 5 with (first | (go_at_call 10; (with_reducible refine H1.out.mono ?_); rintro e w3 ⟨P, go, hPl, hgd, hem, rfl, hrp, hb⟩; have HPL := Aside0.mk hPl; have HGD := Aside0.mk hgd; have HEM := Aside0.mk hem; have HRP := Aside0.mk hrp; have HB3 := Aside0.mk (below_step HB2.out hb); have HB23 := Aside0.mk hb; clear hPl hgd hem hrp hb H1))
      have H2 : Aside0 (Calls Try.prog 11 #[.slice Ab (spB l).length cb, .slice (some ⟨go, 0, none⟩) l.length l.length, .int .i64 (N : Int)] w3 fun e w' => e = .returned (.bool true) ∧ Below w3.heap.size w3 w') := ⟨by
        have h := hauberkref16_Good.calls 10000 Ab cb (spB l) (some ⟨go, 0, none⟩) l.length P (N : Int) true w3 (Kd.C_below HRB.out HB23.out) HCB.out HRP.out (by rw [HPL.out]; exact Nat.le_refl _) (by rw [refGood_f l P (N : Int) HLEN.out HL.out, HGD.out])
        rw [HPL.out] at h
        exact h⟩
      go_upto_region 9 with (first | (go_at_call 11; (with_reducible refine H2.out.mono ?_); rintro e w4 ⟨rfl, hb⟩; have HB4 := Aside0.mk hb; clear hb))
      clear H2 c1 c2
      have HBZ := Aside0.mk (Below.refl w4.heap.size w4)
      have HLB := Aside0.mk (spB_len l)
      have HLA := Aside0.mk (spA_len l)
      go_wp2
      go_loopg [53] (spB l).length (fun gg v53 w' => ∃ i : Nat, i ≤ (spB l).length ∧ (spB l).length - i ≤ gg ∧ v53 = .int .i64 (i : Int) ∧ Aside0 (Below w4.heap.size w4 w'))
      case atStart => exact ⟨0, Nat.zero_le _, by omega, rfl, HBZ⟩
      case round =>
        clear HBZ
        obtain ⟨i, hi, hg, rfl, HBZ⟩ := hrel
        by_cases hlt : i < (spB l).length
        · have hil : i < l.length := by rw [← HLB.out]; exact hlt
          have HBW := Aside0.mk (below_step (below_step HB23.out HB4.out) HBZ.out)
          obtain ⟨ab, e1, hb0, hb1⟩ := at_T34 (Kd.C_below HRB.out HBW.out) (i : Int) (by omega) (by omega)
          obtain ⟨aa, e2, ha0, ha1⟩ := at_T35 (Kd.C_below HRA.out HBW.out) (i : Int) (by omega) (by rw [HLA.out]; omega)
          obtain ⟨ap, e3, hp0⟩ := int_at (Kd.C_below HRP.out (below_step HB4.out HBZ.out)) i (by rw [HPL.out]; exact hil)
          cases e1; cases e2; cases e3
          rw [rdB, Int.toNat_natCast] at hb0 hb1
          rw [rdA, Int.toNat_natCast] at ha0 ha1
          have HEI := Aside0.mk (HEM.out i hil)
          generalize l.getD i z45 = x at hb0 hb1 ha0 ha1 HEI
          generalize P.getD i 0 = pv at hp0 HEI
          have p0 : (0 : Int) ≤ (i : Int) := Int.natCast_nonneg i
          have q0 : (i : Int) < ((spB l).length : Int) := by omega
          have q1 : (i : Int) < ((spA l).length : Int) := by rw [HLA.out]; omega
          have q2 : (i : Int) < (l.length : Int) := by omega
          have q0b : decide ((i : Int) < ((spB l).length : Int)) = true := decide_eq_true q0
          obtain ⟨i2, hi2⟩ : ∃ i2, i2 = i + 1 := ⟨_, rfl⟩
          have w3 : IntKind.i64.wrap ((i : Int) + 1) = (i2 : Int) := by rw [IntKind.wrap_i64]; have := HLEN.out; omega
          have HI2 := Aside0.mk hi2
          clear hi2
          replace hb0 : wr.cell? (ab.add (i * 2)) = some (.int .i64 x.f0) := hb0
          replace hb1 : wr.cell? ⟨(ab.add (i * 2)).block, (ab.add (i * 2)).off + 1, none⟩ = some (.int .i64 x.f1) := hb1
          replace ha0 : wr.cell? (aa.add (i * 2)) = some (.int .i64 x.f0) := ha0
          replace ha1 : wr.cell? ⟨(aa.add (i * 2)).block, (aa.add (i * 2)).off + 1, none⟩ = some (.int .i64 x.f1) := ha1
          rw [add_plain] at hp0
          obtain ⟨f0, hf0⟩ : ∃ f0, x.f0 = f0 := ⟨_, rfl⟩
          obtain ⟨f1, hf1⟩ : ∃ f1, x.f1 = f1 := ⟨_, rfl⟩
          rw [hf0] at hb0 ha0 HEI
          rw [hf1] at hb1 ha1 HEI
          clear hf0 hf1
          by_cases c : f1 < f0
          · obtain ⟨mv, hmv⟩ : ∃ mv, N = mv := ⟨_, rfl⟩
            have hpv := HEI.out c
            by_cases hN0 : N = 0
            · subst hN0
              have e : pv = -1 := by rw [hpv]; rfl
              subst e
              clear hpv hmv HEI
              go_wp2
              go_region
              go_wp2
              go_region
              go_wp2
              go_roundg ((spB l).length - i2)
              case measure => have := HI2.out; omega
              case rel => exact ⟨i2, by have := HI2.out; omega, Nat.le_refl _, rfl, ⟨HBZ.out.drew.drew⟩⟩
            · obtain ⟨m1, hm1⟩ : ∃ m1 : Nat, N = m1 + 1 := ⟨N - 1, by omega⟩
              have u4 : IntKind.i64.wrap ((N : Int) - 1) = (m1 : Int) := by rw [IntKind.wrap_i64]; omega
              have e : pv = 0 := by rw [hpv]; omega
              have mn : min (0 : Int) (m1 : Int) = 0 := by omega
              subst e
              clear hpv hmv HEI hm1
              go_wp2
              go_region
              go_wp2
              go_region
              go_wp2
              go_roundg ((spB l).length - i2)
              case measure => have := HI2.out; omega
              case rel => exact ⟨i2, by have := HI2.out; omega, Nat.le_refl _, rfl, ⟨HBZ.out.drew.drew⟩⟩
          · clear HEI
            have cd : decide (f1 < f0) = false := decide_eq_false c
            have c2 : f0 ≤ f1 := by omega
            go_wp2
            go_region
            go_wp2
            go_region
            go_wp2
            go_roundg ((spB l).length - i2)
            case measure => have := HI2.out; omega
            case rel => exact ⟨i2, by have := HI2.out; omega, Nat.le_refl _, rfl, ⟨HBZ.out.drew.drew⟩⟩
        · obtain rfl : i = (spB l).length := by omega
          have q0b : decide (((spB l).length : Int) < ((spB l).length : Int)) = false := decide_eq_false (by omega)
          go_wp2
          go_ret
          exact ⟨rfl, below_step (below_step HB3.out HB4.out) HBZ.out⟩
end Go.Proofs.Ytpfbloddhfphiaa.K
