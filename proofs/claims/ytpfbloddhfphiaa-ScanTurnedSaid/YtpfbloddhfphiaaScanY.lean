import Derived.Test.YtpfbloddhfphiaaK0
import Derived.Test.YtpfbloddhfphiaaScanE
import Derived.Test.YtpfbloddhfphiaaScanA
import Derived.Deep.DeepMust
import Derived.Test.YtpfbloddhfphiaaProg
import Derived.Below
import Derived.Deep.Draws
import Derived.Deep.AppendLies
import Derived.Maps.AppendAt
import Derived.OwnWalk
import Derived.Laws.BytesArg
import Derived.Laws.MakeOwn
import Derived.Laws.OwnMore
import Derived.Deep.OwnRows
import Derived.Tactics
import Derived.Lib.ConvBytes
import Derived.Laws.Slices
import Derived.WalkKit
import Derived.KernelRfl
import Derived.RowKit3
import Derived.Deep.LoopGhost
import Derived.Deep.QuietTactic
import Derived.BigQuiet
import Derived.WideLaws
import Derived.Deep.DeepCutAuto
import Derived.Deep.CutBlock
import Derived.Deep.RegionHeld3
import Derived.Deep.MidRow
import Derived.Laws.Rows
import Derived.Lib.AppendStr
import Derived.ArgAppend
import Derived.Laws.IdiomCopy
import Derived.OrdersHeld
import Derived.Laws.BitsLemmas
import Derived.RowKit
import Derived.RegionTactic
import Derived.Deep.RegionWith
import Derived.Lib.Hide
import Derived.Test.YtpfbloddhfphiaaWWords
import Derived.Test.YtpfbloddhfphiaaWLast
import Derived.Test.YtpfbloddhfphiaaWTab
import Derived.Test.YtpfbloddhfphiaaWFour
import Derived.Test.YtpfbloddhfphiaaWQPut
import Derived.Test.YtpfbloddhfphiaaWApart
import Derived.Test.YtpfbloddhfphiaaWArr
import Derived.Test.YtpfbloddhfphiaaWZeros
import Derived.Test.YtpfbloddhfphiaaWFoot
import Derived.Test.YtpfbloddhfphiaaWKept
import Derived.Test.YtpfbloddhfphiaaWShare
import Derived.Test.YtpfbloddhfphiaaWN
import Derived.Test.YtpfbloddhfphiaaWEqStruct
import Derived.Test.YtpfbloddhfphiaaWRepsOne
import Derived.Test.YtpfbloddhfphiaaWGuard
import Derived.Test.YtpfbloddhfphiaaWNEv
import Derived.Test.YtpfbloddhfphiaaWMore
import Derived.Deep.RegionLaw
import Derived.Laws.CopyOwn
namespace Go.Proofs.Ytpfbloddhfphiaa.K
open Go.RowKit Go.Proofs.YtpfbloddhfphiaaW.PrintWords Go.Proofs.YtpfbloddhfphiaaW.PrintLast Go.Proofs.YtpfbloddhfphiaaW.PrintMore
attribute [local go_sem] max2_int min2_int max_two min_two max_three min_three max_four min_four   -- for this text's walks alone
set_option linter.unusedVariables false
set_option linter.unusedSimpArgs false
set_option linter.unusedSectionVars false
/-! ### hauberklaw16.spilled: function 13, typed by hand -/
theorem int_at {w : World} {A : Option Addr} {n : Nat} {xs : List Int} (h : Kd.C (Kd.int .i64) w A n xs) (k : Nat) (hk : k < xs.length) : ∃ ad, A = some ad ∧ w.cell? (ad.add k) = some (.int .i64 (xs.getD k 0)) := by
  obtain ⟨h1, h2, h3⟩ := h
  obtain ⟨ad, e, hc⟩ := h3 (by omega)
  obtain ⟨cs, _, hK, hcc⟩ := hc k _ (List.getElem?_eq_getElem hk)
  obtain rfl : cs = [Value.int .i64 xs[k]] := hK
  have h2 := hcc 0 _ rfl
  rw [show (Kd.int .i64).sz = 1 from rfl, Nat.mul_one, Nat.add_zero] at h2
  refine ⟨ad, e, ?_⟩
  rw [h2, List.getD_eq_getElem?_getD, List.getElem?_eq_getElem hk]
  rfl
def ps (P : List Int) (k : Nat) : Bool := decide (0 ≤ P.getD k 0)
theorem goneQ_le (l : List C45) (q : Nat → Bool) : ∀ i, goneQ l q i ≤ i
  | 0 => Nat.le_refl _
  | i + 1 => by have := goneQ_le l q i; unfold goneQ; split <;> omega
def spillPost (v : Nat) (w : World) (e : Ending) (w' : World) : Prop := e = .returned (.int .i64 (v : Int)) ∧ Below w.heap.size w w'
set_option maxHeartbeats 8000000 in
set_option maxRecDepth 100000 in
theorem spilled_calls (l : List C45) (A0 : Option Addr) (c0 : Nat) (P : List Int) (A1 : Option Addr) (c1 : Nat) (w : World) (hr0 : Kd.C k45 w A0 l.length l) (hr1 : Kd.C (Kd.int .i64) w A1 P.length P) (hP : P.length = l.length) (hl : l.length ≤ 60) :
    Calls Try.prog 13 #[.slice A0 l.length c0, .slice A1 P.length c1] w (spillPost (goneQ l (ps P) l.length) w) := by
  have hu45 := Try.underlying45
  have hu22 := Try.underlying22
  have hu28 := Try.underlying28
  have HR0 := Aside0.mk hr0
  have HR1 := Aside0.mk hr1
  have HP := Aside0.mk hP
  have HL := Aside0.mk hl
  have HB := Aside0.mk (Below.refl w.heap.size w)
  clear hr0 hr1 hP hl
  go_enter Try.func13, Try.ntmps13
  go_wp2
  go_loopg [5, 10] P.length (fun gg v5 v10 w' => ∃ (i : Nat), i ≤ P.length ∧ P.length - i ≤ gg ∧ v5 = .int .i64 (goneQ l (ps P) i : Nat) ∧ v10 = .int .i64 i ∧ Aside0 (Below w.heap.size w w'))
  case atStart => exact ⟨0, Nat.zero_le _, by omega, rfl, rfl, HB⟩
  case round =>
    clear HB
    obtain ⟨i, hi, hg, rfl, rfl, HB⟩ := hrel
    by_cases hlt : i < P.length
    · have hil : i < l.length := by rw [← HP.out]; exact hlt
      obtain ⟨a1, e1, hx⟩ := int_at HR1.out i hlt
      cases e1
      obtain ⟨a0, e0, hy0, hy1⟩ := at_45 HR0.out i hil
      cases e0
      replace hx := (HB.out.cell (World.block_lt_of_cell? w _ hx)).trans hx
      replace hy0 := (HB.out.cell (World.block_lt_of_cell? w _ hy0)).trans hy0
      replace hy1 := (HB.out.cell (World.block_lt_of_cell? w _ hy1)).trans hy1
      have HG := Aside0.mk (show goneQ l (ps P) (i + 1) = goneQ l (ps P) i + (if ps P i = false ∧ (l.getD i z45).f0 ≤ (l.getD i z45).f1 then 1 else 0) from rfl)
      have HPS := Aside0.mk (show ps P i = decide (0 ≤ P.getD i 0) from rfl)
      rw [HPS.out] at HG
      have HGL := Aside0.mk (goneQ_le l (ps P) i)
      have hwi : IntKind.i64.wrap ((i : Int) + 1) = ((i + 1 : Nat) : Int) := by have := HL.out; rw [IntKind.wrap_i64]; omega
      have hwg : IntKind.i64.wrap ((goneQ l (ps P) i : Int) + 1) = ((goneQ l (ps P) i + 1 : Nat) : Int) := by have := HL.out; have := HGL.out; rw [IntKind.wrap_i64]; omega
      replace hy0 : wr.cell? (a0.add (i * 2)) = some (.int .u8 (l.getD i z45).f0) := hy0
      replace hy1 : wr.cell? ⟨(a0.add (i * 2)).block, (a0.add (i * 2)).off + 1, none⟩ = some (.int .u8 (l.getD i z45).f1) := hy1
      generalize l.getD i z45 = x at hy0 hy1 HG
      generalize P.getD i 0 = pv at hx HG HPS
      have p0 : (0 : Int) ≤ (i : Int) := by omega
      have q0 : (i : Int) < (P.length : Int) := by omega
      have q1 : (i : Int) < (l.length : Int) := by omega
      have q0b : decide ((i : Int) < (P.length : Int)) = true := decide_eq_true q0
      by_cases c1 : pv < 0
      · have d1 : decide (pv < 0) = true := decide_eq_true c1
        by_cases c2 : x.f0 ≤ x.f1
        · have d2 : decide (x.f0 ≤ x.f1) = true := decide_eq_true c2
          have HG2 := Aside0.mk (show goneQ l (ps P) (i + 1) = goneQ l (ps P) i + 1 by rw [HG.out, if_pos ⟨decide_eq_false (by omega), c2⟩])
          clear HG HPS c1 c2
          go_wp2
          go_region
          go_wp2
          go_roundg (P.length - (i + 1))
          case measure => omega
          case rel => exact ⟨i + 1, by omega, Nat.le_refl _, (by first | (rw [HG2.out]; done) | (rw [HG2.out]; simp)), rfl, ⟨HB.out.drew⟩⟩
        · have d2 : decide (x.f0 ≤ x.f1) = false := decide_eq_false c2
          have HG2 := Aside0.mk (show goneQ l (ps P) (i + 1) = goneQ l (ps P) i by rw [HG.out, if_neg (fun h => c2 h.2), Nat.add_zero])
          clear HG HPS c1 c2
          go_wp2
          go_region
          go_wp2
          go_roundg (P.length - (i + 1))
          case measure => omega
          case rel => exact ⟨i + 1, by omega, Nat.le_refl _, (by first | (rw [HG2.out]; done) | (rw [HG2.out]; simp)), rfl, ⟨HB.out.drew⟩⟩
      · have d1 : decide (pv < 0) = false := decide_eq_false c1
        have HG2 := Aside0.mk (show goneQ l (ps P) (i + 1) = goneQ l (ps P) i by rw [HG.out, if_neg (fun h => by have h1 := of_decide_eq_false h.1; omega), Nat.add_zero])
        clear HG HPS c1
        go_wp2
        go_region
        go_wp2
        go_roundg (P.length - (i + 1))
        case measure => omega
        case rel => exact ⟨i + 1, by omega, Nat.le_refl _, (by first | (rw [HG2.out]; done) | (rw [HG2.out]; simp)), rfl, ⟨HB.out.drew⟩⟩
    · obtain rfl : i = P.length := by omega
      have q0b : decide ((P.length : Int) < (P.length : Int)) = false := decide_eq_false (by omega)
      clear hlt hg hi
      rw [HP.out]
      rw [HP.out] at q0b
      go_wp2
      go_ret
      exact ⟨rfl, HB.out⟩
end Go.Proofs.Ytpfbloddhfphiaa.K
