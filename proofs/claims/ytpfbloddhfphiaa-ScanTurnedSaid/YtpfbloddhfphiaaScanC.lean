import Derived.Test.YtpfbloddhfphiaaK0
import Derived.Test.YtpfbloddhfphiaaScanN
import Derived.Deep.DeepMust
import Derived.Test.YtpfbloddhfphiaaProg
import Derived.Below
import Derived.Deep.Draws
import Derived.Deep.AppendLies
import Derived.Maps.AppendAt
import Derived.OwnWalk
import Derived.Laws.BytesArg
import Derived.Laws.MakeOwn
import Derived.Laws.OwnMore
import Derived.Deep.OwnRows
import Derived.Tactics
import Derived.Lib.ConvBytes
import Derived.Laws.Slices
import Derived.WalkKit
import Derived.KernelRfl
import Derived.RowKit3
import Derived.Deep.LoopGhost
import Derived.Deep.QuietTactic
import Derived.BigQuiet
import Derived.WideLaws
import Derived.Deep.DeepCutAuto
import Derived.Deep.CutBlock
import Derived.Deep.RegionHeld3
import Derived.Deep.MidRow
import Derived.Laws.Rows
import Derived.Lib.AppendStr
import Derived.ArgAppend
import Derived.Laws.IdiomCopy
import Derived.OrdersHeld
import Derived.Laws.BitsLemmas
import Derived.RowKit
import Derived.RegionTactic
import Derived.Deep.RegionWith
import Derived.Lib.Hide
import Derived.Test.YtpfbloddhfphiaaWWords
import Derived.Test.YtpfbloddhfphiaaWLast
import Derived.Test.YtpfbloddhfphiaaWTab
import Derived.Test.YtpfbloddhfphiaaWFour
import Derived.Test.YtpfbloddhfphiaaWQPut
import Derived.Test.YtpfbloddhfphiaaWApart
import Derived.Test.YtpfbloddhfphiaaWArr
import Derived.Test.YtpfbloddhfphiaaWZeros
import Derived.Test.YtpfbloddhfphiaaWFoot
import Derived.Test.YtpfbloddhfphiaaWKept
import Derived.Test.YtpfbloddhfphiaaWShare
import Derived.Test.YtpfbloddhfphiaaWN
import Derived.Test.YtpfbloddhfphiaaWEqStruct
import Derived.Test.YtpfbloddhfphiaaWRepsOne
import Derived.Test.YtpfbloddhfphiaaWGuard
import Derived.Test.YtpfbloddhfphiaaWNEv
import Derived.Test.YtpfbloddhfphiaaWMore
import Derived.Deep.RegionLaw
import Derived.Laws.CopyOwn
namespace Go.Proofs.Ytpfbloddhfphiaa.K
open Go.RowKit Go.Proofs.YtpfbloddhfphiaaW.PrintWords Go.Proofs.YtpfbloddhfphiaaW.PrintLast Go.Proofs.YtpfbloddhfphiaaW.PrintMore
attribute [local go_sem] max2_int min2_int max_two min_two max_three min_three max_four min_four   -- for this text's walks alone
set_option linter.unusedVariables false
set_option linter.unusedSimpArgs false
set_option linter.unusedSectionVars false
/-! ### cmp.Compare at int (19), the closures of scan.Places (18, 21): typed by hand -/
def cpi (x y : Int) : Int := if x < y then -1 else if y < x then 1 else 0
theorem cpi_neg (x y : Int) : cpi x y < 0 ↔ x < y := by unfold cpi; (repeat' split) <;> omega
theorem cpi_zero (x y : Int) : cpi x y = 0 ↔ x = y := by unfold cpi; (repeat' split) <;> omega
theorem cmp_calls (x y : Int) (w : World) : Calls Try.prog 19 #[.int .i64 x, .int .i64 y] w fun e w' => e = .returned (.int .i64 (cpi x y)) ∧ w' = w := by
  by_cases h1 : x < y
  · have e : cpi x y = -1 := if_pos h1
    go_enter Try.func19, Try.ntmps19
    go_wp2
    go_ret
    exact ⟨by first | rfl | (rw [e]; rfl), rfl⟩
  · by_cases h2 : y < x
    · have e : cpi x y = 1 := by unfold cpi; rw [if_neg h1, if_pos h2]
      go_enter Try.func19, Try.ntmps19
      go_wp2
      go_ret
      exact ⟨by first | rfl | (rw [e]; rfl), rfl⟩
    · have e : cpi x y = 0 := by unfold cpi; rw [if_neg h1, if_neg h2]
      go_enter Try.func19, Try.ntmps19
      go_wp2
      go_ret
      exact ⟨by first | rfl | (rw [e]; rfl), rfl⟩
def ff (l : List S35) (k : Nat) : Int := (l.getD k z35).f0
def tt (l : List S35) (k : Nat) : Int := (l.getD k z35).f1
/-- The box of l, and its cells. -/
structure Bx (w : World) (b : Nat) (A : Option Addr) (c : Nat) (l : List S35) : Prop where
  box : w.heap[b]? = some (.cells #[.slice A l.length c] 24 (0, 0))
  row : Kd.C k35 w A l.length l
  le : l.length ≤ c
theorem Bx.below {w w' : World} {b : Nat} {A : Option Addr} {c : Nat} {l : List S35} (h : Bx w b A c l) (hb : Below w.heap.size w w') : Bx w' b A c l :=
  ⟨(hb.block _ (blk_lt h.box)).trans h.box, Kd.C_below h.row hb, h.le⟩
theorem Bx.box0 {w : World} {b : Nat} {A : Option Addr} {c : Nat} {l : List S35} (h : Bx w b A c l) : w.cell? ⟨b, 0, none⟩ = some (.slice A l.length c) := (blk_cell h.box 0).trans rfl
theorem Bx.at_ {w : World} {b : Nat} {A : Option Addr} {c : Nat} {l : List S35} (h : Bx w b A c l) (k : Nat) (hk : k < l.length) :
    ∃ ad, A = some ad ∧ w.cell? (ad.add (k * 2)) = some (.int .i64 (ff l k)) ∧ w.cell? ⟨(ad.add (k * 2)).block, (ad.add (k * 2)).off + 1, none⟩ = some (.int .i64 (tt l k)) :=
  at_T35 h.row (k : Int) (by omega) (by omega)
theorem cl18_calls (x y : Nat) (w : World) (b : Nat) (A : Option Addr) (c : Nat) (l : List S35) (H : Bx w b A c l) (hx : x < l.length) (hy : y < l.length) :
    Calls Try.prog 18 #[.int .i64 x, .int .i64 y, .pointer (some ⟨b, 0, none⟩)] w fun e w' => e = .returned (.int .i64 (cpi (ff l x) (ff l y))) ∧ ∃ q, w' = w.drewN q := by
  have hu35 := Try.underlying35
  have h0 := H.box0
  obtain ⟨ad, rfl, h1, _⟩ := H.at_ x hx
  obtain ⟨ad', e', h2, _⟩ := H.at_ y hy
  obtain rfl : ad = ad' := by simpa using e'
  have x0 : 0 ≤ (x : Int) := by omega
  have y0 : 0 ≤ (y : Int) := by omega
  have x1 : (x : Int) < (l.length : Int) := by omega
  have y1 : (y : Int) < (l.length : Int) := by omega
  have hc := cmp_calls (ff l x) (ff l y)
  generalize cpi (ff l x) (ff l y) = r at hc ⊢
  generalize ff l x = fx at h1 hc
  generalize ff l y = fy at h2 hc
  generalize l.length = n at x1 y1 h0
  clear H hx hy e'
  go_enter Try.func18, Try.ntmps18
  go_wp2
  go_region_held3 (fun w' => w'.cell? ⟨b, 0, none⟩ = some (.slice (some ad) n c) ∧ w'.cell? (ad.add (x * 2)) = some (.int .i64 fx) ∧ w'.cell? (ad.add (y * 2)) = some (.int .i64 fy)) (go_keep) (first | (go_at_call 19; (with_reducible refine (hc _).mono ?_); rintro e w' ⟨rfl, rfl⟩))
  go_wp2
  go_ret
  exact ⟨rfl, _, rfl⟩
theorem cl21_calls (x : Nat) (t : Int) (w : World) (b : Nat) (A : Option Addr) (c : Nat) (l : List S35) (H : Bx w b A c l) (hx : x < l.length) :
    Calls Try.prog 21 #[.int .i64 x, .int .i64 t, .pointer (some ⟨b, 0, none⟩)] w fun e w' => e = .returned (.int .i64 (cpi (tt l x) t)) ∧ w' = w := by
  have hu35 := Try.underlying35
  have h0 := H.box0
  obtain ⟨ad, rfl, _, h1⟩ := H.at_ x hx
  have x0 : 0 ≤ (x : Int) := by omega
  have x1 : (x : Int) < (l.length : Int) := by omega
  have hc := cmp_calls (tt l x) t
  generalize cpi (tt l x) t = r at hc ⊢
  generalize tt l x = fx at h1 hc
  generalize l.length = n at x1 h0
  clear H hx
  go_enter Try.func21, Try.ntmps21
  go_wp2_with (first | (go_at_call 19; (with_reducible refine (hc _).mono ?_); rintro e w' ⟨rfl, rfl⟩))
  go_ret
  exact ⟨rfl, rfl⟩
end Go.Proofs.Ytpfbloddhfphiaa.K
