import Derived.Test.YtpfbloddhfphiaaK0
import Derived.Test.YtpfbloddhfphiaaSortO
import Derived.Deep.DeepMust
import Derived.Test.YtpfbloddhfphiaaProg
import Derived.Below
import Derived.Deep.Draws
import Derived.Deep.AppendLies
import Derived.Maps.AppendAt
import Derived.OwnWalk
import Derived.Laws.BytesArg
import Derived.Laws.MakeOwn
import Derived.Laws.OwnMore
import Derived.Deep.OwnRows
import Derived.Tactics
import Derived.Lib.ConvBytes
import Derived.Laws.Slices
import Derived.WalkKit
import Derived.KernelRfl
import Derived.RowKit3
import Derived.Deep.LoopGhost
import Derived.Deep.QuietTactic
import Derived.BigQuiet
import Derived.WideLaws
import Derived.Deep.DeepCutAuto
import Derived.Deep.CutBlock
import Derived.Deep.RegionHeld3
import Derived.Deep.MidRow
import Derived.Laws.Rows
import Derived.Lib.AppendStr
import Derived.ArgAppend
import Derived.Laws.IdiomCopy
import Derived.OrdersHeld
import Derived.Laws.BitsLemmas
import Derived.RowKit
import Derived.RegionTactic
import Derived.Deep.RegionWith
import Derived.Lib.Hide
import Derived.Test.YtpfbloddhfphiaaWWords
import Derived.Test.YtpfbloddhfphiaaWLast
import Derived.Test.YtpfbloddhfphiaaWTab
import Derived.Test.YtpfbloddhfphiaaWFour
import Derived.Test.YtpfbloddhfphiaaWQPut
import Derived.Test.YtpfbloddhfphiaaWApart
import Derived.Test.YtpfbloddhfphiaaWArr
import Derived.Test.YtpfbloddhfphiaaWZeros
import Derived.Test.YtpfbloddhfphiaaWFoot
import Derived.Test.YtpfbloddhfphiaaWKept
import Derived.Test.YtpfbloddhfphiaaWShare
import Derived.Test.YtpfbloddhfphiaaWN
import Derived.Test.YtpfbloddhfphiaaWEqStruct
import Derived.Test.YtpfbloddhfphiaaWRepsOne
import Derived.Test.YtpfbloddhfphiaaWGuard
import Derived.Test.YtpfbloddhfphiaaWNEv
import Derived.Test.YtpfbloddhfphiaaWMore
import Derived.Deep.RegionLaw
import Derived.Laws.CopyOwn
namespace Go.Proofs.Ytpfbloddhfphiaa.K
open Go.RowKit Go.Proofs.YtpfbloddhfphiaaW.PrintWords Go.Proofs.YtpfbloddhfphiaaW.PrintLast Go.Proofs.YtpfbloddhfphiaaW.PrintMore
attribute [local go_sem] max2_int min2_int max_two min_two max_three min_three max_four min_four   -- for this text's walks alone
set_option linter.unusedVariables false
set_option linter.unusedSimpArgs false
set_option linter.unusedSectionVars false
/-! ### slices.symMergeCmpFunc by induction; stableCmpFunc (27) at any length up to 1000 -/
open Go.Shelf Go.Sort
section
variable {l : List S35} [Inhabited (Fin l.length)]
def Run (d : Array (Fin l.length)) (bs lo hi : Nat) : Prop := ∀ x y, lo ≤ x → x < y → y < hi → x / bs = y / bs → vv d x ≤ vv d y
theorem div_is {x c B : Nat} (h1 : c * B ≤ x) (h2 : x < c * B + B) : x / B = c := by
  refine Nat.div_eq_of_lt_le h1 ?_
  rw [Nat.succ_mul]; exact h2
theorem div_lo {x c B : Nat} (hB : 0 < B) (h : x < c * B) : x / B < c := (Nat.div_lt_iff_lt_mul hB).2 h
theorem div_ge {x c B : Nat} (hB : 0 < B) (h : c * B ≤ x) : c ≤ x / B := (Nat.le_div_iff_mul_le hB).2 h
theorem run_ext {d d' : Array (Fin l.length)} {B a e c : Nat} (hB : 0 < B) (hr : Run d B 0 a) (hc : a = c * B) (hp : PermIn a e d d') (hs : Srt d' a e) : Run d' B 0 e := by
  intro x y h1 h2 h3 h4
  by_cases c1 : y < a
  · have := hr x y h1 h2 c1 h4
    unfold vv at this ⊢
    rw [hp.2.1 x (.inl (by omega)), hp.2.1 y (.inl c1)]; exact this
  · by_cases c2 : x < a
    · have := div_lo hB (hc ▸ c2)
      have := div_ge hB (hc ▸ (by omega : a ≤ y))
      omega
    · exact hs x y (by omega) h2 h3
theorem run_keep {d d' : Array (Fin l.length)} {B a e n : Nat} (hr : Run d B a n) (hae : a ≤ e) (hp : PermIn a e d d') : Run d' B e n := by
  intro x y h1 h2 h3 h4
  have := hr x y (by omega) h2 h3 h4
  unfold vv at this ⊢
  rw [hp.2.1 x (.inr h1), hp.2.1 y (.inr (by omega))]; exact this
theorem run_srt {d : Array (Fin l.length)} {B lo n a e c : Nat} (hr : Run d B lo n) (hlo : lo ≤ a) (hc : a = c * B) (he : e ≤ a + B) (hn : e ≤ n) : Srt d a e := by
  intro x y h1 h2 h3
  refine hr x y (by omega) h2 (by omega) ?_
  rw [div_is (c := c) (B := B) (by omega) (by omega), div_is (c := c) (B := B) (by omega) (by omega)]
theorem run_all {d : Array (Fin l.length)} {B n : Nat} (hr : Run d B 0 n) (h : n ≤ B) : Srt d 0 n := run_srt (c := 0) hr (Nat.le_refl _) (by omega) (by omega) (Nat.le_refl _)
theorem srt_of {d : Array (Fin l.length)} {a b : Nat} (h : SortedIn (ltOf (cfF l)) a b d) : Srt d a b := fun i j h1 h2 h3 => by
  have := h i j h1 h2 h3
  rw [ltF, decide_eq_false_iff_not] at this
  unfold vv
  omega
theorem sorted_is {d : Array (Fin l.length)} {a b : Nat} (h : Srt d a b) : SortedIn (ltOf (cfF l)) a b d := fun i j h1 h2 h3 => by
  have := h i j h1 h2 h3
  rw [ltF, decide_eq_false_iff_not]
  unfold vv at this
  omega
variable {w0 : World} {g off cap : Nat} {cb : Value} {d0 : Array (Fin l.length)} (R : Row1 (encF l.length) w0 g off d0) (HCM : CmpLays1 Try.prog 18 #[cb] (encF l.length) (cfF l) g off d0.size w0)
include R HCM
theorem mrg_calls (N : Nat) (hN : d0.size = N) (hsz : N ≤ 1000) : ∀ (K : Nat) (d : Array (Fin l.length)) (a m b : Nat) (W : World), b - a ≤ K → a < m → m < b → b ≤ d.size → d.size = N → Srt d a m → Srt d m b → SW (encF l.length) w0 g off d W →
    Calls Try.prog 34 #[.slice (some ⟨g, off, none⟩) N cap, .int .i64 (a : Int), .int .i64 (m : Int), .int .i64 (b : Int), .func (.func 18) #[] #[cb]] W (MrgPost w0 g off d a b)
  | 0, d, a, m, b, W, h1, h2, h3, _, _, _, _, _ => by omega
  | K + 1, d, a, m, b, W, h1, h2, h3, h4, h5, h6, h7, S => by
    have hs : d.size = d0.size := by rw [h5, hN]
    by_cases c1 : m = a + 1
    · subst c1
      have := mrg_one (cap := cap) R HCM d hs W S a b h3 h4 (by omega) h7
      rw [h5] at this
      exact this
    · by_cases c2 : b = m + 1
      · subst c2
        have := mrg_last (cap := cap) R HCM d hs W S a m (by omega) h4 (by omega) h6
        rw [h5] at this
        exact this
      · have := mrg_mid (cap := cap) R HCM d hs W S a m b (by omega) (by omega) h4 (by omega) h6 h7 (fun d' a' m' b' W' g1 g2 g3 g4 g5 g6 g7 g8 => by
          rw [h5]
          exact mrg_calls N hN hsz K d' a' m' b' W' (by omega) g2 g3 g4 (by rw [g5, h5]) g6 g7 g8)
        rw [h5] at this
        exact this
theorem iso_calls (N : Nat) (hN : d0.size = N) (hsz : N ≤ 1000) (d : Array (Fin l.length)) (hd : d.size = N) (a b : Nat) (hab : a ≤ b) (hb : b ≤ N) (W : World) (S : SW (encF l.length) w0 g off d W) :
    Calls Try.prog 33 #[.slice (some ⟨g, off, none⟩) N cap, .int .i64 (a : Int), .int .i64 (b : Int), .func (.func 18) #[] #[cb]] W (MrgPost w0 g off d a b) := by
  have h := Any.insertionSortCmpFunc_s isoL (encF l.length) (cfF l) 18 #[cb] g off cap a b d0 d w0 W eg18 HCM R (by rw [hN, hd]) S hab (by omega) (by omega)
  have hs := insertionSort_holds (lt := ltOf (cfF l)) (swoF l) d a b hab (by omega)
  rw [hd] at h
  exact Calls.mono h (fun e w' hh => ⟨hh.1, _, hs.1, srt_of hs.2, hh.2⟩)
end
end Go.Proofs.Ytpfbloddhfphiaa.K
