import Derived.Test.YtpfbloddhfphiaaK0
import Derived.Test.YtpfbloddhfphiaaScanS
import Derived.Deep.DeepMust
import Derived.Test.YtpfbloddhfphiaaProg
import Derived.Below
import Derived.Deep.Draws
import Derived.Deep.AppendLies
import Derived.Maps.AppendAt
import Derived.OwnWalk
import Derived.Laws.BytesArg
import Derived.Laws.MakeOwn
import Derived.Laws.OwnMore
import Derived.Deep.OwnRows
import Derived.Tactics
import Derived.Lib.ConvBytes
import Derived.Laws.Slices
import Derived.WalkKit
import Derived.KernelRfl
import Derived.RowKit3
import Derived.Deep.LoopGhost
import Derived.Deep.QuietTactic
import Derived.BigQuiet
import Derived.WideLaws
import Derived.Deep.DeepCutAuto
import Derived.Deep.CutBlock
import Derived.Deep.RegionHeld3
import Derived.Deep.MidRow
import Derived.Laws.Rows
import Derived.Lib.AppendStr
import Derived.ArgAppend
import Derived.Laws.IdiomCopy
import Derived.OrdersHeld
import Derived.Laws.BitsLemmas
import Derived.RowKit
import Derived.RegionTactic
import Derived.Deep.RegionWith
import Derived.Lib.Hide
import Derived.Test.YtpfbloddhfphiaaWWords
import Derived.Test.YtpfbloddhfphiaaWLast
import Derived.Test.YtpfbloddhfphiaaWTab
import Derived.Test.YtpfbloddhfphiaaWFour
import Derived.Test.YtpfbloddhfphiaaWQPut
import Derived.Test.YtpfbloddhfphiaaWApart
import Derived.Test.YtpfbloddhfphiaaWArr
import Derived.Test.YtpfbloddhfphiaaWZeros
import Derived.Test.YtpfbloddhfphiaaWFoot
import Derived.Test.YtpfbloddhfphiaaWKept
import Derived.Test.YtpfbloddhfphiaaWShare
import Derived.Test.YtpfbloddhfphiaaWN
import Derived.Test.YtpfbloddhfphiaaWEqStruct
import Derived.Test.YtpfbloddhfphiaaWRepsOne
import Derived.Test.YtpfbloddhfphiaaWGuard
import Derived.Test.YtpfbloddhfphiaaWNEv
import Derived.Test.YtpfbloddhfphiaaWMore
import Derived.Deep.RegionLaw
import Derived.Laws.CopyOwn
namespace Go.Proofs.Ytpfbloddhfphiaa.K
open Go.RowKit Go.Proofs.YtpfbloddhfphiaaW.PrintWords Go.Proofs.YtpfbloddhfphiaaW.PrintLast Go.Proofs.YtpfbloddhfphiaaW.PrintMore
attribute [local go_sem] max2_int min2_int max_two min_two max_three min_three max_four min_four   -- for this text's walks alone
set_option linter.unusedVariables false
set_option linter.unusedSimpArgs false
set_option linter.unusedSectionVars false
/-! ### slices.swapRangeCmpFunc (38) and rotateCmpFunc (36): typed by hand -/
open Go.Shelf Go.Sort
def swR {α : Type} [Inhabited α] (d : Array α) (a b : Nat) : Nat → Array α
  | 0 => d
  | k + 1 => swp (swR d a b k) (a + k) (b + k)
theorem size_swR {α : Type} [Inhabited α] (d : Array α) (a b : Nat) : ∀ k, (swR d a b k).size = d.size
  | 0 => rfl
  | k + 1 => by unfold swR; rw [size_swp, size_swR d a b k]
theorem wadd (a i p : Nat) (h : p = a + i) (hp : p ≤ 100000) : IntKind.i64.wrap ((a : Int) + (i : Int)) = (p : Int) := by rw [IntKind.wrap_i64]; omega
theorem wsub (a i p : Nat) (h : a = p + i) (hp : a ≤ 100000) : IntKind.i64.wrap ((a : Int) - (i : Int)) = (p : Int) := by rw [IntKind.wrap_i64]; omega
theorem wadd1 (i p : Nat) (h : p = i + 1) (hp : p ≤ 100000) : IntKind.i64.wrap ((i : Int) + 1) = (p : Int) := by rw [IntKind.wrap_i64]; omega
def SrPost {n : Nat} [Inhabited (Fin n)] (w0 : World) (g off : Nat) (d : Array (Fin n)) (e : Ending) (w' : World) : Prop := e = .returned (.tuple #[]) ∧ SW (encF n) w0 g off d w'
section
variable {α : Type} [Inhabited α]
theorem swp_at (d : Array α) (i j x : Nat) (hi : i < d.size) (hj : j < d.size) : (swp d i j)[x]! = if x = j then d[i]! else if x = i then d[j]! else d[x]! := by
  unfold swp
  by_cases h1 : x = j
  · subst h1
    rw [if_pos rfl, getElem!_set_same _ _ _ (by simpa using hj)]
  · rw [if_neg h1, getElem!_set_other _ _ _ _ h1]
    by_cases h2 : x = i
    · subst h2
      rw [if_pos rfl, getElem!_set_same _ _ _ hi]
    · rw [if_neg h2, getElem!_set_other _ _ _ _ h2]
theorem swR_at (d : Array α) (a b : Nat) : ∀ k, a + k ≤ b → b + k ≤ d.size → ∀ x, (swR d a b k)[x]! = if a ≤ x ∧ x < a + k then d[x - a + b]! else if b ≤ x ∧ x < b + k then d[x - b + a]! else d[x]!
  | 0, _, _, x => by rw [if_neg (by omega), if_neg (by omega)]; rfl
  | k + 1, h1, h2, x => by
    have ih := swR_at d a b k (by omega) (by omega)
    unfold swR
    rw [swp_at _ _ _ _ (by rw [size_swR]; omega) (by rw [size_swR]; omega)]
    by_cases c1 : x = b + k
    · subst c1
      rw [if_pos rfl, ih, if_neg (by omega), if_neg (by omega), if_neg (by omega), if_pos (by omega)]
      congr 1; omega
    · rw [if_neg c1]
      by_cases c2 : x = a + k
      · subst c2
        rw [if_pos rfl, ih, if_neg (by omega), if_neg (by omega), if_pos (by omega)]
        congr 1; omega
      · rw [if_neg c2, ih]
        by_cases c3 : a ≤ x ∧ x < a + k
        · rw [if_pos c3, if_pos (by omega)]
        · by_cases c4 : b ≤ x ∧ x < b + k
          · rw [if_neg c3, if_pos c4, if_neg (by omega), if_pos (by omega)]
          · rw [if_neg c3, if_neg c4, if_neg (by omega), if_neg (by omega)]
theorem swR_perm (d : Array α) (a b lo hi : Nat) (h1 : lo ≤ a) (h2 : lo ≤ b) (h5 : hi ≤ d.size) : ∀ k, a + k ≤ hi → b + k ≤ hi → PermIn lo hi d (swR d a b k)
  | 0, _, _ => permIn_refl _ _ _
  | k + 1, h3, h4 => permIn_trans _ _ _ _ _ (swR_perm d a b lo hi h1 h2 h5 k (by omega) (by omega)) (swp_permIn _ _ _ _ _ (by omega) (by omega) (by omega) (by omega) (by rw [size_swR]; exact h5))
def rotF (d : Nat → α) (m i j x : Nat) : α := if x < m - i then d x else if x < m - i + j then d (x + i) else if x < m + j then d (x - j) else d x
theorem rotF_a (d : Nat → α) (m i j x : Nat) (h : x < m - i) : rotF d m i j x = d x := by unfold rotF; rw [if_pos h]
theorem rotF_b (d : Nat → α) (m i j x : Nat) (h1 : m - i ≤ x) (h2 : x < m - i + j) : rotF d m i j x = d (x + i) := by unfold rotF; rw [if_neg (by omega), if_pos h2]
theorem rotF_c (d : Nat → α) (m i j x : Nat) (h1 : m - i + j ≤ x) (h2 : x < m + j) : rotF d m i j x = d (x - j) := by unfold rotF; rw [if_neg (by omega), if_neg (by omega), if_pos h2]
theorem rotF_d (d : Nat → α) (m i j x : Nat) (h1 : m + j ≤ x) : rotF d m i j x = d x := by unfold rotF; rw [if_neg (by omega), if_neg (by omega), if_neg (by omega)]
theorem rot_gt (d : Array α) (m i j : Nat) (hj : 0 < j) (hij : j < i) (him : i ≤ m) (hs : m + j ≤ d.size) (x : Nat) : rotF (fun y => (swR d (m - i) m j)[y]!) m (i - j) j x = rotF (fun y => d[y]!) m i j x := by
  have h := swR_at d (m - i) m j (by omega) (by omega)
  by_cases c1 : x < m - i
  · rw [rotF_a _ _ _ _ _ (by omega), rotF_a _ _ _ _ _ c1, h, if_neg (by omega), if_neg (by omega)]
  · by_cases c2 : x < m - i + j
    · rw [rotF_a _ _ _ _ _ (by omega), rotF_b _ _ _ _ _ (by omega) c2, h, if_pos (by omega), show x - (m - i) + m = x + i by omega]
    · by_cases c3 : x < m - i + j + j
      · rw [rotF_b _ _ _ _ _ (by omega) (by omega), rotF_c _ _ _ _ _ (by omega) (by omega), h, if_neg (by omega), if_pos (by omega), show x + (i - j) - m + (m - i) = x - j by omega]
      · by_cases c4 : x < m + j
        · rw [rotF_c _ _ _ _ _ (by omega) c4, rotF_c _ _ _ _ _ (by omega) c4, h, if_neg (by omega), if_neg (by omega)]
        · rw [rotF_d _ _ _ _ _ (by omega), rotF_d _ _ _ _ _ (by omega), h, if_neg (by omega), if_neg (by omega)]
theorem rot_lt (d : Array α) (m i j : Nat) (hi : 0 < i) (hij : i < j) (him : i ≤ m) (hs : m + j ≤ d.size) (x : Nat) : rotF (fun y => (swR d (m - i) (m + j - i) i)[y]!) m i (j - i) x = rotF (fun y => d[y]!) m i j x := by
  have h := swR_at d (m - i) (m + j - i) i (by omega) (by omega)
  by_cases c1 : x < m - i
  · rw [rotF_a _ _ _ _ _ c1, rotF_a _ _ _ _ _ c1, h, if_neg (by omega), if_neg (by omega)]
  · by_cases c2 : x < m - i + (j - i)
    · rw [rotF_b _ _ _ _ _ (by omega) c2, rotF_b _ _ _ _ _ (by omega) (by omega), h, if_neg (by omega), if_neg (by omega)]
    · by_cases c3 : x < m + (j - i)
      · rw [rotF_c _ _ _ _ _ (by omega) c3, rotF_b _ _ _ _ _ (by omega) (by omega), h, if_pos (by omega), show x - (j - i) - (m - i) + (m + j - i) = x + i by omega]
      · by_cases c4 : x < m + j
        · rw [rotF_d _ _ _ _ _ (by omega), rotF_c _ _ _ _ _ (by omega) c4, h, if_neg (by omega), if_pos (by omega), show x - (m + j - i) + (m - i) = x - j by omega]
        · rw [rotF_d _ _ _ _ _ (by omega), rotF_d _ _ _ _ _ (by omega), h, if_neg (by omega), if_neg (by omega)]
theorem rot_eq (d : Array α) (m i : Nat) (hi : 0 < i) (him : i ≤ m) (hs : m + i ≤ d.size) (x : Nat) : (swR d (m - i) m i)[x]! = rotF (fun y => d[y]!) m i i x := by
  have h := swR_at d (m - i) m i (by omega) (by omega)
  rw [h]
  by_cases c1 : x < m - i
  · rw [rotF_a _ _ _ _ _ c1, if_neg (by omega), if_neg (by omega)]
  · by_cases c2 : x < m
    · rw [rotF_b _ _ _ _ _ (by omega) (by omega), if_pos (by omega), show x - (m - i) + m = x + i by omega]
    · by_cases c3 : x < m + i
      · rw [rotF_c _ _ _ _ _ (by omega) c3, if_neg (by omega), if_pos (by omega), show x - m + (m - i) = x - i by omega]
      · rw [rotF_d _ _ _ _ _ (by omega), if_neg (by omega), if_neg (by omega)]
end
section
variable {w0 : World} {g off cap n : Nat} [Inhabited (Fin n)] {d0 : Array (Fin n)} (R : Row1 (encF n) w0 g off d0)
include R
set_option maxHeartbeats 8000000 in
set_option maxRecDepth 100000 in
theorem swr_calls (d : Array (Fin n)) (hs : d.size = d0.size) (W : World) (S : SW (encF n) w0 g off d W) (a b k : Nat) (ha : a + k ≤ d.size) (hb : b + k ≤ d.size) (hsz : d.size ≤ 1000) (fv : Value) :
    Calls Try.prog 38 #[.slice (some ⟨g, off, none⟩) d.size cap, .int .i64 (a : Int), .int .i64 (b : Int), .int .i64 (k : Int), fv] W (SrPost w0 g off (swR d a b k)) := by
  have mixed : Try.prog.follows .mixedOrders = true := by kernel_rfl
  have HS := Aside0.mk S
  have HD := Aside0.mk hs
  clear S
  go_enter Try.func38, Try.ntmps38
  go_wp2
  go_loopg [10] k (fun gg v10 w' => ∃ i : Nat, i ≤ k ∧ k - i ≤ gg ∧ v10 = .int .i64 (i : Int) ∧ Aside0 (SW (encF n) w0 g off (swR d a b i) w'))
  case atStart => exact ⟨0, Nat.zero_le _, by omega, rfl, HS⟩
  case round =>
    clear HS
    obtain ⟨i, hi, hg, rfl, HS⟩ := hrel
    by_cases hlt : i < k
    · obtain ⟨p, hp⟩ : ∃ p, p = a + i := ⟨_, rfl⟩
      obtain ⟨q, hq⟩ : ∃ q, q = b + i := ⟨_, rfl⟩
      obtain ⟨i2, hi2⟩ : ∃ i2, i2 = i + 1 := ⟨_, rfl⟩
      have HZ := Aside0.mk (size_swR d a b i)
      have HN := Aside0.mk (show swR d a b (i + 1) = swp (swR d a b i) p q by rw [hp, hq]; rfl)
      generalize swR d a b i = di at HS HZ HN
      have hpz : p < di.size := by rw [HZ.out]; omega
      have hqz : q < di.size := by rw [HZ.out]; omega
      have hdz : di.size = d0.size := by rw [HZ.out, HD.out]
      have S3 := Aside0.mk (HS.out.drew.swapped R p q hpz hqz)
      have c1 := HS.out.c1 R hdz p hpz
      have c2 := HS.out.c1 R hdz q hqz
      have f1 := HS.out.f1 R hdz p hpz
      have f2 := HS.out.f1 R hdz q hqz
      obtain ⟨u, c3⟩ := HS.out.c2 R hdz p q hpz hqz (encF n di[q]!)
      have S4 := Aside0.mk (HS.out.swapped R p q hpz hqz)
      obtain ⟨x, hx⟩ : ∃ x : Int, encF n di[p]! = .int .i64 x := ⟨_, rfl⟩
      obtain ⟨y, hy⟩ : ∃ y : Int, encF n di[q]! = .int .i64 y := ⟨_, rfl⟩
      rw [hx] at c1 S4
      rw [hy] at c2 c3 S4
      have b1 : (p : Int) < (d.size : Int) := by omega
      have b2 : (q : Int) < (d.size : Int) := by omega
      have b0 : (0 : Int) ≤ (p : Int) := Int.natCast_nonneg p
      have b3 : (0 : Int) ≤ (q : Int) := Int.natCast_nonneg q
      have hd : decide ((i : Int) < (k : Int)) = true := decide_eq_true (by omega)
      have w1 := wadd a i p hp (by omega)
      have w2 := wadd b i q hq (by omega)
      have w3 := wadd1 i i2 hi2 (by omega)
      clear S3 hx hy hp hq HS hpz hqz hdz
      go_wp2_with fail
      go_big_region_o
      clear c1 c2 c3 f1 f2
      generalize ((wr.setCell ⟨g, off + p, none⟩ (.int .i64 y)).setCell ⟨g, off + q, none⟩ (.int .i64 x)).drew = wn at S4 ⊢
      go_wp2
      go_roundg (k - i2)
      case measure => omega
      case rel => exact ⟨i2, by omega, Nat.le_refl _, by rw [hi2]; simp, ⟨by rw [hi2, HN.out]; exact S4.out⟩⟩
    · obtain rfl : i = k := by omega
      have hd : decide ((i : Int) < (i : Int)) = false := decide_eq_false (by omega)
      go_wp2
      refine bodyPost_end (v := .tuple #[]) (by simp [results, Try.results38, go_sem]) rfl ⟨rfl, HS.out⟩
/-- The row between a and b turned about m. -/
def RotPost (w0 : World) (g off : Nat) (d : Array (Fin n)) (a m b : Nat) (e : Ending) (w' : World) : Prop :=
  e = .returned (.tuple #[]) ∧ ∃ d' : Array (Fin n), PermIn a b d d' ∧ (∀ x, d'[x]! = rotF (fun y => d[y]!) m (m - a) (b - m) x) ∧ SW (encF n) w0 g off d' w'
set_option maxHeartbeats 8000000 in
set_option maxRecDepth 100000 in
theorem rot_calls (d : Array (Fin n)) (hs : d.size = d0.size) (W : World) (S : SW (encF n) w0 g off d W) (a m b : Nat) (ham : a < m) (hmb : m < b) (hb : b ≤ d.size) (hsz : d.size ≤ 1000) (fv : Value) :
    Calls Try.prog 36 #[.slice (some ⟨g, off, none⟩) d.size cap, .int .i64 (a : Int), .int .i64 (m : Int), .int .i64 (b : Int), fv] W (RotPost w0 g off d a m b) := by
  have HS := Aside0.mk S
  have HD := Aside0.mk hs
  have HR := Aside0.mk R
  clear S
  obtain ⟨i0, hi0⟩ : ∃ i0, i0 = m - a := ⟨_, rfl⟩
  obtain ⟨j0, hj0⟩ : ∃ j0, j0 = b - m := ⟨_, rfl⟩
  have u1 := wsub m a i0 (by omega) (by omega)
  have u2 := wsub b m j0 (by omega) (by omega)
  have HI0 := Aside0.mk hi0
  have HJ0 := Aside0.mk hj0
  clear hi0 hj0 hs
  go_enter Try.func36, Try.ntmps36
  go_wp2
  clear u1 u2
  go_loopg [10, 11] (i0 + j0) (fun gg v10 v11 w' => ∃ (i j : Nat) (di : Array (Fin n)), (0 < i ∧ i ≤ i0) ∧ (0 < j ∧ j ≤ j0) ∧ i + j ≤ gg ∧ v10 = .int .i64 (i : Int) ∧ v11 = .int .i64 (j : Int) ∧ di.size = d.size ∧ Aside0 (PermIn a b d di) ∧ Aside0 (∀ x, rotF (fun y => di[y]!) m i j x = rotF (fun y => d[y]!) m i0 j0 x) ∧ Aside0 (SW (encF n) w0 g off di w'))
  case atStart =>
    have := HI0.out
    have := HJ0.out
    exact ⟨i0, j0, d, ⟨by omega, Nat.le_refl _⟩, ⟨by omega, Nat.le_refl _⟩, Nat.le_refl _, rfl, rfl, rfl, ⟨permIn_refl _ _ _⟩, ⟨fun _ => rfl⟩, HS⟩
  case round =>
    clear HS
    obtain ⟨i, j, di, hi, hj, hg, rfl, rfl, hdz, HP, HX, HS⟩ := hrel
    have hi0 := HI0.out
    have hj0 := HJ0.out
    obtain ⟨p, hp⟩ : ∃ p, p = m - i := ⟨_, rfl⟩
    have u1 := wsub m i p (by omega) (by omega)
    by_cases hij : j < i
    · have HC := Aside0.mk (swr_calls (cap := cap) R di (by rw [hdz, HD.out]) wr HS.out p m j (by omega) (by omega) (by omega) fv)
      rw [hdz] at HC
      have HP2 := Aside0.mk (permIn_trans _ _ _ _ _ HP.out (swR_perm di p m a b (by omega) (by omega) (by omega) j (by omega) (by omega)))
      have HDI := Aside0.mk hdz
      have HX2 := Aside0.mk (rot_gt di m i j hj.1 hij (by omega) (by omega))
      have HZ2 := Aside0.mk (size_swR di p m j)
      rw [← hp] at HX2
      obtain ⟨i2, hi2⟩ : ∃ i2, i2 = i - j := ⟨_, rfl⟩
      have u2 := wsub i j i2 (by omega) (by omega)
      have n1 : ¬ ((i : Int) = (j : Int)) := by omega
      have n2 : (j : Int) < (i : Int) := by omega
      have HI2 := Aside0.mk hi2
      clear hi2 hp hi0 hj0 hdz
      have HDZ := HZ2
      go_wp2_with (first | (go_at_call 38; (with_reducible refine HC.out.mono ?_); rintro e w38 ⟨rfl, hS⟩; have HS2 := Aside0.mk hS; clear hS))
      clear u1 u2
      go_roundg (i2 + j)
      case measure => have := HI2.out; omega
      case rel =>
        have hi2 := HI2.out
        exact ⟨i2, j, _, by omega, by omega, Nat.le_refl _, rfl, rfl, by rw [HZ2.out, HDI.out], HP2, ⟨fun x => by rw [hi2, HX2.out x, HX.out x]⟩, HS2⟩
    · by_cases hji : i < j
      · obtain ⟨q, hq⟩ : ∃ q, q = m + j - i := ⟨_, rfl⟩
        obtain ⟨q1, hq1⟩ : ∃ q1, q1 = m + j := ⟨_, rfl⟩
        have HC := Aside0.mk (swr_calls (cap := cap) R di (by rw [hdz, HD.out]) wr HS.out p q i (by omega) (by omega) (by omega) fv)
        rw [hdz] at HC
        have HP2 := Aside0.mk (permIn_trans _ _ _ _ _ HP.out (swR_perm di p q a b (by omega) (by omega) (by omega) i (by omega) (by omega)))
        have HX2 := Aside0.mk (rot_lt di m i j hi.1 hji (by omega) (by omega))
        have HZ2 := Aside0.mk (size_swR di p q i)
        rw [← hp, ← hq] at HX2
        obtain ⟨j2, hj2⟩ : ∃ j2, j2 = j - i := ⟨_, rfl⟩
        have u2 := wsub j i j2 (by omega) (by omega)
        have u3 := wadd m j q1 hq1 (by omega)
        have u4 := wsub q1 i q (by omega) (by omega)
        have n1 : ¬ ((i : Int) = (j : Int)) := by omega
        have n2 : ¬ (j : Int) < (i : Int) := by omega
        have HJ2 := Aside0.mk hj2
        have HDI := Aside0.mk hdz
        clear hj2 hp hq hq1 hi0 hj0 hdz
        go_wp2_with (first | (go_at_call 38; (with_reducible refine HC.out.mono ?_); rintro e w38 ⟨rfl, hS⟩; have HS2 := Aside0.mk hS; clear hS))
        clear u1 u2 u3 u4
        go_roundg (i + j2)
        case measure => have := HJ2.out; omega
        case rel =>
          have hj2 := HJ2.out
          exact ⟨i, j2, _, by omega, by omega, Nat.le_refl _, rfl, rfl, by rw [HZ2.out, HDI.out], HP2, ⟨fun x => by rw [hj2, HX2.out x, HX.out x]⟩, HS2⟩
      · obtain rfl : i = j := by omega
        have HC := Aside0.mk (swr_calls (cap := cap) R di (by rw [hdz, HD.out]) wr HS.out p m i (by omega) (by omega) (by omega) fv)
        rw [hdz] at HC
        have HP2 := Aside0.mk (permIn_trans _ _ _ _ _ HP.out (swR_perm di p m a b (by omega) (by omega) (by omega) i (by omega) (by omega)))
        have HX2 := Aside0.mk (rot_eq di m i hi.1 (by omega) (by omega))
        rw [← hp] at HX2
        clear hp hdz hi0 hj0
        go_wp2_with (first | (go_at_call 38; (with_reducible refine HC.out.mono ?_); rintro e w38 ⟨rfl, hS⟩; have HS2 := Aside0.mk hS; clear hS))
        refine bodyPost_end (v := .tuple #[]) (by simp [results, Try.results36, go_sem]) rfl ⟨rfl, _, HP2.out, fun x => ?_, HS2.out⟩
        rw [HX2.out x, HX.out x, HI0.out, HJ0.out]
end
end Go.Proofs.Ytpfbloddhfphiaa.K
