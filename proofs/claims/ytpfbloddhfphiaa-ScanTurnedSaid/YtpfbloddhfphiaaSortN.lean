import Derived.Test.YtpfbloddhfphiaaK0
import Derived.Test.YtpfbloddhfphiaaSortM
import Derived.Deep.DeepMust
import Derived.Test.YtpfbloddhfphiaaProg
import Derived.Below
import Derived.Deep.Draws
import Derived.Deep.AppendLies
import Derived.Maps.AppendAt
import Derived.OwnWalk
import Derived.Laws.BytesArg
import Derived.Laws.MakeOwn
import Derived.Laws.OwnMore
import Derived.Deep.OwnRows
import Derived.Tactics
import Derived.Lib.ConvBytes
import Derived.Laws.Slices
import Derived.WalkKit
import Derived.KernelRfl
import Derived.RowKit3
import Derived.Deep.LoopGhost
import Derived.Deep.QuietTactic
import Derived.BigQuiet
import Derived.WideLaws
import Derived.Deep.DeepCutAuto
import Derived.Deep.CutBlock
import Derived.Deep.RegionHeld3
import Derived.Deep.MidRow
import Derived.Laws.Rows
import Derived.Lib.AppendStr
import Derived.ArgAppend
import Derived.Laws.IdiomCopy
import Derived.OrdersHeld
import Derived.Laws.BitsLemmas
import Derived.RowKit
import Derived.RegionTactic
import Derived.Deep.RegionWith
import Derived.Lib.Hide
import Derived.Test.YtpfbloddhfphiaaWWords
import Derived.Test.YtpfbloddhfphiaaWLast
import Derived.Test.YtpfbloddhfphiaaWTab
import Derived.Test.YtpfbloddhfphiaaWFour
import Derived.Test.YtpfbloddhfphiaaWQPut
import Derived.Test.YtpfbloddhfphiaaWApart
import Derived.Test.YtpfbloddhfphiaaWArr
import Derived.Test.YtpfbloddhfphiaaWZeros
import Derived.Test.YtpfbloddhfphiaaWFoot
import Derived.Test.YtpfbloddhfphiaaWKept
import Derived.Test.YtpfbloddhfphiaaWShare
import Derived.Test.YtpfbloddhfphiaaWN
import Derived.Test.YtpfbloddhfphiaaWEqStruct
import Derived.Test.YtpfbloddhfphiaaWRepsOne
import Derived.Test.YtpfbloddhfphiaaWGuard
import Derived.Test.YtpfbloddhfphiaaWNEv
import Derived.Test.YtpfbloddhfphiaaWMore
import Derived.Deep.RegionLaw
import Derived.Laws.CopyOwn
namespace Go.Proofs.Ytpfbloddhfphiaa.K
open Go.RowKit Go.Proofs.YtpfbloddhfphiaaW.PrintWords Go.Proofs.YtpfbloddhfphiaaW.PrintLast Go.Proofs.YtpfbloddhfphiaaW.PrintMore
attribute [local go_sem] max2_int min2_int max_two min_two max_three min_three max_four min_four   -- for this text's walks alone
set_option linter.unusedVariables false
set_option linter.unusedSimpArgs false
set_option linter.unusedSectionVars false
/-! ### slices.symMergeCmpFunc (34): one element behind -/
open Go.Shelf Go.Sort
section
variable {l : List S35} [Inhabited (Fin l.length)]
def dbU {α : Type} (f : Nat → α) (m k x : Nat) : α := if k < x ∧ x ≤ m then f (x - 1) else if x = k then f m else f x
theorem db_step (d dk : Array (Fin l.length)) (m q : Nat) (hq : q + 1 ≤ m) (hs : q + 1 < dk.size) (h : ∀ x, dk[x]! = dbU (fun y => d[y]!) m (q + 1) x) (x : Nat) : (swp dk (q + 1) q)[x]! = dbU (fun y => d[y]!) m q x := by
  rw [swp_at _ _ _ _ hs (by omega)]
  unfold dbU at *
  by_cases c1 : x = q
  · rw [if_pos c1, if_neg (by omega : ¬ (q < x ∧ x ≤ m)), if_pos c1, h, if_neg (by omega : ¬ (q + 1 < q + 1 ∧ q + 1 ≤ m)), if_pos rfl]
  · rw [if_neg c1]
    by_cases c2 : x = q + 1
    · rw [if_pos c2, if_pos (by omega : q < x ∧ x ≤ m), h, if_neg (by omega : ¬ (q + 1 < q ∧ q ≤ m)), if_neg (by omega : ¬ q = q + 1), c2]
      rfl
    · rw [if_neg c2, h]
      by_cases c3 : q + 1 < x ∧ x ≤ m
      · rw [if_pos c3, if_pos (by omega : q < x ∧ x ≤ m)]
      · rw [if_neg c3, if_neg c2, if_neg (by omega : ¬ (q < x ∧ x ≤ m)), if_neg c1]
theorem db_srt {d dk : Array (Fin l.length)} {a i m : Nat} (hai : a ≤ i) (him : i ≤ m) (hS : Srt d a m) (hlo : ∀ x, a ≤ x → x < i → vv d x ≤ vv d m) (hhi : ∀ x, i ≤ x → x < m → vv d m < vv d x) (h : ∀ x, dk[x]! = dbU (fun y => d[y]!) m i x) : Srt dk a (m + 1) := by
  have hv : ∀ x, vv dk x = if i < x ∧ x ≤ m then vv d (x - 1) else if x = i then vv d m else vv d x := fun x => by
    unfold vv
    rw [h x]
    unfold dbU
    split
    · rfl
    · split <;> rfl
  intro p q h1 h2 h3
  rw [hv, hv]
  by_cases c1 : q < i
  · rw [if_neg (by omega : ¬ (i < p ∧ p ≤ m)), if_neg (by omega : ¬ p = i), if_neg (by omega : ¬ (i < q ∧ q ≤ m)), if_neg (by omega : ¬ q = i)]
    exact hS p q h1 h2 (by omega)
  · by_cases c2 : q = i
    · rw [if_neg (by omega : ¬ (i < p ∧ p ≤ m)), if_neg (by omega : ¬ p = i), if_neg (by omega : ¬ (i < q ∧ q ≤ m)), if_pos c2]
      exact hlo p h1 (by omega)
    · rw [if_pos (by omega : i < q ∧ q ≤ m)]
      by_cases c3 : p < i
      · rw [if_neg (by omega : ¬ (i < p ∧ p ≤ m)), if_neg (by omega : ¬ p = i)]
        exact hS p (q - 1) h1 (by omega) (by omega)
      · by_cases c4 : p = i
        · rw [if_neg (by omega : ¬ (i < p ∧ p ≤ m)), if_pos c4]
          have := hhi (q - 1) (by omega) (by omega); omega
        · rw [if_pos (by omega : i < p ∧ p ≤ m)]
          exact hS (p - 1) (q - 1) (by omega) (by omega) (by omega)
variable {w0 : World} {g off cap : Nat} {cb : Value} {d0 : Array (Fin l.length)} (R : Row1 (encF l.length) w0 g off d0) (HCM : CmpLays1 Try.prog 18 #[cb] (encF l.length) (cfF l) g off d0.size w0)
include R HCM
set_option maxHeartbeats 8000000 in
set_option maxRecDepth 100000 in
theorem mrg_last (d : Array (Fin l.length)) (hs : d.size = d0.size) (W : World) (S : SW (encF l.length) w0 g off d W) (a m : Nat) (ham : a + 1 < m) (hb : m + 1 ≤ d.size) (hsz : d.size ≤ 1000) (hL : Srt d a m) :
    Calls Try.prog 34 #[.slice (some ⟨g, off, none⟩) d.size cap, .int .i64 (a : Int), .int .i64 (m : Int), .int .i64 ((m + 1 : Nat) : Int), .func (.func 18) #[] #[cb]] W (MrgPost w0 g off d a (m + 1)) := by
  have mixed : Try.prog.follows .mixedOrders = true := by kernel_rfl
  have eg := eg18
  have HS := Aside0.mk S
  have HD := Aside0.mk hs
  have HSL := Aside0.mk hL
  obtain ⟨b, hb2⟩ : ∃ b, m + 1 = b := ⟨_, rfl⟩
  obtain ⟨ma, hma⟩ : ∃ ma, ma = m - a := ⟨_, rfl⟩
  rw [hb2]
  have HBE := Aside0.mk hb2
  have u1 := wsub m a ma (by omega) (by omega)
  have u2 := wsub b m 1 (by omega) (by omega)
  have n0 : ¬ ((ma : Int) = 1) := by omega
  have n0b : ((ma : Int) == 1) = false := by simpa using n0
  clear S hs hL hb2 hma
  go_enter Try.func34, Try.ntmps34
  go_wp2
  clear u1 u2 n0 n0b
  go_loopg [14, 15] (m - a) (fun gg v14 v15 w' => ∃ i j : Nat, (a ≤ i ∧ i ≤ j ∧ j ≤ m) ∧ j - i ≤ gg ∧ v14 = .int .i64 (i : Int) ∧ v15 = .int .i64 (j : Int) ∧ Aside0 (∀ x, a ≤ x → x < i → vv d x ≤ vv d m) ∧ Aside0 (∀ x, j ≤ x → x < m → vv d m < vv d x) ∧ Aside0 (SW (encF l.length) w0 g off d w'))
  case atStart => exact ⟨a, m, by omega, Nat.le_refl _, rfl, rfl, ⟨fun x h1 h2 => by omega⟩, ⟨fun x h1 h2 => by omega⟩, HS⟩
  case round =>
    clear HS
    obtain ⟨i, j, hij, hg, rfl, rfl, HLO, HHI, HS⟩ := hrel
    by_cases hlt : i < j
    · obtain ⟨h, hh⟩ : ∃ h, h = (i + j) / 2 := ⟨_, rfl⟩
      have n1 : (i : Int) < (j : Int) := by omega
      have HH := Aside0.mk hh
      have hh1 : i ≤ h ∧ h < j := by omega
      clear hh
      go_upto_region 16 with (fail)
      go_cut [16] (fun v16 wc => v16 = .int .i64 (h : Int) ∧ Aside0 (SW (encF l.length) w0 g off d wc))
      case first =>
        have HS2 := HS
        go_wp2
        go_meet
        case rel => exact ⟨by rw [HH.out]; first | rfl | (congr 1; first | omega | simp), HS2⟩
      case rest =>
      clear HS
      obtain ⟨rfl, HS⟩ := hcut
      obtain ⟨x, hx⟩ : ∃ x, x = d[m]! := ⟨_, rfl⟩
      obtain ⟨y, hy⟩ : ∃ y, y = d[h]! := ⟨_, rfl⟩
      have l1 := HS.out.cl R HD.out m (by omega)
      have l2 := HS.out.cl R HD.out h (by omega)
      have hc := cmpAt R HCM HS.out HD.out x y
      rw [← hx] at l1
      rw [← hy] at l2
      have HXV := Aside0.mk (show ff l x.val = vv d m by rw [hx]; rfl)
      have HYV := Aside0.mk (show ff l y.val = vv d h by rw [hy]; rfl)
      have b0 : (0 : Int) ≤ (h : Int) := Int.natCast_nonneg h
      have b1 : (h : Int) < (d.size : Int) := by omega
      have b2 : (0 : Int) ≤ (m : Int) := Int.natCast_nonneg m
      have b3 : (m : Int) < (d.size : Int) := by omega
      obtain ⟨h2, hh2⟩ : ∃ h2, h2 = h + 1 := ⟨_, rfl⟩
      have w3 := wadd1 h h2 hh2 (by omega)
      have HH2 := Aside0.mk hh2
      have hiff : cfF l x y < 0 ↔ ff l x.val < ff l y.val := cpi_neg _ _
      generalize cfF l x y = cv at hc hiff
      clear hx hy hh2
      by_cases hv : cv < 0
      · have hd := decide_eq_true hv
        have HV := Aside0.mk (hiff.1 hv)
        clear hiff
        go_wp2_with fail
        go_quiet_grown (first | (go_at_fn 18; refine Calls.grown_of (hc _ _)))
        have S2 := Aside0.mk (HS.out.grown nq osq)
        clear l1 l2 hc HS
        generalize grow (wc.drewN nq) osq = w2 at S2 ⊢
        go_wp2
        go_roundg (h - i)
        case measure => omega
        case rel => exact ⟨i, h, by omega, Nat.le_refl _, rfl, rfl, HLO, ⟨gt_step HSL.out (by omega) (by rw [← HXV.out, ← HYV.out]; exact HV.out)⟩, S2⟩
      · have hd := decide_eq_false hv
        have HV := Aside0.mk (fun hlt2 => hv (hiff.2 hlt2))
        clear hiff
        go_wp2_with fail
        go_quiet_grown (first | (go_at_fn 18; refine Calls.grown_of (hc _ _)))
        have S2 := Aside0.mk (HS.out.grown nq osq)
        clear l1 l2 hc HS
        generalize grow (wc.drewN nq) osq = w2 at S2 ⊢
        go_wp2
        go_roundg (j - h2)
        case measure => have := HH2.out; omega
        case rel =>
          have hh2 := HH2.out
          exact ⟨h2, j, by omega, Nat.le_refl _, rfl, rfl, ⟨by rw [hh2]; exact le_step HSL.out (by omega) (by have := HV.out; rw [HXV.out, HYV.out] at this; exact Int.not_lt.1 this)⟩, HHI, S2⟩
    · obtain rfl : i = j := by omega
      have hd : decide ((i : Int) < (i : Int)) = false := decide_eq_false (by omega)
      go_wp2
      go_loopg [17] (m + 1) (fun gg v17 w' => ∃ (k : Nat) (dk : Array (Fin l.length)), (i ≤ k ∧ k ≤ m) ∧ k - i ≤ gg ∧ v17 = .int .i64 (k : Int) ∧ Aside0 (dk.size = d.size) ∧ Aside0 (PermIn a b d dk) ∧ Aside0 (∀ x, dk[x]! = dbU (fun y => d[y]!) m k x) ∧ Aside0 (SW (encF l.length) w0 g off dk w'))
      case atStart => exact ⟨m, d, ⟨hij.2.2, Nat.le_refl _⟩, by omega, rfl, ⟨rfl⟩, ⟨permIn_refl _ _ _⟩, ⟨fun x => by unfold dbU; rw [if_neg (by omega)]; split; (rename_i h; rw [h]); rfl⟩, HS⟩
      case round =>
        clear HS
        obtain ⟨k, dk, hk, hgk, rfl, HZ, HP, HX, HS⟩ := hrel
        by_cases hkt : i < k
        · have n2 : (i : Int) < (k : Int) := by omega
          obtain ⟨q, hq⟩ : ∃ q, k = q + 1 := ⟨k - 1, by omega⟩
          have w3 := wsub1 k q hq (by omega)
          have HQ := Aside0.mk hq
          have hbe := HBE.out
          have hkz : k < dk.size := by rw [HZ.out]; omega
          have hqz : q < dk.size := by rw [HZ.out]; omega
          have hdz : dk.size = d0.size := by rw [HZ.out, HD.out]
          have c1 := HS.out.c1 R hdz k hkz
          have c2 := HS.out.c1 R hdz q hqz
          have f1 := HS.out.f1 R hdz k hkz
          have f2 := HS.out.f1 R hdz q hqz
          obtain ⟨u, c3⟩ := HS.out.c2 R hdz k q hkz hqz (encF l.length dk[q]!)
          have S4 := Aside0.mk (HS.out.swapped R k q hkz hqz)
          have HX2 := Aside0.mk (db_step d dk m q (by omega) (by omega) (by rw [← hq]; exact HX.out))
          have HP2 := Aside0.mk (permIn_trans _ _ _ _ _ HP.out (swp_permIn dk a b k q (by omega) (by omega) (by omega) (by omega) (by rw [HZ.out, ← hbe]; exact hb)))
          obtain ⟨x, hx⟩ : ∃ x : Int, encF l.length dk[k]! = .int .i64 x := ⟨_, rfl⟩
          obtain ⟨y, hy⟩ : ∃ y : Int, encF l.length dk[q]! = .int .i64 y := ⟨_, rfl⟩
          rw [hx] at c1 S4
          rw [hy] at c2 c3 S4
          have b1 : (k : Int) < (d.size : Int) := by omega
          have b2 : (q : Int) < (d.size : Int) := by omega
          have b0 : (0 : Int) ≤ (k : Int) := Int.natCast_nonneg k
          have b3 : (0 : Int) ≤ (q : Int) := Int.natCast_nonneg q
          clear hx hy hq HS hkz hqz hdz hbe
          go_wp2_with fail
          go_big_region_o
          clear c1 c2 c3 f1 f2
          generalize ((wr.setCell ⟨g, off + k, none⟩ (.int .i64 y)).setCell ⟨g, off + q, none⟩ (.int .i64 x)).drew = wn at S4 ⊢
          go_wp2
          go_roundg (q - i)
          case measure => have := HQ.out; omega
          case rel =>
            have hq := HQ.out
            exact ⟨q, swp dk k q, by omega, Nat.le_refl _, rfl, ⟨by rw [size_swp]; exact HZ.out⟩, HP2, ⟨by rw [hq]; exact HX2.out⟩, S4⟩
        · obtain rfl : k = i := by omega
          have n2 : ¬ ((k : Int) < (k : Int)) := by omega
          go_wp2
          refine bodyPost_ret (v := .tuple #[]) (by simp [results, Try.results34, go_sem]) rfl ⟨rfl, dk, HP.out, ?_, HS.out⟩
          rw [← HBE.out]
          exact db_srt hij.1 hij.2.2 HSL.out HLO.out HHI.out HX.out
end
end Go.Proofs.Ytpfbloddhfphiaa.K
