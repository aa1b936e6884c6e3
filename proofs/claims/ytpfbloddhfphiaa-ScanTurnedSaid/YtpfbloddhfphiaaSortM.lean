import Derived.Test.YtpfbloddhfphiaaK0
import Derived.Test.YtpfbloddhfphiaaSortR
import Derived.Deep.DeepMust
import Derived.Test.YtpfbloddhfphiaaProg
import Derived.Below
import Derived.Deep.Draws
import Derived.Deep.AppendLies
import Derived.Maps.AppendAt
import Derived.OwnWalk
import Derived.Laws.BytesArg
import Derived.Laws.MakeOwn
import Derived.Laws.OwnMore
import Derived.Deep.OwnRows
import Derived.Tactics
import Derived.Lib.ConvBytes
import Derived.Laws.Slices
import Derived.WalkKit
import Derived.KernelRfl
import Derived.RowKit3
import Derived.Deep.LoopGhost
import Derived.Deep.QuietTactic
import Derived.BigQuiet
import Derived.WideLaws
import Derived.Deep.DeepCutAuto
import Derived.Deep.CutBlock
import Derived.Deep.RegionHeld3
import Derived.Deep.MidRow
import Derived.Laws.Rows
import Derived.Lib.AppendStr
import Derived.ArgAppend
import Derived.Laws.IdiomCopy
import Derived.OrdersHeld
import Derived.Laws.BitsLemmas
import Derived.RowKit
import Derived.RegionTactic
import Derived.Deep.RegionWith
import Derived.Lib.Hide
import Derived.Test.YtpfbloddhfphiaaWWords
import Derived.Test.YtpfbloddhfphiaaWLast
import Derived.Test.YtpfbloddhfphiaaWTab
import Derived.Test.YtpfbloddhfphiaaWFour
import Derived.Test.YtpfbloddhfphiaaWQPut
import Derived.Test.YtpfbloddhfphiaaWApart
import Derived.Test.YtpfbloddhfphiaaWArr
import Derived.Test.YtpfbloddhfphiaaWZeros
import Derived.Test.YtpfbloddhfphiaaWFoot
import Derived.Test.YtpfbloddhfphiaaWKept
import Derived.Test.YtpfbloddhfphiaaWShare
import Derived.Test.YtpfbloddhfphiaaWN
import Derived.Test.YtpfbloddhfphiaaWEqStruct
import Derived.Test.YtpfbloddhfphiaaWRepsOne
import Derived.Test.YtpfbloddhfphiaaWGuard
import Derived.Test.YtpfbloddhfphiaaWNEv
import Derived.Test.YtpfbloddhfphiaaWMore
import Derived.Deep.RegionLaw
import Derived.Laws.CopyOwn
namespace Go.Proofs.Ytpfbloddhfphiaa.K
open Go.RowKit Go.Proofs.YtpfbloddhfphiaaW.PrintWords Go.Proofs.YtpfbloddhfphiaaW.PrintLast Go.Proofs.YtpfbloddhfphiaaW.PrintMore
attribute [local go_sem] max2_int min2_int max_two min_two max_three min_three max_four min_four   -- for this text's walks alone
set_option linter.unusedVariables false
set_option linter.unusedSimpArgs false
set_option linter.unusedSectionVars false
/-! ### slices.symMergeCmpFunc (34): typed by hand -/
open Go.Shelf Go.Sort
theorem wsub1 (i p : Nat) (h : i = p + 1) (hp : i ≤ 100000) : IntKind.i64.wrap ((i : Int) - 1) = (p : Int) := by rw [IntKind.wrap_i64]; omega
section
variable {l : List S35} [Inhabited (Fin l.length)]
def vv (d : Array (Fin l.length)) (x : Nat) : Int := ff l (d[x]!).val
def Srt (d : Array (Fin l.length)) (a b : Nat) : Prop := ∀ i j, a ≤ i → i < j → j < b → vv d i ≤ vv d j
theorem lo_step {d : Array (Fin l.length)} {a b h : Nat} {t : Int} (hS : Srt d a b) (hb : h < b) (hv : vv d h < t) : ∀ x, a ≤ x → x < h + 1 → vv d x < t := fun x h1 h2 => by
  rcases Nat.lt_or_eq_of_le (by omega : x ≤ h) with h3 | h3
  · have := hS x h h1 h3 hb; omega
  · subst h3; exact hv
theorem le_step {d : Array (Fin l.length)} {a b h : Nat} {t : Int} (hS : Srt d a b) (hb : h < b) (hv : vv d h ≤ t) : ∀ x, a ≤ x → x < h + 1 → vv d x ≤ t := fun x h1 h2 => by
  rcases Nat.lt_or_eq_of_le (by omega : x ≤ h) with h3 | h3
  · have := hS x h h1 h3 hb; omega
  · subst h3; exact hv
theorem hi_step {d : Array (Fin l.length)} {a b h : Nat} {t : Int} (hS : Srt d a b) (ha : a ≤ h) (hv : t ≤ vv d h) : ∀ x, h ≤ x → x < b → t ≤ vv d x := fun x h1 h2 => by
  rcases Nat.lt_or_eq_of_le h1 with h3 | h3
  · have := hS h x ha h3 h2; omega
  · subst h3; exact hv
theorem gt_step {d : Array (Fin l.length)} {a b h : Nat} {t : Int} (hS : Srt d a b) (ha : a ≤ h) (hv : t < vv d h) : ∀ x, h ≤ x → x < b → t < vv d x := fun x h1 h2 => by
  rcases Nat.lt_or_eq_of_le h1 with h3 | h3
  · have := hS h x ha h3 h2; omega
  · subst h3; exact hv
def bubU {α : Type} (f : Nat → α) (a k x : Nat) : α := if a ≤ x ∧ x < k then f (x + 1) else if x = k then f a else f x
theorem bub_step (d dk : Array (Fin l.length)) (a k : Nat) (hk : a ≤ k) (hs : k + 1 < dk.size) (h : ∀ x, dk[x]! = bubU (fun y => d[y]!) a k x) (x : Nat) : (swp dk k (k + 1))[x]! = bubU (fun y => d[y]!) a (k + 1) x := by
  rw [swp_at _ _ _ _ (by omega) hs]
  unfold bubU at *
  by_cases c1 : x = k + 1
  · rw [if_pos c1, if_neg (by omega), if_pos c1, h, if_neg (by omega), if_pos rfl]
  · rw [if_neg c1]
    by_cases c2 : x = k
    · rw [if_pos c2, if_pos (by omega), h, if_neg (by omega), if_neg (by omega), c2]
    · rw [if_neg c2, h]
      by_cases c3 : a ≤ x ∧ x < k
      · rw [if_pos c3, if_pos (by omega)]
      · rw [if_neg c3, if_neg c2, if_neg (by omega), if_neg c1]
theorem bub_srt {d dk : Array (Fin l.length)} {a t b : Nat} (hat : a ≤ t) (htb : t + 1 ≤ b) (hS : Srt d (a + 1) b) (hlo : ∀ x, a + 1 ≤ x → x < t + 1 → vv d x < vv d a) (hhi : ∀ x, t + 1 ≤ x → x < b → vv d a ≤ vv d x) (h : ∀ x, dk[x]! = bubU (fun y => d[y]!) a t x) : Srt dk a b := by
  have hv : ∀ x, vv dk x = if a ≤ x ∧ x < t then vv d (x + 1) else if x = t then vv d a else vv d x := fun x => by
    unfold vv
    rw [h x]
    unfold bubU
    split
    · rfl
    · split <;> rfl
  intro p q h1 h2 h3
  rw [hv, hv]
  by_cases c1 : q < t
  · rw [if_pos ⟨h1, (by omega : p < t)⟩, if_pos ⟨(by omega : a ≤ q), c1⟩]
    exact hS (p + 1) (q + 1) (by omega) (by omega) (by omega)
  · by_cases c2 : q = t
    · rw [if_pos ⟨h1, (by omega : p < t)⟩, if_neg (by omega : ¬ (a ≤ q ∧ q < t)), if_pos c2]
      have := hlo (p + 1) (by omega) (by omega); omega
    · rw [if_neg (by omega : ¬ (a ≤ q ∧ q < t)), if_neg c2]
      by_cases c3 : p < t
      · rw [if_pos ⟨h1, c3⟩]
        rcases Nat.lt_or_eq_of_le (by omega : p + 1 ≤ q) with h4 | h4
        · exact hS (p + 1) q (by omega) h4 h3
        · rw [h4]; exact Int.le_refl _
      · rw [if_neg (fun hh => c3 hh.2)]
        by_cases c4 : p = t
        · rw [if_pos c4]; exact hhi q (by omega) h3
        · rw [if_neg c4]; exact hS p q (by omega) h2 h3
def MrgPost (w0 : World) (g off : Nat) (d : Array (Fin l.length)) (a b : Nat) (e : Ending) (w' : World) : Prop :=
  e = .returned (.tuple #[]) ∧ ∃ d' : Array (Fin l.length), PermIn a b d d' ∧ Srt d' a b ∧ SW (encF l.length) w0 g off d' w'
variable {w0 : World} {g off cap : Nat} {cb : Value} {d0 : Array (Fin l.length)} (R : Row1 (encF l.length) w0 g off d0) (HCM : CmpLays1 Try.prog 18 #[cb] (encF l.length) (cfF l) g off d0.size w0)
include R HCM
theorem cmpAt {W : World} {d : Array (Fin l.length)} (S : SW (encF l.length) w0 g off d W) (hs : d.size = d0.size) (x y : Fin l.length) (q : Nat) (os : Array Obj) :
    Calls Try.prog 18 #[encF l.length x, encF l.length y, cb] (grow (W.drewN q) os) fun e w' => e = .returned (.int .i64 (cfF l x y)) ∧ ∃ q' os', w' = grow ((grow (W.drewN q) os).drewN q') os' :=
  S.cmp HCM hs x y q os
set_option maxHeartbeats 8000000 in
set_option maxRecDepth 100000 in
theorem mrg_one (d : Array (Fin l.length)) (hs : d.size = d0.size) (W : World) (S : SW (encF l.length) w0 g off d W) (a b : Nat) (hab : a + 1 < b) (hb : b ≤ d.size) (hsz : d.size ≤ 1000) (hR : Srt d (a + 1) b) :
    Calls Try.prog 34 #[.slice (some ⟨g, off, none⟩) d.size cap, .int .i64 (a : Int), .int .i64 ((a + 1 : Nat) : Int), .int .i64 (b : Int), .func (.func 18) #[] #[cb]] W (MrgPost w0 g off d a b) := by
  have mixed : Try.prog.follows .mixedOrders = true := by kernel_rfl
  have eg := eg18
  have HS := Aside0.mk S
  have HD := Aside0.mk hs
  have HSR := Aside0.mk hR
  obtain ⟨m, hm⟩ : ∃ m, a + 1 = m := ⟨_, rfl⟩
  rw [hm]
  have HM := Aside0.mk hm
  have u1 := wsub m a 1 (by omega) (by omega)
  clear S hs hR hm
  go_enter Try.func34, Try.ntmps34
  go_wp2
  clear u1
  go_loopg [10, 11] (b - m) (fun gg v10 v11 w' => ∃ i j : Nat, (m ≤ i ∧ i ≤ j ∧ j ≤ b) ∧ j - i ≤ gg ∧ v10 = .int .i64 (i : Int) ∧ v11 = .int .i64 (j : Int) ∧ Aside0 (∀ x, m ≤ x → x < i → vv d x < vv d a) ∧ Aside0 (∀ x, j ≤ x → x < b → vv d a ≤ vv d x) ∧ Aside0 (SW (encF l.length) w0 g off d w'))
  case atStart => exact ⟨m, b, by have := HM.out; omega, Nat.le_refl _, rfl, rfl, ⟨fun x h1 h2 => by omega⟩, ⟨fun x h1 h2 => by omega⟩, HS⟩
  case round =>
    clear HS
    obtain ⟨i, j, hij, hg, rfl, rfl, HLO, HHI, HS⟩ := hrel
    have hm := HM.out
    by_cases hlt : i < j
    · obtain ⟨h, hh⟩ : ∃ h, h = (i + j) / 2 := ⟨_, rfl⟩
      have n1 : (i : Int) < (j : Int) := by omega
      have HH := Aside0.mk hh
      have hh1 : i ≤ h ∧ h < j := by omega
      clear hh
      go_upto_region 4 with (fail)
      go_cut [12] (fun v12 wc => v12 = .int .i64 (h : Int) ∧ Aside0 (SW (encF l.length) w0 g off d wc))
      case first =>
        have HS2 := HS
        go_wp2
        go_meet
        case rel => exact ⟨by rw [HH.out]; first | rfl | (congr 1; first | omega | simp), HS2⟩
      case rest =>
      clear HS
      obtain ⟨rfl, HS⟩ := hcut
      obtain ⟨x, hx⟩ : ∃ x, x = d[h]! := ⟨_, rfl⟩
      obtain ⟨y, hy⟩ : ∃ y, y = d[a]! := ⟨_, rfl⟩
      have l1 := HS.out.cl R HD.out h (by omega)
      have l2 := HS.out.cl R HD.out a (by omega)
      have hc := cmpAt R HCM HS.out HD.out x y
      rw [← hx] at l1
      rw [← hy] at l2
      have HXV := Aside0.mk (show ff l x.val = vv d h by rw [hx]; rfl)
      have HYV := Aside0.mk (show ff l y.val = vv d a by rw [hy]; rfl)
      have b0 : (0 : Int) ≤ (h : Int) := Int.natCast_nonneg h
      have b1 : (h : Int) < (d.size : Int) := by omega
      have b2 : (0 : Int) ≤ (a : Int) := Int.natCast_nonneg a
      have b3 : (a : Int) < (d.size : Int) := by omega
      obtain ⟨h2, hh2⟩ : ∃ h2, h2 = h + 1 := ⟨_, rfl⟩
      have w3 := wadd1 h h2 hh2 (by omega)
      have HH2 := Aside0.mk hh2
      have hiff : cfF l x y < 0 ↔ ff l x.val < ff l y.val := cpi_neg _ _
      generalize cfF l x y = cv at hc hiff
      clear hx hy hh2
      by_cases hv : cv < 0
      · have hd := decide_eq_true hv
        have HV := Aside0.mk (hiff.1 hv)
        clear hiff
        go_wp2_with fail
        go_quiet_grown (first | (go_at_fn 18; refine Calls.grown_of (hc _ _)))
        have S2 := Aside0.mk (HS.out.grown nq osq)
        clear l1 l2 hc HS
        generalize grow (wc.drewN nq) osq = w2 at S2 ⊢
        go_wp2
        go_roundg (j - h2)
        case measure => have := HH2.out; omega
        case rel =>
          have hh2 := HH2.out
          exact ⟨h2, j, by omega, Nat.le_refl _, rfl, rfl, ⟨by rw [hh2, ← HM.out]; exact lo_step HSR.out (by omega) (by rw [← HXV.out, ← HYV.out]; exact HV.out)⟩, HHI, S2⟩
      · have hd := decide_eq_false hv
        have HV := Aside0.mk (fun hlt2 => hv (hiff.2 hlt2))
        clear hiff
        go_wp2_with fail
        go_quiet_grown (first | (go_at_fn 18; refine Calls.grown_of (hc _ _)))
        have S2 := Aside0.mk (HS.out.grown nq osq)
        clear l1 l2 hc HS
        generalize grow (wc.drewN nq) osq = w2 at S2 ⊢
        go_wp2
        go_roundg (h - i)
        case measure => omega
        case rel => exact ⟨i, h, by omega, Nat.le_refl _, rfl, rfl, HLO, ⟨hi_step HSR.out (by omega) (by have := HV.out; rw [HXV.out, HYV.out] at this; exact Int.not_lt.1 this)⟩, S2⟩
    · obtain rfl : i = j := by omega
      have hd : decide ((i : Int) < (i : Int)) = false := decide_eq_false (by omega)
      obtain ⟨t, ht⟩ : ∃ t, i = t + 1 := ⟨i - 1, by omega⟩
      have u1 := wsub1 i t ht (by omega)
      have HTT := Aside0.mk ht
      have hta : a ≤ t ∧ t + 1 ≤ b := by omega
      clear ht hm
      go_wp2
      go_loopg [13] (t + 1) (fun gg v13 w' => ∃ (k : Nat) (dk : Array (Fin l.length)), (a ≤ k ∧ k ≤ t) ∧ t - k ≤ gg ∧ v13 = .int .i64 (k : Int) ∧ Aside0 (dk.size = d.size) ∧ Aside0 (PermIn a b d dk) ∧ Aside0 (∀ x, dk[x]! = bubU (fun y => d[y]!) a k x) ∧ Aside0 (SW (encF l.length) w0 g off dk w'))
      case atStart => exact ⟨a, d, ⟨Nat.le_refl _, hta.1⟩, by omega, rfl, ⟨rfl⟩, ⟨permIn_refl _ _ _⟩, ⟨fun x => by unfold bubU; rw [if_neg (by omega)]; split; (rename_i h; rw [h]); rfl⟩, HS⟩
      case round =>
        clear HS
        obtain ⟨k, dk, hk, hgk, rfl, HZ, HP, HX, HS⟩ := hrel
        by_cases hkt : k < t
        · have n2 : (k : Int) < (t : Int) := by omega
          obtain ⟨q, hq⟩ : ∃ q, q = k + 1 := ⟨_, rfl⟩
          have w3 := wadd1 k q hq (by omega)
          have HQ := Aside0.mk hq
          have hkz : k < dk.size := by rw [HZ.out]; omega
          have hqz : q < dk.size := by rw [HZ.out]; omega
          have hdz : dk.size = d0.size := by rw [HZ.out, HD.out]
          have c1 := HS.out.c1 R hdz k hkz
          have c2 := HS.out.c1 R hdz q hqz
          have f1 := HS.out.f1 R hdz k hkz
          have f2 := HS.out.f1 R hdz q hqz
          obtain ⟨u, c3⟩ := HS.out.c2 R hdz k q hkz hqz (encF l.length dk[q]!)
          have S4 := Aside0.mk (HS.out.swapped R k q hkz hqz)
          have HX2 := Aside0.mk (bub_step d dk a k hk.1 (by omega) HX.out)
          have HP2 := Aside0.mk (permIn_trans _ _ _ _ _ HP.out (swp_permIn dk a b k q (by omega) (by omega) (by omega) (by omega) (by rw [HZ.out]; exact hb)))
          obtain ⟨x, hx⟩ : ∃ x : Int, encF l.length dk[k]! = .int .i64 x := ⟨_, rfl⟩
          obtain ⟨y, hy⟩ : ∃ y : Int, encF l.length dk[q]! = .int .i64 y := ⟨_, rfl⟩
          rw [hx] at c1 S4
          rw [hy] at c2 c3 S4
          have b1 : (k : Int) < (d.size : Int) := by omega
          have b2 : (q : Int) < (d.size : Int) := by omega
          have b0 : (0 : Int) ≤ (k : Int) := Int.natCast_nonneg k
          have b3 : (0 : Int) ≤ (q : Int) := Int.natCast_nonneg q
          clear hx hy hq HS hkz hqz hdz
          go_wp2_with fail
          go_big_region_o
          clear c1 c2 c3 f1 f2
          generalize ((wr.setCell ⟨g, off + k, none⟩ (.int .i64 y)).setCell ⟨g, off + q, none⟩ (.int .i64 x)).drew = wn at S4 ⊢
          go_wp2
          go_roundg (t - q)
          case measure => have := HQ.out; omega
          case rel =>
            have hq := HQ.out
            exact ⟨q, swp dk k q, by omega, by omega, (by first | (rw [hq]; done) | (rw [hq]; simp)), ⟨by rw [size_swp]; exact HZ.out⟩, HP2, ⟨by rw [hq]; exact HX2.out⟩, S4⟩
        · obtain rfl : k = t := by omega
          have n2 : ¬ ((k : Int) < (k : Int)) := by omega
          go_wp2
          refine bodyPost_ret (v := .tuple #[]) (by simp [results, Try.results34, go_sem]) rfl ⟨rfl, dk, HP.out, ?_, HS.out⟩
          have hti := HTT.out
          exact bub_srt hta.1 hta.2 HSR.out (fun x h1 h2 => HLO.out x (by have := HM.out; omega) (by omega)) (fun x h1 h2 => HHI.out x (by omega) h2) HX.out
end
end Go.Proofs.Ytpfbloddhfphiaa.K
