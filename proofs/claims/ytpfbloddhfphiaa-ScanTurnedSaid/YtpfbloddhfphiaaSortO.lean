import Derived.Test.YtpfbloddhfphiaaK0
import Derived.Test.YtpfbloddhfphiaaSortN
import Derived.Deep.DeepMust
import Derived.Test.YtpfbloddhfphiaaProg
import Derived.Below
import Derived.Deep.Draws
import Derived.Deep.AppendLies
import Derived.Maps.AppendAt
import Derived.OwnWalk
import Derived.Laws.BytesArg
import Derived.Laws.MakeOwn
import Derived.Laws.OwnMore
import Derived.Deep.OwnRows
import Derived.Tactics
import Derived.Lib.ConvBytes
import Derived.Laws.Slices
import Derived.WalkKit
import Derived.KernelRfl
import Derived.RowKit3
import Derived.Deep.LoopGhost
import Derived.Deep.QuietTactic
import Derived.BigQuiet
import Derived.WideLaws
import Derived.Deep.DeepCutAuto
import Derived.Deep.CutBlock
import Derived.Deep.RegionHeld3
import Derived.Deep.MidRow
import Derived.Laws.Rows
import Derived.Lib.AppendStr
import Derived.ArgAppend
import Derived.Laws.IdiomCopy
import Derived.OrdersHeld
import Derived.Laws.BitsLemmas
import Derived.RowKit
import Derived.RegionTactic
import Derived.Deep.RegionWith
import Derived.Lib.Hide
import Derived.Test.YtpfbloddhfphiaaWWords
import Derived.Test.YtpfbloddhfphiaaWLast
import Derived.Test.YtpfbloddhfphiaaWTab
import Derived.Test.YtpfbloddhfphiaaWFour
import Derived.Test.YtpfbloddhfphiaaWQPut
import Derived.Test.YtpfbloddhfphiaaWApart
import Derived.Test.YtpfbloddhfphiaaWArr
import Derived.Test.YtpfbloddhfphiaaWZeros
import Derived.Test.YtpfbloddhfphiaaWFoot
import Derived.Test.YtpfbloddhfphiaaWKept
import Derived.Test.YtpfbloddhfphiaaWShare
import Derived.Test.YtpfbloddhfphiaaWN
import Derived.Test.YtpfbloddhfphiaaWEqStruct
import Derived.Test.YtpfbloddhfphiaaWRepsOne
import Derived.Test.YtpfbloddhfphiaaWGuard
import Derived.Test.YtpfbloddhfphiaaWNEv
import Derived.Test.YtpfbloddhfphiaaWMore
import Derived.Deep.RegionLaw
import Derived.Laws.CopyOwn
namespace Go.Proofs.Ytpfbloddhfphiaa.K
open Go.RowKit Go.Proofs.YtpfbloddhfphiaaW.PrintWords Go.Proofs.YtpfbloddhfphiaaW.PrintLast Go.Proofs.YtpfbloddhfphiaaW.PrintMore
attribute [local go_sem] max2_int min2_int max_two min_two max_three min_three max_four min_four   -- for this text's walks alone
set_option linter.unusedVariables false
set_option linter.unusedSimpArgs false
set_option linter.unusedSectionVars false
/-! ### slices.symMergeCmpFunc (34): whole -/
open Go.Shelf Go.Sort
section
variable {l : List S35} [Inhabited (Fin l.length)]
/-- Where the halves are told apart. -/
structure Cut (d : Array (Fin l.length)) (a m b mid s e : Nat) : Prop where
  h1 : a ≤ s ∧ s ≤ m ∧ m ≤ e ∧ e ≤ b
  h2 : s ≤ mid ∧ mid ≤ e
  h3 : s + e = mid + m
  hL : Srt d a m
  hR : Srt d m b
  hA : ∀ x y, a ≤ x → x < s → e ≤ y → y < b → vv d x ≤ vv d y
  hB : ∀ x y, m ≤ x → x < e → s ≤ y → y < m → vv d x ≤ vv d y
structure Halves (d : Array (Fin l.length)) (a mid b s e : Nat) : Prop where
  s1 : Srt d a s
  s2 : Srt d s mid
  s3 : Srt d mid e
  s4 : Srt d e b
  cr : ∀ x y, a ≤ x → x < mid → mid ≤ y → y < b → vv d x ≤ vv d y
theorem wmid (i j : Nat) (h : i + j ≤ 100000) : wrap64 (IntKind.u64.wrap (wrap64 ((i : Int) + (j : Int))) / 2) = (((i + j) / 2 : Nat) : Int) := by
  have e : IntKind.u64.wrap (wrap64 ((i : Int) + (j : Int))) = (i : Int) + (j : Int) := by rw [IntKind.wrap_u64]; unfold wrap64; omega
  rw [e]; unfold wrap64; omega
theorem srt_same {d1 d2 : Array (Fin l.length)} {a b : Nat} (h : ∀ x, a ≤ x → x < b → d2[x]! = d1[x]!) (hs : Srt d1 a b) : Srt d2 a b := fun i j h1 h2 h3 => by
  have := hs i j h1 h2 h3
  unfold vv at this ⊢
  rw [h i h1 (by omega), h j (by omega) h3]; exact this
theorem cut_halves {d d1 : Array (Fin l.length)} {a m b mid s e : Nat} (h : Cut d a m b mid s e) (hx : ∀ x, d1[x]! = rotF (fun y => d[y]!) m (m - s) (e - m) x) : Halves d1 a mid b s e := by
  obtain ⟨⟨q1, q2, q3, q4⟩, ⟨q5, q6⟩, q7, hL, hR, hA, hB⟩ := h
  have v1 : ∀ x, x < s → vv d1 x = vv d x := fun x h => by unfold vv; rw [hx, rotF_a _ _ _ _ _ (by omega)]
  have v2 : ∀ x, s ≤ x → x < mid → vv d1 x = vv d (x + (m - s)) := fun x h h' => by unfold vv; rw [hx, rotF_b _ _ _ _ _ (by omega) (by omega)]
  have v3 : ∀ x, mid ≤ x → x < e → vv d1 x = vv d (x - (e - m)) := fun x h h' => by unfold vv; rw [hx, rotF_c _ _ _ _ _ (by omega) (by omega)]
  have v4 : ∀ x, e ≤ x → vv d1 x = vv d x := fun x h => by unfold vv; rw [hx, rotF_d _ _ _ _ _ (by omega)]
  refine ⟨fun i j h1 h2 h3 => ?_, fun i j h1 h2 h3 => ?_, fun i j h1 h2 h3 => ?_, fun i j h1 h2 h3 => ?_, fun x y h1 h2 h3 h4 => ?_⟩
  · rw [v1 i (by omega), v1 j h3]; exact hL i j h1 h2 (by omega)
  · rw [v2 i h1 (by omega), v2 j (by omega) h3]; exact hR _ _ (by omega) (by omega) (by omega)
  · rw [v3 i h1 (by omega), v3 j (by omega) h3]; exact hL _ _ (by omega) (by omega) (by omega)
  · rw [v4 i h1, v4 j (by omega)]; exact hR i j (by omega) h2 h3
  · by_cases c1 : x < s
    · rw [v1 x c1]
      by_cases c2 : y < e
      · rw [v3 y h3 c2]; exact hL _ _ h1 (by omega) (by omega)
      · rw [v4 y (by omega)]; exact hA x y h1 c1 (by omega) h4
    · rw [v2 x (by omega) h2]
      by_cases c2 : y < e
      · rw [v3 y h3 c2]; exact hB _ _ (by omega) (by omega) (by omega) (by omega)
      · rw [v4 y (by omega)]; exact hR _ _ (by omega) (by omega) h4
theorem join_srt {d1 d2 d3 : Array (Fin l.length)} {a mid b : Nat} (ham : a ≤ mid) (hmb : mid ≤ b) (hb : b ≤ d1.size) (p1 : PermIn a mid d1 d2) (s1 : Srt d2 a mid) (p2 : PermIn mid b d2 d3) (s2 : Srt d3 mid b) (cr : ∀ x y, a ≤ x → x < mid → mid ≤ y → y < b → vv d1 x ≤ vv d1 y) : Srt d3 a b := by
  have e1 : ∀ y, mid ≤ y → d2[y]! = d1[y]! := fun y hy => p1.2.1 y (.inr hy)
  have e2 : ∀ x, x < mid → d3[x]! = d2[x]! := fun x hx => p2.2.1 x (.inl hx)
  have c1 : ∀ x y, a ≤ x → x < mid → mid ≤ y → y < b → vv d2 x ≤ vv d2 y := fun x y h1 h2 h3 h4 => by
    have := permIn_all d1 d2 a mid (fun z => ff l z.val ≤ vv d1 y) (by omega) p1 (fun i h5 h6 => cr i y h5 h6 h3 h4) x h1 h2
    unfold vv at this ⊢
    rw [e1 y h3]; exact this
  have c2 : ∀ x y, a ≤ x → x < mid → mid ≤ y → y < b → vv d3 x ≤ vv d3 y := fun x y h1 h2 h3 h4 => by
    have := permIn_all d2 d3 mid b (fun z => vv d2 x ≤ ff l z.val) (by rw [p1.1]; exact hb) p2 (fun i h5 h6 => c1 x i h1 h2 h5 h6) y h3 h4
    unfold vv at this ⊢
    rw [e2 x h2]; exact this
  intro i j h1 h2 h3
  by_cases c3 : j < mid
  · have := s1 i j h1 h2 c3
    unfold vv at this ⊢
    rw [e2 i (by omega), e2 j c3]; exact this
  · by_cases c4 : i < mid
    · exact c2 i j h1 c4 (by omega) h3
    · exact s2 i j (by omega) h2 h3
variable {w0 : World} {g off cap : Nat} {cb : Value} {d0 : Array (Fin l.length)} (R : Row1 (encF l.length) w0 g off d0) (HCM : CmpLays1 Try.prog 18 #[cb] (encF l.length) (cfF l) g off d0.size w0)
include R HCM
set_option maxHeartbeats 16000000 in
set_option maxRecDepth 100000 in
theorem mrg_mid (d : Array (Fin l.length)) (hs : d.size = d0.size) (W : World) (S : SW (encF l.length) w0 g off d W) (a m b : Nat) (ham : a + 1 < m) (hmb : m + 1 < b) (hb : b ≤ d.size) (hsz : d.size ≤ 1000) (hL : Srt d a m) (hR : Srt d m b)
    (hrec : ∀ (d' : Array (Fin l.length)) (a' m' b' : Nat) (W' : World), b' - a' < b - a → a' < m' → m' < b' → b' ≤ d'.size → d'.size = d.size → Srt d' a' m' → Srt d' m' b' → SW (encF l.length) w0 g off d' W' →
      Calls Try.prog 34 #[.slice (some ⟨g, off, none⟩) d.size cap, .int .i64 (a' : Int), .int .i64 (m' : Int), .int .i64 (b' : Int), .func (.func 18) #[] #[cb]] W' (MrgPost w0 g off d' a' b')) :
    Calls Try.prog 34 #[.slice (some ⟨g, off, none⟩) d.size cap, .int .i64 (a : Int), .int .i64 (m : Int), .int .i64 (b : Int), .func (.func 18) #[] #[cb]] W (MrgPost w0 g off d a b) := by
  have mixed : Try.prog.follows .mixedOrders = true := by kernel_rfl
  have eg := eg18
  have HS := Aside0.mk S
  have HD := Aside0.mk hs
  have HSL := Aside0.mk hL
  have HSR := Aside0.mk hR
  have HREC := Aside0.mk hrec
  obtain ⟨ma, hma⟩ : ∃ ma, ma = m - a := ⟨_, rfl⟩
  obtain ⟨mb, hmb2⟩ : ∃ mb, mb = b - m := ⟨_, rfl⟩
  obtain ⟨ab, hab⟩ : ∃ ab, ab = a + b := ⟨_, rfl⟩
  obtain ⟨mid, hmid⟩ : ∃ mid, mid = (a + b) / 2 := ⟨_, rfl⟩
  obtain ⟨n, hn⟩ : ∃ n, n = mid + m := ⟨_, rfl⟩
  obtain ⟨p, hp⟩ : ∃ p, n = p + 1 := ⟨n - 1, by omega⟩
  have u1 := wsub m a ma (by omega) (by omega)
  have u2 := wsub b m mb (by omega) (by omega)
  have n0 : ¬ ((ma : Int) = 1) := by omega
  have n0b : ((ma : Int) == 1) = false := by simpa using n0
  have n1 : ¬ ((mb : Int) = 1) := by omega
  have n1b : ((mb : Int) == 1) = false := by simpa using n1
  have HMID := Aside0.mk hmid
  have HN := Aside0.mk hn
  have HPP := Aside0.mk hp
  clear S hs hL hR hrec hma hmb2 hab
  have U3 := Aside0.mk (wadd mid m n hn (by omega))
  have U4 := Aside0.mk (wsub1 n p hp (by omega))
  clear hmid hn hp
  go_enter Try.func34, Try.ntmps34
  go_upto_region 24 with (fail)
  clear u1 u2 n0 n0b n1 n1b
  go_cut [18] (fun v18 wc => v18 = .int .i64 (mid : Int) ∧ Aside0 (SW (encF l.length) w0 g off d wc))
  case first =>
    have hmid := HMID.out
    have HMD := Aside0.mk hmid
    clear hmid
    go_wp2
    go_meet
    case rel => exact ⟨by rw [HMD.out]; first | rfl | (congr 1; first | omega | simp), HS⟩
  case rest => as_aux_lemma =>
  clear HS
  obtain ⟨rfl, HS⟩ := hcut
  obtain ⟨lo0, r0, hlr⟩ : ∃ lo0 r0, (m ≤ mid ∧ lo0 = a ∧ r0 = m) ∨ (mid < m ∧ n = lo0 + b ∧ r0 = mid) := by
    have hn := HN.out
    have hmid := HMID.out
    by_cases h : m ≤ mid
    · exact ⟨a, m, .inl ⟨h, rfl, rfl⟩⟩
    · exact ⟨n - b, mid, .inr ⟨by omega, by omega, rfl⟩⟩
  have HLR := Aside0.mk hlr
  clear hlr
  have u3 := U3.out
  go_upto_if 140 with (fail)
  clear u3
  go_cut [20, 21] (fun v20 v21 wc => v20 = .int .i64 (lo0 : Int) ∧ v21 = .int .i64 (r0 : Int) ∧ Aside0 (SW (encF l.length) w0 g off d wc))
  case first =>
    rcases HLR.out with ⟨h1, h2, h3⟩ | ⟨h1, h2, h3⟩
    · have n2 : ¬ ((mid : Int) < (m : Int)) := by omega
      clear h1
      subst h2; subst h3
      go_wp2
      go_meet
      case rel => exact ⟨rfl, rfl, HS⟩
    · have n2 : (mid : Int) < (m : Int) := by omega
      have u5 := wsub n b lo0 h2 (by have := HN.out; have := HMID.out; omega)
      clear h1 h2
      subst h3
      go_wp2
      go_meet
      case rel => exact ⟨rfl, rfl, HS⟩
  case rest => as_aux_lemma =>
  clear HS
  obtain ⟨rfl, rfl, HS⟩ := hcut
  have HF := Aside0.mk (show (a ≤ lo0 ∧ lo0 ≤ r0 ∧ r0 ≤ m ∧ r0 ≤ mid) ∧ (∀ x, lo0 ≤ x → x < r0 → m ≤ p - x ∧ p - x < b ∧ x ≤ p) by
    have hn := HN.out
    have hmid := HMID.out
    have hp := HPP.out
    rcases HLR.out with ⟨h1, h2, h3⟩ | ⟨h1, h2, h3⟩
    · exact ⟨by omega, fun x h4 h5 => by omega⟩
    · exact ⟨by omega, fun x h4 h5 => by omega⟩)
  have u4 := U4.out
  go_wp2
  clear u4
  go_loopg [20, 21] (r0 - lo0) (fun gg v20 v21 w' => ∃ i j : Nat, (lo0 ≤ i ∧ i ≤ j ∧ j ≤ r0) ∧ j - i ≤ gg ∧ v20 = .int .i64 (i : Int) ∧ v21 = .int .i64 (j : Int) ∧ Aside0 (∀ x, lo0 ≤ x → x < i → vv d x ≤ vv d (p - x)) ∧ Aside0 (∀ x, j ≤ x → x < r0 → vv d (p - x) < vv d x) ∧ Aside0 (SW (encF l.length) w0 g off d w'))
  case atStart => exact ⟨lo0, r0, by have := HF.out.1; omega, Nat.le_refl _, rfl, rfl, ⟨fun x h1 h2 => by omega⟩, ⟨fun x h1 h2 => by omega⟩, HS⟩
  case round =>
    clear HS
    obtain ⟨i, j, hij, hg, rfl, rfl, HLO, HHI, HS⟩ := hrel
    by_cases hlt : i < j
    · as_aux_lemma =>
      obtain ⟨h, hh⟩ : ∃ h, h = (i + j) / 2 := ⟨_, rfl⟩
      have n1 : (i : Int) < (j : Int) := by omega
      have HH := Aside0.mk hh
      have hh1 : i ≤ h ∧ h < j := by omega
      clear hh
      go_upto_region 34 with (fail)
      go_cut [23] (fun v23 wc => v23 = .int .i64 (h : Int) ∧ Aside0 (SW (encF l.length) w0 g off d wc))
      case first =>
        have HS2 := HS
        go_wp2
        go_meet
        case rel => exact ⟨by have hf1 := HF.out.1; rw [HH.out]; congr 1; exact wmid i j (by omega), HS2⟩
      case rest => as_aux_lemma =>
      clear HS
      obtain ⟨rfl, HS⟩ := hcut
      have hfh := HF.out.2 h (by omega) (by omega)
      have hf1 := HF.out.1
      obtain ⟨pc, hpc⟩ : ∃ pc, p = pc + h := ⟨p - h, by omega⟩
      have hpc2 : pc = p - h := by omega
      obtain ⟨x, hx⟩ : ∃ x, x = d[pc]! := ⟨_, rfl⟩
      obtain ⟨y, hy⟩ : ∃ y, y = d[h]! := ⟨_, rfl⟩
      have l1 := HS.out.cl R HD.out pc (by omega)
      have l2 := HS.out.cl R HD.out h (by omega)
      have hc := cmpAt R HCM HS.out HD.out x y
      rw [← hx] at l1
      rw [← hy] at l2
      have HXV := Aside0.mk (show ff l x.val = vv d (p - h) by rw [hx, hpc2]; rfl)
      have HYV := Aside0.mk (show ff l y.val = vv d h by rw [hy]; rfl)
      have b0 : (0 : Int) ≤ (h : Int) := Int.natCast_nonneg h
      have b1 : (h : Int) < (d.size : Int) := by omega
      have b2 : (0 : Int) ≤ (pc : Int) := Int.natCast_nonneg pc
      have b3 : (pc : Int) < (d.size : Int) := by omega
      obtain ⟨h2, hh2⟩ : ∃ h2, h2 = h + 1 := ⟨_, rfl⟩
      have W3 := Aside0.mk (wadd1 h h2 hh2 (by omega))
      have W4 := Aside0.mk (wsub p h pc hpc (by have := HPP.out; have := HN.out; have := HMID.out; omega))
      have HH2 := Aside0.mk hh2
      have hiff : cfF l x y < 0 ↔ ff l x.val < ff l y.val := cpi_neg _ _
      generalize cfF l x y = cv at hc hiff
      clear hx hy hh2 hpc hpc2 hfh
      by_cases hv : cv < 0
      · as_aux_lemma =>
        have hd := decide_eq_true hv
        have HV := Aside0.mk (hiff.1 hv)
        clear hiff
        have w3 := W3.out
        have w4 := W4.out
        go_wp2_with fail
        go_quiet_grown (first | (go_at_fn 18; refine Calls.grown_of (hc _ _)))
        have S2 := Aside0.mk (HS.out.grown nq osq)
        clear l1 l2 hc HS
        generalize grow (wc.drewN nq) osq = w2 at S2 ⊢
        go_wp2
        clear w3 w4
        go_roundg (h - i)
        case measure => omega
        case rel => exact ⟨i, h, by omega, Nat.le_refl _, rfl, rfl, HLO, ⟨fun x h4 h5 => by
          have hv2 := HV.out
          rw [HXV.out, HYV.out] at hv2
          have f1 := HF.out.2 x (by omega) h5
          have f2 := HF.out.2 h (by omega) (by omega)
          rcases Nat.lt_or_eq_of_le h4 with h6 | h6
          · have q1 := HSL.out h x (by omega) h6 (by omega)
            have q2 := HSR.out (p - x) (p - h) (by omega) (by omega) (by omega)
            omega
          · subst h6; exact hv2⟩, S2⟩
      · as_aux_lemma =>
        have hd := decide_eq_false hv
        have HV := Aside0.mk (fun hlt2 => hv (hiff.2 hlt2))
        clear hiff
        have w3 := W3.out
        have w4 := W4.out
        go_wp2_with fail
        go_quiet_grown (first | (go_at_fn 18; refine Calls.grown_of (hc _ _)))
        have S2 := Aside0.mk (HS.out.grown nq osq)
        clear l1 l2 hc HS
        generalize grow (wc.drewN nq) osq = w2 at S2 ⊢
        go_wp2
        clear w3 w4
        go_roundg (j - h2)
        case measure => have := HH2.out; omega
        case rel =>
          have hh2 := HH2.out
          exact ⟨h2, j, by omega, Nat.le_refl _, rfl, rfl, ⟨fun x h4 h5 => by
            have hv2 := HV.out
            rw [HXV.out, HYV.out] at hv2
            have hv2 := Int.not_lt.1 hv2
            have f1 := HF.out.2 x h4 (by omega)
            have f2 := HF.out.2 h (by omega) (by omega)
            rcases Nat.lt_or_eq_of_le (by omega : x ≤ h) with h6 | h6
            · have q1 := HSL.out x h (by omega) h6 (by omega)
              have q2 := HSR.out (p - h) (p - x) (by omega) (by omega) (by omega)
              omega
            · subst h6; exact hv2⟩, HHI, S2⟩
    · as_aux_lemma =>
      obtain rfl : i = j := by omega
      have hd : decide ((i : Int) < (i : Int)) = false := decide_eq_false (by omega)
      obtain ⟨e, he⟩ : ∃ e, n = e + i := ⟨n - i, by have := HN.out; have := HF.out.1; omega⟩
      have U6 := Aside0.mk (wsub n i e he (by have := HN.out; have := HMID.out; omega))
      have HCUT := Aside0.mk (show Cut d a m b mid i e by as_aux_lemma =>
        have hn := HN.out
        have hmid := HMID.out
        have hp := HPP.out
        have hf := HF.out.1
        refine ⟨?_, ?_, by omega, HSL.out, HSR.out, fun x y h1 h2 h3 h4 => ?_, fun x y h1 h2 h3 h4 => ?_⟩
        · rcases HLR.out with ⟨h1, h2, h3⟩ | ⟨h1, h2, h3⟩ <;> omega
        · rcases HLR.out with ⟨h1, h2, h3⟩ | ⟨h1, h2, h3⟩ <;> omega
        · by_cases hl : lo0 < i
          · have q1 := HLO.out (i - 1) (by omega) (by omega)
            have f1 := HF.out.2 (i - 1) (by omega) (by omega)
            rw [show p - (i - 1) = e by omega] at q1
            have q2 : vv d x ≤ vv d (i - 1) := by
              rcases Nat.lt_or_eq_of_le (by omega : x ≤ i - 1) with h6 | h6
              · exact HSL.out x (i - 1) h1 h6 (by omega)
              · rw [h6]; exact Int.le_refl _
            have q3 : vv d e ≤ vv d y := by
              rcases Nat.lt_or_eq_of_le h3 with h6 | h6
              · exact HSR.out e y (by omega) h6 h4
              · rw [h6]; exact Int.le_refl _
            omega
          · rcases HLR.out with ⟨h5, h6, h7⟩ | ⟨h5, h6, h7⟩ <;> omega
        · by_cases hl : i < r0
          · have q1 := HHI.out i (by omega) hl
            have f1 := HF.out.2 i (by omega) hl
            rw [show p - i = e - 1 by omega] at q1
            have q2 : vv d x ≤ vv d (e - 1) := by
              rcases Nat.lt_or_eq_of_le (by omega : x ≤ e - 1) with h6 | h6
              · exact HSR.out x (e - 1) h1 h6 (by omega)
              · rw [h6]; exact Int.le_refl _
            have q3 : vv d i ≤ vv d y := by
              rcases Nat.lt_or_eq_of_le h3 with h6 | h6
              · exact HSL.out i y (by omega) h6 h4
              · rw [h6]; exact Int.le_refl _
            omega
          · rcases HLR.out with ⟨h5, h6, h7⟩ | ⟨h5, h6, h7⟩ <;> omega)
      clear he hlt
      have u6 := U6.out
      go_upto_region 39 with (fail)
      clear u6
      clear HLO HHI HF HLR
      go_cut [185] (fun v185 wc => v185 = .bool (decide (i < m) && decide (m < e)) ∧ Aside0 (SW (encF l.length) w0 g off d wc))
      case first =>
        have HS2 := HS
        by_cases c1 : i < m
        · have n1 : (i : Int) < (m : Int) := by omega
          by_cases c2 : m < e
          · have n2 : (m : Int) < (e : Int) := by omega
            go_wp2
            go_meet
            case rel => exact ⟨by rw [decide_eq_true c1, decide_eq_true c2]; rfl, HS2⟩
          · have n2 : ¬ (m : Int) < (e : Int) := by omega
            go_wp2
            go_meet
            case rel => exact ⟨by rw [decide_eq_true c1, decide_eq_false c2]; rfl, HS2⟩
        · have n1 : ¬ (i : Int) < (m : Int) := by omega
          go_wp2
          go_meet
          case rel => exact ⟨by rw [decide_eq_false c1]; rfl, HS2⟩
      case rest => as_aux_lemma =>
      clear HS
      obtain ⟨e185, HS⟩ := hcut
      subst e185
      go_upto_if 185 with (fail)
      go_cut [] (fun wc => ∃ d1 : Array (Fin l.length), Aside0 (PermIn a b d d1) ∧ Aside0 (Halves d1 a mid b i e) ∧ Aside0 (SW (encF l.length) w0 g off d1 wc))
      case first =>
        cases hb1 : (decide (i < m) && decide (m < e)) with
        | true =>
          rw [Bool.and_eq_true, decide_eq_true_eq, decide_eq_true_eq] at hb1
          have HC := Aside0.mk (rot_calls (cap := cap) R d HD.out _ HS.out i m e hb1.1 hb1.2 (by have := HCUT.out.h1; omega) hsz (.func (.func 18) #[] #[cb]))
          go_wp2_with (first | (go_at_call 36; (with_reducible refine HC.out.mono ?_); rintro e w38 ⟨rfl, d1, hp, hx, hS⟩; have HS2 := Aside0.mk hS; have HP2 := Aside0.mk hp; have HX2 := Aside0.mk hx; clear hS hp hx))
          go_meet
          case rel => exact ⟨d1, ⟨permIn_mono _ _ _ _ _ _ (HCUT.out.h1.1) (HCUT.out.h1.2.2.2) hb HP2.out⟩, ⟨cut_halves HCUT.out HX2.out⟩, HS2⟩
        | false =>
          have hno : ∀ x, d[x]! = rotF (fun y => d[y]!) m (m - i) (e - m) x := fun x => by
            have h1 := HCUT.out.h1
            have hor : i = m ∨ m = e := by
              by_cases c1 : i < m
              · rw [decide_eq_true c1, Bool.true_and, decide_eq_false_iff_not] at hb1
                omega
              · omega
            unfold rotF
            rcases hor with h2 | h2
            · rw [← h2, Nat.sub_self, Nat.sub_zero, Nat.add_zero]
              split
              · rfl
              · split
                · rfl
                · first | rfl | rw [if_neg (by omega)]
            · rw [← h2, Nat.sub_self, Nat.add_zero, Nat.add_zero, Nat.sub_zero]
              split
              · rfl
              · split <;> rfl
          have HNO := Aside0.mk hno
          clear hno
          go_wp2
          go_meet
          case rel => exact ⟨d, ⟨permIn_refl _ _ _⟩, ⟨cut_halves HCUT.out HNO.out⟩, HS⟩
      case rest => as_aux_lemma =>
      clear HS
      obtain ⟨d1, HP1, HH1, HS⟩ := hcut
      go_upto_region 41 with (fail)
      go_cut [199] (fun vb wc => vb = .bool (decide (a < i) && decide (i < mid)) ∧ Aside0 (SW (encF l.length) w0 g off d1 wc))
      case first =>
        have HS2 := HS
        by_cases c1 : a < i
        · have n1 : (a : Int) < (i : Int) := by omega
          by_cases c2 : i < mid
          · have n2 : (i : Int) < (mid : Int) := by omega
            go_wp2
            go_meet
            case rel => exact ⟨by rw [decide_eq_true c1, decide_eq_true c2]; rfl, HS2⟩
          · have n2 : ¬ (i : Int) < (mid : Int) := by omega
            go_wp2
            go_meet
            case rel => exact ⟨by rw [decide_eq_true c1, decide_eq_false c2]; rfl, HS2⟩
        · have n1 : ¬ (a : Int) < (i : Int) := by omega
          go_wp2
          go_meet
          case rel => exact ⟨by rw [decide_eq_false c1]; rfl, HS2⟩
      case rest => as_aux_lemma =>
      clear HS
      obtain ⟨eb, HS⟩ := hcut
      subst eb
      go_upto_if 199 with (fail)
      have HDZ1 := Aside0.mk (show d1.size = d.size from HP1.out.1)
      have HBB := Aside0.mk (show a < mid ∧ mid < b by have := HMID.out; omega)
      go_cut [] (fun wc => ∃ d2 : Array (Fin l.length), Aside0 (PermIn a mid d1 d2) ∧ Aside0 (Srt d2 a mid) ∧ Aside0 (SW (encF l.length) w0 g off d2 wc))
      case first =>
        cases hb1 : (decide (a < i) && decide (i < mid)) with
        | true =>
          rw [Bool.and_eq_true, decide_eq_true_eq, decide_eq_true_eq] at hb1
          have HC := Aside0.mk (HREC.out d1 a i mid _ (by have := HBB.out; omega) hb1.1 hb1.2 (by rw [HDZ1.out]; have := HBB.out; omega) HDZ1.out HH1.out.s1 HH1.out.s2 HS.out)
          go_wp2_with (first | (go_at_call 34; (with_reducible refine HC.out.mono ?_); rintro e w38 ⟨rfl, d2, hp, hx, hS⟩; have HS2 := Aside0.mk hS; have HP2 := Aside0.mk hp; have HX2 := Aside0.mk hx; clear hS hp hx))
          go_meet
          case rel => exact ⟨d2, HP2, HX2, HS2⟩
        | false =>
          have hsr : Srt d1 a mid := by
            by_cases c1 : a < i
            · rw [decide_eq_true c1, Bool.true_and, decide_eq_false_iff_not] at hb1
              have : i = mid := by have := HCUT.out.h2; omega
              rw [← this]; exact HH1.out.s1
            · have : i = a := by have := HCUT.out.h1; omega
              rw [← this]; exact HH1.out.s2
          have HSR2 := Aside0.mk hsr
          clear hsr
          go_wp2
          go_meet
          case rel => exact ⟨d1, ⟨permIn_refl _ _ _⟩, HSR2, HS⟩
      case rest => as_aux_lemma =>
      clear HS
      obtain ⟨d2, HP2, HX2, HS⟩ := hcut
      have HDZ2 := Aside0.mk (show d2.size = d.size by rw [HP2.out.1, HDZ1.out])
      have HS3 := Aside0.mk (show Srt d2 mid e from srt_same (fun x h1 h2 => HP2.out.2.1 x (.inr h1)) HH1.out.s3)
      have HS4 := Aside0.mk (show Srt d2 e b from srt_same (fun x h1 h2 => HP2.out.2.1 x (.inr (by have := HCUT.out.h2; omega))) HH1.out.s4)
      go_upto_region 43 with (fail)
      go_cut [213] (fun vb wc => vb = .bool (decide (mid < e) && decide (e < b)) ∧ Aside0 (SW (encF l.length) w0 g off d2 wc))
      case first =>
        have HS2 := HS
        by_cases c1 : mid < e
        · have n1 : (mid : Int) < (e : Int) := by omega
          by_cases c2 : e < b
          · have n2 : (e : Int) < (b : Int) := by omega
            go_wp2
            go_meet
            case rel => exact ⟨by rw [decide_eq_true c1, decide_eq_true c2]; rfl, HS2⟩
          · have n2 : ¬ (e : Int) < (b : Int) := by omega
            go_wp2
            go_meet
            case rel => exact ⟨by rw [decide_eq_true c1, decide_eq_false c2]; rfl, HS2⟩
        · have n1 : ¬ (mid : Int) < (e : Int) := by omega
          go_wp2
          go_meet
          case rel => exact ⟨by rw [decide_eq_false c1]; rfl, HS2⟩
      case rest => as_aux_lemma =>
      clear HS
      obtain ⟨eb, HS⟩ := hcut
      subst eb
      go_upto_if 213 with (fail)
      have HEND := Aside0.mk (show ∀ (d3 : Array (Fin l.length)), PermIn mid b d2 d3 → Srt d3 mid b → PermIn a b d d3 ∧ Srt d3 a b from fun d3 hp hx => by
        have hbb := HBB.out
        exact ⟨permIn_trans _ _ _ _ _ HP1.out (permIn_trans _ _ _ _ _ (permIn_mono _ _ _ _ _ _ (Nat.le_refl _) (by omega) (by rw [HDZ1.out]; exact hb) HP2.out) (permIn_mono _ _ _ _ _ _ (by omega) (Nat.le_refl _) (by rw [HDZ2.out]; exact hb) hp)),
          join_srt (by omega) (by omega) (by rw [HDZ1.out]; exact hb) HP2.out HX2.out hp hx HH1.out.cr⟩)
      cases hb1 : (decide (mid < e) && decide (e < b)) with
      | true =>
        rw [Bool.and_eq_true, decide_eq_true_eq, decide_eq_true_eq] at hb1
        have HC := Aside0.mk (HREC.out d2 mid e b _ (by have := HBB.out; omega) hb1.1 hb1.2 (by rw [HDZ2.out]; exact hb) HDZ2.out HS3.out HS4.out HS.out)
        go_wp2_with (first | (go_at_call 34; (with_reducible refine HC.out.mono ?_); rintro e w38 ⟨rfl, d3, hp, hx, hS⟩; have HS5 := Aside0.mk hS; have HP3 := Aside0.mk (HEND.out d3 hp hx); clear hS hp hx))
        refine bodyPost_end (v := .tuple #[]) (by simp [results, Try.results34, go_sem]) rfl ⟨rfl, _, HP3.out.1, HP3.out.2, HS5.out⟩
      | false =>
        have hsr : Srt d2 mid b := by
          by_cases c1 : mid < e
          · rw [decide_eq_true c1, Bool.true_and, decide_eq_false_iff_not] at hb1
            have : e = b := by have := HCUT.out.h1; omega
            rw [← this]; exact HS3.out
          · have : e = mid := by have := HCUT.out.h2; omega
            rw [← this]; exact HS4.out
        have HSR2 := Aside0.mk (HEND.out d2 (permIn_refl _ _ _) hsr)
        clear hsr
        go_wp2
        refine bodyPost_end (v := .tuple #[]) (by simp [results, Try.results34, go_sem]) rfl ⟨rfl, _, HSR2.out.1, HSR2.out.2, HS.out⟩
end
end Go.Proofs.Ytpfbloddhfphiaa.K
