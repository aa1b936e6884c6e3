import Derived.Test.YtpfbloddhfphiaaK0
import Derived.Test.YtpfbloddhfphiaaSortP
import Derived.Deep.DeepMust
import Derived.Test.YtpfbloddhfphiaaProg
import Derived.Below
import Derived.Deep.Draws
import Derived.Deep.AppendLies
import Derived.Maps.AppendAt
import Derived.OwnWalk
import Derived.Laws.BytesArg
import Derived.Laws.MakeOwn
import Derived.Laws.OwnMore
import Derived.Deep.OwnRows
import Derived.Tactics
import Derived.Lib.ConvBytes
import Derived.Laws.Slices
import Derived.WalkKit
import Derived.KernelRfl
import Derived.RowKit3
import Derived.Deep.LoopGhost
import Derived.Deep.QuietTactic
import Derived.BigQuiet
import Derived.WideLaws
import Derived.Deep.DeepCutAuto
import Derived.Deep.CutBlock
import Derived.Deep.RegionHeld3
import Derived.Deep.MidRow
import Derived.Laws.Rows
import Derived.Lib.AppendStr
import Derived.ArgAppend
import Derived.Laws.IdiomCopy
import Derived.OrdersHeld
import Derived.Laws.BitsLemmas
import Derived.RowKit
import Derived.RegionTactic
import Derived.Deep.RegionWith
import Derived.Lib.Hide
import Derived.Test.YtpfbloddhfphiaaWWords
import Derived.Test.YtpfbloddhfphiaaWLast
import Derived.Test.YtpfbloddhfphiaaWTab
import Derived.Test.YtpfbloddhfphiaaWFour
import Derived.Test.YtpfbloddhfphiaaWQPut
import Derived.Test.YtpfbloddhfphiaaWApart
import Derived.Test.YtpfbloddhfphiaaWArr
import Derived.Test.YtpfbloddhfphiaaWZeros
import Derived.Test.YtpfbloddhfphiaaWFoot
import Derived.Test.YtpfbloddhfphiaaWKept
import Derived.Test.YtpfbloddhfphiaaWShare
import Derived.Test.YtpfbloddhfphiaaWN
import Derived.Test.YtpfbloddhfphiaaWEqStruct
import Derived.Test.YtpfbloddhfphiaaWRepsOne
import Derived.Test.YtpfbloddhfphiaaWGuard
import Derived.Test.YtpfbloddhfphiaaWNEv
import Derived.Test.YtpfbloddhfphiaaWMore
import Derived.Deep.RegionLaw
import Derived.Laws.CopyOwn
namespace Go.Proofs.Ytpfbloddhfphiaa.K
open Go.RowKit Go.Proofs.YtpfbloddhfphiaaW.PrintWords Go.Proofs.YtpfbloddhfphiaaW.PrintLast Go.Proofs.YtpfbloddhfphiaaW.PrintMore
attribute [local go_sem] max2_int min2_int max_two min_two max_three min_three max_four min_four   -- for this text's walks alone
set_option linter.unusedVariables false
set_option linter.unusedSimpArgs false
set_option linter.unusedSectionVars false
/-! ### slices.stableCmpFunc (27) at any length up to 1000 -/
open Go.Shelf Go.Sort
section
variable {l : List S35} [Inhabited (Fin l.length)]
variable {w0 : World} {g off cap : Nat} {cb : Value} {d0 : Array (Fin l.length)} (R : Row1 (encF l.length) w0 g off d0) (HCM : CmpLays1 Try.prog 18 #[cb] (encF l.length) (cfF l) g off d0.size w0)
include R HCM
set_option maxHeartbeats 16000000 in
set_option maxRecDepth 100000 in
theorem stable_calls (N : Nat) (hN : d0.size = N) (hsz : N ≤ 1000) (hH : Holds (encF l.length) w0 g off d0) :
    Calls Try.prog 27 #[.slice (some ⟨g, off, none⟩) N cap, .int .i64 (N : Int), .func (.func 18) #[] #[cb]] w0 (MrgPost w0 g off d0 0 N) := by
  have HS := Aside0.mk (SW.start hH)
  have HN := Aside0.mk hN
  have HSZ := Aside0.mk hsz
  clear hN hH
  go_enter Try.func27, Try.ntmps27
  go_wp2
  go_loopg [7, 8] (N + 1) (fun gg v7 v8 w' => ∃ (c a b : Nat) (d : Array (Fin l.length)), a ≤ N ∧ N - a ≤ gg ∧ v7 = .int .i64 (a : Int) ∧ v8 = .int .i64 (b : Int) ∧ Aside0 (a = c * 20 ∧ b = a + 20) ∧ Aside0 (PermIn 0 N d0 d) ∧ Aside0 (Run d 20 0 a) ∧ Aside0 (SW (encF l.length) w0 g off d w'))
  case atStart => exact ⟨0, 0, 20, d0, Nat.zero_le _, by omega, rfl, rfl, ⟨by omega, by omega⟩, ⟨permIn_refl _ _ _⟩, ⟨fun x y h1 h2 h3 => by omega⟩, HS⟩
  case round =>
    clear HS
    obtain ⟨c, a, b, d, ha, hg, rfl, rfl, HAB, HP, HR, HS⟩ := hrel
    have HDZ := Aside0.mk (show d.size = N by rw [HP.out.1]; exact HN.out)
    by_cases hbn : b ≤ N
    · have n1 : (b : Int) ≤ (N : Int) := by omega
      have HC := Aside0.mk (iso_calls (cap := cap) R HCM N HN.out HSZ.out d HDZ.out a b (by have := HAB.out.2; omega) hbn wr HS.out)
      obtain ⟨b2, hb2⟩ : ∃ b2, b2 = b + 20 := ⟨_, rfl⟩
      have u1 : IntKind.i64.wrap ((b : Int) + 20) = (b2 : Int) := by rw [IntKind.wrap_i64]; omega
      have HB2 := Aside0.mk hb2
      clear hb2
      go_wp2_with (first | (go_at_call 33; (with_reducible refine HC.out.mono ?_); rintro e w33 ⟨rfl, d', hp, hs, hS⟩; have HP2 := Aside0.mk hp; have HS2 := Aside0.mk hs; have HSW := Aside0.mk hS; clear hp hs hS))
      clear u1
      go_roundg (N - b)
      case measure => have := HAB.out.2; omega
      case rel =>
        obtain ⟨e1, e2⟩ := HAB.out
        exact ⟨c + 1, b, b2, d', hbn, Nat.le_refl _, rfl, rfl, ⟨by omega, by have := HB2.out; omega⟩, ⟨permIn_trans _ _ _ _ _ HP.out (permIn_mono _ _ _ _ _ _ (Nat.zero_le _) hbn (by rw [HDZ.out]; exact Nat.le_refl _) HP2.out)⟩, ⟨run_ext (by omega) HR.out e1 HP2.out HS2.out⟩, HSW⟩
    · have n1 : ¬ (b : Int) ≤ (N : Int) := by omega
      have HC := Aside0.mk (iso_calls (cap := cap) R HCM N HN.out HSZ.out d HDZ.out a N ha (Nat.le_refl _) wr HS.out)
      have HBN := Aside0.mk hbn
      clear hbn
      go_wp2_with (first | (go_at_call 33; (with_reducible refine HC.out.mono ?_); rintro e w33 ⟨rfl, d', hp, hs, hS⟩; have HP2 := Aside0.mk (permIn_trans _ _ _ _ _ HP.out (permIn_mono _ _ _ _ _ _ (Nat.zero_le _) (Nat.le_refl _) (by rw [HDZ.out]; exact Nat.le_refl _) hp)); have HR2 := Aside0.mk (run_ext (by omega) HR.out HAB.out.1 hp hs); have HSW := Aside0.mk hS; clear hp hs hS HR HP HS HDZ))
      generalize d' = d2 at HP2 HR2 HSW
      clear HBN HC HAB n1
      go_loopg [6] N (fun gg v6 w' => ∃ (bs : Nat) (d : Array (Fin l.length)), (1 ≤ bs ∧ bs ≤ 4000) ∧ N - bs ≤ gg ∧ v6 = .int .i64 (bs : Int) ∧ Aside0 (PermIn 0 N d0 d) ∧ Aside0 (Run d bs 0 N) ∧ Aside0 (SW (encF l.length) w0 g off d w'))
      case atStart => exact ⟨20, d2, by omega, by omega, rfl, HP2, HR2, HSW⟩
      case round =>
        clear HP2 HR2 HSW
        obtain ⟨bs, d, hbs, hg2, rfl, HP, HR, HS⟩ := hrel
        by_cases hlt : bs < N
        · have n1 : (bs : Int) < (N : Int) := by omega
          obtain ⟨B, hB⟩ : ∃ B, B = 2 * bs := ⟨_, rfl⟩
          have U1 := Aside0.mk (show IntKind.i64.wrap (2 * (bs : Int)) = (B : Int) by rw [IntKind.wrap_i64]; omega)
          have U2 := Aside0.mk (show IntKind.i64.wrap ((bs : Int) * 2) = (B : Int) by rw [IntKind.wrap_i64]; omega)
          have HBB := Aside0.mk hB
          clear hB
          have u1 := U1.out
          go_wp2
          clear u1
          go_loopg [7, 8] (N + 1) (fun gg v7 v8 w' => ∃ (c a b : Nat) (d : Array (Fin l.length)), a ≤ N ∧ N - a ≤ gg ∧ v7 = .int .i64 (a : Int) ∧ v8 = .int .i64 (b : Int) ∧ Aside0 (a = c * B ∧ b = a + B) ∧ Aside0 (PermIn 0 N d0 d) ∧ Aside0 (Run d B 0 a) ∧ Aside0 (Run d bs a N) ∧ Aside0 (SW (encF l.length) w0 g off d w'))
          case atStart => exact ⟨0, 0, B, d, Nat.zero_le _, by omega, rfl, rfl, ⟨by omega, by omega⟩, HP, ⟨fun x y h1 h2 h3 => by omega⟩, HR, HS⟩
          case round =>
            clear HP HR HS
            obtain ⟨c, a, b, d, ha, hg3, rfl, rfl, HAB, HP, HR1, HR2, HS⟩ := hrel
            have HDZ := Aside0.mk (show d.size = N by rw [HP.out.1]; exact HN.out)
            have HEQ := Aside0.mk (show a = (2 * c) * bs ∧ a + bs = (2 * c + 1) * bs by
              have e1 := HAB.out.1
              rw [HBB.out] at e1
              have e2 : c * (2 * bs) = (2 * c) * bs := by rw [← Nat.mul_assoc, Nat.mul_comm c 2]
              refine ⟨by omega, ?_⟩
              rw [Nat.add_mul, Nat.one_mul]; omega)
            obtain ⟨m, hm⟩ : ∃ m, m = a + bs := ⟨_, rfl⟩
            have U3 := Aside0.mk (wadd a bs m hm (by omega))
            have HM := Aside0.mk hm
            clear hm
            by_cases hbn : b ≤ N
            · have n2 : (b : Int) ≤ (N : Int) := by omega
              obtain ⟨b2, hb2⟩ : ∃ b2, b2 = b + B := ⟨_, rfl⟩
              have U4 := Aside0.mk (wadd b B b2 hb2 (by have := HBB.out; omega))
              have HB2 := Aside0.mk hb2
              clear hb2
              have HC := Aside0.mk (mrg_calls (cap := cap) R HCM N HN.out HSZ.out (b - a) d a m b wr (Nat.le_refl _) (by have := HM.out; omega) (by have := HM.out; have := HBB.out; have := HAB.out.2; omega) (by rw [HDZ.out]; exact hbn) HDZ.out
                (run_srt HR2.out (Nat.le_refl _) HEQ.out.1 (by have := HM.out; omega) (by have := HM.out; have := HBB.out; have := HAB.out.2; omega))
                (run_srt HR2.out (by have := HM.out; omega) (by rw [HM.out]; exact HEQ.out.2) (by have := HM.out; have := HBB.out; have := HAB.out.2; omega) hbn) HS.out)
              have u1 := U1.out
              have u3 := U3.out
              have u4 := U4.out
              go_wp2_with (first | (go_at_call 34; (with_reducible refine HC.out.mono ?_); rintro e w33 ⟨rfl, d', hp, hs, hS⟩; have HP2 := Aside0.mk hp; have HS2 := Aside0.mk hs; have HSW := Aside0.mk hS; clear hp hs hS))
              clear u1 u3 u4
              go_roundg (N - b)
              case measure => have := HAB.out.2; have := HBB.out; omega
              case rel =>
                obtain ⟨e1, e2⟩ := HAB.out
                exact ⟨c + 1, b, b2, d', hbn, Nat.le_refl _, rfl, rfl, ⟨by rw [Nat.add_mul, Nat.one_mul]; omega, by have := HB2.out; omega⟩, ⟨permIn_trans _ _ _ _ _ HP.out (permIn_mono _ _ _ _ _ _ (Nat.zero_le _) hbn (by rw [HDZ.out]; exact Nat.le_refl _) HP2.out)⟩, ⟨run_ext (by have := HBB.out; omega) HR1.out e1 HP2.out HS2.out⟩, ⟨run_keep HR2.out (by omega) HP2.out⟩, HSW⟩
            · have n2 : ¬ (b : Int) ≤ (N : Int) := by omega
              by_cases hmn : m < N
              · have n3 : (m : Int) < (N : Int) := by omega
                have HC := Aside0.mk (mrg_calls (cap := cap) R HCM N HN.out HSZ.out (N - a) d a m N wr (Nat.le_refl _) (by have := HM.out; omega) hmn (by rw [HDZ.out]; exact Nat.le_refl _) HDZ.out
                  (run_srt HR2.out (Nat.le_refl _) HEQ.out.1 (by have := HM.out; omega) (by omega))
                  (run_srt HR2.out (by have := HM.out; omega) (by rw [HM.out]; exact HEQ.out.2) (by have := HM.out; have := HBB.out; have := HAB.out.2; omega) (Nat.le_refl _)) HS.out)
                have u2 := U2.out
                have u3 := U3.out
                go_wp2_with (first | (go_at_call 34; (with_reducible refine HC.out.mono ?_); rintro e w33 ⟨rfl, d', hp, hs, hS⟩; have HP2 := Aside0.mk hp; have HS2 := Aside0.mk hs; have HSW := Aside0.mk hS; clear hp hs hS))
                clear u2 u3
                go_roundg (N - B)
                case measure => have := HBB.out; omega
                case rel => exact ⟨B, d', by have := HBB.out; omega, Nat.le_refl _, rfl, ⟨permIn_trans _ _ _ _ _ HP.out (permIn_mono _ _ _ _ _ _ (Nat.zero_le _) (Nat.le_refl _) (by rw [HDZ.out]; exact Nat.le_refl _) HP2.out)⟩, ⟨run_ext (by have := HBB.out; omega) HR1.out HAB.out.1 HP2.out HS2.out⟩, HSW⟩
              · have n3 : ¬ (m : Int) < (N : Int) := by omega
                have HR3 := Aside0.mk (show Run d B 0 N from run_ext (by have := HBB.out; omega) HR1.out HAB.out.1 (permIn_refl _ a N) (run_srt HR2.out (Nat.le_refl _) HEQ.out.1 (by have := HM.out; omega) (Nat.le_refl _)))
                have u2 := U2.out
                have u3 := U3.out
                go_wp2
                clear u2 u3
                go_roundg (N - B)
                case measure => have := HBB.out; omega
                case rel => exact ⟨B, d, by have := HBB.out; omega, Nat.le_refl _, rfl, HP, HR3, HS⟩
        · have n1 : ¬ (bs : Int) < (N : Int) := by omega
          have HR3 := Aside0.mk (run_all HR.out (by omega))
          go_wp2
          refine bodyPost_end (v := .tuple #[]) (by simp [results, Try.results27, go_sem]) rfl ⟨rfl, d, HP.out, HR3.out, HS.out⟩
end
end Go.Proofs.Ytpfbloddhfphiaa.K
