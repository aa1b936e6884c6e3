import Derived.Test.YtpfbloddhfphiaaOpen
import Derived.Test.YtpfbloddhfphiaaScanX
import Derived.Deep.DeepMust
import Derived.Test.YtpfbloddhfphiaaProg
import Derived.Below
import Derived.Deep.Draws
import Derived.Deep.AppendLies
import Derived.Maps.AppendAt
import Derived.OwnWalk
import Derived.Laws.BytesArg
import Derived.Laws.MakeOwn
import Derived.Laws.OwnMore
import Derived.Deep.OwnRows
import Derived.Tactics
import Derived.Lib.ConvBytes
import Derived.Laws.Slices
import Derived.WalkKit
import Derived.KernelRfl
import Derived.RowKit3
import Derived.Deep.LoopGhost
import Derived.Deep.QuietTactic
import Derived.BigQuiet
import Derived.WideLaws
import Derived.Deep.DeepCutAuto
import Derived.Deep.CutBlock
import Derived.Deep.RegionHeld3
import Derived.Deep.MidRow
import Derived.Laws.Rows
import Derived.Lib.AppendStr
import Derived.ArgAppend
import Derived.Laws.IdiomCopy
import Derived.OrdersHeld
import Derived.Laws.BitsLemmas
import Derived.RowKit
import Derived.RegionTactic
import Derived.Deep.RegionWith
import Derived.Lib.Hide
import Derived.Test.YtpfbloddhfphiaaWWords
import Derived.Test.YtpfbloddhfphiaaWLast
import Derived.Test.YtpfbloddhfphiaaWTab
import Derived.Test.YtpfbloddhfphiaaWFour
import Derived.Test.YtpfbloddhfphiaaWQPut
import Derived.Test.YtpfbloddhfphiaaWApart
import Derived.Test.YtpfbloddhfphiaaWArr
import Derived.Test.YtpfbloddhfphiaaWZeros
import Derived.Test.YtpfbloddhfphiaaWFoot
import Derived.Test.YtpfbloddhfphiaaWKept
import Derived.Test.YtpfbloddhfphiaaWShare
import Derived.Test.YtpfbloddhfphiaaWN
import Derived.Test.YtpfbloddhfphiaaWEqStruct
import Derived.Test.YtpfbloddhfphiaaWRepsOne
import Derived.Test.YtpfbloddhfphiaaWGuard
import Derived.Test.YtpfbloddhfphiaaWNEv
import Derived.Test.YtpfbloddhfphiaaWMore
import Derived.Deep.RegionLaw
import Derived.Laws.CopyOwn
import Derived.LaidMore
import Derived.OpenShut
import Derived.ProofKit
import Derived.Stop.Joined
namespace Go.Proofs.Ytpfbloddhfphiaa.K
open Go.RowKit Go.Proofs.YtpfbloddhfphiaaW.PrintWords Go.Proofs.YtpfbloddhfphiaaW.PrintLast Go.Proofs.YtpfbloddhfphiaaW.PrintMore
attribute [local go_sem] max2_int min2_int max_two min_two max_three min_three max_four min_four   -- for this text's walks alone
set_option linter.unusedVariables false
set_option linter.unusedSimpArgs false
set_option linter.unusedSectionVars false
/-! ### The arguments' types, opened -/
open Go.ChangeShapes Go.WideShapes Go.ChangeAt Go.RowKit Go.Proofs.Ytpfbloddhfphiaa.Open
theorem opens_array2 {P : Program} {t e : TypeId} {α : Type} {d : Kd α} {G : α → Prop} (ht : P.underlying t = some (.array 2 e)) (hs : P.cellsOf e = 1) (hc : P.cellsOf t = 2) (h : Opens P e d G) :
    Opens P t (Kd.pair d d) (fun p => G p.1 ∧ G p.2) := by
  intro H enc w base spare held fuel cs x hx
  obtain ⟨xs, m, _, _, hl, hn, hf⟩ := DataW.trod_array ht hx
  rw [hc] at hl
  obtain ⟨c0, c1, rfl⟩ : ∃ a b, cs = [a, b] := by
    match cs, hl with
    | [a, b], _ => exact ⟨a, b, rfl⟩
  obtain ⟨x0, x1, rfl⟩ : ∃ a b, xs = [a, b] := by
    match xs, hn with
    | [a, b], _ => exact ⟨a, b, rfl⟩
  have h0 := hf 0 (by decide)
  have h1 := hf 1 (by decide)
  rw [hs] at h0 h1
  obtain ⟨y0, k0, g0⟩ := h enc w base spare held m _ x0 h0
  obtain ⟨y1, k1, g1⟩ := h enc w base spare held m _ x1 h1
  exact ⟨(y0, y1), ⟨[c0], [c1], rfl, k0, k1⟩, g0, g1⟩
theorem wf_u8 {a : Int} (h : (Lit.int .u8 a).wf = true) : 0 ≤ a ∧ a < 256 := by
  simp [Lit.wf, IntKind.min, IntKind.max, IntKind.signed, IntKind.bits] at h
  omega
theorem opens45 : Opens Try.prog 45 k45 (fun x => (0 ≤ x.f0 ∧ x.f0 < 256) ∧ (0 ≤ x.f1 ∧ x.f1 < 256)) :=
  opens_iso (fun x : C45 => (x.f0, x.f1)) (fun p => ⟨p.1, p.2⟩) (fun _ => rfl) (Opens.imp (opens_array2 Try.underlying45 (by kernel_rfl) (by kernel_rfl) (opens_int Try.underlying5)) (fun p h => ⟨wf_u8 h.1, wf_u8 h.2⟩))
theorem opens22 : Opens Try.prog 22 (Kd.slice 45 k45) (fun l => ∀ x ∈ l, (0 ≤ x.f0 ∧ x.f0 < 256) ∧ (0 ≤ x.f1 ∧ x.f1 < 256)) :=
  Opens.imp (opens_slice Try.underlying22 (by kernel_rfl) opens45) (fun _ h => h.2)
theorem opens28 : Opens Try.prog 28 (Kd.slice 3 (Kd.int .i64)) (fun _ => True) :=
  Opens.imp (opens_slice Try.underlying28 (by kernel_rfl) (opens_int Try.underlying3)) (fun _ _ => trivial)
end Go.Proofs.Ytpfbloddhfphiaa.K
