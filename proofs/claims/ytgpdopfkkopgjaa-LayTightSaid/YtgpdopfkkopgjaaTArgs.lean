/- How LayTight's argument reads: a slice of bytes. Conditions: none. -/
import Derived.Test.YtgpdopfkkopgjaaOpen
import Derived.Test.YtgpdopfkkopgjaaK0
namespace Go.Proofs.Ytgpdopfkkopgjaa.K
set_option linter.unusedVariables false
set_option linter.unusedSimpArgs false
open Go.RowKit Go.Proofs.YtgpdopfkkopgjaaW.PrintWords Go.Proofs.Ytgpdopfkkopgjaa.Open
theorem wf_u8 {a : Int} (h : (Lit.int .u8 a).wf = true) : 0 ≤ a ∧ a ≤ 255 := by
  simp [Lit.wf, IntKind.min, IntKind.max, IntKind.signed, IntKind.bits] at h
  omega
theorem opens22 : Opens Try.prog 22 (Kd.slice 5 (Kd.int .u8)) (fun xs => ∀ y ∈ xs, 0 ≤ y ∧ y ≤ 255) :=
  Opens.imp (opens_slice Try.underlying22 (by kernel_rfl) (opens_int Try.underlying5)) (fun xs h y hy => wf_u8 (h.2 y hy))
end Go.Proofs.Ytgpdopfkkopgjaa.K
