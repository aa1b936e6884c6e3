/- How this seat's arguments read: an instruction with its fields. Conditions: none. -/
import Derived.Test.YtkacoffiinggiaaOpen
import Derived.Test.YtkacoffiinggiaaK0
namespace Go.Proofs.Ytkacoffiinggiaa.K
open Go.RowKit Go.Proofs.YtkacoffiinggiaaW.PrintWords Go.Proofs.Ytkacoffiinggiaa.Open
theorem opens29 : Opens Try.prog 29 k29 (fun _ => True) :=
  (opens_iso (G := fun _ => True) (fun x : S29 => (x.f0, x.f1, x.f2, x.f3, x.f4)) (fun p => ⟨p.1, p.2.1, p.2.2.1, p.2.2.2.1, p.2.2.2.2⟩) (fun _ => rfl) (Opens.imp (opens_struct Try.underlying29 (by kernel_rfl)
    (opensFs_cons rfl (by kernel_rfl) (opens_int Try.underlying3) (opensFs_cons rfl (by kernel_rfl) (opens_int Try.underlying3) (opensFs_cons rfl (by kernel_rfl) (opens_int Try.underlying3) (opensFs_cons rfl (by kernel_rfl) (opens_int Try.underlying3) (opensFs_one rfl (by kernel_rfl) (opens_int Try.underlying3))))))) (fun _ _ => trivial)))
end Go.Proofs.Ytkacoffiinggiaa.K
