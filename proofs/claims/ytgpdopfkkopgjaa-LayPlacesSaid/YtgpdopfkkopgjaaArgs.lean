/- How this seat's arguments read: structs with their fields, types. Conditions: none. -/
import Derived.Test.YtgpdopfkkopgjaaOpen
import Derived.Test.YtgpdopfkkopgjaaK0
namespace Go.Proofs.Ytgpdopfkkopgjaa.K
set_option linter.unusedVariables false
set_option linter.unusedSimpArgs false
open Go.RowKit Go.Proofs.YtgpdopfkkopgjaaW.PrintWords Go.Proofs.Ytgpdopfkkopgjaa.Open
theorem opens25 : Opens Try.prog 25 k25 (fun _ => True) :=
  (opens_iso (G := fun _ => True) (fun x : S25 => (x.f0, x.f1, x.f2)) (fun p => ⟨p.1, p.2.1, p.2.2⟩) (fun _ => rfl) (Opens.imp (opens_struct Try.underlying25 (by kernel_rfl)
    (opensFs_cons rfl (by kernel_rfl) (opens_int Try.underlying3) (opensFs_cons rfl (by kernel_rfl) (opens_int Try.underlying3) (opensFs_one rfl (by kernel_rfl) (opens_string Try.underlying9))))) (fun _ _ => trivial)))
theorem opens32 : Opens Try.prog 32 k32 (fun _ => True) :=
  (opens_iso (G := fun _ => True) (fun x : S32 => (x.f0, x.f1, x.f2)) (fun p => ⟨p.1, p.2.1, p.2.2⟩) (fun _ => rfl) (Opens.imp (opens_struct Try.underlying32 (by kernel_rfl)
    (opensFs_cons rfl (by kernel_rfl) (opens_string Try.underlying9) (opensFs_cons rfl (by kernel_rfl) opens25 (opensFs_one rfl (by kernel_rfl) (opens_int Try.underlying3))))) (fun _ _ => trivial)))
theorem opens28 : Opens Try.prog 28 (Kd.slice 32 k32) (fun _ => True) := Opens.imp (opens_slice Try.underlying28 (by kernel_rfl) opens32) (fun _ _ => trivial)
theorem opens30 : Opens Try.prog 30 k30 (fun _ => True) :=
  (opens_iso (G := fun _ => True) (fun x : S30 => (x.f0, x.f1, x.f2)) (fun p => ⟨p.1, p.2.1, p.2.2⟩) (fun _ => rfl) (Opens.imp (opens_struct Try.underlying30 (by kernel_rfl)
    (opensFs_cons rfl (by kernel_rfl) (opens_string Try.underlying9) (opensFs_cons rfl (by kernel_rfl) opens28 (opensFs_one rfl (by kernel_rfl) (opens_int Try.underlying3))))) (fun _ _ => trivial)))
theorem opens33 : Opens Try.prog 33 (Kd.slice 30 k30) (fun _ => True) := Opens.imp (opens_slice Try.underlying33 (by kernel_rfl) opens30) (fun _ _ => trivial)
end Go.Proofs.Ytgpdopfkkopgjaa.K
