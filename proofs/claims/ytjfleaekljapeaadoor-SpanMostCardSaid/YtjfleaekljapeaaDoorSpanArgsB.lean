import Derived.Test.YtjfleaekljapeaaDoorSpanMo
import Derived.Test.YtjfleaekljapeaaDoorSpanArgs
import Derived.Deep.DeepMust
import Derived.Test.YtjfleaekljapeaaDoorProg
import Derived.Below
import Derived.Deep.Draws
import Derived.Deep.AppendLies
import Derived.Maps.AppendAt
import Derived.OwnWalk
import Derived.Laws.BytesArg
import Derived.Laws.MakeOwn
import Derived.Laws.OwnMore
import Derived.Deep.OwnRows
import Derived.Tactics
import Derived.Lib.ConvBytes
import Derived.Laws.Slices
import Derived.WalkKit
import Derived.KernelRfl
import Derived.RowKit3
import Derived.Deep.LoopGhost
import Derived.Deep.QuietTactic
import Derived.BigQuiet
import Derived.WideLaws
import Derived.Deep.DeepCutAuto
import Derived.Deep.CutBlock
import Derived.Deep.RegionHeld3
import Derived.Laws.Rows
import Derived.Lib.AppendStr
import Derived.ArgAppend
import Derived.Laws.IdiomCopy
import Derived.OrdersHeld
import Derived.Laws.BitsLemmas
import Derived.RowKit
import Derived.RegionTactic
import Derived.Deep.RegionWith
import Derived.Lib.Hide
import Derived.Test.YtjfleaekljapeaaDoorWWords
import Derived.Test.YtjfleaekljapeaaDoorWLast
import Derived.Test.YtjfleaekljapeaaDoorWTab
import Derived.Test.YtjfleaekljapeaaDoorWFour
import Derived.Test.YtjfleaekljapeaaDoorWQPut
import Derived.Test.YtjfleaekljapeaaDoorWApart
import Derived.Test.YtjfleaekljapeaaDoorWArr
import Derived.Test.YtjfleaekljapeaaDoorWZeros
import Derived.Test.YtjfleaekljapeaaDoorWFoot
import Derived.Test.YtjfleaekljapeaaDoorWKept
import Derived.Test.YtjfleaekljapeaaDoorWShare
import Derived.Test.YtjfleaekljapeaaDoorWN
import Derived.Test.YtjfleaekljapeaaDoorWEqStruct
import Derived.Test.YtjfleaekljapeaaDoorWRepsOne
import Derived.Test.YtjfleaekljapeaaDoorWGuard
import Derived.Test.YtjfleaekljapeaaDoorWNEv
import Derived.Test.YtjfleaekljapeaaDoorWMore
import Derived.Deep.RegionLaw
import Derived.Laws.CopyOwn
import Derived.Shelf.Spec.TrailingZeros
namespace Go.Proofs.YtjfleaekljapeaaDoor.K
open Go.RowKit Go.Proofs.YtjfleaekljapeaaDoorW.PrintWords Go.Proofs.YtjfleaekljapeaaDoorW.PrintLast Go.Proofs.YtjfleaekljapeaaDoorW.PrintMore
attribute [local go_sem] max2_int min2_int max_two min_two max_three min_three max_four min_four   -- for this text's walks alone
set_option linter.unusedVariables false
set_option linter.unusedSimpArgs false
set_option linter.unusedSectionVars false
/-! ### Slices of two-cell arrays of bytes, opened -/
open Go.ChangeShapes Go.WideShapes Go.ChangeAt Go.RowKit Go.Proofs.YtjfleaekljapeaaDoor.Open
theorem opens66 : Opens Tryd.prog 66 k66 (fun x => (0 ≤ x.f0 ∧ x.f0 < 256) ∧ (0 ≤ x.f1 ∧ x.f1 < 256)) :=
  opens_iso (fun x : C66 => (x.f0, x.f1)) (fun p => ⟨p.1, p.2⟩) (fun _ => rfl) (Opens.imp (opens_array2 Tryd.underlying66 (by kernel_rfl) (by kernel_rfl) (opens_int Tryd.underlying5)) (fun p h => ⟨wf_u8 h.1, wf_u8 h.2⟩))
theorem opens65 : Opens Tryd.prog 65 (Kd.slice 66 k66) (fun l => ∀ x ∈ l, (0 ≤ x.f0 ∧ x.f0 < 256) ∧ (0 ≤ x.f1 ∧ x.f1 < 256)) :=
  Opens.imp (opens_slice Tryd.underlying65 (by kernel_rfl) opens66) (fun _ h => h.2)
end Go.Proofs.YtjfleaekljapeaaDoor.K
