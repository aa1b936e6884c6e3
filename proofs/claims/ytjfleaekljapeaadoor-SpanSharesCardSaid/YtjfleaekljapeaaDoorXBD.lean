import Derived.Test.YtjfleaekljapeaaDoorXBA
import Derived.Deep.DeepMust
import Derived.Test.YtjfleaekljapeaaDoorProg
import Derived.Below
import Derived.Deep.Draws
import Derived.Deep.AppendLies
import Derived.Maps.AppendAt
import Derived.OwnWalk
import Derived.Laws.BytesArg
import Derived.Laws.MakeOwn
import Derived.Laws.OwnMore
import Derived.Deep.OwnRows
import Derived.Tactics
import Derived.Lib.ConvBytes
import Derived.Laws.Slices
import Derived.WalkKit
import Derived.KernelRfl
import Derived.RowKit3
import Derived.Deep.LoopGhost
import Derived.Deep.QuietTactic
import Derived.BigQuiet
import Derived.WideLaws
import Derived.Deep.DeepCutAuto
import Derived.Deep.CutBlock
import Derived.Deep.RegionHeld3
import Derived.Deep.MidRow
import Derived.Laws.Tables
import Derived.StillTailTactics
import Derived.Laws.Rows
import Derived.Lib.AppendStr
import Derived.ArgAppend
import Derived.Laws.IdiomCopy
import Derived.OrdersHeld
import Derived.Laws.BitsLemmas
import Derived.Laws.BitsAllLaws
import Derived.RowKit
import Derived.RegionTactic
import Derived.Deep.RegionWith
import Derived.Lib.Hide
import Derived.Test.YtjfleaekljapeaaDoorXAA
import Derived.Test.YtjfleaekljapeaaDoorXAB
import Derived.Test.YtjfleaekljapeaaDoorXAC
import Derived.Deep.RegionLaw
import Derived.Laws.CopyOwn
import Derived.Laws.EntriesVeiled
import Derived.Shelf.Spec.TrailingZeros
namespace Go.Proofs.YtjfleaekljapeaaDoor.K
open Go.RowKit Go.Proofs.YtjfleaekljapeaaDoorW.PrintWords Go.Proofs.YtjfleaekljapeaaDoorW.PrintLast Go.Proofs.YtjfleaekljapeaaDoorW.PrintMore
attribute [local go_sem] max2_int min2_int max_two min_two max_three min_three max_four min_four   -- for this text's walks alone
set_option linter.unusedVariables false
set_option linter.unusedSimpArgs false
set_option linter.unusedSectionVars false
set_option maxHeartbeats 4000000 in
set_option maxRecDepth 20000 in
theorem same_calls (R : PS) (A0 A1 : Option Addr) (c0 c1 : Nat) (w : World) (hr0 : Kd.C (Kd.int .u8) w A0 R.out.length R.out) (hr1 : Kd.C (Kd.int .u8) w A1 R.out.length R.out) :
  Calls Tryd.prog 21 #[.agg (resV R A0 c0), .agg (resV R A1 c1)] w fun e w' => e = .returned (.bool true) /\ Below w.heap.size w w' := by
 have hu62 := Tryd.underlying62
 have HR0 := Aside0.mk hr0
 have HR1 := Aside0.mk hr1
 have HCS := Aside0.mk (show (resV R A0 c0)[0]? = some (.int .i64 R.stop) /\ (resV R A0 c0)[1]? = some (.int .u8 R.code) /\ (resV R A0 c0)[2]? = some (.int .i64 0) /\ (resV R A0 c0)[3]? = some (.slice A0 R.out.length c0) /\ (resV R A0 c0)[4]? = some (.int .i64 R.steps) /\ (resV R A0 c0)[5]? = some (.int .i64 R.checks) from ⟨rfl, rfl, rfl, rfl, rfl, rfl⟩)
 have HCT := Aside0.mk (show (resV R A1 c1)[0]? = some (.int .i64 R.stop) /\ (resV R A1 c1)[1]? = some (.int .u8 R.code) /\ (resV R A1 c1)[2]? = some (.int .i64 0) /\ (resV R A1 c1)[3]? = some (.slice A1 R.out.length c1) /\ (resV R A1 c1)[4]? = some (.int .i64 R.steps) /\ (resV R A1 c1)[5]? = some (.int .i64 R.checks) from ⟨rfl, rfl, rfl, rfl, rfl, rfl⟩)
 clear hr0 hr1
 generalize resV R A0 c0 = v0 at HCS ⊢
 generalize resV R A1 c1 = v1 at HCT ⊢
 go_enter Tryd.func21, Tryd.ntmps21
 go_upto_region 1 with (fail)
 have HB := Aside0.mk (two_below w (.cells v0 62) (.cells v1 62))
 have h0 := blk_below (heap_alloc_new w (.cells v0 62)) ((Below.refl _ _).alloc (Nat.le_refl _) (.cells v1 62))
 have h1 := two_new w (.cells v0 62) (.cells v1 62)
 generalize World.alloc (World.alloc w (.cells v0 62)) (.cells v1 62) = W at HB h0 h1 ⊢
 have x0 := (blk_cell h0 0).trans HCS.out.1
 have x1 := (blk_cell h0 1).trans HCS.out.2.1
 have x2 := (blk_cell h0 2).trans HCS.out.2.2.1
 have x3 := (blk_cell h0 3).trans HCS.out.2.2.2.1
 have x4 := (blk_cell h0 4).trans HCS.out.2.2.2.2.1
 have x5 := (blk_cell h0 5).trans HCS.out.2.2.2.2.2
 have y0 := (blk_cell h1 0).trans HCT.out.1
 have y1 := (blk_cell h1 1).trans HCT.out.2.1
 have y2 := (blk_cell h1 2).trans HCT.out.2.2.1
 have y3 := (blk_cell h1 3).trans HCT.out.2.2.2.1
 have y4 := (blk_cell h1 4).trans HCT.out.2.2.2.2.1
 have y5 := (blk_cell h1 5).trans HCT.out.2.2.2.2.2
 have hcv13 := Kd.C_string (P := Tryd.prog) (A := A0) (c := c0) Tryd.underlying60 Tryd.underlying5 Tryd.underlying9 (Kd.C_below HR0.out HB.out)
 have hcv14 := Kd.C_string (P := Tryd.prog) (A := A1) (c := c1) Tryd.underlying60 Tryd.underlying5 Tryd.underlying9 (Kd.C_below HR1.out HB.out)
 clear h0 h1
 go_wp2
 go_ret
 exact ⟨by simp, HB.out⟩
end Go.Proofs.YtjfleaekljapeaaDoor.K
