import Derived.Test.YtjfleaekljapeaaDoorXAK
import Derived.Deep.DeepMust
import Derived.Test.YtjfleaekljapeaaDoorProg
import Derived.Below
import Derived.Deep.Draws
import Derived.Deep.AppendLies
import Derived.Maps.AppendAt
import Derived.OwnWalk
import Derived.Laws.BytesArg
import Derived.Laws.MakeOwn
import Derived.Laws.OwnMore
import Derived.Deep.OwnRows
import Derived.Tactics
import Derived.Lib.ConvBytes
import Derived.Laws.Slices
import Derived.WalkKit
import Derived.KernelRfl
import Derived.RowKit3
import Derived.Deep.LoopGhost
import Derived.Deep.QuietTactic
import Derived.BigQuiet
import Derived.WideLaws
import Derived.Deep.DeepCutAuto
import Derived.Deep.CutBlock
import Derived.Deep.RegionHeld3
import Derived.Deep.MidRow
import Derived.Laws.Tables
import Derived.StillTailTactics
import Derived.Laws.Rows
import Derived.Lib.AppendStr
import Derived.ArgAppend
import Derived.Laws.IdiomCopy
import Derived.OrdersHeld
import Derived.Laws.BitsLemmas
import Derived.Laws.BitsAllLaws
import Derived.RowKit
import Derived.RegionTactic
import Derived.Deep.RegionWith
import Derived.Lib.Hide
import Derived.Test.YtjfleaekljapeaaDoorXAA
import Derived.Test.YtjfleaekljapeaaDoorXAB
import Derived.Test.YtjfleaekljapeaaDoorXAC
import Derived.Deep.RegionLaw
import Derived.Laws.CopyOwn
import Derived.Shelf.Spec.TrailingZeros
import Derived.Test.YtjfleaekljapeaaDoorXAD
namespace Go.Proofs.YtjfleaekljapeaaDoor.K
open Go.RowKit Go.Proofs.YtjfleaekljapeaaDoorW.PrintWords Go.Proofs.YtjfleaekljapeaaDoorW.PrintLast Go.Proofs.YtjfleaekljapeaaDoorW.PrintMore
attribute [local go_sem] max2_int min2_int max_two min_two max_three min_three max_four min_four   -- for this text's walks alone
set_option linter.unusedVariables false
set_option linter.unusedSimpArgs false
set_option linter.unusedSectionVars false
theorem fl_rng (t : Bool) : 0 <= flI t /\ flI t < 18446744073709551616 := by cases t <;> decide
set_option maxHeartbeats 4000000 in
set_option maxRecDepth 20000 in
theorem do_1 (a b : Int) (ha : 0 <= a /\ a < 18446744073709551616) (hb : 0 <= b /\ b < 18446744073709551616) : DoPost 1 a b := by
 obtain ⟨n, hn⟩ : ∃ n : Nat, b % 64 = (n : Int) := ⟨(b % 64).toNat, by omega⟩
 have hn64 : n < 64 := by omega
 refine ⟨(IntKind.u64.wrap (a + b)), true, wrap_rng _, fun w => ?_⟩
 have b0 : 0 <= b := hb.1
 have a0 : 0 <= a := ha.1
 have n0 : (n : Int) < 64 := by omega
 clear ha hb hn64
 go_enter Tryd.func63, Tryd.ntmps63
 go_wp2
 go_ret2
 exact ⟨rfl, Drawn0.refl _⟩
set_option maxHeartbeats 4000000 in
set_option maxRecDepth 20000 in
theorem do_2 (a b : Int) (ha : 0 <= a /\ a < 18446744073709551616) (hb : 0 <= b /\ b < 18446744073709551616) : DoPost 2 a b := by
 obtain ⟨n, hn⟩ : ∃ n : Nat, b % 64 = (n : Int) := ⟨(b % 64).toNat, by omega⟩
 have hn64 : n < 64 := by omega
 refine ⟨(IntKind.u64.wrap (a - b)), true, wrap_rng _, fun w => ?_⟩
 have b0 : 0 <= b := hb.1
 have a0 : 0 <= a := ha.1
 have n0 : (n : Int) < 64 := by omega
 clear ha hb hn64
 go_enter Tryd.func63, Tryd.ntmps63
 go_wp2
 go_ret2
 exact ⟨rfl, Drawn0.refl _⟩
set_option maxHeartbeats 4000000 in
set_option maxRecDepth 20000 in
theorem do_3 (a b : Int) (ha : 0 <= a /\ a < 18446744073709551616) (hb : 0 <= b /\ b < 18446744073709551616) : DoPost 3 a b := by
 obtain ⟨n, hn⟩ : ∃ n : Nat, b % 64 = (n : Int) := ⟨(b % 64).toNat, by omega⟩
 have hn64 : n < 64 := by omega
 refine ⟨(mvI 0 a n), true, mv_rng ha, fun w => ?_⟩
 have b0 : 0 <= b := hb.1
 have a0 : 0 <= a := ha.1
 have n0 : (n : Int) < 64 := by omega
 have HM := Aside0.mk (moved_calls 0 a n w (by decide) hn64)
 clear ha hb hn64
 go_enter Tryd.func63, Tryd.ntmps63
 go_wp2_with (first | (go_at_call 70; (with_reducible refine HM.out.mono ?_); rintro e w1 ⟨rfl, rfl⟩))
 go_ret2
 exact ⟨rfl, Drawn0.refl _⟩
set_option maxHeartbeats 4000000 in
set_option maxRecDepth 20000 in
theorem do_7 (a b : Int) (ha : 0 <= a /\ a < 18446744073709551616) (hb : 0 <= b /\ b < 18446744073709551616) : DoPost 7 a b := by
 obtain ⟨n, hn⟩ : ∃ n : Nat, b % 64 = (n : Int) := ⟨(b % 64).toNat, by omega⟩
 have hn64 : n < 64 := by omega
 refine ⟨(mvI 1 a n), true, mv_rng ha, fun w => ?_⟩
 have b0 : 0 <= b := hb.1
 have a0 : 0 <= a := ha.1
 have n0 : (n : Int) < 64 := by omega
 have HM := Aside0.mk (moved_calls 1 a n w (by decide) hn64)
 clear ha hb hn64
 go_enter Tryd.func63, Tryd.ntmps63
 go_wp2_with (first | (go_at_call 70; (with_reducible refine HM.out.mono ?_); rintro e w1 ⟨rfl, rfl⟩))
 go_ret2
 exact ⟨rfl, Drawn0.refl _⟩
set_option maxHeartbeats 4000000 in
set_option maxRecDepth 20000 in
theorem do_8 (a b : Int) (ha : 0 <= a /\ a < 18446744073709551616) (hb : 0 <= b /\ b < 18446744073709551616) : DoPost 8 a b := by
 obtain ⟨n, hn⟩ : ∃ n : Nat, b % 64 = (n : Int) := ⟨(b % 64).toNat, by omega⟩
 have hn64 : n < 64 := by omega
 refine ⟨(mvI 2 a n), true, mv_rng ha, fun w => ?_⟩
 have b0 : 0 <= b := hb.1
 have a0 : 0 <= a := ha.1
 have n0 : (n : Int) < 64 := by omega
 have HM := Aside0.mk (moved_calls 2 a n w (by decide) hn64)
 clear ha hb hn64
 go_enter Tryd.func63, Tryd.ntmps63
 go_wp2_with (first | (go_at_call 70; (with_reducible refine HM.out.mono ?_); rintro e w1 ⟨rfl, rfl⟩))
 go_ret2
 exact ⟨rfl, Drawn0.refl _⟩
set_option maxHeartbeats 4000000 in
set_option maxRecDepth 20000 in
theorem do_4 (a b : Int) (ha : 0 <= a /\ a < 18446744073709551616) (hb : 0 <= b /\ b < 18446744073709551616) : DoPost 4 a b := by
 obtain ⟨n, hn⟩ : ∃ n : Nat, b % 64 = (n : Int) := ⟨(b % 64).toNat, by omega⟩
 have hn64 : n < 64 := by omega
 refine ⟨(flI (lsB a b)), true, fl_rng _, fun w => ?_⟩
 have b0 : 0 <= b := hb.1
 have a0 : 0 <= a := ha.1
 have n0 : (n : Int) < 64 := by omega
 have HL := Aside0.mk (less_calls a b w)
 have HF := Aside0.mk (flag_calls (lsB a b) w)
 clear ha hb hn64
 go_enter Tryd.func63, Tryd.ntmps63
 go_wp2_with (first | (go_at_call 72; (with_reducible refine HL.out.mono ?_); rintro e w1 ⟨rfl, rfl⟩) | (go_at_call 71; (with_reducible refine HF.out.mono ?_); rintro e w1 ⟨rfl, rfl⟩))
 go_ret2
 exact ⟨rfl, Drawn0.refl _⟩
set_option maxHeartbeats 4000000 in
set_option maxRecDepth 20000 in
theorem do_5 (a b : Int) (ha : 0 <= a /\ a < 18446744073709551616) (hb : 0 <= b /\ b < 18446744073709551616) : DoPost 5 a b := by
 obtain ⟨n, hn⟩ : ∃ n : Nat, b % 64 = (n : Int) := ⟨(b % 64).toNat, by omega⟩
 have hn64 : n < 64 := by omega
 refine ⟨(flI (decide (a < b))), true, fl_rng _, fun w => ?_⟩
 have b0 : 0 <= b := hb.1
 have a0 : 0 <= a := ha.1
 have n0 : (n : Int) < 64 := by omega
 have HF := Aside0.mk (flag_calls (decide (a < b)) w)
 clear ha hb hn64
 go_enter Tryd.func63, Tryd.ntmps63
 go_wp2_with (first | (go_at_call 71; (with_reducible refine HF.out.mono ?_); rintro e w1 ⟨rfl, rfl⟩))
 go_ret2
 exact ⟨rfl, Drawn0.refl _⟩
set_option maxHeartbeats 4000000 in
set_option maxRecDepth 20000 in
theorem do_6 (a b : Int) (ha : 0 <= a /\ a < 18446744073709551616) (hb : 0 <= b /\ b < 18446744073709551616) : DoPost 6 a b := by
 obtain ⟨n, hn⟩ : ∃ n : Nat, b % 64 = (n : Int) := ⟨(b % 64).toNat, by omega⟩
 have hn64 : n < 64 := by omega
 refine ⟨(lgI 1 a b 64), true, lgI_rng _ _ _ _, fun w => ?_⟩
 have b0 : 0 <= b := hb.1
 have a0 : 0 <= a := ha.1
 have n0 : (n : Int) < 64 := by omega
 have HG := Aside0.mk (logic_calls 1 a b w (by decide))
 clear ha hb hn64
 go_enter Tryd.func63, Tryd.ntmps63
 go_wp2_with (first | (go_at_call 73; (with_reducible refine HG.out.mono ?_); rintro e w1 ⟨rfl, rfl⟩))
 go_ret2
 exact ⟨rfl, Drawn0.refl _⟩
set_option maxHeartbeats 4000000 in
set_option maxRecDepth 20000 in
theorem do_9 (a b : Int) (ha : 0 <= a /\ a < 18446744073709551616) (hb : 0 <= b /\ b < 18446744073709551616) : DoPost 9 a b := by
 obtain ⟨n, hn⟩ : ∃ n : Nat, b % 64 = (n : Int) := ⟨(b % 64).toNat, by omega⟩
 have hn64 : n < 64 := by omega
 refine ⟨(lgI 2 a b 64), true, lgI_rng _ _ _ _, fun w => ?_⟩
 have b0 : 0 <= b := hb.1
 have a0 : 0 <= a := ha.1
 have n0 : (n : Int) < 64 := by omega
 have HG := Aside0.mk (logic_calls 2 a b w (by decide))
 clear ha hb hn64
 go_enter Tryd.func63, Tryd.ntmps63
 go_wp2_with (first | (go_at_call 73; (with_reducible refine HG.out.mono ?_); rintro e w1 ⟨rfl, rfl⟩))
 go_ret2
 exact ⟨rfl, Drawn0.refl _⟩
set_option maxHeartbeats 4000000 in
set_option maxRecDepth 20000 in
theorem do_10 (a b : Int) (ha : 0 <= a /\ a < 18446744073709551616) (hb : 0 <= b /\ b < 18446744073709551616) : DoPost 10 a b := by
 obtain ⟨n, hn⟩ : ∃ n : Nat, b % 64 = (n : Int) := ⟨(b % 64).toNat, by omega⟩
 have hn64 : n < 64 := by omega
 refine ⟨(lgI 3 a b 64), true, lgI_rng _ _ _ _, fun w => ?_⟩
 have b0 : 0 <= b := hb.1
 have a0 : 0 <= a := ha.1
 have n0 : (n : Int) < 64 := by omega
 have HG := Aside0.mk (logic_calls 3 a b w (by decide))
 clear ha hb hn64
 go_enter Tryd.func63, Tryd.ntmps63
 go_wp2_with (first | (go_at_call 73; (with_reducible refine HG.out.mono ?_); rintro e w1 ⟨rfl, rfl⟩))
 go_ret2
 exact ⟨rfl, Drawn0.refl _⟩
set_option maxHeartbeats 4000000 in
set_option maxRecDepth 20000 in
theorem do_11 (a b : Int) (ha : 0 <= a /\ a < 18446744073709551616) (hb : 0 <= b /\ b < 18446744073709551616) : DoPost 11 a b := by
 obtain ⟨n, hn⟩ : ∃ n : Nat, b % 64 = (n : Int) := ⟨(b % 64).toNat, by omega⟩
 have hn64 : n < 64 := by omega
 refine ⟨(IntKind.u64.wrap (a * b)), true, wrap_rng _, fun w => ?_⟩
 have b0 : 0 <= b := hb.1
 have a0 : 0 <= a := ha.1
 have n0 : (n : Int) < 64 := by omega
 clear ha hb hn64
 go_enter Tryd.func63, Tryd.ntmps63
 go_wp2
 go_ret2
 exact ⟨rfl, Drawn0.refl _⟩
set_option maxHeartbeats 4000000 in
set_option maxRecDepth 20000 in
theorem do_13 (a b : Int) (ha : 0 <= a /\ a < 18446744073709551616) (hb : 0 <= b /\ b < 18446744073709551616) : DoPost 13 a b := by
 obtain ⟨n, hn⟩ : ∃ n : Nat, b % 64 = (n : Int) := ⟨(b % 64).toNat, by omega⟩
 have hn64 : n < 64 := by omega
 refine ⟨(hiI a b), true, wrap_rng _, fun w => ?_⟩
 have b0 : 0 <= b := hb.1
 have a0 : 0 <= a := ha.1
 have n0 : (n : Int) < 64 := by omega
 have HH := Aside0.mk (high_calls a b w ha.1 hb.1)
 clear ha hb hn64
 go_enter Tryd.func63, Tryd.ntmps63
 go_wp2_with (first | (go_at_call 75; (with_reducible refine HH.out.mono ?_); rintro e w1 ⟨rfl, ⟨nd, rfl⟩⟩))
 go_ret2
 exact ⟨rfl, (Drawn0.refl _).step _⟩
theorem sz_rng {a : Int} (ha : 0 <= a /\ a < 18446744073709551616) : 0 <= szI a /\ szI a < 18446744073709551616 := by
 unfold szI
 split
 ·exact wrap_rng _
 ·exact ha
theorem sn_rng {a : Int} {t : Bool} (ha : 0 <= a /\ a < 18446744073709551616) : 0 <= snI a t /\ snI a t < 18446744073709551616 := by
 unfold snI
 split
 ·exact wrap_rng _
 ·exact ha
set_option maxHeartbeats 4000000 in
set_option maxRecDepth 20000 in
theorem do_12 (a b : Int) (ha : 0 <= a /\ a < 18446744073709551616) (hb : 0 <= b /\ b < 18446744073709551616) : DoPost 12 a b := by
 have HA := Aside0.mk (fun W => size_calls a W)
 have HB := Aside0.mk (fun W => size_calls b W)
 have HNA := Aside0.mk (fun W => neg_calls a W)
 have HNB := Aside0.mk (fun W => neg_calls b W)
 have HH := Aside0.mk (fun W => high_calls (szI a) (szI b) W (sz_rng ha).1 (sz_rng hb).1)
 have HR := Aside0.mk (show 0 <= hiI (szI a) (szI b) /\ hiI (szI a) (szI b) < 18446744073709551616 from wrap_rng _)
 generalize szI a = x at HA HH HR
 generalize szI b = y at HB HH HR
 generalize hiI x y = h at HH HR
 have HS := Aside0.mk (fun (t : Bool) W => sign_calls h t W)
 generalize ngB a = p at HNA
 generalize ngB b = q at HNB
 have a0 : 0 <= b := hb.1
 by_cases hz : IntKind.u64.wrap (x * y) = 0
 ·cases p <;> cases q
  ·refine ⟨snI h false, true, sn_rng HR.out, fun w => ?_⟩
   clear ha hb
   go_enter Tryd.func63, Tryd.ntmps63
   go_wp2_with (first | (go_at_call 74; (with_reducible refine (HA.out _).mono ?_); rintro e w1 ⟨rfl, rfl⟩) | (go_at_call 74; (with_reducible refine (HB.out _).mono ?_); rintro e w1 ⟨rfl, rfl⟩) | (go_at_call 75; (with_reducible refine (HH.out _).mono ?_); rintro e w1 ⟨rfl, ⟨nd, rfl⟩⟩) | (go_at_call 76; (with_reducible refine (HNA.out _).mono ?_); rintro e w1 ⟨rfl, rfl⟩) | (go_at_call 76; (with_reducible refine (HNB.out _).mono ?_); rintro e w1 ⟨rfl, rfl⟩) | (go_at_call 77; (with_reducible refine (HS.out _ _).mono ?_); rintro e w1 ⟨rfl, rfl⟩))
   go_ret2
   exact ⟨rfl, (Drawn0.refl _).step _⟩
  ·refine ⟨snI h true, true, sn_rng HR.out, fun w => ?_⟩
   clear ha hb
   go_enter Tryd.func63, Tryd.ntmps63
   go_wp2_with (first | (go_at_call 74; (with_reducible refine (HA.out _).mono ?_); rintro e w1 ⟨rfl, rfl⟩) | (go_at_call 74; (with_reducible refine (HB.out _).mono ?_); rintro e w1 ⟨rfl, rfl⟩) | (go_at_call 75; (with_reducible refine (HH.out _).mono ?_); rintro e w1 ⟨rfl, ⟨nd, rfl⟩⟩) | (go_at_call 76; (with_reducible refine (HNA.out _).mono ?_); rintro e w1 ⟨rfl, rfl⟩) | (go_at_call 76; (with_reducible refine (HNB.out _).mono ?_); rintro e w1 ⟨rfl, rfl⟩) | (go_at_call 77; (with_reducible refine (HS.out _ _).mono ?_); rintro e w1 ⟨rfl, rfl⟩))
   go_ret2
   exact ⟨rfl, (Drawn0.refl _).step _⟩
  ·refine ⟨snI h true, true, sn_rng HR.out, fun w => ?_⟩
   clear ha hb
   go_enter Tryd.func63, Tryd.ntmps63
   go_wp2_with (first | (go_at_call 74; (with_reducible refine (HA.out _).mono ?_); rintro e w1 ⟨rfl, rfl⟩) | (go_at_call 74; (with_reducible refine (HB.out _).mono ?_); rintro e w1 ⟨rfl, rfl⟩) | (go_at_call 75; (with_reducible refine (HH.out _).mono ?_); rintro e w1 ⟨rfl, ⟨nd, rfl⟩⟩) | (go_at_call 76; (with_reducible refine (HNA.out _).mono ?_); rintro e w1 ⟨rfl, rfl⟩) | (go_at_call 76; (with_reducible refine (HNB.out _).mono ?_); rintro e w1 ⟨rfl, rfl⟩) | (go_at_call 77; (with_reducible refine (HS.out _ _).mono ?_); rintro e w1 ⟨rfl, rfl⟩))
   go_ret2
   exact ⟨rfl, (Drawn0.refl _).step _⟩
  ·refine ⟨snI h false, true, sn_rng HR.out, fun w => ?_⟩
   clear ha hb
   go_enter Tryd.func63, Tryd.ntmps63
   go_wp2_with (first | (go_at_call 74; (with_reducible refine (HA.out _).mono ?_); rintro e w1 ⟨rfl, rfl⟩) | (go_at_call 74; (with_reducible refine (HB.out _).mono ?_); rintro e w1 ⟨rfl, rfl⟩) | (go_at_call 75; (with_reducible refine (HH.out _).mono ?_); rintro e w1 ⟨rfl, ⟨nd, rfl⟩⟩) | (go_at_call 76; (with_reducible refine (HNA.out _).mono ?_); rintro e w1 ⟨rfl, rfl⟩) | (go_at_call 76; (with_reducible refine (HNB.out _).mono ?_); rintro e w1 ⟨rfl, rfl⟩) | (go_at_call 77; (with_reducible refine (HS.out _ _).mono ?_); rintro e w1 ⟨rfl, rfl⟩))
   go_ret2
   exact ⟨rfl, (Drawn0.refl _).step _⟩
 ·cases p <;> cases q
  ·refine ⟨snI h false, true, sn_rng HR.out, fun w => ?_⟩
   clear ha hb
   go_enter Tryd.func63, Tryd.ntmps63
   go_wp2_with (first | (go_at_call 74; (with_reducible refine (HA.out _).mono ?_); rintro e w1 ⟨rfl, rfl⟩) | (go_at_call 74; (with_reducible refine (HB.out _).mono ?_); rintro e w1 ⟨rfl, rfl⟩) | (go_at_call 75; (with_reducible refine (HH.out _).mono ?_); rintro e w1 ⟨rfl, ⟨nd, rfl⟩⟩) | (go_at_call 76; (with_reducible refine (HNA.out _).mono ?_); rintro e w1 ⟨rfl, rfl⟩) | (go_at_call 76; (with_reducible refine (HNB.out _).mono ?_); rintro e w1 ⟨rfl, rfl⟩) | (go_at_call 77; (with_reducible refine (HS.out _ _).mono ?_); rintro e w1 ⟨rfl, rfl⟩))
   go_ret2
   exact ⟨rfl, (Drawn0.refl _).step _⟩
  ·refine ⟨IntKind.u64.wrap (IntKind.u64.wrap (-h) - 1), true, wrap_rng _, fun w => ?_⟩
   clear ha hb
   go_enter Tryd.func63, Tryd.ntmps63
   go_wp2_with (first | (go_at_call 74; (with_reducible refine (HA.out _).mono ?_); rintro e w1 ⟨rfl, rfl⟩) | (go_at_call 74; (with_reducible refine (HB.out _).mono ?_); rintro e w1 ⟨rfl, rfl⟩) | (go_at_call 75; (with_reducible refine (HH.out _).mono ?_); rintro e w1 ⟨rfl, ⟨nd, rfl⟩⟩) | (go_at_call 76; (with_reducible refine (HNA.out _).mono ?_); rintro e w1 ⟨rfl, rfl⟩) | (go_at_call 76; (with_reducible refine (HNB.out _).mono ?_); rintro e w1 ⟨rfl, rfl⟩) | (go_at_call 77; (with_reducible refine (HS.out _ _).mono ?_); rintro e w1 ⟨rfl, rfl⟩))
   go_ret2
   exact ⟨rfl, (Drawn0.refl _).step _⟩
  ·refine ⟨IntKind.u64.wrap (IntKind.u64.wrap (-h) - 1), true, wrap_rng _, fun w => ?_⟩
   clear ha hb
   go_enter Tryd.func63, Tryd.ntmps63
   go_wp2_with (first | (go_at_call 74; (with_reducible refine (HA.out _).mono ?_); rintro e w1 ⟨rfl, rfl⟩) | (go_at_call 74; (with_reducible refine (HB.out _).mono ?_); rintro e w1 ⟨rfl, rfl⟩) | (go_at_call 75; (with_reducible refine (HH.out _).mono ?_); rintro e w1 ⟨rfl, ⟨nd, rfl⟩⟩) | (go_at_call 76; (with_reducible refine (HNA.out _).mono ?_); rintro e w1 ⟨rfl, rfl⟩) | (go_at_call 76; (with_reducible refine (HNB.out _).mono ?_); rintro e w1 ⟨rfl, rfl⟩) | (go_at_call 77; (with_reducible refine (HS.out _ _).mono ?_); rintro e w1 ⟨rfl, rfl⟩))
   go_ret2
   exact ⟨rfl, (Drawn0.refl _).step _⟩
  ·refine ⟨snI h false, true, sn_rng HR.out, fun w => ?_⟩
   clear ha hb
   go_enter Tryd.func63, Tryd.ntmps63
   go_wp2_with (first | (go_at_call 74; (with_reducible refine (HA.out _).mono ?_); rintro e w1 ⟨rfl, rfl⟩) | (go_at_call 74; (with_reducible refine (HB.out _).mono ?_); rintro e w1 ⟨rfl, rfl⟩) | (go_at_call 75; (with_reducible refine (HH.out _).mono ?_); rintro e w1 ⟨rfl, ⟨nd, rfl⟩⟩) | (go_at_call 76; (with_reducible refine (HNA.out _).mono ?_); rintro e w1 ⟨rfl, rfl⟩) | (go_at_call 76; (with_reducible refine (HNB.out _).mono ?_); rintro e w1 ⟨rfl, rfl⟩) | (go_at_call 77; (with_reducible refine (HS.out _ _).mono ?_); rintro e w1 ⟨rfl, rfl⟩))
   go_ret2
   exact ⟨rfl, (Drawn0.refl _).step _⟩
def ResPost (op a b : Int) : Prop := ∃ (r : Int) (ok : Bool), (0 <= r /\ r < 18446744073709551616) /\ ∀ w, Calls Tryd.prog 78 #[.int .i64 op, .int .u64 a, .int .u64 b] w fun e w' => e = .returned (.tuple #[.int .u64 r, .bool ok]) /\ Drawn0 w w'
theorem szI_pos {b : Int} (hb : 0 <= b /\ b < 18446744073709551616) (h0 : b ≠ 0) : 0 < szI b := by
 unfold szI ngB
 split
 ·rename_i h
  have : 9223372036854775808 <= b := by simpa using h
  rw [IntKind.wrap_u64]
  omega
 ·omega
set_option maxHeartbeats 4000000 in
set_option maxRecDepth 20000 in
theorem rest_14 (a b : Int) (ha : 0 <= a /\ a < 18446744073709551616) (hb : 0 <= b /\ b < 18446744073709551616) : ResPost 14 a b := by
 by_cases h0 : b = 0
 ·subst h0
  refine ⟨IntKind.u64.wrap (0 - 1), true, wrap_rng _, fun w => ?_⟩
  clear ha hb
  go_enter Tryd.func78, Tryd.ntmps78
  go_wp2
  go_ret2
  exact ⟨rfl, Drawn0.refl _⟩
 ·have HA := Aside0.mk (fun W => size_calls a W)
  have HB := Aside0.mk (fun W => size_calls b W)
  have HNA := Aside0.mk (fun W => neg_calls a W)
  have HNB := Aside0.mk (fun W => neg_calls b W)
  have y0 : szI b ≠ 0 := by have := szI_pos hb h0; omega
  generalize szI a = x at HA
  generalize szI b = y at HB y0
  generalize ngB a = p at HNA
  generalize ngB b = q at HNB
  have HS := Aside0.mk (fun (t : Bool) W => sign_calls (IntKind.u64.wrap (x.tdiv y)) t W)
  refine ⟨snI (IntKind.u64.wrap (x.tdiv y)) (p != q), true, sn_rng (wrap_rng _), fun w => ?_⟩
  clear ha hb
  cases p <;> cases q
  all_goals
   go_enter Tryd.func78, Tryd.ntmps78
   go_wp2
   go_quiet ((first | (go_at_call 74; exact Calls.quiet_of_same ((HA.out _).mono (fun e w9 he => ⟨he.1, he.2.symm⟩))) | (go_at_call 74; exact Calls.quiet_of_same ((HB.out _).mono (fun e w9 he => ⟨he.1, he.2.symm⟩))) | (go_at_call 76; exact Calls.quiet_of_same ((HNA.out _).mono (fun e w9 he => ⟨he.1, he.2.symm⟩))) | (go_at_call 76; exact Calls.quiet_of_same ((HNB.out _).mono (fun e w9 he => ⟨he.1, he.2.symm⟩))) | (go_at_call 77; exact Calls.quiet_of_same ((HS.out _ _).mono (fun e w9 he => ⟨he.1, he.2.symm⟩)))))
   go_wp2
   go_ret2
   exact ⟨rfl, (Drawn0.refl _).step _⟩
set_option maxHeartbeats 4000000 in
set_option maxRecDepth 20000 in
theorem rest_15 (a b : Int) (ha : 0 <= a /\ a < 18446744073709551616) (hb : 0 <= b /\ b < 18446744073709551616) : ResPost 15 a b := by
 by_cases h0 : b = 0
 ·subst h0
  refine ⟨IntKind.u64.wrap (0 - 1), true, wrap_rng _, fun w => ?_⟩
  clear ha hb
  go_enter Tryd.func78, Tryd.ntmps78
  go_wp2
  go_ret2
  exact ⟨rfl, Drawn0.refl _⟩
 ·refine ⟨IntKind.u64.wrap (a.tdiv b), true, wrap_rng _, fun w => ?_⟩
  clear ha hb
  go_enter Tryd.func78, Tryd.ntmps78
  go_wp2
  go_ret2
  exact ⟨rfl, Drawn0.refl _⟩
theorem tmod_rng {a b : Int} (ha : 0 <= a /\ a < 18446744073709551616) (hb : 0 < b) : 0 <= a.tmod b /\ a.tmod b < 18446744073709551616 := by
 rw [Int.tmod_eq_emod_of_nonneg ha.1]
 refine ⟨Int.emod_nonneg _ (by omega), ?_⟩
 have h1 := Int.emod_add_mul_ediv a b
 have h2 : 0 <= b * (a / b) := Int.mul_nonneg (by omega) (Int.ediv_nonneg ha.1 (by omega))
 omega
set_option maxHeartbeats 4000000 in
set_option maxRecDepth 20000 in
theorem rest_17 (a b : Int) (ha : 0 <= a /\ a < 18446744073709551616) (hb : 0 <= b /\ b < 18446744073709551616) : ResPost 17 a b := by
 by_cases h0 : b = 0
 ·subst h0
  refine ⟨a, true, ha, fun w => ?_⟩
  clear ha hb
  go_enter Tryd.func78, Tryd.ntmps78
  go_wp2
  go_ret2
  exact ⟨rfl, Drawn0.refl _⟩
 ·refine ⟨a.tmod b, true, tmod_rng ha (by omega), fun w => ?_⟩
  clear ha hb
  go_enter Tryd.func78, Tryd.ntmps78
  go_wp2
  go_ret2
  exact ⟨rfl, Drawn0.refl _⟩
set_option maxHeartbeats 4000000 in
set_option maxRecDepth 20000 in
theorem rest_16 (a b : Int) (ha : 0 <= a /\ a < 18446744073709551616) (hb : 0 <= b /\ b < 18446744073709551616) : ResPost 16 a b := by
 by_cases h0 : b = 0
 ·subst h0
  refine ⟨a, true, ha, fun w => ?_⟩
  clear ha hb
  go_enter Tryd.func78, Tryd.ntmps78
  go_wp2
  go_ret2
  exact ⟨rfl, Drawn0.refl _⟩
 ·have HA := Aside0.mk (fun W => size_calls a W)
  have HB := Aside0.mk (fun W => size_calls b W)
  have HNA := Aside0.mk (fun W => neg_calls a W)
  have y0 : szI b ≠ 0 := by have := szI_pos hb h0; omega
  have hx := sz_rng ha
  have y1 := szI_pos hb h0
  generalize szI a = x at HA hx
  generalize szI b = y at HB y0 y1
  generalize ngB a = p at HNA
  have HS := Aside0.mk (fun (t : Bool) W => sign_calls (x.tmod y) t W)
  refine ⟨snI (x.tmod y) p, true, sn_rng (tmod_rng hx y1), fun w => ?_⟩
  clear ha hb hx y1
  go_enter Tryd.func78, Tryd.ntmps78
  go_wp2
  go_quiet ((first | (go_at_call 74; exact Calls.quiet_of_same ((HA.out _).mono (fun e w9 he => ⟨he.1, he.2.symm⟩))) | (go_at_call 74; exact Calls.quiet_of_same ((HB.out _).mono (fun e w9 he => ⟨he.1, he.2.symm⟩))) | (go_at_call 76; exact Calls.quiet_of_same ((HNA.out _).mono (fun e w9 he => ⟨he.1, he.2.symm⟩))) | (go_at_call 77; exact Calls.quiet_of_same ((HS.out _ _).mono (fun e w9 he => ⟨he.1, he.2.symm⟩)))))
  go_wp2
  go_ret2
  exact ⟨rfl, (Drawn0.refl _).step _⟩
set_option maxHeartbeats 4000000 in
set_option maxRecDepth 20000 in
theorem do_14 (a b : Int) (ha : 0 <= a /\ a < 18446744073709551616) (hb : 0 <= b /\ b < 18446744073709551616) : DoPost 14 a b := by
 obtain ⟨r, ok, hr, hc⟩ := rest_14 a b ha hb
 refine ⟨r, ok, hr, fun w => ?_⟩
 have HC := Aside0.mk (hc w)
 have b0 : 0 <= b := hb.1
 clear hr hc ha hb
 go_enter Tryd.func63, Tryd.ntmps63
 go_wp2_with (first | (go_at_call 78; (with_reducible refine HC.out.mono ?_); rintro e w1 ⟨rfl, ⟨nd, rfl⟩⟩))
 go_ret2
 exact ⟨rfl, (Drawn0.refl _).step _⟩
set_option maxHeartbeats 4000000 in
set_option maxRecDepth 20000 in
theorem do_15 (a b : Int) (ha : 0 <= a /\ a < 18446744073709551616) (hb : 0 <= b /\ b < 18446744073709551616) : DoPost 15 a b := by
 obtain ⟨r, ok, hr, hc⟩ := rest_15 a b ha hb
 refine ⟨r, ok, hr, fun w => ?_⟩
 have HC := Aside0.mk (hc w)
 have b0 : 0 <= b := hb.1
 clear hr hc ha hb
 go_enter Tryd.func63, Tryd.ntmps63
 go_wp2_with (first | (go_at_call 78; (with_reducible refine HC.out.mono ?_); rintro e w1 ⟨rfl, ⟨nd, rfl⟩⟩))
 go_ret2
 exact ⟨rfl, (Drawn0.refl _).step _⟩
set_option maxHeartbeats 4000000 in
set_option maxRecDepth 20000 in
theorem do_16 (a b : Int) (ha : 0 <= a /\ a < 18446744073709551616) (hb : 0 <= b /\ b < 18446744073709551616) : DoPost 16 a b := by
 obtain ⟨r, ok, hr, hc⟩ := rest_16 a b ha hb
 refine ⟨r, ok, hr, fun w => ?_⟩
 have HC := Aside0.mk (hc w)
 have b0 : 0 <= b := hb.1
 clear hr hc ha hb
 go_enter Tryd.func63, Tryd.ntmps63
 go_wp2_with (first | (go_at_call 78; (with_reducible refine HC.out.mono ?_); rintro e w1 ⟨rfl, ⟨nd, rfl⟩⟩))
 go_ret2
 exact ⟨rfl, (Drawn0.refl _).step _⟩
set_option maxHeartbeats 4000000 in
set_option maxRecDepth 20000 in
theorem do_17 (a b : Int) (ha : 0 <= a /\ a < 18446744073709551616) (hb : 0 <= b /\ b < 18446744073709551616) : DoPost 17 a b := by
 obtain ⟨r, ok, hr, hc⟩ := rest_17 a b ha hb
 refine ⟨r, ok, hr, fun w => ?_⟩
 have HC := Aside0.mk (hc w)
 have b0 : 0 <= b := hb.1
 clear hr hc ha hb
 go_enter Tryd.func63, Tryd.ntmps63
 go_wp2_with (first | (go_at_call 78; (with_reducible refine HC.out.mono ?_); rintro e w1 ⟨rfl, ⟨nd, rfl⟩⟩))
 go_ret2
 exact ⟨rfl, (Drawn0.refl _).step _⟩
set_option maxHeartbeats 4000000 in
theorem naru_calls (a : Int) (w : World) (h0 : 0 <= a) : Calls Tryd.prog 64 #[.int .u64 a, .int .i64 32, .bool false] w fun e w' => e = .returned (.tuple #[.int .u64 (a % 4294967296), .bool true]) /\ w = w' := by
 have HP := Aside0.mk (show Calls Tryd.prog 79 #[.int .i64 32] w _ from pow_calls 32 w (by omega))
 rw [show powW 32 = 4294967296 by decide] at HP
 go_enter Tryd.func64, Tryd.ntmps64
 go_wp2_with (first | (go_at_call 79; (with_reducible refine HP.out.mono ?_); rintro e w1 ⟨rfl, rfl⟩))
 go_ret2
 exact ⟨rfl, rfl⟩
def ResB (op a b : Int) : Prop := ∃ (r : Int) (ok : Bool), (0 <= r /\ r < 18446744073709551616) /\ ∀ w, Calls Tryd.prog 78 #[.int .i64 op, .int .u64 a, .int .u64 b] w fun e w' => e = .returned (.tuple #[.int .u64 r, .bool ok]) /\ Below w.heap.size w w'
def DoB (op a b : Int) : Prop := ∃ (r : Int) (ok : Bool), (0 <= r /\ r < 18446744073709551616) /\ ∀ w, Calls Tryd.prog 63 #[.int .i64 op, .int .u64 a, .int .u64 b] w fun e w' => e = .returned (.tuple #[.int .u64 r, .bool ok]) /\ Below w.heap.size w w'
theorem DoPost.b {op a b : Int} (h : DoPost op a b) : DoB op a b := by
 obtain ⟨r, ok, hr, hc⟩ := h
 exact ⟨r, ok, hr, fun w => (hc w).mono (fun e w' he => ⟨he.1, he.2.below⟩)⟩
theorem mod_rng {b m : Int} (hm : 0 < m) (h2 : m <= 4294967296) : 0 <= b % m /\ b % m < 18446744073709551616 := ⟨Int.emod_nonneg _ (by omega), by have := Int.emod_lt_of_pos b hm; omega⟩
set_option maxHeartbeats 4000000 in
set_option maxRecDepth 20000 in
theorem rest_18 (a b : Int) (ha : 0 <= a /\ a < 18446744073709551616) (hb : 0 <= b /\ b < 18446744073709551616) : ResB 18 a b := by
 obtain ⟨z, ok, hz, hc⟩ := do_1 (narI a 32) (narI b 32) (nar_rng ha.1 ha.2) (nar_rng hb.1 hb.2)
 refine ⟨narI z 32, true, nar_rng hz.1 hz.2, fun w => ?_⟩
 have HX := Aside0.mk (fun W => (show Calls Tryd.prog 64 #[.int .u64 a, .int .i64 32, .bool true] W _ from nar_calls a 32 W ha.1 (.inr (.inl rfl))))
 have HY := Aside0.mk (fun W => (show Calls Tryd.prog 64 #[.int .u64 b, .int .i64 32, .bool true] W _ from nar_calls b 32 W hb.1 (.inr (.inl rfl))))
 have HZ := Aside0.mk (fun W => (show Calls Tryd.prog 64 #[.int .u64 z, .int .i64 32, .bool true] W _ from nar_calls z 32 W hz.1 (.inr (.inl rfl))))
 have HC := Aside0.mk hc
 have b0 : 0 <= b := hb.1
 clear hz hc ha hb
 generalize narI a 32 = x at HX HC
 generalize narI b 32 = y at HY HC
 generalize narI z 32 = r at HZ ⊢
 go_enter Tryd.func78, Tryd.ntmps78
 go_wp2_with (first | (go_at_call 64; (with_reducible refine (HX.out _).mono ?_); rintro e w1 ⟨rfl, rfl⟩) | (go_at_call 64; (with_reducible refine (HY.out _).mono ?_); rintro e w1 ⟨rfl, rfl⟩) | (go_at_call 64; (with_reducible refine (HZ.out _).mono ?_); rintro e w1 ⟨rfl, rfl⟩) | (go_at_call 63; (with_reducible refine (HC.out _).mono ?_); rintro e w1 ⟨rfl, ⟨nd, rfl⟩⟩))
 go_ret2
 exact ⟨rfl, pw_below_drewN ((Below.refl _ _).alloc (Nat.le_refl _) _) _⟩
set_option maxHeartbeats 4000000 in
set_option maxRecDepth 20000 in
theorem do_18 (a b : Int) (ha : 0 <= a /\ a < 18446744073709551616) (hb : 0 <= b /\ b < 18446744073709551616) : DoB 18 a b := by
 obtain ⟨r, ok, hr, hc⟩ := rest_18 a b ha hb
 refine ⟨r, ok, hr, fun w => ?_⟩
 have HC := Aside0.mk (hc w)
 have b0 : 0 <= b := hb.1
 clear hr hc ha hb
 go_enter Tryd.func63, Tryd.ntmps63
 go_wp2_with (first | (go_at_call 78; (with_reducible refine HC.out.mono ?_); rintro e w1 ⟨rfl, hb1⟩))
 go_ret2
 exact ⟨rfl, hb1⟩
set_option maxHeartbeats 4000000 in
set_option maxRecDepth 20000 in
theorem rest_19 (a b : Int) (ha : 0 <= a /\ a < 18446744073709551616) (hb : 0 <= b /\ b < 18446744073709551616) : ResB 19 a b := by
 obtain ⟨z, ok, hz, hc⟩ := do_2 (narI a 32) (narI b 32) (nar_rng ha.1 ha.2) (nar_rng hb.1 hb.2)
 refine ⟨narI z 32, true, nar_rng hz.1 hz.2, fun w => ?_⟩
 have HX := Aside0.mk (fun W => (show Calls Tryd.prog 64 #[.int .u64 a, .int .i64 32, .bool true] W _ from nar_calls a 32 W ha.1 (.inr (.inl rfl))))
 have HY := Aside0.mk (fun W => (show Calls Tryd.prog 64 #[.int .u64 b, .int .i64 32, .bool true] W _ from nar_calls b 32 W hb.1 (.inr (.inl rfl))))
 have HZ := Aside0.mk (fun W => (show Calls Tryd.prog 64 #[.int .u64 z, .int .i64 32, .bool true] W _ from nar_calls z 32 W hz.1 (.inr (.inl rfl))))
 have HC := Aside0.mk hc
 have b0 : 0 <= b := hb.1
 clear hz hc ha hb
 generalize narI a 32 = x at HX HC
 generalize narI b 32 = y at HY HC
 generalize narI z 32 = r at HZ ⊢
 go_enter Tryd.func78, Tryd.ntmps78
 go_wp2_with (first | (go_at_call 64; (with_reducible refine (HX.out _).mono ?_); rintro e w1 ⟨rfl, rfl⟩) | (go_at_call 64; (with_reducible refine (HY.out _).mono ?_); rintro e w1 ⟨rfl, rfl⟩) | (go_at_call 64; (with_reducible refine (HZ.out _).mono ?_); rintro e w1 ⟨rfl, rfl⟩) | (go_at_call 63; (with_reducible refine (HC.out _).mono ?_); rintro e w1 ⟨rfl, ⟨nd, rfl⟩⟩))
 go_ret2
 exact ⟨rfl, pw_below_drewN ((Below.refl _ _).alloc (Nat.le_refl _) _) _⟩
set_option maxHeartbeats 4000000 in
set_option maxRecDepth 20000 in
theorem do_19 (a b : Int) (ha : 0 <= a /\ a < 18446744073709551616) (hb : 0 <= b /\ b < 18446744073709551616) : DoB 19 a b := by
 obtain ⟨r, ok, hr, hc⟩ := rest_19 a b ha hb
 refine ⟨r, ok, hr, fun w => ?_⟩
 have HC := Aside0.mk (hc w)
 have b0 : 0 <= b := hb.1
 clear hr hc ha hb
 go_enter Tryd.func63, Tryd.ntmps63
 go_wp2_with (first | (go_at_call 78; (with_reducible refine HC.out.mono ?_); rintro e w1 ⟨rfl, hb1⟩))
 go_ret2
 exact ⟨rfl, hb1⟩
set_option maxHeartbeats 4000000 in
set_option maxRecDepth 20000 in
theorem rest_20 (a b : Int) (ha : 0 <= a /\ a < 18446744073709551616) (hb : 0 <= b /\ b < 18446744073709551616) : ResB 20 a b := by
 obtain ⟨z, ok, hz, hc⟩ := do_3 (narI a 32) (b % 32) (nar_rng ha.1 ha.2) (mod_rng (by decide) (by decide))
 refine ⟨narI z 32, true, nar_rng hz.1 hz.2, fun w => ?_⟩
 have HX := Aside0.mk (fun W => (show Calls Tryd.prog 64 #[.int .u64 a, .int .i64 32, .bool true] W _ from nar_calls a 32 W ha.1 (.inr (.inl rfl))))
 have HY := Aside0.mk (fun W => (show Calls Tryd.prog 64 #[.int .u64 b, .int .i64 32, .bool true] W _ from nar_calls b 32 W hb.1 (.inr (.inl rfl))))
 have HZ := Aside0.mk (fun W => (show Calls Tryd.prog 64 #[.int .u64 z, .int .i64 32, .bool true] W _ from nar_calls z 32 W hz.1 (.inr (.inl rfl))))
 have HC := Aside0.mk hc
 have b0 : 0 <= b := hb.1
 clear hz hc ha hb
 generalize narI a 32 = x at HX HC
 generalize narI z 32 = r at HZ ⊢
 go_enter Tryd.func78, Tryd.ntmps78
 go_wp2_with (first | (go_at_call 64; (with_reducible refine (HX.out _).mono ?_); rintro e w1 ⟨rfl, rfl⟩) | (go_at_call 64; (with_reducible refine (HY.out _).mono ?_); rintro e w1 ⟨rfl, rfl⟩) | (go_at_call 64; (with_reducible refine (HZ.out _).mono ?_); rintro e w1 ⟨rfl, rfl⟩) | (go_at_call 63; (with_reducible refine (HC.out _).mono ?_); rintro e w1 ⟨rfl, ⟨nd, rfl⟩⟩))
 go_ret2
 exact ⟨rfl, pw_below_drewN ((Below.refl _ _).alloc (Nat.le_refl _) _) _⟩
set_option maxHeartbeats 4000000 in
set_option maxRecDepth 20000 in
theorem do_20 (a b : Int) (ha : 0 <= a /\ a < 18446744073709551616) (hb : 0 <= b /\ b < 18446744073709551616) : DoB 20 a b := by
 obtain ⟨r, ok, hr, hc⟩ := rest_20 a b ha hb
 refine ⟨r, ok, hr, fun w => ?_⟩
 have HC := Aside0.mk (hc w)
 have b0 : 0 <= b := hb.1
 clear hr hc ha hb
 go_enter Tryd.func63, Tryd.ntmps63
 go_wp2_with (first | (go_at_call 78; (with_reducible refine HC.out.mono ?_); rintro e w1 ⟨rfl, hb1⟩))
 go_ret2
 exact ⟨rfl, hb1⟩
set_option maxHeartbeats 4000000 in
set_option maxRecDepth 20000 in
theorem rest_21 (a b : Int) (ha : 0 <= a /\ a < 18446744073709551616) (hb : 0 <= b /\ b < 18446744073709551616) : ResB 21 a b := by
 obtain ⟨z, ok, hz, hc⟩ := do_7 (a % 4294967296) (b % 32) (mod_rng (by decide) (by decide)) (mod_rng (by decide) (by decide))
 refine ⟨narI z 32, true, nar_rng hz.1 hz.2, fun w => ?_⟩
 have HX := Aside0.mk (fun W => (show Calls Tryd.prog 64 #[.int .u64 a, .int .i64 32, .bool false] W _ from naru_calls a W ha.1))
 have HY := Aside0.mk (fun W => (show Calls Tryd.prog 64 #[.int .u64 b, .int .i64 32, .bool false] W _ from naru_calls b W hb.1))
 have HZ := Aside0.mk (fun W => (show Calls Tryd.prog 64 #[.int .u64 z, .int .i64 32, .bool true] W _ from nar_calls z 32 W hz.1 (.inr (.inl rfl))))
 have HC := Aside0.mk hc
 have b0 : 0 <= b := hb.1
 clear hz hc ha hb
 generalize narI z 32 = r at HZ ⊢
 go_enter Tryd.func78, Tryd.ntmps78
 go_wp2_with (first | (go_at_call 64; (with_reducible refine (HX.out _).mono ?_); rintro e w1 ⟨rfl, rfl⟩) | (go_at_call 64; (with_reducible refine (HY.out _).mono ?_); rintro e w1 ⟨rfl, rfl⟩) | (go_at_call 64; (with_reducible refine (HZ.out _).mono ?_); rintro e w1 ⟨rfl, rfl⟩) | (go_at_call 63; (with_reducible refine (HC.out _).mono ?_); rintro e w1 ⟨rfl, ⟨nd, rfl⟩⟩))
 go_ret2
 exact ⟨rfl, pw_below_drewN ((Below.refl _ _).alloc (Nat.le_refl _) _) _⟩
set_option maxHeartbeats 4000000 in
set_option maxRecDepth 20000 in
theorem do_21 (a b : Int) (ha : 0 <= a /\ a < 18446744073709551616) (hb : 0 <= b /\ b < 18446744073709551616) : DoB 21 a b := by
 obtain ⟨r, ok, hr, hc⟩ := rest_21 a b ha hb
 refine ⟨r, ok, hr, fun w => ?_⟩
 have HC := Aside0.mk (hc w)
 have b0 : 0 <= b := hb.1
 clear hr hc ha hb
 go_enter Tryd.func63, Tryd.ntmps63
 go_wp2_with (first | (go_at_call 78; (with_reducible refine HC.out.mono ?_); rintro e w1 ⟨rfl, hb1⟩))
 go_ret2
 exact ⟨rfl, hb1⟩
set_option maxHeartbeats 4000000 in
set_option maxRecDepth 20000 in
theorem rest_22 (a b : Int) (ha : 0 <= a /\ a < 18446744073709551616) (hb : 0 <= b /\ b < 18446744073709551616) : ResB 22 a b := by
 obtain ⟨z, ok, hz, hc⟩ := do_8 (narI a 32) (b % 32) (nar_rng ha.1 ha.2) (mod_rng (by decide) (by decide))
 refine ⟨narI z 32, true, nar_rng hz.1 hz.2, fun w => ?_⟩
 have HX := Aside0.mk (fun W => (show Calls Tryd.prog 64 #[.int .u64 a, .int .i64 32, .bool true] W _ from nar_calls a 32 W ha.1 (.inr (.inl rfl))))
 have HY := Aside0.mk (fun W => (show Calls Tryd.prog 64 #[.int .u64 b, .int .i64 32, .bool true] W _ from nar_calls b 32 W hb.1 (.inr (.inl rfl))))
 have HZ := Aside0.mk (fun W => (show Calls Tryd.prog 64 #[.int .u64 z, .int .i64 32, .bool true] W _ from nar_calls z 32 W hz.1 (.inr (.inl rfl))))
 have HC := Aside0.mk hc
 have b0 : 0 <= b := hb.1
 clear hz hc ha hb
 generalize narI a 32 = x at HX HC
 generalize narI z 32 = r at HZ ⊢
 go_enter Tryd.func78, Tryd.ntmps78
 go_wp2_with (first | (go_at_call 64; (with_reducible refine (HX.out _).mono ?_); rintro e w1 ⟨rfl, rfl⟩) | (go_at_call 64; (with_reducible refine (HY.out _).mono ?_); rintro e w1 ⟨rfl, rfl⟩) | (go_at_call 64; (with_reducible refine (HZ.out _).mono ?_); rintro e w1 ⟨rfl, rfl⟩) | (go_at_call 63; (with_reducible refine (HC.out _).mono ?_); rintro e w1 ⟨rfl, ⟨nd, rfl⟩⟩))
 go_ret2
 exact ⟨rfl, pw_below_drewN ((Below.refl _ _).alloc (Nat.le_refl _) _) _⟩
set_option maxHeartbeats 4000000 in
set_option maxRecDepth 20000 in
theorem do_22 (a b : Int) (ha : 0 <= a /\ a < 18446744073709551616) (hb : 0 <= b /\ b < 18446744073709551616) : DoB 22 a b := by
 obtain ⟨r, ok, hr, hc⟩ := rest_22 a b ha hb
 refine ⟨r, ok, hr, fun w => ?_⟩
 have HC := Aside0.mk (hc w)
 have b0 : 0 <= b := hb.1
 clear hr hc ha hb
 go_enter Tryd.func63, Tryd.ntmps63
 go_wp2_with (first | (go_at_call 78; (with_reducible refine HC.out.mono ?_); rintro e w1 ⟨rfl, hb1⟩))
 go_ret2
 exact ⟨rfl, hb1⟩
set_option maxHeartbeats 4000000 in
set_option maxRecDepth 20000 in
theorem rest_23 (a b : Int) (ha : 0 <= a /\ a < 18446744073709551616) (hb : 0 <= b /\ b < 18446744073709551616) : ResB 23 a b := by
 obtain ⟨z, ok, hz, hc⟩ := do_11 (narI a 32) (narI b 32) (nar_rng ha.1 ha.2) (nar_rng hb.1 hb.2)
 refine ⟨narI z 32, true, nar_rng hz.1 hz.2, fun w => ?_⟩
 have HX := Aside0.mk (fun W => (show Calls Tryd.prog 64 #[.int .u64 a, .int .i64 32, .bool true] W _ from nar_calls a 32 W ha.1 (.inr (.inl rfl))))
 have HY := Aside0.mk (fun W => (show Calls Tryd.prog 64 #[.int .u64 b, .int .i64 32, .bool true] W _ from nar_calls b 32 W hb.1 (.inr (.inl rfl))))
 have HZ := Aside0.mk (fun W => (show Calls Tryd.prog 64 #[.int .u64 z, .int .i64 32, .bool true] W _ from nar_calls z 32 W hz.1 (.inr (.inl rfl))))
 have HC := Aside0.mk hc
 have b0 : 0 <= b := hb.1
 clear hz hc ha hb
 generalize narI a 32 = x at HX HC
 generalize narI b 32 = y at HY HC
 generalize narI z 32 = r at HZ ⊢
 go_enter Tryd.func78, Tryd.ntmps78
 go_wp2_with (first | (go_at_call 64; (with_reducible refine (HX.out _).mono ?_); rintro e w1 ⟨rfl, rfl⟩) | (go_at_call 64; (with_reducible refine (HY.out _).mono ?_); rintro e w1 ⟨rfl, rfl⟩) | (go_at_call 64; (with_reducible refine (HZ.out _).mono ?_); rintro e w1 ⟨rfl, rfl⟩) | (go_at_call 63; (with_reducible refine (HC.out _).mono ?_); rintro e w1 ⟨rfl, ⟨nd, rfl⟩⟩))
 go_ret2
 exact ⟨rfl, pw_below_drewN ((Below.refl _ _).alloc (Nat.le_refl _) _) _⟩
set_option maxHeartbeats 4000000 in
set_option maxRecDepth 20000 in
theorem do_23 (a b : Int) (ha : 0 <= a /\ a < 18446744073709551616) (hb : 0 <= b /\ b < 18446744073709551616) : DoB 23 a b := by
 obtain ⟨r, ok, hr, hc⟩ := rest_23 a b ha hb
 refine ⟨r, ok, hr, fun w => ?_⟩
 have HC := Aside0.mk (hc w)
 have b0 : 0 <= b := hb.1
 clear hr hc ha hb
 go_enter Tryd.func63, Tryd.ntmps63
 go_wp2_with (first | (go_at_call 78; (with_reducible refine HC.out.mono ?_); rintro e w1 ⟨rfl, hb1⟩))
 go_ret2
 exact ⟨rfl, hb1⟩
set_option maxHeartbeats 4000000 in
set_option maxRecDepth 20000 in
theorem rest_24 (a b : Int) (ha : 0 <= a /\ a < 18446744073709551616) (hb : 0 <= b /\ b < 18446744073709551616) : ResB 24 a b := by
 obtain ⟨z, ok, hz, hc⟩ := do_14 (narI a 32) (narI b 32) (nar_rng ha.1 ha.2) (nar_rng hb.1 hb.2)
 refine ⟨narI z 32, true, nar_rng hz.1 hz.2, fun w => ?_⟩
 have HX := Aside0.mk (fun W => (show Calls Tryd.prog 64 #[.int .u64 a, .int .i64 32, .bool true] W _ from nar_calls a 32 W ha.1 (.inr (.inl rfl))))
 have HY := Aside0.mk (fun W => (show Calls Tryd.prog 64 #[.int .u64 b, .int .i64 32, .bool true] W _ from nar_calls b 32 W hb.1 (.inr (.inl rfl))))
 have HZ := Aside0.mk (fun W => (show Calls Tryd.prog 64 #[.int .u64 z, .int .i64 32, .bool true] W _ from nar_calls z 32 W hz.1 (.inr (.inl rfl))))
 have HC := Aside0.mk hc
 have b0 : 0 <= b := hb.1
 clear hz hc ha hb
 generalize narI a 32 = x at HX HC
 generalize narI b 32 = y at HY HC
 generalize narI z 32 = r at HZ ⊢
 go_enter Tryd.func78, Tryd.ntmps78
 go_wp2_with (first | (go_at_call 64; (with_reducible refine (HX.out _).mono ?_); rintro e w1 ⟨rfl, rfl⟩) | (go_at_call 64; (with_reducible refine (HY.out _).mono ?_); rintro e w1 ⟨rfl, rfl⟩) | (go_at_call 64; (with_reducible refine (HZ.out _).mono ?_); rintro e w1 ⟨rfl, rfl⟩) | (go_at_call 63; (with_reducible refine (HC.out _).mono ?_); rintro e w1 ⟨rfl, ⟨nd, rfl⟩⟩))
 go_ret2
 exact ⟨rfl, pw_below_drewN ((Below.refl _ _).alloc (Nat.le_refl _) _) _⟩
set_option maxHeartbeats 4000000 in
set_option maxRecDepth 20000 in
theorem do_24 (a b : Int) (ha : 0 <= a /\ a < 18446744073709551616) (hb : 0 <= b /\ b < 18446744073709551616) : DoB 24 a b := by
 obtain ⟨r, ok, hr, hc⟩ := rest_24 a b ha hb
 refine ⟨r, ok, hr, fun w => ?_⟩
 have HC := Aside0.mk (hc w)
 have b0 : 0 <= b := hb.1
 clear hr hc ha hb
 go_enter Tryd.func63, Tryd.ntmps63
 go_wp2_with (first | (go_at_call 78; (with_reducible refine HC.out.mono ?_); rintro e w1 ⟨rfl, hb1⟩))
 go_ret2
 exact ⟨rfl, hb1⟩
set_option maxHeartbeats 4000000 in
set_option maxRecDepth 20000 in
theorem rest_25 (a b : Int) (ha : 0 <= a /\ a < 18446744073709551616) (hb : 0 <= b /\ b < 18446744073709551616) : ResB 25 a b := by
 obtain ⟨z, ok, hz, hc⟩ := do_15 (a % 4294967296) (b % 4294967296) (mod_rng (by decide) (by decide)) (mod_rng (by decide) (by decide))
 refine ⟨narI z 32, true, nar_rng hz.1 hz.2, fun w => ?_⟩
 have HX := Aside0.mk (fun W => (show Calls Tryd.prog 64 #[.int .u64 a, .int .i64 32, .bool false] W _ from naru_calls a W ha.1))
 have HY := Aside0.mk (fun W => (show Calls Tryd.prog 64 #[.int .u64 b, .int .i64 32, .bool false] W _ from naru_calls b W hb.1))
 have HZ := Aside0.mk (fun W => (show Calls Tryd.prog 64 #[.int .u64 z, .int .i64 32, .bool true] W _ from nar_calls z 32 W hz.1 (.inr (.inl rfl))))
 have HC := Aside0.mk hc
 have b0 : 0 <= b := hb.1
 clear hz hc ha hb
 generalize narI z 32 = r at HZ ⊢
 go_enter Tryd.func78, Tryd.ntmps78
 go_wp2_with (first | (go_at_call 64; (with_reducible refine (HX.out _).mono ?_); rintro e w1 ⟨rfl, rfl⟩) | (go_at_call 64; (with_reducible refine (HY.out _).mono ?_); rintro e w1 ⟨rfl, rfl⟩) | (go_at_call 64; (with_reducible refine (HZ.out _).mono ?_); rintro e w1 ⟨rfl, rfl⟩) | (go_at_call 63; (with_reducible refine (HC.out _).mono ?_); rintro e w1 ⟨rfl, ⟨nd, rfl⟩⟩))
 go_ret2
 exact ⟨rfl, pw_below_drewN ((Below.refl _ _).alloc (Nat.le_refl _) _) _⟩
set_option maxHeartbeats 4000000 in
set_option maxRecDepth 20000 in
theorem do_25 (a b : Int) (ha : 0 <= a /\ a < 18446744073709551616) (hb : 0 <= b /\ b < 18446744073709551616) : DoB 25 a b := by
 obtain ⟨r, ok, hr, hc⟩ := rest_25 a b ha hb
 refine ⟨r, ok, hr, fun w => ?_⟩
 have HC := Aside0.mk (hc w)
 have b0 : 0 <= b := hb.1
 clear hr hc ha hb
 go_enter Tryd.func63, Tryd.ntmps63
 go_wp2_with (first | (go_at_call 78; (with_reducible refine HC.out.mono ?_); rintro e w1 ⟨rfl, hb1⟩))
 go_ret2
 exact ⟨rfl, hb1⟩
set_option maxHeartbeats 4000000 in
set_option maxRecDepth 20000 in
theorem rest_26 (a b : Int) (ha : 0 <= a /\ a < 18446744073709551616) (hb : 0 <= b /\ b < 18446744073709551616) : ResB 26 a b := by
 obtain ⟨z, ok, hz, hc⟩ := do_16 (narI a 32) (narI b 32) (nar_rng ha.1 ha.2) (nar_rng hb.1 hb.2)
 refine ⟨narI z 32, true, nar_rng hz.1 hz.2, fun w => ?_⟩
 have HX := Aside0.mk (fun W => (show Calls Tryd.prog 64 #[.int .u64 a, .int .i64 32, .bool true] W _ from nar_calls a 32 W ha.1 (.inr (.inl rfl))))
 have HY := Aside0.mk (fun W => (show Calls Tryd.prog 64 #[.int .u64 b, .int .i64 32, .bool true] W _ from nar_calls b 32 W hb.1 (.inr (.inl rfl))))
 have HZ := Aside0.mk (fun W => (show Calls Tryd.prog 64 #[.int .u64 z, .int .i64 32, .bool true] W _ from nar_calls z 32 W hz.1 (.inr (.inl rfl))))
 have HC := Aside0.mk hc
 have b0 : 0 <= b := hb.1
 clear hz hc ha hb
 generalize narI a 32 = x at HX HC
 generalize narI b 32 = y at HY HC
 generalize narI z 32 = r at HZ ⊢
 go_enter Tryd.func78, Tryd.ntmps78
 go_wp2_with (first | (go_at_call 64; (with_reducible refine (HX.out _).mono ?_); rintro e w1 ⟨rfl, rfl⟩) | (go_at_call 64; (with_reducible refine (HY.out _).mono ?_); rintro e w1 ⟨rfl, rfl⟩) | (go_at_call 64; (with_reducible refine (HZ.out _).mono ?_); rintro e w1 ⟨rfl, rfl⟩) | (go_at_call 63; (with_reducible refine (HC.out _).mono ?_); rintro e w1 ⟨rfl, ⟨nd, rfl⟩⟩))
 go_ret2
 exact ⟨rfl, pw_below_drewN ((Below.refl _ _).alloc (Nat.le_refl _) _) _⟩
set_option maxHeartbeats 4000000 in
set_option maxRecDepth 20000 in
theorem do_26 (a b : Int) (ha : 0 <= a /\ a < 18446744073709551616) (hb : 0 <= b /\ b < 18446744073709551616) : DoB 26 a b := by
 obtain ⟨r, ok, hr, hc⟩ := rest_26 a b ha hb
 refine ⟨r, ok, hr, fun w => ?_⟩
 have HC := Aside0.mk (hc w)
 have b0 : 0 <= b := hb.1
 clear hr hc ha hb
 go_enter Tryd.func63, Tryd.ntmps63
 go_wp2_with (first | (go_at_call 78; (with_reducible refine HC.out.mono ?_); rintro e w1 ⟨rfl, hb1⟩))
 go_ret2
 exact ⟨rfl, hb1⟩
set_option maxHeartbeats 4000000 in
set_option maxRecDepth 20000 in
theorem rest_27 (a b : Int) (ha : 0 <= a /\ a < 18446744073709551616) (hb : 0 <= b /\ b < 18446744073709551616) : ResB 27 a b := by
 obtain ⟨z, ok, hz, hc⟩ := do_17 (a % 4294967296) (b % 4294967296) (mod_rng (by decide) (by decide)) (mod_rng (by decide) (by decide))
 refine ⟨narI z 32, true, nar_rng hz.1 hz.2, fun w => ?_⟩
 have HX := Aside0.mk (fun W => (show Calls Tryd.prog 64 #[.int .u64 a, .int .i64 32, .bool false] W _ from naru_calls a W ha.1))
 have HY := Aside0.mk (fun W => (show Calls Tryd.prog 64 #[.int .u64 b, .int .i64 32, .bool false] W _ from naru_calls b W hb.1))
 have HZ := Aside0.mk (fun W => (show Calls Tryd.prog 64 #[.int .u64 z, .int .i64 32, .bool true] W _ from nar_calls z 32 W hz.1 (.inr (.inl rfl))))
 have HC := Aside0.mk hc
 have b0 : 0 <= b := hb.1
 clear hz hc ha hb
 generalize narI z 32 = r at HZ ⊢
 go_enter Tryd.func78, Tryd.ntmps78
 go_wp2_with (first | (go_at_call 64; (with_reducible refine (HX.out _).mono ?_); rintro e w1 ⟨rfl, rfl⟩) | (go_at_call 64; (with_reducible refine (HY.out _).mono ?_); rintro e w1 ⟨rfl, rfl⟩) | (go_at_call 64; (with_reducible refine (HZ.out _).mono ?_); rintro e w1 ⟨rfl, rfl⟩) | (go_at_call 63; (with_reducible refine (HC.out _).mono ?_); rintro e w1 ⟨rfl, ⟨nd, rfl⟩⟩))
 go_ret2
 exact ⟨rfl, pw_below_drewN ((Below.refl _ _).alloc (Nat.le_refl _) _) _⟩
set_option maxHeartbeats 4000000 in
set_option maxRecDepth 20000 in
theorem do_27 (a b : Int) (ha : 0 <= a /\ a < 18446744073709551616) (hb : 0 <= b /\ b < 18446744073709551616) : DoB 27 a b := by
 obtain ⟨r, ok, hr, hc⟩ := rest_27 a b ha hb
 refine ⟨r, ok, hr, fun w => ?_⟩
 have HC := Aside0.mk (hc w)
 have b0 : 0 <= b := hb.1
 clear hr hc ha hb
 go_enter Tryd.func63, Tryd.ntmps63
 go_wp2_with (first | (go_at_call 78; (with_reducible refine HC.out.mono ?_); rintro e w1 ⟨rfl, hb1⟩))
 go_ret2
 exact ⟨rfl, hb1⟩
theorem do_all (op a b : Int) (h0 : 1 <= op) (h1 : op <= 27) (ha : 0 <= a /\ a < 18446744073709551616) (hb : 0 <= b /\ b < 18446744073709551616) : DoB op a b := by
 have h : op = 1 ∨ op = 2 ∨ op = 3 ∨ op = 4 ∨ op = 5 ∨ op = 6 ∨ op = 7 ∨ op = 8 ∨ op = 9 ∨ op = 10 ∨ op = 11 ∨ op = 12 ∨ op = 13 ∨ op = 14 ∨ op = 15 ∨ op = 16 ∨ op = 17 ∨ op = 18 ∨ op = 19 ∨ op = 20 ∨ op = 21 ∨ op = 22 ∨ op = 23 ∨ op = 24 ∨ op = 25 ∨ op = 26 ∨ op = 27 := by omega
 rcases h with rfl | rfl | rfl | rfl | rfl | rfl | rfl | rfl | rfl | rfl | rfl | rfl | rfl | rfl | rfl | rfl | rfl | rfl | rfl | rfl | rfl | rfl | rfl | rfl | rfl | rfl | rfl
 ·exact (do_1 a b ha hb).b
 ·exact (do_2 a b ha hb).b
 ·exact (do_3 a b ha hb).b
 ·exact (do_4 a b ha hb).b
 ·exact (do_5 a b ha hb).b
 ·exact (do_6 a b ha hb).b
 ·exact (do_7 a b ha hb).b
 ·exact (do_8 a b ha hb).b
 ·exact (do_9 a b ha hb).b
 ·exact (do_10 a b ha hb).b
 ·exact (do_11 a b ha hb).b
 ·exact (do_12 a b ha hb).b
 ·exact (do_13 a b ha hb).b
 ·exact (do_14 a b ha hb).b
 ·exact (do_15 a b ha hb).b
 ·exact (do_16 a b ha hb).b
 ·exact (do_17 a b ha hb).b
 ·exact do_18 a b ha hb
 ·exact do_19 a b ha hb
 ·exact do_20 a b ha hb
 ·exact do_21 a b ha hb
 ·exact do_22 a b ha hb
 ·exact do_23 a b ha hb
 ·exact do_24 a b ha hb
 ·exact do_25 a b ha hb
 ·exact do_26 a b ha hb
 ·exact do_27 a b ha hb
end Go.Proofs.YtjfleaekljapeaaDoor.K
namespace Go.Proofs.YtjfleaekljapeaaDoor.K
open Go.RowKit Go.Proofs.YtjfleaekljapeaaDoorW.PrintWords Go.Proofs.YtjfleaekljapeaaDoorW.PrintLast Go.Proofs.YtjfleaekljapeaaDoorW.PrintMore
attribute [local go_sem] max2_int min2_int max_two min_two max_three min_three max_four min_four   -- for this text's walks alone
set_option linter.unusedVariables false
set_option linter.unusedSimpArgs false
end Go.Proofs.YtjfleaekljapeaaDoor.K
