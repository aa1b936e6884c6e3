import Derived.Test.YtjfleaekljapeaaDoorXAN
import Derived.Test.YtjfleaekljapeaaDoorXAF
import Derived.Deep.DeepMust
import Derived.Test.YtjfleaekljapeaaDoorProg
import Derived.Below
import Derived.Deep.Draws
import Derived.Deep.AppendLies
import Derived.Maps.AppendAt
import Derived.OwnWalk
import Derived.Laws.BytesArg
import Derived.Laws.MakeOwn
import Derived.Laws.OwnMore
import Derived.Deep.OwnRows
import Derived.Tactics
import Derived.Lib.ConvBytes
import Derived.Laws.Slices
import Derived.WalkKit
import Derived.KernelRfl
import Derived.RowKit3
import Derived.Deep.LoopGhost
import Derived.Deep.QuietTactic
import Derived.BigQuiet
import Derived.WideLaws
import Derived.Deep.DeepCutAuto
import Derived.Deep.CutBlock
import Derived.Deep.RegionHeld3
import Derived.Deep.MidRow
import Derived.Laws.Rows
import Derived.Lib.AppendStr
import Derived.ArgAppend
import Derived.Laws.IdiomCopy
import Derived.OrdersHeld
import Derived.Laws.BitsLemmas
import Derived.Laws.BitsAllLaws
import Derived.RowKit
import Derived.RegionTactic
import Derived.Deep.RegionWith
import Derived.Lib.Hide
import Derived.Test.YtjfleaekljapeaaDoorXAA
import Derived.Test.YtjfleaekljapeaaDoorXAB
import Derived.Test.YtjfleaekljapeaaDoorXAC
import Derived.Deep.RegionLaw
import Derived.Laws.CopyOwn
import Derived.Shelf.Spec.TrailingZeros
namespace Go.Proofs.YtjfleaekljapeaaDoor.K
open Go.RowKit Go.Proofs.YtjfleaekljapeaaDoorW.PrintWords Go.Proofs.YtjfleaekljapeaaDoorW.PrintLast Go.Proofs.YtjfleaekljapeaaDoorW.PrintMore
attribute [local go_sem] max2_int min2_int max_two min_two max_three min_three max_four min_four   -- for this text's walks alone
set_option linter.unusedVariables false
set_option linter.unusedSimpArgs false
set_option linter.unusedSectionVars false
section
def regB (u : Bool) (nk : Nat) (r : Int) : Bool := if u then thB nk r else r == 0
def lenB (want : Int) (n : Nat) : Bool := decide (want < 0) || ((n : Int) == want)
def nameB (i : S44) : Bool := (i.f0 == 30 || i.f0 == 42) == !(i.f6.toList.isEmpty)
def toB (nc : Nat) (i : S44) : Bool := !(decide (i.f9 < 0)) && (!(decide ((nc : Int) <= i.f9)) && (i.f0 == 18 || (i.f0 == 19 || i.f9 == 0)))
def sizeB (i : S44) : Bool := if i.f0 = 4 ∨ i.f0 = 35 ∨ i.f0 = 36 then i.f5 == 1 || (i.f5 == 4 || i.f5 == 8) else if i.f0 = 34 then !(decide (i.f5 < 1)) && !(decide (4194304 < i.f5)) else i.f5 == 0
def nB (ns : Nat) (i : S44) : Bool := if i.f0 = 1 then true else if i.f0 = 3 then decide (1 <= i.f4) && decide (i.f4 <= 27) else if i.f0 = 31 ∨ i.f0 = 39 then decide (i.f4 < IntKind.u64.wrap (ns : Int)) else i.f4 == 0
def insB (nk ns nc : Nat) (i : S44) : Bool :=
 isB i.f0 && (regB (us0 i.f0) nk i.f1 && (regB (us1 i.f0) nk i.f2 && (regB (us2 i.f0) nk i.f3 && (lenB (liA i.f0) i.f7.length && (lenB (liO i.f0) i.f8.length && (allB nk i.f7 false && (allB nk i.f8 true && (nameB i && (toB nc i && (sizeB i && nB ns i))))))))))
def inR (R0 R1 R2 T : Bool) : Nat -> Bool
 | 0 => R0 && (R1 && (R2 && T))
 | 1 => R1 && (R2 && T)
 | 2 => R2 && T
 | _ => T
theorem in_round {W : World} {g5 g6 : Nat} {b0 b1 b2 : Bool} {f1 f2 f3 : Int} (nk : Nat) (T : Bool) (h5 : W.heap[g5]? = some (.cells #[.bool b0, .bool b1, .bool b2] 84 (0, 0))) (h6 : W.heap[g6]? = some (.cells #[.int .i64 f1, .int .i64 f2, .int .i64 f3] 126 (0, 0))) (k : Nat) (hk : k < 3) :
  ∃ (u : Bool) (r : Int), W.cell? ⟨g5, k, none⟩ = some (.bool u) /\ W.cell? ⟨g6, k, none⟩ = some (.int .i64 r) /\ inR (regB b0 nk f1) (regB b1 nk f2) (regB b2 nk f3) T k = (regB u nk r && inR (regB b0 nk f1) (regB b1 nk f2) (regB b2 nk f3) T (k + 1)) := by
 have : k = 0 ∨ k = 1 ∨ k = 2 := by omega
 rcases this with rfl | rfl | rfl
 ·exact ⟨b0, f1, (blk_cell h5 0).trans rfl, (blk_cell h6 0).trans rfl, rfl⟩
 ·exact ⟨b1, f2, (blk_cell h5 1).trans rfl, (blk_cell h6 1).trans rfl, rfl⟩
 ·exact ⟨b2, f3, (blk_cell h5 2).trans rfl, (blk_cell h6 2).trans rfl, rfl⟩
structure InSt (w0 w : World) (gf gi : Nat) (fc ic : Array Value) : Prop where
 hf : w.heap[gf]? = some (.cells fc 25 (0, 0))
 hi : w.heap[gi]? = some (.cells ic 44 (0, 0))
 below : Below w0.heap.size w0 w
theorem InSt.step {w0 w w' : World} {gf gi : Nat} {fc ic : Array Value} (h : InSt w0 w gf gi fc ic) (hb : Below w.heap.size w w') : InSt w0 w' gf gi fc ic := ⟨blk_below h.hf hb, blk_below h.hi hb, below_step h.below hb⟩
theorem in_start (w : World) (fc ic : Array Value) : InSt w ((w.alloc (.cells fc 25)).alloc (.cells ic 44)) w.heap.size (w.heap.size + 1) fc ic := by
 have h1 : InSt w (w.alloc (.cells fc 25)) w.heap.size (w.heap.size + 1) fc ic -> True := fun _ => trivial
 refine ⟨lv_al (heap_alloc_new w _) _, two_new w _ _, ((Below.refl _ _).alloc (Nat.le_refl _) _).alloc (by simp) _⟩
section
variable (nm : ByteArray) (A1 : Option Addr) (c1 : Nat) (l1 : List Int) (A2 : Option Addr) (c2 : Nat) (l2 : List Int) (A3 : Option Addr) (c3 : Nat) (l3 : List Int) (A4 : Option Addr) (c4 : Nat) (code : List S44)
structure FnC (w : World) : Prop where
 h1 : Kd.C (Kd.int .i64) w A1 l1.length l1
 g1 : l1.length <= c1
 h2 : Kd.C (Kd.int .i64) w A2 l2.length l2
 g2 : l2.length <= c2
 h3 : Kd.C (Kd.int .i64) w A3 l3.length l3
 g3 : l3.length <= c3
 h4 : Kd.C k44 w A4 code.length code
 g4 : code.length <= c4
variable {nm A1 c1 l1 A2 c2 l2 A3 c3 l3 A4 c4 code}
theorem FnC.below {w w' : World} (h : FnC A1 c1 l1 A2 c2 l2 A3 c3 l3 A4 c4 code w) (hb : Below w.heap.size w w') : FnC A1 c1 l1 A2 c2 l2 A3 c3 l3 A4 c4 code w' :=
 ⟨Kd.C_below h.h1 hb, h.g1, Kd.C_below h.h2 hb, h.g2, Kd.C_below h.h3 hb, h.g3, Kd.C_below h.h4 hb, h.g4⟩
theorem there_calls {w : World} (h : FnC A1 c1 l1 A2 c2 l2 A3 c3 l3 A4 c4 code w) (r : Int) : Calls Tryd.prog 60 #[.agg #[.string nm, .slice A1 l1.length c1, .slice A2 l2.length c2, .slice A3 l3.length c3, .slice A4 code.length c4], .int .i64 r] w fun e w' => e = .returned (.bool (thB l2.length r)) /\ Below w.heap.size w w' :=
 hauberkref12_there.calls nm A1 c1 l1 A2 c2 l2 A3 c3 l3 A4 c4 code r _ w h.h1 h.g1 h.h2 h.g2 h.h3 h.g3 h.h4 h.g4 (there_f _ _ _ _ _ _)
theorem allb_calls {w : World} (h : FnC A1 c1 l1 A2 c2 l2 A3 c3 l3 A4 c4 code w) (A : Option Addr) (c : Nat) (l : List Int) (once : Bool) (hl : Kd.C (Kd.int .i64) w A l.length l) (hc : l.length <= c) : Calls Tryd.prog 50 #[.agg #[.string nm, .slice A1 l1.length c1, .slice A2 l2.length c2, .slice A3 l3.length c3, .slice A4 code.length c4], .slice A l.length c, .bool once] w fun e w' => e = .returned (.bool (allB l2.length l once)) /\ Below w.heap.size w w' := by
 obtain ⟨k, hk⟩ := (all_is nm l1 l2 l3 code l hl.2.1 once).rounds
 exact hauberkref12_all.calls k nm A1 c1 l1 A2 c2 l2 A3 c3 l3 A4 c4 code A c l once _ w h.h1 h.g1 h.h2 h.g2 h.h3 h.g3 h.h4 h.g4 hl hc hk
set_option maxHeartbeats 8000000 in
set_option maxRecDepth 100000 in
theorem ins_calls (i : S44) (A7 : Option Addr) (c7 : Nat) (A8 : Option Addr) (c8 : Nat) (w : World) (hf : FnC A1 c1 l1 A2 c2 l2 A3 c3 l3 A4 c4 code w) (hr7 : Kd.C (Kd.int .i64) w A7 i.f7.length i.f7) (hc7 : i.f7.length <= c7) (hr8 : Kd.C (Kd.int .i64) w A8 i.f8.length i.f8) (hc8 : i.f8.length <= c8) :
  Calls Tryd.prog 51 #[.agg #[.string nm, .slice A1 l1.length c1, .slice A2 l2.length c2, .slice A3 l3.length c3, .slice A4 code.length c4], .agg (i44 i A7 c7 A8 c8)] w fun e w' => e = .returned (.bool (insB l2.length l3.length code.length i)) /\ Below w.heap.size w w' := by
 have hu25 := Tryd.underlying25
 have hu44 := Tryd.underlying44
 have hu84 := Tryd.underlying84
 have hu126 := Tryd.underlying126
 have HF := Aside0.mk hf
 have HR7 := Aside0.mk hr7
 have HC7 := Aside0.mk hc7
 have HR8 := Aside0.mk hr8
 have HC8 := Aside0.mk hc8
 obtain ⟨f0, f1, f2, f3, f4, f5, f6, l7, l8, f9⟩ := i
 unfold i44
 dsimp only at HR7 HC7 HR8 HC8 ⊢
 have HV := Aside0.mk (show insB l2.length l3.length code.length ⟨f0, f1, f2, f3, f4, f5, f6, l7, l8, f9⟩ = (isB f0 && (regB (us0 f0) l2.length f1 && (regB (us1 f0) l2.length f2 && (regB (us2 f0) l2.length f3 && (lenB (liA f0) l7.length && (lenB (liO f0) l8.length && (allB l2.length l7 false && (allB l2.length l8 true && (nameB ⟨f0, f1, f2, f3, f4, f5, f6, l7, l8, f9⟩ && (toB code.length ⟨f0, f1, f2, f3, f4, f5, f6, l7, l8, f9⟩ && (sizeB ⟨f0, f1, f2, f3, f4, f5, f6, l7, l8, f9⟩ && nB l3.length ⟨f0, f1, f2, f3, f4, f5, f6, l7, l8, f9⟩))))))))))) from rfl)
 generalize insB l2.length l3.length code.length ⟨f0, f1, f2, f3, f4, f5, f6, l7, l8, f9⟩ = res at HV
 have HI := Aside0.mk (fun w => hauberkref12_Is.calls f0 _ w (is_f f0))
 have HU := Aside0.mk (uses_calls f0)
 have HL := Aside0.mk (fun w => hauberkref12_Lists.calls 1 f0 _ _ w (lists_f f0))
 have HS := Aside0.mk (in_start w #[.string nm, .slice A1 l1.length c1, .slice A2 l2.length c2, .slice A3 l3.length c3, .slice A4 code.length c4] #[.int .i64 f0, .int .i64 f1, .int .i64 f2, .int .i64 f3, .int .u64 f4, .int .i64 f5, .string f6, .slice A7 l7.length c7, .slice A8 l8.length c8, .int .i64 f9])
 unfold UsPost at HU
 generalize isB f0 = bI at HI HV
 clear hf hr7 hc7 hr8 hc8
 cases bI with
 | false =>
  go_enter Tryd.func51, Tryd.ntmps51
  go_wp2_with (first | (go_at_call 61; (with_reducible refine (HI.out _).mono ?_); rintro e w3 ⟨rfl, hd⟩; have HD := Aside0.mk hd; clear hd))
  go_ret
  exact ⟨by have h := HV.out; rw [Bool.false_and] at h; subst h; rfl, below_step HS.out.below HD.out.below⟩
 | true =>
  have HV1 := Aside0.mk HV.out
  clear HV
  rw [Bool.true_and] at HV1
  go_enter Tryd.func51, Tryd.ntmps51
  go_upto_region 3 with (first | (go_at_call 61; (with_reducible refine (HI.out _).mono ?_); rintro e w3 ⟨rfl, hd⟩; have n0_ := Aside0.mk (HS.out.step hd.below); clear hd HS HI; have HS := n0_; clear n0_))
  have y0 : w3.cell? ⟨w.heap.size + 1, 0, none⟩ = some (.int .i64 f0) := (blk_cell HS.out.hi 0).trans rfl
  go_upto_region 4 with (first | (go_at_call 35; (with_reducible refine (HU.out _).mono ?_); rintro e w5 ⟨rfl, hb⟩; have n0_ := Aside0.mk (HS.out.step hb); clear hb HS HU; have HS := n0_; clear n0_))
  clear y0
  have n0_ := Aside0.mk (HS.out.step (us_new w5 #[.bool (us0 f0), .bool (us1 f0), .bool (us2 f0)] 84))
  clear HS
  have HS := n0_
  clear n0_
  generalize us0 f0 = b0 at HS HV1
  generalize us1 f0 = b1 at HS HV1
  generalize us2 f0 = b2 at HS HV1
  have H5 := Aside0.mk (heap_alloc_new w5 (.cells #[.bool b0, .bool b1, .bool b2] 84))
  generalize w5.alloc (.cells #[.bool b0, .bool b1, .bool b2] 84) = w6 at HS H5 ⊢
  generalize w5.heap.size = g5 at H5 ⊢
  have y1 : w6.cell? ⟨w.heap.size + 1, 1, none⟩ = some (.int .i64 f1) := (blk_cell HS.out.hi 1).trans rfl
  have y2 : w6.cell? ⟨w.heap.size + 1, 2, none⟩ = some (.int .i64 f2) := (blk_cell HS.out.hi 2).trans rfl
  have y3 : w6.cell? ⟨w.heap.size + 1, 3, none⟩ = some (.int .i64 f3) := (blk_cell HS.out.hi 3).trans rfl
  go_upto_region 5 with (fail)
  have n0_ := Aside0.mk (HS.out.step (us_new w6 #[.int .i64 f1, .int .i64 f2, .int .i64 f3] 126))
  have n1_ := Aside0.mk (lv_al H5.out (.cells #[.int .i64 f1, .int .i64 f2, .int .i64 f3] 126))
  have H6 := Aside0.mk (heap_alloc_new w6 (.cells #[.int .i64 f1, .int .i64 f2, .int .i64 f3] 126))
  clear HS H5 y1 y2 y3
  have HS := n0_
  have H5 := n1_
  clear n0_ n1_
  generalize w6.alloc (.cells #[.int .i64 f1, .int .i64 f2, .int .i64 f3] 126) = w7 at HS H5 H6 ⊢
  generalize w6.heap.size = g6 at H6 ⊢
  obtain ⟨T, hT⟩ : ∃ T, (lenB (liA f0) l7.length && (lenB (liO f0) l8.length && (allB l2.length l7 false && (allB l2.length l8 true && (nameB ⟨f0, f1, f2, f3, f4, f5, f6, l7, l8, f9⟩ && (toB code.length ⟨f0, f1, f2, f3, f4, f5, f6, l7, l8, f9⟩ && (sizeB ⟨f0, f1, f2, f3, f4, f5, f6, l7, l8, f9⟩ && nB l3.length ⟨f0, f1, f2, f3, f4, f5, f6, l7, l8, f9⟩))))))) = T := ⟨_, rfl⟩
  rw [hT] at HV1
  have HT := Aside0.mk hT
  clear hT
  have HV2 := Aside0.mk (show res = inR (regB b0 l2.length f1) (regB b1 l2.length f2) (regB b2 l2.length f3) T 0 from HV1.out)
  clear HV1
  go_wp2
  go_loopg [24] 3 (fun gg v24 w' => ∃ (k : Nat), k <= 3 /\ 3 - k <= gg /\ v24 = .int .i64 k /\ Aside0 (res = inR (regB b0 l2.length f1) (regB b1 l2.length f2) (regB b2 l2.length f3) T k) /\ Aside0 (InSt w w' w.heap.size (w.heap.size + 1) #[.string nm, .slice A1 l1.length c1, .slice A2 l2.length c2, .slice A3 l3.length c3, .slice A4 code.length c4] #[.int .i64 f0, .int .i64 f1, .int .i64 f2, .int .i64 f3, .int .u64 f4, .int .i64 f5, .string f6, .slice A7 l7.length c7, .slice A8 l8.length c8, .int .i64 f9]) /\ Aside0 (w'.heap[g5]? = some (.cells #[.bool b0, .bool b1, .bool b2] 84 (0, 0))) /\ Aside0 (w'.heap[g6]? = some (.cells #[.int .i64 f1, .int .i64 f2, .int .i64 f3] 126 (0, 0))))
  case atStart => exact ⟨0, by omega, by omega, rfl, HV2, HS, H5, H6⟩
  case round =>
   clear HS H5 H6 HV2
   obtain ⟨k, hk, hg, rfl, HV2, HS, H5, H6⟩ := hrel
   by_cases hlt : k < 3
   ·obtain ⟨u, r, x5, x6, hin⟩ := in_round l2.length T H5.out H6.out k hlt
    have HV3 := Aside0.mk (HV2.out.trans hin)
    have HTH := Aside0.mk (fun W (hb : Below w.heap.size w W) => there_calls (nm := nm) (HF.out.below hb) r)
    clear HV2 hin
    have p0 : (0 : Int) <= (k : Int) := by omega
    have q0 : (k : Int) < 3 := by omega
    cases u with
    | false =>
     cases hr : (r == 0) with
     | true =>
      have HV4 := Aside0.mk (show res = inR (regB b0 l2.length f1) (regB b1 l2.length f2) (regB b2 l2.length f3) T (k + 1) by have h := HV3.out; unfold regB at h ⊢; simpa [hr] using h)
      have hr2 : r = 0 := by simpa using hr
      subst hr2
      clear hr HV3
      go_wp2
      go_quiet (fail)
      go_wp2
      have hdw := pw_below_drewN (Below.refl wr.heap.size wr)
      go_roundg (3 - (k + 1))
      case measure => omega
      case rel => exact ⟨k + 1, by omega, Nat.le_refl _, by go_num, HV4, ⟨HS.out.step (hdw _)⟩, ⟨blk_below H5.out (hdw _)⟩, ⟨blk_below H6.out (hdw _)⟩⟩
     | false =>
      have HV4 := Aside0.mk (show res = false by have h := HV3.out; unfold regB at h; simpa [hr] using h)
      have hr2 : ¬ (r = 0) := by simpa using hr
      clear HV3
      go_wp2
      go_quiet (fail)
      go_wp2
      go_ret
      have hdw := pw_below_drewN (Below.refl wr.heap.size wr)
      exact ⟨by have h := HV4.out; subst h; rfl, (HS.out.step (hdw _)).below⟩
    | true =>
     have z0 : wr.cell? ⟨w.heap.size, 0, none⟩ = some (.string nm) := (blk_cell HS.out.hf 0).trans rfl
     have z1 : wr.cell? ⟨w.heap.size, 1, none⟩ = some (.slice A1 l1.length c1) := (blk_cell HS.out.hf 1).trans rfl
     have z2 : wr.cell? ⟨w.heap.size, 2, none⟩ = some (.slice A2 l2.length c2) := (blk_cell HS.out.hf 2).trans rfl
     have z3 : wr.cell? ⟨w.heap.size, 3, none⟩ = some (.slice A3 l3.length c3) := (blk_cell HS.out.hf 3).trans rfl
     have z4 : wr.cell? ⟨w.heap.size, 4, none⟩ = some (.slice A4 code.length c4) := (blk_cell HS.out.hf 4).trans rfl
     cases ht : thB l2.length r with
     | true =>
      have HV4 := Aside0.mk (show res = inR (regB b0 l2.length f1) (regB b1 l2.length f2) (regB b2 l2.length f3) T (k + 1) by have h := HV3.out; unfold regB at h ⊢; simpa [ht] using h)
      rw [ht] at HTH
      clear HV3 ht
      have HB := Aside0.mk HS.out.below
      have HN := Aside0.mk (Below.refl wr.heap.size wr)
      go_wp2
      first | go_region_with (first | (go_at_call 60; (with_reducible refine (HTH.out _ ?hb60).mono ?_); (case hb60 => (repeat (first | (with_reducible first | exact HB.out | apply below_alloc | apply pw_below_drewN | apply below_drew1) | exact HB.out))); rintro e w8 ⟨rfl, hb⟩; have x5w8 := pw_cell_below hb x5; have x6w8 := pw_cell_below hb x6; have z0w8 := pw_cell_below hb z0; have z1w8 := pw_cell_below hb z1; have z2w8 := pw_cell_below hb z2; have z3w8 := pw_cell_below hb z3; have z4w8 := pw_cell_below hb z4; have HN8 := Aside0.mk (show Below wr.heap.size wr w8 from below_step (by (repeat (first | (with_reducible first | exact HN.out | apply below_alloc | apply pw_below_drewN | apply below_drew1) | exact HN.out))) hb); clear hb)) | fail
      all_goals
       go_wp2
       go_roundg (3 - (k + 1))
       case measure => omega
       case rel => exact ⟨k + 1, by omega, Nat.le_refl _, by go_num, HV4, ⟨HS.out.step HN8.out⟩, ⟨blk_below H5.out HN8.out⟩, ⟨blk_below H6.out HN8.out⟩⟩
     | false =>
      have HV4 := Aside0.mk (show res = false by have h := HV3.out; unfold regB at h; simpa [ht] using h)
      rw [ht] at HTH
      clear HV3 ht
      have HB := Aside0.mk HS.out.below
      have HN := Aside0.mk (Below.refl wr.heap.size wr)
      go_wp2
      have hundef : undef = Value.tuple #[] := rfl
      first | go_region_with (first | (go_at_call 60; (with_reducible refine (HTH.out _ ?hb60).mono ?_); (case hb60 => (repeat (first | (with_reducible first | exact HB.out | apply below_alloc | apply pw_below_drewN | apply below_drew1) | exact HB.out))); rintro e w8 ⟨rfl, hb⟩; have x5w8 := pw_cell_below hb x5; have x6w8 := pw_cell_below hb x6; have z0w8 := pw_cell_below hb z0; have z1w8 := pw_cell_below hb z1; have z2w8 := pw_cell_below hb z2; have z3w8 := pw_cell_below hb z3; have z4w8 := pw_cell_below hb z4; have HN8 := Aside0.mk (show Below wr.heap.size wr w8 from below_step (by (repeat (first | (with_reducible first | exact HN.out | apply below_alloc | apply pw_below_drewN | apply below_drew1) | exact HN.out))) hb); clear hb)) | fail
      all_goals
       go_wp2
       go_ret
       exact ⟨by have h := HV4.out; subst h; rfl, below_step HB.out HN8.out⟩
   ·obtain rfl : k = 3 := by omega
    have HV := Aside0.mk (HV2.out.trans HT.out.symm)
    clear HV2 hlt hk hg HT H5 H6
    generalize liA f0 = la at HL HV
    generalize liO f0 = lo at HL HV
    have y0 : wr.cell? ⟨w.heap.size + 1, 0, none⟩ = some (.int .i64 f0) := (blk_cell HS.out.hi 0).trans rfl
    go_upto_region 12 with (first | (go_at_call 62; (with_reducible refine (HL.out _).mono ?_); rintro e w9 ⟨rfl, hd⟩; have n0_ := Aside0.mk (HS.out.step hd.below); clear hd HS HL; have HS := n0_; clear n0_))
    clear y0
    have HA7 := Aside0.mk (fun W (hb : Below w.heap.size w W) => allb_calls (nm := nm) (HF.out.below hb) A7 c7 l7 false (Kd.C_below HR7.out hb) HC7.out)
    have HA8 := Aside0.mk (fun W (hb : Below w.heap.size w W) => allb_calls (nm := nm) (HF.out.below hb) A8 c8 l8 true (Kd.C_below HR8.out hb) HC8.out)
    generalize allB l2.length l7 false = b7 at HA7 HV
    generalize allB l2.length l8 true = b8 at HA8 HV
    have PA : (¬ 0 <= la /\ Aside0 (lenB la l7.length = true)) ∨ (0 <= la /\ ((l7.length : Int) != la) = false /\ Aside0 (lenB la l7.length = true)) ∨ (0 <= la /\ ((l7.length : Int) != la) = true /\ Aside0 (lenB la l7.length = false)) := by
     unfold lenB
     by_cases h0 : 0 <= la
     ·by_cases h1 : (l7.length : Int) = la
      ·exact .inr (.inl ⟨h0, by simpa using h1, ⟨by simp [h1]⟩⟩)
      ·exact .inr (.inr ⟨h0, by simpa using h1, ⟨by simp [h1]; omega⟩⟩)
     ·exact .inl ⟨h0, ⟨by simp; omega⟩⟩
    have PO : (¬ 0 <= lo /\ Aside0 (lenB lo l8.length = true)) ∨ (0 <= lo /\ ((l8.length : Int) != lo) = false /\ Aside0 (lenB lo l8.length = true)) ∨ (0 <= lo /\ ((l8.length : Int) != lo) = true /\ Aside0 (lenB lo l8.length = false)) := by
     unfold lenB
     by_cases h0 : 0 <= lo
     ·by_cases h1 : (l8.length : Int) = lo
      ·exact .inr (.inl ⟨h0, by simpa using h1, ⟨by simp [h1]⟩⟩)
      ·exact .inr (.inr ⟨h0, by simpa using h1, ⟨by simp [h1]; omega⟩⟩)
     ·exact .inl ⟨h0, ⟨by simp; omega⟩⟩
    go_cut [90] (fun v90 wc => ∃ c : Bool, v90 = .bool c /\ Aside0 (c = !(lenB la l7.length && (lenB lo l8.length && (b7 && b8)))) /\ Aside0 (InSt w wc w.heap.size (w.heap.size + 1) #[.string nm, .slice A1 l1.length c1, .slice A2 l2.length c2, .slice A3 l3.length c3, .slice A4 code.length c4] #[.int .i64 f0, .int .i64 f1, .int .i64 f2, .int .i64 f3, .int .u64 f4, .int .i64 f5, .string f6, .slice A7 l7.length c7, .slice A8 l8.length c8, .int .i64 f9]))
    case first =>
     clear HV HF HR7 HR8
     have z0 := (blk_cell HS.out.hf 0).trans (show _ = some (Value.string nm) from rfl)
     have z1 := (blk_cell HS.out.hf 1).trans (show _ = some (Value.slice A1 l1.length c1) from rfl)
     have z2 := (blk_cell HS.out.hf 2).trans (show _ = some (Value.slice A2 l2.length c2) from rfl)
     have z3 := (blk_cell HS.out.hf 3).trans (show _ = some (Value.slice A3 l3.length c3) from rfl)
     have z4 := (blk_cell HS.out.hf 4).trans (show _ = some (Value.slice A4 code.length c4) from rfl)
     have y7 := (blk_cell HS.out.hi 7).trans (show _ = some (Value.slice A7 l7.length c7) from rfl)
     have y8 := (blk_cell HS.out.hi 8).trans (show _ = some (Value.slice A8 l8.length c8) from rfl)
--BEGIN12
     rcases PA with ⟨a0, LA⟩ | ⟨a0, a1, LA⟩ | ⟨a0, a1, LA⟩
     rotate_right
     ·as_aux_lemma =>
       go_wp2
       go_meet
       case rel => exact ⟨_, rfl, ⟨by rw [LA.out]; rfl⟩, HS⟩
     all_goals
      rcases PO with ⟨o0, LO⟩ | ⟨o0, o1, LO⟩ | ⟨o0, o1, LO⟩
      rotate_right
      ·as_aux_lemma =>
        go_wp2
        go_meet
        case rel => exact ⟨_, rfl, ⟨by rw [LA.out, LO.out]; rfl⟩, HS⟩
      all_goals
       cases b7
       ·as_aux_lemma =>
         go_wp2_with (first | (go_at_call 50; first | ((with_reducible refine (HA7.out _ HS.out.below).mono ?_); rintro e w10 ⟨rfl, hb⟩; have n0_ := Aside0.mk (HS.out.step hb); clear hb HS HA7; have HS := n0_; clear n0_; have z0 := (blk_cell HS.out.hf 0).trans (show _ = some (Value.string nm) from rfl); have z1 := (blk_cell HS.out.hf 1).trans (show _ = some (Value.slice A1 l1.length c1) from rfl); have z2 := (blk_cell HS.out.hf 2).trans (show _ = some (Value.slice A2 l2.length c2) from rfl); have z3 := (blk_cell HS.out.hf 3).trans (show _ = some (Value.slice A3 l3.length c3) from rfl); have z4 := (blk_cell HS.out.hf 4).trans (show _ = some (Value.slice A4 code.length c4) from rfl); have y7 := (blk_cell HS.out.hi 7).trans (show _ = some (Value.slice A7 l7.length c7) from rfl); have y8 := (blk_cell HS.out.hi 8).trans (show _ = some (Value.slice A8 l8.length c8) from rfl)) | ((with_reducible refine (HA8.out _ HS.out.below).mono ?_); rintro e w11 ⟨rfl, hb⟩; have n0_ := Aside0.mk (HS.out.step hb); clear hb HS HA8; have HS := n0_; clear n0_; have z0 := (blk_cell HS.out.hf 0).trans (show _ = some (Value.string nm) from rfl); have z1 := (blk_cell HS.out.hf 1).trans (show _ = some (Value.slice A1 l1.length c1) from rfl); have z2 := (blk_cell HS.out.hf 2).trans (show _ = some (Value.slice A2 l2.length c2) from rfl); have z3 := (blk_cell HS.out.hf 3).trans (show _ = some (Value.slice A3 l3.length c3) from rfl); have z4 := (blk_cell HS.out.hf 4).trans (show _ = some (Value.slice A4 code.length c4) from rfl); have y7 := (blk_cell HS.out.hi 7).trans (show _ = some (Value.slice A7 l7.length c7) from rfl); have y8 := (blk_cell HS.out.hi 8).trans (show _ = some (Value.slice A8 l8.length c8) from rfl))))
         go_meet
         case rel => exact ⟨_, rfl, ⟨by rw [LA.out, LO.out]; rfl⟩, HS⟩
       ·cases b8
        all_goals
         as_aux_lemma =>
          go_wp2_with (first | (go_at_call 50; first | ((with_reducible refine (HA7.out _ HS.out.below).mono ?_); rintro e w10 ⟨rfl, hb⟩; have n0_ := Aside0.mk (HS.out.step hb); clear hb HS HA7; have HS := n0_; clear n0_; have z0 := (blk_cell HS.out.hf 0).trans (show _ = some (Value.string nm) from rfl); have z1 := (blk_cell HS.out.hf 1).trans (show _ = some (Value.slice A1 l1.length c1) from rfl); have z2 := (blk_cell HS.out.hf 2).trans (show _ = some (Value.slice A2 l2.length c2) from rfl); have z3 := (blk_cell HS.out.hf 3).trans (show _ = some (Value.slice A3 l3.length c3) from rfl); have z4 := (blk_cell HS.out.hf 4).trans (show _ = some (Value.slice A4 code.length c4) from rfl); have y7 := (blk_cell HS.out.hi 7).trans (show _ = some (Value.slice A7 l7.length c7) from rfl); have y8 := (blk_cell HS.out.hi 8).trans (show _ = some (Value.slice A8 l8.length c8) from rfl)) | ((with_reducible refine (HA8.out _ HS.out.below).mono ?_); rintro e w11 ⟨rfl, hb⟩; have n0_ := Aside0.mk (HS.out.step hb); clear hb HS HA8; have HS := n0_; clear n0_; have z0 := (blk_cell HS.out.hf 0).trans (show _ = some (Value.string nm) from rfl); have z1 := (blk_cell HS.out.hf 1).trans (show _ = some (Value.slice A1 l1.length c1) from rfl); have z2 := (blk_cell HS.out.hf 2).trans (show _ = some (Value.slice A2 l2.length c2) from rfl); have z3 := (blk_cell HS.out.hf 3).trans (show _ = some (Value.slice A3 l3.length c3) from rfl); have z4 := (blk_cell HS.out.hf 4).trans (show _ = some (Value.slice A4 code.length c4) from rfl); have y7 := (blk_cell HS.out.hi 7).trans (show _ = some (Value.slice A7 l7.length c7) from rfl); have y8 := (blk_cell HS.out.hi 8).trans (show _ = some (Value.slice A8 l8.length c8) from rfl))))
          go_meet
          case rel => exact ⟨_, rfl, ⟨by rw [LA.out, LO.out]; rfl⟩, HS⟩
--END12
    case rest =>
     clear PA PO HS HA7 HA8
     obtain ⟨c, rfl, HCC, HS⟩ := hcut
     have HVV := Aside0.mk (show (c = true -> res = false) /\ (c = false -> res = (nameB ⟨f0, f1, f2, f3, f4, f5, f6, l7, l8, f9⟩ && (toB code.length ⟨f0, f1, f2, f3, f4, f5, f6, l7, l8, f9⟩ && (sizeB ⟨f0, f1, f2, f3, f4, f5, f6, l7, l8, f9⟩ && nB l3.length ⟨f0, f1, f2, f3, f4, f5, f6, l7, l8, f9⟩)))) by
      have h1 := HV.out
      have h2 := HCC.out
      revert h1 h2
      generalize lenB la l7.length = q1
      generalize lenB lo l8.length = q2
      cases q1 <;> cases q2 <;> cases b7 <;> cases b8 <;> rintro rfl rfl <;> simp)
     clear HCC HV
     cases c with
     | true =>
      go_wp2
      go_ret
      exact ⟨by have h := HVV.out.1 (by simp); subst h; rfl, HS.out.below⟩
     | false =>
      have HV := Aside0.mk (HVV.out.2 rfl)
      clear HVV
      go_upto_region 14 with (fail)
      have y0 := (blk_cell HS.out.hi 0).trans (show _ = some (Value.int .i64 f0) from rfl)
      have y6 := (blk_cell HS.out.hi 6).trans (show _ = some (Value.string f6) from rfl)
      go_cut [102] (fun v102 wc => ∃ c : Bool, v102 = .bool c /\ Aside0 (c = !(nameB ⟨f0, f1, f2, f3, f4, f5, f6, l7, l8, f9⟩)) /\ Aside0 (InSt w wc w.heap.size (w.heap.size + 1) #[.string nm, .slice A1 l1.length c1, .slice A2 l2.length c2, .slice A3 l3.length c3, .slice A4 code.length c4] #[.int .i64 f0, .int .i64 f1, .int .i64 f2, .int .i64 f3, .int .u64 f4, .int .i64 f5, .string f6, .slice A7 l7.length c7, .slice A8 l8.length c8, .int .i64 f9]))
      case first =>
       clear HV
       cases h30 : (f0 == 30) <;> cases h42 : (f0 == 42)
       all_goals
        go_wp2
        all_goals
         go_meet
         case rel => exact ⟨_, rfl, ⟨by simp [nameB, *]⟩, HS⟩
      case rest =>
       clear HS y0 y6
       obtain ⟨c, rfl, HCC, HS⟩ := hcut
       have HVV := Aside0.mk (show (c = true -> res = false) /\ (c = false -> res = ((toB code.length ⟨f0, f1, f2, f3, f4, f5, f6, l7, l8, f9⟩ && (sizeB ⟨f0, f1, f2, f3, f4, f5, f6, l7, l8, f9⟩ && nB l3.length ⟨f0, f1, f2, f3, f4, f5, f6, l7, l8, f9⟩)))) by
        have h1 := HV.out
        have h2 := HCC.out
        revert h1 h2
        generalize nameB _ = q1
        cases q1 <;> rintro rfl rfl <;> simp)
       clear HCC HV
       cases c with
       | true =>
        go_wp2
        go_ret
        exact ⟨by have h := HVV.out.1 (by simp); subst h; rfl, HS.out.below⟩
       | false =>
        have HV := Aside0.mk (HVV.out.2 rfl)
        clear HVV
        go_upto_region 16 with (fail)
        have y0 := (blk_cell HS.out.hi 0).trans (show _ = some (Value.int .i64 f0) from rfl)
        have y9 := (blk_cell HS.out.hi 9).trans (show _ = some (Value.int .i64 f9) from rfl)
        have z4 := (blk_cell HS.out.hf 4).trans (show _ = some (Value.slice A4 code.length c4) from rfl)
        go_cut [128] (fun v128 wc => ∃ c : Bool, v128 = .bool c /\ Aside0 (c = !(toB code.length ⟨f0, f1, f2, f3, f4, f5, f6, l7, l8, f9⟩)) /\ Aside0 (InSt w wc w.heap.size (w.heap.size + 1) #[.string nm, .slice A1 l1.length c1, .slice A2 l2.length c2, .slice A3 l3.length c3, .slice A4 code.length c4] #[.int .i64 f0, .int .i64 f1, .int .i64 f2, .int .i64 f3, .int .u64 f4, .int .i64 f5, .string f6, .slice A7 l7.length c7, .slice A8 l8.length c8, .int .i64 f9]))
        case first =>
         clear HV
         by_cases n0 : f9 < 0
         ·go_wp2
          go_meet
          case rel => exact ⟨_, rfl, ⟨by simp [toB, n0]⟩, HS⟩
         by_cases n1 : (code.length : Int) <= f9
         ·go_wp2
          go_meet
          case rel => exact ⟨_, rfl, ⟨by simp [toB, n1]⟩, HS⟩
         have d0 : decide (f9 < 0) = false := decide_eq_false n0
         have d1 : decide ((code.length : Int) <= f9) = false := decide_eq_false n1
         cases h18 : (f0 == 18)
         ·have m18 : (f0 != 18) = true := by simp [bne, h18]
          cases h19 : (f0 == 19)
          ·have m19 : (f0 != 19) = true := by simp [bne, h19]
           have HH := Aside0.mk (show toB code.length ⟨f0, f1, f2, f3, f4, f5, f6, l7, l8, f9⟩ = (f9 == 0) by unfold toB; rw [d0, d1, h18, h19]; rfl)
           go_wp2
           go_meet
           case rel => exact ⟨_, rfl, ⟨by rw [HH.out]; rfl⟩, HS⟩
          ·have m19 : (f0 != 19) = false := by simp [bne, h19]
           have HH := Aside0.mk (show toB code.length ⟨f0, f1, f2, f3, f4, f5, f6, l7, l8, f9⟩ = true by unfold toB; rw [d0, d1, h18, h19]; rfl)
           go_wp2
           go_meet
           case rel => exact ⟨_, rfl, ⟨by rw [HH.out]; rfl⟩, HS⟩
         ·have m18 : (f0 != 18) = false := by simp [bne, h18]
          have HH := Aside0.mk (show toB code.length ⟨f0, f1, f2, f3, f4, f5, f6, l7, l8, f9⟩ = true by unfold toB; rw [d0, d1, h18]; rfl)
          go_wp2
          go_meet
          case rel => exact ⟨_, rfl, ⟨by rw [HH.out]; rfl⟩, HS⟩
        case rest =>
         clear HS y0 y9 z4
         obtain ⟨c, rfl, HCC, HS⟩ := hcut
         have HVV := Aside0.mk (show (c = true -> res = false) /\ (c = false -> res = (sizeB ⟨f0, f1, f2, f3, f4, f5, f6, l7, l8, f9⟩ && nB l3.length ⟨f0, f1, f2, f3, f4, f5, f6, l7, l8, f9⟩)) by
          have h1 := HV.out
          have h2 := HCC.out
          revert h1 h2
          generalize toB _ _ = q1
          cases q1 <;> rintro rfl rfl <;> simp)
         clear HCC HV
         cases c with
         | true =>
          go_wp2
          go_ret
          exact ⟨by have h := HVV.out.1 (by simp); subst h; rfl, HS.out.below⟩
         | false =>
          have HV := Aside0.mk (HVV.out.2 rfl)
          clear HVV
          go_upto_region 18 with (fail)
          have y0 := (blk_cell HS.out.hi 0).trans (show _ = some (Value.int .i64 f0) from rfl)
          have y4 := (blk_cell HS.out.hi 4).trans (show _ = some (Value.int .u64 f4) from rfl)
          have y5 := (blk_cell HS.out.hi 5).trans (show _ = some (Value.int .i64 f5) from rfl)
          have z3 := (blk_cell HS.out.hf 3).trans (show _ = some (Value.slice A3 l3.length c3) from rfl)
          have HE := Aside0.mk HS.out.below
          clear HS
          by_cases h : f0 = 4
          ·have HQ := Aside0.mk (show sizeB ⟨f0, f1, f2, f3, f4, f5, f6, l7, l8, f9⟩ = (f5 == 1 || (f5 == 4 || f5 == 8)) /\ nB l3.length ⟨f0, f1, f2, f3, f4, f5, f6, l7, l8, f9⟩ = (f4 == 0) by subst h; exact ⟨rfl, rfl⟩)
           have e4 : (f0 == 4) = true := by rw [h]; rfl
           have e35 : (f0 == 35) = false := by rw [h]; rfl
           have e36 : (f0 == 36) = false := by rw [h]; rfl
           have e34 : (f0 == 34) = false := by rw [h]; rfl
           have e1 : (f0 == 1) = false := by rw [h]; rfl
           have e3 : (f0 == 3) = false := by rw [h]; rfl
           have e31 : (f0 == 31) = false := by rw [h]; rfl
           have e39 : (f0 == 39) = false := by rw [h]; rfl
           clear h
           cases s1 : (f5 == 1)
           rotate_left
           ·have b1 : (f5 != 1) = false := by simp [bne, s1]
            have HW := Aside0.mk (show res = (f4 == 0) by rw [HV.out, HQ.out.1, HQ.out.2]; simp [s1])
            as_aux_lemma =>
             go_wp2
             go_ret
             exact ⟨by rw [HW.out]; rfl, HE.out⟩
           have b1 : (f5 != 1) = true := by simp [bne, s1]
           cases s4 : (f5 == 4)
           rotate_left
           ·have b4 : (f5 != 4) = false := by simp [bne, s4]
            have HW := Aside0.mk (show res = (f4 == 0) by rw [HV.out, HQ.out.1, HQ.out.2]; simp [s1, s4])
            as_aux_lemma =>
             go_wp2
             go_ret
             exact ⟨by rw [HW.out]; rfl, HE.out⟩
           have b4 : (f5 != 4) = true := by simp [bne, s4]
           cases s8 : (f5 == 8)
           rotate_left
           ·have b8 : (f5 != 8) = false := by simp [bne, s8]
            have HW := Aside0.mk (show res = (f4 == 0) by rw [HV.out, HQ.out.1, HQ.out.2]; simp [s1, s4, s8])
            as_aux_lemma =>
             go_wp2
             go_ret
             exact ⟨by rw [HW.out]; rfl, HE.out⟩
           have b8 : (f5 != 8) = true := by simp [bne, s8]
           have HW := Aside0.mk (show res = false by rw [HV.out, HQ.out.1]; simp [s1, s4, s8])
           as_aux_lemma =>
            go_wp2
            go_ret
            exact ⟨by rw [HW.out]; rfl, HE.out⟩
          by_cases h : f0 = 35
          ·have HQ := Aside0.mk (show sizeB ⟨f0, f1, f2, f3, f4, f5, f6, l7, l8, f9⟩ = (f5 == 1 || (f5 == 4 || f5 == 8)) /\ nB l3.length ⟨f0, f1, f2, f3, f4, f5, f6, l7, l8, f9⟩ = (f4 == 0) by subst h; exact ⟨rfl, rfl⟩)
           have e4 : (f0 == 4) = false := by rw [h]; rfl
           have e35 : (f0 == 35) = true := by rw [h]; rfl
           have e36 : (f0 == 36) = false := by rw [h]; rfl
           have e34 : (f0 == 34) = false := by rw [h]; rfl
           have e1 : (f0 == 1) = false := by rw [h]; rfl
           have e3 : (f0 == 3) = false := by rw [h]; rfl
           have e31 : (f0 == 31) = false := by rw [h]; rfl
           have e39 : (f0 == 39) = false := by rw [h]; rfl
           clear h
           cases s1 : (f5 == 1)
           rotate_left
           ·have b1 : (f5 != 1) = false := by simp [bne, s1]
            have HW := Aside0.mk (show res = (f4 == 0) by rw [HV.out, HQ.out.1, HQ.out.2]; simp [s1])
            as_aux_lemma =>
             go_wp2
             go_ret
             exact ⟨by rw [HW.out]; rfl, HE.out⟩
           have b1 : (f5 != 1) = true := by simp [bne, s1]
           cases s4 : (f5 == 4)
           rotate_left
           ·have b4 : (f5 != 4) = false := by simp [bne, s4]
            have HW := Aside0.mk (show res = (f4 == 0) by rw [HV.out, HQ.out.1, HQ.out.2]; simp [s1, s4])
            as_aux_lemma =>
             go_wp2
             go_ret
             exact ⟨by rw [HW.out]; rfl, HE.out⟩
           have b4 : (f5 != 4) = true := by simp [bne, s4]
           cases s8 : (f5 == 8)
           rotate_left
           ·have b8 : (f5 != 8) = false := by simp [bne, s8]
            have HW := Aside0.mk (show res = (f4 == 0) by rw [HV.out, HQ.out.1, HQ.out.2]; simp [s1, s4, s8])
            as_aux_lemma =>
             go_wp2
             go_ret
             exact ⟨by rw [HW.out]; rfl, HE.out⟩
           have b8 : (f5 != 8) = true := by simp [bne, s8]
           have HW := Aside0.mk (show res = false by rw [HV.out, HQ.out.1]; simp [s1, s4, s8])
           as_aux_lemma =>
            go_wp2
            go_ret
            exact ⟨by rw [HW.out]; rfl, HE.out⟩
          by_cases h : f0 = 36
          ·have HQ := Aside0.mk (show sizeB ⟨f0, f1, f2, f3, f4, f5, f6, l7, l8, f9⟩ = (f5 == 1 || (f5 == 4 || f5 == 8)) /\ nB l3.length ⟨f0, f1, f2, f3, f4, f5, f6, l7, l8, f9⟩ = (f4 == 0) by subst h; exact ⟨rfl, rfl⟩)
           have e4 : (f0 == 4) = false := by rw [h]; rfl
           have e35 : (f0 == 35) = false := by rw [h]; rfl
           have e36 : (f0 == 36) = true := by rw [h]; rfl
           have e34 : (f0 == 34) = false := by rw [h]; rfl
           have e1 : (f0 == 1) = false := by rw [h]; rfl
           have e3 : (f0 == 3) = false := by rw [h]; rfl
           have e31 : (f0 == 31) = false := by rw [h]; rfl
           have e39 : (f0 == 39) = false := by rw [h]; rfl
           clear h
           cases s1 : (f5 == 1)
           rotate_left
           ·have b1 : (f5 != 1) = false := by simp [bne, s1]
            have HW := Aside0.mk (show res = (f4 == 0) by rw [HV.out, HQ.out.1, HQ.out.2]; simp [s1])
            as_aux_lemma =>
             go_wp2
             go_ret
             exact ⟨by rw [HW.out]; rfl, HE.out⟩
           have b1 : (f5 != 1) = true := by simp [bne, s1]
           cases s4 : (f5 == 4)
           rotate_left
           ·have b4 : (f5 != 4) = false := by simp [bne, s4]
            have HW := Aside0.mk (show res = (f4 == 0) by rw [HV.out, HQ.out.1, HQ.out.2]; simp [s1, s4])
            as_aux_lemma =>
             go_wp2
             go_ret
             exact ⟨by rw [HW.out]; rfl, HE.out⟩
           have b4 : (f5 != 4) = true := by simp [bne, s4]
           cases s8 : (f5 == 8)
           rotate_left
           ·have b8 : (f5 != 8) = false := by simp [bne, s8]
            have HW := Aside0.mk (show res = (f4 == 0) by rw [HV.out, HQ.out.1, HQ.out.2]; simp [s1, s4, s8])
            as_aux_lemma =>
             go_wp2
             go_ret
             exact ⟨by rw [HW.out]; rfl, HE.out⟩
           have b8 : (f5 != 8) = true := by simp [bne, s8]
           have HW := Aside0.mk (show res = false by rw [HV.out, HQ.out.1]; simp [s1, s4, s8])
           as_aux_lemma =>
            go_wp2
            go_ret
            exact ⟨by rw [HW.out]; rfl, HE.out⟩
          by_cases h34 : f0 = 34
          ·have HQ := Aside0.mk (show sizeB ⟨f0, f1, f2, f3, f4, f5, f6, l7, l8, f9⟩ = (!(decide (f5 < 1)) && !(decide (4194304 < f5))) /\ nB l3.length ⟨f0, f1, f2, f3, f4, f5, f6, l7, l8, f9⟩ = (f4 == 0) by subst h34; exact ⟨rfl, rfl⟩)
           have h := h34
           have e4 : (f0 == 4) = false := by rw [h]; rfl
           have e35 : (f0 == 35) = false := by rw [h]; rfl
           have e36 : (f0 == 36) = false := by rw [h]; rfl
           have e34 : (f0 == 34) = true := by rw [h]; rfl
           have e1 : (f0 == 1) = false := by rw [h]; rfl
           have e3 : (f0 == 3) = false := by rw [h]; rfl
           have e31 : (f0 == 31) = false := by rw [h]; rfl
           have e39 : (f0 == 39) = false := by rw [h]; rfl
           clear h h34
           by_cases s1 : f5 < 1
           ·have HW := Aside0.mk (show res = false by rw [HV.out, HQ.out.1]; simp [s1])
            as_aux_lemma =>
             go_wp2
             go_ret
             exact ⟨by rw [HW.out]; rfl, HE.out⟩
           by_cases s2 : 4194304 < f5
           ·have HW := Aside0.mk (show res = false by rw [HV.out, HQ.out.1, decide_eq_true s2]; simp)
            as_aux_lemma =>
             go_wp2
             go_ret
             exact ⟨by rw [HW.out]; rfl, HE.out⟩
           have HW := Aside0.mk (show res = (f4 == 0) by rw [HV.out, HQ.out.1, HQ.out.2, decide_eq_false s1, decide_eq_false s2]; simp)
           as_aux_lemma =>
            go_wp2
            go_ret
            exact ⟨by rw [HW.out]; rfl, HE.out⟩
          have HQ := Aside0.mk (show sizeB ⟨f0, f1, f2, f3, f4, f5, f6, l7, l8, f9⟩ = (f5 == 0) by unfold sizeB; rw [if_neg (by show ¬ (f0 = 4 ∨ f0 = 35 ∨ f0 = 36); omega), if_neg (show ¬ f0 = 34 from h34)])
          have e4 : (f0 == 4) = false := by simpa using (show ¬ f0 = 4 by omega)
          have e35 : (f0 == 35) = false := by simpa using (show ¬ f0 = 35 by omega)
          have e36 : (f0 == 36) = false := by simpa using (show ¬ f0 = 36 by omega)
          have e34 : (f0 == 34) = false := by simpa using (show ¬ f0 = 34 by omega)
          cases s0 : (f5 == 0)
          ·have b0 : (f5 != 0) = true := by simp [bne, s0]
           have HW := Aside0.mk (show res = false by rw [HV.out, HQ.out, s0]; rfl)
           as_aux_lemma =>
            go_wp2
            go_ret
            exact ⟨by rw [HW.out]; rfl, HE.out⟩
          have b0 : (f5 != 0) = false := by simp [bne, s0]
          have HV2 := Aside0.mk (show res = nB l3.length ⟨f0, f1, f2, f3, f4, f5, f6, l7, l8, f9⟩ by rw [HV.out, HQ.out, s0]; rfl)
          clear HV HQ
          by_cases h : f0 = 1
          ·have HW := Aside0.mk (show res = true by rw [HV2.out]; subst h; rfl)
           have e1 : (f0 == 1) = true := by rw [h]; rfl
           have e3 : (f0 == 3) = false := by rw [h]; rfl
           have e31 : (f0 == 31) = false := by rw [h]; rfl
           have e39 : (f0 == 39) = false := by rw [h]; rfl
           clear h
           as_aux_lemma =>
            go_wp2
            go_ret
            exact ⟨by rw [HW.out]; rfl, HE.out⟩
          by_cases h : f0 = 3
          ·have HQ := Aside0.mk (show res = (decide (1 <= f4) && decide (f4 <= 27)) by rw [HV2.out]; subst h; rfl)
           have e1 : (f0 == 1) = false := by rw [h]; rfl
           have e3 : (f0 == 3) = true := by rw [h]; rfl
           have e31 : (f0 == 31) = false := by rw [h]; rfl
           have e39 : (f0 == 39) = false := by rw [h]; rfl
           clear h
           by_cases s1 : 1 <= f4
           ·have HW := Aside0.mk (show res = decide (f4 <= 27) by rw [HQ.out, decide_eq_true s1]; rfl)
            as_aux_lemma =>
             go_wp2
             go_ret
             exact ⟨by rw [HW.out]; rfl, HE.out⟩
           ·have HW := Aside0.mk (show res = false by rw [HQ.out, decide_eq_false s1]; rfl)
            as_aux_lemma =>
             go_wp2
             go_ret
             exact ⟨by rw [HW.out]; rfl, HE.out⟩
          by_cases h : f0 = 31
          ·have HW := Aside0.mk (show res = decide (f4 < IntKind.u64.wrap (l3.length : Int)) by rw [HV2.out]; subst h; rfl)
           have e1 : (f0 == 1) = false := by rw [h]; rfl
           have e3 : (f0 == 3) = false := by rw [h]; rfl
           have e31 : (f0 == 31) = true := by rw [h]; rfl
           have e39 : (f0 == 39) = false := by rw [h]; rfl
           clear h
           as_aux_lemma =>
            go_wp2
            go_ret
            exact ⟨by rw [HW.out]; rfl, HE.out⟩
          by_cases h : f0 = 39
          ·have HW := Aside0.mk (show res = decide (f4 < IntKind.u64.wrap (l3.length : Int)) by rw [HV2.out]; subst h; rfl)
           have e1 : (f0 == 1) = false := by rw [h]; rfl
           have e3 : (f0 == 3) = false := by rw [h]; rfl
           have e31 : (f0 == 31) = false := by rw [h]; rfl
           have e39 : (f0 == 39) = true := by rw [h]; rfl
           clear h
           as_aux_lemma =>
            go_wp2
            go_ret
            exact ⟨by rw [HW.out]; rfl, HE.out⟩
          have HW := Aside0.mk (show res = (f4 == 0) by rw [HV2.out]; unfold nB; rw [if_neg (show ¬ f0 = 1 by omega), if_neg (show ¬ f0 = 3 by omega), if_neg (by show ¬ (f0 = 31 ∨ f0 = 39); omega)])
          have e1 : (f0 == 1) = false := by simpa using (show ¬ f0 = 1 by omega)
          have e3 : (f0 == 3) = false := by simpa using (show ¬ f0 = 3 by omega)
          have e31 : (f0 == 31) = false := by simpa using (show ¬ f0 = 31 by omega)
          have e39 : (f0 == 39) = false := by simpa using (show ¬ f0 = 39 by omega)
          clear h34
          as_aux_lemma =>
           go_wp2
           go_ret
           exact ⟨by rw [HW.out]; rfl, HE.out⟩
end
end
end Go.Proofs.YtjfleaekljapeaaDoor.K
namespace Go.Proofs.YtjfleaekljapeaaDoor.K
open Go.RowKit Go.Proofs.YtjfleaekljapeaaDoorW.PrintWords Go.Proofs.YtjfleaekljapeaaDoorW.PrintLast Go.Proofs.YtjfleaekljapeaaDoorW.PrintMore
set_option linter.unusedVariables false
def hauberkref12_instruction.f (a0_0 : ByteArray) (l0_1 : List Int) (l0_2 : List Int) (l0_3 : List Int) (l0_4 : List (S44)) (a1_0 : Int) (a1_1 : Int) (a1_2 : Int) (a1_3 : Int) (a1_4 : Int) (a1_5 : Int) (a1_6 : ByteArray) (l1_7 : List Int) (l1_8 : List Int) (a1_9 : Int) : Option (Bool) := some (insB l0_2.length l0_3.length l0_4.length ⟨a1_0, a1_1, a1_2, a1_3, a1_4, a1_5, a1_6, l1_7, l1_8, a1_9⟩)
theorem hauberkref12_instruction.calls (a0_0 : ByteArray) (A0_1 : Option Addr) (c0_1 : Nat) (l0_1 : List Int) (A0_2 : Option Addr) (c0_2 : Nat) (l0_2 : List Int) (A0_3 : Option Addr) (c0_3 : Nat) (l0_3 : List Int) (A0_4 : Option Addr) (c0_4 : Nat) (l0_4 : List (S44)) (a1_0 : Int) (a1_1 : Int) (a1_2 : Int) (a1_3 : Int) (a1_4 : Int) (a1_5 : Int) (a1_6 : ByteArray) (A1_7 : Option Addr) (c1_7 : Nat) (l1_7 : List Int) (A1_8 : Option Addr) (c1_8 : Nat) (l1_8 : List Int) (a1_9 : Int) (r : Bool) (w : World) (hr0_1 : Kd.C (Kd.int .i64) w A0_1 l0_1.length l0_1) (hc0_1 : l0_1.length <= c0_1) (hr0_2 : Kd.C (Kd.int .i64) w A0_2 l0_2.length l0_2) (hc0_2 : l0_2.length <= c0_2) (hr0_3 : Kd.C (Kd.int .i64) w A0_3 l0_3.length l0_3) (hc0_3 : l0_3.length <= c0_3) (hr0_4 : Kd.C k44 w A0_4 l0_4.length l0_4) (hc0_4 : l0_4.length <= c0_4) (hr1_7 : Kd.C (Kd.int .i64) w A1_7 l1_7.length l1_7) (hc1_7 : l1_7.length <= c1_7) (hr1_8 : Kd.C (Kd.int .i64) w A1_8 l1_8.length l1_8) (hc1_8 : l1_8.length <= c1_8) (h : hauberkref12_instruction.f a0_0 l0_1 l0_2 l0_3 l0_4 a1_0 a1_1 a1_2 a1_3 a1_4 a1_5 a1_6 l1_7 l1_8 a1_9 = some r) :
 Calls Tryd.prog 51 #[.agg #[.string a0_0, .slice A0_1 l0_1.length c0_1, .slice A0_2 l0_2.length c0_2, .slice A0_3 l0_3.length c0_3, .slice A0_4 l0_4.length c0_4], .agg #[.int .i64 a1_0, .int .i64 a1_1, .int .i64 a1_2, .int .i64 a1_3, .int .u64 a1_4, .int .i64 a1_5, .string a1_6, .slice A1_7 l1_7.length c1_7, .slice A1_8 l1_8.length c1_8, .int .i64 a1_9]] w fun e w' => e = .returned (.bool r) /\ Below w.heap.size w w' := by
 obtain rfl := Option.some.inj h
 exact ins_calls ⟨a1_0, a1_1, a1_2, a1_3, a1_4, a1_5, a1_6, l1_7, l1_8, a1_9⟩ A1_7 c1_7 A1_8 c1_8 w ⟨hr0_1, hc0_1, hr0_2, hc0_2, hr0_3, hc0_3, hr0_4, hc0_4⟩ hr1_7 hc1_7 hr1_8 hc1_8
end Go.Proofs.YtjfleaekljapeaaDoor.K
