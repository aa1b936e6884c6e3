import Derived.Test.YtjfleaekljapeaaDoorXAP
import Derived.Test.YtjfleaekljapeaaDoorXAO
import Derived.Deep.DeepMust
import Derived.Test.YtjfleaekljapeaaDoorProg
import Derived.Below
import Derived.Deep.Draws
import Derived.Deep.AppendLies
import Derived.Maps.AppendAt
import Derived.OwnWalk
import Derived.Laws.BytesArg
import Derived.Laws.MakeOwn
import Derived.Laws.OwnMore
import Derived.Deep.OwnRows
import Derived.Tactics
import Derived.Lib.ConvBytes
import Derived.Laws.Slices
import Derived.WalkKit
import Derived.KernelRfl
import Derived.RowKit3
import Derived.Deep.LoopGhost
import Derived.Deep.QuietTactic
import Derived.BigQuiet
import Derived.WideLaws
import Derived.Deep.DeepCutAuto
import Derived.Deep.CutBlock
import Derived.Deep.RegionHeld3
import Derived.Deep.MidRow
import Derived.Laws.Rows
import Derived.Lib.AppendStr
import Derived.ArgAppend
import Derived.Laws.IdiomCopy
import Derived.OrdersHeld
import Derived.Laws.BitsLemmas
import Derived.RowKit
import Derived.RegionTactic
import Derived.Deep.RegionWith
import Derived.Lib.Hide
import Derived.Test.YtjfleaekljapeaaDoorXAA
import Derived.Test.YtjfleaekljapeaaDoorXAB
import Derived.Test.YtjfleaekljapeaaDoorXAC
import Derived.Deep.RegionLaw
import Derived.Laws.CopyOwn
import Derived.Shelf.Spec.TrailingZeros
import Derived.Test.YtjfleaekljapeaaDoorXAN
import Derived.Test.YtjfleaekljapeaaDoorXAF
import Derived.Test.YtjfleaekljapeaaDoorXAQ
namespace Go.Proofs.YtjfleaekljapeaaDoor.K
open Go.RowKit Go.Proofs.YtjfleaekljapeaaDoorW.PrintWords Go.Proofs.YtjfleaekljapeaaDoorW.PrintLast Go.Proofs.YtjfleaekljapeaaDoorW.PrintMore
attribute [local go_sem] max2_int min2_int max_two min_two max_three min_three max_four min_four   -- for this text's walks alone
set_option linter.unusedVariables false
set_option linter.unusedSimpArgs false
set_option linter.unusedSectionVars false
section
open Go.Proofs.YtjfleaekljapeaaDoor.EvLib
def inkB (l : List Int) : Bool := (List.range l.length).all fun q => l.getD q 0 == 1
def slotB (l : List Int) : Bool := (List.range l.length).all fun q => !(decide (l.getD q 0 < 1)) && !(decide (65536 < l.getD q 0))
def codeB (nk ns : Nat) (code : List S44) : Bool := (List.range code.length).all fun q => insB nk ns code.length (rd_T44 code q)
def lastB (code : List S44) : Bool := (rd_T44 code ((code.length - 1 : Nat) : Int)).f0 == 43 || ((rd_T44 code ((code.length - 1 : Nat) : Int)).f0 == 18 || (rd_T44 code ((code.length - 1 : Nat) : Int)).f0 == 22)
def fnB (nm : ByteArray) (l1 l2 l3 : List Int) (code : List S44) : Bool := !(nm.toList.isEmpty) && (decide (code.length ≠ 0) && (allB l2.length l1 true && (inkB l2 && (slotB l3 && (codeB l2.length l3.length code && lastB code)))))
def allFrom (n : Nat) (p : Nat -> Bool) (i : Nat) : Bool := (List.range n).all fun q => decide (q < i) || p q
theorem allFrom_zero (n : Nat) (p : Nat -> Bool) : allFrom n p 0 = (List.range n).all p := by
 unfold allFrom
 simp
theorem allFrom_end (n : Nat) (p : Nat -> Bool) : allFrom n p n = true := by
 unfold allFrom
 rw [List.all_eq_true]
 intro q hq
 simp [List.mem_range.1 hq]
theorem allFrom_step (n : Nat) (p : Nat -> Bool) (i : Nat) (hi : i < n) : allFrom n p i = (p i && allFrom n p (i + 1)) := by
 unfold allFrom
 rw [Bool.eq_iff_iff, Bool.and_eq_true, List.all_eq_true, List.all_eq_true]
 constructor
 ·intro h
  have h0 := h i (List.mem_range.2 hi)
  refine ⟨by simpa using h0, fun q hq => ?_⟩
  have h1 := h q hq
  simp only [Bool.or_eq_true, decide_eq_true_eq] at h1 ⊢
  rcases h1 with h1 | h1
  ·exact .inl (by omega)
  ·exact .inr h1
 ·rintro ⟨h0, h⟩ q hq
  have h1 := h q hq
  simp only [Bool.or_eq_true, decide_eq_true_eq] at h1 ⊢
  rcases h1 with h1 | h1
  ·by_cases e : q = i
   ·subst e; exact .inr h0
   ·exact .inl (by omega)
  ·exact .inr h1
section
variable (nm : ByteArray) (l1 l2 l3 : List Int) (code : List S44)
theorem fn_ev2 (h0 : code.length ≠ 0) (hc : code.length <= 9223372036854775807) : ∀ (d i : Nat), code.length - i = d -> i <= code.length →
  Ev (fun k => hauberkref12_function.l2 k (code.length : Int) (i : Int) nm l1 l2 l3 code) (allFrom code.length (fun q => insB l2.length l3.length code.length (rd_T44 code q)) i && lastB code)
 | 0, i, hd, hi => by
  obtain rfl : i = code.length := by omega
  have e : wrap64 ((code.length : Int) - 1) = ((code.length - 1 : Nat) : Int) := by unfold wrap64; omega
  refine Ev.succ ?_
  simp only [hauberkref12_function.l2]
  rw [e, allFrom_end, Bool.true_and]
  refine Ev.neg (by omega) (Ev.pos (by omega) (Ev.pos (by omega) ?_))
  unfold lastB
  by_cases h1 : (rd_T44 code ((code.length - 1 : Nat) : Int)).f0 = 43
  ·exact Ev.pos h1 (Ev.ret (by simp [h1]))
  ·refine Ev.neg h1 ?_
   by_cases h2 : (rd_T44 code ((code.length - 1 : Nat) : Int)).f0 = 18
   ·exact Ev.pos h2 (Ev.ret (by simp [h2]))
   ·exact Ev.neg h2 (Ev.ret (by
     have e1 : ((rd_T44 code ((code.length - 1 : Nat) : Int)).f0 == 43) = false := by simpa using h1
     have e2 : ((rd_T44 code ((code.length - 1 : Nat) : Int)).f0 == 18) = false := by simpa using h2
     rw [e1, e2]; rfl))
 | d + 1, i, hd, hi => by
  have c : i < code.length := by omega
  have ih := fn_ev2 h0 hc d (i + 1) (by omega) (by omega)
  refine Ev.succ ?_
  simp only [hauberkref12_function.l2]
  rw [w64_nat i (by omega), allFrom_step _ _ i c]
  refine Ev.pos (by omega) (Ev.pos (by omega) (Ev.pos (by omega) ?_))
  refine Ev.bind (a := insB l2.length l3.length code.length (rd_T44 code i)) (Ev.now _) ?_
  cases insB l2.length l3.length code.length (rd_T44 code i) with
  | true => exact Ev.pos rfl ih
  | false => exact Ev.neg (by decide) (Ev.now _)
theorem fn_ev1 (h0 : code.length ≠ 0) (hc : code.length <= 9223372036854775807) (hl3 : l3.length <= 9223372036854775807) : ∀ (d i : Nat), l3.length - i = d -> i <= l3.length →
  Ev (fun k => hauberkref12_function.l1 k (l3.length : Int) (i : Int) nm l1 l2 l3 code) (allFrom l3.length (fun q => !(decide (l3.getD q 0 < 1)) && !(decide (65536 < l3.getD q 0))) i && (codeB l2.length l3.length code && lastB code))
 | 0, i, hd, hi => by
  obtain rfl : i = l3.length := by omega
  refine Ev.succ ?_
  simp only [hauberkref12_function.l1]
  rw [allFrom_end, Bool.true_and]
  refine Ev.neg (by omega) ?_
  have := fn_ev2 nm l1 l2 l3 code h0 hc code.length 0 (by omega) (by omega)
  rw [allFrom_zero] at this
  exact this
 | d + 1, i, hd, hi => by
  have c : i < l3.length := by omega
  have ih := fn_ev1 h0 hc hl3 d (i + 1) (by omega) (by omega)
  refine Ev.succ ?_
  simp only [hauberkref12_function.l1]
  rw [w64_nat i (by omega), allFrom_step _ _ i c, rd_nat]
  refine Ev.pos (by omega) (Ev.pos (by omega) (Ev.pos (by omega) ?_))
  by_cases h1 : l3.getD i 0 < 1
  ·exact Ev.pos h1 (Ev.ret (by rw [decide_eq_true h1]; rfl))
  ·refine Ev.neg h1 ?_
   by_cases h2 : 65536 < l3.getD i 0
   ·exact Ev.pos h2 (Ev.ret (by rw [decide_eq_true h2]; simp))
   ·exact Ev.neg h2 (Ev.eq ih (by rw [decide_eq_false h1, decide_eq_false h2]; rfl))
theorem fn_ev0 (h0 : code.length ≠ 0) (hc : code.length <= 9223372036854775807) (hl3 : l3.length <= 9223372036854775807) (hl2 : l2.length <= 9223372036854775807) : ∀ (d i : Nat), l2.length - i = d -> i <= l2.length →
  Ev (fun k => hauberkref12_function.l0 k (l2.length : Int) (i : Int) nm l1 l2 l3 code) (allFrom l2.length (fun q => l2.getD q 0 == 1) i && (slotB l3 && (codeB l2.length l3.length code && lastB code)))
 | 0, i, hd, hi => by
  obtain rfl : i = l2.length := by omega
  refine Ev.succ ?_
  simp only [hauberkref12_function.l0]
  rw [allFrom_end, Bool.true_and]
  refine Ev.neg (by omega) ?_
  have := fn_ev1 nm l1 l2 l3 code h0 hc hl3 l3.length 0 (by omega) (by omega)
  rw [allFrom_zero] at this
  exact this
 | d + 1, i, hd, hi => by
  have c : i < l2.length := by omega
  have ih := fn_ev0 h0 hc hl3 hl2 d (i + 1) (by omega) (by omega)
  refine Ev.succ ?_
  simp only [hauberkref12_function.l0]
  rw [w64_nat i (by omega), allFrom_step _ _ i c, rd_nat]
  refine Ev.pos (by omega) (Ev.pos (by omega) (Ev.pos (by omega) ?_))
  by_cases h1 : l2.getD i 0 = 1
  ·exact Ev.pos h1 (Ev.eq ih (by rw [h1]; rfl))
  ·exact Ev.neg h1 (Ev.ret (by
    have e : (l2.getD i 0 == 1) = false := by simpa using h1
    rw [e]; rfl))
theorem fn_f (hc : code.length <= 9223372036854775807) (hl3 : l3.length <= 9223372036854775807) (hl2 : l2.length <= 9223372036854775807) (hl1 : l1.length <= 9223372036854775807) : Ev (fun k => hauberkref12_function.f k nm l1 l2 l3 code) (fnB nm l1 l2 l3 code) := by
 unfold hauberkref12_function.f fnB
 by_cases hn : nm.toList = []
 ·refine Ev.pos hn (Ev.succ ?_)
  simp only [hauberkref12_function.j0]
  exact Ev.pos trivial (Ev.ret (by simp [hn]))
 ·have hn2 : nm.toList.isEmpty = false := by simpa using hn
  refine Ev.neg hn ?_
  by_cases h0 : code.length = 0
  ·refine Ev.pos (by omega) (Ev.succ ?_)
   simp only [hauberkref12_function.j0]
   exact Ev.pos trivial (Ev.ret (by simp [h0]))
  ·refine Ev.neg (by omega) (Ev.bind (all_is nm l1 l2 l3 code l1 hl1 true) (Ev.succ ?_))
   simp only [hauberkref12_function.j0]
   rw [hn2, decide_eq_true h0]
   have ih := fn_ev0 nm l1 l2 l3 code h0 hc hl3 hl2 l2.length 0 (by omega) (by omega)
   rw [allFrom_zero] at ih
   cases allB l2.length l1 true with
   | true => exact Ev.neg (by decide) ih
   | false => exact Ev.pos rfl (Ev.now _)
end
end
section
def zFn : Array Value := #[.string ⟨#[]⟩, .slice none 0 0, .slice none 0 0, .slice none 0 0, .slice none 0 0]
section
variable {nm : ByteArray} {A1 : Option Addr} {c1 : Nat} {l1 : List Int} {A2 : Option Addr} {c2 : Nat} {l2 : List Int} {A3 : Option Addr} {c3 : Nat} {l3 : List Int} {A4 : Option Addr} {c4 : Nat} {code : List S44}
structure UnSt (w : World) (gt gf : Nat) (fc : Array Value) : Prop where
 ht : w.heap[gt]? = some (.cells #[.string ⟨#[118]⟩, .int .i64 16, .string ⟨#[119]⟩, .int .i64 8] 89 (0, 0))
 hf : w.heap[gf]? = some (.cells fc 25 (0, 0))
theorem UnSt.step {w w' : World} {gt gf : Nat} {fc : Array Value} (h : UnSt w gt gf fc) (hb : Below w.heap.size w w') : UnSt w' gt gf fc := ⟨blk_below h.ht hb, blk_below h.hf hb⟩
def unV (gt gf : Nat) : Value := .agg #[.slice (some ⟨gt, 0, none⟩) 2 2, .slice (some ⟨gf, 0, none⟩) 1 1]
def AlPost (fc : Array Value) (w : World) (e : Ending) (w' : World) : Prop := ∃ gt gf, e = .returned (unV gt gf) /\ UnSt w' gt gf fc /\ Below w.heap.size w w'
set_option maxHeartbeats 8000000 in
set_option maxRecDepth 100000 in
theorem alone_calls (w : World) : Calls Tryd.prog 20 #[.agg #[.string nm, .slice A1 l1.length c1, .slice A2 l2.length c2, .slice A3 l3.length c3, .slice A4 code.length c4]] w (AlPost #[.string nm, .slice A1 l1.length c1, .slice A2 l2.length c2, .slice A3 l3.length c3, .slice A4 code.length c4] w) := by
 have hu25 := Tryd.underlying25
 have hu56 := Tryd.underlying56
 have hu89 := Tryd.underlying89
 have hu53 := Tryd.underlying53
 have hu54 := Tryd.underlying54
 go_enter Tryd.func20, Tryd.ntmps20
 go_wp2
 refine bodyPost_ret (results_cell_row rfl _ _ (w.heap.size + 1) 56 _ (0, 0) _ rfl (lv_al (lv_al (two_new w _ _) _) _) Tryd.underlying56 rfl (by kernel_rfl)) rfl ?_
 refine ⟨w.heap.size + 1 + 1, w.heap.size + 1 + 1 + 1, rfl, ⟨lv_al ?_ _, ?_⟩, ?_⟩
 ·have h := heap_alloc_new ((w.alloc (.cells #[.string nm, .slice A1 l1.length c1, .slice A2 l2.length c2, .slice A3 l3.length c3, .slice A4 code.length c4] 25)).alloc (.cells #[.slice (some ⟨w.heap.size + 1 + 1, 0, none⟩) 2 2, .slice (some ⟨w.heap.size + 1 + 1 + 1, 0, none⟩) 1 1] 56)) (.cells #[.string ⟨#[118]⟩, .int .i64 16, .string ⟨#[119]⟩, .int .i64 8] 89)
  simpa using h
 ·have h := heap_alloc_new (((w.alloc (.cells #[.string nm, .slice A1 l1.length c1, .slice A2 l2.length c2, .slice A3 l3.length c3, .slice A4 code.length c4] 25)).alloc (.cells #[.slice (some ⟨w.heap.size + 1 + 1, 0, none⟩) 2 2, .slice (some ⟨w.heap.size + 1 + 1 + 1, 0, none⟩) 1 1] 56)).alloc (.cells #[.string ⟨#[118]⟩, .int .i64 16, .string ⟨#[119]⟩, .int .i64 8] 89)) (.cells #[.string nm, .slice A1 l1.length c1, .slice A2 l2.length c2, .slice A3 l3.length c3, .slice A4 code.length c4] 25)
  simpa using h
 ·exact ((((Below.refl _ _).alloc (Nat.le_refl _) _).alloc (by simp) _).alloc (by simp; omega) _).alloc (by simp; omega) _
theorem fn_put5 {w : World} {g : Nat} {a0 a1 a2 a3 a4 : Value} (h : w.heap[g]? = some (.cells #[a0, a1, a2, a3, a4] 25 (0, 0))) (b0 b1 b2 b3 b4 : Value) :
  (((((w.setCell ⟨g, 0, none⟩ b0).setCell ⟨g, 1, none⟩ b1).setCell ⟨g, 2, none⟩ b2).setCell ⟨g, 3, none⟩ b3).setCell ⟨g, 4, none⟩ b4).heap[g]? = some (.cells #[b0, b1, b2, b3, b4] 25 (0, 0)) :=
 blk_put (cs := #[b0, b1, b2, b3, a4]) (blk_put (cs := #[b0, b1, b2, a3, a4]) (blk_put (cs := #[b0, b1, a2, a3, a4]) (blk_put (cs := #[b0, a1, a2, a3, a4]) (blk_put (cs := #[a0, a1, a2, a3, a4]) h 0 _ rfl) 1 _ rfl) 2 _ rfl) 3 _ rfl) 4 _ rfl
theorem fn_below5 {w0 w : World} {B g : Nat} (h : Below B w0 w) (hB : B <= g) (b0 b1 b2 b3 b4 : Value) :
  Below B w0 (((((w.setCell ⟨g, 0, none⟩ b0).setCell ⟨g, 1, none⟩ b1).setCell ⟨g, 2, none⟩ b2).setCell ⟨g, 3, none⟩ b3).setCell ⟨g, 4, none⟩ b4) := ((((h.setCell hB _).setCell hB _).setCell hB _).setCell hB _).setCell hB _
def FuPost (b : Bool) (fc : Array Value) (w : World) (e : Ending) (w' : World) : Prop := e = .returned (.tuple #[.agg (if b = true then fc else zFn), .bool b]) /\ Below w.heap.size w w'
def sameS (a b : ByteArray) : Bool := a.toList == b.toList
set_option maxHeartbeats 8000000 in
set_option maxRecDepth 100000 in
theorem fun_calls (name : ByteArray) (gt gf : Nat) (w : World) (hu : UnSt w gt gf #[.string nm, .slice A1 l1.length c1, .slice A2 l2.length c2, .slice A3 l3.length c3, .slice A4 code.length c4]) :
  Calls Tryd.prog 38 #[unV gt gf, .string name] w (FuPost (sameS nm name) #[.string nm, .slice A1 l1.length c1, .slice A2 l2.length c2, .slice A3 l3.length c3, .slice A4 code.length c4] w) := by
 have hu25 := Tryd.underlying25
 have hu56 := Tryd.underlying56
 have hu54 := Tryd.underlying54
 have HU := Aside0.mk hu
 unfold unV
 obtain ⟨b, hb⟩ : ∃ b, sameS nm name = b := ⟨_, rfl⟩
 have HBB := Aside0.mk hb
 rw [hb]
 unfold sameS at hb
 have hb2 : (nm.toList == name.toList) = b := hb
 clear hu hb
 go_enter Tryd.func38, Tryd.ntmps38
 go_upto_region 1 with (fail)
 have G2 := Aside0.mk (lv_al (heap_alloc_new w (.cells #[.slice (some ⟨gt, 0, none⟩) 2 2, .slice (some ⟨gf, 0, none⟩) 1 1] 56)) (.cells zFn 25))
 have GR := Aside0.mk (two_new w (.cells #[.slice (some ⟨gt, 0, none⟩) 2 2, .slice (some ⟨gf, 0, none⟩) 1 1] 56) (.cells zFn 25))
 have HB := Aside0.mk (show Below w.heap.size w ((w.alloc (.cells #[.slice (some ⟨gt, 0, none⟩) 2 2, .slice (some ⟨gf, 0, none⟩) 1 1] 56)).alloc (.cells zFn 25)) from ((Below.refl _ _).alloc (Nat.le_refl _) _).alloc (by simp) _)
 have HU2 := Aside0.mk (HU.out.step HB.out)
 unfold zFn at G2 GR HB HU2
 clear HU
 generalize ((w.alloc (.cells #[.slice (some ⟨gt, 0, none⟩) 2 2, .slice (some ⟨gf, 0, none⟩) 1 1] 56)).alloc (.cells #[.string ⟨#[]⟩, .slice none 0 0, .slice none 0 0, .slice none 0 0, .slice none 0 0] 25)) = w2 at *
 have x1 := (blk_cell G2.out 1).trans (show _ = some (Value.slice (some ⟨gf, 0, none⟩) 1 1) from rfl)
 have y0 := (blk_cell HU2.out.hf 0).trans (show _ = some (Value.string nm) from rfl)
 have y1 := (blk_cell HU2.out.hf 1).trans (show _ = some (Value.slice A1 l1.length c1) from rfl)
 have y2 := (blk_cell HU2.out.hf 2).trans (show _ = some (Value.slice A2 l2.length c2) from rfl)
 have y3 := (blk_cell HU2.out.hf 3).trans (show _ = some (Value.slice A3 l3.length c3) from rfl)
 have y4 := (blk_cell HU2.out.hf 4).trans (show _ = some (Value.slice A4 code.length c4) from rfl)
 have r0 := (blk_cell GR.out 0).trans (show _ = some (Value.string ⟨#[]⟩) from rfl)
 have r1 := (blk_cell GR.out 1).trans (show _ = some (Value.slice none 0 0) from rfl)
 have r2 := (blk_cell GR.out 2).trans (show _ = some (Value.slice none 0 0) from rfl)
 have r3 := (blk_cell GR.out 3).trans (show _ = some (Value.slice none 0 0) from rfl)
 have r4 := (blk_cell GR.out 4).trans (show _ = some (Value.slice none 0 0) from rfl)
 have q0 := blk_frozen GR.out 0
 have q1 := blk_frozen GR.out 1
 have q2 := blk_frozen GR.out 2
 have q3 := blk_frozen GR.out 3
 have q4 := blk_frozen GR.out 4
 go_wp2
 go_loopg [10] 1 (fun gg v10 w' => ∃ (k : Nat), k <= 1 /\ 1 - k <= gg /\ v10 = .int .i64 k /\ Aside0 (w' = w2) /\ Aside0 (k = 1 -> b = false))
 case atStart => exact ⟨0, by omega, by omega, rfl, ⟨rfl⟩, ⟨fun h => by omega⟩⟩
 case round =>
  obtain ⟨k, hk, hg, rfl, HW, HK⟩ := hrel
  obtain rfl := HW.out
  have hk2 : k = 0 ∨ k = 1 := by omega
  rcases hk2 with rfl | rfl
  ·cases b
   rotate_left
   ·go_wp2
    refine bodyPost_ret (results_ct rfl _ _ (w.heap.size + 1) 25 _ (0, 0) _ rfl (fn_put5 GR.out _ _ _ _ _) Tryd.underlying25 rfl (by kernel_rfl)) rfl ?_
    exact ⟨rfl, fn_below5 HB.out (by omega) _ _ _ _ _⟩
   ·go_wp2
    go_roundg 0
    case measure => omega
    case rel => exact ⟨1, by omega, by omega, by go_num, ⟨rfl⟩, ⟨by simp⟩⟩
  ·obtain rfl := HK.out rfl
   clear hb2
   go_wp2
   refine bodyPost_ret (results_ct rfl _ _ (w.heap.size + 1) 25 _ (0, 0) _ rfl (fn_put5 GR.out _ _ _ _ _) Tryd.underlying25 rfl (by kernel_rfl)) rfl ?_
   exact ⟨rfl, fn_below5 HB.out (by omega) _ _ _ _ _⟩
end
end
section
open Go.Proofs.YtjfleaekljapeaaDoor.EvLib
def vS : ByteArray := ⟨#[118]⟩
def wS : ByteArray := ⟨#[119]⟩
def mainS : ByteArray := ⟨#[109, 97, 105, 110]⟩
def topI (name : ByteArray) : Int := if sameS vS name = true then 0 else if sameS wS name = true then 1 else -1
def tops2 : List S89 := [⟨vS, 16⟩, ⟨wS, 8⟩]
theorem top_f (fns : List S25) (name : ByteArray) : hauberkref12_Top.f 3 tops2 fns name = some (topI name) := by
 have e1 : rd_T89 tops2 0 = ⟨vS, 16⟩ := rfl
 have e2 : rd_T89 tops2 1 = ⟨wS, 8⟩ := rfl
 have w1 : wrap64 ((0 : Int) + 1) = 1 := by unfold wrap64; omega
 have w2 : wrap64 ((1 : Int) + 1) = 2 := by unfold wrap64; omega
 unfold hauberkref12_Top.f topI
 unfold sameS
 simp only [hauberkref12_Top.l0, w1, w2, e1, e2]
 have l : ((tops2.length : Nat) : Int) = 2 := rfl
 rw [l]
 by_cases h1 : vS.toList = name.toList
 ·simp [h1]
 ·by_cases h2 : wS.toList = name.toList
  ·simp [h1, h2]
  ·simp [h1, h2]
theorem row_C' {α : Type} {d : Kd α} {W : World} {g t : Nat} {cur : Array Value} {xs : List α} (h : W.heap[g]? = some (.cells cur t (0, 0))) (hr : Reps (d.K W) d.sz xs cur.toList) (hl : xs.length <= 9223372036854775807) : d.C W (some ⟨g, 0, none⟩) xs.length xs := by
 refine ⟨rfl, hl, fun _ => ⟨_, rfl, fun j p hj => ⟨(cur.toList.drop (j * d.sz)).take d.sz, d.K_len (hr.2 j p hj), hr.2 j p hj, fun i u hi => ?_⟩⟩⟩
 have hi2 : i < d.sz := by have h1 := (List.getElem?_eq_some_iff.1 hi).1; rw [d.K_len (hr.2 j p hj)] at h1; exact h1
 rw [add_plain, blk_cell h, <- Array.getElem?_toList]
 rw [List.getElem?_take, if_pos hi2, List.getElem?_drop] at hi
 exact hi
section
variable {nm : ByteArray} {A1 : Option Addr} {c1 : Nat} {l1 : List Int} {A2 : Option Addr} {c2 : Nat} {l2 : List Int} {A3 : Option Addr} {c3 : Nat} {l3 : List Int} {A4 : Option Addr} {c4 : Nat} {code : List S44}
theorem un_tops {w : World} {gt gf : Nat} {fc : Array Value} (h : UnSt w gt gf fc) : Kd.C k89 w (some ⟨gt, 0, none⟩) 2 tops2 := by
 refine row_C' (d := k89) h.ht ⟨rfl, fun j p hj => ?_⟩ (by decide)
 have hj2 : j < 2 := (List.getElem?_eq_some_iff.1 hj).1
 have : j = 0 ∨ j = 1 := by omega
 rcases this with rfl | rfl
 ·have e : (⟨vS, 16⟩ : S89) = p := by simpa [tops2] using hj
  subst e; exact k89_mk w _
 ·have e : (⟨wS, 8⟩ : S89) = p := by simpa [tops2] using hj
  subst e; exact k89_mk w _
theorem un_fns {w : World} {gt gf : Nat} (h : UnSt w gt gf #[.string nm, .slice A1 l1.length c1, .slice A2 l2.length c2, .slice A3 l3.length c3, .slice A4 code.length c4]) (hf : FnC A1 c1 l1 A2 c2 l2 A3 c3 l3 A4 c4 code w) : Kd.C k25 w (some ⟨gf, 0, none⟩) 1 [⟨nm, l1, l2, l3, code⟩] := by
 refine row_C' (d := k25) h.hf ⟨rfl, fun j p hj => ?_⟩ (by simp)
 obtain rfl : j = 0 := by have := (List.getElem?_eq_some_iff.1 hj).1; simp at this; exact this
 have e : (⟨nm, l1, l2, l3, code⟩ : S25) = p := by simpa using hj
 subst e
 exact k25_mk w ⟨nm, l1, l2, l3, code⟩ hf.g1 hf.h1 hf.g2 hf.h2 hf.g3 hf.h3 hf.g4 hf.h4
theorem top_calls {w : World} {gt gf : Nat} (name : ByteArray) (h : UnSt w gt gf #[.string nm, .slice A1 l1.length c1, .slice A2 l2.length c2, .slice A3 l3.length c3, .slice A4 code.length c4]) (hf : FnC A1 c1 l1 A2 c2 l2 A3 c3 l3 A4 c4 code w) :
  Calls Tryd.prog 36 #[unV gt gf, .string name] w fun e w' => e = .returned (.int .i64 (topI name)) /\ Below w.heap.size w w' :=
 hauberkref12_Top.calls 3 (some ⟨gt, 0, none⟩) 2 tops2 (some ⟨gf, 0, none⟩) 1 [⟨nm, l1, l2, l3, code⟩] name _ w (un_tops h) (Nat.le_refl _) (un_fns h hf) (Nat.le_refl _) (top_f _ _)
theorem fn_calls {w : World} (hf : FnC A1 c1 l1 A2 c2 l2 A3 c3 l3 A4 c4 code w) : Calls Tryd.prog 37 #[.agg #[.string nm, .slice A1 l1.length c1, .slice A2 l2.length c2, .slice A3 l3.length c3, .slice A4 code.length c4]] w fun e w' => e = .returned (.bool (fnB nm l1 l2 l3 code)) /\ Below w.heap.size w w' := by
 obtain ⟨k, hk⟩ := (fn_f nm l1 l2 l3 code hf.h4.2.1 hf.h3.2.1 hf.h2.2.1 hf.h1.2.1).rounds
 exact hauberkref12_function.calls k nm A1 c1 l1 A2 c2 l2 A3 c3 l3 A4 c4 code _ w hf.h1 hf.g1 hf.h2 hf.g2 hf.h3 hf.g3 hf.h4 hf.g4 hk
def retB (code : List S44) (n : Nat) : Bool := (List.range code.length).all fun j => !((rd_T44 code j).f0 == 43) || ((rd_T44 code j).f7.length == n)
def callB (nm : ByteArray) (code : List S44) (i : S44) : Bool := (!(i.f0 == 30) || !(decide (topI i.f6 < 0))) && (!(i.f0 == 42) || (sameS nm i.f6 && (i.f7.length == 0 && retB code i.f8.length)))
def goodB (nm : ByteArray) (l1 l2 l3 : List Int) (code : List S44) : Bool := fnB nm l1 l2 l3 code && (List.range code.length).all fun q => callB nm code (rd_T44 code q)
structure GdSt (w0 w : World) (gu gt gf : Nat) (fc : Array Value) : Prop where
 hu : w.heap[gu]? = some (.cells #[.slice (some ⟨gt, 0, none⟩) 2 2, .slice (some ⟨gf, 0, none⟩) 1 1] 56 (0, 0))
 un : UnSt w gt gf fc
 below : Below w0.heap.size w0 w
theorem GdSt.step {w0 w w' : World} {gu gt gf : Nat} {fc : Array Value} (h : GdSt w0 w gu gt gf fc) (hb : Below w.heap.size w w') : GdSt w0 w' gu gt gf fc := ⟨blk_below h.hu hb, h.un.step hb, below_step h.below hb⟩
set_option maxHeartbeats 8000000 in
set_option maxRecDepth 100000 in
theorem good_calls (gt gf : Nat) (w : World) (hu : UnSt w gt gf #[.string nm, .slice A1 l1.length c1, .slice A2 l2.length c2, .slice A3 l3.length c3, .slice A4 code.length c4]) (hf : FnC A1 c1 l1 A2 c2 l2 A3 c3 l3 A4 c4 code w) (hl1 : l1.length = 0) (hn : sameS nm mainS = true) :
    Calls Tryd.prog 19 #[unV gt gf] w fun e w' => e = .returned (.bool (goodB nm l1 l2 l3 code)) /\ Below w.heap.size w w' := by
  have hu25 := Tryd.underlying25
  have hu44 := Tryd.underlying44
  have hu56 := Tryd.underlying56
  have hu53 := Tryd.underlying53
  have hu54 := Tryd.underlying54
  have hu89 := Tryd.underlying89
  have HF := Aside0.mk hf
  have HN := Aside0.mk hn
  have HL1 := Aside0.mk hl1
  have HS := Aside0.mk (show GdSt w (w.alloc (.cells #[.slice (some ⟨gt, 0, none⟩) 2 2, .slice (some ⟨gf, 0, none⟩) 1 1] 56)) w.heap.size gt gf #[.string nm, .slice A1 l1.length c1, .slice A2 l2.length c2, .slice A3 l3.length c3, .slice A4 code.length c4] from ⟨heap_alloc_new w _, hu.step (us_new w _ _), us_new w _ _⟩)
  have HV := Aside0.mk (show goodB nm l1 l2 l3 code = (fnB nm l1 l2 l3 code && (List.range code.length).all fun q => callB nm code (rd_T44 code q)) from rfl)
  generalize goodB nm l1 l2 l3 code = res at HV
  clear hu hf hn hl1
  unfold unV
  go_enter Tryd.func19, Tryd.ntmps19
  go_upto_region 1 with (fail)
  generalize w.alloc (.cells #[.slice (some ⟨gt, 0, none⟩) 2 2, .slice (some ⟨gf, 0, none⟩) 1 1] 56) = w1 at HS ⊢
  have x0 := (blk_cell HS.out.hu 0).trans (show _ = some (Value.slice (some ⟨gt, 0, none⟩) 2 2) from rfl)
  go_wp2
  clear x0
  go_loopg [19] 2 (fun gg v19 w' => ∃ (k : Nat), k <= 2 /\ 2 - k <= gg /\ v19 = .int .i64 k /\ Aside0 (GdSt w w' w.heap.size gt gf #[.string nm, .slice A1 l1.length c1, .slice A2 l2.length c2, .slice A3 l3.length c3, .slice A4 code.length c4]))
  case atStart => exact ⟨0, by omega, by omega, rfl, HS⟩
  case round =>
    clear HS
    obtain ⟨k, hk, hg, rfl, HS⟩ := hrel
    have hk3 : k = 0 ∨ k = 1 ∨ k = 2 := by omega
    clear hk
    have x0 := (blk_cell HS.out.hu 0).trans (show _ = some (Value.slice (some ⟨gt, 0, none⟩) 2 2) from rfl)
    have x1 := (blk_cell HS.out.hu 1).trans (show _ = some (Value.slice (some ⟨gf, 0, none⟩) 1 1) from rfl)
    have y0 := (blk_cell HS.out.un.ht 0).trans (show _ = some (Value.string ⟨#[118]⟩) from rfl)
    have y1 := (blk_cell HS.out.un.ht 1).trans (show _ = some (Value.int .i64 16) from rfl)
    have y2 := (blk_cell HS.out.un.ht 2).trans (show _ = some (Value.string ⟨#[119]⟩) from rfl)
    have y3 := (blk_cell HS.out.un.ht 3).trans (show _ = some (Value.int .i64 8) from rfl)
    rcases hk3 with rfl | rfl | rfl
    · go_upto_region 5 with (fail)
      have n0_ := Aside0.mk (HS.out.step (us_new wr #[.string ⟨#[118]⟩, .int .i64 16] 89))
      have HG := Aside0.mk (heap_alloc_new wr (.cells #[.string ⟨#[118]⟩, .int .i64 16] 89))
      have HTC := Aside0.mk (top_calls (nm := nm) ⟨#[118]⟩ n0_.out.un (HF.out.below n0_.out.below))
      rw [show topI ⟨#[118]⟩ = 0 by kernel_rfl] at HTC
      clear HS x0 x1 y0 y1 y2 y3
      have HS := n0_
      clear n0_
      generalize wr.alloc (.cells #[.string ⟨#[118]⟩, .int .i64 16] 89) = w2 at HS HG HTC ⊢
      generalize wr.heap.size = g4 at HG ⊢
      have x0 := (blk_cell HS.out.hu 0).trans (show _ = some (Value.slice (some ⟨gt, 0, none⟩) 2 2) from rfl)
      have x1 := (blk_cell HS.out.hu 1).trans (show _ = some (Value.slice (some ⟨gf, 0, none⟩) 1 1) from rfl)
      have n0 := (blk_cell HG.out 0).trans (show _ = some (Value.string ⟨#[118]⟩) from rfl)
      have n1 := (blk_cell HG.out 1).trans (show _ = some (Value.int .i64 16) from rfl)
      unfold unV at HTC
      go_wp2_with (first | (go_at_call 36; (with_reducible refine HTC.out.mono ?_); rintro e w3 ⟨rfl, hb⟩; have n0_ := Aside0.mk (HS.out.step hb); have n1 := pw_cell_below hb n1; clear HS hb; have HS := n0_; clear n0_))
      go_roundg (2 - (0 + 1))
      case measure => omega
      case rel => exact ⟨0 + 1, by omega, by omega, by go_num, HS⟩
    · go_upto_region 5 with (fail)
      have n0_ := Aside0.mk (HS.out.step (us_new wr #[.string ⟨#[119]⟩, .int .i64 8] 89))
      have HG := Aside0.mk (heap_alloc_new wr (.cells #[.string ⟨#[119]⟩, .int .i64 8] 89))
      have HTC := Aside0.mk (top_calls (nm := nm) ⟨#[119]⟩ n0_.out.un (HF.out.below n0_.out.below))
      rw [show topI ⟨#[119]⟩ = 1 by kernel_rfl] at HTC
      clear HS x0 x1 y0 y1 y2 y3
      have HS := n0_
      clear n0_
      generalize wr.alloc (.cells #[.string ⟨#[119]⟩, .int .i64 8] 89) = w2 at HS HG HTC ⊢
      generalize wr.heap.size = g4 at HG ⊢
      have x0 := (blk_cell HS.out.hu 0).trans (show _ = some (Value.slice (some ⟨gt, 0, none⟩) 2 2) from rfl)
      have x1 := (blk_cell HS.out.hu 1).trans (show _ = some (Value.slice (some ⟨gf, 0, none⟩) 1 1) from rfl)
      have n0 := (blk_cell HG.out 0).trans (show _ = some (Value.string ⟨#[119]⟩) from rfl)
      have n1 := (blk_cell HG.out 1).trans (show _ = some (Value.int .i64 8) from rfl)
      unfold unV at HTC
      go_wp2_with (first | (go_at_call 36; (with_reducible refine HTC.out.mono ?_); rintro e w3 ⟨rfl, hb⟩; have n0_ := Aside0.mk (HS.out.step hb); have n1 := pw_cell_below hb n1; clear HS hb; have HS := n0_; clear n0_))
      go_roundg (2 - (1 + 1))
      case measure => omega
      case rel => exact ⟨1 + 1, by omega, by omega, by go_num, HS⟩
    · clear y0 y1 y2 y3
      go_wp2
      clear x0 x1
      go_loopg [52] 1 (fun gg v52 w' => ∃ (k : Nat), k <= 1 /\ 1 - k <= gg /\ v52 = .int .i64 k /\ Aside0 (k = 1 -> fnB nm l1 l2 l3 code = true) /\ Aside0 (GdSt w w' w.heap.size gt gf #[.string nm, .slice A1 l1.length c1, .slice A2 l2.length c2, .slice A3 l3.length c3, .slice A4 code.length c4]))
      case atStart => exact ⟨0, by omega, by omega, rfl, ⟨fun h => by omega⟩, HS⟩
      case round =>
        clear HS
        obtain ⟨k, hk, hg, rfl, HK, HS⟩ := hrel
        have hk2 : k = 0 ∨ k = 1 := by omega
        clear hk
        have x0 := (blk_cell HS.out.hu 0).trans (show _ = some (Value.slice (some ⟨gt, 0, none⟩) 2 2) from rfl)
        have x1 := (blk_cell HS.out.hu 1).trans (show _ = some (Value.slice (some ⟨gf, 0, none⟩) 1 1) from rfl)
        have z0 := (blk_cell HS.out.un.hf 0).trans (show _ = some (Value.string nm) from rfl)
        have z1 := (blk_cell HS.out.un.hf 1).trans (show _ = some (Value.slice A1 l1.length c1) from rfl)
        have z2 := (blk_cell HS.out.un.hf 2).trans (show _ = some (Value.slice A2 l2.length c2) from rfl)
        have z3 := (blk_cell HS.out.un.hf 3).trans (show _ = some (Value.slice A3 l3.length c3) from rfl)
        have z4 := (blk_cell HS.out.un.hf 4).trans (show _ = some (Value.slice A4 code.length c4) from rfl)
        rcases hk2 with rfl | rfl
        · clear x0 x1 z0 z1 z2 z3 z4
          go_wp2
          go_loopg [6] 0 (fun gg v6 w' => v6 = .int .i64 0 /\ Aside0 (GdSt w w' w.heap.size gt gf #[.string nm, .slice A1 l1.length c1, .slice A2 l2.length c2, .slice A3 l3.length c3, .slice A4 code.length c4]))
          case atStart => exact ⟨rfl, HS⟩
          case round =>
            clear HS
            obtain ⟨rfl, HS⟩ := hrel
            have x0 := (blk_cell HS.out.hu 0).trans (show _ = some (Value.slice (some ⟨gt, 0, none⟩) 2 2) from rfl)
            have x1 := (blk_cell HS.out.hu 1).trans (show _ = some (Value.slice (some ⟨gf, 0, none⟩) 1 1) from rfl)
            have z0 := (blk_cell HS.out.un.hf 0).trans (show _ = some (Value.string nm) from rfl)
            have z1 := (blk_cell HS.out.un.hf 1).trans (show _ = some (Value.slice A1 l1.length c1) from rfl)
            have z2 := (blk_cell HS.out.un.hf 2).trans (show _ = some (Value.slice A2 l2.length c2) from rfl)
            have z3 := (blk_cell HS.out.un.hf 3).trans (show _ = some (Value.slice A3 l3.length c3) from rfl)
            have z4 := (blk_cell HS.out.un.hf 4).trans (show _ = some (Value.slice A4 code.length c4) from rfl)
            have HFN := Aside0.mk (fn_calls (nm := nm) (HF.out.below HS.out.below))
            generalize hbf : fnB nm l1 l2 l3 code = bf at HFN HV
            have HBF := Aside0.mk hbf
            clear hbf
            cases bf with
            | false =>
              go_wp2_with (first | (go_at_call 37; (with_reducible refine HFN.out.mono ?_); rintro e w3 ⟨rfl, hb⟩; have HB3 := Aside0.mk (below_step HS.out.below hb); clear hb))
              go_ret
              exact ⟨by have h := HV.out; rw [Bool.false_and] at h; subst h; rfl, HB3.out⟩
            | true =>
              go_wp2_with (first | (go_at_call 37; (with_reducible refine HFN.out.mono ?_); rintro e w3 ⟨rfl, hb⟩; have n0_ := Aside0.mk (HS.out.step hb); clear hb HS; have HS := n0_; clear n0_))
              go_roundg 0
              case measure => omega
              case rel => exact ⟨1, by omega, by omega, by go_num, ⟨fun _ => HBF.out⟩, HS⟩
        · have HV1 := Aside0.mk (show res = (List.range code.length).all fun q => callB nm code (rd_T44 code q) by rw [HV.out, HK.out rfl, Bool.true_and])
          clear HV HK z0 z1 z2 z3 z4
          go_wp2
          clear x0 x1
          have HV2 := Aside0.mk (show res = allFrom code.length (fun q => callB nm code (rd_T44 code q)) 0 by rw [allFrom_zero]; exact HV1.out)
          clear HV1
          go_loopg [84] 1 (fun gg v84 w' => ∃ (k : Nat), k <= 1 /\ 1 - k <= gg /\ v84 = .int .i64 k /\ Aside0 (k = 1 -> res = true) /\ Aside0 (GdSt w w' w.heap.size gt gf #[.string nm, .slice A1 l1.length c1, .slice A2 l2.length c2, .slice A3 l3.length c3, .slice A4 code.length c4]))
          case atStart => exact ⟨0, by omega, by omega, rfl, ⟨fun h => by omega⟩, HS⟩
          case round =>
            clear HS
            obtain ⟨k, hk, hg, rfl, HK, HS⟩ := hrel
            have hk2 : k = 0 ∨ k = 1 := by omega
            clear hk
            have x0 := (blk_cell HS.out.hu 0).trans (show _ = some (Value.slice (some ⟨gt, 0, none⟩) 2 2) from rfl)
            have x1 := (blk_cell HS.out.hu 1).trans (show _ = some (Value.slice (some ⟨gf, 0, none⟩) 1 1) from rfl)
            have z0 := (blk_cell HS.out.un.hf 0).trans (show _ = some (Value.string nm) from rfl)
            have z1 := (blk_cell HS.out.un.hf 1).trans (show _ = some (Value.slice A1 l1.length c1) from rfl)
            have z2 := (blk_cell HS.out.un.hf 2).trans (show _ = some (Value.slice A2 l2.length c2) from rfl)
            have z3 := (blk_cell HS.out.un.hf 3).trans (show _ = some (Value.slice A3 l3.length c3) from rfl)
            have z4 := (blk_cell HS.out.un.hf 4).trans (show _ = some (Value.slice A4 code.length c4) from rfl)
            rcases hk2 with rfl | rfl
            · go_upto_region 23 with (fail)
              have H8 := Aside0.mk (heap_alloc_new wr (.cells #[.string nm, .slice A1 l1.length c1, .slice A2 l2.length c2, .slice A3 l3.length c3, .slice A4 code.length c4] 25))
              have n0_ := Aside0.mk (HS.out.step (us_new wr #[.string nm, .slice A1 l1.length c1, .slice A2 l2.length c2, .slice A3 l3.length c3, .slice A4 code.length c4] 25))
              clear HS x0 x1 z0 z1 z2 z3 z4
              have HS := n0_
              clear n0_
              generalize wr.alloc (.cells #[.string nm, .slice A1 l1.length c1, .slice A2 l2.length c2, .slice A3 l3.length c3, .slice A4 code.length c4] 25) = w2 at HS H8 ⊢
              generalize wr.heap.size = g8 at H8 ⊢
              have k4 := (blk_cell H8.out 4).trans (show _ = some (Value.slice A4 code.length c4) from rfl)
              go_wp2
              clear k4
              go_loopg [95] code.length (fun gg v95 w' => ∃ (q : Nat), q <= code.length /\ code.length - q <= gg /\ v95 = .int .i64 q /\ Aside0 (res = allFrom code.length (fun q => callB nm code (rd_T44 code q)) q) /\ Aside0 (w'.heap[g8]? = some (.cells #[.string nm, .slice A1 l1.length c1, .slice A2 l2.length c2, .slice A3 l3.length c3, .slice A4 code.length c4] 25 (0, 0))) /\ Aside0 (GdSt w w' w.heap.size gt gf #[.string nm, .slice A1 l1.length c1, .slice A2 l2.length c2, .slice A3 l3.length c3, .slice A4 code.length c4]))
              case atStart => exact ⟨0, by omega, by omega, rfl, HV2, H8, HS⟩
              case round =>
                clear HS HV2 H8
                obtain ⟨q, hq, hgq, rfl, HV2, H8, HS⟩ := hrel
                by_cases hlt : q < code.length
                · have k4 := (blk_cell H8.out 4).trans (show _ = some (Value.slice A4 code.length c4) from rfl)
                  have p0 : 0 <= (q : Int) := by omega
                  have p1 : (q : Int) < (code.length : Int) := by omega
                  obtain ⟨ad, A7, c7, A8, c8, ea, hx0, hx1, hx2, hx3, hx4, hx5, hx6, hx7, hx8, hx9, hl7, hi7, hl8, hi8⟩ := at_T44 (HF.out.below HS.out.below).h4 (q : Int) p0 p1
                  subst ea
                  rw [Int.toNat_natCast] at hx0 hx1 hx2 hx3 hx4 hx5 hx6 hx7 hx8 hx9
                  have HV3 := Aside0.mk (HV2.out.trans (allFrom_step _ _ q hlt))
                  have HC := Aside0.mk (show callB nm code (rd_T44 code q) = ((!((rd_T44 code q).f0 == 30) || !(decide (topI (rd_T44 code q).f6 < 0))) && (!((rd_T44 code q).f0 == 42) || (sameS nm (rd_T44 code q).f6 && ((rd_T44 code q).f7.length == 0 && retB code (rd_T44 code q).f8.length)))) from rfl)
                  generalize callB nm code (rd_T44 code q) = cq at HC HV3
                  clear HV2 hl7 hi7 hl8 hi8
                  generalize rd_T44 code q = x at HC hx0 hx1 hx2 hx3 hx4 hx5 hx6 hx7 hx8 hx9
                  obtain ⟨f0, f1, f2, f3, f4, f5, f6, f7, f8, f9⟩ := x
                  dsimp only at HC hx0 hx1 hx2 hx3 hx4 hx5 hx6 hx7 hx8 hx9
                  have hqw : IntKind.i64.wrap ((q : Int) + 1) = ((q + 1 : Nat) : Int) := by have := HF.out.h4.2.1; rw [IntKind.wrap_i64]; omega
                  go_upto_region 27 with (fail)
                  have n0_ := Aside0.mk (HS.out.step (us_new wr #[.int .i64 f0, .int .i64 f1, .int .i64 f2, .int .i64 f3, .int .u64 f4, .int .i64 f5, .string f6, .slice A7 f7.length c7, .slice A8 f8.length c8, .int .i64 f9] 44))
                  have n1_ := Aside0.mk (lv_al H8.out (.cells #[.int .i64 f0, .int .i64 f1, .int .i64 f2, .int .i64 f3, .int .u64 f4, .int .i64 f5, .string f6, .slice A7 f7.length c7, .slice A8 f8.length c8, .int .i64 f9] 44))
                  have H10 := Aside0.mk (heap_alloc_new wr (.cells #[.int .i64 f0, .int .i64 f1, .int .i64 f2, .int .i64 f3, .int .u64 f4, .int .i64 f5, .string f6, .slice A7 f7.length c7, .slice A8 f8.length c8, .int .i64 f9] 44))
                  clear HS H8 hx0 hx1 hx2 hx3 hx4 hx5 hx6 hx7 hx8 hx9 k4
                  have HS := n0_
                  have H8 := n1_
                  clear n0_ n1_
                  generalize wr.alloc (.cells #[.int .i64 f0, .int .i64 f1, .int .i64 f2, .int .i64 f3, .int .u64 f4, .int .i64 f5, .string f6, .slice A7 f7.length c7, .slice A8 f8.length c8, .int .i64 f9] 44) = w2 at HS H8 H10 ⊢
                  generalize wr.heap.size = g10 at H10 ⊢
                  have x0 := (blk_cell HS.out.hu 0).trans (show _ = some (Value.slice (some ⟨gt, 0, none⟩) 2 2) from rfl)
                  have x1 := (blk_cell HS.out.hu 1).trans (show _ = some (Value.slice (some ⟨gf, 0, none⟩) 1 1) from rfl)
                  have m0 := (blk_cell H10.out 0).trans (show _ = some (Value.int .i64 f0) from rfl)
                  have m6 := (blk_cell H10.out 6).trans (show _ = some (Value.string f6) from rfl)
                  have m7 := (blk_cell H10.out 7).trans (show _ = some (Value.slice A7 f7.length c7) from rfl)
                  have m8 := (blk_cell H10.out 8).trans (show _ = some (Value.slice A8 f8.length c8) from rfl)
                  cases e30 : (f0 == 30)
                  rotate_left
                  · have e42 : (f0 != 42) = true := by have h : f0 = 30 := by simpa using e30
                                                       rw [h]; rfl
                    have HTC := Aside0.mk (top_calls (nm := nm) f6 HS.out.un (HF.out.below HS.out.below))
                    unfold unV at HTC
                    by_cases ht : topI f6 < 0
                    · have HCQ := Aside0.mk (show cq = false by rw [HC.out, e30, decide_eq_true ht]; rfl)
                      generalize topI f6 = tv at HTC ht
                      go_wp2_with (first | (go_at_call 36; (with_reducible refine HTC.out.mono ?_); rintro e w3 ⟨rfl, hb⟩; have n0_ := Aside0.mk (HS.out.step hb); have n1_ := Aside0.mk (blk_below H8.out hb); have n2_ := Aside0.mk (blk_below H10.out hb); clear HS H8 H10 hb; have HS := n0_; have H8 := n1_; have H10 := n2_; clear n0_ n1_ n2_))
                      go_ret
                      exact ⟨by have h := HV3.out; rw [HCQ.out, Bool.false_and] at h; subst h; rfl, HS.out.below⟩
                    · have HCQ := Aside0.mk (show cq = true by
                        have h : f0 = 30 := by simpa using e30
                        rw [HC.out, e30, decide_eq_false ht, h]; rfl)
                      generalize topI f6 = tv at HTC ht
                      go_wp2_with (first | (go_at_call 36; (with_reducible refine HTC.out.mono ?_); rintro e w3 ⟨rfl, hb⟩; have m0 := pw_cell_below hb m0; have n0_ := Aside0.mk (HS.out.step hb); have n1_ := Aside0.mk (blk_below H8.out hb); have n2_ := Aside0.mk (blk_below H10.out hb); clear HS H8 H10 hb; have HS := n0_; have H8 := n1_; have H10 := n2_; clear n0_ n1_ n2_))
                      go_roundg (code.length - (q + 1))
                      case measure => omega
                      case rel => exact ⟨q + 1, by omega, Nat.le_refl _, by go_num, ⟨by rw [HV3.out, HCQ.out, Bool.true_and]⟩, H8, HS⟩
                  cases e42 : (f0 == 42)
                  · have b42 : (f0 != 42) = true := by simp [bne, e42]
                    have HCQ := Aside0.mk (show cq = true by rw [HC.out, e30, e42]; rfl)
                    go_wp2
                    go_roundg (code.length - (q + 1))
                    case measure => omega
                    case rel => exact ⟨q + 1, by omega, Nat.le_refl _, by go_num, ⟨by rw [HV3.out, HCQ.out, Bool.true_and]⟩, H8, HS⟩
                  have b42 : (f0 != 42) = false := by simp [bne, e42]
                  have HFU := Aside0.mk (fun_calls (nm := nm) f6 gt gf w2 HS.out.un)
                  unfold unV FuPost at HFU
                  cases hs : sameS nm f6
                  · have HCQ := Aside0.mk (show cq = false by rw [HC.out, e30, e42, hs]; rfl)
                    rw [hs, if_neg (by decide)] at HFU
                    unfold zFn at HFU
                    go_wp2_with (first | (go_at_call 38; (with_reducible refine HFU.out.mono ?_); rintro e w3 ⟨rfl, hb⟩; have n0_ := Aside0.mk (HS.out.step hb); have n1_ := Aside0.mk (blk_below H8.out hb); have n2_ := Aside0.mk (blk_below H10.out hb); clear HS H8 H10 hb; have HS := n0_; have H8 := n1_; have H10 := n2_; clear n0_ n1_ n2_))
                    go_ret
                    exact ⟨by have h := HV3.out; rw [HCQ.out, Bool.false_and] at h; subst h; rfl, HS.out.below.alloc (below_size HS.out.below) _⟩
                  rw [hs, if_pos rfl] at HFU
                  go_upto_region 31 with (first | (go_at_call 38; (with_reducible refine HFU.out.mono ?_); rintro e w3 ⟨rfl, hb⟩; have n0_ := Aside0.mk (HS.out.step hb); have n1_ := Aside0.mk (blk_below H8.out hb); have n2_ := Aside0.mk (blk_below H10.out hb); clear HS H8 H10 hb; have HS := n0_; have H8 := n1_; have H10 := n2_; clear n0_ n1_ n2_))
                  have n0_ := Aside0.mk (HS.out.step (us_new w3 #[.string nm, .slice A1 l1.length c1, .slice A2 l2.length c2, .slice A3 l3.length c3, .slice (some ad) code.length c4] 25))
                  have n1_ := Aside0.mk (lv_al H8.out (.cells #[.string nm, .slice A1 l1.length c1, .slice A2 l2.length c2, .slice A3 l3.length c3, .slice (some ad) code.length c4] 25))
                  have n2_ := Aside0.mk (lv_al H10.out (.cells #[.string nm, .slice A1 l1.length c1, .slice A2 l2.length c2, .slice A3 l3.length c3, .slice (some ad) code.length c4] 25))
                  have H11 := Aside0.mk (heap_alloc_new w3 (.cells #[.string nm, .slice A1 l1.length c1, .slice A2 l2.length c2, .slice A3 l3.length c3, .slice (some ad) code.length c4] 25))
                  clear HS H8 H10 HFU m0 m6 m7 m8 x0 x1
                  have HS := n0_
                  have H8 := n1_
                  have H10 := n2_
                  clear n0_ n1_ n2_
                  generalize w3.alloc (.cells #[.string nm, .slice A1 l1.length c1, .slice A2 l2.length c2, .slice A3 l3.length c3, .slice (some ad) code.length c4] 25) = w4 at HS H8 H10 H11 ⊢
                  generalize w3.heap.size = g11 at H11 ⊢
                  have m7 := (blk_cell H10.out 7).trans (show _ = some (Value.slice A7 f7.length c7) from rfl)
                  have j1 := (blk_cell H11.out 1).trans (show _ = some (Value.slice A1 l1.length c1) from rfl)
                  have j4 := (blk_cell H11.out 4).trans (show _ = some (Value.slice (some ad) code.length c4) from rfl)
                  cases e7 : (f7.length == 0)
                  · have b7 : ((f7.length : Int) != (l1.length : Int)) = true := by
                      have h1 := HL1.out
                      have h2 : ¬ f7.length = 0 := by simpa using e7
                      simp only [bne_iff_ne, ne_eq]
                      omega
                    have HCQ := Aside0.mk (show cq = false by rw [HC.out, e30, e42, hs, e7]; rfl)
                    go_wp2
                    go_ret
                    exact ⟨by have h := HV3.out; rw [HCQ.out, Bool.false_and] at h; subst h; rfl, HS.out.below⟩
                  have b7 : ((f7.length : Int) != (l1.length : Int)) = false := by
                    have h1 := HL1.out
                    have h2 : f7.length = 0 := by simpa using e7
                    rw [h1, h2]; rfl
                  have HCQ0 := Aside0.mk (show cq = retB code f8.length by rw [HC.out, e30, e42, hs, e7]; rfl)
                  have HR0 := Aside0.mk (show retB code f8.length = allFrom code.length (fun j => !((rd_T44 code j).f0 == 43) || ((rd_T44 code j).f7.length == f8.length)) 0 by rw [allFrom_zero]; rfl)
                  go_wp2
                  clear m7 j1 j4
                  go_loopg [137] code.length (fun gg v137 w' => ∃ (j : Nat), j <= code.length /\ code.length - j <= gg /\ v137 = .int .i64 j /\ Aside0 (retB code f8.length = allFrom code.length (fun j => !((rd_T44 code j).f0 == 43) || ((rd_T44 code j).f7.length == f8.length)) j) /\ Aside0 (w'.heap[g8]? = some (.cells #[.string nm, .slice A1 l1.length c1, .slice A2 l2.length c2, .slice A3 l3.length c3, .slice (some ad) code.length c4] 25 (0, 0))) /\ Aside0 (w'.heap[g10]? = some (.cells #[.int .i64 f0, .int .i64 f1, .int .i64 f2, .int .i64 f3, .int .u64 f4, .int .i64 f5, .string f6, .slice A7 f7.length c7, .slice A8 f8.length c8, .int .i64 f9] 44 (0, 0))) /\ Aside0 (w'.heap[g11]? = some (.cells #[.string nm, .slice A1 l1.length c1, .slice A2 l2.length c2, .slice A3 l3.length c3, .slice (some ad) code.length c4] 25 (0, 0))) /\ Aside0 (GdSt w w' w.heap.size gt gf #[.string nm, .slice A1 l1.length c1, .slice A2 l2.length c2, .slice A3 l3.length c3, .slice (some ad) code.length c4]))
                  case atStart => exact ⟨0, by omega, by omega, rfl, HR0, H8, H10, H11, HS⟩
                  case round =>
                    clear HS H8 H10 H11 HR0
                    obtain ⟨j, hj, hgj, rfl, HR0, H8, H10, H11, HS⟩ := hrel
                    by_cases hlt2 : j < code.length
                    · have m8 := (blk_cell H10.out 8).trans (show _ = some (Value.slice A8 f8.length c8) from rfl)
                      have j4 := (blk_cell H11.out 4).trans (show _ = some (Value.slice (some ad) code.length c4) from rfl)
                      have r0 : 0 <= (j : Int) := by omega
                      have r1 : (j : Int) < (code.length : Int) := by omega
                      have hjw : IntKind.i64.wrap ((j : Int) + 1) = ((j + 1 : Nat) : Int) := by have := HF.out.h4.2.1; rw [IntKind.wrap_i64]; omega
                      obtain ⟨ad2, B7, d7, B8, d8, ea2, hy0, _, _, _, _, _, _, hy7, _, _, _, _, _, _⟩ := at_T44 (HF.out.below HS.out.below).h4 (j : Int) r0 r1
                      obtain rfl := Option.some.inj ea2
                      rw [Int.toNat_natCast] at hy0 hy7
                      have HR1 := Aside0.mk (HR0.out.trans (allFrom_step _ _ j hlt2))
                      have hdw := pw_below_drewN (Below.refl wr.heap.size wr)
                      clear HR0
                      cases e43 : ((rd_T44 code j).f0 == 43)
                      · have HR2 := Aside0.mk (show retB code f8.length = allFrom code.length (fun j => !((rd_T44 code j).f0 == 43) || ((rd_T44 code j).f7.length == f8.length)) (j + 1) by rw [HR1.out, e43]; rfl)
                        clear HR1
                        generalize rd_T44 code j = y at hy0 hy7 e43
                        obtain ⟨yf0, yf1, yf2, yf3, yf4, yf5, yf6, yf7, yf8, yf9⟩ := y
                        dsimp only at hy0 hy7 e43
                        go_wp2
                        go_quiet (fail)
                        go_wp2
                        go_roundg (code.length - (j + 1))
                        case measure => omega
                        case rel => exact ⟨j + 1, by omega, Nat.le_refl _, by go_num, HR2, ⟨blk_below H8.out (hdw _)⟩, ⟨blk_below H10.out (hdw _)⟩, ⟨blk_below H11.out (hdw _)⟩, ⟨HS.out.step (hdw _)⟩⟩
                      · cases el : ((rd_T44 code j).f7.length == f8.length)
                        · have HCQ := Aside0.mk (show cq = false by rw [HCQ0.out, HR1.out, e43, el]; rfl)
                          have bl : (((rd_T44 code j).f7.length : Int) != (f8.length : Int)) = true := by
                            have h2 : ¬ (rd_T44 code j).f7.length = f8.length := by simpa using el
                            simp only [bne_iff_ne, ne_eq]
                            omega
                          clear HR1 el
                          generalize rd_T44 code j = y at hy0 hy7 e43 bl
                          obtain ⟨yf0, yf1, yf2, yf3, yf4, yf5, yf6, yf7, yf8, yf9⟩ := y
                          dsimp only at hy0 hy7 e43 bl
                          go_wp2
                          go_quiet (fail)
                          go_wp2
                          go_ret
                          exact ⟨by have h := HV3.out; rw [HCQ.out, Bool.false_and] at h; subst h; rfl, (HS.out.step (hdw _)).below⟩
                        · have HR2 := Aside0.mk (show retB code f8.length = allFrom code.length (fun j => !((rd_T44 code j).f0 == 43) || ((rd_T44 code j).f7.length == f8.length)) (j + 1) by rw [HR1.out, el, Bool.or_true, Bool.true_and])
                          have bl : (((rd_T44 code j).f7.length : Int) != (f8.length : Int)) = false := by
                            have h2 : (rd_T44 code j).f7.length = f8.length := by simpa using el
                            rw [h2]; simp
                          clear HR1 el
                          generalize rd_T44 code j = y at hy0 hy7 e43 bl
                          obtain ⟨yf0, yf1, yf2, yf3, yf4, yf5, yf6, yf7, yf8, yf9⟩ := y
                          dsimp only at hy0 hy7 e43 bl
                          go_wp2
                          go_quiet (fail)
                          go_wp2
                          go_roundg (code.length - (j + 1))
                          case measure => omega
                          case rel => exact ⟨j + 1, by omega, Nat.le_refl _, by go_num, HR2, ⟨blk_below H8.out (hdw _)⟩, ⟨blk_below H10.out (hdw _)⟩, ⟨blk_below H11.out (hdw _)⟩, ⟨HS.out.step (hdw _)⟩⟩
                    · obtain rfl : j = code.length := by omega
                      have HCQ := Aside0.mk (show cq = true by rw [HCQ0.out, HR0.out, allFrom_end])
                      clear HR0 HCQ0 hlt2 hj hgj
                      go_wp2
                      go_roundg (code.length - (q + 1))
                      case measure => omega
                      case rel => exact ⟨q + 1, by omega, Nat.le_refl _, by go_num, ⟨by rw [HV3.out, HCQ.out, Bool.true_and]⟩, H8, HS⟩
                · obtain rfl : q = code.length := by omega
                  have HRT := Aside0.mk (show res = true by rw [HV2.out, allFrom_end])
                  clear hlt hq hgq HV2
                  go_wp2
                  go_roundg 0
                  case measure => omega
                  case rel => exact ⟨1, by omega, by omega, by go_num, ⟨fun _ => HRT.out⟩, HS⟩
            · have hr := HK.out rfl
              have HR := Aside0.mk hr
              clear hr HK HV2 z0 z1 z2 z3 z4
              have HFU := Aside0.mk (fun W (h : UnSt W gt gf #[.string nm, .slice A1 l1.length c1, .slice A2 l2.length c2, .slice A3 l3.length c3, .slice A4 code.length c4]) => fun_calls (nm := nm) mainS gt gf W h)
              have hl0 : ((l1.length : Int) == 0) = true := by rw [HL1.out]; rfl
              rw [HN.out] at HFU
              unfold unV FuPost mainS at HFU
              simp only [if_true] at HFU
              go_wp2_with (first | (go_at_call 38; (with_reducible refine (HFU.out _ HS.out.un).mono ?_); rintro e w3 ⟨rfl, hb⟩; have n0_ := Aside0.mk (HS.out.step hb); clear HS hb; have HS := n0_; clear n0_))
              go_ret
              exact ⟨by have h := HR.out; subst h; rfl, HS.out.below.alloc (below_size HS.out.below) _⟩
end
end
section
section
variable {nm : ByteArray} {A1 : Option Addr} {c1 : Nat} {l1 : List Int} {A2 : Option Addr} {c2 : Nat} {l2 : List Int} {A3 : Option Addr} {c3 : Nat} {l3 : List Int} {A4 : Option Addr} {c4 : Nat} {code : List S44}
def fitsB (l2 l3 : List Int) (code : List S44) : Bool := decide (code.length <= 80) && (decide (l2.length <= 40) && (decide (l3.length <= 10) && goodB mainS [] l2 l3 code))
def FtPost (A2 : Option Addr) (c2 : Nat) (l2 : List Int) (A3 : Option Addr) (c3 : Nat) (l3 : List Int) (A4 : Option Addr) (c4 : Nat) (code : List S44) (w : World) (e : Ending) (w' : World) : Prop :=
 e = .returned (.tuple #[.agg #[.string ⟨#[109, 97, 105, 110]⟩, .slice none 0 0, .slice A2 l2.length c2, .slice A3 l3.length c3, .slice A4 code.length c4], .bool (fitsB l2 l3 code)]) /\ Below w.heap.size w w'
theorem FnC.bare {w : World} (h : FnC A1 c1 l1 A2 c2 l2 A3 c3 l3 A4 c4 code w) : FnC none 0 [] A2 c2 l2 A3 c3 l3 A4 c4 code w := ⟨⟨rfl, by simp, fun h => absurd h (by decide)⟩, Nat.le_refl _, h.h2, h.g2, h.h3, h.g3, h.h4, h.g4⟩
set_option maxHeartbeats 8000000 in
set_option maxRecDepth 100000 in
theorem fits_calls (w : World) (hf : FnC A1 c1 l1 A2 c2 l2 A3 c3 l3 A4 c4 code w) :
  Calls Tryd.prog 9 #[.agg #[.string nm, .slice A1 l1.length c1, .slice A2 l2.length c2, .slice A3 l3.length c3, .slice A4 code.length c4]] w (FtPost A2 c2 l2 A3 c3 l3 A4 c4 code w) := by
 have hu25 := Tryd.underlying25
 have HF := Aside0.mk hf.bare
 clear hf
 obtain ⟨r, hr⟩ : ∃ r, fitsB l2 l3 code = r := ⟨_, rfl⟩
 unfold FtPost
 rw [hr]
 have HR := Aside0.mk hr
 clear hr
 go_enter Tryd.func9, Tryd.ntmps9
 go_upto_region 2 with (fail)
 have G1 := Aside0.mk (lv_al (heap_alloc_new w (.cells #[.string ⟨#[109, 97, 105, 110]⟩, .slice none 0 0, .slice A2 l2.length c2, .slice A3 l3.length c3, .slice A4 code.length c4] 25)) (.cells #[.string ⟨#[]⟩, .slice none 0 0, .slice none 0 0, .slice none 0 0, .slice none 0 0] 25))
 have G2 := Aside0.mk (two_new w (.cells #[.string ⟨#[109, 97, 105, 110]⟩, .slice none 0 0, .slice A2 l2.length c2, .slice A3 l3.length c3, .slice A4 code.length c4] 25) (.cells #[.string ⟨#[]⟩, .slice none 0 0, .slice none 0 0, .slice none 0 0, .slice none 0 0] 25))
 have HB := Aside0.mk (show Below w.heap.size w ((w.alloc (.cells #[.string ⟨#[109, 97, 105, 110]⟩, .slice none 0 0, .slice A2 l2.length c2, .slice A3 l3.length c3, .slice A4 code.length c4] 25)).alloc (.cells #[.string ⟨#[]⟩, .slice none 0 0, .slice none 0 0, .slice none 0 0, .slice none 0 0] 25)) from ((Below.refl _ _).alloc (Nat.le_refl _) _).alloc (by simp) _)
 have hsz : w.heap.size <= w.heap.size + 1 := by omega
 generalize ((w.alloc (.cells #[.string ⟨#[109, 97, 105, 110]⟩, .slice none 0 0, .slice A2 l2.length c2, .slice A3 l3.length c3, .slice A4 code.length c4] 25)).alloc (.cells #[.string ⟨#[]⟩, .slice none 0 0, .slice none 0 0, .slice none 0 0, .slice none 0 0] 25)) = w2 at *
 have z0 := (blk_cell G1.out 0).trans (show _ = some (Value.string ⟨#[109, 97, 105, 110]⟩) from rfl)
 have z1 := (blk_cell G1.out 1).trans (show _ = some (Value.slice none 0 0) from rfl)
 have z2 := (blk_cell G1.out 2).trans (show _ = some (Value.slice A2 l2.length c2) from rfl)
 have z3 := (blk_cell G1.out 3).trans (show _ = some (Value.slice A3 l3.length c3) from rfl)
 have z4 := (blk_cell G1.out 4).trans (show _ = some (Value.slice A4 code.length c4) from rfl)
 have HAL := Aside0.mk (alone_calls (nm := mainS) (A1 := none) (c1 := 0) (l1 := []) (A2 := A2) (c2 := c2) (l2 := l2) (A3 := A3) (c3 := c3) (l3 := l3) (A4 := A4) (c4 := c4) (code := code) w2)
 have HGD := Aside0.mk (fun gt gf W hu hf => good_calls (nm := mainS) (A1 := none) (c1 := 0) (l1 := []) (A2 := A2) (c2 := c2) (l2 := l2) (A3 := A3) (c3 := c3) (l3 := l3) (A4 := A4) (c4 := c4) (code := code) gt gf W hu hf rfl (by kernel_rfl))
 unfold mainS at HAL HGD
 simp only [List.length_nil] at HAL HGD
 unfold fitsB mainS at HR
 generalize goodB ⟨#[109, 97, 105, 110]⟩ [] l2 l3 code = gb at HGD HR
 go_cut [4] (fun v4 wc => v4 = .bool r /\ Aside0 (Below w2.heap.size w2 wc))
 case first =>
  have HN := Aside0.mk (Below.refl w2.heap.size w2)
  by_cases a0 : code.length <= 80
  ·have b0 : decide (code.length <= 80) = true := decide_eq_true a0
   have a0' : (code.length : Int) <= 80 := by omega
   by_cases a1 : l2.length <= 40
   ·have b1 : decide (l2.length <= 40) = true := decide_eq_true a1
    have a1' : (l2.length : Int) <= 40 := by omega
    by_cases a2 : l3.length <= 10
    ·have b2 : decide (l3.length <= 10) = true := decide_eq_true a2
     have a2' : (l3.length : Int) <= 10 := by omega
     have HR2 := Aside0.mk (show gb = r by have h := HR.out; rw [b0, b1, b2] at h; exact h)
     clear HR a0 a1 a2 b0 b1 b2
     go_wp2_with (first | (go_at_call 20; (with_reducible refine HAL.out.mono ?_); rintro e w3 ⟨gt, gf, rfl, hu, hb⟩; have HU := Aside0.mk hu; have HN3 := Aside0.mk hb; clear hu hb) | (go_at_call 19; (with_reducible refine (HGD.out gt gf w3 HU.out ((HF.out.below HB.out).below HN3.out)).mono ?_); rintro e w5 ⟨rfl, hb⟩; have HN5 := Aside0.mk (below_step HN3.out hb); clear hb))
     go_meet
     case rel => exact ⟨by rw [HR2.out], HN5⟩
    ·have b2 : decide (l3.length <= 10) = false := decide_eq_false a2
     have a2' : ¬ (l3.length : Int) <= 10 := by omega
     have HR2 := Aside0.mk (show false = r by have h := HR.out; rw [b0, b1, b2] at h; exact h)
     clear HR a0 a1 a2 b0 b1 b2
     go_wp2
     go_meet
     case rel => exact ⟨by rw [HR2.out], HN⟩
   ·have b1 : decide (l2.length <= 40) = false := decide_eq_false a1
    have a1' : ¬ (l2.length : Int) <= 40 := by omega
    have HR2 := Aside0.mk (show false = r by have h := HR.out; rw [b0, b1] at h; exact h)
    clear HR a0 a1 b0 b1
    go_wp2
    go_meet
    case rel => exact ⟨by rw [HR2.out], HN⟩
  ·have b0 : decide (code.length <= 80) = false := decide_eq_false a0
   have a0' : ¬ (code.length : Int) <= 80 := by omega
   have HR2 := Aside0.mk (show false = r by have h := HR.out; rw [b0] at h; exact h)
   clear HR a0 b0
   go_wp2
   go_meet
   case rel => exact ⟨by rw [HR2.out], HN⟩
 case rest =>
  obtain ⟨rfl, HW⟩ := hcut
  have H1 := Aside0.mk (blk_below G1.out HW.out)
  have H2 := Aside0.mk (blk_below G2.out HW.out)
  have HBW := Aside0.mk (below_step HB.out HW.out)
  clear z0 z1 z2 z3 z4 HAL HGD HR G1 G2 HB HW
  have z0 := (blk_cell H1.out 0).trans (show _ = some (Value.string ⟨#[109, 97, 105, 110]⟩) from rfl)
  have z1 := (blk_cell H1.out 1).trans (show _ = some (Value.slice none 0 0) from rfl)
  have z2 := (blk_cell H1.out 2).trans (show _ = some (Value.slice A2 l2.length c2) from rfl)
  have z3 := (blk_cell H1.out 3).trans (show _ = some (Value.slice A3 l3.length c3) from rfl)
  have z4 := (blk_cell H1.out 4).trans (show _ = some (Value.slice A4 code.length c4) from rfl)
  have r0 := (blk_cell H2.out 0).trans (show _ = some (Value.string ⟨#[]⟩) from rfl)
  have r1 := (blk_cell H2.out 1).trans (show _ = some (Value.slice none 0 0) from rfl)
  have r2 := (blk_cell H2.out 2).trans (show _ = some (Value.slice none 0 0) from rfl)
  have r3 := (blk_cell H2.out 3).trans (show _ = some (Value.slice none 0 0) from rfl)
  have r4 := (blk_cell H2.out 4).trans (show _ = some (Value.slice none 0 0) from rfl)
  have q0 := blk_frozen H2.out 0
  have q1 := blk_frozen H2.out 1
  have q2 := blk_frozen H2.out 2
  have q3 := blk_frozen H2.out 3
  have q4 := blk_frozen H2.out 4
  go_wp2
  refine bodyPost_ret (results_ct rfl _ _ (w.heap.size + 1) 25 _ (0, 0) _ rfl (fn_put5 H2.out _ _ _ _ _) Tryd.underlying25 rfl (by kernel_rfl)) rfl ?_
  exact ⟨rfl, fn_below5 HBW.out (by omega) _ _ _ _ _⟩
end
end
end Go.Proofs.YtjfleaekljapeaaDoor.K
