/- What Go functions of this seat answer: each has a Lean function ('.f') and a contract ('.calls'). Conditions: those of each theorem. Written by a program over the kit's printer; what is marked 'typed by hand' is this session's. -/
import Derived.Test.YtgpdopfkkopgjaaK0
import Derived.Test.YtgpdopfkkopgjaaK11
import Derived.Test.YtgpdopfkkopgjaaK12
import Derived.Test.YtgpdopfkkopgjaaK13
namespace Go.Proofs.Ytgpdopfkkopgjaa.K
open Go.RowKit Go.Proofs.YtgpdopfkkopgjaaW.PrintWords Go.Proofs.YtgpdopfkkopgjaaW.PrintLast Go.Proofs.YtgpdopfkkopgjaaW.PrintMore
attribute [local go_sem] max2_int min2_int max_two min_two max_three min_three max_four min_four   -- for this text's walks alone
set_option linter.unusedVariables false
set_option linter.unusedSimpArgs false

/-! ### hauberkref04_Check: function 22 -/
mutual
def hauberkref04_Check.l0 : Nat → List (S30) → Int → Int → Option (Int × Int)
 | 0, _, _, _ => none
 | k + 1, x0, x21, x22 => if x22 < x21 then (if 0 ≤ x22 then (if x22 < (x0.length : Int) then (if x22 ≤ (x0.length : Int) then ((hauberkref04_Find.f k (x0.take (x22 : Int).toNat) ((rd_T30 x0 x22).f0)).bind fun bt151 => (if bt151.2.2.2 = true then (some ((rd_T30 x0 x22).f2, 13)) else (if (((rd_T30 x0 x22).f1).length : Int) = 0 then (hauberkref04_Check.j1 k x0 x21 x22 true ((rd_T30 x0 x22).f0) ((rd_T30 x0 x22).f1) ((rd_T30 x0 x22).f2)) else (hauberkref04_Check.j1 k x0 x21 x22 (decide ((((rd_T30 x0 x22).f1).length : Int) > 12)) ((rd_T30 x0 x22).f0) ((rd_T30 x0 x22).f1) ((rd_T30 x0 x22).f2))))) else (none)) else (none)) else (none)) else (some (0, 0))
def hauberkref04_Check.j1 : Nat → List (S30) → Int → Int → Bool → ByteArray → List (S32) → Int → Option (Int × Int)
 | 0, _, _, _, _, _, _, _ => none
 | k + 1, x0, x21, x22, x50, x147000, x147001, x147002 => if x50 = true then (some (x147002, 3)) else (hauberkref04_Check.l1 k x0 x21 x22 (x147001.length : Int) 0 x147000 x147001 x147002)
def hauberkref04_Check.l1 : Nat → List (S30) → Int → Int → Int → Int → ByteArray → List (S32) → Int → Option (Int × Int)
 | 0, _, _, _, _, _, _, _, _ => none
 | k + 1, x0, x21, x22, x55, x56, x147000, x147001, x147002 => if x56 < x55 then (if 0 ≤ x56 then (if x56 < (x147001.length : Int) then (hauberkref04_Check.l2 k x0 x56 0 x21 x22 x55 x56 x147000 x147001 x147002 ((rd_T32 x147001 x56).f0) ((rd_T32 x147001 x56).f1.f0) ((rd_T32 x147001 x56).f1.f1) ((rd_T32 x147001 x56).f1.f2) ((rd_T32 x147001 x56).f2)) else (none)) else (none)) else (hauberkref04_Check.l0 k x0 x21 (wrap64 (x22 + 1)))
def hauberkref04_Check.l2 : Nat → List (S30) → Int → Int → Int → Int → Int → Int → ByteArray → List (S32) → Int → ByteArray → Int → Int → ByteArray → Int → Option (Int × Int)
 | 0, _, _, _, _, _, _, _, _, _, _, _, _, _, _, _ => none
 | k + 1, x0, x8, x10, x21, x22, x55, x56, x147000, x147001, x147002, x160000, x160001, x160002, x160003, x160004 => if x10 < x8 then (if 0 ≤ x10 then (if x10 < (x147001.length : Int) then (if ((rd_T32 x147001 x10).f0).toList = x160000.toList then (some (x160004, 13)) else (hauberkref04_Check.l2 k x0 x8 (wrap64 (x10 + 1)) x21 x22 x55 x56 x147000 x147001 x147002 x160000 x160001 x160002 x160003 x160004)) else (none)) else (none)) else ((hauberkref04_Find.f k x0 x160003).bind fun bt161 => (if x160001 = 4 then (hauberkref04_Check.j4 k x0 x21 x22 x55 x56 (!bt161.2.2.2) x147000 x147001 x147002 x160000 x160001 x160002 x160003 x160004) else (hauberkref04_Check.j4 k x0 x21 x22 x55 x56 false x147000 x147001 x147002 x160000 x160001 x160002 x160003 x160004)))
def hauberkref04_Check.j4 : Nat → List (S30) → Int → Int → Int → Int → Bool → ByteArray → List (S32) → Int → ByteArray → Int → Int → ByteArray → Int → Option (Int × Int)
 | 0, _, _, _, _, _, _, _, _, _, _, _, _, _, _ => none
 | k + 1, x0, x21, x22, x55, x56, x95, x147000, x147001, x147002, x160000, x160001, x160002, x160003, x160004 => if x95 = true then (some (x160004, 13)) else ((hauberkref04_Known.f k x0 x160001 x160002 x160003).bind fun t168 => (if t168 = true then ((hauberkref04_Small.f x160001 x160002 x160003).bind fun t169 => (if t169 = 0 then (some (x160004, 14)) else (if x160001 = 0 then (some (x160004, 14)) else (hauberkref04_Check.l1 k x0 x21 x22 x55 (wrap64 (x56 + 1)) x147000 x147001 x147002)))) else (some (x160004, 14))))
end
def hauberkref04_Check.f (k : Nat) (l0 : List (S30)) : Option (Int × Int) := if (l0.length : Int) > 20 then (if 20 < (l0.length : Int) then (some ((rd_T30 l0 20).f2, 3)) else (none)) else (hauberkref04_Check.l0 k l0 (l0.length : Int) 0)
theorem hauberkref04_Check.mono_l : ∀ k, (∀ y0 y1 y2, LeO (hauberkref04_Check.l0 k y0 y1 y2) (hauberkref04_Check.l0 (k + 1) y0 y1 y2)) ∧ (∀ y0 y1 y2 y3 y4 y5 y6, LeO (hauberkref04_Check.j1 k y0 y1 y2 y3 y4 y5 y6) (hauberkref04_Check.j1 (k + 1) y0 y1 y2 y3 y4 y5 y6)) ∧ (∀ y0 y1 y2 y3 y4 y5 y6 y7, LeO (hauberkref04_Check.l1 k y0 y1 y2 y3 y4 y5 y6 y7) (hauberkref04_Check.l1 (k + 1) y0 y1 y2 y3 y4 y5 y6 y7)) ∧ (∀ y0 y1 y2 y3 y4 y5 y6 y7 y8 y9 y10 y11 y12 y13 y14, LeO (hauberkref04_Check.l2 k y0 y1 y2 y3 y4 y5 y6 y7 y8 y9 y10 y11 y12 y13 y14) (hauberkref04_Check.l2 (k + 1) y0 y1 y2 y3 y4 y5 y6 y7 y8 y9 y10 y11 y12 y13 y14)) ∧ (∀ y0 y1 y2 y3 y4 y5 y6 y7 y8 y9 y10 y11 y12 y13, LeO (hauberkref04_Check.j4 k y0 y1 y2 y3 y4 y5 y6 y7 y8 y9 y10 y11 y12 y13) (hauberkref04_Check.j4 (k + 1) y0 y1 y2 y3 y4 y5 y6 y7 y8 y9 y10 y11 y12 y13))
 | 0 => ⟨fun _ _ _ r h => by simp [hauberkref04_Check.l0] at h, fun _ _ _ _ _ _ _ r h => by simp [hauberkref04_Check.j1] at h, fun _ _ _ _ _ _ _ _ r h => by simp [hauberkref04_Check.l1] at h, fun _ _ _ _ _ _ _ _ _ _ _ _ _ _ _ r h => by simp [hauberkref04_Check.l2] at h, fun _ _ _ _ _ _ _ _ _ _ _ _ _ _ r h => by simp [hauberkref04_Check.j4] at h⟩
 | k + 1 => by
  obtain ⟨ih0, ih1, ih2, ih3, ih4⟩ := hauberkref04_Check.mono_l k
  refine ⟨?_, ?_, ?_, ?_, ?_⟩
  ·intro y0 y1 y2
   unfold hauberkref04_Check.l0
   repeat' first
   | (with_reducible exact ih0 _ _ _)
   | (with_reducible exact ih1 _ _ _ _ _ _ _)
   | (with_reducible exact ih2 _ _ _ _ _ _ _ _)
   | (with_reducible exact ih3 _ _ _ _ _ _ _ _ _ _ _ _ _ _ _)
   | (with_reducible exact ih4 _ _ _ _ _ _ _ _ _ _ _ _ _ _)
   | (with_reducible exact hauberkref04_Find.mono _ _ _)
   | (with_reducible exact hauberkref04_Known.mono _ _ _ _ _)
   | (with_reducible exact LeO.refl _)
   | (with_reducible exact LeO.none _)
   | (with_reducible refine LeO.ite ?_ ?_)
   | (with_reducible refine LeO.bind ?_ (fun _ => ?_))
   | exact ih0 _ _ _
   | exact ih1 _ _ _ _ _ _ _
   | exact ih2 _ _ _ _ _ _ _ _
   | exact ih3 _ _ _ _ _ _ _ _ _ _ _ _ _ _ _
   | exact ih4 _ _ _ _ _ _ _ _ _ _ _ _ _ _
   | exact hauberkref04_Find.mono _ _ _
   | exact hauberkref04_Known.mono _ _ _ _ _
   | exact LeO.none _
   | refine LeO.ite ?_ ?_
   | refine LeO.bind ?_ (fun _ => ?_)
  ·intro y0 y1 y2 y3 y4 y5 y6
   unfold hauberkref04_Check.j1
   repeat' first
   | (with_reducible exact ih0 _ _ _)
   | (with_reducible exact ih1 _ _ _ _ _ _ _)
   | (with_reducible exact ih2 _ _ _ _ _ _ _ _)
   | (with_reducible exact ih3 _ _ _ _ _ _ _ _ _ _ _ _ _ _ _)
   | (with_reducible exact ih4 _ _ _ _ _ _ _ _ _ _ _ _ _ _)
   | (with_reducible exact hauberkref04_Find.mono _ _ _)
   | (with_reducible exact hauberkref04_Known.mono _ _ _ _ _)
   | (with_reducible exact LeO.refl _)
   | (with_reducible exact LeO.none _)
   | (with_reducible refine LeO.ite ?_ ?_)
   | (with_reducible refine LeO.bind ?_ (fun _ => ?_))
   | exact ih0 _ _ _
   | exact ih1 _ _ _ _ _ _ _
   | exact ih2 _ _ _ _ _ _ _ _
   | exact ih3 _ _ _ _ _ _ _ _ _ _ _ _ _ _ _
   | exact ih4 _ _ _ _ _ _ _ _ _ _ _ _ _ _
   | exact hauberkref04_Find.mono _ _ _
   | exact hauberkref04_Known.mono _ _ _ _ _
   | exact LeO.none _
   | refine LeO.ite ?_ ?_
   | refine LeO.bind ?_ (fun _ => ?_)
  ·intro y0 y1 y2 y3 y4 y5 y6 y7
   unfold hauberkref04_Check.l1
   repeat' first
   | (with_reducible exact ih0 _ _ _)
   | (with_reducible exact ih1 _ _ _ _ _ _ _)
   | (with_reducible exact ih2 _ _ _ _ _ _ _ _)
   | (with_reducible exact ih3 _ _ _ _ _ _ _ _ _ _ _ _ _ _ _)
   | (with_reducible exact ih4 _ _ _ _ _ _ _ _ _ _ _ _ _ _)
   | (with_reducible exact hauberkref04_Find.mono _ _ _)
   | (with_reducible exact hauberkref04_Known.mono _ _ _ _ _)
   | (with_reducible exact LeO.refl _)
   | (with_reducible exact LeO.none _)
   | (with_reducible refine LeO.ite ?_ ?_)
   | (with_reducible refine LeO.bind ?_ (fun _ => ?_))
   | exact ih0 _ _ _
   | exact ih1 _ _ _ _ _ _ _
   | exact ih2 _ _ _ _ _ _ _ _
   | exact ih3 _ _ _ _ _ _ _ _ _ _ _ _ _ _ _
   | exact ih4 _ _ _ _ _ _ _ _ _ _ _ _ _ _
   | exact hauberkref04_Find.mono _ _ _
   | exact hauberkref04_Known.mono _ _ _ _ _
   | exact LeO.none _
   | refine LeO.ite ?_ ?_
   | refine LeO.bind ?_ (fun _ => ?_)
  ·intro y0 y1 y2 y3 y4 y5 y6 y7 y8 y9 y10 y11 y12 y13 y14
   unfold hauberkref04_Check.l2
   repeat' first
   | (with_reducible exact ih0 _ _ _)
   | (with_reducible exact ih1 _ _ _ _ _ _ _)
   | (with_reducible exact ih2 _ _ _ _ _ _ _ _)
   | (with_reducible exact ih3 _ _ _ _ _ _ _ _ _ _ _ _ _ _ _)
   | (with_reducible exact ih4 _ _ _ _ _ _ _ _ _ _ _ _ _ _)
   | (with_reducible exact hauberkref04_Find.mono _ _ _)
   | (with_reducible exact hauberkref04_Known.mono _ _ _ _ _)
   | (with_reducible exact LeO.refl _)
   | (with_reducible exact LeO.none _)
   | (with_reducible refine LeO.ite ?_ ?_)
   | (with_reducible refine LeO.bind ?_ (fun _ => ?_))
   | exact ih0 _ _ _
   | exact ih1 _ _ _ _ _ _ _
   | exact ih2 _ _ _ _ _ _ _ _
   | exact ih3 _ _ _ _ _ _ _ _ _ _ _ _ _ _ _
   | exact ih4 _ _ _ _ _ _ _ _ _ _ _ _ _ _
   | exact hauberkref04_Find.mono _ _ _
   | exact hauberkref04_Known.mono _ _ _ _ _
   | exact LeO.none _
   | refine LeO.ite ?_ ?_
   | refine LeO.bind ?_ (fun _ => ?_)
  ·intro y0 y1 y2 y3 y4 y5 y6 y7 y8 y9 y10 y11 y12 y13
   unfold hauberkref04_Check.j4
   repeat' first
   | (with_reducible exact ih0 _ _ _)
   | (with_reducible exact ih1 _ _ _ _ _ _ _)
   | (with_reducible exact ih2 _ _ _ _ _ _ _ _)
   | (with_reducible exact ih3 _ _ _ _ _ _ _ _ _ _ _ _ _ _ _)
   | (with_reducible exact ih4 _ _ _ _ _ _ _ _ _ _ _ _ _ _)
   | (with_reducible exact hauberkref04_Find.mono _ _ _)
   | (with_reducible exact hauberkref04_Known.mono _ _ _ _ _)
   | (with_reducible exact LeO.refl _)
   | (with_reducible exact LeO.none _)
   | (with_reducible refine LeO.ite ?_ ?_)
   | (with_reducible refine LeO.bind ?_ (fun _ => ?_))
   | exact ih0 _ _ _
   | exact ih1 _ _ _ _ _ _ _
   | exact ih2 _ _ _ _ _ _ _ _
   | exact ih3 _ _ _ _ _ _ _ _ _ _ _ _ _ _ _
   | exact ih4 _ _ _ _ _ _ _ _ _ _ _ _ _ _
   | exact hauberkref04_Find.mono _ _ _
   | exact hauberkref04_Known.mono _ _ _ _ _
   | exact LeO.none _
   | refine LeO.ite ?_ ?_
   | refine LeO.bind ?_ (fun _ => ?_)
theorem hauberkref04_Check.mono : ∀ a0 k, LeO (hauberkref04_Check.f k a0) (hauberkref04_Check.f (k + 1) a0) := by
 intro a0 k
 obtain ⟨ih0, ih1, ih2, ih3, ih4⟩ := hauberkref04_Check.mono_l k
 unfold hauberkref04_Check.f
 repeat' first
   | (with_reducible exact ih0 _ _ _)
   | (with_reducible exact ih1 _ _ _ _ _ _ _)
   | (with_reducible exact ih2 _ _ _ _ _ _ _ _)
   | (with_reducible exact ih3 _ _ _ _ _ _ _ _ _ _ _ _ _ _ _)
   | (with_reducible exact ih4 _ _ _ _ _ _ _ _ _ _ _ _ _ _)
   | (with_reducible exact hauberkref04_Find.mono _ _ _)
   | (with_reducible exact hauberkref04_Known.mono _ _ _ _ _)
   | (with_reducible exact LeO.refl _)
   | (with_reducible exact LeO.none _)
   | (with_reducible refine LeO.ite ?_ ?_)
   | (with_reducible refine LeO.bind ?_ (fun _ => ?_))
   | exact ih0 _ _ _
   | exact ih1 _ _ _ _ _ _ _
   | exact ih2 _ _ _ _ _ _ _ _
   | exact ih3 _ _ _ _ _ _ _ _ _ _ _ _ _ _ _
   | exact ih4 _ _ _ _ _ _ _ _ _ _ _ _ _ _
   | exact hauberkref04_Find.mono _ _ _
   | exact hauberkref04_Known.mono _ _ _ _ _
   | exact LeO.none _
   | refine LeO.ite ?_ ?_
   | refine LeO.bind ?_ (fun _ => ?_)
def hauberkref04_Check.T7 : Bool × List (List Nat × List Nat) := (true, [([], []), ([], []), ([0, 1], [0, 1]), ([], []), ([3], [3]), ([2, 4], [2, 4]), ([5], [5]), ([6], [6]), ([6], [6]), ([], []), ([9, 7, 5, 0, 1, 2, 3, 4, 5, 6, 7, 9], [7, 9]), ([8, 10, 0, 1, 2, 3, 4, 5, 6, 7, 8, 9, 10], [8])])
def hauberkref04_Check.B7 : List Nat := [0, 0, 3, 0, 8, 31, 63, 127, 127, 0, 767, 2047]
theorem hauberkref04_Check.tab7 : rtab .any (opsOf Try.f22 7) = hauberkref04_Check.T7 := by kernel_rfl
theorem hauberkref04_Check.bits7 : waitsOk hauberkref04_Check.T7.2 hauberkref04_Check.B7 = true := by kernel_rfl
def hauberkref04_Check.T19 : Bool × List (List Nat × List Nat) := (true, [([], []), ([0], [0]), ([], []), ([1, 2], [1, 2]), ([3], [3]), ([4], [4]), ([], []), ([6], [6]), ([5, 7], [5, 7])])
def hauberkref04_Check.B19 : List Nat := [0, 1, 0, 7, 15, 31, 0, 64, 255]
theorem hauberkref04_Check.tab19 : rtab .any (opsOf Try.f22 19) = hauberkref04_Check.T19 := by kernel_rfl
theorem hauberkref04_Check.bits19 : waitsOk hauberkref04_Check.T19.2 hauberkref04_Check.B19 = true := by kernel_rfl
set_option maxHeartbeats 8000000 in
set_option maxRecDepth 100000 in
theorem hauberkref04_Check.calls (k : Nat) (A0 : Option Addr) (c0 : Nat) (l0 : List (S30)) (r1 : Int) (r2 : Int) (w : World) (hr0 : Kd.C k30 w A0 l0.length l0) (hc0 : l0.length ≤ c0) (h : hauberkref04_Check.f k l0 = some (r1, r2)) :
  Calls Try.prog 22 #[.slice A0 l0.length c0] w fun e w' => e = .returned (.tuple #[.int .i64 r1, .int .i64 r2]) ∧ Below w.heap.size w w' := by
 have hu30 := Try.underlying30
 have hu32 := Try.underlying32
 have hu25 := Try.underlying25
 have HR0 := Aside0.mk hr0
 have HC0 := Aside0.mk hc0
 clear hr0 hc0
 have HB := Aside0.mk (Below.refl w.heap.size w)
 have H : (if (l0.length : Int) > 20 then (if 20 < (l0.length : Int) then (some ((rd_T30 l0 20).f2, 3)) else (none)) else (hauberkref04_Check.l0 k l0 (l0.length : Int) 0)) = some (r1, r2) := h
 clear h
 by_cases c2 : (l0.length : Int) > 20
 ·rw [if_pos c2] at H
  have c2b0 : decide (20 < (l0.length : Int)) = true := decide_eq_true c2
  have c2b1 : decide (20 < l0.length) = true := decide_eq_true (by omega)
  clear c2
  by_cases c3 : 20 < (l0.length : Int)
  ·rw [if_pos c3] at H
   have c3b0 : decide (20 < (l0.length : Int)) = true := decide_eq_true c3
   have c3b1 : decide (20 < l0.length) = true := decide_eq_true (by omega)
   clear c3
   simp only [Option.some.injEq, Prod.mk.injEq] at H
   obtain ⟨rfl, rfl⟩ := H
   have p144 : 0 ≤ (20 : Int) := (by omega)
   have q144 : 20 < (l0.length : Int) := of_decide_eq_true (by first | (with_reducible assumption) | assumption)
   obtain ⟨ad144, A144_1, c144_1, e144, hx144_0, hx144_1, hx144_2, hl144_1, hi144_1⟩ := at_T30 HR0.out 20 p144 q144
   cases e144
   (try simp only [show (20 : Int).toNat = 20 from rfl, Nat.reduceMul, Nat.reduceEqDiff, Go.Addr.add, ↓reduceIte] at hx144_0)
   (try simp only [show (20 : Int).toNat = 20 from rfl, Nat.reduceMul, Nat.reduceEqDiff, Go.Addr.add, ↓reduceIte] at hx144_1)
   (try simp only [show (20 : Int).toNat = 20 from rfl, Nat.reduceMul, Nat.reduceEqDiff, Go.Addr.add, ↓reduceIte] at hx144_2)
   have qi144 : (20 < l0.length) = True := eq_true (by omega)
   (try rw [show ((20 : Int)).toNat = 20 from rfl] at hx144_0)
   (try rw [show 20 * 3 = 60 from rfl] at hx144_0)
   (try rw [show ((20 : Int)).toNat = 20 from rfl] at hx144_1)
   (try rw [show 20 * 3 = 60 from rfl] at hx144_1)
   (try rw [show ((20 : Int)).toNat = 20 from rfl] at hx144_2)
   (try rw [show 20 * 3 = 60 from rfl] at hx144_2)
   have HR144_1 := Aside0.mk hi144_1
   have HC144_1 := Aside0.mk hl144_1
   clear hi144_1 hl144_1
   replace p144 := eq_true p144
   replace q144 := eq_true q144
   go_enter Try.func22, Try.ntmps22
   go_wp2
   go_ret2
   exact ⟨by first | rfl | (simp [errW_none, errW_some] <;> rfl) | (simp [*, errW_none, errW_some] <;> rfl), by repeat (first | (with_reducible first | exact HB.out | apply below_alloc | apply pw_below_drewN | apply below_drew1) | exact HB.out)⟩
  ·rw [if_neg c3] at H
   exact absurd H (by simp)
 ·rw [if_neg c2] at H
  have c2b0 : decide (20 < (l0.length : Int)) = false := decide_eq_false c2
  have c2b1 : decide (20 < l0.length) = false := decide_eq_false (by omega)
  clear c2
  have H' := Aside0.mk H
  clear H
  go_enter Try.func22, Try.ntmps22
  go_wp2
  go_loopg [22] k (fun kq v22 w' => ∃ (x22_1 : Int), v22 = .int .i64 x22_1 ∧ Aside0 (hauberkref04_Check.l0 kq l0 (l0.length : Int) x22_1 = some (r1, r2)) ∧ Aside0 (kq ≤ k) ∧ Aside0 (Below w.heap.size w w'))
  case atStart => exact ⟨(0), (by first | rfl | (simp; done) | (simp [*]; done)), H', ⟨Nat.le_refl _⟩, ⟨by repeat (first | (with_reducible first | exact HB.out | apply below_alloc | apply pw_below_drewN | apply below_drew1) | exact HB.out)⟩⟩
  case round =>
   clear H'
   try clear c1
   try clear p1
   try clear q1
   try clear hx1
   try clear qi1
   try clear c2
   try clear c2b0
   try clear c2b1
   try clear p2
   try clear c3
   try clear c3b0
   try clear c3b1
   try clear hx144_0
   try clear hx144_1
   try clear hx144_2
   try clear p144
   try clear q144
   obtain ⟨x22_1, rfl, HA, HK1, HB⟩ := hrel
   cases gk with
   | zero => exact absurd HA.out (by simp [hauberkref04_Check.l0])
   | succ k1 =>
    have H := HA.out
    clear HA
    simp only [hauberkref04_Check.l0] at H
    by_cases c4 : x22_1 < (l0.length : Int)
    ·rw [if_pos c4] at H
     have c4b0 : decide (x22_1 < (l0.length : Int)) = true := decide_eq_true c4
     clear c4
     by_cases c5 : 0 ≤ x22_1
     ·rw [if_pos c5] at H
      have c5b0 : decide (0 ≤ x22_1) = true := decide_eq_true c5
      clear c5
      by_cases c6 : x22_1 < (l0.length : Int)
      ·rw [if_pos c6] at H
       have c6b0 : decide (x22_1 < (l0.length : Int)) = true := decide_eq_true c6
       clear c6
       have c7b0 := eq_true (of_decide_eq_true (by first | (with_reducible assumption) | assumption) : 0 ≤ x22_1)
       by_cases c8 : x22_1 ≤ (l0.length : Int)
       ·rw [if_pos c8] at H
        have c8b0 := eq_true c8
        have c8b1 : decide (x22_1 ≤ (l0.length : Int)) = true := decide_eq_true c8
        clear c8
        obtain ⟨y147, hy147⟩ : ∃ y_ : List (S30), y_ = (l0.take (x22_1 : Int).toNat) := ⟨_, rfl⟩
        replace H : ((hauberkref04_Find.f k1 y147 ((rd_T30 l0 x22_1).f0)).bind fun bt151 => (if bt151.2.2.2 = true then (some ((rd_T30 l0 x22_1).f2, 13)) else (if (((rd_T30 l0 x22_1).f1).length : Int) = 0 then (hauberkref04_Check.j1 k1 l0 (l0.length : Int) x22_1 true ((rd_T30 l0 x22_1).f0) ((rd_T30 l0 x22_1).f1) ((rd_T30 l0 x22_1).f2)) else (hauberkref04_Check.j1 k1 l0 (l0.length : Int) x22_1 (decide ((((rd_T30 l0 x22_1).f1).length : Int) > 12)) ((rd_T30 l0 x22_1).f0) ((rd_T30 l0 x22_1).f1) ((rd_T30 l0 x22_1).f2))))) = some (r1, r2) := by first | (rw [hy147]; with_reducible exact H) | (have H2_ := (Option.bind_some _ _).symm.trans H; rw [hy147]; with_reducible exact H2_) | (have H2_ := (Option.bind_some _ _).symm.trans H; with_reducible exact H2_) | with_reducible exact H | (rw [hy147]; exact H) | exact H
        have Ny147 := Aside0.mk hy147
        clear hy147
        replace H := Option.bind_eq_some_iff.mp H
        obtain ⟨⟨t151, t152, t155, t156⟩, A90, H⟩ := H
        replace H : (if t156 = true then (some ((rd_T30 l0 x22_1).f2, 13)) else (if (((rd_T30 l0 x22_1).f1).length : Int) = 0 then (hauberkref04_Check.j1 k1 l0 (l0.length : Int) x22_1 true ((rd_T30 l0 x22_1).f0) ((rd_T30 l0 x22_1).f1) ((rd_T30 l0 x22_1).f2)) else (hauberkref04_Check.j1 k1 l0 (l0.length : Int) x22_1 (decide ((((rd_T30 l0 x22_1).f1).length : Int) > 12)) ((rd_T30 l0 x22_1).f0) ((rd_T30 l0 x22_1).f1) ((rd_T30 l0 x22_1).f2)))) = some (r1, r2) := H
        have A9 := Aside0.mk A90
        clear A90
        by_cases c10 : t156 = true
        ·subst c10
         have H1 : (some ((rd_T30 l0 x22_1).f2, 13)) = some (r1, r2) := by rw [if_pos rfl] at H; exact H
         clear H
         have H := H1
         clear H1
         simp only [Option.some.injEq, Prod.mk.injEq] at H
         obtain ⟨rfl, rfl⟩ := H
         have p145 : 0 ≤ (x22_1 : Int) := of_decide_eq_true (by first | (with_reducible assumption) | assumption)
         have q145 : x22_1 < (l0.length : Int) := of_decide_eq_true (by first | (with_reducible assumption) | assumption)
         obtain ⟨ad145, A145_1, c145_1, e145, hx145_0, hx145_1, hx145_2, hl145_1, hi145_1⟩ := at_T30 HR0.out x22_1 p145 q145
         cases e145
         replace hx145_0 := (HB.out.cell (World.block_lt_of_cell? w _ hx145_0)).trans hx145_0
         replace hx145_1 := (HB.out.cell (World.block_lt_of_cell? w _ hx145_1)).trans hx145_1
         replace hx145_2 := (HB.out.cell (World.block_lt_of_cell? w _ hx145_2)).trans hx145_2
         have HR145_1 := Aside0.mk hi145_1
         have HC145_1 := Aside0.mk hl145_1
         clear hi145_1 hl145_1
         replace p145 := eq_true p145
         replace q145 := eq_true q145
         try go_wp2_with (first | ((with_reducible refine gate_dst (N := 5) rfl ?_); (try (refine gate_guard (by rfl) ?_; dsimp only)); refine box_event ?hg (N := 5) ?hd (cs := #[.string (⟨#[]⟩ : ByteArray), .slice none 0 0, .int .i64 0]) (t := 30) ?hr ?_; (case hd => rfl); (case hg => rfl); (case hr => first | (go_simp; done) | (go_simp; rfl)); intro gb146 hg w11 hbox hb; have n0_ := Aside0.mk (below_step (by repeat (first | (with_reducible first | exact HB.out | apply below_alloc | apply pw_below_drewN | apply below_drew1) | exact HB.out)) hb); have n1_ := Aside0.mk (hbox); have n2_ := Aside0.mk ((by rw [hg]; exact (below_size (by repeat (first | (with_reducible first | exact HB.out | apply below_alloc | apply pw_below_drewN | apply below_drew1) | exact HB.out))) : w.heap.size ≤ gb146)); have n3_ := Aside0.mk ((by rw [hg]; exact (below_size (by repeat (first | (with_reducible first | exact HB.out | apply below_alloc | apply pw_below_drewN | apply below_drew1) | exact HB.out))) : w.heap.size ≤ gb146)); clear HB; have HB := n0_; have BK146 := n1_; have GW146 := n2_; have GE146 := n3_; clear n0_ n1_ n2_ n3_; clear hb hbox hg; have hcz12_0 : w11.cell? ⟨gb146, 0, none⟩ = some (.string (⟨#[]⟩ : ByteArray)) := (blk_cell BK146.out 0).trans rfl; have hcz12_1 : w11.cell? ⟨gb146, 1, none⟩ = some (.slice none 0 0) := (blk_cell BK146.out 1).trans rfl; have hcz12_2 : w11.cell? ⟨gb146, 2, none⟩ = some (.int .i64 0) := (blk_cell BK146.out 2).trans rfl; have hfz12_0 := blk_frozen BK146.out 0; have hfz12_1 := blk_frozen BK146.out 1; have hfz12_2 := blk_frozen BK146.out 2))
         have n0_ : Aside0 ((((w11.setCell ⟨gb146, 0, none⟩ (.string ((rd_T30 l0 x22_1).f0))).setCell ⟨gb146, 1, none⟩ (.slice A145_1 ((rd_T30 l0 x22_1).f1).length c145_1)).setCell ⟨gb146, 2, none⟩ (.int .i64 ((rd_T30 l0 x22_1).f2))).heap[gb146]? = some (.cells #[.string ((rd_T30 l0 x22_1).f0), .slice A145_1 ((rd_T30 l0 x22_1).f1).length c145_1, .int .i64 ((rd_T30 l0 x22_1).f2)] 30 (0, 0))) := ⟨by (with_reducible repeat (first | refine blk_drewN ?_ _ | refine blk_drew ?_ | refine blk_alloc ?_ _)); refine blk_put (cs := #[.string ((rd_T30 l0 x22_1).f0), .slice A145_1 ((rd_T30 l0 x22_1).f1).length c145_1, .int .i64 0]) ?_ 2 _ rfl; (with_reducible repeat (first | refine blk_drewN ?_ _ | refine blk_drew ?_ | refine blk_alloc ?_ _)); refine blk_put (cs := #[.string ((rd_T30 l0 x22_1).f0), .slice none 0 0, .int .i64 0]) ?_ 1 _ rfl; (with_reducible repeat (first | refine blk_drewN ?_ _ | refine blk_drew ?_ | refine blk_alloc ?_ _)); refine blk_put (cs := #[.string (⟨#[]⟩ : ByteArray), .slice none 0 0, .int .i64 0]) ?_ 0 _ rfl; (with_reducible repeat (first | refine blk_drewN ?_ _ | refine blk_drew ?_ | refine blk_alloc ?_ _)); exact BK146.out⟩
         have n1_ : Aside0 (Below w.heap.size w (((w11.setCell ⟨gb146, 0, none⟩ (.string ((rd_T30 l0 x22_1).f0))).setCell ⟨gb146, 1, none⟩ (.slice A145_1 ((rd_T30 l0 x22_1).f1).length c145_1)).setCell ⟨gb146, 2, none⟩ (.int .i64 ((rd_T30 l0 x22_1).f2)))) := ⟨by repeat (first | (with_reducible first | exact HB.out | apply below_alloc | apply pw_below_drewN | apply below_drew1 | refine below_set ?_ GE146.out) | exact HB.out)⟩
         (try clear BK146)
         (try clear HB)
         generalize (((w11.setCell ⟨gb146, 0, none⟩ (.string ((rd_T30 l0 x22_1).f0))).setCell ⟨gb146, 1, none⟩ (.slice A145_1 ((rd_T30 l0 x22_1).f1).length c145_1)).setCell ⟨gb146, 2, none⟩ (.int .i64 ((rd_T30 l0 x22_1).f2))) = w13 at n0_ n1_ ⊢
         have BK146 := n0_
         have HB := n1_
         clear n0_ n1_
         have n0_ := Aside0.mk (blk_drew BK146.out)
         have n1_ := Aside0.mk (below_drew1 HB.out)
         clear BK146
         clear HB
         have BK146 := n0_
         have HB := n1_
         clear n0_ n1_
         have q15 : (x22_1 : Int) ≤ ((l0.length : Int) : Int) := of_decide_eq_true (by first | (with_reducible assumption) | assumption)
         obtain ⟨i015, hi015, _, hsz15, _⟩ := info_parts info30
         have hroom15 : l0.length ≤ c0 := HC0.out
         have hC15 : Kd.C k30 _ (some ad145) l0.length l0 := HR0.out
         have hcut15 := cut_to (P := Try.prog) 33 30 .i64 Try.underlying33 hi015 (some ad145) l0.length c0 x22_1 (of_decide_eq_true (by first | (with_reducible assumption) | assumption)) q15 hroom15
         have hr15 := Kd.C_take (m := (x22_1 : Int).toNat) hC15 (by omega)
         have hy15 : y147.length = (x22_1 : Int).toNat := (by rw [Ny147.out, List.length_take]; omega)
         rw [← Ny147.out] at hr15
         rw [← hy15] at hcut15
         have HR150 := Aside0.mk hr15
         have HC150 := Aside0.mk (show y147.length ≤ c0 from by omega)
         clear hr15 hC15 hroom15 hi015 hsz15
         have KY15 := Aside0.mk hy15
         clear hy15
         replace q15 := eq_true q15
         refine start_ (n := 12) (S := fun w' => w'.cell? ⟨gb146, 0, none⟩ = some (.string ((rd_T30 l0 x22_1).f0)) ∧ w'.cell? ⟨gb146, 1, none⟩ = some (.slice A145_1 ((rd_T30 l0 x22_1).f1).length c145_1) ∧ w'.cell? ⟨gb146, 2, none⟩ = some (.int .i64 ((rd_T30 l0 x22_1).f2))) (ds := []) #[false, false, false, false, false, false, false, false, false, false, false, false] (by kernel_rfl) rfl rfl ⟨(blk_cell BK146.out 0).trans rfl, (blk_cell BK146.out 1).trans rfl, (blk_cell BK146.out 2).trans rfl⟩ (fun hHeld => ?_); refine with_tabW hauberkref04_Check.tab7 hauberkref04_Check.bits7 (fun HT_ HW_ => ?_)
         generalize w13.drew = w14 at BK146 HB HR150 hHeld ⊢
         refine pure_ (i := 0) (N := some 30) (v := ?_) (a' := ?_) #[true, false, false, false, false, false, false, false, false, false, false, false] rfl rfl (any_of HT_.out (by kernel_rfl)) (fun _ _ _ h => h) (Or.inl ⟨by rfl, ?_⟩) ?_ ?_
         rotate_left
         ·intro w'
          go_simp
          with_reducible rfl
         rotate_left
         ·simp only [Act.put, List.setIfInBounds_toArray, List.set_cons_zero, List.set_cons_succ, i64_w, i32_w]
          rfl
         refine pure_ (i := 1) (N := some 31) (v := ?_) (a' := ?_) #[true, true, false, false, false, false, false, false, false, false, false, false] rfl rfl (any_of HT_.out (by kernel_rfl)) (fun _ _ _ h => h) (Or.inl ⟨by rfl, ?_⟩) ?_ ?_
         rotate_left
         ·intro w'
          go_simp
          with_reducible rfl
         rotate_left
         ·simp only [Act.put, List.setIfInBounds_toArray, List.set_cons_zero, List.set_cons_succ, i64_w, i32_w]
          rfl
         refine pure_ (i := 2) (N := some 32) (v := ?_) (a' := ?_) #[true, true, true, false, false, false, false, false, false, false, false, false] rfl rfl (any_of HT_.out (by kernel_rfl)) (fun _ _ _ h => h) (Or.inl ⟨by rfl, ?_⟩) ?_ ?_
         rotate_left
         ·intro w'
          go_simp
          with_reducible rfl
         rotate_left
         ·simp only [Act.put, List.setIfInBounds_toArray, List.set_cons_zero, List.set_cons_succ, i64_w, i32_w]
          rfl
         refine pure_ (i := 3) (N := some 33) (v := ?_) (a' := ?_) #[true, true, true, true, false, false, false, false, false, false, false, false] rfl rfl (any_of HT_.out (by kernel_rfl)) (fun _ _ _ h => h) (Or.inl ⟨by rfl, ?_⟩) ?_ ?_
         rotate_left
         ·intro w'
          go_simp
          with_reducible rfl
         rotate_left
         ·simp only [Act.put, List.setIfInBounds_toArray, List.set_cons_zero, List.set_cons_succ, i64_w, i32_w]
          rfl
         refine take_ (i := 4) (N := some 34) (v := ?_) (a' := ?_) #[true, true, true, true, true, false, false, false, false, false, false, false] rfl rfl (take_ofW HT_.out HW_.out (by kernel_rfl)) (fun _ _ _ h => h) (Or.inl ⟨by rfl, ?_⟩) hHeld ?_ ?_
         rotate_left
         ·rintro w' ⟨s0, s1, s2⟩
          go_simp
          with_reducible rfl
         rotate_left
         ·simp only [Act.put, List.setIfInBounds_toArray, List.set_cons_zero, List.set_cons_succ, i64_w, i32_w]
          rfl
         refine join_ (σ := Value × Nat) 2 #[true, true, true, true, true, true, true, true, true, true, false, false] (fun s_ => [(35, .tuple #[.agg #[.string t151, s_.1, .int .i64 t155], .bool true]), (6, .pointer (some ⟨s_.2, 0, none⟩)), (29, .tuple #[.agg #[.string t151, s_.1, .int .i64 t155], .bool true]), (36, .agg #[.string t151, s_.1, .int .i64 t155]), (37, .bool true)]) (fun s_ w' => (w'.cell? ⟨gb146, 0, none⟩ = some (.string ((rd_T30 l0 x22_1).f0)) ∧ w'.cell? ⟨gb146, 1, none⟩ = some (.slice A145_1 ((rd_T30 l0 x22_1).f1).length c145_1) ∧ w'.cell? ⟨gb146, 2, none⟩ = some (.int .i64 ((rd_T30 l0 x22_1).f2))) ∧ (Kd.V k32 32 w' w.heap.size (fun k_ => k_ ≠ gb146 ∧ k_ ≠ s_.2) s_.1 t152) ∧ (w'.heap[gb146]? = some (.cells #[.string ((rd_T30 l0 x22_1).f0), .slice A145_1 ((rd_T30 l0 x22_1).f1).length c145_1, .int .i64 ((rd_T30 l0 x22_1).f2)] 30 (0, 0))) ∧ (w'.heap[s_.2]? = some (.cells #[.string (⟨#[]⟩ : ByteArray), .slice none 0 0, .int .i64 0] 30 (0, 0))) ∧ (w.heap.size ≤ s_.2) ∧ (w.heap.size ≤ s_.2) ∧ (gb146 ≠ s_.2) ∧ (s_.2 ≠ gb146) ∧ (Below w.heap.size w w')) ?_ ?_
         rotate_left
         ·intro hCont
          refine two_ (i := 5) (j := 9) (Ni := some 35) (Nj := some 6) #[true, true, true, true, true, true, false, false, false, false, false, false] #[true, true, true, true, true, false, false, false, false, true, false, false] rfl rfl rfl rfl (two_of HT_.out (by kernel_rfl)) (by decide) (by decide) (fun K hK => ?_) (fun K hK => ?_)
          ·skip
           refine goes_ Try.func11 (by kernel_rfl) rfl #[.slice (some ad145) y147.length c0, .string ((rd_T30 l0 x22_1).f0)] (by rfl) rfl rfl (by (try simp only [List.map_toArray, List.map_cons, List.map_nil]); first | done | rfl | (simp only [List.length_drop, List.length_take]; rfl)) ?_
           with_reducible refine (hauberkref04_Find.calls k1 (fun k_ => k_ < w.heap.size) _ _ y147 ((rd_T30 l0 x22_1).f0) t151 t152 t155 true _ ?side1 A9.out).mono ?_
           (case side1 => exact Kd.V_mk HC150.out (Kd.F_below (Kd.C_F k30_heap HR150.out) (by repeat (first | (with_reducible first | exact HB.out | apply below_alloc | apply pw_below_drewN | apply below_drew1 | refine below_set ?_ GE146.out) | exact HB.out))))
           rintro e w16 ⟨v153, rfl, ho0, hb⟩
           refine ⟨_, rfl, ?_⟩
           have n0_ := Aside0.mk (Kd.V_lower (Kd.V_mono (ok' := fun k_ => k_ ≠ gb146) ho0 (fun k_ hk_ => Or.elim hk_ (fun hs_ => fun e_ => Nat.not_le.2 hs_ (by rw [e_]; exact GW146.out)) (fun hn_ => (Kd.freshB (g := gb146) (o := .cells #[.string ((rd_T30 l0 x22_1).f0), .slice A145_1 ((rd_T30 l0 x22_1).f1).length c145_1, .int .i64 ((rd_T30 l0 x22_1).f2)] 30 (0, 0)) (by (with_reducible repeat (first | refine blk_drewN ?_ _ | refine blk_drew ?_ | refine blk_alloc ?_ _)); exact BK146.out) k_ hn_)))) (below_size (by repeat (first | (with_reducible first | exact HB.out | apply below_alloc | apply pw_below_drewN | apply below_drew1 | refine below_set ?_ GE146.out) | exact HB.out))))
           have n1_ := Aside0.mk (blk_below (g := gb146) (o := .cells #[.string ((rd_T30 l0 x22_1).f0), .slice A145_1 ((rd_T30 l0 x22_1).f1).length c145_1, .int .i64 ((rd_T30 l0 x22_1).f2)] 30 (0, 0)) (by (with_reducible repeat (first | refine blk_drewN ?_ _ | refine blk_drew ?_ | refine blk_alloc ?_ _)); exact BK146.out) hb)
           have n2_ := Aside0.mk (below_step (by repeat (first | (with_reducible first | exact HB.out | apply below_alloc | apply pw_below_drewN | apply below_drew1 | refine below_set ?_ GE146.out) | exact HB.out)) hb)
           clear BK146
           clear HB
           have HO154 := n0_
           have BK146 := n1_
           have HB := n2_
           clear n0_ n1_ n2_
           (try clear hb)
           (try clear hb2)
           (try clear hk)
           (try clear hi)
           (try clear ho0)
           refine hK.out _ _ ⟨(blk_cell BK146.out 0).trans rfl, (blk_cell BK146.out 1).trans rfl, (blk_cell BK146.out 2).trans rfl⟩ (fun hHeld => ?_)
           clear hK K
           refine norm_ (a' := ?_) ?_ ?_
           rotate_left
           ·show Act.put _ (some 35) _ = _
            simp only [Act.put, List.setIfInBounds_toArray, List.set_cons_zero, List.set_cons_succ, i64_w, i32_w]
            rfl
           refine pure_ (i := 6) (N := some 29) (v := ?_) (a' := ?_) #[true, true, true, true, true, true, true, false, false, false, false, false] rfl rfl (any_of HT_.out (by kernel_rfl)) (fun _ _ _ h => h) (Or.inl ⟨by rfl, ?_⟩) ?_ ?_
           rotate_left
           ·intro w'
            go_simp
            with_reducible rfl
           rotate_left
           ·simp only [Act.put, List.setIfInBounds_toArray, List.set_cons_zero, List.set_cons_succ, i64_w, i32_w]
            rfl
           refine pure_ (i := 7) (N := some 36) (v := ?_) (a' := ?_) #[true, true, true, true, true, true, true, true, false, false, false, false] rfl rfl (any_of HT_.out (by kernel_rfl)) (fun _ _ _ h => h) (Or.inl ⟨by rfl, ?_⟩) ?_ ?_
           rotate_left
           ·intro w'
            go_simp
            with_reducible rfl
           rotate_left
           ·simp only [Act.put, List.setIfInBounds_toArray, List.set_cons_zero, List.set_cons_succ, i64_w, i32_w]
            rfl
           refine pure_ (i := 8) (N := some 37) (v := ?_) (a' := ?_) #[true, true, true, true, true, true, true, true, true, false, false, false] rfl rfl (any_of HT_.out (by kernel_rfl)) (fun _ _ _ h => h) (Or.inl ⟨by rfl, ?_⟩) ?_ ?_
           rotate_left
           ·intro w'
            go_simp
            with_reducible rfl
           rotate_left
           ·simp only [Act.put, List.setIfInBounds_toArray, List.set_cons_zero, List.set_cons_succ, i64_w, i32_w]
            rfl
           refine one_ (i := 9) (N := some 6) #[true, true, true, true, true, true, true, true, true, true, false, false] rfl rfl (one_of HT_.out (by kernel_rfl)) (by decide) (fun K hK => ?_)
           refine box_step ?hg (N := 6) ?hd (cs := #[.string (⟨#[]⟩ : ByteArray), .slice none 0 0, .int .i64 0]) (t := 30) ?hr ?_; (case hd => rfl); (case hg => rfl); (case hr => first | (go_simp; done) | (go_simp; rfl))
           intro gb157 hg w17 hbox hb
           have n0_ := Aside0.mk (Kd.V_below (Kd.V_elderB (by (with_reducible repeat (first | apply Kd.V_alloc | apply Kd.V_drewN | apply Kd.V_drew)); exact HO154.out) gb157 (Nat.le_of_eq hg.symm)) hb)
           have n1_ := Aside0.mk (blk_below (g := gb146) (o := .cells #[.string ((rd_T30 l0 x22_1).f0), .slice A145_1 ((rd_T30 l0 x22_1).f1).length c145_1, .int .i64 ((rd_T30 l0 x22_1).f2)] 30 (0, 0)) (by (with_reducible repeat (first | refine blk_drewN ?_ _ | refine blk_drew ?_ | refine blk_alloc ?_ _)); exact BK146.out) hb)
           have n2_ := Aside0.mk (below_step (by repeat (first | (with_reducible first | exact HB.out | apply below_alloc | apply pw_below_drewN | apply below_drew1 | refine below_set ?_ GE146.out) | exact HB.out)) hb)
           have n3_ := Aside0.mk (hbox)
           have n4_ := Aside0.mk ((by rw [hg]; exact (below_size (by repeat (first | (with_reducible first | exact HB.out | apply below_alloc | apply pw_below_drewN | apply below_drew1 | refine below_set ?_ GE146.out) | exact HB.out))) : w.heap.size ≤ gb157))
           have n5_ := Aside0.mk ((by rw [hg]; exact (below_size (by repeat (first | (with_reducible first | exact HB.out | apply below_alloc | apply pw_below_drewN | apply below_drew1 | refine below_set ?_ GE146.out) | exact HB.out))) : w.heap.size ≤ gb157))
           have n6_ := Aside0.mk ((by rw [hg]; exact Nat.ne_of_lt (blk_lt (g := gb146) (o := .cells #[.string ((rd_T30 l0 x22_1).f0), .slice A145_1 ((rd_T30 l0 x22_1).f1).length c145_1, .int .i64 ((rd_T30 l0 x22_1).f2)] 30 (0, 0)) (by (with_reducible repeat (first | refine blk_drewN ?_ _ | refine blk_drew ?_ | refine blk_alloc ?_ _)); exact BK146.out)) : gb146 ≠ gb157))
           have n7_ := Aside0.mk ((by rw [hg]; exact Nat.ne_of_gt (blk_lt (g := gb146) (o := .cells #[.string ((rd_T30 l0 x22_1).f0), .slice A145_1 ((rd_T30 l0 x22_1).f1).length c145_1, .int .i64 ((rd_T30 l0 x22_1).f2)] 30 (0, 0)) (by (with_reducible repeat (first | refine blk_drewN ?_ _ | refine blk_drew ?_ | refine blk_alloc ?_ _)); exact BK146.out)) : gb157 ≠ gb146))
           clear HO154
           clear BK146
           clear HB
           have HO154 := n0_
           have BK146 := n1_
           have HB := n2_
           have BK157 := n3_
           have GW157 := n4_
           have GE157 := n5_
           have NB146_157 := n6_
           have NB157_146 := n7_
           clear n0_ n1_ n2_ n3_ n4_ n5_ n6_ n7_
           clear hb hbox hg
           refine hK.out _ _ ⟨(blk_cell BK146.out 0).trans rfl, (blk_cell BK146.out 1).trans rfl, (blk_cell BK146.out 2).trans rfl⟩ (fun hHeld => ?_)
           clear hK K
           refine norm_ (a' := ?_) ?_ ?_
           rotate_left
           ·show Act.put _ (some 6) _ = _
            simp only [Act.put, List.setIfInBounds_toArray, List.set_cons_zero, List.set_cons_succ, i64_w, i32_w]
            rfl
           exact norm_ (by simp only [putAll, Act.put, List.setIfInBounds_toArray, List.set_cons_zero, List.set_cons_succ]) (hCont (v153, gb157) _ ⟨hHeld, (by (with_reducible repeat (first | apply Kd.V_alloc | apply Kd.V_drewN | apply Kd.V_drew)); exact HO154.out), (by (with_reducible repeat (first | refine blk_drewN ?_ _ | refine blk_drew ?_ | refine blk_alloc ?_ _)); exact BK146.out), (by (with_reducible repeat (first | refine blk_drewN ?_ _ | refine blk_drew ?_ | refine blk_alloc ?_ _)); exact BK157.out), GW157.out, GE157.out, NB146_157.out, NB157_146.out, (by repeat (first | (with_reducible first | exact HB.out | apply below_alloc | apply pw_below_drewN | apply below_drew1 | refine below_set ?_ GE146.out | refine below_set ?_ GE157.out) | exact HB.out))⟩)
          ·skip
           refine box_step ?hg (N := 6) ?hd (cs := #[.string (⟨#[]⟩ : ByteArray), .slice none 0 0, .int .i64 0]) (t := 30) ?hr ?_; (case hd => rfl); (case hg => rfl); (case hr => first | (go_simp; done) | (go_simp; rfl))
           intro gb157 hg w16 hbox hb
           have n0_ := Aside0.mk (blk_below (g := gb146) (o := .cells #[.string ((rd_T30 l0 x22_1).f0), .slice A145_1 ((rd_T30 l0 x22_1).f1).length c145_1, .int .i64 ((rd_T30 l0 x22_1).f2)] 30 (0, 0)) (by (with_reducible repeat (first | refine blk_drewN ?_ _ | refine blk_drew ?_ | refine blk_alloc ?_ _)); exact BK146.out) hb)
           have n1_ := Aside0.mk (below_step (by repeat (first | (with_reducible first | exact HB.out | apply below_alloc | apply pw_below_drewN | apply below_drew1 | refine below_set ?_ GE146.out) | exact HB.out)) hb)
           have n2_ := Aside0.mk (hbox)
           have n3_ := Aside0.mk ((by rw [hg]; exact (below_size (by repeat (first | (with_reducible first | exact HB.out | apply below_alloc | apply pw_below_drewN | apply below_drew1 | refine below_set ?_ GE146.out) | exact HB.out))) : w.heap.size ≤ gb157))
           have n4_ := Aside0.mk ((by rw [hg]; exact (below_size (by repeat (first | (with_reducible first | exact HB.out | apply below_alloc | apply pw_below_drewN | apply below_drew1 | refine below_set ?_ GE146.out) | exact HB.out))) : w.heap.size ≤ gb157))
           have n5_ := Aside0.mk ((by rw [hg]; exact Nat.ne_of_lt (blk_lt (g := gb146) (o := .cells #[.string ((rd_T30 l0 x22_1).f0), .slice A145_1 ((rd_T30 l0 x22_1).f1).length c145_1, .int .i64 ((rd_T30 l0 x22_1).f2)] 30 (0, 0)) (by (with_reducible repeat (first | refine blk_drewN ?_ _ | refine blk_drew ?_ | refine blk_alloc ?_ _)); exact BK146.out)) : gb146 ≠ gb157))
           have n6_ := Aside0.mk ((by rw [hg]; exact Nat.ne_of_gt (blk_lt (g := gb146) (o := .cells #[.string ((rd_T30 l0 x22_1).f0), .slice A145_1 ((rd_T30 l0 x22_1).f1).length c145_1, .int .i64 ((rd_T30 l0 x22_1).f2)] 30 (0, 0)) (by (with_reducible repeat (first | refine blk_drewN ?_ _ | refine blk_drew ?_ | refine blk_alloc ?_ _)); exact BK146.out)) : gb157 ≠ gb146))
           clear BK146
           clear HB
           have BK146 := n0_
           have HB := n1_
           have BK157 := n2_
           have GW157 := n3_
           have GE157 := n4_
           have NB146_157 := n5_
           have NB157_146 := n6_
           clear n0_ n1_ n2_ n3_ n4_ n5_ n6_
           clear hb hbox hg
           refine hK.out _ _ ⟨(blk_cell BK146.out 0).trans rfl, (blk_cell BK146.out 1).trans rfl, (blk_cell BK146.out 2).trans rfl⟩ (fun hHeld => ?_)
           clear hK K
           refine norm_ (a' := ?_) ?_ ?_
           rotate_left
           ·show Act.put _ (some 6) _ = _
            simp only [Act.put, List.setIfInBounds_toArray, List.set_cons_zero, List.set_cons_succ, i64_w, i32_w]
            rfl
           refine one_ (i := 5) (N := some 35) #[true, true, true, true, true, true, false, false, false, true, false, false] rfl rfl (one_of HT_.out (by kernel_rfl)) (by decide) (fun K hK => ?_)
           refine goes_ Try.func11 (by kernel_rfl) rfl #[.slice (some ad145) y147.length c0, .string ((rd_T30 l0 x22_1).f0)] (by rfl) rfl rfl (by (try simp only [List.map_toArray, List.map_cons, List.map_nil]); first | done | rfl | (simp only [List.length_drop, List.length_take]; rfl)) ?_
           with_reducible refine (hauberkref04_Find.calls k1 (fun k_ => k_ < w.heap.size) _ _ y147 ((rd_T30 l0 x22_1).f0) t151 t152 t155 true _ ?side1 A9.out).mono ?_
           (case side1 => exact Kd.V_mk HC150.out (Kd.F_below (Kd.C_F k30_heap HR150.out) (by repeat (first | (with_reducible first | exact HB.out | apply below_alloc | apply pw_below_drewN | apply below_drew1 | refine below_set ?_ GE146.out | refine below_set ?_ GE157.out) | exact HB.out))))
           rintro e w17 ⟨v153, rfl, ho0, hb⟩
           refine ⟨_, rfl, ?_⟩
           have n0_ := Aside0.mk (Kd.V_lower (Kd.V_mono (ok' := fun k_ => k_ ≠ gb146 ∧ k_ ≠ gb157) ho0 (fun k_ hk_ => ⟨Or.elim hk_ (fun hs_ => fun e_ => Nat.not_le.2 hs_ (by rw [e_]; exact GW146.out)) (fun hn_ => (Kd.freshB (g := gb146) (o := .cells #[.string ((rd_T30 l0 x22_1).f0), .slice A145_1 ((rd_T30 l0 x22_1).f1).length c145_1, .int .i64 ((rd_T30 l0 x22_1).f2)] 30 (0, 0)) (by (with_reducible repeat (first | refine blk_drewN ?_ _ | refine blk_drew ?_ | refine blk_alloc ?_ _)); exact BK146.out) k_ hn_)), Or.elim hk_ (fun hs_ => fun e_ => Nat.not_le.2 hs_ (by rw [e_]; exact GW157.out)) (fun hn_ => (Kd.freshB (g := gb157) (o := .cells #[.string (⟨#[]⟩ : ByteArray), .slice none 0 0, .int .i64 0] 30 (0, 0)) (by (with_reducible repeat (first | refine blk_drewN ?_ _ | refine blk_drew ?_ | refine blk_alloc ?_ _)); exact BK157.out) k_ hn_))⟩)) (below_size (by repeat (first | (with_reducible first | exact HB.out | apply below_alloc | apply pw_below_drewN | apply below_drew1 | refine below_set ?_ GE146.out | refine below_set ?_ GE157.out) | exact HB.out))))
           have n1_ := Aside0.mk (blk_below (g := gb146) (o := .cells #[.string ((rd_T30 l0 x22_1).f0), .slice A145_1 ((rd_T30 l0 x22_1).f1).length c145_1, .int .i64 ((rd_T30 l0 x22_1).f2)] 30 (0, 0)) (by (with_reducible repeat (first | refine blk_drewN ?_ _ | refine blk_drew ?_ | refine blk_alloc ?_ _)); exact BK146.out) hb)
           have n2_ := Aside0.mk (blk_below (g := gb157) (o := .cells #[.string (⟨#[]⟩ : ByteArray), .slice none 0 0, .int .i64 0] 30 (0, 0)) (by (with_reducible repeat (first | refine blk_drewN ?_ _ | refine blk_drew ?_ | refine blk_alloc ?_ _)); exact BK157.out) hb)
           have n3_ := Aside0.mk (below_step (by repeat (first | (with_reducible first | exact HB.out | apply below_alloc | apply pw_below_drewN | apply below_drew1 | refine below_set ?_ GE146.out | refine below_set ?_ GE157.out) | exact HB.out)) hb)
           clear BK146
           clear BK157
           clear HB
           have HO154 := n0_
           have BK146 := n1_
           have BK157 := n2_
           have HB := n3_
           clear n0_ n1_ n2_ n3_
           (try clear hb)
           (try clear hb2)
           (try clear hk)
           (try clear hi)
           (try clear ho0)
           refine hK.out _ _ ⟨(blk_cell BK146.out 0).trans rfl, (blk_cell BK146.out 1).trans rfl, (blk_cell BK146.out 2).trans rfl⟩ (fun hHeld => ?_)
           clear hK K
           refine norm_ (a' := ?_) ?_ ?_
           rotate_left
           ·show Act.put _ (some 35) _ = _
            simp only [Act.put, List.setIfInBounds_toArray, List.set_cons_zero, List.set_cons_succ, i64_w, i32_w]
            rfl
           refine pure_ (i := 6) (N := some 29) (v := ?_) (a' := ?_) #[true, true, true, true, true, true, true, false, false, true, false, false] rfl rfl (any_of HT_.out (by kernel_rfl)) (fun _ _ _ h => h) (Or.inl ⟨by rfl, ?_⟩) ?_ ?_
           rotate_left
           ·intro w'
            go_simp
            with_reducible rfl
           rotate_left
           ·simp only [Act.put, List.setIfInBounds_toArray, List.set_cons_zero, List.set_cons_succ, i64_w, i32_w]
            rfl
           refine pure_ (i := 7) (N := some 36) (v := ?_) (a' := ?_) #[true, true, true, true, true, true, true, true, false, true, false, false] rfl rfl (any_of HT_.out (by kernel_rfl)) (fun _ _ _ h => h) (Or.inl ⟨by rfl, ?_⟩) ?_ ?_
           rotate_left
           ·intro w'
            go_simp
            with_reducible rfl
           rotate_left
           ·simp only [Act.put, List.setIfInBounds_toArray, List.set_cons_zero, List.set_cons_succ, i64_w, i32_w]
            rfl
           refine pure_ (i := 8) (N := some 37) (v := ?_) (a' := ?_) #[true, true, true, true, true, true, true, true, true, true, false, false] rfl rfl (any_of HT_.out (by kernel_rfl)) (fun _ _ _ h => h) (Or.inl ⟨by rfl, ?_⟩) ?_ ?_
           rotate_left
           ·intro w'
            go_simp
            with_reducible rfl
           rotate_left
           ·simp only [Act.put, List.setIfInBounds_toArray, List.set_cons_zero, List.set_cons_succ, i64_w, i32_w]
            rfl
           exact norm_ (by simp only [putAll, Act.put, List.setIfInBounds_toArray, List.set_cons_zero, List.set_cons_succ]) (hCont (v153, gb157) _ ⟨hHeld, (by (with_reducible repeat (first | apply Kd.V_alloc | apply Kd.V_drewN | apply Kd.V_drew)); exact HO154.out), (by (with_reducible repeat (first | refine blk_drewN ?_ _ | refine blk_drew ?_ | refine blk_alloc ?_ _)); exact BK146.out), (by (with_reducible repeat (first | refine blk_drewN ?_ _ | refine blk_drew ?_ | refine blk_alloc ?_ _)); exact BK157.out), GW157.out, GE157.out, NB146_157.out, NB157_146.out, (by repeat (first | (with_reducible first | exact HB.out | apply below_alloc | apply pw_below_drewN | apply below_drew1 | refine below_set ?_ GE146.out | refine below_set ?_ GE157.out) | exact HB.out))⟩)
         rintro ⟨v153, gb157⟩ w18 ⟨hS_, h0_, h1_, h2_, h3_, h4_, h5_, h6_, h7_⟩
         have n0_ : Aside0 (Kd.V k32 32 w18 w.heap.size (fun k_ => k_ ≠ gb146 ∧ k_ ≠ gb157) v153 t152) := ⟨h0_⟩
         have n1_ : Aside0 (w18.heap[gb146]? = some (.cells #[.string ((rd_T30 l0 x22_1).f0), .slice A145_1 ((rd_T30 l0 x22_1).f1).length c145_1, .int .i64 ((rd_T30 l0 x22_1).f2)] 30 (0, 0))) := ⟨h1_⟩
         have n2_ : Aside0 (w18.heap[gb157]? = some (.cells #[.string (⟨#[]⟩ : ByteArray), .slice none 0 0, .int .i64 0] 30 (0, 0))) := ⟨h2_⟩
         have n3_ : Aside0 (w.heap.size ≤ gb157) := ⟨h3_⟩
         have n4_ : Aside0 (w.heap.size ≤ gb157) := ⟨h4_⟩
         have n5_ : Aside0 (gb146 ≠ gb157) := ⟨h5_⟩
         have n6_ : Aside0 (gb157 ≠ gb146) := ⟨h6_⟩
         have n7_ : Aside0 (Below w.heap.size w w18) := ⟨h7_⟩
         clear BK146
         clear HB
         clear h0_ h1_ h2_ h3_ h4_ h5_ h6_ h7_
         have HO154 := n0_
         have BK146 := n1_
         have BK157 := n2_
         have GW157 := n3_
         have GE157 := n4_
         have NB146_157 := n5_
         have NB157_146 := n6_
         have HB := n7_
         clear n0_ n1_ n2_ n3_ n4_ n5_ n6_ n7_
         have hHeld : w18.cell? ⟨gb146, 0, none⟩ = some (.string ((rd_T30 l0 x22_1).f0)) ∧ w18.cell? ⟨gb146, 1, none⟩ = some (.slice A145_1 ((rd_T30 l0 x22_1).f1).length c145_1) ∧ w18.cell? ⟨gb146, 2, none⟩ = some (.int .i64 ((rd_T30 l0 x22_1).f2)) := hS_
         obtain ⟨Ao20, co20, eo20⟩ := Kd.V_slice HO154.out
         (first | subst eo20 | (injection eo20 with f1_ f2_ f3_; have f4_ := f1_.symm; have f5_ := f3_.symm; clear f1_ f2_ f3_; subst f4_; subst f5_))
         refine norm_ (a' := ?_) ?_ ?_
         rotate_left
         ·simp only [putAll, Act.put, List.setIfInBounds_toArray, List.set_cons_zero, List.set_cons_succ]
          rfl
         refine one_ (i := 10) (N := none) #[true, true, true, true, true, true, true, true, true, true, true, false] rfl rfl (one_of HT_.out (by kernel_rfl)) (by decide) (fun K hK => ?_)
         have hs19 : w18.cell? ⟨gb157, 0, none⟩ = some (.string (⟨#[]⟩ : ByteArray)) := (blk_cell BK157.out 0).trans rfl
         have hfs19 := blk_frozen BK157.out 0
         have hns19_0 := NB146_157.out
         have hms19_0 := NB157_146.out
         have hs21 : w18.cell? ⟨gb157, 1, none⟩ = some (.slice none 0 0) := (blk_cell BK157.out 1).trans rfl
         have hfs21 := blk_frozen BK157.out 1
         have hns21_0 := NB146_157.out
         have hms21_0 := NB157_146.out
         have hs22 : w18.cell? ⟨gb157, 2, none⟩ = some (.int .i64 0) := (blk_cell BK157.out 2).trans rfl
         have hfs22 := blk_frozen BK157.out 2
         have hns22_0 := NB146_157.out
         have hms22_0 := NB157_146.out
         refine skip_ (w1 := ?_) (by rfl) rfl ?_ ?_
         rotate_left
         ·go_simp
          rfl
         refine hK.out _ _ ⟨((cell_far (p := ⟨gb157, _, none⟩) NB146_157.out _).trans (((cell_far (p := ⟨gb157, _, none⟩) NB146_157.out _).trans (((cell_far (p := ⟨gb157, _, none⟩) NB146_157.out _).trans (hHeld.1)))))), ((cell_far (p := ⟨gb157, _, none⟩) NB146_157.out _).trans (((cell_far (p := ⟨gb157, _, none⟩) NB146_157.out _).trans (((cell_far (p := ⟨gb157, _, none⟩) NB146_157.out _).trans (hHeld.2.1)))))), ((cell_far (p := ⟨gb157, _, none⟩) NB146_157.out _).trans (((cell_far (p := ⟨gb157, _, none⟩) NB146_157.out _).trans (((cell_far (p := ⟨gb157, _, none⟩) NB146_157.out _).trans (hHeld.2.2))))))⟩ (fun hHeld => ?_)
         clear hK K
         refine pure_ (i := 11) (N := some 7) (v := ?_) (a' := ?_) #[true, true, true, true, true, true, true, true, true, true, true, true] rfl rfl (any_of HT_.out (by kernel_rfl)) (fun _ _ _ h => h) (Or.inl ⟨by rfl, ?_⟩) ?_ ?_
         rotate_left
         ·intro w'
          go_simp
          with_reducible rfl
         rotate_left
         ·simp only [Act.put, List.setIfInBounds_toArray, List.set_cons_zero, List.set_cons_succ, i64_w, i32_w]
          rfl
         refine done_ (done_of HT_.out (by kernel_rfl)) ?_
         have hnb23 := NB146_157.out
         have hnc23 := NB157_146.out
         have hcz24_0 : w18.cell? ⟨gb146, 0, none⟩ = some (.string ((rd_T30 l0 x22_1).f0)) := (blk_cell BK146.out 0).trans rfl
         have hcz24_1 : w18.cell? ⟨gb146, 1, none⟩ = some (.slice A145_1 ((rd_T30 l0 x22_1).f1).length c145_1) := (blk_cell BK146.out 1).trans rfl
         have hcz24_2 : w18.cell? ⟨gb146, 2, none⟩ = some (.int .i64 ((rd_T30 l0 x22_1).f2)) := (blk_cell BK146.out 2).trans rfl
         have hfz24_0 := blk_frozen BK146.out 0
         have hfz24_1 := blk_frozen BK146.out 1
         have hfz24_2 := blk_frozen BK146.out 2
         try go_wp2
         go_ret2
         exact ⟨by first | rfl | (simp [errW_none, errW_some] <;> rfl) | (simp [*, errW_none, errW_some] <;> rfl), by repeat (first | (with_reducible first | exact HB.out | apply below_alloc | apply pw_below_drewN | apply below_drew1 | refine below_set ?_ GE146.out | refine below_set ?_ GE157.out) | exact HB.out)⟩
        ·replace c10 := Bool.eq_false_iff.mpr c10
         subst c10
         have H1 : (if (((rd_T30 l0 x22_1).f1).length : Int) = 0 then (hauberkref04_Check.j1 k1 l0 (l0.length : Int) x22_1 true ((rd_T30 l0 x22_1).f0) ((rd_T30 l0 x22_1).f1) ((rd_T30 l0 x22_1).f2)) else (hauberkref04_Check.j1 k1 l0 (l0.length : Int) x22_1 (decide ((((rd_T30 l0 x22_1).f1).length : Int) > 12)) ((rd_T30 l0 x22_1).f0) ((rd_T30 l0 x22_1).f1) ((rd_T30 l0 x22_1).f2))) = some (r1, r2) := by rw [if_neg (show ¬ (false = true) by decide)] at H; exact H
         clear H
         have H := H1
         clear H1
         have HC25 := Aside0.mk H
         clear H
         have p145 : 0 ≤ (x22_1 : Int) := of_decide_eq_true (by first | (with_reducible assumption) | assumption)
         have q145 : x22_1 < (l0.length : Int) := of_decide_eq_true (by first | (with_reducible assumption) | assumption)
         obtain ⟨ad145, A145_1, c145_1, e145, hx145_0, hx145_1, hx145_2, hl145_1, hi145_1⟩ := at_T30 HR0.out x22_1 p145 q145
         cases e145
         replace hx145_0 := (HB.out.cell (World.block_lt_of_cell? w _ hx145_0)).trans hx145_0
         replace hx145_1 := (HB.out.cell (World.block_lt_of_cell? w _ hx145_1)).trans hx145_1
         replace hx145_2 := (HB.out.cell (World.block_lt_of_cell? w _ hx145_2)).trans hx145_2
         have HR145_1 := Aside0.mk hi145_1
         have HC145_1 := Aside0.mk hl145_1
         clear hi145_1 hl145_1
         replace p145 := eq_true p145
         replace q145 := eq_true q145
         try go_wp2_with (first | ((with_reducible refine gate_dst (N := 5) rfl ?_); (try (refine gate_guard (by rfl) ?_; dsimp only)); refine box_event ?hg (N := 5) ?hd (cs := #[.string (⟨#[]⟩ : ByteArray), .slice none 0 0, .int .i64 0]) (t := 30) ?hr ?_; (case hd => rfl); (case hg => rfl); (case hr => first | (go_simp; done) | (go_simp; rfl)); intro gb146 hg w26 hbox hb; have n0_ := Aside0.mk (below_step (by repeat (first | (with_reducible first | exact HB.out | apply below_alloc | apply pw_below_drewN | apply below_drew1) | exact HB.out)) hb); have n1_ := Aside0.mk (hbox); have n2_ := Aside0.mk ((by rw [hg]; exact (below_size (by repeat (first | (with_reducible first | exact HB.out | apply below_alloc | apply pw_below_drewN | apply below_drew1) | exact HB.out))) : w.heap.size ≤ gb146)); have n3_ := Aside0.mk ((by rw [hg]; exact (below_size (by repeat (first | (with_reducible first | exact HB.out | apply below_alloc | apply pw_below_drewN | apply below_drew1) | exact HB.out))) : w.heap.size ≤ gb146)); clear HB; have HB := n0_; have BK146 := n1_; have GW146 := n2_; have GE146 := n3_; clear n0_ n1_ n2_ n3_; clear hb hbox hg; have hcz27_0 : w26.cell? ⟨gb146, 0, none⟩ = some (.string (⟨#[]⟩ : ByteArray)) := (blk_cell BK146.out 0).trans rfl; have hcz27_1 : w26.cell? ⟨gb146, 1, none⟩ = some (.slice none 0 0) := (blk_cell BK146.out 1).trans rfl; have hcz27_2 : w26.cell? ⟨gb146, 2, none⟩ = some (.int .i64 0) := (blk_cell BK146.out 2).trans rfl; have hfz27_0 := blk_frozen BK146.out 0; have hfz27_1 := blk_frozen BK146.out 1; have hfz27_2 := blk_frozen BK146.out 2))
         have n0_ : Aside0 ((((w26.setCell ⟨gb146, 0, none⟩ (.string ((rd_T30 l0 x22_1).f0))).setCell ⟨gb146, 1, none⟩ (.slice A145_1 ((rd_T30 l0 x22_1).f1).length c145_1)).setCell ⟨gb146, 2, none⟩ (.int .i64 ((rd_T30 l0 x22_1).f2))).heap[gb146]? = some (.cells #[.string ((rd_T30 l0 x22_1).f0), .slice A145_1 ((rd_T30 l0 x22_1).f1).length c145_1, .int .i64 ((rd_T30 l0 x22_1).f2)] 30 (0, 0))) := ⟨by (with_reducible repeat (first | refine blk_drewN ?_ _ | refine blk_drew ?_ | refine blk_alloc ?_ _)); refine blk_put (cs := #[.string ((rd_T30 l0 x22_1).f0), .slice A145_1 ((rd_T30 l0 x22_1).f1).length c145_1, .int .i64 0]) ?_ 2 _ rfl; (with_reducible repeat (first | refine blk_drewN ?_ _ | refine blk_drew ?_ | refine blk_alloc ?_ _)); refine blk_put (cs := #[.string ((rd_T30 l0 x22_1).f0), .slice none 0 0, .int .i64 0]) ?_ 1 _ rfl; (with_reducible repeat (first | refine blk_drewN ?_ _ | refine blk_drew ?_ | refine blk_alloc ?_ _)); refine blk_put (cs := #[.string (⟨#[]⟩ : ByteArray), .slice none 0 0, .int .i64 0]) ?_ 0 _ rfl; (with_reducible repeat (first | refine blk_drewN ?_ _ | refine blk_drew ?_ | refine blk_alloc ?_ _)); exact BK146.out⟩
         have n1_ : Aside0 (Below w.heap.size w (((w26.setCell ⟨gb146, 0, none⟩ (.string ((rd_T30 l0 x22_1).f0))).setCell ⟨gb146, 1, none⟩ (.slice A145_1 ((rd_T30 l0 x22_1).f1).length c145_1)).setCell ⟨gb146, 2, none⟩ (.int .i64 ((rd_T30 l0 x22_1).f2)))) := ⟨by repeat (first | (with_reducible first | exact HB.out | apply below_alloc | apply pw_below_drewN | apply below_drew1 | refine below_set ?_ GE146.out) | exact HB.out)⟩
         (try clear BK146)
         (try clear HB)
         generalize (((w26.setCell ⟨gb146, 0, none⟩ (.string ((rd_T30 l0 x22_1).f0))).setCell ⟨gb146, 1, none⟩ (.slice A145_1 ((rd_T30 l0 x22_1).f1).length c145_1)).setCell ⟨gb146, 2, none⟩ (.int .i64 ((rd_T30 l0 x22_1).f2))) = w28 at n0_ n1_ ⊢
         have BK146 := n0_
         have HB := n1_
         clear n0_ n1_
         have n0_ := Aside0.mk (blk_drew BK146.out)
         have n1_ := Aside0.mk (below_drew1 HB.out)
         clear BK146
         clear HB
         have BK146 := n0_
         have HB := n1_
         clear n0_ n1_
         have q30 : (x22_1 : Int) ≤ ((l0.length : Int) : Int) := of_decide_eq_true (by first | (with_reducible assumption) | assumption)
         obtain ⟨i030, hi030, _, hsz30, _⟩ := info_parts info30
         have hroom30 : l0.length ≤ c0 := HC0.out
         have hC30 : Kd.C k30 _ (some ad145) l0.length l0 := HR0.out
         have hcut30 := cut_to (P := Try.prog) 33 30 .i64 Try.underlying33 hi030 (some ad145) l0.length c0 x22_1 (of_decide_eq_true (by first | (with_reducible assumption) | assumption)) q30 hroom30
         have hr30 := Kd.C_take (m := (x22_1 : Int).toNat) hC30 (by omega)
         have hy30 : y147.length = (x22_1 : Int).toNat := (by rw [Ny147.out, List.length_take]; omega)
         rw [← Ny147.out] at hr30
         rw [← hy30] at hcut30
         have HR150 := Aside0.mk hr30
         have HC150 := Aside0.mk (show y147.length ≤ c0 from by omega)
         clear hr30 hC30 hroom30 hi030 hsz30
         have KY30 := Aside0.mk hy30
         clear hy30
         replace q30 := eq_true q30
         refine start_ (n := 12) (S := fun w' => w'.cell? ⟨gb146, 0, none⟩ = some (.string ((rd_T30 l0 x22_1).f0)) ∧ w'.cell? ⟨gb146, 1, none⟩ = some (.slice A145_1 ((rd_T30 l0 x22_1).f1).length c145_1) ∧ w'.cell? ⟨gb146, 2, none⟩ = some (.int .i64 ((rd_T30 l0 x22_1).f2))) (ds := []) #[false, false, false, false, false, false, false, false, false, false, false, false] (by kernel_rfl) rfl rfl ⟨(blk_cell BK146.out 0).trans rfl, (blk_cell BK146.out 1).trans rfl, (blk_cell BK146.out 2).trans rfl⟩ (fun hHeld => ?_); refine with_tabW hauberkref04_Check.tab7 hauberkref04_Check.bits7 (fun HT_ HW_ => ?_)
         generalize w28.drew = w29 at BK146 HB HR150 hHeld ⊢
         refine pure_ (i := 0) (N := some 30) (v := ?_) (a' := ?_) #[true, false, false, false, false, false, false, false, false, false, false, false] rfl rfl (any_of HT_.out (by kernel_rfl)) (fun _ _ _ h => h) (Or.inl ⟨by rfl, ?_⟩) ?_ ?_
         rotate_left
         ·intro w'
          go_simp
          with_reducible rfl
         rotate_left
         ·simp only [Act.put, List.setIfInBounds_toArray, List.set_cons_zero, List.set_cons_succ, i64_w, i32_w]
          rfl
         refine pure_ (i := 1) (N := some 31) (v := ?_) (a' := ?_) #[true, true, false, false, false, false, false, false, false, false, false, false] rfl rfl (any_of HT_.out (by kernel_rfl)) (fun _ _ _ h => h) (Or.inl ⟨by rfl, ?_⟩) ?_ ?_
         rotate_left
         ·intro w'
          go_simp
          with_reducible rfl
         rotate_left
         ·simp only [Act.put, List.setIfInBounds_toArray, List.set_cons_zero, List.set_cons_succ, i64_w, i32_w]
          rfl
         refine pure_ (i := 2) (N := some 32) (v := ?_) (a' := ?_) #[true, true, true, false, false, false, false, false, false, false, false, false] rfl rfl (any_of HT_.out (by kernel_rfl)) (fun _ _ _ h => h) (Or.inl ⟨by rfl, ?_⟩) ?_ ?_
         rotate_left
         ·intro w'
          go_simp
          with_reducible rfl
         rotate_left
         ·simp only [Act.put, List.setIfInBounds_toArray, List.set_cons_zero, List.set_cons_succ, i64_w, i32_w]
          rfl
         refine pure_ (i := 3) (N := some 33) (v := ?_) (a' := ?_) #[true, true, true, true, false, false, false, false, false, false, false, false] rfl rfl (any_of HT_.out (by kernel_rfl)) (fun _ _ _ h => h) (Or.inl ⟨by rfl, ?_⟩) ?_ ?_
         rotate_left
         ·intro w'
          go_simp
          with_reducible rfl
         rotate_left
         ·simp only [Act.put, List.setIfInBounds_toArray, List.set_cons_zero, List.set_cons_succ, i64_w, i32_w]
          rfl
         refine take_ (i := 4) (N := some 34) (v := ?_) (a' := ?_) #[true, true, true, true, true, false, false, false, false, false, false, false] rfl rfl (take_ofW HT_.out HW_.out (by kernel_rfl)) (fun _ _ _ h => h) (Or.inl ⟨by rfl, ?_⟩) hHeld ?_ ?_
         rotate_left
         ·rintro w' ⟨s0, s1, s2⟩
          go_simp
          with_reducible rfl
         rotate_left
         ·simp only [Act.put, List.setIfInBounds_toArray, List.set_cons_zero, List.set_cons_succ, i64_w, i32_w]
          rfl
         refine join_ (σ := Value × Nat) 2 #[true, true, true, true, true, true, true, true, true, true, false, false] (fun s_ => [(35, .tuple #[.agg #[.string t151, s_.1, .int .i64 t155], .bool false]), (6, .pointer (some ⟨s_.2, 0, none⟩)), (29, .tuple #[.agg #[.string t151, s_.1, .int .i64 t155], .bool false]), (36, .agg #[.string t151, s_.1, .int .i64 t155]), (37, .bool false)]) (fun s_ w' => (w'.cell? ⟨gb146, 0, none⟩ = some (.string ((rd_T30 l0 x22_1).f0)) ∧ w'.cell? ⟨gb146, 1, none⟩ = some (.slice A145_1 ((rd_T30 l0 x22_1).f1).length c145_1) ∧ w'.cell? ⟨gb146, 2, none⟩ = some (.int .i64 ((rd_T30 l0 x22_1).f2))) ∧ (Kd.V k32 32 w' w.heap.size (fun k_ => k_ ≠ gb146 ∧ k_ ≠ s_.2) s_.1 t152) ∧ (w'.heap[gb146]? = some (.cells #[.string ((rd_T30 l0 x22_1).f0), .slice A145_1 ((rd_T30 l0 x22_1).f1).length c145_1, .int .i64 ((rd_T30 l0 x22_1).f2)] 30 (0, 0))) ∧ (w'.heap[s_.2]? = some (.cells #[.string (⟨#[]⟩ : ByteArray), .slice none 0 0, .int .i64 0] 30 (0, 0))) ∧ (w.heap.size ≤ s_.2) ∧ (w.heap.size ≤ s_.2) ∧ (gb146 ≠ s_.2) ∧ (s_.2 ≠ gb146) ∧ (Below w.heap.size w w')) ?_ ?_
         rotate_left
         ·intro hCont
          refine two_ (i := 5) (j := 9) (Ni := some 35) (Nj := some 6) #[true, true, true, true, true, true, false, false, false, false, false, false] #[true, true, true, true, true, false, false, false, false, true, false, false] rfl rfl rfl rfl (two_of HT_.out (by kernel_rfl)) (by decide) (by decide) (fun K hK => ?_) (fun K hK => ?_)
          ·skip
           refine goes_ Try.func11 (by kernel_rfl) rfl #[.slice (some ad145) y147.length c0, .string ((rd_T30 l0 x22_1).f0)] (by rfl) rfl rfl (by (try simp only [List.map_toArray, List.map_cons, List.map_nil]); first | done | rfl | (simp only [List.length_drop, List.length_take]; rfl)) ?_
           with_reducible refine (hauberkref04_Find.calls k1 (fun k_ => k_ < w.heap.size) _ _ y147 ((rd_T30 l0 x22_1).f0) t151 t152 t155 false _ ?side1 A9.out).mono ?_
           (case side1 => exact Kd.V_mk HC150.out (Kd.F_below (Kd.C_F k30_heap HR150.out) (by repeat (first | (with_reducible first | exact HB.out | apply below_alloc | apply pw_below_drewN | apply below_drew1 | refine below_set ?_ GE146.out) | exact HB.out))))
           rintro e w31 ⟨v153, rfl, ho0, hb⟩
           refine ⟨_, rfl, ?_⟩
           have n0_ := Aside0.mk (Kd.V_lower (Kd.V_mono (ok' := fun k_ => k_ ≠ gb146) ho0 (fun k_ hk_ => Or.elim hk_ (fun hs_ => fun e_ => Nat.not_le.2 hs_ (by rw [e_]; exact GW146.out)) (fun hn_ => (Kd.freshB (g := gb146) (o := .cells #[.string ((rd_T30 l0 x22_1).f0), .slice A145_1 ((rd_T30 l0 x22_1).f1).length c145_1, .int .i64 ((rd_T30 l0 x22_1).f2)] 30 (0, 0)) (by (with_reducible repeat (first | refine blk_drewN ?_ _ | refine blk_drew ?_ | refine blk_alloc ?_ _)); exact BK146.out) k_ hn_)))) (below_size (by repeat (first | (with_reducible first | exact HB.out | apply below_alloc | apply pw_below_drewN | apply below_drew1 | refine below_set ?_ GE146.out) | exact HB.out))))
           have n1_ := Aside0.mk (blk_below (g := gb146) (o := .cells #[.string ((rd_T30 l0 x22_1).f0), .slice A145_1 ((rd_T30 l0 x22_1).f1).length c145_1, .int .i64 ((rd_T30 l0 x22_1).f2)] 30 (0, 0)) (by (with_reducible repeat (first | refine blk_drewN ?_ _ | refine blk_drew ?_ | refine blk_alloc ?_ _)); exact BK146.out) hb)
           have n2_ := Aside0.mk (below_step (by repeat (first | (with_reducible first | exact HB.out | apply below_alloc | apply pw_below_drewN | apply below_drew1 | refine below_set ?_ GE146.out) | exact HB.out)) hb)
           clear BK146
           clear HB
           have HO154 := n0_
           have BK146 := n1_
           have HB := n2_
           clear n0_ n1_ n2_
           (try clear hb)
           (try clear hb2)
           (try clear hk)
           (try clear hi)
           (try clear ho0)
           refine hK.out _ _ ⟨(blk_cell BK146.out 0).trans rfl, (blk_cell BK146.out 1).trans rfl, (blk_cell BK146.out 2).trans rfl⟩ (fun hHeld => ?_)
           clear hK K
           refine norm_ (a' := ?_) ?_ ?_
           rotate_left
           ·show Act.put _ (some 35) _ = _
            simp only [Act.put, List.setIfInBounds_toArray, List.set_cons_zero, List.set_cons_succ, i64_w, i32_w]
            rfl
           refine pure_ (i := 6) (N := some 29) (v := ?_) (a' := ?_) #[true, true, true, true, true, true, true, false, false, false, false, false] rfl rfl (any_of HT_.out (by kernel_rfl)) (fun _ _ _ h => h) (Or.inl ⟨by rfl, ?_⟩) ?_ ?_
           rotate_left
           ·intro w'
            go_simp
            with_reducible rfl
           rotate_left
           ·simp only [Act.put, List.setIfInBounds_toArray, List.set_cons_zero, List.set_cons_succ, i64_w, i32_w]
            rfl
           refine pure_ (i := 7) (N := some 36) (v := ?_) (a' := ?_) #[true, true, true, true, true, true, true, true, false, false, false, false] rfl rfl (any_of HT_.out (by kernel_rfl)) (fun _ _ _ h => h) (Or.inl ⟨by rfl, ?_⟩) ?_ ?_
           rotate_left
           ·intro w'
            go_simp
            with_reducible rfl
           rotate_left
           ·simp only [Act.put, List.setIfInBounds_toArray, List.set_cons_zero, List.set_cons_succ, i64_w, i32_w]
            rfl
           refine pure_ (i := 8) (N := some 37) (v := ?_) (a' := ?_) #[true, true, true, true, true, true, true, true, true, false, false, false] rfl rfl (any_of HT_.out (by kernel_rfl)) (fun _ _ _ h => h) (Or.inl ⟨by rfl, ?_⟩) ?_ ?_
           rotate_left
           ·intro w'
            go_simp
            with_reducible rfl
           rotate_left
           ·simp only [Act.put, List.setIfInBounds_toArray, List.set_cons_zero, List.set_cons_succ, i64_w, i32_w]
            rfl
           refine one_ (i := 9) (N := some 6) #[true, true, true, true, true, true, true, true, true, true, false, false] rfl rfl (one_of HT_.out (by kernel_rfl)) (by decide) (fun K hK => ?_)
           refine box_step ?hg (N := 6) ?hd (cs := #[.string (⟨#[]⟩ : ByteArray), .slice none 0 0, .int .i64 0]) (t := 30) ?hr ?_; (case hd => rfl); (case hg => rfl); (case hr => first | (go_simp; done) | (go_simp; rfl))
           intro gb157 hg w32 hbox hb
           have n0_ := Aside0.mk (Kd.V_below (Kd.V_elderB (by (with_reducible repeat (first | apply Kd.V_alloc | apply Kd.V_drewN | apply Kd.V_drew)); exact HO154.out) gb157 (Nat.le_of_eq hg.symm)) hb)
           have n1_ := Aside0.mk (blk_below (g := gb146) (o := .cells #[.string ((rd_T30 l0 x22_1).f0), .slice A145_1 ((rd_T30 l0 x22_1).f1).length c145_1, .int .i64 ((rd_T30 l0 x22_1).f2)] 30 (0, 0)) (by (with_reducible repeat (first | refine blk_drewN ?_ _ | refine blk_drew ?_ | refine blk_alloc ?_ _)); exact BK146.out) hb)
           have n2_ := Aside0.mk (below_step (by repeat (first | (with_reducible first | exact HB.out | apply below_alloc | apply pw_below_drewN | apply below_drew1 | refine below_set ?_ GE146.out) | exact HB.out)) hb)
           have n3_ := Aside0.mk (hbox)
           have n4_ := Aside0.mk ((by rw [hg]; exact (below_size (by repeat (first | (with_reducible first | exact HB.out | apply below_alloc | apply pw_below_drewN | apply below_drew1 | refine below_set ?_ GE146.out) | exact HB.out))) : w.heap.size ≤ gb157))
           have n5_ := Aside0.mk ((by rw [hg]; exact (below_size (by repeat (first | (with_reducible first | exact HB.out | apply below_alloc | apply pw_below_drewN | apply below_drew1 | refine below_set ?_ GE146.out) | exact HB.out))) : w.heap.size ≤ gb157))
           have n6_ := Aside0.mk ((by rw [hg]; exact Nat.ne_of_lt (blk_lt (g := gb146) (o := .cells #[.string ((rd_T30 l0 x22_1).f0), .slice A145_1 ((rd_T30 l0 x22_1).f1).length c145_1, .int .i64 ((rd_T30 l0 x22_1).f2)] 30 (0, 0)) (by (with_reducible repeat (first | refine blk_drewN ?_ _ | refine blk_drew ?_ | refine blk_alloc ?_ _)); exact BK146.out)) : gb146 ≠ gb157))
           have n7_ := Aside0.mk ((by rw [hg]; exact Nat.ne_of_gt (blk_lt (g := gb146) (o := .cells #[.string ((rd_T30 l0 x22_1).f0), .slice A145_1 ((rd_T30 l0 x22_1).f1).length c145_1, .int .i64 ((rd_T30 l0 x22_1).f2)] 30 (0, 0)) (by (with_reducible repeat (first | refine blk_drewN ?_ _ | refine blk_drew ?_ | refine blk_alloc ?_ _)); exact BK146.out)) : gb157 ≠ gb146))
           clear HO154
           clear BK146
           clear HB
           have HO154 := n0_
           have BK146 := n1_
           have HB := n2_
           have BK157 := n3_
           have GW157 := n4_
           have GE157 := n5_
           have NB146_157 := n6_
           have NB157_146 := n7_
           clear n0_ n1_ n2_ n3_ n4_ n5_ n6_ n7_
           clear hb hbox hg
           refine hK.out _ _ ⟨(blk_cell BK146.out 0).trans rfl, (blk_cell BK146.out 1).trans rfl, (blk_cell BK146.out 2).trans rfl⟩ (fun hHeld => ?_)
           clear hK K
           refine norm_ (a' := ?_) ?_ ?_
           rotate_left
           ·show Act.put _ (some 6) _ = _
            simp only [Act.put, List.setIfInBounds_toArray, List.set_cons_zero, List.set_cons_succ, i64_w, i32_w]
            rfl
           exact norm_ (by simp only [putAll, Act.put, List.setIfInBounds_toArray, List.set_cons_zero, List.set_cons_succ]) (hCont (v153, gb157) _ ⟨hHeld, (by (with_reducible repeat (first | apply Kd.V_alloc | apply Kd.V_drewN | apply Kd.V_drew)); exact HO154.out), (by (with_reducible repeat (first | refine blk_drewN ?_ _ | refine blk_drew ?_ | refine blk_alloc ?_ _)); exact BK146.out), (by (with_reducible repeat (first | refine blk_drewN ?_ _ | refine blk_drew ?_ | refine blk_alloc ?_ _)); exact BK157.out), GW157.out, GE157.out, NB146_157.out, NB157_146.out, (by repeat (first | (with_reducible first | exact HB.out | apply below_alloc | apply pw_below_drewN | apply below_drew1 | refine below_set ?_ GE146.out | refine below_set ?_ GE157.out) | exact HB.out))⟩)
          ·skip
           refine box_step ?hg (N := 6) ?hd (cs := #[.string (⟨#[]⟩ : ByteArray), .slice none 0 0, .int .i64 0]) (t := 30) ?hr ?_; (case hd => rfl); (case hg => rfl); (case hr => first | (go_simp; done) | (go_simp; rfl))
           intro gb157 hg w31 hbox hb
           have n0_ := Aside0.mk (blk_below (g := gb146) (o := .cells #[.string ((rd_T30 l0 x22_1).f0), .slice A145_1 ((rd_T30 l0 x22_1).f1).length c145_1, .int .i64 ((rd_T30 l0 x22_1).f2)] 30 (0, 0)) (by (with_reducible repeat (first | refine blk_drewN ?_ _ | refine blk_drew ?_ | refine blk_alloc ?_ _)); exact BK146.out) hb)
           have n1_ := Aside0.mk (below_step (by repeat (first | (with_reducible first | exact HB.out | apply below_alloc | apply pw_below_drewN | apply below_drew1 | refine below_set ?_ GE146.out) | exact HB.out)) hb)
           have n2_ := Aside0.mk (hbox)
           have n3_ := Aside0.mk ((by rw [hg]; exact (below_size (by repeat (first | (with_reducible first | exact HB.out | apply below_alloc | apply pw_below_drewN | apply below_drew1 | refine below_set ?_ GE146.out) | exact HB.out))) : w.heap.size ≤ gb157))
           have n4_ := Aside0.mk ((by rw [hg]; exact (below_size (by repeat (first | (with_reducible first | exact HB.out | apply below_alloc | apply pw_below_drewN | apply below_drew1 | refine below_set ?_ GE146.out) | exact HB.out))) : w.heap.size ≤ gb157))
           have n5_ := Aside0.mk ((by rw [hg]; exact Nat.ne_of_lt (blk_lt (g := gb146) (o := .cells #[.string ((rd_T30 l0 x22_1).f0), .slice A145_1 ((rd_T30 l0 x22_1).f1).length c145_1, .int .i64 ((rd_T30 l0 x22_1).f2)] 30 (0, 0)) (by (with_reducible repeat (first | refine blk_drewN ?_ _ | refine blk_drew ?_ | refine blk_alloc ?_ _)); exact BK146.out)) : gb146 ≠ gb157))
           have n6_ := Aside0.mk ((by rw [hg]; exact Nat.ne_of_gt (blk_lt (g := gb146) (o := .cells #[.string ((rd_T30 l0 x22_1).f0), .slice A145_1 ((rd_T30 l0 x22_1).f1).length c145_1, .int .i64 ((rd_T30 l0 x22_1).f2)] 30 (0, 0)) (by (with_reducible repeat (first | refine blk_drewN ?_ _ | refine blk_drew ?_ | refine blk_alloc ?_ _)); exact BK146.out)) : gb157 ≠ gb146))
           clear BK146
           clear HB
           have BK146 := n0_
           have HB := n1_
           have BK157 := n2_
           have GW157 := n3_
           have GE157 := n4_
           have NB146_157 := n5_
           have NB157_146 := n6_
           clear n0_ n1_ n2_ n3_ n4_ n5_ n6_
           clear hb hbox hg
           refine hK.out _ _ ⟨(blk_cell BK146.out 0).trans rfl, (blk_cell BK146.out 1).trans rfl, (blk_cell BK146.out 2).trans rfl⟩ (fun hHeld => ?_)
           clear hK K
           refine norm_ (a' := ?_) ?_ ?_
           rotate_left
           ·show Act.put _ (some 6) _ = _
            simp only [Act.put, List.setIfInBounds_toArray, List.set_cons_zero, List.set_cons_succ, i64_w, i32_w]
            rfl
           refine one_ (i := 5) (N := some 35) #[true, true, true, true, true, true, false, false, false, true, false, false] rfl rfl (one_of HT_.out (by kernel_rfl)) (by decide) (fun K hK => ?_)
           refine goes_ Try.func11 (by kernel_rfl) rfl #[.slice (some ad145) y147.length c0, .string ((rd_T30 l0 x22_1).f0)] (by rfl) rfl rfl (by (try simp only [List.map_toArray, List.map_cons, List.map_nil]); first | done | rfl | (simp only [List.length_drop, List.length_take]; rfl)) ?_
           with_reducible refine (hauberkref04_Find.calls k1 (fun k_ => k_ < w.heap.size) _ _ y147 ((rd_T30 l0 x22_1).f0) t151 t152 t155 false _ ?side1 A9.out).mono ?_
           (case side1 => exact Kd.V_mk HC150.out (Kd.F_below (Kd.C_F k30_heap HR150.out) (by repeat (first | (with_reducible first | exact HB.out | apply below_alloc | apply pw_below_drewN | apply below_drew1 | refine below_set ?_ GE146.out | refine below_set ?_ GE157.out) | exact HB.out))))
           rintro e w32 ⟨v153, rfl, ho0, hb⟩
           refine ⟨_, rfl, ?_⟩
           have n0_ := Aside0.mk (Kd.V_lower (Kd.V_mono (ok' := fun k_ => k_ ≠ gb146 ∧ k_ ≠ gb157) ho0 (fun k_ hk_ => ⟨Or.elim hk_ (fun hs_ => fun e_ => Nat.not_le.2 hs_ (by rw [e_]; exact GW146.out)) (fun hn_ => (Kd.freshB (g := gb146) (o := .cells #[.string ((rd_T30 l0 x22_1).f0), .slice A145_1 ((rd_T30 l0 x22_1).f1).length c145_1, .int .i64 ((rd_T30 l0 x22_1).f2)] 30 (0, 0)) (by (with_reducible repeat (first | refine blk_drewN ?_ _ | refine blk_drew ?_ | refine blk_alloc ?_ _)); exact BK146.out) k_ hn_)), Or.elim hk_ (fun hs_ => fun e_ => Nat.not_le.2 hs_ (by rw [e_]; exact GW157.out)) (fun hn_ => (Kd.freshB (g := gb157) (o := .cells #[.string (⟨#[]⟩ : ByteArray), .slice none 0 0, .int .i64 0] 30 (0, 0)) (by (with_reducible repeat (first | refine blk_drewN ?_ _ | refine blk_drew ?_ | refine blk_alloc ?_ _)); exact BK157.out) k_ hn_))⟩)) (below_size (by repeat (first | (with_reducible first | exact HB.out | apply below_alloc | apply pw_below_drewN | apply below_drew1 | refine below_set ?_ GE146.out | refine below_set ?_ GE157.out) | exact HB.out))))
           have n1_ := Aside0.mk (blk_below (g := gb146) (o := .cells #[.string ((rd_T30 l0 x22_1).f0), .slice A145_1 ((rd_T30 l0 x22_1).f1).length c145_1, .int .i64 ((rd_T30 l0 x22_1).f2)] 30 (0, 0)) (by (with_reducible repeat (first | refine blk_drewN ?_ _ | refine blk_drew ?_ | refine blk_alloc ?_ _)); exact BK146.out) hb)
           have n2_ := Aside0.mk (blk_below (g := gb157) (o := .cells #[.string (⟨#[]⟩ : ByteArray), .slice none 0 0, .int .i64 0] 30 (0, 0)) (by (with_reducible repeat (first | refine blk_drewN ?_ _ | refine blk_drew ?_ | refine blk_alloc ?_ _)); exact BK157.out) hb)
           have n3_ := Aside0.mk (below_step (by repeat (first | (with_reducible first | exact HB.out | apply below_alloc | apply pw_below_drewN | apply below_drew1 | refine below_set ?_ GE146.out | refine below_set ?_ GE157.out) | exact HB.out)) hb)
           clear BK146
           clear BK157
           clear HB
           have HO154 := n0_
           have BK146 := n1_
           have BK157 := n2_
           have HB := n3_
           clear n0_ n1_ n2_ n3_
           (try clear hb)
           (try clear hb2)
           (try clear hk)
           (try clear hi)
           (try clear ho0)
           refine hK.out _ _ ⟨(blk_cell BK146.out 0).trans rfl, (blk_cell BK146.out 1).trans rfl, (blk_cell BK146.out 2).trans rfl⟩ (fun hHeld => ?_)
           clear hK K
           refine norm_ (a' := ?_) ?_ ?_
           rotate_left
           ·show Act.put _ (some 35) _ = _
            simp only [Act.put, List.setIfInBounds_toArray, List.set_cons_zero, List.set_cons_succ, i64_w, i32_w]
            rfl
           refine pure_ (i := 6) (N := some 29) (v := ?_) (a' := ?_) #[true, true, true, true, true, true, true, false, false, true, false, false] rfl rfl (any_of HT_.out (by kernel_rfl)) (fun _ _ _ h => h) (Or.inl ⟨by rfl, ?_⟩) ?_ ?_
           rotate_left
           ·intro w'
            go_simp
            with_reducible rfl
           rotate_left
           ·simp only [Act.put, List.setIfInBounds_toArray, List.set_cons_zero, List.set_cons_succ, i64_w, i32_w]
            rfl
           refine pure_ (i := 7) (N := some 36) (v := ?_) (a' := ?_) #[true, true, true, true, true, true, true, true, false, true, false, false] rfl rfl (any_of HT_.out (by kernel_rfl)) (fun _ _ _ h => h) (Or.inl ⟨by rfl, ?_⟩) ?_ ?_
           rotate_left
           ·intro w'
            go_simp
            with_reducible rfl
           rotate_left
           ·simp only [Act.put, List.setIfInBounds_toArray, List.set_cons_zero, List.set_cons_succ, i64_w, i32_w]
            rfl
           refine pure_ (i := 8) (N := some 37) (v := ?_) (a' := ?_) #[true, true, true, true, true, true, true, true, true, true, false, false] rfl rfl (any_of HT_.out (by kernel_rfl)) (fun _ _ _ h => h) (Or.inl ⟨by rfl, ?_⟩) ?_ ?_
           rotate_left
           ·intro w'
            go_simp
            with_reducible rfl
           rotate_left
           ·simp only [Act.put, List.setIfInBounds_toArray, List.set_cons_zero, List.set_cons_succ, i64_w, i32_w]
            rfl
           exact norm_ (by simp only [putAll, Act.put, List.setIfInBounds_toArray, List.set_cons_zero, List.set_cons_succ]) (hCont (v153, gb157) _ ⟨hHeld, (by (with_reducible repeat (first | apply Kd.V_alloc | apply Kd.V_drewN | apply Kd.V_drew)); exact HO154.out), (by (with_reducible repeat (first | refine blk_drewN ?_ _ | refine blk_drew ?_ | refine blk_alloc ?_ _)); exact BK146.out), (by (with_reducible repeat (first | refine blk_drewN ?_ _ | refine blk_drew ?_ | refine blk_alloc ?_ _)); exact BK157.out), GW157.out, GE157.out, NB146_157.out, NB157_146.out, (by repeat (first | (with_reducible first | exact HB.out | apply below_alloc | apply pw_below_drewN | apply below_drew1 | refine below_set ?_ GE146.out | refine below_set ?_ GE157.out) | exact HB.out))⟩)
         rintro ⟨v153, gb157⟩ w33 ⟨hS_, h0_, h1_, h2_, h3_, h4_, h5_, h6_, h7_⟩
         have n0_ : Aside0 (Kd.V k32 32 w33 w.heap.size (fun k_ => k_ ≠ gb146 ∧ k_ ≠ gb157) v153 t152) := ⟨h0_⟩
         have n1_ : Aside0 (w33.heap[gb146]? = some (.cells #[.string ((rd_T30 l0 x22_1).f0), .slice A145_1 ((rd_T30 l0 x22_1).f1).length c145_1, .int .i64 ((rd_T30 l0 x22_1).f2)] 30 (0, 0))) := ⟨h1_⟩
         have n2_ : Aside0 (w33.heap[gb157]? = some (.cells #[.string (⟨#[]⟩ : ByteArray), .slice none 0 0, .int .i64 0] 30 (0, 0))) := ⟨h2_⟩
         have n3_ : Aside0 (w.heap.size ≤ gb157) := ⟨h3_⟩
         have n4_ : Aside0 (w.heap.size ≤ gb157) := ⟨h4_⟩
         have n5_ : Aside0 (gb146 ≠ gb157) := ⟨h5_⟩
         have n6_ : Aside0 (gb157 ≠ gb146) := ⟨h6_⟩
         have n7_ : Aside0 (Below w.heap.size w w33) := ⟨h7_⟩
         clear BK146
         clear HB
         clear h0_ h1_ h2_ h3_ h4_ h5_ h6_ h7_
         have HO154 := n0_
         have BK146 := n1_
         have BK157 := n2_
         have GW157 := n3_
         have GE157 := n4_
         have NB146_157 := n5_
         have NB157_146 := n6_
         have HB := n7_
         clear n0_ n1_ n2_ n3_ n4_ n5_ n6_ n7_
         have hHeld : w33.cell? ⟨gb146, 0, none⟩ = some (.string ((rd_T30 l0 x22_1).f0)) ∧ w33.cell? ⟨gb146, 1, none⟩ = some (.slice A145_1 ((rd_T30 l0 x22_1).f1).length c145_1) ∧ w33.cell? ⟨gb146, 2, none⟩ = some (.int .i64 ((rd_T30 l0 x22_1).f2)) := hS_
         obtain ⟨Ao35, co35, eo35⟩ := Kd.V_slice HO154.out
         (first | subst eo35 | (injection eo35 with f1_ f2_ f3_; have f4_ := f1_.symm; have f5_ := f3_.symm; clear f1_ f2_ f3_; subst f4_; subst f5_))
         refine norm_ (a' := ?_) ?_ ?_
         rotate_left
         ·simp only [putAll, Act.put, List.setIfInBounds_toArray, List.set_cons_zero, List.set_cons_succ]
          rfl
         refine one_ (i := 10) (N := none) #[true, true, true, true, true, true, true, true, true, true, true, false] rfl rfl (one_of HT_.out (by kernel_rfl)) (by decide) (fun K hK => ?_)
         have hs34 : w33.cell? ⟨gb157, 0, none⟩ = some (.string (⟨#[]⟩ : ByteArray)) := (blk_cell BK157.out 0).trans rfl
         have hfs34 := blk_frozen BK157.out 0
         have hns34_0 := NB146_157.out
         have hms34_0 := NB157_146.out
         have hs36 : w33.cell? ⟨gb157, 1, none⟩ = some (.slice none 0 0) := (blk_cell BK157.out 1).trans rfl
         have hfs36 := blk_frozen BK157.out 1
         have hns36_0 := NB146_157.out
         have hms36_0 := NB157_146.out
         have hs37 : w33.cell? ⟨gb157, 2, none⟩ = some (.int .i64 0) := (blk_cell BK157.out 2).trans rfl
         have hfs37 := blk_frozen BK157.out 2
         have hns37_0 := NB146_157.out
         have hms37_0 := NB157_146.out
         refine skip_ (w1 := ?_) (by rfl) rfl ?_ ?_
         rotate_left
         ·go_simp
          rfl
         refine hK.out _ _ ⟨((cell_far (p := ⟨gb157, _, none⟩) NB146_157.out _).trans (((cell_far (p := ⟨gb157, _, none⟩) NB146_157.out _).trans (((cell_far (p := ⟨gb157, _, none⟩) NB146_157.out _).trans (hHeld.1)))))), ((cell_far (p := ⟨gb157, _, none⟩) NB146_157.out _).trans (((cell_far (p := ⟨gb157, _, none⟩) NB146_157.out _).trans (((cell_far (p := ⟨gb157, _, none⟩) NB146_157.out _).trans (hHeld.2.1)))))), ((cell_far (p := ⟨gb157, _, none⟩) NB146_157.out _).trans (((cell_far (p := ⟨gb157, _, none⟩) NB146_157.out _).trans (((cell_far (p := ⟨gb157, _, none⟩) NB146_157.out _).trans (hHeld.2.2))))))⟩ (fun hHeld => ?_)
         clear hK K
         refine pure_ (i := 11) (N := some 7) (v := ?_) (a' := ?_) #[true, true, true, true, true, true, true, true, true, true, true, true] rfl rfl (any_of HT_.out (by kernel_rfl)) (fun _ _ _ h => h) (Or.inl ⟨by rfl, ?_⟩) ?_ ?_
         rotate_left
         ·intro w'
          go_simp
          with_reducible rfl
         rotate_left
         ·simp only [Act.put, List.setIfInBounds_toArray, List.set_cons_zero, List.set_cons_succ, i64_w, i32_w]
          rfl
         refine done_ (done_of HT_.out (by kernel_rfl)) ?_
         go_upto_region 10 with (fail)
         go_cut [50] (fun v50 wc => ∃ (kq : Nat) (x50_24 : Bool), v50 = .bool x50_24 ∧ Aside0 (hauberkref04_Check.j1 kq l0 (l0.length : Int) x22_1 x50_24 ((rd_T30 l0 x22_1).f0) ((rd_T30 l0 x22_1).f1) ((rd_T30 l0 x22_1).f2) = some (r1, r2)) ∧ Aside0 (kq ≤ k1) ∧ Aside0 (Kd.V k32 32 wc w.heap.size (fun k_ => k_ ≠ gb146 ∧ k_ ≠ gb157) (.slice Ao35 t152.length co35) t152) ∧ Aside0 (wc.heap[gb146]? = some (.cells #[.string ((rd_T30 l0 x22_1).f0), (.slice A145_1 ((rd_T30 l0 x22_1).f1).length c145_1), .int .i64 ((rd_T30 l0 x22_1).f2)] 30 (0, 0))) ∧ Aside0 (wc.heap[gb157]? = some (.cells #[.string t151, (.slice Ao35 t152.length co35), .int .i64 t155] 30 (0, 0))) ∧ Aside0 (Below w.heap.size w wc))
         case first =>
          have H := HC25.out
          clear HC25
          by_cases c38 : (((rd_T30 l0 x22_1).f1).length : Int) = 0
          ·rw [if_pos c38] at H
           have c38b0 : ((((rd_T30 l0 x22_1).f1).length : Int) == 0) = true := beq_iff_eq.mpr c38
           have c38b1 : ((((rd_T30 l0 x22_1).f1).length : Int) != 0) = false := bne_eq_false_iff_eq.mpr c38
           clear c38
           (first | rw [c38b0] | (simp only [i64_w, i32_w]; rw [c38b0]) | skip)
           have H' := Aside0.mk H
           clear H
           have hnb39 := NB146_157.out
           have hnc39 := NB157_146.out
           have hcz40_0 : w33.cell? ⟨gb146, 0, none⟩ = some (.string ((rd_T30 l0 x22_1).f0)) := (blk_cell BK146.out 0).trans rfl
           have hcz40_1 : w33.cell? ⟨gb146, 1, none⟩ = some (.slice A145_1 ((rd_T30 l0 x22_1).f1).length c145_1) := (blk_cell BK146.out 1).trans rfl
           have hcz40_2 : w33.cell? ⟨gb146, 2, none⟩ = some (.int .i64 ((rd_T30 l0 x22_1).f2)) := (blk_cell BK146.out 2).trans rfl
           have hfz40_0 := blk_frozen BK146.out 0
           have hfz40_1 := blk_frozen BK146.out 1
           have hfz40_2 := blk_frozen BK146.out 2
           go_wp2
           go_meet
           case rel => exact ⟨_, (true), (by first | rfl | (simp; done) | (simp [*]; done)), H', ⟨by have := HK1.out; first | omega | exact Nat.le_refl _⟩, ⟨by (with_reducible repeat (first | apply Kd.V_alloc | apply Kd.V_drewN | apply Kd.V_drew)); exact Kd.V_mono (Kd.V_far (p := ⟨gb157, 2, none⟩) (Kd.V_far (p := ⟨gb157, 1, none⟩) (Kd.V_far (p := ⟨gb157, 0, none⟩) (Kd.V_mono HO154.out (fun k_ hk => (⟨hk, hk.2⟩ : _ ∧ k_ ≠ gb157))) (fun _ hk => hk.2) (.string t151)) (fun _ hk => hk.2) (.slice Ao35 t152.length co35)) (fun _ hk => hk.2) (.int .i64 t155)) (fun _ hk => ⟨hk.1.1, hk.1.2⟩)⟩, ⟨by (with_reducible repeat (first | refine blk_drewN ?_ _ | refine blk_drew ?_ | refine blk_alloc ?_ _)); refine blk_far ?_ NB146_157.out _; (with_reducible repeat (first | refine blk_drewN ?_ _ | refine blk_drew ?_ | refine blk_alloc ?_ _)); refine blk_far ?_ NB146_157.out _; (with_reducible repeat (first | refine blk_drewN ?_ _ | refine blk_drew ?_ | refine blk_alloc ?_ _)); refine blk_far ?_ NB146_157.out _; (with_reducible repeat (first | refine blk_drewN ?_ _ | refine blk_drew ?_ | refine blk_alloc ?_ _)); exact BK146.out⟩, ⟨by (with_reducible repeat (first | refine blk_drewN ?_ _ | refine blk_drew ?_ | refine blk_alloc ?_ _)); refine blk_put (cs := #[.string t151, .slice Ao35 t152.length co35, .int .i64 0]) ?_ 2 _ rfl; (with_reducible repeat (first | refine blk_drewN ?_ _ | refine blk_drew ?_ | refine blk_alloc ?_ _)); refine blk_put (cs := #[.string t151, .slice none 0 0, .int .i64 0]) ?_ 1 _ rfl; (with_reducible repeat (first | refine blk_drewN ?_ _ | refine blk_drew ?_ | refine blk_alloc ?_ _)); refine blk_put (cs := #[.string (⟨#[]⟩ : ByteArray), .slice none 0 0, .int .i64 0]) ?_ 0 _ rfl; (with_reducible repeat (first | refine blk_drewN ?_ _ | refine blk_drew ?_ | refine blk_alloc ?_ _)); exact BK157.out⟩, ⟨by repeat (first | (with_reducible first | exact HB.out | apply below_alloc | apply pw_below_drewN | apply below_drew1 | refine below_set ?_ GE146.out | refine below_set ?_ GE157.out) | exact HB.out)⟩⟩
          ·rw [if_neg c38] at H
           have c38b0 : ((((rd_T30 l0 x22_1).f1).length : Int) == 0) = false := beq_eq_false_iff_ne.mpr c38
           have c38b1 : ((((rd_T30 l0 x22_1).f1).length : Int) != 0) = true := bne_iff_ne.mpr c38
           have c38b2 : ¬ (((rd_T30 l0 x22_1).f1) = []) := fun h_ => c38 (by rw [h_]; rfl)
           (first | rw [c38b0] | (simp only [i64_w, i32_w]; rw [c38b0]) | skip)
           have H' := Aside0.mk H
           clear H
           have hnb41 := NB146_157.out
           have hnc41 := NB157_146.out
           have hcz42_0 : w33.cell? ⟨gb146, 0, none⟩ = some (.string ((rd_T30 l0 x22_1).f0)) := (blk_cell BK146.out 0).trans rfl
           have hcz42_1 : w33.cell? ⟨gb146, 1, none⟩ = some (.slice A145_1 ((rd_T30 l0 x22_1).f1).length c145_1) := (blk_cell BK146.out 1).trans rfl
           have hcz42_2 : w33.cell? ⟨gb146, 2, none⟩ = some (.int .i64 ((rd_T30 l0 x22_1).f2)) := (blk_cell BK146.out 2).trans rfl
           have hfz42_0 := blk_frozen BK146.out 0
           have hfz42_1 := blk_frozen BK146.out 1
           have hfz42_2 := blk_frozen BK146.out 2
           go_wp2
           go_meet
           case rel => exact ⟨_, (decide ((((rd_T30 l0 x22_1).f1).length : Int) > 12)), (by first | rfl | (simp; done) | (simp [*]; done)), H', ⟨by have := HK1.out; first | omega | exact Nat.le_refl _⟩, ⟨by (with_reducible repeat (first | apply Kd.V_alloc | apply Kd.V_drewN | apply Kd.V_drew)); exact Kd.V_mono (Kd.V_far (p := ⟨gb157, 2, none⟩) (Kd.V_far (p := ⟨gb157, 1, none⟩) (Kd.V_far (p := ⟨gb157, 0, none⟩) (Kd.V_mono HO154.out (fun k_ hk => (⟨hk, hk.2⟩ : _ ∧ k_ ≠ gb157))) (fun _ hk => hk.2) (.string t151)) (fun _ hk => hk.2) (.slice Ao35 t152.length co35)) (fun _ hk => hk.2) (.int .i64 t155)) (fun _ hk => ⟨hk.1.1, hk.1.2⟩)⟩, ⟨by (with_reducible repeat (first | refine blk_drewN ?_ _ | refine blk_drew ?_ | refine blk_alloc ?_ _)); refine blk_far ?_ NB146_157.out _; (with_reducible repeat (first | refine blk_drewN ?_ _ | refine blk_drew ?_ | refine blk_alloc ?_ _)); refine blk_far ?_ NB146_157.out _; (with_reducible repeat (first | refine blk_drewN ?_ _ | refine blk_drew ?_ | refine blk_alloc ?_ _)); refine blk_far ?_ NB146_157.out _; (with_reducible repeat (first | refine blk_drewN ?_ _ | refine blk_drew ?_ | refine blk_alloc ?_ _)); exact BK146.out⟩, ⟨by (with_reducible repeat (first | refine blk_drewN ?_ _ | refine blk_drew ?_ | refine blk_alloc ?_ _)); refine blk_put (cs := #[.string t151, .slice Ao35 t152.length co35, .int .i64 0]) ?_ 2 _ rfl; (with_reducible repeat (first | refine blk_drewN ?_ _ | refine blk_drew ?_ | refine blk_alloc ?_ _)); refine blk_put (cs := #[.string t151, .slice none 0 0, .int .i64 0]) ?_ 1 _ rfl; (with_reducible repeat (first | refine blk_drewN ?_ _ | refine blk_drew ?_ | refine blk_alloc ?_ _)); refine blk_put (cs := #[.string (⟨#[]⟩ : ByteArray), .slice none 0 0, .int .i64 0]) ?_ 0 _ rfl; (with_reducible repeat (first | refine blk_drewN ?_ _ | refine blk_drew ?_ | refine blk_alloc ?_ _)); exact BK157.out⟩, ⟨by repeat (first | (with_reducible first | exact HB.out | apply below_alloc | apply pw_below_drewN | apply below_drew1 | refine below_set ?_ GE146.out | refine below_set ?_ GE157.out) | exact HB.out)⟩⟩
         case rest =>
          clear HC25
          try clear c1
          try clear p1
          try clear q1
          try clear hx1
          try clear c2
          try clear p2
          try clear c3
          try clear q3
          try clear c4
          try clear c10
          try clear c11
          try clear c14
          try clear p14
          try clear q14
          try clear hx14
          try clear c23
          try clear q30
          try clear c38
          try clear c38b0
          try clear c38b1
          try clear c38b2
          try clear c39
          try clear c41
          try clear hcz24_0
          try clear hcz24_1
          try clear hcz24_2
          try clear hcz27_0
          try clear hcz27_1
          try clear hcz27_2
          try clear hcz40_0
          try clear hcz40_1
          try clear hcz40_2
          try clear hcz42_0
          try clear hcz42_1
          try clear hcz42_2
          try clear hfz24_0
          try clear hfz24_1
          try clear hfz24_2
          try clear hfz27_0
          try clear hfz27_1
          try clear hfz27_2
          try clear hfz40_0
          try clear hfz40_1
          try clear hfz40_2
          try clear hfz42_0
          try clear hfz42_1
          try clear hfz42_2
          try clear hx145_0
          try clear hx145_1
          try clear hx145_2
          try clear p145
          try clear q145
          try clear q30
          obtain ⟨kq, x50_24, rfl, HA, HJ24, HO_158001, BK146, BK157, HB⟩ := hcut
          cases kq with
          | zero => exact absurd HA.out (by simp [hauberkref04_Check.j1])
          | succ kj24 =>
           have H := HA.out
           clear HA
           simp only [hauberkref04_Check.j1] at H
           by_cases c43 : x50_24 = true
           ·subst c43
            have H1 : (some (((rd_T30 l0 x22_1).f2), 3)) = some (r1, r2) := by rw [if_pos rfl] at H; exact H
            clear H
            have H := H1
            clear H1
            simp only [Option.some.injEq, Prod.mk.injEq] at H
            obtain ⟨rfl, rfl⟩ := H
            have hnb44 := NB146_157.out
            have hnc44 := NB157_146.out
            have hcz45_0 : wc.cell? ⟨gb146, 0, none⟩ = some (.string ((rd_T30 l0 x22_1).f0)) := (blk_cell BK146.out 0).trans rfl
            have hcz45_1 : wc.cell? ⟨gb146, 1, none⟩ = some (.slice A145_1 ((rd_T30 l0 x22_1).f1).length c145_1) := (blk_cell BK146.out 1).trans rfl
            have hcz45_2 : wc.cell? ⟨gb146, 2, none⟩ = some (.int .i64 ((rd_T30 l0 x22_1).f2)) := (blk_cell BK146.out 2).trans rfl
            have hfz45_0 := blk_frozen BK146.out 0
            have hfz45_1 := blk_frozen BK146.out 1
            have hfz45_2 := blk_frozen BK146.out 2
            go_wp2
            go_ret2
            exact ⟨by first | rfl | (simp [errW_none, errW_some] <;> rfl) | (simp [*, errW_none, errW_some] <;> rfl), by repeat (first | (with_reducible first | exact HB.out | apply below_alloc | apply pw_below_drewN | apply below_drew1 | refine below_set ?_ GE146.out | refine below_set ?_ GE157.out) | exact HB.out)⟩
           ·replace c43 := Bool.eq_false_iff.mpr c43
            subst c43
            have H1 : (hauberkref04_Check.l1 kj24 l0 (l0.length : Int) x22_1 (((rd_T30 l0 x22_1).f1).length : Int) 0 ((rd_T30 l0 x22_1).f0) ((rd_T30 l0 x22_1).f1) ((rd_T30 l0 x22_1).f2)) = some (r1, r2) := by rw [if_neg (show ¬ (false = true) by decide)] at H; exact H
            clear H
            have H := H1
            clear H1
            have H' := Aside0.mk H
            clear H
            have hnb46 := NB146_157.out
            have hnc46 := NB157_146.out
            have hcz47_0 : wc.cell? ⟨gb146, 0, none⟩ = some (.string ((rd_T30 l0 x22_1).f0)) := (blk_cell BK146.out 0).trans rfl
            have hcz47_1 : wc.cell? ⟨gb146, 1, none⟩ = some (.slice A145_1 ((rd_T30 l0 x22_1).f1).length c145_1) := (blk_cell BK146.out 1).trans rfl
            have hcz47_2 : wc.cell? ⟨gb146, 2, none⟩ = some (.int .i64 ((rd_T30 l0 x22_1).f2)) := (blk_cell BK146.out 2).trans rfl
            have hfz47_0 := blk_frozen BK146.out 0
            have hfz47_1 := blk_frozen BK146.out 1
            have hfz47_2 := blk_frozen BK146.out 2
            go_wp2
            go_loopg [56] kj24 (fun kq v56 w' => ∃ (x56_3 : Int), v56 = .int .i64 x56_3 ∧ Aside0 (hauberkref04_Check.l1 kq l0 (l0.length : Int) x22_1 (((rd_T30 l0 x22_1).f1).length : Int) x56_3 ((rd_T30 l0 x22_1).f0) ((rd_T30 l0 x22_1).f1) ((rd_T30 l0 x22_1).f2) = some (r1, r2)) ∧ Aside0 (kq ≤ kj24) ∧ Aside0 (Kd.V k32 32 w' w.heap.size (fun k_ => k_ ≠ gb146 ∧ k_ ≠ gb157) (.slice Ao35 t152.length co35) t152) ∧ Aside0 (w'.heap[gb146]? = some (.cells #[.string ((rd_T30 l0 x22_1).f0), (.slice A145_1 ((rd_T30 l0 x22_1).f1).length c145_1), .int .i64 ((rd_T30 l0 x22_1).f2)] 30 (0, 0))) ∧ Aside0 (w'.heap[gb157]? = some (.cells #[.string t151, (.slice Ao35 t152.length co35), .int .i64 t155] 30 (0, 0))) ∧ Aside0 (Below w.heap.size w w'))
            case atStart => exact ⟨(0), (by first | rfl | (simp; done) | (simp [*]; done)), H', ⟨Nat.le_refl _⟩, ⟨by (with_reducible repeat (first | apply Kd.V_alloc | apply Kd.V_drewN | apply Kd.V_drew)); exact HO_158001.out⟩, ⟨by (with_reducible repeat (first | refine blk_drewN ?_ _ | refine blk_drew ?_ | refine blk_alloc ?_ _)); exact BK146.out⟩, ⟨by (with_reducible repeat (first | refine blk_drewN ?_ _ | refine blk_drew ?_ | refine blk_alloc ?_ _)); exact BK157.out⟩, ⟨by repeat (first | (with_reducible first | exact HB.out | apply below_alloc | apply pw_below_drewN | apply below_drew1 | refine below_set ?_ GE146.out | refine below_set ?_ GE157.out) | exact HB.out)⟩⟩
            case round =>
             clear H'
             try clear c1
             try clear p1
             try clear q1
             try clear hx1
             try clear c2
             try clear p2
             try clear c3
             try clear q3
             try clear c4
             try clear c10
             try clear c11
             try clear c14
             try clear p14
             try clear q14
             try clear hx14
             try clear c23
             try clear q30
             try clear c38
             try clear c38b0
             try clear c38b1
             try clear c38b2
             try clear c39
             try clear c41
             try clear c43
             try clear c44
             try clear c46
             try clear hcz24_0
             try clear hcz24_1
             try clear hcz24_2
             try clear hcz27_0
             try clear hcz27_1
             try clear hcz27_2
             try clear hcz40_0
             try clear hcz40_1
             try clear hcz40_2
             try clear hcz42_0
             try clear hcz42_1
             try clear hcz42_2
             try clear hcz45_0
             try clear hcz45_1
             try clear hcz45_2
             try clear hcz47_0
             try clear hcz47_1
             try clear hcz47_2
             try clear hfz24_0
             try clear hfz24_1
             try clear hfz24_2
             try clear hfz27_0
             try clear hfz27_1
             try clear hfz27_2
             try clear hfz40_0
             try clear hfz40_1
             try clear hfz40_2
             try clear hfz42_0
             try clear hfz42_1
             try clear hfz42_2
             try clear hfz45_0
             try clear hfz45_1
             try clear hfz45_2
             try clear hfz47_0
             try clear hfz47_1
             try clear hfz47_2
             try clear hx145_0
             try clear hx145_1
             try clear hx145_2
             try clear p1
             try clear p14
             try clear p145
             try clear p2
             try clear q1
             try clear q14
             try clear q145
             try clear q3
             try clear q30
             obtain ⟨x56_3, rfl, HA, HK3, HO_158001, BK146, BK157, HB⟩ := hrel
             cases gk with
             | zero => exact absurd HA.out (by simp [hauberkref04_Check.l1])
             | succ k3 =>
              have H := HA.out
              clear HA
              simp only [hauberkref04_Check.l1] at H
              by_cases c48 : x56_3 < (((rd_T30 l0 x22_1).f1).length : Int)
              ·rw [if_pos c48] at H
               have c48b0 : decide (x56_3 < (((rd_T30 l0 x22_1).f1).length : Int)) = true := decide_eq_true c48
               clear c48
               by_cases c49 : 0 ≤ x56_3
               ·rw [if_pos c49] at H
                have c49b0 : decide (0 ≤ x56_3) = true := decide_eq_true c49
                clear c49
                by_cases c50 : x56_3 < (((rd_T30 l0 x22_1).f1).length : Int)
                ·rw [if_pos c50] at H
                 have c50b0 : decide (x56_3 < (((rd_T30 l0 x22_1).f1).length : Int)) = true := decide_eq_true c50
                 clear c50
                 have H' := Aside0.mk H
                 clear H
                 have hnb51 := NB146_157.out
                 have hnc51 := NB157_146.out
                 have hcz52_0 : wr.cell? ⟨gb146, 0, none⟩ = some (.string ((rd_T30 l0 x22_1).f0)) := (blk_cell BK146.out 0).trans rfl
                 have hcz52_1 : wr.cell? ⟨gb146, 1, none⟩ = some (.slice A145_1 ((rd_T30 l0 x22_1).f1).length c145_1) := (blk_cell BK146.out 1).trans rfl
                 have hcz52_2 : wr.cell? ⟨gb146, 2, none⟩ = some (.int .i64 ((rd_T30 l0 x22_1).f2)) := (blk_cell BK146.out 2).trans rfl
                 have hfz52_0 := blk_frozen BK146.out 0
                 have hfz52_1 := blk_frozen BK146.out 1
                 have hfz52_2 := blk_frozen BK146.out 2
                 have p158 : 0 ≤ (x56_3 : Int) := of_decide_eq_true (by first | (with_reducible assumption) | assumption)
                 have q158 : x56_3 < (((rd_T30 l0 x22_1).f1).length : Int) := of_decide_eq_true (by first | (with_reducible assumption) | assumption)
                 obtain ⟨ad158, e158, hx158_0, hx158_1, hx158_2, hx158_3, hx158_4⟩ := at_T32 HR145_1.out x56_3 p158 q158
                 cases e158
                 replace hx158_0 := (HB.out.cell (World.block_lt_of_cell? w _ hx158_0)).trans hx158_0
                 replace hx158_1 := (HB.out.cell (World.block_lt_of_cell? w _ hx158_1)).trans hx158_1
                 replace hx158_2 := (HB.out.cell (World.block_lt_of_cell? w _ hx158_2)).trans hx158_2
                 replace hx158_3 := (HB.out.cell (World.block_lt_of_cell? w _ hx158_3)).trans hx158_3
                 replace hx158_4 := (HB.out.cell (World.block_lt_of_cell? w _ hx158_4)).trans hx158_4
                 replace p158 := eq_true p158
                 replace q158 := eq_true q158
                 go_wp2_with (first | ((with_reducible refine gate_dst (N := 9) rfl ?_); (try (refine gate_guard (by rfl) ?_; dsimp only)); refine box_event ?hg (N := 9) ?hd (cs := #[.string (⟨#[]⟩ : ByteArray), .int .i64 0, .int .i64 0, .string (⟨#[]⟩ : ByteArray), .int .i64 0]) (t := 32) ?hr ?_; (case hd => rfl); (case hg => rfl); (case hr => first | (go_simp; done) | (go_simp; rfl)); intro gb159 hg w53 hbox hb; have n0_ := Aside0.mk (Kd.V_below (Kd.V_elderB (by (with_reducible repeat (first | apply Kd.V_alloc | apply Kd.V_drewN | apply Kd.V_drew)); exact HO_158001.out) gb159 (Nat.le_of_eq hg.symm)) hb); have n1_ := Aside0.mk (blk_below (g := gb146) (o := .cells #[.string ((rd_T30 l0 x22_1).f0), .slice (some ad158) ((rd_T30 l0 x22_1).f1).length c145_1, .int .i64 ((rd_T30 l0 x22_1).f2)] 30 (0, 0)) (by (with_reducible repeat (first | refine blk_drewN ?_ _ | refine blk_drew ?_ | refine blk_alloc ?_ _)); exact BK146.out) hb); have n2_ := Aside0.mk (blk_below (g := gb157) (o := .cells #[.string t151, .slice Ao35 t152.length co35, .int .i64 t155] 30 (0, 0)) (by (with_reducible repeat (first | refine blk_drewN ?_ _ | refine blk_drew ?_ | refine blk_alloc ?_ _)); exact BK157.out) hb); have n3_ := Aside0.mk (below_step (by repeat (first | (with_reducible first | exact HB.out | apply below_alloc | apply pw_below_drewN | apply below_drew1 | refine below_set ?_ GE146.out | refine below_set ?_ GE157.out) | exact HB.out)) hb); have n4_ := Aside0.mk (hbox); have n5_ := Aside0.mk ((by rw [hg]; exact (below_size (by repeat (first | (with_reducible first | exact HB.out | apply below_alloc | apply pw_below_drewN | apply below_drew1 | refine below_set ?_ GE146.out | refine below_set ?_ GE157.out) | exact HB.out))) : w.heap.size ≤ gb159)); have n6_ := Aside0.mk ((by rw [hg]; exact (below_size (by repeat (first | (with_reducible first | exact HB.out | apply below_alloc | apply pw_below_drewN | apply below_drew1 | refine below_set ?_ GE146.out | refine below_set ?_ GE157.out) | exact HB.out))) : w.heap.size ≤ gb159)); have n7_ := Aside0.mk ((by rw [hg]; exact Nat.ne_of_lt (blk_lt (g := gb146) (o := .cells #[.string ((rd_T30 l0 x22_1).f0), .slice (some ad158) ((rd_T30 l0 x22_1).f1).length c145_1, .int .i64 ((rd_T30 l0 x22_1).f2)] 30 (0, 0)) (by (with_reducible repeat (first | refine blk_drewN ?_ _ | refine blk_drew ?_ | refine blk_alloc ?_ _)); exact BK146.out)) : gb146 ≠ gb159)); have n8_ := Aside0.mk ((by rw [hg]; exact Nat.ne_of_gt (blk_lt (g := gb146) (o := .cells #[.string ((rd_T30 l0 x22_1).f0), .slice (some ad158) ((rd_T30 l0 x22_1).f1).length c145_1, .int .i64 ((rd_T30 l0 x22_1).f2)] 30 (0, 0)) (by (with_reducible repeat (first | refine blk_drewN ?_ _ | refine blk_drew ?_ | refine blk_alloc ?_ _)); exact BK146.out)) : gb159 ≠ gb146)); have n9_ := Aside0.mk ((by rw [hg]; exact Nat.ne_of_lt (blk_lt (g := gb157) (o := .cells #[.string t151, .slice Ao35 t152.length co35, .int .i64 t155] 30 (0, 0)) (by (with_reducible repeat (first | refine blk_drewN ?_ _ | refine blk_drew ?_ | refine blk_alloc ?_ _)); exact BK157.out)) : gb157 ≠ gb159)); have n10_ := Aside0.mk ((by rw [hg]; exact Nat.ne_of_gt (blk_lt (g := gb157) (o := .cells #[.string t151, .slice Ao35 t152.length co35, .int .i64 t155] 30 (0, 0)) (by (with_reducible repeat (first | refine blk_drewN ?_ _ | refine blk_drew ?_ | refine blk_alloc ?_ _)); exact BK157.out)) : gb159 ≠ gb157)); clear HO_158001; clear BK146; clear BK157; clear HB; have HO_158001 := n0_; have BK146 := n1_; have BK157 := n2_; have HB := n3_; have BK159 := n4_; have GW159 := n5_; have GE159 := n6_; have NB146_159 := n7_; have NB159_146 := n8_; have NB157_159 := n9_; have NB159_157 := n10_; clear n0_ n1_ n2_ n3_ n4_ n5_ n6_ n7_ n8_ n9_ n10_; clear hb hbox hg; have hnb54 := NB159_146.out; have hnc54 := NB146_159.out; have hnb55 := NB159_157.out; have hnc55 := NB157_159.out; have hcz56_0 : w53.cell? ⟨gb159, 0, none⟩ = some (.string (⟨#[]⟩ : ByteArray)) := (blk_cell BK159.out 0).trans rfl; have hcz56_1 : w53.cell? ⟨gb159, 1, none⟩ = some (.int .i64 0) := (blk_cell BK159.out 1).trans rfl; have hcz56_2 : w53.cell? ⟨gb159, 2, none⟩ = some (.int .i64 0) := (blk_cell BK159.out 2).trans rfl; have hcz56_3 : w53.cell? ⟨gb159, 3, none⟩ = some (.string (⟨#[]⟩ : ByteArray)) := (blk_cell BK159.out 3).trans rfl; have hcz56_4 : w53.cell? ⟨gb159, 4, none⟩ = some (.int .i64 0) := (blk_cell BK159.out 4).trans rfl; have hfz56_0 := blk_frozen BK159.out 0; have hfz56_1 := blk_frozen BK159.out 1; have hfz56_2 := blk_frozen BK159.out 2; have hfz56_3 := blk_frozen BK159.out 3; have hfz56_4 := blk_frozen BK159.out 4))
                 go_loopg [10] k3 (fun kq v10 w' => ∃ (x10_4 : Int), v10 = .int .i64 x10_4 ∧ Aside0 (hauberkref04_Check.l2 kq l0 x56_3 x10_4 (l0.length : Int) x22_1 (((rd_T30 l0 x22_1).f1).length : Int) x56_3 ((rd_T30 l0 x22_1).f0) ((rd_T30 l0 x22_1).f1) ((rd_T30 l0 x22_1).f2) ((rd_T32 ((rd_T30 l0 x22_1).f1) x56_3).f0) ((rd_T32 ((rd_T30 l0 x22_1).f1) x56_3).f1.f0) ((rd_T32 ((rd_T30 l0 x22_1).f1) x56_3).f1.f1) ((rd_T32 ((rd_T30 l0 x22_1).f1) x56_3).f1.f2) ((rd_T32 ((rd_T30 l0 x22_1).f1) x56_3).f2) = some (r1, r2)) ∧ Aside0 (kq ≤ k3) ∧ Aside0 (Kd.V k32 32 w' w.heap.size (fun k_ => k_ ≠ gb146 ∧ k_ ≠ gb157 ∧ k_ ≠ gb159) (.slice Ao35 t152.length co35) t152) ∧ Aside0 (w'.heap[gb146]? = some (.cells #[.string ((rd_T30 l0 x22_1).f0), (.slice (some ad158) ((rd_T30 l0 x22_1).f1).length c145_1), .int .i64 ((rd_T30 l0 x22_1).f2)] 30 (0, 0))) ∧ Aside0 (w'.heap[gb157]? = some (.cells #[.string t151, (.slice Ao35 t152.length co35), .int .i64 t155] 30 (0, 0))) ∧ Aside0 (w'.heap[gb159]? = some (.cells #[.string ((rd_T32 ((rd_T30 l0 x22_1).f1) x56_3).f0), .int .i64 ((rd_T32 ((rd_T30 l0 x22_1).f1) x56_3).f1.f0), .int .i64 ((rd_T32 ((rd_T30 l0 x22_1).f1) x56_3).f1.f1), .string ((rd_T32 ((rd_T30 l0 x22_1).f1) x56_3).f1.f2), .int .i64 ((rd_T32 ((rd_T30 l0 x22_1).f1) x56_3).f2)] 32 (0, 0))) ∧ Aside0 (Below w.heap.size w w'))
                 case atStart => exact ⟨(0), (by first | rfl | (simp; done) | (simp [*]; done)), H', ⟨Nat.le_refl _⟩, ⟨by (with_reducible repeat (first | apply Kd.V_alloc | apply Kd.V_drewN | apply Kd.V_drew)); exact Kd.V_mono (Kd.V_far (p := ⟨gb159, 4, none⟩) (Kd.V_far (p := ⟨gb159, 3, none⟩) (Kd.V_far (p := ⟨gb159, 2, none⟩) (Kd.V_far (p := ⟨gb159, 1, none⟩) (Kd.V_far (p := ⟨gb159, 0, none⟩) (Kd.V_mono HO_158001.out (fun k_ hk => (⟨hk, hk.2⟩ : _ ∧ k_ ≠ gb159))) (fun _ hk => hk.2) (.string ((rd_T32 ((rd_T30 l0 x22_1).f1) x56_3).f0))) (fun _ hk => hk.2) (.int .i64 ((rd_T32 ((rd_T30 l0 x22_1).f1) x56_3).f1.f0))) (fun _ hk => hk.2) (.int .i64 ((rd_T32 ((rd_T30 l0 x22_1).f1) x56_3).f1.f1))) (fun _ hk => hk.2) (.string ((rd_T32 ((rd_T30 l0 x22_1).f1) x56_3).f1.f2))) (fun _ hk => hk.2) (.int .i64 ((rd_T32 ((rd_T30 l0 x22_1).f1) x56_3).f2))) (fun _ hk => ⟨hk.1.1.1, ⟨hk.1.1.2, hk.1.2⟩⟩)⟩, ⟨by (with_reducible repeat (first | refine blk_drewN ?_ _ | refine blk_drew ?_ | refine blk_alloc ?_ _)); refine blk_far ?_ NB146_159.out _; (with_reducible repeat (first | refine blk_drewN ?_ _ | refine blk_drew ?_ | refine blk_alloc ?_ _)); refine blk_far ?_ NB146_159.out _; (with_reducible repeat (first | refine blk_drewN ?_ _ | refine blk_drew ?_ | refine blk_alloc ?_ _)); refine blk_far ?_ NB146_159.out _; (with_reducible repeat (first | refine blk_drewN ?_ _ | refine blk_drew ?_ | refine blk_alloc ?_ _)); refine blk_far ?_ NB146_159.out _; (with_reducible repeat (first | refine blk_drewN ?_ _ | refine blk_drew ?_ | refine blk_alloc ?_ _)); refine blk_far ?_ NB146_159.out _; (with_reducible repeat (first | refine blk_drewN ?_ _ | refine blk_drew ?_ | refine blk_alloc ?_ _)); exact BK146.out⟩, ⟨by (with_reducible repeat (first | refine blk_drewN ?_ _ | refine blk_drew ?_ | refine blk_alloc ?_ _)); refine blk_far ?_ NB157_159.out _; (with_reducible repeat (first | refine blk_drewN ?_ _ | refine blk_drew ?_ | refine blk_alloc ?_ _)); refine blk_far ?_ NB157_159.out _; (with_reducible repeat (first | refine blk_drewN ?_ _ | refine blk_drew ?_ | refine blk_alloc ?_ _)); refine blk_far ?_ NB157_159.out _; (with_reducible repeat (first | refine blk_drewN ?_ _ | refine blk_drew ?_ | refine blk_alloc ?_ _)); refine blk_far ?_ NB157_159.out _; (with_reducible repeat (first | refine blk_drewN ?_ _ | refine blk_drew ?_ | refine blk_alloc ?_ _)); refine blk_far ?_ NB157_159.out _; (with_reducible repeat (first | refine blk_drewN ?_ _ | refine blk_drew ?_ | refine blk_alloc ?_ _)); exact BK157.out⟩, ⟨by (with_reducible repeat (first | refine blk_drewN ?_ _ | refine blk_drew ?_ | refine blk_alloc ?_ _)); refine blk_put (cs := #[.string ((rd_T32 ((rd_T30 l0 x22_1).f1) x56_3).f0), .int .i64 ((rd_T32 ((rd_T30 l0 x22_1).f1) x56_3).f1.f0), .int .i64 ((rd_T32 ((rd_T30 l0 x22_1).f1) x56_3).f1.f1), .string ((rd_T32 ((rd_T30 l0 x22_1).f1) x56_3).f1.f2), .int .i64 0]) ?_ 4 _ rfl; (with_reducible repeat (first | refine blk_drewN ?_ _ | refine blk_drew ?_ | refine blk_alloc ?_ _)); refine blk_put (cs := #[.string ((rd_T32 ((rd_T30 l0 x22_1).f1) x56_3).f0), .int .i64 ((rd_T32 ((rd_T30 l0 x22_1).f1) x56_3).f1.f0), .int .i64 ((rd_T32 ((rd_T30 l0 x22_1).f1) x56_3).f1.f1), .string (⟨#[]⟩ : ByteArray), .int .i64 0]) ?_ 3 _ rfl; (with_reducible repeat (first | refine blk_drewN ?_ _ | refine blk_drew ?_ | refine blk_alloc ?_ _)); refine blk_put (cs := #[.string ((rd_T32 ((rd_T30 l0 x22_1).f1) x56_3).f0), .int .i64 ((rd_T32 ((rd_T30 l0 x22_1).f1) x56_3).f1.f0), .int .i64 0, .string (⟨#[]⟩ : ByteArray), .int .i64 0]) ?_ 2 _ rfl; (with_reducible repeat (first | refine blk_drewN ?_ _ | refine blk_drew ?_ | refine blk_alloc ?_ _)); refine blk_put (cs := #[.string ((rd_T32 ((rd_T30 l0 x22_1).f1) x56_3).f0), .int .i64 0, .int .i64 0, .string (⟨#[]⟩ : ByteArray), .int .i64 0]) ?_ 1 _ rfl; (with_reducible repeat (first | refine blk_drewN ?_ _ | refine blk_drew ?_ | refine blk_alloc ?_ _)); refine blk_put (cs := #[.string (⟨#[]⟩ : ByteArray), .int .i64 0, .int .i64 0, .string (⟨#[]⟩ : ByteArray), .int .i64 0]) ?_ 0 _ rfl; (with_reducible repeat (first | refine blk_drewN ?_ _ | refine blk_drew ?_ | refine blk_alloc ?_ _)); exact BK159.out⟩, ⟨by repeat (first | (with_reducible first | exact HB.out | apply below_alloc | apply pw_below_drewN | apply below_drew1 | refine below_set ?_ GE146.out | refine below_set ?_ GE157.out | refine below_set ?_ GE159.out) | exact HB.out)⟩⟩
                 case round =>
                  clear H'
                  try clear c1
                  try clear p1
                  try clear q1
                  try clear hx1
                  try clear c2
                  try clear p2
                  try clear c3
                  try clear q3
                  try clear c4
                  try clear c5
                  try clear c10
                  try clear c11
                  try clear c14
                  try clear p14
                  try clear q14
                  try clear hx14
                  try clear p15
                  try clear q15
                  try clear hx15
                  try clear c23
                  try clear q30
                  try clear c38
                  try clear c38b0
                  try clear c38b1
                  try clear c38b2
                  try clear c39
                  try clear c41
                  try clear c43
                  try clear c44
                  try clear c46
                  try clear c48
                  try clear c48b0
                  try clear c49
                  try clear c49b0
                  try clear c50
                  try clear c50b0
                  try clear c51
                  try clear c54
                  try clear c55
                  try clear hcz24_0
                  try clear hcz24_1
                  try clear hcz24_2
                  try clear hcz27_0
                  try clear hcz27_1
                  try clear hcz27_2
                  try clear hcz40_0
                  try clear hcz40_1
                  try clear hcz40_2
                  try clear hcz42_0
                  try clear hcz42_1
                  try clear hcz42_2
                  try clear hcz45_0
                  try clear hcz45_1
                  try clear hcz45_2
                  try clear hcz47_0
                  try clear hcz47_1
                  try clear hcz47_2
                  try clear hcz52_0
                  try clear hcz52_1
                  try clear hcz52_2
                  try clear hcz56_0
                  try clear hcz56_1
                  try clear hcz56_2
                  try clear hcz56_3
                  try clear hcz56_4
                  try clear hfz24_0
                  try clear hfz24_1
                  try clear hfz24_2
                  try clear hfz27_0
                  try clear hfz27_1
                  try clear hfz27_2
                  try clear hfz40_0
                  try clear hfz40_1
                  try clear hfz40_2
                  try clear hfz42_0
                  try clear hfz42_1
                  try clear hfz42_2
                  try clear hfz45_0
                  try clear hfz45_1
                  try clear hfz45_2
                  try clear hfz47_0
                  try clear hfz47_1
                  try clear hfz47_2
                  try clear hfz52_0
                  try clear hfz52_1
                  try clear hfz52_2
                  try clear hfz56_0
                  try clear hfz56_1
                  try clear hfz56_2
                  try clear hfz56_3
                  try clear hfz56_4
                  try clear hx145_0
                  try clear hx145_1
                  try clear hx145_2
                  try clear hx158_0
                  try clear hx158_1
                  try clear hx158_2
                  try clear hx158_3
                  try clear hx158_4
                  try clear p1
                  try clear p14
                  try clear p145
                  try clear p158
                  try clear p2
                  try clear q1
                  try clear q14
                  try clear q145
                  try clear q158
                  try clear q3
                  try clear q30
                  obtain ⟨x10_4, rfl, HA, HK4, HO_158001, BK146, BK157, BK159, HB⟩ := hrel
                  cases gk with
                  | zero => exact absurd HA.out (by simp [hauberkref04_Check.l2])
                  | succ k4 =>
                   have H := HA.out
                   clear HA
                   simp only [hauberkref04_Check.l2] at H
                   by_cases c57 : x10_4 < x56_3
                   ·rw [if_pos c57] at H
                    have c57b0 : decide (x10_4 < x56_3) = true := decide_eq_true c57
                    clear c57
                    by_cases c58 : 0 ≤ x10_4
                    ·rw [if_pos c58] at H
                     have c58b0 : decide (0 ≤ x10_4) = true := decide_eq_true c58
                     clear c58
                     by_cases c59 : x10_4 < (((rd_T30 l0 x22_1).f1).length : Int)
                     ·rw [if_pos c59] at H
                      have c59b0 : decide (x10_4 < (((rd_T30 l0 x22_1).f1).length : Int)) = true := decide_eq_true c59
                      clear c59
                      by_cases c60 : ((rd_T32 ((rd_T30 l0 x22_1).f1) x10_4).f0).toList = ((rd_T32 ((rd_T30 l0 x22_1).f1) x56_3).f0).toList
                      ·rw [if_pos c60] at H
                       have c60b0 : (((rd_T32 ((rd_T30 l0 x22_1).f1) x10_4).f0).toList == ((rd_T32 ((rd_T30 l0 x22_1).f1) x56_3).f0).toList) = true := beq_iff_eq.mpr c60
                       have c60b1 : (((rd_T32 ((rd_T30 l0 x22_1).f1) x10_4).f0).toList != ((rd_T32 ((rd_T30 l0 x22_1).f1) x56_3).f0).toList) = false := bne_eq_false_iff_eq.mpr c60
                       clear c60
                       simp only [Option.some.injEq, Prod.mk.injEq] at H
                       obtain ⟨rfl, rfl⟩ := H
                       try go_wp2
                       have n0_ := Aside0.mk (Kd.V_drew HO_158001.out)
                       have n1_ := Aside0.mk (blk_drew BK146.out)
                       have n2_ := Aside0.mk (blk_drew BK157.out)
                       have n3_ := Aside0.mk (blk_drew BK159.out)
                       have n4_ := Aside0.mk (below_drew1 HB.out)
                       clear HO_158001
                       clear BK146
                       clear BK157
                       clear BK159
                       clear HB
                       have HO_158001 := n0_
                       have BK146 := n1_
                       have BK157 := n2_
                       have BK159 := n3_
                       have HB := n4_
                       clear n0_ n1_ n2_ n3_ n4_
                       have p160 : 0 ≤ (x10_4 : Int) := of_decide_eq_true (by first | (with_reducible assumption) | assumption)
                       have q160 : x10_4 < (((rd_T30 l0 x22_1).f1).length : Int) := of_decide_eq_true (by first | (with_reducible assumption) | assumption)
                       obtain ⟨ad160, e160, hx160_0, hx160_1, hx160_2, hx160_3, hx160_4⟩ := at_T32 HR145_1.out x10_4 p160 q160
                       have hw160_4 := hx160_4
                       have hw160_3 := hx160_3
                       have hw160_2 := hx160_2
                       have hw160_1 := hx160_1
                       have hw160_0 := hx160_0
                       obtain rfl : ad158 = ad160 := (by injection e160)
                       replace hx160_0 := (HB.out.cell (World.block_lt_of_cell? w _ hx160_0)).trans hx160_0
                       replace hx160_1 := (HB.out.cell (World.block_lt_of_cell? w _ hx160_1)).trans hx160_1
                       replace hx160_2 := (HB.out.cell (World.block_lt_of_cell? w _ hx160_2)).trans hx160_2
                       replace hx160_3 := (HB.out.cell (World.block_lt_of_cell? w _ hx160_3)).trans hx160_3
                       replace hx160_4 := (HB.out.cell (World.block_lt_of_cell? w _ hx160_4)).trans hx160_4
                       replace p160 := eq_true p160
                       replace q160 := eq_true q160
                       refine start_ (n := 9) (S := fun w' => w'.cell? ⟨gb146, 0, none⟩ = some (.string ((rd_T30 l0 x22_1).f0)) ∧ w'.cell? ⟨gb146, 1, none⟩ = some (.slice (some ad158) ((rd_T30 l0 x22_1).f1).length c145_1) ∧ w'.cell? ⟨gb146, 2, none⟩ = some (.int .i64 ((rd_T30 l0 x22_1).f2)) ∧ w'.cell? ⟨gb159, 0, none⟩ = some (.string ((rd_T32 ((rd_T30 l0 x22_1).f1) x56_3).f0)) ∧ w'.cell? ⟨gb159, 1, none⟩ = some (.int .i64 ((rd_T32 ((rd_T30 l0 x22_1).f1) x56_3).f1.f0)) ∧ w'.cell? ⟨gb159, 2, none⟩ = some (.int .i64 ((rd_T32 ((rd_T30 l0 x22_1).f1) x56_3).f1.f1)) ∧ w'.cell? ⟨gb159, 3, none⟩ = some (.string ((rd_T32 ((rd_T30 l0 x22_1).f1) x56_3).f1.f2)) ∧ w'.cell? ⟨gb159, 4, none⟩ = some (.int .i64 ((rd_T32 ((rd_T30 l0 x22_1).f1) x56_3).f2)) ∧ w'.cell? (ad158.add ((x10_4).toNat * 5)) = some (.string ((rd_T32 ((rd_T30 l0 x22_1).f1) x10_4).f0)) ∧ w'.cell? ⟨(ad158.add ((x10_4).toNat * 5)).block, (ad158.add ((x10_4).toNat * 5)).off + 1, none⟩ = some (.int .i64 ((rd_T32 ((rd_T30 l0 x22_1).f1) x10_4).f1.f0)) ∧ w'.cell? ⟨(ad158.add ((x10_4).toNat * 5)).block, (ad158.add ((x10_4).toNat * 5)).off + 2, none⟩ = some (.int .i64 ((rd_T32 ((rd_T30 l0 x22_1).f1) x10_4).f1.f1)) ∧ w'.cell? ⟨(ad158.add ((x10_4).toNat * 5)).block, (ad158.add ((x10_4).toNat * 5)).off + 3, none⟩ = some (.string ((rd_T32 ((rd_T30 l0 x22_1).f1) x10_4).f1.f2)) ∧ w'.cell? ⟨(ad158.add ((x10_4).toNat * 5)).block, (ad158.add ((x10_4).toNat * 5)).off + 4, none⟩ = some (.int .i64 ((rd_T32 ((rd_T30 l0 x22_1).f1) x10_4).f2))) (ds := []) #[false, false, false, false, false, false, false, false, false] (by kernel_rfl) rfl rfl ⟨(blk_cell BK146.out 0).trans rfl, (blk_cell BK146.out 1).trans rfl, (blk_cell BK146.out 2).trans rfl, (blk_cell BK159.out 0).trans rfl, (blk_cell BK159.out 1).trans rfl, (blk_cell BK159.out 2).trans rfl, (blk_cell BK159.out 3).trans rfl, (blk_cell BK159.out 4).trans rfl, ((HB.out.cell (World.block_lt_of_cell? w _ hw160_0)).trans hw160_0), ((HB.out.cell (World.block_lt_of_cell? w _ hw160_1)).trans hw160_1), ((HB.out.cell (World.block_lt_of_cell? w _ hw160_2)).trans hw160_2), ((HB.out.cell (World.block_lt_of_cell? w _ hw160_3)).trans hw160_3), ((HB.out.cell (World.block_lt_of_cell? w _ hw160_4)).trans hw160_4)⟩ (fun hHeld => ?_); refine with_tabW hauberkref04_Check.tab19 hauberkref04_Check.bits19 (fun HT_ HW_ => ?_)
                       generalize wr.drew = w61 at HO_158001 BK146 BK157 BK159 HB hx160_0 hx160_1 hx160_2 hx160_3 hx160_4 hHeld ⊢
                       refine pure_ (i := 0) (N := some 69) (v := ?_) (a' := ?_) #[true, false, false, false, false, false, false, false, false] rfl rfl (any_of HT_.out (by kernel_rfl)) (fun _ _ _ h => h) (Or.inl ⟨by rfl, ?_⟩) ?_ ?_
                       rotate_left
                       ·intro w'
                        go_simp
                        with_reducible rfl
                       rotate_left
                       ·simp only [Act.put, List.setIfInBounds_toArray, List.set_cons_zero, List.set_cons_succ, i64_w, i32_w]
                        rfl
                       refine pure_ (i := 2) (N := some 71) (v := ?_) (a' := ?_) #[true, false, true, false, false, false, false, false, false] rfl rfl (any_of HT_.out (by kernel_rfl)) (fun _ _ _ h => h) (Or.inl ⟨by rfl, ?_⟩) ?_ ?_
                       rotate_left
                       ·intro w'
                        go_simp
                        with_reducible rfl
                       rotate_left
                       ·simp only [Act.put, List.setIfInBounds_toArray, List.set_cons_zero, List.set_cons_succ, i64_w, i32_w]
                        rfl
                       refine pure_ (i := 6) (N := some 75) (v := ?_) (a' := ?_) #[true, false, true, false, false, false, true, false, false] rfl rfl (any_of HT_.out (by kernel_rfl)) (fun _ _ _ h => h) (Or.inl ⟨by rfl, ?_⟩) ?_ ?_
                       rotate_left
                       ·intro w'
                        go_simp
                        with_reducible rfl
                       rotate_left
                       ·simp only [Act.put, List.setIfInBounds_toArray, List.set_cons_zero, List.set_cons_succ, i64_w, i32_w]
                        rfl
                       refine take_ (i := 1) (N := some 70) (v := ?_) (a' := ?_) #[true, true, true, false, false, false, true, false, false] rfl rfl (take_ofW HT_.out HW_.out (by kernel_rfl)) (fun _ _ _ h => h) (Or.inl ⟨by rfl, ?_⟩) hHeld ?_ ?_
                       rotate_left
                       ·rintro w' ⟨s0, s1, s2, s3, s4, s5, s6, s7, s8, s9, s10, s11, s12⟩
                        go_simp
                        with_reducible rfl
                       rotate_left
                       ·simp only [Act.put, List.setIfInBounds_toArray, List.set_cons_zero, List.set_cons_succ, i64_w, i32_w]
                        rfl
                       refine pure_ (i := 3) (N := some 72) (v := ?_) (a' := ?_) #[true, true, true, true, false, false, true, false, false] rfl rfl (any_of HT_.out (by kernel_rfl)) (fun _ _ _ h => h) (Or.inl ⟨by rfl, ?_⟩) ?_ ?_
                       rotate_left
                       ·intro w'
                        go_simp
                        with_reducible rfl
                       rotate_left
                       ·simp only [Act.put, List.setIfInBounds_toArray, List.set_cons_zero, List.set_cons_succ, i64_w, i32_w]
                        rfl
                       refine pure_ (i := 4) (N := some 73) (v := ?_) (a' := ?_) #[true, true, true, true, true, false, true, false, false] rfl rfl (any_of HT_.out (by kernel_rfl)) (fun _ _ _ h => h) (Or.inl ⟨by rfl, ?_⟩) ?_ ?_
                       rotate_left
                       ·intro w'
                        go_simp
                        with_reducible rfl
                       rotate_left
                       ·simp only [Act.put, List.setIfInBounds_toArray, List.set_cons_zero, List.set_cons_succ, i64_w, i32_w]
                        rfl
                       refine take_ (i := 5) (N := some 74) (v := ?_) (a' := ?_) #[true, true, true, true, true, true, true, false, false] rfl rfl (take_ofW HT_.out HW_.out (by kernel_rfl)) (fun _ _ _ h => h) (Or.inl ⟨by rfl, ?_⟩) hHeld ?_ ?_
                       rotate_left
                       ·rintro w' ⟨s0, s1, s2, s3, s4, s5, s6, s7, s8, s9, s10, s11, s12⟩
                        go_simp
                        with_reducible rfl
                       rotate_left
                       ·simp only [Act.put, List.setIfInBounds_toArray, List.set_cons_zero, List.set_cons_succ, i64_w, i32_w]
                        rfl
                       refine take_ (i := 7) (N := some 76) (v := ?_) (a' := ?_) #[true, true, true, true, true, true, true, true, false] rfl rfl (take_ofW HT_.out HW_.out (by kernel_rfl)) (fun _ _ _ h => h) (Or.inl ⟨by rfl, ?_⟩) hHeld ?_ ?_
                       rotate_left
                       ·rintro w' ⟨s0, s1, s2, s3, s4, s5, s6, s7, s8, s9, s10, s11, s12⟩
                        go_simp
                        with_reducible rfl
                       rotate_left
                       ·simp only [Act.put, List.setIfInBounds_toArray, List.set_cons_zero, List.set_cons_succ, i64_w, i32_w]
                        rfl
                       refine pure_ (i := 8) (N := some 77) (v := ?_) (a' := ?_) #[true, true, true, true, true, true, true, true, true] rfl rfl (any_of HT_.out (by kernel_rfl)) (fun _ _ _ h => h) (Or.inl ⟨by rfl, ?_⟩) ?_ ?_
                       rotate_left
                       ·intro w'
                        go_simp
                        with_reducible rfl
                       rotate_left
                       ·simp only [Act.put, List.setIfInBounds_toArray, List.set_cons_zero, List.set_cons_succ, i64_w, i32_w]
                        rfl
                       refine done_ (done_of HT_.out (by kernel_rfl)) ?_
                       have hnb62 := NB159_146.out
                       have hnc62 := NB146_159.out
                       have hnb63 := NB159_157.out
                       have hnc63 := NB157_159.out
                       have hcz64_0 : w61.cell? ⟨gb159, 0, none⟩ = some (.string ((rd_T32 ((rd_T30 l0 x22_1).f1) x56_3).f0)) := (blk_cell BK159.out 0).trans rfl
                       have hcz64_1 : w61.cell? ⟨gb159, 1, none⟩ = some (.int .i64 ((rd_T32 ((rd_T30 l0 x22_1).f1) x56_3).f1.f0)) := (blk_cell BK159.out 1).trans rfl
                       have hcz64_2 : w61.cell? ⟨gb159, 2, none⟩ = some (.int .i64 ((rd_T32 ((rd_T30 l0 x22_1).f1) x56_3).f1.f1)) := (blk_cell BK159.out 2).trans rfl
                       have hcz64_3 : w61.cell? ⟨gb159, 3, none⟩ = some (.string ((rd_T32 ((rd_T30 l0 x22_1).f1) x56_3).f1.f2)) := (blk_cell BK159.out 3).trans rfl
                       have hcz64_4 : w61.cell? ⟨gb159, 4, none⟩ = some (.int .i64 ((rd_T32 ((rd_T30 l0 x22_1).f1) x56_3).f2)) := (blk_cell BK159.out 4).trans rfl
                       have hfz64_0 := blk_frozen BK159.out 0
                       have hfz64_1 := blk_frozen BK159.out 1
                       have hfz64_2 := blk_frozen BK159.out 2
                       have hfz64_3 := blk_frozen BK159.out 3
                       have hfz64_4 := blk_frozen BK159.out 4
                       try go_wp2
                       go_ret2
                       exact ⟨by first | rfl | (simp [errW_none, errW_some] <;> rfl) | (simp [*, errW_none, errW_some] <;> rfl), by repeat (first | (with_reducible first | exact HB.out | apply below_alloc | apply pw_below_drewN | apply below_drew1 | refine below_set ?_ GE146.out | refine below_set ?_ GE157.out | refine below_set ?_ GE159.out) | exact HB.out)⟩
                      ·rw [if_neg c60] at H
                       have c60b0 : (((rd_T32 ((rd_T30 l0 x22_1).f1) x10_4).f0).toList == ((rd_T32 ((rd_T30 l0 x22_1).f1) x56_3).f0).toList) = false := beq_eq_false_iff_ne.mpr c60
                       have c60b1 : (((rd_T32 ((rd_T30 l0 x22_1).f1) x10_4).f0).toList != ((rd_T32 ((rd_T30 l0 x22_1).f1) x56_3).f0).toList) = true := bne_iff_ne.mpr c60
                       have H' := Aside0.mk H
                       clear H
                       try go_wp2
                       have n0_ := Aside0.mk (Kd.V_drew HO_158001.out)
                       have n1_ := Aside0.mk (blk_drew BK146.out)
                       have n2_ := Aside0.mk (blk_drew BK157.out)
                       have n3_ := Aside0.mk (blk_drew BK159.out)
                       have n4_ := Aside0.mk (below_drew1 HB.out)
                       clear HO_158001
                       clear BK146
                       clear BK157
                       clear BK159
                       clear HB
                       have HO_158001 := n0_
                       have BK146 := n1_
                       have BK157 := n2_
                       have BK159 := n3_
                       have HB := n4_
                       clear n0_ n1_ n2_ n3_ n4_
                       have p160 : 0 ≤ (x10_4 : Int) := of_decide_eq_true (by first | (with_reducible assumption) | assumption)
                       have q160 : x10_4 < (((rd_T30 l0 x22_1).f1).length : Int) := of_decide_eq_true (by first | (with_reducible assumption) | assumption)
                       obtain ⟨ad160, e160, hx160_0, hx160_1, hx160_2, hx160_3, hx160_4⟩ := at_T32 HR145_1.out x10_4 p160 q160
                       have hw160_4 := hx160_4
                       have hw160_3 := hx160_3
                       have hw160_2 := hx160_2
                       have hw160_1 := hx160_1
                       have hw160_0 := hx160_0
                       obtain rfl : ad158 = ad160 := (by injection e160)
                       replace hx160_0 := (HB.out.cell (World.block_lt_of_cell? w _ hx160_0)).trans hx160_0
                       replace hx160_1 := (HB.out.cell (World.block_lt_of_cell? w _ hx160_1)).trans hx160_1
                       replace hx160_2 := (HB.out.cell (World.block_lt_of_cell? w _ hx160_2)).trans hx160_2
                       replace hx160_3 := (HB.out.cell (World.block_lt_of_cell? w _ hx160_3)).trans hx160_3
                       replace hx160_4 := (HB.out.cell (World.block_lt_of_cell? w _ hx160_4)).trans hx160_4
                       replace p160 := eq_true p160
                       replace q160 := eq_true q160
                       refine start_ (n := 9) (S := fun w' => w'.cell? ⟨gb146, 0, none⟩ = some (.string ((rd_T30 l0 x22_1).f0)) ∧ w'.cell? ⟨gb146, 1, none⟩ = some (.slice (some ad158) ((rd_T30 l0 x22_1).f1).length c145_1) ∧ w'.cell? ⟨gb146, 2, none⟩ = some (.int .i64 ((rd_T30 l0 x22_1).f2)) ∧ w'.cell? ⟨gb159, 0, none⟩ = some (.string ((rd_T32 ((rd_T30 l0 x22_1).f1) x56_3).f0)) ∧ w'.cell? ⟨gb159, 1, none⟩ = some (.int .i64 ((rd_T32 ((rd_T30 l0 x22_1).f1) x56_3).f1.f0)) ∧ w'.cell? ⟨gb159, 2, none⟩ = some (.int .i64 ((rd_T32 ((rd_T30 l0 x22_1).f1) x56_3).f1.f1)) ∧ w'.cell? ⟨gb159, 3, none⟩ = some (.string ((rd_T32 ((rd_T30 l0 x22_1).f1) x56_3).f1.f2)) ∧ w'.cell? ⟨gb159, 4, none⟩ = some (.int .i64 ((rd_T32 ((rd_T30 l0 x22_1).f1) x56_3).f2)) ∧ w'.cell? (ad158.add ((x10_4).toNat * 5)) = some (.string ((rd_T32 ((rd_T30 l0 x22_1).f1) x10_4).f0)) ∧ w'.cell? ⟨(ad158.add ((x10_4).toNat * 5)).block, (ad158.add ((x10_4).toNat * 5)).off + 1, none⟩ = some (.int .i64 ((rd_T32 ((rd_T30 l0 x22_1).f1) x10_4).f1.f0)) ∧ w'.cell? ⟨(ad158.add ((x10_4).toNat * 5)).block, (ad158.add ((x10_4).toNat * 5)).off + 2, none⟩ = some (.int .i64 ((rd_T32 ((rd_T30 l0 x22_1).f1) x10_4).f1.f1)) ∧ w'.cell? ⟨(ad158.add ((x10_4).toNat * 5)).block, (ad158.add ((x10_4).toNat * 5)).off + 3, none⟩ = some (.string ((rd_T32 ((rd_T30 l0 x22_1).f1) x10_4).f1.f2)) ∧ w'.cell? ⟨(ad158.add ((x10_4).toNat * 5)).block, (ad158.add ((x10_4).toNat * 5)).off + 4, none⟩ = some (.int .i64 ((rd_T32 ((rd_T30 l0 x22_1).f1) x10_4).f2))) (ds := []) #[false, false, false, false, false, false, false, false, false] (by kernel_rfl) rfl rfl ⟨(blk_cell BK146.out 0).trans rfl, (blk_cell BK146.out 1).trans rfl, (blk_cell BK146.out 2).trans rfl, (blk_cell BK159.out 0).trans rfl, (blk_cell BK159.out 1).trans rfl, (blk_cell BK159.out 2).trans rfl, (blk_cell BK159.out 3).trans rfl, (blk_cell BK159.out 4).trans rfl, ((HB.out.cell (World.block_lt_of_cell? w _ hw160_0)).trans hw160_0), ((HB.out.cell (World.block_lt_of_cell? w _ hw160_1)).trans hw160_1), ((HB.out.cell (World.block_lt_of_cell? w _ hw160_2)).trans hw160_2), ((HB.out.cell (World.block_lt_of_cell? w _ hw160_3)).trans hw160_3), ((HB.out.cell (World.block_lt_of_cell? w _ hw160_4)).trans hw160_4)⟩ (fun hHeld => ?_); refine with_tabW hauberkref04_Check.tab19 hauberkref04_Check.bits19 (fun HT_ HW_ => ?_)
                       generalize wr.drew = w65 at HO_158001 BK146 BK157 BK159 HB hx160_0 hx160_1 hx160_2 hx160_3 hx160_4 hHeld ⊢
                       refine pure_ (i := 0) (N := some 69) (v := ?_) (a' := ?_) #[true, false, false, false, false, false, false, false, false] rfl rfl (any_of HT_.out (by kernel_rfl)) (fun _ _ _ h => h) (Or.inl ⟨by rfl, ?_⟩) ?_ ?_
                       rotate_left
                       ·intro w'
                        go_simp
                        with_reducible rfl
                       rotate_left
                       ·simp only [Act.put, List.setIfInBounds_toArray, List.set_cons_zero, List.set_cons_succ, i64_w, i32_w]
                        rfl
                       refine pure_ (i := 2) (N := some 71) (v := ?_) (a' := ?_) #[true, false, true, false, false, false, false, false, false] rfl rfl (any_of HT_.out (by kernel_rfl)) (fun _ _ _ h => h) (Or.inl ⟨by rfl, ?_⟩) ?_ ?_
                       rotate_left
                       ·intro w'
                        go_simp
                        with_reducible rfl
                       rotate_left
                       ·simp only [Act.put, List.setIfInBounds_toArray, List.set_cons_zero, List.set_cons_succ, i64_w, i32_w]
                        rfl
                       refine pure_ (i := 6) (N := some 75) (v := ?_) (a' := ?_) #[true, false, true, false, false, false, true, false, false] rfl rfl (any_of HT_.out (by kernel_rfl)) (fun _ _ _ h => h) (Or.inl ⟨by rfl, ?_⟩) ?_ ?_
                       rotate_left
                       ·intro w'
                        go_simp
                        with_reducible rfl
                       rotate_left
                       ·simp only [Act.put, List.setIfInBounds_toArray, List.set_cons_zero, List.set_cons_succ, i64_w, i32_w]
                        rfl
                       refine take_ (i := 1) (N := some 70) (v := ?_) (a' := ?_) #[true, true, true, false, false, false, true, false, false] rfl rfl (take_ofW HT_.out HW_.out (by kernel_rfl)) (fun _ _ _ h => h) (Or.inl ⟨by rfl, ?_⟩) hHeld ?_ ?_
                       rotate_left
                       ·rintro w' ⟨s0, s1, s2, s3, s4, s5, s6, s7, s8, s9, s10, s11, s12⟩
                        go_simp
                        with_reducible rfl
                       rotate_left
                       ·simp only [Act.put, List.setIfInBounds_toArray, List.set_cons_zero, List.set_cons_succ, i64_w, i32_w]
                        rfl
                       refine pure_ (i := 3) (N := some 72) (v := ?_) (a' := ?_) #[true, true, true, true, false, false, true, false, false] rfl rfl (any_of HT_.out (by kernel_rfl)) (fun _ _ _ h => h) (Or.inl ⟨by rfl, ?_⟩) ?_ ?_
                       rotate_left
                       ·intro w'
                        go_simp
                        with_reducible rfl
                       rotate_left
                       ·simp only [Act.put, List.setIfInBounds_toArray, List.set_cons_zero, List.set_cons_succ, i64_w, i32_w]
                        rfl
                       refine pure_ (i := 4) (N := some 73) (v := ?_) (a' := ?_) #[true, true, true, true, true, false, true, false, false] rfl rfl (any_of HT_.out (by kernel_rfl)) (fun _ _ _ h => h) (Or.inl ⟨by rfl, ?_⟩) ?_ ?_
                       rotate_left
                       ·intro w'
                        go_simp
                        with_reducible rfl
                       rotate_left
                       ·simp only [Act.put, List.setIfInBounds_toArray, List.set_cons_zero, List.set_cons_succ, i64_w, i32_w]
                        rfl
                       refine take_ (i := 5) (N := some 74) (v := ?_) (a' := ?_) #[true, true, true, true, true, true, true, false, false] rfl rfl (take_ofW HT_.out HW_.out (by kernel_rfl)) (fun _ _ _ h => h) (Or.inl ⟨by rfl, ?_⟩) hHeld ?_ ?_
                       rotate_left
                       ·rintro w' ⟨s0, s1, s2, s3, s4, s5, s6, s7, s8, s9, s10, s11, s12⟩
                        go_simp
                        with_reducible rfl
                       rotate_left
                       ·simp only [Act.put, List.setIfInBounds_toArray, List.set_cons_zero, List.set_cons_succ, i64_w, i32_w]
                        rfl
                       refine take_ (i := 7) (N := some 76) (v := ?_) (a' := ?_) #[true, true, true, true, true, true, true, true, false] rfl rfl (take_ofW HT_.out HW_.out (by kernel_rfl)) (fun _ _ _ h => h) (Or.inl ⟨by rfl, ?_⟩) hHeld ?_ ?_
                       rotate_left
                       ·rintro w' ⟨s0, s1, s2, s3, s4, s5, s6, s7, s8, s9, s10, s11, s12⟩
                        go_simp
                        with_reducible rfl
                       rotate_left
                       ·simp only [Act.put, List.setIfInBounds_toArray, List.set_cons_zero, List.set_cons_succ, i64_w, i32_w]
                        rfl
                       refine pure_ (i := 8) (N := some 77) (v := ?_) (a' := ?_) #[true, true, true, true, true, true, true, true, true] rfl rfl (any_of HT_.out (by kernel_rfl)) (fun _ _ _ h => h) (Or.inl ⟨by rfl, ?_⟩) ?_ ?_
                       rotate_left
                       ·intro w'
                        go_simp
                        with_reducible rfl
                       rotate_left
                       ·simp only [Act.put, List.setIfInBounds_toArray, List.set_cons_zero, List.set_cons_succ, i64_w, i32_w]
                        rfl
                       refine done_ (done_of HT_.out (by kernel_rfl)) ?_
                       try go_wp2
                       go_roundg k4
                       case measure => have := HK1.out; have := HJ24.out; have := HK3.out; have := HK4.out; omega
                       case rel => exact ⟨(wrap64 (x10_4 + 1)), (by first | rfl | (simp; done) | (simp [*]; done)), H', ⟨by have := HK1.out; have := HJ24.out; have := HK3.out; have := HK4.out; omega⟩, ⟨by (with_reducible repeat (first | apply Kd.V_alloc | apply Kd.V_drewN | apply Kd.V_drew)); exact HO_158001.out⟩, ⟨by (with_reducible repeat (first | refine blk_drewN ?_ _ | refine blk_drew ?_ | refine blk_alloc ?_ _)); exact BK146.out⟩, ⟨by (with_reducible repeat (first | refine blk_drewN ?_ _ | refine blk_drew ?_ | refine blk_alloc ?_ _)); exact BK157.out⟩, ⟨by (with_reducible repeat (first | refine blk_drewN ?_ _ | refine blk_drew ?_ | refine blk_alloc ?_ _)); exact BK159.out⟩, ⟨by repeat (first | (with_reducible first | exact HB.out | apply below_alloc | apply pw_below_drewN | apply below_drew1 | refine below_set ?_ GE146.out | refine below_set ?_ GE157.out | refine below_set ?_ GE159.out) | exact HB.out)⟩⟩
                     ·rw [if_neg c59] at H
                      exact absurd H (by simp)
                    ·rw [if_neg c58] at H
                     exact absurd H (by simp)
                   ·rw [if_neg c57] at H
                    have c57b0 : decide (x10_4 < x56_3) = false := decide_eq_false c57
                    clear c57
                    replace H := Option.bind_eq_some_iff.mp H
                    obtain ⟨⟨t161, t162, t165, t166⟩, A660, H⟩ := H
                    replace H : (if ((rd_T32 ((rd_T30 l0 x22_1).f1) x56_3).f1.f0) = 4 then (hauberkref04_Check.j4 k4 l0 (l0.length : Int) x22_1 (((rd_T30 l0 x22_1).f1).length : Int) x56_3 (!t166) ((rd_T30 l0 x22_1).f0) ((rd_T30 l0 x22_1).f1) ((rd_T30 l0 x22_1).f2) ((rd_T32 ((rd_T30 l0 x22_1).f1) x56_3).f0) ((rd_T32 ((rd_T30 l0 x22_1).f1) x56_3).f1.f0) ((rd_T32 ((rd_T30 l0 x22_1).f1) x56_3).f1.f1) ((rd_T32 ((rd_T30 l0 x22_1).f1) x56_3).f1.f2) ((rd_T32 ((rd_T30 l0 x22_1).f1) x56_3).f2)) else (hauberkref04_Check.j4 k4 l0 (l0.length : Int) x22_1 (((rd_T30 l0 x22_1).f1).length : Int) x56_3 false ((rd_T30 l0 x22_1).f0) ((rd_T30 l0 x22_1).f1) ((rd_T30 l0 x22_1).f2) ((rd_T32 ((rd_T30 l0 x22_1).f1) x56_3).f0) ((rd_T32 ((rd_T30 l0 x22_1).f1) x56_3).f1.f0) ((rd_T32 ((rd_T30 l0 x22_1).f1) x56_3).f1.f1) ((rd_T32 ((rd_T30 l0 x22_1).f1) x56_3).f1.f2) ((rd_T32 ((rd_T30 l0 x22_1).f1) x56_3).f2))) = some (r1, r2) := H
                    have A66 := Aside0.mk A660
                    clear A660
                    have HC67 := Aside0.mk H
                    clear H
                    have hnb68 := NB159_146.out
                    have hnc68 := NB146_159.out
                    have hnb69 := NB159_157.out
                    have hnc69 := NB157_159.out
                    have hcz70_0 : wr.cell? ⟨gb159, 0, none⟩ = some (.string ((rd_T32 ((rd_T30 l0 x22_1).f1) x56_3).f0)) := (blk_cell BK159.out 0).trans rfl
                    have hcz70_1 : wr.cell? ⟨gb159, 1, none⟩ = some (.int .i64 ((rd_T32 ((rd_T30 l0 x22_1).f1) x56_3).f1.f0)) := (blk_cell BK159.out 1).trans rfl
                    have hcz70_2 : wr.cell? ⟨gb159, 2, none⟩ = some (.int .i64 ((rd_T32 ((rd_T30 l0 x22_1).f1) x56_3).f1.f1)) := (blk_cell BK159.out 2).trans rfl
                    have hcz70_3 : wr.cell? ⟨gb159, 3, none⟩ = some (.string ((rd_T32 ((rd_T30 l0 x22_1).f1) x56_3).f1.f2)) := (blk_cell BK159.out 3).trans rfl
                    have hcz70_4 : wr.cell? ⟨gb159, 4, none⟩ = some (.int .i64 ((rd_T32 ((rd_T30 l0 x22_1).f1) x56_3).f2)) := (blk_cell BK159.out 4).trans rfl
                    have hfz70_0 := blk_frozen BK159.out 0
                    have hfz70_1 := blk_frozen BK159.out 1
                    have hfz70_2 := blk_frozen BK159.out 2
                    have hfz70_3 := blk_frozen BK159.out 3
                    have hfz70_4 := blk_frozen BK159.out 4
                    go_upto_region 22 with (first | ((with_reducible refine gate_callee (f := 11) rfl ?_); refine goesL_ (some 85) rfl rfl Try.func11 (by kernel_rfl) rfl #[.slice (some ad145) l0.length c0, .string ((rd_T32 ((rd_T30 l0 x22_1).f1) x56_3).f1.f2)] rfl (by (try simp only [List.map_toArray, List.map_cons, List.map_nil]); first | done | rfl | (simp only [List.length_drop, List.length_take]; rfl)) ?_; (with_reducible refine (hauberkref04_Find.calls k4 (fun k_ => k_ < w.heap.size) _ _ l0 ((rd_T32 ((rd_T30 l0 x22_1).f1) x56_3).f1.f2) t161 t162 t165 t166 _ ?side1 A66.out).mono ?_); (case side1 => exact Kd.V_mk HC0.out (Kd.F_below (Kd.C_F k30_heap HR0.out) (by repeat (first | (with_reducible first | exact HB.out | apply below_alloc | apply pw_below_drewN | apply below_drew1 | refine below_set ?_ GE146.out | refine below_set ?_ GE157.out | refine below_set ?_ GE159.out) | exact HB.out)))); rintro e w71 ⟨v163, rfl, ho0, hb⟩; refine ⟨_, rfl, ?_⟩; have n0_ := Aside0.mk (Kd.V_below (by (with_reducible repeat (first | apply Kd.V_alloc | apply Kd.V_drewN | apply Kd.V_drew)); exact HO_158001.out) hb); have n1_ := Aside0.mk (Kd.V_lower (Kd.V_mono (ok' := fun k_ => k_ ≠ gb146 ∧ k_ ≠ gb157 ∧ k_ ≠ gb159) ho0 (fun k_ hk_ => ⟨Or.elim hk_ (fun hs_ => fun e_ => Nat.not_le.2 hs_ (by rw [e_]; exact GW146.out)) (fun hn_ => (Kd.freshB (g := gb146) (o := .cells #[.string ((rd_T30 l0 x22_1).f0), .slice (some ad158) ((rd_T30 l0 x22_1).f1).length c145_1, .int .i64 ((rd_T30 l0 x22_1).f2)] 30 (0, 0)) (by (with_reducible repeat (first | refine blk_drewN ?_ _ | refine blk_drew ?_ | refine blk_alloc ?_ _)); exact BK146.out) k_ hn_)), Or.elim hk_ (fun hs_ => fun e_ => Nat.not_le.2 hs_ (by rw [e_]; exact GW157.out)) (fun hn_ => (Kd.freshB (g := gb157) (o := .cells #[.string t151, .slice Ao35 t152.length co35, .int .i64 t155] 30 (0, 0)) (by (with_reducible repeat (first | refine blk_drewN ?_ _ | refine blk_drew ?_ | refine blk_alloc ?_ _)); exact BK157.out) k_ hn_)), Or.elim hk_ (fun hs_ => fun e_ => Nat.not_le.2 hs_ (by rw [e_]; exact GW159.out)) (fun hn_ => (Kd.freshB (g := gb159) (o := .cells #[.string ((rd_T32 ((rd_T30 l0 x22_1).f1) x56_3).f0), .int .i64 ((rd_T32 ((rd_T30 l0 x22_1).f1) x56_3).f1.f0), .int .i64 ((rd_T32 ((rd_T30 l0 x22_1).f1) x56_3).f1.f1), .string ((rd_T32 ((rd_T30 l0 x22_1).f1) x56_3).f1.f2), .int .i64 ((rd_T32 ((rd_T30 l0 x22_1).f1) x56_3).f2)] 32 (0, 0)) (by (with_reducible repeat (first | refine blk_drewN ?_ _ | refine blk_drew ?_ | refine blk_alloc ?_ _)); exact BK159.out) k_ hn_))⟩)) (below_size (by repeat (first | (with_reducible first | exact HB.out | apply below_alloc | apply pw_below_drewN | apply below_drew1 | refine below_set ?_ GE146.out | refine below_set ?_ GE157.out | refine below_set ?_ GE159.out) | exact HB.out)))); have n2_ := Aside0.mk (blk_below (g := gb146) (o := .cells #[.string ((rd_T30 l0 x22_1).f0), .slice (some ad158) ((rd_T30 l0 x22_1).f1).length c145_1, .int .i64 ((rd_T30 l0 x22_1).f2)] 30 (0, 0)) (by (with_reducible repeat (first | refine blk_drewN ?_ _ | refine blk_drew ?_ | refine blk_alloc ?_ _)); exact BK146.out) hb); have n3_ := Aside0.mk (blk_below (g := gb157) (o := .cells #[.string t151, .slice Ao35 t152.length co35, .int .i64 t155] 30 (0, 0)) (by (with_reducible repeat (first | refine blk_drewN ?_ _ | refine blk_drew ?_ | refine blk_alloc ?_ _)); exact BK157.out) hb); have n4_ := Aside0.mk (blk_below (g := gb159) (o := .cells #[.string ((rd_T32 ((rd_T30 l0 x22_1).f1) x56_3).f0), .int .i64 ((rd_T32 ((rd_T30 l0 x22_1).f1) x56_3).f1.f0), .int .i64 ((rd_T32 ((rd_T30 l0 x22_1).f1) x56_3).f1.f1), .string ((rd_T32 ((rd_T30 l0 x22_1).f1) x56_3).f1.f2), .int .i64 ((rd_T32 ((rd_T30 l0 x22_1).f1) x56_3).f2)] 32 (0, 0)) (by (with_reducible repeat (first | refine blk_drewN ?_ _ | refine blk_drew ?_ | refine blk_alloc ?_ _)); exact BK159.out) hb); have n5_ := Aside0.mk (below_step (by repeat (first | (with_reducible first | exact HB.out | apply below_alloc | apply pw_below_drewN | apply below_drew1 | refine below_set ?_ GE146.out | refine below_set ?_ GE157.out | refine below_set ?_ GE159.out) | exact HB.out)) hb); clear HO_158001; clear BK146; clear BK157; clear BK159; clear HB; have HO_158001 := n0_; have HO164 := n1_; have BK146 := n2_; have BK157 := n3_; have BK159 := n4_; have HB := n5_; clear n0_ n1_ n2_ n3_ n4_ n5_; (try clear hb); (try clear hb2); (try clear hk); (try clear hi); (try clear ho0)) | ((with_reducible refine gate_dst (N := 11) rfl ?_); (try (refine gate_guard (by rfl) ?_; dsimp only)); refine box_event ?hg (N := 11) ?hd (cs := #[.string (⟨#[]⟩ : ByteArray), .slice none 0 0, .int .i64 0]) (t := 30) ?hr ?_; (case hd => rfl); (case hg => rfl); (case hr => first | (go_simp; done) | (go_simp; rfl)); intro gb167 hg w72 hbox hb; have n0_ := Aside0.mk (Kd.V_below (Kd.V_elderB (by (with_reducible repeat (first | apply Kd.V_alloc | apply Kd.V_drewN | apply Kd.V_drew)); exact HO_158001.out) gb167 (Nat.le_of_eq hg.symm)) hb); have n1_ := Aside0.mk (Kd.V_below (Kd.V_elderB (by (with_reducible repeat (first | apply Kd.V_alloc | apply Kd.V_drewN | apply Kd.V_drew)); exact HO164.out) gb167 (Nat.le_of_eq hg.symm)) hb); have n2_ := Aside0.mk (blk_below (g := gb146) (o := .cells #[.string ((rd_T30 l0 x22_1).f0), .slice (some ad158) ((rd_T30 l0 x22_1).f1).length c145_1, .int .i64 ((rd_T30 l0 x22_1).f2)] 30 (0, 0)) (by (with_reducible repeat (first | refine blk_drewN ?_ _ | refine blk_drew ?_ | refine blk_alloc ?_ _)); exact BK146.out) hb); have n3_ := Aside0.mk (blk_below (g := gb157) (o := .cells #[.string t151, .slice Ao35 t152.length co35, .int .i64 t155] 30 (0, 0)) (by (with_reducible repeat (first | refine blk_drewN ?_ _ | refine blk_drew ?_ | refine blk_alloc ?_ _)); exact BK157.out) hb); have n4_ := Aside0.mk (blk_below (g := gb159) (o := .cells #[.string ((rd_T32 ((rd_T30 l0 x22_1).f1) x56_3).f0), .int .i64 ((rd_T32 ((rd_T30 l0 x22_1).f1) x56_3).f1.f0), .int .i64 ((rd_T32 ((rd_T30 l0 x22_1).f1) x56_3).f1.f1), .string ((rd_T32 ((rd_T30 l0 x22_1).f1) x56_3).f1.f2), .int .i64 ((rd_T32 ((rd_T30 l0 x22_1).f1) x56_3).f2)] 32 (0, 0)) (by (with_reducible repeat (first | refine blk_drewN ?_ _ | refine blk_drew ?_ | refine blk_alloc ?_ _)); exact BK159.out) hb); have n5_ := Aside0.mk (below_step (by repeat (first | (with_reducible first | exact HB.out | apply below_alloc | apply pw_below_drewN | apply below_drew1 | refine below_set ?_ GE146.out | refine below_set ?_ GE157.out | refine below_set ?_ GE159.out) | exact HB.out)) hb); have n6_ := Aside0.mk (hbox); have n7_ := Aside0.mk ((by rw [hg]; exact (below_size (by repeat (first | (with_reducible first | exact HB.out | apply below_alloc | apply pw_below_drewN | apply below_drew1 | refine below_set ?_ GE146.out | refine below_set ?_ GE157.out | refine below_set ?_ GE159.out) | exact HB.out))) : w.heap.size ≤ gb167)); have n8_ := Aside0.mk ((by rw [hg]; exact (below_size (by repeat (first | (with_reducible first | exact HB.out | apply below_alloc | apply pw_below_drewN | apply below_drew1 | refine below_set ?_ GE146.out | refine below_set ?_ GE157.out | refine below_set ?_ GE159.out) | exact HB.out))) : w.heap.size ≤ gb167)); have n9_ := Aside0.mk ((by rw [hg]; exact Nat.ne_of_lt (blk_lt (g := gb146) (o := .cells #[.string ((rd_T30 l0 x22_1).f0), .slice (some ad158) ((rd_T30 l0 x22_1).f1).length c145_1, .int .i64 ((rd_T30 l0 x22_1).f2)] 30 (0, 0)) (by (with_reducible repeat (first | refine blk_drewN ?_ _ | refine blk_drew ?_ | refine blk_alloc ?_ _)); exact BK146.out)) : gb146 ≠ gb167)); have n10_ := Aside0.mk ((by rw [hg]; exact Nat.ne_of_gt (blk_lt (g := gb146) (o := .cells #[.string ((rd_T30 l0 x22_1).f0), .slice (some ad158) ((rd_T30 l0 x22_1).f1).length c145_1, .int .i64 ((rd_T30 l0 x22_1).f2)] 30 (0, 0)) (by (with_reducible repeat (first | refine blk_drewN ?_ _ | refine blk_drew ?_ | refine blk_alloc ?_ _)); exact BK146.out)) : gb167 ≠ gb146)); have n11_ := Aside0.mk ((by rw [hg]; exact Nat.ne_of_lt (blk_lt (g := gb157) (o := .cells #[.string t151, .slice Ao35 t152.length co35, .int .i64 t155] 30 (0, 0)) (by (with_reducible repeat (first | refine blk_drewN ?_ _ | refine blk_drew ?_ | refine blk_alloc ?_ _)); exact BK157.out)) : gb157 ≠ gb167)); have n12_ := Aside0.mk ((by rw [hg]; exact Nat.ne_of_gt (blk_lt (g := gb157) (o := .cells #[.string t151, .slice Ao35 t152.length co35, .int .i64 t155] 30 (0, 0)) (by (with_reducible repeat (first | refine blk_drewN ?_ _ | refine blk_drew ?_ | refine blk_alloc ?_ _)); exact BK157.out)) : gb167 ≠ gb157)); have n13_ := Aside0.mk ((by rw [hg]; exact Nat.ne_of_lt (blk_lt (g := gb159) (o := .cells #[.string ((rd_T32 ((rd_T30 l0 x22_1).f1) x56_3).f0), .int .i64 ((rd_T32 ((rd_T30 l0 x22_1).f1) x56_3).f1.f0), .int .i64 ((rd_T32 ((rd_T30 l0 x22_1).f1) x56_3).f1.f1), .string ((rd_T32 ((rd_T30 l0 x22_1).f1) x56_3).f1.f2), .int .i64 ((rd_T32 ((rd_T30 l0 x22_1).f1) x56_3).f2)] 32 (0, 0)) (by (with_reducible repeat (first | refine blk_drewN ?_ _ | refine blk_drew ?_ | refine blk_alloc ?_ _)); exact BK159.out)) : gb159 ≠ gb167)); have n14_ := Aside0.mk ((by rw [hg]; exact Nat.ne_of_gt (blk_lt (g := gb159) (o := .cells #[.string ((rd_T32 ((rd_T30 l0 x22_1).f1) x56_3).f0), .int .i64 ((rd_T32 ((rd_T30 l0 x22_1).f1) x56_3).f1.f0), .int .i64 ((rd_T32 ((rd_T30 l0 x22_1).f1) x56_3).f1.f1), .string ((rd_T32 ((rd_T30 l0 x22_1).f1) x56_3).f1.f2), .int .i64 ((rd_T32 ((rd_T30 l0 x22_1).f1) x56_3).f2)] 32 (0, 0)) (by (with_reducible repeat (first | refine blk_drewN ?_ _ | refine blk_drew ?_ | refine blk_alloc ?_ _)); exact BK159.out)) : gb167 ≠ gb159)); clear HO_158001; clear HO164; clear BK146; clear BK157; clear BK159; clear HB; have HO_158001 := n0_; have HO164 := n1_; have BK146 := n2_; have BK157 := n3_; have BK159 := n4_; have HB := n5_; have BK167 := n6_; have GW167 := n7_; have GE167 := n8_; have NB146_167 := n9_; have NB167_146 := n10_; have NB157_167 := n11_; have NB167_157 := n12_; have NB159_167 := n13_; have NB167_159 := n14_; clear n0_ n1_ n2_ n3_ n4_ n5_ n6_ n7_ n8_ n9_ n10_ n11_ n12_ n13_ n14_; clear hb hbox hg; have hnb73 := NB167_146.out; have hnc73 := NB146_167.out; have hnb74 := NB167_157.out; have hnc74 := NB157_167.out; have hnb75 := NB167_159.out; have hnc75 := NB159_167.out; have hcz76_0 : w72.cell? ⟨gb167, 0, none⟩ = some (.string (⟨#[]⟩ : ByteArray)) := (blk_cell BK167.out 0).trans rfl; have hcz76_1 : w72.cell? ⟨gb167, 1, none⟩ = some (.slice none 0 0) := (blk_cell BK167.out 1).trans rfl; have hcz76_2 : w72.cell? ⟨gb167, 2, none⟩ = some (.int .i64 0) := (blk_cell BK167.out 2).trans rfl; have hfz76_0 := blk_frozen BK167.out 0; have hfz76_1 := blk_frozen BK167.out 1; have hfz76_2 := blk_frozen BK167.out 2; obtain ⟨Ao77, co77, eo77⟩ := Kd.V_slice HO164.out; subst eo77))
                    (try simp only [Act.put, List.setIfInBounds_toArray, List.set_cons_zero, List.set_cons_succ])
                    go_cut [95] (fun v95 wc => ∃ (kq : Nat) (x95_66 : Bool), v95 = .bool x95_66 ∧ Aside0 (hauberkref04_Check.j4 kq l0 (l0.length : Int) x22_1 (((rd_T30 l0 x22_1).f1).length : Int) x56_3 x95_66 ((rd_T30 l0 x22_1).f0) ((rd_T30 l0 x22_1).f1) ((rd_T30 l0 x22_1).f2) ((rd_T32 ((rd_T30 l0 x22_1).f1) x56_3).f0) ((rd_T32 ((rd_T30 l0 x22_1).f1) x56_3).f1.f0) ((rd_T32 ((rd_T30 l0 x22_1).f1) x56_3).f1.f1) ((rd_T32 ((rd_T30 l0 x22_1).f1) x56_3).f1.f2) ((rd_T32 ((rd_T30 l0 x22_1).f1) x56_3).f2) = some (r1, r2)) ∧ Aside0 (kq ≤ k4) ∧ Aside0 (Kd.V k32 32 wc w.heap.size (fun k_ => k_ ≠ gb146 ∧ k_ ≠ gb157 ∧ k_ ≠ gb159 ∧ k_ ≠ gb167) (.slice Ao35 t152.length co35) t152) ∧ Aside0 (Kd.V k32 32 wc w.heap.size (fun k_ => k_ ≠ gb146 ∧ k_ ≠ gb157 ∧ k_ ≠ gb159 ∧ k_ ≠ gb167) (.slice Ao77 t162.length co77) t162) ∧ Aside0 (wc.heap[gb146]? = some (.cells #[.string ((rd_T30 l0 x22_1).f0), (.slice (some ad158) ((rd_T30 l0 x22_1).f1).length c145_1), .int .i64 ((rd_T30 l0 x22_1).f2)] 30 (0, 0))) ∧ Aside0 (wc.heap[gb157]? = some (.cells #[.string t151, (.slice Ao35 t152.length co35), .int .i64 t155] 30 (0, 0))) ∧ Aside0 (wc.heap[gb159]? = some (.cells #[.string ((rd_T32 ((rd_T30 l0 x22_1).f1) x56_3).f0), .int .i64 ((rd_T32 ((rd_T30 l0 x22_1).f1) x56_3).f1.f0), .int .i64 ((rd_T32 ((rd_T30 l0 x22_1).f1) x56_3).f1.f1), .string ((rd_T32 ((rd_T30 l0 x22_1).f1) x56_3).f1.f2), .int .i64 ((rd_T32 ((rd_T30 l0 x22_1).f1) x56_3).f2)] 32 (0, 0))) ∧ Aside0 (wc.heap[gb167]? = some (.cells #[.string t161, (.slice Ao77 t162.length co77), .int .i64 t165] 30 (0, 0))) ∧ Aside0 (Below w.heap.size w wc))
                    case first =>
                     have H := HC67.out
                     clear HC67
                     by_cases c78 : ((rd_T32 ((rd_T30 l0 x22_1).f1) x56_3).f1.f0) = 4
                     ·rw [if_pos c78] at H
                      have c78b0 : (((rd_T32 ((rd_T30 l0 x22_1).f1) x56_3).f1.f0) == 4) = true := beq_iff_eq.mpr c78
                      have c78b1 : (((rd_T32 ((rd_T30 l0 x22_1).f1) x56_3).f1.f0) != 4) = false := bne_eq_false_iff_eq.mpr c78
                      clear c78
                      (first | rw [c78b0] | (simp only [i64_w, i32_w]; rw [c78b0]) | skip)
                      have H' := Aside0.mk H
                      clear H
                      have hnb79 := NB159_146.out
                      have hnc79 := NB146_159.out
                      have hnb80 := NB159_157.out
                      have hnc80 := NB157_159.out
                      have hnb81 := NB159_167.out
                      have hnc81 := NB167_159.out
                      have hcz82_0 : w72.cell? ⟨gb159, 0, none⟩ = some (.string ((rd_T32 ((rd_T30 l0 x22_1).f1) x56_3).f0)) := (blk_cell BK159.out 0).trans rfl
                      have hcz82_1 : w72.cell? ⟨gb159, 1, none⟩ = some (.int .i64 ((rd_T32 ((rd_T30 l0 x22_1).f1) x56_3).f1.f0)) := (blk_cell BK159.out 1).trans rfl
                      have hcz82_2 : w72.cell? ⟨gb159, 2, none⟩ = some (.int .i64 ((rd_T32 ((rd_T30 l0 x22_1).f1) x56_3).f1.f1)) := (blk_cell BK159.out 2).trans rfl
                      have hcz82_3 : w72.cell? ⟨gb159, 3, none⟩ = some (.string ((rd_T32 ((rd_T30 l0 x22_1).f1) x56_3).f1.f2)) := (blk_cell BK159.out 3).trans rfl
                      have hcz82_4 : w72.cell? ⟨gb159, 4, none⟩ = some (.int .i64 ((rd_T32 ((rd_T30 l0 x22_1).f1) x56_3).f2)) := (blk_cell BK159.out 4).trans rfl
                      have hfz82_0 := blk_frozen BK159.out 0
                      have hfz82_1 := blk_frozen BK159.out 1
                      have hfz82_2 := blk_frozen BK159.out 2
                      have hfz82_3 := blk_frozen BK159.out 3
                      have hfz82_4 := blk_frozen BK159.out 4
                      go_wp2
                      go_meet
                      case rel => exact ⟨_, (!t166), (by first | rfl | (simp; done) | (simp [*]; done)), H', ⟨by have := HK1.out; have := HJ24.out; have := HK3.out; have := HK4.out; first | omega | exact Nat.le_refl _⟩, ⟨by (with_reducible repeat (first | apply Kd.V_alloc | apply Kd.V_drewN | apply Kd.V_drew)); exact Kd.V_mono (Kd.V_far (p := ⟨gb167, 2, none⟩) (Kd.V_far (p := ⟨gb167, 1, none⟩) (Kd.V_far (p := ⟨gb167, 0, none⟩) (Kd.V_mono HO_158001.out (fun k_ hk => (⟨hk, hk.2⟩ : _ ∧ k_ ≠ gb167))) (fun _ hk => hk.2) (.string t161)) (fun _ hk => hk.2) (.slice Ao77 t162.length co77)) (fun _ hk => hk.2) (.int .i64 t165)) (fun _ hk => ⟨hk.1.1.1, ⟨hk.1.1.2.1, ⟨hk.1.1.2.2, hk.1.2⟩⟩⟩)⟩, ⟨by (with_reducible repeat (first | apply Kd.V_alloc | apply Kd.V_drewN | apply Kd.V_drew)); exact Kd.V_mono (Kd.V_far (p := ⟨gb167, 2, none⟩) (Kd.V_far (p := ⟨gb167, 1, none⟩) (Kd.V_far (p := ⟨gb167, 0, none⟩) (Kd.V_mono HO164.out (fun k_ hk => (⟨hk, hk.2⟩ : _ ∧ k_ ≠ gb167))) (fun _ hk => hk.2) (.string t161)) (fun _ hk => hk.2) (.slice Ao77 t162.length co77)) (fun _ hk => hk.2) (.int .i64 t165)) (fun _ hk => ⟨hk.1.1.1, ⟨hk.1.1.2.1, ⟨hk.1.1.2.2, hk.1.2⟩⟩⟩)⟩, ⟨by (with_reducible repeat (first | refine blk_drewN ?_ _ | refine blk_drew ?_ | refine blk_alloc ?_ _)); refine blk_far ?_ NB146_167.out _; (with_reducible repeat (first | refine blk_drewN ?_ _ | refine blk_drew ?_ | refine blk_alloc ?_ _)); refine blk_far ?_ NB146_167.out _; (with_reducible repeat (first | refine blk_drewN ?_ _ | refine blk_drew ?_ | refine blk_alloc ?_ _)); refine blk_far ?_ NB146_167.out _; (with_reducible repeat (first | refine blk_drewN ?_ _ | refine blk_drew ?_ | refine blk_alloc ?_ _)); exact BK146.out⟩, ⟨by (with_reducible repeat (first | refine blk_drewN ?_ _ | refine blk_drew ?_ | refine blk_alloc ?_ _)); refine blk_far ?_ NB157_167.out _; (with_reducible repeat (first | refine blk_drewN ?_ _ | refine blk_drew ?_ | refine blk_alloc ?_ _)); refine blk_far ?_ NB157_167.out _; (with_reducible repeat (first | refine blk_drewN ?_ _ | refine blk_drew ?_ | refine blk_alloc ?_ _)); refine blk_far ?_ NB157_167.out _; (with_reducible repeat (first | refine blk_drewN ?_ _ | refine blk_drew ?_ | refine blk_alloc ?_ _)); exact BK157.out⟩, ⟨by (with_reducible repeat (first | refine blk_drewN ?_ _ | refine blk_drew ?_ | refine blk_alloc ?_ _)); refine blk_far ?_ NB159_167.out _; (with_reducible repeat (first | refine blk_drewN ?_ _ | refine blk_drew ?_ | refine blk_alloc ?_ _)); refine blk_far ?_ NB159_167.out _; (with_reducible repeat (first | refine blk_drewN ?_ _ | refine blk_drew ?_ | refine blk_alloc ?_ _)); refine blk_far ?_ NB159_167.out _; (with_reducible repeat (first | refine blk_drewN ?_ _ | refine blk_drew ?_ | refine blk_alloc ?_ _)); exact BK159.out⟩, ⟨by (with_reducible repeat (first | refine blk_drewN ?_ _ | refine blk_drew ?_ | refine blk_alloc ?_ _)); refine blk_put (cs := #[.string t161, .slice Ao77 t162.length co77, .int .i64 0]) ?_ 2 _ rfl; (with_reducible repeat (first | refine blk_drewN ?_ _ | refine blk_drew ?_ | refine blk_alloc ?_ _)); refine blk_put (cs := #[.string t161, .slice none 0 0, .int .i64 0]) ?_ 1 _ rfl; (with_reducible repeat (first | refine blk_drewN ?_ _ | refine blk_drew ?_ | refine blk_alloc ?_ _)); refine blk_put (cs := #[.string (⟨#[]⟩ : ByteArray), .slice none 0 0, .int .i64 0]) ?_ 0 _ rfl; (with_reducible repeat (first | refine blk_drewN ?_ _ | refine blk_drew ?_ | refine blk_alloc ?_ _)); exact BK167.out⟩, ⟨by repeat (first | (with_reducible first | exact HB.out | apply below_alloc | apply pw_below_drewN | apply below_drew1 | refine below_set ?_ GE146.out | refine below_set ?_ GE157.out | refine below_set ?_ GE159.out | refine below_set ?_ GE167.out) | exact HB.out)⟩⟩
                     ·rw [if_neg c78] at H
                      have c78b0 : (((rd_T32 ((rd_T30 l0 x22_1).f1) x56_3).f1.f0) == 4) = false := beq_eq_false_iff_ne.mpr c78
                      have c78b1 : (((rd_T32 ((rd_T30 l0 x22_1).f1) x56_3).f1.f0) != 4) = true := bne_iff_ne.mpr c78
                      (first | rw [c78b0] | (simp only [i64_w, i32_w]; rw [c78b0]) | skip)
                      have H' := Aside0.mk H
                      clear H
                      have hnb83 := NB159_146.out
                      have hnc83 := NB146_159.out
                      have hnb84 := NB159_157.out
                      have hnc84 := NB157_159.out
                      have hnb85 := NB159_167.out
                      have hnc85 := NB167_159.out
                      have hcz86_0 : w72.cell? ⟨gb159, 0, none⟩ = some (.string ((rd_T32 ((rd_T30 l0 x22_1).f1) x56_3).f0)) := (blk_cell BK159.out 0).trans rfl
                      have hcz86_1 : w72.cell? ⟨gb159, 1, none⟩ = some (.int .i64 ((rd_T32 ((rd_T30 l0 x22_1).f1) x56_3).f1.f0)) := (blk_cell BK159.out 1).trans rfl
                      have hcz86_2 : w72.cell? ⟨gb159, 2, none⟩ = some (.int .i64 ((rd_T32 ((rd_T30 l0 x22_1).f1) x56_3).f1.f1)) := (blk_cell BK159.out 2).trans rfl
                      have hcz86_3 : w72.cell? ⟨gb159, 3, none⟩ = some (.string ((rd_T32 ((rd_T30 l0 x22_1).f1) x56_3).f1.f2)) := (blk_cell BK159.out 3).trans rfl
                      have hcz86_4 : w72.cell? ⟨gb159, 4, none⟩ = some (.int .i64 ((rd_T32 ((rd_T30 l0 x22_1).f1) x56_3).f2)) := (blk_cell BK159.out 4).trans rfl
                      have hfz86_0 := blk_frozen BK159.out 0
                      have hfz86_1 := blk_frozen BK159.out 1
                      have hfz86_2 := blk_frozen BK159.out 2
                      have hfz86_3 := blk_frozen BK159.out 3
                      have hfz86_4 := blk_frozen BK159.out 4
                      go_wp2
                      go_meet
                      case rel => exact ⟨_, (false), (by first | rfl | (simp; done) | (simp [*]; done)), H', ⟨by have := HK1.out; have := HJ24.out; have := HK3.out; have := HK4.out; first | omega | exact Nat.le_refl _⟩, ⟨by (with_reducible repeat (first | apply Kd.V_alloc | apply Kd.V_drewN | apply Kd.V_drew)); exact Kd.V_mono (Kd.V_far (p := ⟨gb167, 2, none⟩) (Kd.V_far (p := ⟨gb167, 1, none⟩) (Kd.V_far (p := ⟨gb167, 0, none⟩) (Kd.V_mono HO_158001.out (fun k_ hk => (⟨hk, hk.2⟩ : _ ∧ k_ ≠ gb167))) (fun _ hk => hk.2) (.string t161)) (fun _ hk => hk.2) (.slice Ao77 t162.length co77)) (fun _ hk => hk.2) (.int .i64 t165)) (fun _ hk => ⟨hk.1.1.1, ⟨hk.1.1.2.1, ⟨hk.1.1.2.2, hk.1.2⟩⟩⟩)⟩, ⟨by (with_reducible repeat (first | apply Kd.V_alloc | apply Kd.V_drewN | apply Kd.V_drew)); exact Kd.V_mono (Kd.V_far (p := ⟨gb167, 2, none⟩) (Kd.V_far (p := ⟨gb167, 1, none⟩) (Kd.V_far (p := ⟨gb167, 0, none⟩) (Kd.V_mono HO164.out (fun k_ hk => (⟨hk, hk.2⟩ : _ ∧ k_ ≠ gb167))) (fun _ hk => hk.2) (.string t161)) (fun _ hk => hk.2) (.slice Ao77 t162.length co77)) (fun _ hk => hk.2) (.int .i64 t165)) (fun _ hk => ⟨hk.1.1.1, ⟨hk.1.1.2.1, ⟨hk.1.1.2.2, hk.1.2⟩⟩⟩)⟩, ⟨by (with_reducible repeat (first | refine blk_drewN ?_ _ | refine blk_drew ?_ | refine blk_alloc ?_ _)); refine blk_far ?_ NB146_167.out _; (with_reducible repeat (first | refine blk_drewN ?_ _ | refine blk_drew ?_ | refine blk_alloc ?_ _)); refine blk_far ?_ NB146_167.out _; (with_reducible repeat (first | refine blk_drewN ?_ _ | refine blk_drew ?_ | refine blk_alloc ?_ _)); refine blk_far ?_ NB146_167.out _; (with_reducible repeat (first | refine blk_drewN ?_ _ | refine blk_drew ?_ | refine blk_alloc ?_ _)); exact BK146.out⟩, ⟨by (with_reducible repeat (first | refine blk_drewN ?_ _ | refine blk_drew ?_ | refine blk_alloc ?_ _)); refine blk_far ?_ NB157_167.out _; (with_reducible repeat (first | refine blk_drewN ?_ _ | refine blk_drew ?_ | refine blk_alloc ?_ _)); refine blk_far ?_ NB157_167.out _; (with_reducible repeat (first | refine blk_drewN ?_ _ | refine blk_drew ?_ | refine blk_alloc ?_ _)); refine blk_far ?_ NB157_167.out _; (with_reducible repeat (first | refine blk_drewN ?_ _ | refine blk_drew ?_ | refine blk_alloc ?_ _)); exact BK157.out⟩, ⟨by (with_reducible repeat (first | refine blk_drewN ?_ _ | refine blk_drew ?_ | refine blk_alloc ?_ _)); refine blk_far ?_ NB159_167.out _; (with_reducible repeat (first | refine blk_drewN ?_ _ | refine blk_drew ?_ | refine blk_alloc ?_ _)); refine blk_far ?_ NB159_167.out _; (with_reducible repeat (first | refine blk_drewN ?_ _ | refine blk_drew ?_ | refine blk_alloc ?_ _)); refine blk_far ?_ NB159_167.out _; (with_reducible repeat (first | refine blk_drewN ?_ _ | refine blk_drew ?_ | refine blk_alloc ?_ _)); exact BK159.out⟩, ⟨by (with_reducible repeat (first | refine blk_drewN ?_ _ | refine blk_drew ?_ | refine blk_alloc ?_ _)); refine blk_put (cs := #[.string t161, .slice Ao77 t162.length co77, .int .i64 0]) ?_ 2 _ rfl; (with_reducible repeat (first | refine blk_drewN ?_ _ | refine blk_drew ?_ | refine blk_alloc ?_ _)); refine blk_put (cs := #[.string t161, .slice none 0 0, .int .i64 0]) ?_ 1 _ rfl; (with_reducible repeat (first | refine blk_drewN ?_ _ | refine blk_drew ?_ | refine blk_alloc ?_ _)); refine blk_put (cs := #[.string (⟨#[]⟩ : ByteArray), .slice none 0 0, .int .i64 0]) ?_ 0 _ rfl; (with_reducible repeat (first | refine blk_drewN ?_ _ | refine blk_drew ?_ | refine blk_alloc ?_ _)); exact BK167.out⟩, ⟨by repeat (first | (with_reducible first | exact HB.out | apply below_alloc | apply pw_below_drewN | apply below_drew1 | refine below_set ?_ GE146.out | refine below_set ?_ GE157.out | refine below_set ?_ GE159.out | refine below_set ?_ GE167.out) | exact HB.out)⟩⟩
                    case rest =>
                     clear HC67
                     try clear c1
                     try clear p1
                     try clear q1
                     try clear hx1
                     try clear c2
                     try clear p2
                     try clear c3
                     try clear q3
                     try clear c4
                     try clear c5
                     try clear c6
                     try clear p6
                     try clear c7
                     try clear c8
                     try clear c10
                     try clear c11
                     try clear c14
                     try clear p14
                     try clear q14
                     try clear hx14
                     try clear p15
                     try clear q15
                     try clear hx15
                     try clear p16
                     try clear q16
                     try clear hx16
                     try clear c23
                     try clear q30
                     try clear c38
                     try clear c38b0
                     try clear c38b1
                     try clear c38b2
                     try clear c39
                     try clear c41
                     try clear c43
                     try clear c44
                     try clear c46
                     try clear c48
                     try clear c48b0
                     try clear c49
                     try clear c49b0
                     try clear c50
                     try clear c50b0
                     try clear c51
                     try clear c54
                     try clear c55
                     try clear c57
                     try clear c57b0
                     try clear c58
                     try clear c58b0
                     try clear c59
                     try clear c59b0
                     try clear c60
                     try clear c60b0
                     try clear c60b1
                     try clear c62
                     try clear c63
                     try clear p64
                     try clear c68
                     try clear c69
                     try clear c73
                     try clear c74
                     try clear c75
                     try clear c78
                     try clear c78b0
                     try clear c78b1
                     try clear c79
                     try clear c80
                     try clear c81
                     try clear c83
                     try clear c84
                     try clear c85
                     try clear hcz24_0
                     try clear hcz24_1
                     try clear hcz24_2
                     try clear hcz27_0
                     try clear hcz27_1
                     try clear hcz27_2
                     try clear hcz40_0
                     try clear hcz40_1
                     try clear hcz40_2
                     try clear hcz42_0
                     try clear hcz42_1
                     try clear hcz42_2
                     try clear hcz45_0
                     try clear hcz45_1
                     try clear hcz45_2
                     try clear hcz47_0
                     try clear hcz47_1
                     try clear hcz47_2
                     try clear hcz52_0
                     try clear hcz52_1
                     try clear hcz52_2
                     try clear hcz56_0
                     try clear hcz56_1
                     try clear hcz56_2
                     try clear hcz56_3
                     try clear hcz56_4
                     try clear hcz64_0
                     try clear hcz64_1
                     try clear hcz64_2
                     try clear hcz64_3
                     try clear hcz64_4
                     try clear hcz70_0
                     try clear hcz70_1
                     try clear hcz70_2
                     try clear hcz70_3
                     try clear hcz70_4
                     try clear hcz76_0
                     try clear hcz76_1
                     try clear hcz76_2
                     try clear hcz82_0
                     try clear hcz82_1
                     try clear hcz82_2
                     try clear hcz82_3
                     try clear hcz82_4
                     try clear hcz86_0
                     try clear hcz86_1
                     try clear hcz86_2
                     try clear hcz86_3
                     try clear hcz86_4
                     try clear hfz24_0
                     try clear hfz24_1
                     try clear hfz24_2
                     try clear hfz27_0
                     try clear hfz27_1
                     try clear hfz27_2
                     try clear hfz40_0
                     try clear hfz40_1
                     try clear hfz40_2
                     try clear hfz42_0
                     try clear hfz42_1
                     try clear hfz42_2
                     try clear hfz45_0
                     try clear hfz45_1
                     try clear hfz45_2
                     try clear hfz47_0
                     try clear hfz47_1
                     try clear hfz47_2
                     try clear hfz52_0
                     try clear hfz52_1
                     try clear hfz52_2
                     try clear hfz56_0
                     try clear hfz56_1
                     try clear hfz56_2
                     try clear hfz56_3
                     try clear hfz56_4
                     try clear hfz64_0
                     try clear hfz64_1
                     try clear hfz64_2
                     try clear hfz64_3
                     try clear hfz64_4
                     try clear hfz70_0
                     try clear hfz70_1
                     try clear hfz70_2
                     try clear hfz70_3
                     try clear hfz70_4
                     try clear hfz76_0
                     try clear hfz76_1
                     try clear hfz76_2
                     try clear hfz82_0
                     try clear hfz82_1
                     try clear hfz82_2
                     try clear hfz82_3
                     try clear hfz82_4
                     try clear hfz86_0
                     try clear hfz86_1
                     try clear hfz86_2
                     try clear hfz86_3
                     try clear hfz86_4
                     try clear hx145_0
                     try clear hx145_1
                     try clear hx145_2
                     try clear hx158_0
                     try clear hx158_1
                     try clear hx158_2
                     try clear hx158_3
                     try clear hx158_4
                     try clear hx160_0
                     try clear hx160_1
                     try clear hx160_2
                     try clear hx160_3
                     try clear hx160_4
                     try clear p1
                     try clear p14
                     try clear p145
                     try clear p15
                     try clear p158
                     try clear p160
                     try clear p2
                     try clear q1
                     try clear q14
                     try clear q145
                     try clear q15
                     try clear q158
                     try clear q160
                     try clear q3
                     try clear q30
                     obtain ⟨kq, x95_66, rfl, HA, HJ66, HO_158001, HO_168001, BK146, BK157, BK159, BK167, HB⟩ := hcut
                     cases kq with
                     | zero => exact absurd HA.out (by simp [hauberkref04_Check.j4])
                     | succ kj66 =>
                      have H := HA.out
                      clear HA
                      simp only [hauberkref04_Check.j4] at H
                      by_cases c87 : x95_66 = true
                      ·subst c87
                       have H1 : (some (((rd_T32 ((rd_T30 l0 x22_1).f1) x56_3).f2), 13)) = some (r1, r2) := by rw [if_pos rfl] at H; exact H
                       clear H
                       have H := H1
                       clear H1
                       simp only [Option.some.injEq, Prod.mk.injEq] at H
                       obtain ⟨rfl, rfl⟩ := H
                       have hnb88 := NB159_146.out
                       have hnc88 := NB146_159.out
                       have hnb89 := NB159_157.out
                       have hnc89 := NB157_159.out
                       have hnb90 := NB159_167.out
                       have hnc90 := NB167_159.out
                       have hcz91_0 : wc.cell? ⟨gb159, 0, none⟩ = some (.string ((rd_T32 ((rd_T30 l0 x22_1).f1) x56_3).f0)) := (blk_cell BK159.out 0).trans rfl
                       have hcz91_1 : wc.cell? ⟨gb159, 1, none⟩ = some (.int .i64 ((rd_T32 ((rd_T30 l0 x22_1).f1) x56_3).f1.f0)) := (blk_cell BK159.out 1).trans rfl
                       have hcz91_2 : wc.cell? ⟨gb159, 2, none⟩ = some (.int .i64 ((rd_T32 ((rd_T30 l0 x22_1).f1) x56_3).f1.f1)) := (blk_cell BK159.out 2).trans rfl
                       have hcz91_3 : wc.cell? ⟨gb159, 3, none⟩ = some (.string ((rd_T32 ((rd_T30 l0 x22_1).f1) x56_3).f1.f2)) := (blk_cell BK159.out 3).trans rfl
                       have hcz91_4 : wc.cell? ⟨gb159, 4, none⟩ = some (.int .i64 ((rd_T32 ((rd_T30 l0 x22_1).f1) x56_3).f2)) := (blk_cell BK159.out 4).trans rfl
                       have hfz91_0 := blk_frozen BK159.out 0
                       have hfz91_1 := blk_frozen BK159.out 1
                       have hfz91_2 := blk_frozen BK159.out 2
                       have hfz91_3 := blk_frozen BK159.out 3
                       have hfz91_4 := blk_frozen BK159.out 4
                       go_wp2
                       go_ret2
                       exact ⟨by first | rfl | (simp [errW_none, errW_some] <;> rfl) | (simp [*, errW_none, errW_some] <;> rfl), by repeat (first | (with_reducible first | exact HB.out | apply below_alloc | apply pw_below_drewN | apply below_drew1 | refine below_set ?_ GE146.out | refine below_set ?_ GE157.out | refine below_set ?_ GE159.out | refine below_set ?_ GE167.out) | exact HB.out)⟩
                      ·replace c87 := Bool.eq_false_iff.mpr c87
                       subst c87
                       have H1 : ((hauberkref04_Known.f kj66 l0 ((rd_T32 ((rd_T30 l0 x22_1).f1) x56_3).f1.f0) ((rd_T32 ((rd_T30 l0 x22_1).f1) x56_3).f1.f1) ((rd_T32 ((rd_T30 l0 x22_1).f1) x56_3).f1.f2)).bind fun t168 => (if t168 = true then ((hauberkref04_Small.f ((rd_T32 ((rd_T30 l0 x22_1).f1) x56_3).f1.f0) ((rd_T32 ((rd_T30 l0 x22_1).f1) x56_3).f1.f1) ((rd_T32 ((rd_T30 l0 x22_1).f1) x56_3).f1.f2)).bind fun t169 => (if t169 = 0 then (some (((rd_T32 ((rd_T30 l0 x22_1).f1) x56_3).f2), 14)) else (if ((rd_T32 ((rd_T30 l0 x22_1).f1) x56_3).f1.f0) = 0 then (some (((rd_T32 ((rd_T30 l0 x22_1).f1) x56_3).f2), 14)) else (hauberkref04_Check.l1 kj66 l0 (l0.length : Int) x22_1 (((rd_T30 l0 x22_1).f1).length : Int) (wrap64 (x56_3 + 1)) ((rd_T30 l0 x22_1).f0) ((rd_T30 l0 x22_1).f1) ((rd_T30 l0 x22_1).f2))))) else (some (((rd_T32 ((rd_T30 l0 x22_1).f1) x56_3).f2), 14)))) = some (r1, r2) := by rw [if_neg (show ¬ (false = true) by decide)] at H; exact H
                       clear H
                       have H := H1
                       clear H1
                       replace H := Option.bind_eq_some_iff.mp H
                       obtain ⟨t168, A920, H⟩ := H
                       replace H : (if t168 = true then ((hauberkref04_Small.f ((rd_T32 ((rd_T30 l0 x22_1).f1) x56_3).f1.f0) ((rd_T32 ((rd_T30 l0 x22_1).f1) x56_3).f1.f1) ((rd_T32 ((rd_T30 l0 x22_1).f1) x56_3).f1.f2)).bind fun t169 => (if t169 = 0 then (some (((rd_T32 ((rd_T30 l0 x22_1).f1) x56_3).f2), 14)) else (if ((rd_T32 ((rd_T30 l0 x22_1).f1) x56_3).f1.f0) = 0 then (some (((rd_T32 ((rd_T30 l0 x22_1).f1) x56_3).f2), 14)) else (hauberkref04_Check.l1 kj66 l0 (l0.length : Int) x22_1 (((rd_T30 l0 x22_1).f1).length : Int) (wrap64 (x56_3 + 1)) ((rd_T30 l0 x22_1).f0) ((rd_T30 l0 x22_1).f1) ((rd_T30 l0 x22_1).f2))))) else (some (((rd_T32 ((rd_T30 l0 x22_1).f1) x56_3).f2), 14))) = some (r1, r2) := H
                       have A92 := Aside0.mk A920
                       clear A920
                       by_cases c93 : t168 = true
                       ·subst c93
                        have H1 : ((hauberkref04_Small.f ((rd_T32 ((rd_T30 l0 x22_1).f1) x56_3).f1.f0) ((rd_T32 ((rd_T30 l0 x22_1).f1) x56_3).f1.f1) ((rd_T32 ((rd_T30 l0 x22_1).f1) x56_3).f1.f2)).bind fun t169 => (if t169 = 0 then (some (((rd_T32 ((rd_T30 l0 x22_1).f1) x56_3).f2), 14)) else (if ((rd_T32 ((rd_T30 l0 x22_1).f1) x56_3).f1.f0) = 0 then (some (((rd_T32 ((rd_T30 l0 x22_1).f1) x56_3).f2), 14)) else (hauberkref04_Check.l1 kj66 l0 (l0.length : Int) x22_1 (((rd_T30 l0 x22_1).f1).length : Int) (wrap64 (x56_3 + 1)) ((rd_T30 l0 x22_1).f0) ((rd_T30 l0 x22_1).f1) ((rd_T30 l0 x22_1).f2))))) = some (r1, r2) := by rw [if_pos rfl] at H; exact H
                        clear H
                        have H := H1
                        clear H1
                        replace H := Option.bind_eq_some_iff.mp H
                        obtain ⟨t169, A940, H⟩ := H
                        replace H : (if t169 = 0 then (some (((rd_T32 ((rd_T30 l0 x22_1).f1) x56_3).f2), 14)) else (if ((rd_T32 ((rd_T30 l0 x22_1).f1) x56_3).f1.f0) = 0 then (some (((rd_T32 ((rd_T30 l0 x22_1).f1) x56_3).f2), 14)) else (hauberkref04_Check.l1 kj66 l0 (l0.length : Int) x22_1 (((rd_T30 l0 x22_1).f1).length : Int) (wrap64 (x56_3 + 1)) ((rd_T30 l0 x22_1).f0) ((rd_T30 l0 x22_1).f1) ((rd_T30 l0 x22_1).f2)))) = some (r1, r2) := H
                        have A94 := Aside0.mk A940
                        clear A940
                        by_cases c95 : t169 = 0
                        ·rw [if_pos c95] at H
                         have c95b0 : (t169 == 0) = true := beq_iff_eq.mpr c95
                         have c95b1 : (t169 != 0) = false := bne_eq_false_iff_eq.mpr c95
                         clear c95
                         simp only [Option.some.injEq, Prod.mk.injEq] at H
                         obtain ⟨rfl, rfl⟩ := H
                         have hnb96 := NB159_146.out
                         have hnc96 := NB146_159.out
                         have hnb97 := NB159_157.out
                         have hnc97 := NB157_159.out
                         have hnb98 := NB159_167.out
                         have hnc98 := NB167_159.out
                         have hcz99_0 : wc.cell? ⟨gb159, 0, none⟩ = some (.string ((rd_T32 ((rd_T30 l0 x22_1).f1) x56_3).f0)) := (blk_cell BK159.out 0).trans rfl
                         have hcz99_1 : wc.cell? ⟨gb159, 1, none⟩ = some (.int .i64 ((rd_T32 ((rd_T30 l0 x22_1).f1) x56_3).f1.f0)) := (blk_cell BK159.out 1).trans rfl
                         have hcz99_2 : wc.cell? ⟨gb159, 2, none⟩ = some (.int .i64 ((rd_T32 ((rd_T30 l0 x22_1).f1) x56_3).f1.f1)) := (blk_cell BK159.out 2).trans rfl
                         have hcz99_3 : wc.cell? ⟨gb159, 3, none⟩ = some (.string ((rd_T32 ((rd_T30 l0 x22_1).f1) x56_3).f1.f2)) := (blk_cell BK159.out 3).trans rfl
                         have hcz99_4 : wc.cell? ⟨gb159, 4, none⟩ = some (.int .i64 ((rd_T32 ((rd_T30 l0 x22_1).f1) x56_3).f2)) := (blk_cell BK159.out 4).trans rfl
                         have hfz99_0 := blk_frozen BK159.out 0
                         have hfz99_1 := blk_frozen BK159.out 1
                         have hfz99_2 := blk_frozen BK159.out 2
                         have hfz99_3 := blk_frozen BK159.out 3
                         have hfz99_4 := blk_frozen BK159.out 4
                         go_wp2_with (first | ((with_reducible refine gate_callee (f := 29) rfl ?_); refine goesL_ (some 101) rfl rfl Try.func29 (by kernel_rfl) rfl #[.slice (some ad145) l0.length c0, .agg #[.int .i64 ((rd_T32 ((rd_T30 l0 x22_1).f1) x56_3).f1.f0), .int .i64 ((rd_T32 ((rd_T30 l0 x22_1).f1) x56_3).f1.f1), .string ((rd_T32 ((rd_T30 l0 x22_1).f1) x56_3).f1.f2)]] rfl (by (try simp only [List.map_toArray, List.map_cons, List.map_nil]); first | done | rfl | (simp only [List.length_drop, List.length_take]; rfl)) ?_; (with_reducible refine (hauberkref04_Known.calls kj66 _ _ l0 ((rd_T32 ((rd_T30 l0 x22_1).f1) x56_3).f1.f0) ((rd_T32 ((rd_T30 l0 x22_1).f1) x56_3).f1.f1) ((rd_T32 ((rd_T30 l0 x22_1).f1) x56_3).f1.f2) true _ ?side1 ?side2 A92.out).mono ?_); (case side1 => repeat (first | exact (Kd.C_below HR0.out HB.out) | (with_reducible refine Kd.C_alloc ?_ _) | (with_reducible refine Kd.C_drewN ?_ _) | (with_reducible refine Kd.C_drew ?_))); (case side2 => exact HC0.out); rintro e w100 ⟨rfl, hb⟩; refine ⟨_, rfl, ?_⟩; have n0_ := Aside0.mk (Kd.V_below (by (with_reducible repeat (first | apply Kd.V_alloc | apply Kd.V_drewN | apply Kd.V_drew)); exact HO_158001.out) hb); have n1_ := Aside0.mk (Kd.V_below (by (with_reducible repeat (first | apply Kd.V_alloc | apply Kd.V_drewN | apply Kd.V_drew)); exact HO_168001.out) hb); have n2_ := Aside0.mk (blk_below (g := gb146) (o := .cells #[.string ((rd_T30 l0 x22_1).f0), .slice (some ad158) ((rd_T30 l0 x22_1).f1).length c145_1, .int .i64 ((rd_T30 l0 x22_1).f2)] 30 (0, 0)) (by (with_reducible repeat (first | refine blk_drewN ?_ _ | refine blk_drew ?_ | refine blk_alloc ?_ _)); exact BK146.out) hb); have n3_ := Aside0.mk (blk_below (g := gb157) (o := .cells #[.string t151, .slice Ao35 t152.length co35, .int .i64 t155] 30 (0, 0)) (by (with_reducible repeat (first | refine blk_drewN ?_ _ | refine blk_drew ?_ | refine blk_alloc ?_ _)); exact BK157.out) hb); have n4_ := Aside0.mk (blk_below (g := gb159) (o := .cells #[.string ((rd_T32 ((rd_T30 l0 x22_1).f1) x56_3).f0), .int .i64 ((rd_T32 ((rd_T30 l0 x22_1).f1) x56_3).f1.f0), .int .i64 ((rd_T32 ((rd_T30 l0 x22_1).f1) x56_3).f1.f1), .string ((rd_T32 ((rd_T30 l0 x22_1).f1) x56_3).f1.f2), .int .i64 ((rd_T32 ((rd_T30 l0 x22_1).f1) x56_3).f2)] 32 (0, 0)) (by (with_reducible repeat (first | refine blk_drewN ?_ _ | refine blk_drew ?_ | refine blk_alloc ?_ _)); exact BK159.out) hb); have n5_ := Aside0.mk (blk_below (g := gb167) (o := .cells #[.string t161, .slice Ao77 t162.length co77, .int .i64 t165] 30 (0, 0)) (by (with_reducible repeat (first | refine blk_drewN ?_ _ | refine blk_drew ?_ | refine blk_alloc ?_ _)); exact BK167.out) hb); have n6_ := Aside0.mk (below_step (by repeat (first | (with_reducible first | exact HB.out | apply below_alloc | apply pw_below_drewN | apply below_drew1 | refine below_set ?_ GE146.out | refine below_set ?_ GE157.out | refine below_set ?_ GE159.out | refine below_set ?_ GE167.out) | exact HB.out)) hb); clear HO_158001; clear HO_168001; clear BK146; clear BK157; clear BK159; clear BK167; clear HB; have HO_158001 := n0_; have HO_168001 := n1_; have BK146 := n2_; have BK157 := n3_; have BK159 := n4_; have BK167 := n5_; have HB := n6_; clear n0_ n1_ n2_ n3_ n4_ n5_ n6_; (try clear hb); (try clear hb2); (try clear hk); (try clear hi); have hcz101_0 : w100.cell? ⟨gb159, 0, none⟩ = some (.string ((rd_T32 ((rd_T30 l0 x22_1).f1) x56_3).f0)) := (blk_cell BK159.out 0).trans rfl; have hcz101_1 : w100.cell? ⟨gb159, 1, none⟩ = some (.int .i64 ((rd_T32 ((rd_T30 l0 x22_1).f1) x56_3).f1.f0)) := (blk_cell BK159.out 1).trans rfl; have hcz101_2 : w100.cell? ⟨gb159, 2, none⟩ = some (.int .i64 ((rd_T32 ((rd_T30 l0 x22_1).f1) x56_3).f1.f1)) := (blk_cell BK159.out 2).trans rfl; have hcz101_3 : w100.cell? ⟨gb159, 3, none⟩ = some (.string ((rd_T32 ((rd_T30 l0 x22_1).f1) x56_3).f1.f2)) := (blk_cell BK159.out 3).trans rfl; have hcz101_4 : w100.cell? ⟨gb159, 4, none⟩ = some (.int .i64 ((rd_T32 ((rd_T30 l0 x22_1).f1) x56_3).f2)) := (blk_cell BK159.out 4).trans rfl; have hfz101_0 := blk_frozen BK159.out 0; have hfz101_1 := blk_frozen BK159.out 1; have hfz101_2 := blk_frozen BK159.out 2; have hfz101_3 := blk_frozen BK159.out 3; have hfz101_4 := blk_frozen BK159.out 4) | (go_at_call 23; (with_reducible refine (hauberkref04_Small.calls ((rd_T32 ((rd_T30 l0 x22_1).f1) x56_3).f1.f0) ((rd_T32 ((rd_T30 l0 x22_1).f1) x56_3).f1.f1) ((rd_T32 ((rd_T30 l0 x22_1).f1) x56_3).f1.f2) t169 _ A94.out).mono ?_); rintro e w102 ⟨rfl, hb⟩; have n0_ := Aside0.mk (Kd.V_below (by (with_reducible repeat (first | apply Kd.V_alloc | apply Kd.V_drewN | apply Kd.V_drew)); exact HO_158001.out) hb); have n1_ := Aside0.mk (Kd.V_below (by (with_reducible repeat (first | apply Kd.V_alloc | apply Kd.V_drewN | apply Kd.V_drew)); exact HO_168001.out) hb); have n2_ := Aside0.mk (blk_below (g := gb146) (o := .cells #[.string ((rd_T30 l0 x22_1).f0), .slice (some ad158) ((rd_T30 l0 x22_1).f1).length c145_1, .int .i64 ((rd_T30 l0 x22_1).f2)] 30 (0, 0)) (by (with_reducible repeat (first | refine blk_drewN ?_ _ | refine blk_drew ?_ | refine blk_alloc ?_ _)); exact BK146.out) hb); have n3_ := Aside0.mk (blk_below (g := gb157) (o := .cells #[.string t151, .slice Ao35 t152.length co35, .int .i64 t155] 30 (0, 0)) (by (with_reducible repeat (first | refine blk_drewN ?_ _ | refine blk_drew ?_ | refine blk_alloc ?_ _)); exact BK157.out) hb); have n4_ := Aside0.mk (blk_below (g := gb159) (o := .cells #[.string ((rd_T32 ((rd_T30 l0 x22_1).f1) x56_3).f0), .int .i64 ((rd_T32 ((rd_T30 l0 x22_1).f1) x56_3).f1.f0), .int .i64 ((rd_T32 ((rd_T30 l0 x22_1).f1) x56_3).f1.f1), .string ((rd_T32 ((rd_T30 l0 x22_1).f1) x56_3).f1.f2), .int .i64 ((rd_T32 ((rd_T30 l0 x22_1).f1) x56_3).f2)] 32 (0, 0)) (by (with_reducible repeat (first | refine blk_drewN ?_ _ | refine blk_drew ?_ | refine blk_alloc ?_ _)); exact BK159.out) hb); have n5_ := Aside0.mk (blk_below (g := gb167) (o := .cells #[.string t161, .slice Ao77 t162.length co77, .int .i64 t165] 30 (0, 0)) (by (with_reducible repeat (first | refine blk_drewN ?_ _ | refine blk_drew ?_ | refine blk_alloc ?_ _)); exact BK167.out) hb); have n6_ := Aside0.mk (below_step (by repeat (first | (with_reducible first | exact HB.out | apply below_alloc | apply pw_below_drewN | apply below_drew1 | refine below_set ?_ GE146.out | refine below_set ?_ GE157.out | refine below_set ?_ GE159.out | refine below_set ?_ GE167.out) | exact HB.out)) hb); clear HO_158001; clear HO_168001; clear BK146; clear BK157; clear BK159; clear BK167; clear HB; have HO_158001 := n0_; have HO_168001 := n1_; have BK146 := n2_; have BK157 := n3_; have BK159 := n4_; have BK167 := n5_; have HB := n6_; clear n0_ n1_ n2_ n3_ n4_ n5_ n6_; (try clear hb); (try clear hb2); (try clear hk); (try clear hi); have hcz103_0 : w102.cell? ⟨gb159, 0, none⟩ = some (.string ((rd_T32 ((rd_T30 l0 x22_1).f1) x56_3).f0)) := (blk_cell BK159.out 0).trans rfl; have hcz103_1 : w102.cell? ⟨gb159, 1, none⟩ = some (.int .i64 ((rd_T32 ((rd_T30 l0 x22_1).f1) x56_3).f1.f0)) := (blk_cell BK159.out 1).trans rfl; have hcz103_2 : w102.cell? ⟨gb159, 2, none⟩ = some (.int .i64 ((rd_T32 ((rd_T30 l0 x22_1).f1) x56_3).f1.f1)) := (blk_cell BK159.out 2).trans rfl; have hcz103_3 : w102.cell? ⟨gb159, 3, none⟩ = some (.string ((rd_T32 ((rd_T30 l0 x22_1).f1) x56_3).f1.f2)) := (blk_cell BK159.out 3).trans rfl; have hcz103_4 : w102.cell? ⟨gb159, 4, none⟩ = some (.int .i64 ((rd_T32 ((rd_T30 l0 x22_1).f1) x56_3).f2)) := (blk_cell BK159.out 4).trans rfl; have hfz103_0 := blk_frozen BK159.out 0; have hfz103_1 := blk_frozen BK159.out 1; have hfz103_2 := blk_frozen BK159.out 2; have hfz103_3 := blk_frozen BK159.out 3; have hfz103_4 := blk_frozen BK159.out 4))
                         go_ret2
                         exact ⟨by first | rfl | (simp [errW_none, errW_some] <;> rfl) | (simp [*, errW_none, errW_some] <;> rfl), by repeat (first | (with_reducible first | exact HB.out | apply below_alloc | apply pw_below_drewN | apply below_drew1 | refine below_set ?_ GE146.out | refine below_set ?_ GE157.out | refine below_set ?_ GE159.out | refine below_set ?_ GE167.out) | exact HB.out)⟩
                        ·rw [if_neg c95] at H
                         have c95b0 : (t169 == 0) = false := beq_eq_false_iff_ne.mpr c95
                         have c95b1 : (t169 != 0) = true := bne_iff_ne.mpr c95
                         by_cases c104 : ((rd_T32 ((rd_T30 l0 x22_1).f1) x56_3).f1.f0) = 0
                         ·rw [if_pos c104] at H
                          have c104b0 : (((rd_T32 ((rd_T30 l0 x22_1).f1) x56_3).f1.f0) == 0) = true := beq_iff_eq.mpr c104
                          have c104b1 : (((rd_T32 ((rd_T30 l0 x22_1).f1) x56_3).f1.f0) != 0) = false := bne_eq_false_iff_eq.mpr c104
                          clear c104
                          simp only [Option.some.injEq, Prod.mk.injEq] at H
                          obtain ⟨rfl, rfl⟩ := H
                          have hnb105 := NB159_146.out
                          have hnc105 := NB146_159.out
                          have hnb106 := NB159_157.out
                          have hnc106 := NB157_159.out
                          have hnb107 := NB159_167.out
                          have hnc107 := NB167_159.out
                          have hcz108_0 : wc.cell? ⟨gb159, 0, none⟩ = some (.string ((rd_T32 ((rd_T30 l0 x22_1).f1) x56_3).f0)) := (blk_cell BK159.out 0).trans rfl
                          have hcz108_1 : wc.cell? ⟨gb159, 1, none⟩ = some (.int .i64 ((rd_T32 ((rd_T30 l0 x22_1).f1) x56_3).f1.f0)) := (blk_cell BK159.out 1).trans rfl
                          have hcz108_2 : wc.cell? ⟨gb159, 2, none⟩ = some (.int .i64 ((rd_T32 ((rd_T30 l0 x22_1).f1) x56_3).f1.f1)) := (blk_cell BK159.out 2).trans rfl
                          have hcz108_3 : wc.cell? ⟨gb159, 3, none⟩ = some (.string ((rd_T32 ((rd_T30 l0 x22_1).f1) x56_3).f1.f2)) := (blk_cell BK159.out 3).trans rfl
                          have hcz108_4 : wc.cell? ⟨gb159, 4, none⟩ = some (.int .i64 ((rd_T32 ((rd_T30 l0 x22_1).f1) x56_3).f2)) := (blk_cell BK159.out 4).trans rfl
                          have hfz108_0 := blk_frozen BK159.out 0
                          have hfz108_1 := blk_frozen BK159.out 1
                          have hfz108_2 := blk_frozen BK159.out 2
                          have hfz108_3 := blk_frozen BK159.out 3
                          have hfz108_4 := blk_frozen BK159.out 4
                          go_wp2_with (first | ((with_reducible refine gate_callee (f := 29) rfl ?_); refine goesL_ (some 101) rfl rfl Try.func29 (by kernel_rfl) rfl #[.slice (some ad145) l0.length c0, .agg #[.int .i64 ((rd_T32 ((rd_T30 l0 x22_1).f1) x56_3).f1.f0), .int .i64 ((rd_T32 ((rd_T30 l0 x22_1).f1) x56_3).f1.f1), .string ((rd_T32 ((rd_T30 l0 x22_1).f1) x56_3).f1.f2)]] rfl (by (try simp only [List.map_toArray, List.map_cons, List.map_nil]); first | done | rfl | (simp only [List.length_drop, List.length_take]; rfl)) ?_; (with_reducible refine (hauberkref04_Known.calls kj66 _ _ l0 ((rd_T32 ((rd_T30 l0 x22_1).f1) x56_3).f1.f0) ((rd_T32 ((rd_T30 l0 x22_1).f1) x56_3).f1.f1) ((rd_T32 ((rd_T30 l0 x22_1).f1) x56_3).f1.f2) true _ ?side1 ?side2 A92.out).mono ?_); (case side1 => repeat (first | exact (Kd.C_below HR0.out HB.out) | (with_reducible refine Kd.C_alloc ?_ _) | (with_reducible refine Kd.C_drewN ?_ _) | (with_reducible refine Kd.C_drew ?_))); (case side2 => exact HC0.out); rintro e w109 ⟨rfl, hb⟩; refine ⟨_, rfl, ?_⟩; have n0_ := Aside0.mk (Kd.V_below (by (with_reducible repeat (first | apply Kd.V_alloc | apply Kd.V_drewN | apply Kd.V_drew)); exact HO_158001.out) hb); have n1_ := Aside0.mk (Kd.V_below (by (with_reducible repeat (first | apply Kd.V_alloc | apply Kd.V_drewN | apply Kd.V_drew)); exact HO_168001.out) hb); have n2_ := Aside0.mk (blk_below (g := gb146) (o := .cells #[.string ((rd_T30 l0 x22_1).f0), .slice (some ad158) ((rd_T30 l0 x22_1).f1).length c145_1, .int .i64 ((rd_T30 l0 x22_1).f2)] 30 (0, 0)) (by (with_reducible repeat (first | refine blk_drewN ?_ _ | refine blk_drew ?_ | refine blk_alloc ?_ _)); exact BK146.out) hb); have n3_ := Aside0.mk (blk_below (g := gb157) (o := .cells #[.string t151, .slice Ao35 t152.length co35, .int .i64 t155] 30 (0, 0)) (by (with_reducible repeat (first | refine blk_drewN ?_ _ | refine blk_drew ?_ | refine blk_alloc ?_ _)); exact BK157.out) hb); have n4_ := Aside0.mk (blk_below (g := gb159) (o := .cells #[.string ((rd_T32 ((rd_T30 l0 x22_1).f1) x56_3).f0), .int .i64 ((rd_T32 ((rd_T30 l0 x22_1).f1) x56_3).f1.f0), .int .i64 ((rd_T32 ((rd_T30 l0 x22_1).f1) x56_3).f1.f1), .string ((rd_T32 ((rd_T30 l0 x22_1).f1) x56_3).f1.f2), .int .i64 ((rd_T32 ((rd_T30 l0 x22_1).f1) x56_3).f2)] 32 (0, 0)) (by (with_reducible repeat (first | refine blk_drewN ?_ _ | refine blk_drew ?_ | refine blk_alloc ?_ _)); exact BK159.out) hb); have n5_ := Aside0.mk (blk_below (g := gb167) (o := .cells #[.string t161, .slice Ao77 t162.length co77, .int .i64 t165] 30 (0, 0)) (by (with_reducible repeat (first | refine blk_drewN ?_ _ | refine blk_drew ?_ | refine blk_alloc ?_ _)); exact BK167.out) hb); have n6_ := Aside0.mk (below_step (by repeat (first | (with_reducible first | exact HB.out | apply below_alloc | apply pw_below_drewN | apply below_drew1 | refine below_set ?_ GE146.out | refine below_set ?_ GE157.out | refine below_set ?_ GE159.out | refine below_set ?_ GE167.out) | exact HB.out)) hb); clear HO_158001; clear HO_168001; clear BK146; clear BK157; clear BK159; clear BK167; clear HB; have HO_158001 := n0_; have HO_168001 := n1_; have BK146 := n2_; have BK157 := n3_; have BK159 := n4_; have BK167 := n5_; have HB := n6_; clear n0_ n1_ n2_ n3_ n4_ n5_ n6_; (try clear hb); (try clear hb2); (try clear hk); (try clear hi); have hcz110_0 : w109.cell? ⟨gb159, 0, none⟩ = some (.string ((rd_T32 ((rd_T30 l0 x22_1).f1) x56_3).f0)) := (blk_cell BK159.out 0).trans rfl; have hcz110_1 : w109.cell? ⟨gb159, 1, none⟩ = some (.int .i64 ((rd_T32 ((rd_T30 l0 x22_1).f1) x56_3).f1.f0)) := (blk_cell BK159.out 1).trans rfl; have hcz110_2 : w109.cell? ⟨gb159, 2, none⟩ = some (.int .i64 ((rd_T32 ((rd_T30 l0 x22_1).f1) x56_3).f1.f1)) := (blk_cell BK159.out 2).trans rfl; have hcz110_3 : w109.cell? ⟨gb159, 3, none⟩ = some (.string ((rd_T32 ((rd_T30 l0 x22_1).f1) x56_3).f1.f2)) := (blk_cell BK159.out 3).trans rfl; have hcz110_4 : w109.cell? ⟨gb159, 4, none⟩ = some (.int .i64 ((rd_T32 ((rd_T30 l0 x22_1).f1) x56_3).f2)) := (blk_cell BK159.out 4).trans rfl; have hfz110_0 := blk_frozen BK159.out 0; have hfz110_1 := blk_frozen BK159.out 1; have hfz110_2 := blk_frozen BK159.out 2; have hfz110_3 := blk_frozen BK159.out 3; have hfz110_4 := blk_frozen BK159.out 4) | (go_at_call 23; (with_reducible refine (hauberkref04_Small.calls ((rd_T32 ((rd_T30 l0 x22_1).f1) x56_3).f1.f0) ((rd_T32 ((rd_T30 l0 x22_1).f1) x56_3).f1.f1) ((rd_T32 ((rd_T30 l0 x22_1).f1) x56_3).f1.f2) t169 _ A94.out).mono ?_); rintro e w111 ⟨rfl, hb⟩; have n0_ := Aside0.mk (Kd.V_below (by (with_reducible repeat (first | apply Kd.V_alloc | apply Kd.V_drewN | apply Kd.V_drew)); exact HO_158001.out) hb); have n1_ := Aside0.mk (Kd.V_below (by (with_reducible repeat (first | apply Kd.V_alloc | apply Kd.V_drewN | apply Kd.V_drew)); exact HO_168001.out) hb); have n2_ := Aside0.mk (blk_below (g := gb146) (o := .cells #[.string ((rd_T30 l0 x22_1).f0), .slice (some ad158) ((rd_T30 l0 x22_1).f1).length c145_1, .int .i64 ((rd_T30 l0 x22_1).f2)] 30 (0, 0)) (by (with_reducible repeat (first | refine blk_drewN ?_ _ | refine blk_drew ?_ | refine blk_alloc ?_ _)); exact BK146.out) hb); have n3_ := Aside0.mk (blk_below (g := gb157) (o := .cells #[.string t151, .slice Ao35 t152.length co35, .int .i64 t155] 30 (0, 0)) (by (with_reducible repeat (first | refine blk_drewN ?_ _ | refine blk_drew ?_ | refine blk_alloc ?_ _)); exact BK157.out) hb); have n4_ := Aside0.mk (blk_below (g := gb159) (o := .cells #[.string ((rd_T32 ((rd_T30 l0 x22_1).f1) x56_3).f0), .int .i64 ((rd_T32 ((rd_T30 l0 x22_1).f1) x56_3).f1.f0), .int .i64 ((rd_T32 ((rd_T30 l0 x22_1).f1) x56_3).f1.f1), .string ((rd_T32 ((rd_T30 l0 x22_1).f1) x56_3).f1.f2), .int .i64 ((rd_T32 ((rd_T30 l0 x22_1).f1) x56_3).f2)] 32 (0, 0)) (by (with_reducible repeat (first | refine blk_drewN ?_ _ | refine blk_drew ?_ | refine blk_alloc ?_ _)); exact BK159.out) hb); have n5_ := Aside0.mk (blk_below (g := gb167) (o := .cells #[.string t161, .slice Ao77 t162.length co77, .int .i64 t165] 30 (0, 0)) (by (with_reducible repeat (first | refine blk_drewN ?_ _ | refine blk_drew ?_ | refine blk_alloc ?_ _)); exact BK167.out) hb); have n6_ := Aside0.mk (below_step (by repeat (first | (with_reducible first | exact HB.out | apply below_alloc | apply pw_below_drewN | apply below_drew1 | refine below_set ?_ GE146.out | refine below_set ?_ GE157.out | refine below_set ?_ GE159.out | refine below_set ?_ GE167.out) | exact HB.out)) hb); clear HO_158001; clear HO_168001; clear BK146; clear BK157; clear BK159; clear BK167; clear HB; have HO_158001 := n0_; have HO_168001 := n1_; have BK146 := n2_; have BK157 := n3_; have BK159 := n4_; have BK167 := n5_; have HB := n6_; clear n0_ n1_ n2_ n3_ n4_ n5_ n6_; (try clear hb); (try clear hb2); (try clear hk); (try clear hi); have hcz112_0 : w111.cell? ⟨gb159, 0, none⟩ = some (.string ((rd_T32 ((rd_T30 l0 x22_1).f1) x56_3).f0)) := (blk_cell BK159.out 0).trans rfl; have hcz112_1 : w111.cell? ⟨gb159, 1, none⟩ = some (.int .i64 ((rd_T32 ((rd_T30 l0 x22_1).f1) x56_3).f1.f0)) := (blk_cell BK159.out 1).trans rfl; have hcz112_2 : w111.cell? ⟨gb159, 2, none⟩ = some (.int .i64 ((rd_T32 ((rd_T30 l0 x22_1).f1) x56_3).f1.f1)) := (blk_cell BK159.out 2).trans rfl; have hcz112_3 : w111.cell? ⟨gb159, 3, none⟩ = some (.string ((rd_T32 ((rd_T30 l0 x22_1).f1) x56_3).f1.f2)) := (blk_cell BK159.out 3).trans rfl; have hcz112_4 : w111.cell? ⟨gb159, 4, none⟩ = some (.int .i64 ((rd_T32 ((rd_T30 l0 x22_1).f1) x56_3).f2)) := (blk_cell BK159.out 4).trans rfl; have hfz112_0 := blk_frozen BK159.out 0; have hfz112_1 := blk_frozen BK159.out 1; have hfz112_2 := blk_frozen BK159.out 2; have hfz112_3 := blk_frozen BK159.out 3; have hfz112_4 := blk_frozen BK159.out 4))
                          go_ret2
                          exact ⟨by first | rfl | (simp [errW_none, errW_some] <;> rfl) | (simp [*, errW_none, errW_some] <;> rfl), by repeat (first | (with_reducible first | exact HB.out | apply below_alloc | apply pw_below_drewN | apply below_drew1 | refine below_set ?_ GE146.out | refine below_set ?_ GE157.out | refine below_set ?_ GE159.out | refine below_set ?_ GE167.out) | exact HB.out)⟩
                         ·rw [if_neg c104] at H
                          have c104b0 : (((rd_T32 ((rd_T30 l0 x22_1).f1) x56_3).f1.f0) == 0) = false := beq_eq_false_iff_ne.mpr c104
                          have c104b1 : (((rd_T32 ((rd_T30 l0 x22_1).f1) x56_3).f1.f0) != 0) = true := bne_iff_ne.mpr c104
                          have H' := Aside0.mk H
                          clear H
                          have hnb113 := NB159_146.out
                          have hnc113 := NB146_159.out
                          have hnb114 := NB159_157.out
                          have hnc114 := NB157_159.out
                          have hnb115 := NB159_167.out
                          have hnc115 := NB167_159.out
                          have hcz116_0 : wc.cell? ⟨gb159, 0, none⟩ = some (.string ((rd_T32 ((rd_T30 l0 x22_1).f1) x56_3).f0)) := (blk_cell BK159.out 0).trans rfl
                          have hcz116_1 : wc.cell? ⟨gb159, 1, none⟩ = some (.int .i64 ((rd_T32 ((rd_T30 l0 x22_1).f1) x56_3).f1.f0)) := (blk_cell BK159.out 1).trans rfl
                          have hcz116_2 : wc.cell? ⟨gb159, 2, none⟩ = some (.int .i64 ((rd_T32 ((rd_T30 l0 x22_1).f1) x56_3).f1.f1)) := (blk_cell BK159.out 2).trans rfl
                          have hcz116_3 : wc.cell? ⟨gb159, 3, none⟩ = some (.string ((rd_T32 ((rd_T30 l0 x22_1).f1) x56_3).f1.f2)) := (blk_cell BK159.out 3).trans rfl
                          have hcz116_4 : wc.cell? ⟨gb159, 4, none⟩ = some (.int .i64 ((rd_T32 ((rd_T30 l0 x22_1).f1) x56_3).f2)) := (blk_cell BK159.out 4).trans rfl
                          have hfz116_0 := blk_frozen BK159.out 0
                          have hfz116_1 := blk_frozen BK159.out 1
                          have hfz116_2 := blk_frozen BK159.out 2
                          have hfz116_3 := blk_frozen BK159.out 3
                          have hfz116_4 := blk_frozen BK159.out 4
                          go_wp2_with (first | ((with_reducible refine gate_callee (f := 29) rfl ?_); refine goesL_ (some 101) rfl rfl Try.func29 (by kernel_rfl) rfl #[.slice (some ad145) l0.length c0, .agg #[.int .i64 ((rd_T32 ((rd_T30 l0 x22_1).f1) x56_3).f1.f0), .int .i64 ((rd_T32 ((rd_T30 l0 x22_1).f1) x56_3).f1.f1), .string ((rd_T32 ((rd_T30 l0 x22_1).f1) x56_3).f1.f2)]] rfl (by (try simp only [List.map_toArray, List.map_cons, List.map_nil]); first | done | rfl | (simp only [List.length_drop, List.length_take]; rfl)) ?_; (with_reducible refine (hauberkref04_Known.calls kj66 _ _ l0 ((rd_T32 ((rd_T30 l0 x22_1).f1) x56_3).f1.f0) ((rd_T32 ((rd_T30 l0 x22_1).f1) x56_3).f1.f1) ((rd_T32 ((rd_T30 l0 x22_1).f1) x56_3).f1.f2) true _ ?side1 ?side2 A92.out).mono ?_); (case side1 => repeat (first | exact (Kd.C_below HR0.out HB.out) | (with_reducible refine Kd.C_alloc ?_ _) | (with_reducible refine Kd.C_drewN ?_ _) | (with_reducible refine Kd.C_drew ?_))); (case side2 => exact HC0.out); rintro e w117 ⟨rfl, hb⟩; refine ⟨_, rfl, ?_⟩; have n0_ := Aside0.mk (Kd.V_below (by (with_reducible repeat (first | apply Kd.V_alloc | apply Kd.V_drewN | apply Kd.V_drew)); exact HO_158001.out) hb); have n1_ := Aside0.mk (Kd.V_below (by (with_reducible repeat (first | apply Kd.V_alloc | apply Kd.V_drewN | apply Kd.V_drew)); exact HO_168001.out) hb); have n2_ := Aside0.mk (blk_below (g := gb146) (o := .cells #[.string ((rd_T30 l0 x22_1).f0), .slice (some ad158) ((rd_T30 l0 x22_1).f1).length c145_1, .int .i64 ((rd_T30 l0 x22_1).f2)] 30 (0, 0)) (by (with_reducible repeat (first | refine blk_drewN ?_ _ | refine blk_drew ?_ | refine blk_alloc ?_ _)); exact BK146.out) hb); have n3_ := Aside0.mk (blk_below (g := gb157) (o := .cells #[.string t151, .slice Ao35 t152.length co35, .int .i64 t155] 30 (0, 0)) (by (with_reducible repeat (first | refine blk_drewN ?_ _ | refine blk_drew ?_ | refine blk_alloc ?_ _)); exact BK157.out) hb); have n4_ := Aside0.mk (blk_below (g := gb159) (o := .cells #[.string ((rd_T32 ((rd_T30 l0 x22_1).f1) x56_3).f0), .int .i64 ((rd_T32 ((rd_T30 l0 x22_1).f1) x56_3).f1.f0), .int .i64 ((rd_T32 ((rd_T30 l0 x22_1).f1) x56_3).f1.f1), .string ((rd_T32 ((rd_T30 l0 x22_1).f1) x56_3).f1.f2), .int .i64 ((rd_T32 ((rd_T30 l0 x22_1).f1) x56_3).f2)] 32 (0, 0)) (by (with_reducible repeat (first | refine blk_drewN ?_ _ | refine blk_drew ?_ | refine blk_alloc ?_ _)); exact BK159.out) hb); have n5_ := Aside0.mk (blk_below (g := gb167) (o := .cells #[.string t161, .slice Ao77 t162.length co77, .int .i64 t165] 30 (0, 0)) (by (with_reducible repeat (first | refine blk_drewN ?_ _ | refine blk_drew ?_ | refine blk_alloc ?_ _)); exact BK167.out) hb); have n6_ := Aside0.mk (below_step (by repeat (first | (with_reducible first | exact HB.out | apply below_alloc | apply pw_below_drewN | apply below_drew1 | refine below_set ?_ GE146.out | refine below_set ?_ GE157.out | refine below_set ?_ GE159.out | refine below_set ?_ GE167.out) | exact HB.out)) hb); clear HO_158001; clear HO_168001; clear BK146; clear BK157; clear BK159; clear BK167; clear HB; have HO_158001 := n0_; have HO_168001 := n1_; have BK146 := n2_; have BK157 := n3_; have BK159 := n4_; have BK167 := n5_; have HB := n6_; clear n0_ n1_ n2_ n3_ n4_ n5_ n6_; (try clear hb); (try clear hb2); (try clear hk); (try clear hi); have hcz118_0 : w117.cell? ⟨gb159, 0, none⟩ = some (.string ((rd_T32 ((rd_T30 l0 x22_1).f1) x56_3).f0)) := (blk_cell BK159.out 0).trans rfl; have hcz118_1 : w117.cell? ⟨gb159, 1, none⟩ = some (.int .i64 ((rd_T32 ((rd_T30 l0 x22_1).f1) x56_3).f1.f0)) := (blk_cell BK159.out 1).trans rfl; have hcz118_2 : w117.cell? ⟨gb159, 2, none⟩ = some (.int .i64 ((rd_T32 ((rd_T30 l0 x22_1).f1) x56_3).f1.f1)) := (blk_cell BK159.out 2).trans rfl; have hcz118_3 : w117.cell? ⟨gb159, 3, none⟩ = some (.string ((rd_T32 ((rd_T30 l0 x22_1).f1) x56_3).f1.f2)) := (blk_cell BK159.out 3).trans rfl; have hcz118_4 : w117.cell? ⟨gb159, 4, none⟩ = some (.int .i64 ((rd_T32 ((rd_T30 l0 x22_1).f1) x56_3).f2)) := (blk_cell BK159.out 4).trans rfl; have hfz118_0 := blk_frozen BK159.out 0; have hfz118_1 := blk_frozen BK159.out 1; have hfz118_2 := blk_frozen BK159.out 2; have hfz118_3 := blk_frozen BK159.out 3; have hfz118_4 := blk_frozen BK159.out 4) | (go_at_call 23; (with_reducible refine (hauberkref04_Small.calls ((rd_T32 ((rd_T30 l0 x22_1).f1) x56_3).f1.f0) ((rd_T32 ((rd_T30 l0 x22_1).f1) x56_3).f1.f1) ((rd_T32 ((rd_T30 l0 x22_1).f1) x56_3).f1.f2) t169 _ A94.out).mono ?_); rintro e w119 ⟨rfl, hb⟩; have n0_ := Aside0.mk (Kd.V_below (by (with_reducible repeat (first | apply Kd.V_alloc | apply Kd.V_drewN | apply Kd.V_drew)); exact HO_158001.out) hb); have n1_ := Aside0.mk (Kd.V_below (by (with_reducible repeat (first | apply Kd.V_alloc | apply Kd.V_drewN | apply Kd.V_drew)); exact HO_168001.out) hb); have n2_ := Aside0.mk (blk_below (g := gb146) (o := .cells #[.string ((rd_T30 l0 x22_1).f0), .slice (some ad158) ((rd_T30 l0 x22_1).f1).length c145_1, .int .i64 ((rd_T30 l0 x22_1).f2)] 30 (0, 0)) (by (with_reducible repeat (first | refine blk_drewN ?_ _ | refine blk_drew ?_ | refine blk_alloc ?_ _)); exact BK146.out) hb); have n3_ := Aside0.mk (blk_below (g := gb157) (o := .cells #[.string t151, .slice Ao35 t152.length co35, .int .i64 t155] 30 (0, 0)) (by (with_reducible repeat (first | refine blk_drewN ?_ _ | refine blk_drew ?_ | refine blk_alloc ?_ _)); exact BK157.out) hb); have n4_ := Aside0.mk (blk_below (g := gb159) (o := .cells #[.string ((rd_T32 ((rd_T30 l0 x22_1).f1) x56_3).f0), .int .i64 ((rd_T32 ((rd_T30 l0 x22_1).f1) x56_3).f1.f0), .int .i64 ((rd_T32 ((rd_T30 l0 x22_1).f1) x56_3).f1.f1), .string ((rd_T32 ((rd_T30 l0 x22_1).f1) x56_3).f1.f2), .int .i64 ((rd_T32 ((rd_T30 l0 x22_1).f1) x56_3).f2)] 32 (0, 0)) (by (with_reducible repeat (first | refine blk_drewN ?_ _ | refine blk_drew ?_ | refine blk_alloc ?_ _)); exact BK159.out) hb); have n5_ := Aside0.mk (blk_below (g := gb167) (o := .cells #[.string t161, .slice Ao77 t162.length co77, .int .i64 t165] 30 (0, 0)) (by (with_reducible repeat (first | refine blk_drewN ?_ _ | refine blk_drew ?_ | refine blk_alloc ?_ _)); exact BK167.out) hb); have n6_ := Aside0.mk (below_step (by repeat (first | (with_reducible first | exact HB.out | apply below_alloc | apply pw_below_drewN | apply below_drew1 | refine below_set ?_ GE146.out | refine below_set ?_ GE157.out | refine below_set ?_ GE159.out | refine below_set ?_ GE167.out) | exact HB.out)) hb); clear HO_158001; clear HO_168001; clear BK146; clear BK157; clear BK159; clear BK167; clear HB; have HO_158001 := n0_; have HO_168001 := n1_; have BK146 := n2_; have BK157 := n3_; have BK159 := n4_; have BK167 := n5_; have HB := n6_; clear n0_ n1_ n2_ n3_ n4_ n5_ n6_; (try clear hb); (try clear hb2); (try clear hk); (try clear hi); have hcz120_0 : w119.cell? ⟨gb159, 0, none⟩ = some (.string ((rd_T32 ((rd_T30 l0 x22_1).f1) x56_3).f0)) := (blk_cell BK159.out 0).trans rfl; have hcz120_1 : w119.cell? ⟨gb159, 1, none⟩ = some (.int .i64 ((rd_T32 ((rd_T30 l0 x22_1).f1) x56_3).f1.f0)) := (blk_cell BK159.out 1).trans rfl; have hcz120_2 : w119.cell? ⟨gb159, 2, none⟩ = some (.int .i64 ((rd_T32 ((rd_T30 l0 x22_1).f1) x56_3).f1.f1)) := (blk_cell BK159.out 2).trans rfl; have hcz120_3 : w119.cell? ⟨gb159, 3, none⟩ = some (.string ((rd_T32 ((rd_T30 l0 x22_1).f1) x56_3).f1.f2)) := (blk_cell BK159.out 3).trans rfl; have hcz120_4 : w119.cell? ⟨gb159, 4, none⟩ = some (.int .i64 ((rd_T32 ((rd_T30 l0 x22_1).f1) x56_3).f2)) := (blk_cell BK159.out 4).trans rfl; have hfz120_0 := blk_frozen BK159.out 0; have hfz120_1 := blk_frozen BK159.out 1; have hfz120_2 := blk_frozen BK159.out 2; have hfz120_3 := blk_frozen BK159.out 3; have hfz120_4 := blk_frozen BK159.out 4))
                          go_roundg kj66
                          case measure => have := HK1.out; have := HJ24.out; have := HK3.out; have := HK4.out; have := HJ66.out; omega
                          case rel => exact ⟨(wrap64 (x56_3 + 1)), (by first | rfl | (simp; done) | (simp [*]; done)), H', ⟨by have := HK1.out; have := HJ24.out; have := HK3.out; have := HK4.out; have := HJ66.out; omega⟩, ⟨by (with_reducible repeat (first | apply Kd.V_alloc | apply Kd.V_drewN | apply Kd.V_drew)); exact Kd.V_mono HO_158001.out (fun _ hk => ⟨hk.1, hk.2.1⟩)⟩, ⟨by (with_reducible repeat (first | refine blk_drewN ?_ _ | refine blk_drew ?_ | refine blk_alloc ?_ _)); exact BK146.out⟩, ⟨by (with_reducible repeat (first | refine blk_drewN ?_ _ | refine blk_drew ?_ | refine blk_alloc ?_ _)); exact BK157.out⟩, ⟨by repeat (first | (with_reducible first | exact HB.out | apply below_alloc | apply pw_below_drewN | apply below_drew1 | refine below_set ?_ GE146.out | refine below_set ?_ GE157.out | refine below_set ?_ GE159.out | refine below_set ?_ GE167.out) | exact HB.out)⟩⟩
                       ·replace c93 := Bool.eq_false_iff.mpr c93
                        subst c93
                        have H1 : (some (((rd_T32 ((rd_T30 l0 x22_1).f1) x56_3).f2), 14)) = some (r1, r2) := by rw [if_neg (show ¬ (false = true) by decide)] at H; exact H
                        clear H
                        have H := H1
                        clear H1
                        simp only [Option.some.injEq, Prod.mk.injEq] at H
                        obtain ⟨rfl, rfl⟩ := H
                        have hnb121 := NB159_146.out
                        have hnc121 := NB146_159.out
                        have hnb122 := NB159_157.out
                        have hnc122 := NB157_159.out
                        have hnb123 := NB159_167.out
                        have hnc123 := NB167_159.out
                        have hcz124_0 : wc.cell? ⟨gb159, 0, none⟩ = some (.string ((rd_T32 ((rd_T30 l0 x22_1).f1) x56_3).f0)) := (blk_cell BK159.out 0).trans rfl
                        have hcz124_1 : wc.cell? ⟨gb159, 1, none⟩ = some (.int .i64 ((rd_T32 ((rd_T30 l0 x22_1).f1) x56_3).f1.f0)) := (blk_cell BK159.out 1).trans rfl
                        have hcz124_2 : wc.cell? ⟨gb159, 2, none⟩ = some (.int .i64 ((rd_T32 ((rd_T30 l0 x22_1).f1) x56_3).f1.f1)) := (blk_cell BK159.out 2).trans rfl
                        have hcz124_3 : wc.cell? ⟨gb159, 3, none⟩ = some (.string ((rd_T32 ((rd_T30 l0 x22_1).f1) x56_3).f1.f2)) := (blk_cell BK159.out 3).trans rfl
                        have hcz124_4 : wc.cell? ⟨gb159, 4, none⟩ = some (.int .i64 ((rd_T32 ((rd_T30 l0 x22_1).f1) x56_3).f2)) := (blk_cell BK159.out 4).trans rfl
                        have hfz124_0 := blk_frozen BK159.out 0
                        have hfz124_1 := blk_frozen BK159.out 1
                        have hfz124_2 := blk_frozen BK159.out 2
                        have hfz124_3 := blk_frozen BK159.out 3
                        have hfz124_4 := blk_frozen BK159.out 4
                        go_wp2_with (first | ((with_reducible refine gate_callee (f := 29) rfl ?_); refine goesL_ (some 101) rfl rfl Try.func29 (by kernel_rfl) rfl #[.slice (some ad145) l0.length c0, .agg #[.int .i64 ((rd_T32 ((rd_T30 l0 x22_1).f1) x56_3).f1.f0), .int .i64 ((rd_T32 ((rd_T30 l0 x22_1).f1) x56_3).f1.f1), .string ((rd_T32 ((rd_T30 l0 x22_1).f1) x56_3).f1.f2)]] rfl (by (try simp only [List.map_toArray, List.map_cons, List.map_nil]); first | done | rfl | (simp only [List.length_drop, List.length_take]; rfl)) ?_; (with_reducible refine (hauberkref04_Known.calls kj66 _ _ l0 ((rd_T32 ((rd_T30 l0 x22_1).f1) x56_3).f1.f0) ((rd_T32 ((rd_T30 l0 x22_1).f1) x56_3).f1.f1) ((rd_T32 ((rd_T30 l0 x22_1).f1) x56_3).f1.f2) false _ ?side1 ?side2 A92.out).mono ?_); (case side1 => repeat (first | exact (Kd.C_below HR0.out HB.out) | (with_reducible refine Kd.C_alloc ?_ _) | (with_reducible refine Kd.C_drewN ?_ _) | (with_reducible refine Kd.C_drew ?_))); (case side2 => exact HC0.out); rintro e w125 ⟨rfl, hb⟩; refine ⟨_, rfl, ?_⟩; have n0_ := Aside0.mk (Kd.V_below (by (with_reducible repeat (first | apply Kd.V_alloc | apply Kd.V_drewN | apply Kd.V_drew)); exact HO_158001.out) hb); have n1_ := Aside0.mk (Kd.V_below (by (with_reducible repeat (first | apply Kd.V_alloc | apply Kd.V_drewN | apply Kd.V_drew)); exact HO_168001.out) hb); have n2_ := Aside0.mk (blk_below (g := gb146) (o := .cells #[.string ((rd_T30 l0 x22_1).f0), .slice (some ad158) ((rd_T30 l0 x22_1).f1).length c145_1, .int .i64 ((rd_T30 l0 x22_1).f2)] 30 (0, 0)) (by (with_reducible repeat (first | refine blk_drewN ?_ _ | refine blk_drew ?_ | refine blk_alloc ?_ _)); exact BK146.out) hb); have n3_ := Aside0.mk (blk_below (g := gb157) (o := .cells #[.string t151, .slice Ao35 t152.length co35, .int .i64 t155] 30 (0, 0)) (by (with_reducible repeat (first | refine blk_drewN ?_ _ | refine blk_drew ?_ | refine blk_alloc ?_ _)); exact BK157.out) hb); have n4_ := Aside0.mk (blk_below (g := gb159) (o := .cells #[.string ((rd_T32 ((rd_T30 l0 x22_1).f1) x56_3).f0), .int .i64 ((rd_T32 ((rd_T30 l0 x22_1).f1) x56_3).f1.f0), .int .i64 ((rd_T32 ((rd_T30 l0 x22_1).f1) x56_3).f1.f1), .string ((rd_T32 ((rd_T30 l0 x22_1).f1) x56_3).f1.f2), .int .i64 ((rd_T32 ((rd_T30 l0 x22_1).f1) x56_3).f2)] 32 (0, 0)) (by (with_reducible repeat (first | refine blk_drewN ?_ _ | refine blk_drew ?_ | refine blk_alloc ?_ _)); exact BK159.out) hb); have n5_ := Aside0.mk (blk_below (g := gb167) (o := .cells #[.string t161, .slice Ao77 t162.length co77, .int .i64 t165] 30 (0, 0)) (by (with_reducible repeat (first | refine blk_drewN ?_ _ | refine blk_drew ?_ | refine blk_alloc ?_ _)); exact BK167.out) hb); have n6_ := Aside0.mk (below_step (by repeat (first | (with_reducible first | exact HB.out | apply below_alloc | apply pw_below_drewN | apply below_drew1 | refine below_set ?_ GE146.out | refine below_set ?_ GE157.out | refine below_set ?_ GE159.out | refine below_set ?_ GE167.out) | exact HB.out)) hb); clear HO_158001; clear HO_168001; clear BK146; clear BK157; clear BK159; clear BK167; clear HB; have HO_158001 := n0_; have HO_168001 := n1_; have BK146 := n2_; have BK157 := n3_; have BK159 := n4_; have BK167 := n5_; have HB := n6_; clear n0_ n1_ n2_ n3_ n4_ n5_ n6_; (try clear hb); (try clear hb2); (try clear hk); (try clear hi); have hcz126_0 : w125.cell? ⟨gb159, 0, none⟩ = some (.string ((rd_T32 ((rd_T30 l0 x22_1).f1) x56_3).f0)) := (blk_cell BK159.out 0).trans rfl; have hcz126_1 : w125.cell? ⟨gb159, 1, none⟩ = some (.int .i64 ((rd_T32 ((rd_T30 l0 x22_1).f1) x56_3).f1.f0)) := (blk_cell BK159.out 1).trans rfl; have hcz126_2 : w125.cell? ⟨gb159, 2, none⟩ = some (.int .i64 ((rd_T32 ((rd_T30 l0 x22_1).f1) x56_3).f1.f1)) := (blk_cell BK159.out 2).trans rfl; have hcz126_3 : w125.cell? ⟨gb159, 3, none⟩ = some (.string ((rd_T32 ((rd_T30 l0 x22_1).f1) x56_3).f1.f2)) := (blk_cell BK159.out 3).trans rfl; have hcz126_4 : w125.cell? ⟨gb159, 4, none⟩ = some (.int .i64 ((rd_T32 ((rd_T30 l0 x22_1).f1) x56_3).f2)) := (blk_cell BK159.out 4).trans rfl; have hfz126_0 := blk_frozen BK159.out 0; have hfz126_1 := blk_frozen BK159.out 1; have hfz126_2 := blk_frozen BK159.out 2; have hfz126_3 := blk_frozen BK159.out 3; have hfz126_4 := blk_frozen BK159.out 4))
                        go_ret2
                        exact ⟨by first | rfl | (simp [errW_none, errW_some] <;> rfl) | (simp [*, errW_none, errW_some] <;> rfl), by repeat (first | (with_reducible first | exact HB.out | apply below_alloc | apply pw_below_drewN | apply below_drew1 | refine below_set ?_ GE146.out | refine below_set ?_ GE157.out | refine below_set ?_ GE159.out | refine below_set ?_ GE167.out) | exact HB.out)⟩
                ·rw [if_neg c50] at H
                 exact absurd H (by simp)
               ·rw [if_neg c49] at H
                exact absurd H (by simp)
              ·rw [if_neg c48] at H
               have c48b0 : decide (x56_3 < (((rd_T30 l0 x22_1).f1).length : Int)) = false := decide_eq_false c48
               clear c48
               have H' := Aside0.mk H
               clear H
               go_wp2
               go_roundg k3
               case measure => have := HK1.out; have := HJ24.out; have := HK3.out; omega
               case rel => exact ⟨(wrap64 (x22_1 + 1)), (by first | rfl | (simp; done) | (simp [*]; done)), H', ⟨by have := HK1.out; have := HJ24.out; have := HK3.out; omega⟩, ⟨by repeat (first | (with_reducible first | exact HB.out | apply below_alloc | apply pw_below_drewN | apply below_drew1 | refine below_set ?_ GE146.out | refine below_set ?_ GE157.out) | exact HB.out)⟩⟩
       ·rw [if_neg c8] at H
        exact absurd H (by simp)
      ·rw [if_neg c6] at H
       exact absurd H (by simp)
     ·rw [if_neg c5] at H
      exact absurd H (by simp)
    ·rw [if_neg c4] at H
     have c4b0 : decide (x22_1 < (l0.length : Int)) = false := decide_eq_false c4
     clear c4
     simp only [Option.some.injEq, Prod.mk.injEq] at H
     obtain ⟨rfl, rfl⟩ := H
     go_wp2
     go_ret2
     exact ⟨by first | rfl | (simp [errW_none, errW_some] <;> rfl) | (simp [*, errW_none, errW_some] <;> rfl), by repeat (first | (with_reducible first | exact HB.out | apply below_alloc | apply pw_below_drewN | apply below_drew1) | exact HB.out)⟩

end Go.Proofs.Ytgpdopfkkopgjaa.K
