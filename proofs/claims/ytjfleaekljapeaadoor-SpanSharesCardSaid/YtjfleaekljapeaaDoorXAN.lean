import Derived.Test.YtjfleaekljapeaaDoorXAD
import Derived.Test.YtjfleaekljapeaaDoorXAA
import Derived.Test.YtjfleaekljapeaaDoorXAM
import Derived.Test.YtjfleaekljapeaaDoorXAE
import Derived.Deep.DeepMust
import Derived.Test.YtjfleaekljapeaaDoorProg
import Derived.Below
import Derived.Deep.Draws
import Derived.Deep.AppendLies
import Derived.Maps.AppendAt
import Derived.OwnWalk
import Derived.Laws.BytesArg
import Derived.Laws.MakeOwn
import Derived.Laws.OwnMore
import Derived.Deep.OwnRows
import Derived.Tactics
import Derived.Lib.ConvBytes
import Derived.Laws.Slices
import Derived.WalkKit
import Derived.KernelRfl
import Derived.RowKit3
import Derived.Deep.LoopGhost
import Derived.Deep.QuietTactic
import Derived.BigQuiet
import Derived.WideLaws
import Derived.Deep.DeepCutAuto
import Derived.Deep.CutBlock
import Derived.Deep.RegionHeld3
import Derived.Deep.MidRow
import Derived.Laws.Rows
import Derived.Lib.AppendStr
import Derived.ArgAppend
import Derived.Laws.IdiomCopy
import Derived.OrdersHeld
import Derived.Laws.BitsLemmas
import Derived.RowKit
import Derived.RegionTactic
import Derived.Deep.RegionWith
import Derived.Lib.Hide
import Derived.Test.YtjfleaekljapeaaDoorXAB
import Derived.Test.YtjfleaekljapeaaDoorXAC
import Derived.Deep.RegionLaw
import Derived.Laws.CopyOwn
import Derived.Shelf.Spec.TrailingZeros
namespace Go.Proofs.YtjfleaekljapeaaDoor.K
open Go.RowKit Go.Proofs.YtjfleaekljapeaaDoorW.PrintWords Go.Proofs.YtjfleaekljapeaaDoorW.PrintLast Go.Proofs.YtjfleaekljapeaaDoorW.PrintMore
attribute [local go_sem] max2_int min2_int max_two min_two max_three min_three max_four min_four   -- for this text's walks alone
set_option linter.unusedVariables false
set_option linter.unusedSimpArgs false
def hauberkref12_Is.f (a0 : Int) : Option (Bool) := if a0 ≥ 1 then (if a0 <= 4 then (some true) else (if a0 ≥ 18 then (if a0 <= 22 then (some true) else (if a0 ≥ 30 then (some (decide (a0 <= 43))) else (some false))) else (if a0 ≥ 30 then (some (decide (a0 <= 43))) else (some false)))) else (if a0 ≥ 18 then (if a0 <= 22 then (some true) else (if a0 ≥ 30 then (some (decide (a0 <= 43))) else (some false))) else (if a0 ≥ 30 then (some (decide (a0 <= 43))) else (some false)))
set_option maxHeartbeats 8000000 in
set_option maxRecDepth 100000 in
theorem hauberkref12_Is.calls (a0 : Int) (r : Bool) (w : World) (h : hauberkref12_Is.f a0 = some r) :
  Calls Tryd.prog 61 #[.int .i64 a0] w fun e w' => e = .returned (.bool r) /\ Drawn0 w w' := by
 have H : (if a0 ≥ 1 then (if a0 <= 4 then (some true) else (if a0 ≥ 18 then (if a0 <= 22 then (some true) else (if a0 ≥ 30 then (some (decide (a0 <= 43))) else (some false))) else (if a0 ≥ 30 then (some (decide (a0 <= 43))) else (some false)))) else (if a0 ≥ 18 then (if a0 <= 22 then (some true) else (if a0 ≥ 30 then (some (decide (a0 <= 43))) else (some false))) else (if a0 ≥ 30 then (some (decide (a0 <= 43))) else (some false)))) = some r := h
 clear h
 by_cases c2 : a0 ≥ 1
 ·rw [if_pos c2] at H
  have c2b0 : decide (1 <= a0) = true := decide_eq_true c2
  clear c2
  by_cases c3 : a0 <= 4
  ·rw [if_pos c3] at H
   have c3b0 : decide (a0 <= 4) = true := decide_eq_true c3
   clear c3
   obtain rfl := Option.some.inj H
   go_enter Tryd.func61, Tryd.ntmps61
   go_wp2
   go_ret
   exact ⟨by first | rfl | (simp; done) | (simp [*]; done), by repeat (first | exact Drawn0.refl _ | apply Drawn0.step)⟩
  ·rw [if_neg c3] at H
   have c3b0 : decide (a0 <= 4) = false := decide_eq_false c3
   clear c3
   by_cases c4 : a0 ≥ 18
   ·rw [if_pos c4] at H
    have c4b0 : decide (18 <= a0) = true := decide_eq_true c4
    clear c4
    by_cases c5 : a0 <= 22
    ·rw [if_pos c5] at H
     have c5b0 : decide (a0 <= 22) = true := decide_eq_true c5
     clear c5
     obtain rfl := Option.some.inj H
     go_enter Tryd.func61, Tryd.ntmps61
     go_wp2
     go_ret
     exact ⟨by first | rfl | (simp; done) | (simp [*]; done), by repeat (first | exact Drawn0.refl _ | apply Drawn0.step)⟩
    ·rw [if_neg c5] at H
     have c5b0 : decide (a0 <= 22) = false := decide_eq_false c5
     clear c5
     by_cases c6 : a0 ≥ 30
     ·rw [if_pos c6] at H
      have c6b0 : decide (30 <= a0) = true := decide_eq_true c6
      clear c6
      obtain rfl := Option.some.inj H
      go_enter Tryd.func61, Tryd.ntmps61
      go_wp2
      go_ret
      exact ⟨by first | rfl | (simp; done) | (simp [*]; done), by repeat (first | exact Drawn0.refl _ | apply Drawn0.step)⟩
     ·rw [if_neg c6] at H
      have c6b0 : decide (30 <= a0) = false := decide_eq_false c6
      clear c6
      obtain rfl := Option.some.inj H
      go_enter Tryd.func61, Tryd.ntmps61
      go_wp2
      go_ret
      exact ⟨by first | rfl | (simp; done) | (simp [*]; done), by repeat (first | exact Drawn0.refl _ | apply Drawn0.step)⟩
   ·rw [if_neg c4] at H
    have c4b0 : decide (18 <= a0) = false := decide_eq_false c4
    clear c4
    by_cases c7 : a0 ≥ 30
    ·rw [if_pos c7] at H
     have c7b0 : decide (30 <= a0) = true := decide_eq_true c7
     clear c7
     obtain rfl := Option.some.inj H
     go_enter Tryd.func61, Tryd.ntmps61
     go_wp2
     go_ret
     exact ⟨by first | rfl | (simp; done) | (simp [*]; done), by repeat (first | exact Drawn0.refl _ | apply Drawn0.step)⟩
    ·rw [if_neg c7] at H
     have c7b0 : decide (30 <= a0) = false := decide_eq_false c7
     clear c7
     obtain rfl := Option.some.inj H
     go_enter Tryd.func61, Tryd.ntmps61
     go_wp2
     go_ret
     exact ⟨by first | rfl | (simp; done) | (simp [*]; done), by repeat (first | exact Drawn0.refl _ | apply Drawn0.step)⟩
 ·rw [if_neg c2] at H
  have c2b0 : decide (1 <= a0) = false := decide_eq_false c2
  clear c2
  by_cases c8 : a0 ≥ 18
  ·rw [if_pos c8] at H
   have c8b0 : decide (18 <= a0) = true := decide_eq_true c8
   clear c8
   by_cases c9 : a0 <= 22
   ·rw [if_pos c9] at H
    have c9b0 : decide (a0 <= 22) = true := decide_eq_true c9
    clear c9
    obtain rfl := Option.some.inj H
    go_enter Tryd.func61, Tryd.ntmps61
    go_wp2
    go_ret
    exact ⟨by first | rfl | (simp; done) | (simp [*]; done), by repeat (first | exact Drawn0.refl _ | apply Drawn0.step)⟩
   ·rw [if_neg c9] at H
    have c9b0 : decide (a0 <= 22) = false := decide_eq_false c9
    clear c9
    by_cases c10 : a0 ≥ 30
    ·rw [if_pos c10] at H
     have c10b0 : decide (30 <= a0) = true := decide_eq_true c10
     clear c10
     obtain rfl := Option.some.inj H
     go_enter Tryd.func61, Tryd.ntmps61
     go_wp2
     go_ret
     exact ⟨by first | rfl | (simp; done) | (simp [*]; done), by repeat (first | exact Drawn0.refl _ | apply Drawn0.step)⟩
    ·rw [if_neg c10] at H
     have c10b0 : decide (30 <= a0) = false := decide_eq_false c10
     clear c10
     obtain rfl := Option.some.inj H
     go_enter Tryd.func61, Tryd.ntmps61
     go_wp2
     go_ret
     exact ⟨by first | rfl | (simp; done) | (simp [*]; done), by repeat (first | exact Drawn0.refl _ | apply Drawn0.step)⟩
  ·rw [if_neg c8] at H
   have c8b0 : decide (18 <= a0) = false := decide_eq_false c8
   clear c8
   by_cases c11 : a0 ≥ 30
   ·rw [if_pos c11] at H
    have c11b0 : decide (30 <= a0) = true := decide_eq_true c11
    clear c11
    obtain rfl := Option.some.inj H
    go_enter Tryd.func61, Tryd.ntmps61
    go_wp2
    go_ret
    exact ⟨by first | rfl | (simp; done) | (simp [*]; done), by repeat (first | exact Drawn0.refl _ | apply Drawn0.step)⟩
   ·rw [if_neg c11] at H
    have c11b0 : decide (30 <= a0) = false := decide_eq_false c11
    clear c11
    obtain rfl := Option.some.inj H
    go_enter Tryd.func61, Tryd.ntmps61
    go_wp2
    go_ret
    exact ⟨by first | rfl | (simp; done) | (simp [*]; done), by repeat (first | exact Drawn0.refl _ | apply Drawn0.step)⟩
def hauberkref12_Lists.j0 : Nat -> Int -> Bool -> Option (Int × Int)
 | 0, _, _ => none
 | k + 1, x4, x5 => if x5 = true then (some (5, 0)) else (if x4 = 37 then (some (0, 4)) else (if x4 = 38 then (some (4, 0)) else (if x4 = 40 then (some (0, 5)) else (if x4 = 42 then (some ((-1), (-1))) else (if x4 = 43 then (some ((-1), 0)) else (some (0, 0)))))))
def hauberkref12_Lists.f (k : Nat) (a0 : Int) : Option (Int × Int) := if a0 = 34 then (hauberkref12_Lists.j0 k a0 (a0 == 34)) else (hauberkref12_Lists.j0 k a0 (a0 == 41))
set_option maxHeartbeats 8000000 in
set_option maxRecDepth 100000 in
theorem hauberkref12_Lists.calls (k : Nat) (a0 : Int) (r1 : Int) (r2 : Int) (w : World) (h : hauberkref12_Lists.f k a0 = some (r1, r2)) :
  Calls Tryd.prog 62 #[.int .i64 a0] w fun e w' => e = .returned (.tuple #[.int .i64 r1, .int .i64 r2]) /\ Drawn0 w w' := by
 have H : (if a0 = 34 then (hauberkref12_Lists.j0 k a0 (a0 == 34)) else (hauberkref12_Lists.j0 k a0 (a0 == 41))) = some (r1, r2) := h
 clear h
 have HC2 := Aside0.mk H
 clear H
 go_enter Tryd.func62, Tryd.ntmps62
 go_upto_if 5 with (fail)
 go_cut [5] (fun v5 wc => ∃ (kq : Nat) (x5_1 : Bool), v5 = .bool x5_1 /\ Aside0 (hauberkref12_Lists.j0 kq a0 x5_1 = some (r1, r2)) /\ Aside0 (kq <= k) /\ Drawn0 w wc)
 case first =>
  have H := HC2.out
  clear HC2
  by_cases c3 : a0 = 34
  ·rw [if_pos c3] at H
   have c3b0 : (a0 == 34) = true := beq_iff_eq.mpr c3
   have c3b1 : (a0 != 34) = false := bne_eq_false_iff_eq.mpr c3
   clear c3
   (first | rw [c3b0] | (simp only [i64_w, i32_w]; rw [c3b0]) | skip)
   have H' := Aside0.mk H
   clear H
   go_wp2
   go_meet
   case rel => exact ⟨_, ((a0 == 34)), (by first | rfl | (simp; done) | (simp [*]; done)), H', ⟨by first | omega | exact Nat.le_refl _⟩, by repeat (first | exact Drawn0.refl _ | apply Drawn0.step)⟩
  ·rw [if_neg c3] at H
   have c3b0 : (a0 == 34) = false := beq_eq_false_iff_ne.mpr c3
   have c3b1 : (a0 != 34) = true := bne_iff_ne.mpr c3
   (first | rw [c3b0] | (simp only [i64_w, i32_w]; rw [c3b0]) | skip)
   have H' := Aside0.mk H
   clear H
   go_wp2
   go_meet
   case rel => exact ⟨_, ((a0 == 41)), (by first | rfl | (simp; done) | (simp [*]; done)), H', ⟨by first | omega | exact Nat.le_refl _⟩, by repeat (first | exact Drawn0.refl _ | apply Drawn0.step)⟩
 case rest =>
  clear HC2
  try clear p2
  try clear c3
  try clear c3b0
  try clear c3b1
  obtain ⟨kq, x5_1, rfl, HA, HJ1, ⟨mc1, rfl⟩⟩ := hcut
  cases kq with
  | zero => exact absurd HA.out (by simp [hauberkref12_Lists.j0])
  | succ kj1 =>
   have H := HA.out
   clear HA
   simp only [hauberkref12_Lists.j0] at H
   by_cases c4 : x5_1 = true
   ·subst c4
    have H1 : (some (5, 0)) = some (r1, r2) := by rw [if_pos rfl] at H; exact H
    clear H
    have H := H1
    clear H1
    simp only [Option.some.injEq, Prod.mk.injEq] at H
    obtain ⟨rfl, rfl⟩ := H
    go_wp2
    go_ret2
    exact ⟨by first | rfl | (simp; done) | (simp [*]; done), by repeat (first | exact Drawn0.refl _ | apply Drawn0.step)⟩
   ·replace c4 := Bool.eq_false_iff.mpr c4
    subst c4
    have H1 : (if a0 = 37 then (some (0, 4)) else (if a0 = 38 then (some (4, 0)) else (if a0 = 40 then (some (0, 5)) else (if a0 = 42 then (some ((-1), (-1))) else (if a0 = 43 then (some ((-1), 0)) else (some (0, 0))))))) = some (r1, r2) := by rw [if_neg (show ¬ (false = true) by decide)] at H; exact H
    clear H
    have H := H1
    clear H1
    by_cases c5 : a0 = 37
    ·rw [if_pos c5] at H
     have c5b0 : (a0 == 37) = true := beq_iff_eq.mpr c5
     have c5b1 : (a0 != 37) = false := bne_eq_false_iff_eq.mpr c5
     clear c5
     simp only [Option.some.injEq, Prod.mk.injEq] at H
     obtain ⟨rfl, rfl⟩ := H
     go_wp2
     go_ret2
     exact ⟨by first | rfl | (simp; done) | (simp [*]; done), by repeat (first | exact Drawn0.refl _ | apply Drawn0.step)⟩
    ·rw [if_neg c5] at H
     have c5b0 : (a0 == 37) = false := beq_eq_false_iff_ne.mpr c5
     have c5b1 : (a0 != 37) = true := bne_iff_ne.mpr c5
     by_cases c6 : a0 = 38
     ·rw [if_pos c6] at H
      have c6b0 : (a0 == 38) = true := beq_iff_eq.mpr c6
      have c6b1 : (a0 != 38) = false := bne_eq_false_iff_eq.mpr c6
      clear c6
      simp only [Option.some.injEq, Prod.mk.injEq] at H
      obtain ⟨rfl, rfl⟩ := H
      go_wp2
      go_ret2
      exact ⟨by first | rfl | (simp; done) | (simp [*]; done), by repeat (first | exact Drawn0.refl _ | apply Drawn0.step)⟩
     ·rw [if_neg c6] at H
      have c6b0 : (a0 == 38) = false := beq_eq_false_iff_ne.mpr c6
      have c6b1 : (a0 != 38) = true := bne_iff_ne.mpr c6
      by_cases c7 : a0 = 40
      ·rw [if_pos c7] at H
       have c7b0 : (a0 == 40) = true := beq_iff_eq.mpr c7
       have c7b1 : (a0 != 40) = false := bne_eq_false_iff_eq.mpr c7
       clear c7
       simp only [Option.some.injEq, Prod.mk.injEq] at H
       obtain ⟨rfl, rfl⟩ := H
       go_wp2
       go_ret2
       exact ⟨by first | rfl | (simp; done) | (simp [*]; done), by repeat (first | exact Drawn0.refl _ | apply Drawn0.step)⟩
      ·rw [if_neg c7] at H
       have c7b0 : (a0 == 40) = false := beq_eq_false_iff_ne.mpr c7
       have c7b1 : (a0 != 40) = true := bne_iff_ne.mpr c7
       by_cases c8 : a0 = 42
       ·rw [if_pos c8] at H
        have c8b0 : (a0 == 42) = true := beq_iff_eq.mpr c8
        have c8b1 : (a0 != 42) = false := bne_eq_false_iff_eq.mpr c8
        clear c8
        simp only [Option.some.injEq, Prod.mk.injEq] at H
        obtain ⟨rfl, rfl⟩ := H
        go_wp2
        go_ret2
        exact ⟨by first | rfl | (simp; done) | (simp [*]; done), by repeat (first | exact Drawn0.refl _ | apply Drawn0.step)⟩
       ·rw [if_neg c8] at H
        have c8b0 : (a0 == 42) = false := beq_eq_false_iff_ne.mpr c8
        have c8b1 : (a0 != 42) = true := bne_iff_ne.mpr c8
        by_cases c9 : a0 = 43
        ·rw [if_pos c9] at H
         have c9b0 : (a0 == 43) = true := beq_iff_eq.mpr c9
         have c9b1 : (a0 != 43) = false := bne_eq_false_iff_eq.mpr c9
         clear c9
         simp only [Option.some.injEq, Prod.mk.injEq] at H
         obtain ⟨rfl, rfl⟩ := H
         go_wp2
         go_ret2
         exact ⟨by first | rfl | (simp; done) | (simp [*]; done), by repeat (first | exact Drawn0.refl _ | apply Drawn0.step)⟩
        ·rw [if_neg c9] at H
         have c9b0 : (a0 == 43) = false := beq_eq_false_iff_ne.mpr c9
         have c9b1 : (a0 != 43) = true := bne_iff_ne.mpr c9
         simp only [Option.some.injEq, Prod.mk.injEq] at H
         obtain ⟨rfl, rfl⟩ := H
         go_wp2
         go_ret2
         exact ⟨by first | rfl | (simp; done) | (simp [*]; done), by repeat (first | exact Drawn0.refl _ | apply Drawn0.step)⟩
end Go.Proofs.YtjfleaekljapeaaDoor.K
namespace Go.Proofs.YtjfleaekljapeaaDoor.EvLib
open Go.RowKit Go.Proofs.YtjfleaekljapeaaDoorW.PrintWords
theorem Ev.succ {α : Type} {g : Nat -> Option α} {r : α} (h : Ev (fun k => g (k + 1)) r) : Ev g r := Ev.step (fun _ => rfl) h
theorem Ev.pos {α : Type} {c : Prop} [Decidable c] {f g : Nat -> Option α} {r : α} (hc : c) (h : Ev f r) : Ev (fun k => if c then f k else g k) r := by
 obtain ⟨K, h⟩ := h
 exact ⟨K, fun k hk => by simp only [if_pos hc]; exact h k hk⟩
theorem Ev.neg {α : Type} {c : Prop} [Decidable c] {f g : Nat -> Option α} {r : α} (hc : ¬ c) (h : Ev g r) : Ev (fun k => if c then f k else g k) r := by
 obtain ⟨K, h⟩ := h
 exact ⟨K, fun k hk => by simp only [if_neg hc]; exact h k hk⟩
theorem Ev.eq {α : Type} {g : Nat -> Option α} {r r' : α} (h : Ev g r) (e : r = r') : Ev g r' := e ▸ h
theorem Ev.ret {α : Type} {v r : α} (e : v = r) : Ev (fun _ => some v) r := ⟨0, fun _ _ => by rw [e]⟩
end Go.Proofs.YtjfleaekljapeaaDoor.EvLib
namespace Go.Proofs.YtjfleaekljapeaaDoor.K
open Go.RowKit Go.Proofs.YtjfleaekljapeaaDoorW.PrintWords Go.Proofs.YtjfleaekljapeaaDoorW.PrintLast Go.Proofs.YtjfleaekljapeaaDoorW.PrintMore
attribute [local go_sem] max2_int min2_int max_two min_two max_three min_three max_four min_four   -- for this text's walks alone
set_option linter.unusedVariables false
set_option linter.unusedSimpArgs false
set_option linter.unusedSectionVars false
section
open Go.Proofs.YtjfleaekljapeaaDoor.EvLib
theorem rd_nat (l : List Int) (i : Nat) : rd l (i : Int) = l.getD i 0 := by unfold rd; rw [Int.toNat_natCast]
theorem w64_nat (i : Nat) (h : i + 1 <= 9223372036854775807) : wrap64 ((i : Int) + 1) = ((i + 1 : Nat) : Int) := by unfold wrap64; omega
def thB (nk : Nat) (r : Int) : Bool := decide (0 <= r) && decide (r < nk)
theorem th_iff (nk : Nat) (r : Int) : thB nk r = true <-> 0 <= r /\ r < nk := by unfold thB; simp
theorem there_f (nm : ByteArray) (l1 l2 l3 : List Int) (code : List S44) (r : Int) : hauberkref12_there.f nm l1 l2 l3 code r = some (thB l2.length r) := by
 unfold hauberkref12_there.f thB
 by_cases c : 0 <= r
 ·rw [if_pos c, decide_eq_true c]; rfl
 ·rw [if_neg c, decide_eq_false c]; rfl
def AllF (nk : Nat) (l : List Int) (once : Bool) (i : Nat) : Prop := ∀ q, i <= q -> q < l.length -> (0 <= l.getD q 0 /\ l.getD q 0 < nk) /\ (once = true -> ∀ k, k < q -> l.getD k 0 ≠ l.getD q 0)
def AllP (nk : Nat) (l : List Int) (once : Bool) : Prop := AllF nk l once 0
section
variable (nm : ByteArray) (l1 l2 l3 : List Int) (code : List S44) (l : List Int) (hl : l.length <= 9223372036854775807)
include hl
theorem all_ev1 (once : Bool) (i : Nat) (hi : i < l.length) (b' : Bool) (hb : Ev (fun k => hauberkref12_all.l0 k l once (l.length : Int) ((i + 1 : Nat) : Int) nm l1 l2 l3 code) b') :
  ∀ (d j : Nat), i - j = d -> j <= i -> ∃ b, Ev (fun k => hauberkref12_all.l1 k l once i j (l.length : Int) i nm l1 l2 l3 code) b /\ (b = true <-> b' = true /\ (once = true -> ∀ q, j <= q -> q < i -> l.getD q 0 ≠ l.getD i 0))
 | 0, j, hd, hj => by
  obtain rfl : j = i := by omega
  refine ⟨b', Ev.succ ?_, ⟨fun h => ⟨h, fun _ q h1 h2 => by omega⟩, fun h => h.1⟩⟩
  simp only [hauberkref12_all.l1]
  rw [w64_nat j (by omega)]
  exact Ev.neg (by omega) hb
 | d + 1, j, hd, hj => by
  have c : j < i := by omega
  obtain ⟨b, h1, h2⟩ := all_ev1 once i hi b' hb d (j + 1) (by omega) (by omega)
  cases once with
  | false =>
   refine ⟨b, Ev.succ ?_, h2.trans ⟨fun h => ⟨h.1, fun h => (by cases h)⟩, fun h => ⟨h.1, fun h => (by cases h)⟩⟩⟩
   simp only [hauberkref12_all.l1]
   rw [w64_nat j (by omega)]
   exact Ev.pos (by omega) (Ev.neg (by decide) h1)
  | true =>
   by_cases e : l.getD j 0 = l.getD i 0
   ·refine ⟨false, Ev.succ ?_, ⟨fun h => (by cases h), fun h => absurd e (h.2 rfl j (Nat.le_refl _) c)⟩⟩
    simp only [hauberkref12_all.l1]
    rw [rd_nat, rd_nat]
    exact Ev.pos (by omega) (Ev.pos trivial (Ev.pos (by omega) (Ev.pos (by omega) (Ev.pos (by omega) (Ev.pos (by omega) (Ev.pos e (Ev.now _)))))))
   ·refine ⟨b, Ev.succ ?_, h2.trans ⟨fun h => ⟨h.1, fun _ q h3 h4 => ?_⟩, fun h => ⟨h.1, fun h5 q h3 h4 => h.2 h5 q (by omega) h4⟩⟩⟩
    ·simp only [hauberkref12_all.l1]
     rw [rd_nat, rd_nat, w64_nat j (by omega)]
     exact Ev.pos (by omega) (Ev.pos trivial (Ev.pos (by omega) (Ev.pos (by omega) (Ev.pos (by omega) (Ev.pos (by omega) (Ev.neg e h1))))))
    ·by_cases h5 : q = j
     ·subst h5; exact e
     ·exact h.2 rfl q (by omega) h4
theorem all_ev0 (once : Bool) : ∀ (d i : Nat), l.length - i = d -> i <= l.length -> ∃ b, Ev (fun k => hauberkref12_all.l0 k l once (l.length : Int) (i : Int) nm l1 l2 l3 code) b /\ (b = true <-> AllF l2.length l once i)
 | 0, i, hd, hi => by
  obtain rfl : i = l.length := by omega
  refine ⟨true, Ev.succ ?_, ⟨fun _ q h1 h2 => by omega, fun _ => rfl⟩⟩
  simp only [hauberkref12_all.l0]
  exact Ev.neg (by omega) (Ev.now _)
 | d + 1, i, hd, hi => by
  have c : i < l.length := by omega
  obtain ⟨b', h1, h2⟩ := all_ev0 once d (i + 1) (by omega) (by omega)
  obtain ⟨b, h3, h4⟩ := all_ev1 nm l1 l2 l3 code l hl once i c b' h1 i 0 (by omega) (by omega)
  cases ht : thB l2.length (l.getD i 0) with
  | false =>
   refine ⟨false, Ev.succ ?_, ⟨fun h => (by cases h), fun h => ?_⟩⟩
   ·simp only [hauberkref12_all.l0]
    rw [rd_nat, there_f, ht]
    exact Ev.pos (by omega) (Ev.pos (by omega) (Ev.pos (by omega) (Ev.bind (Ev.now _) (Ev.neg (by decide) (Ev.now _)))))
   ·have := (th_iff _ _).2 (h i (Nat.le_refl _) c).1
    rw [ht] at this
    cases this
  | true =>
   refine ⟨b, Ev.succ ?_, h4.trans ⟨fun h q h5 h6 => ?_, fun h => ⟨h2.2 fun q h5 h6 => h q (by omega) h6, fun ho q _ h6 => (h i (Nat.le_refl _) c).2 ho q h6⟩⟩⟩
   ·simp only [hauberkref12_all.l0]
    rw [rd_nat, there_f, ht]
    exact Ev.pos (by omega) (Ev.pos (by omega) (Ev.pos (by omega) (Ev.bind (Ev.now _) (Ev.pos rfl h3))))
   ·by_cases h7 : q = i
    ·subst h7
     exact ⟨(th_iff _ _).1 ht, fun ho k hk => h.2 ho k (Nat.zero_le _) hk⟩
    ·exact h2.1 h.1 q (by omega) h6
theorem all_f (once : Bool) : ∃ b, Ev (fun k => hauberkref12_all.f k nm l1 l2 l3 code l once) b /\ (b = true <-> AllP l2.length l once) := all_ev0 nm l1 l2 l3 code l hl once l.length 0 (by omega) (by omega)
end
def isB (op : Int) : Bool := (decide (1 <= op) && decide (op <= 4)) || ((decide (18 <= op) && decide (op <= 22)) || (decide (30 <= op) && decide (op <= 43)))
theorem is_f (op : Int) : hauberkref12_Is.f op = some (isB op) := by
 unfold hauberkref12_Is.f isB
 by_cases h1 : 1 <= op <;> by_cases h2 : op <= 4 <;> by_cases h3 : 18 <= op <;> by_cases h4 : op <= 22 <;> by_cases h5 : 30 <= op <;> simp [h1, h2, h3, h4, h5]
def liA (op : Int) : Int := if op = 34 ∨ op = 41 then 5 else if op = 38 then 4 else if op = 42 ∨ op = 43 then -1 else 0
def liO (op : Int) : Int := if op = 37 then 4 else if op = 40 then 5 else if op = 42 then -1 else 0
theorem lists_f (op : Int) : hauberkref12_Lists.f 1 op = some (liA op, liO op) := by
 unfold hauberkref12_Lists.f liA liO
 simp only [hauberkref12_Lists.j0]
 by_cases h34 : op = 34
 ·subst h34; rfl
 rw [if_neg h34]
 by_cases h41 : op = 41
 ·subst h41; rfl
 have e : (op == 41) = false := by simpa using h41
 rw [e, if_neg (by decide)]
 have e2 : ¬ (op = 34 ∨ op = 41) := by omega
 rw [if_neg e2]
 (repeat' split) <;> first | rfl | omega
def allB (nk : Nat) (l : List Int) (once : Bool) : Bool := (List.range l.length).all fun q => thB nk (l.getD q 0) && (!once || (List.range q).all fun k => !(l.getD k 0 == l.getD q 0))
theorem allB_iff (nk : Nat) (l : List Int) (once : Bool) : allB nk l once = true <-> AllP nk l once := by
 unfold allB AllP AllF
 rw [List.all_eq_true]
 constructor
 ·intro h q _ hq
  have := h q (List.mem_range.2 hq)
  rw [Bool.and_eq_true, th_iff] at this
  refine ⟨this.1, fun ho k hk e => ?_⟩
  have h2 := this.2
  rw [ho, Bool.not_true, Bool.false_or, List.all_eq_true] at h2
  have h3 := h2 k (List.mem_range.2 hk)
  rw [e] at h3
  simp at h3
 ·intro h q hq
  obtain ⟨h1, h2⟩ := h q (Nat.zero_le _) (List.mem_range.1 hq)
  rw [Bool.and_eq_true, th_iff]
  refine ⟨h1, ?_⟩
  cases once with
  | false => rfl
  | true =>
   rw [Bool.not_true, Bool.false_or, List.all_eq_true]
   intro k hk
   have := h2 rfl k (List.mem_range.1 hk)
   simpa using this
theorem all_is (nm : ByteArray) (l1 l2 l3 : List Int) (code : List S44) (l : List Int) (hl : l.length <= 9223372036854775807) (once : Bool) : Ev (fun k => hauberkref12_all.f k nm l1 l2 l3 code l once) (allB l2.length l once) := by
 obtain ⟨b, h1, h2⟩ := all_f nm l1 l2 l3 code l hl once
 refine Ev.eq h1 ?_
 rw [Bool.eq_iff_iff, h2, allB_iff]
end
def us0 (op : Int) : Bool := op == 1 || (op == 21 || (op == 30 || (op == 31 || (op == 32 || (op == 33 || (op == 2 || (op == 4 || (op == 35 || op == 3))))))))
def us1 (op : Int) : Bool := op == 2 || (op == 4 || (op == 35 || (op == 3 || (op == 19 || (op == 20 || (op == 22 || (op == 37 || (op == 38 || (op == 40 || op == 36)))))))))
def us2 (op : Int) : Bool := op == 3 || op == 36
def UsPost (op : Int) (w : World) (e : Ending) (w' : World) : Prop := e = .returned (.agg #[.bool (us0 op), .bool (us1 op), .bool (us2 op)]) /\ Below w.heap.size w w'
theorem us_new (w : World) (u : Array Value) (t : TypeId) : Below w.heap.size w (w.alloc (.cells u t)) := (Below.refl _ _).alloc (Nat.le_refl _) _
set_option maxHeartbeats 2000000 in
theorem uses_yes (op : Int) (w : World) (ho : op = 1 ∨ op = 21 ∨ op = 30 ∨ op = 31 ∨ op = 32 ∨ op = 33 ∨ op = 2 ∨ op = 4 ∨ op = 35 ∨ op = 3 ∨ op = 19 ∨ op = 20 ∨ op = 22 ∨ op = 37 ∨ op = 38 ∨ op = 40 ∨ op = 36) : Calls Tryd.prog 35 #[.int .i64 op] w (UsPost op w) := by
 rcases ho with rfl | rfl | rfl | rfl | rfl | rfl | rfl | rfl | rfl | rfl | rfl | rfl | rfl | rfl | rfl | rfl | rfl
 all_goals
  go_enter Tryd.func35, Tryd.ntmps35
  go_wp2
  refine bodyPost_ret (results_cell_row rfl _ _ w.heap.size 84 _ (0, 0) _ rfl (heap_alloc_new w _) Tryd.underlying84 rfl (by kernel_rfl)) rfl ?_
  exact ⟨rfl, us_new w _ _⟩
set_option maxHeartbeats 2000000 in
theorem uses_no (op : Int) (w : World) (h : (us0 op || us1 op) = false) : Calls Tryd.prog 35 #[.int .i64 op] w (UsPost op w) := by
 have e0 : us0 op = false := by revert h; cases us0 op <;> simp
 have e1 : us1 op = false := by revert h; cases us1 op <;> simp
 have HP := Aside0.mk (show us0 op = false /\ us1 op = false /\ us2 op = false from ⟨e0, e1, by
  unfold us1 at e1
  simp only [Bool.or_eq_false_iff] at e1
  unfold us2
  simp only [Bool.or_eq_false_iff]
  exact ⟨e1.2.2.2.1, e1.2.2.2.2.2.2.2.2.2.2⟩⟩)
 unfold us0 at e0
 unfold us1 at e1
 simp only [Bool.or_eq_false_iff] at e0 e1
 obtain ⟨n1, n2, n3, n4, n5, n6, n7, n8, n9, n10⟩ := e0
 obtain ⟨_, _, _, _, m1, m2, m3, m4, m5, m6, m7⟩ := e1
 clear h
 go_enter Tryd.func35, Tryd.ntmps35
 go_wp2
 refine bodyPost_ret (results_cell_row rfl _ _ w.heap.size 84 _ (0, 0) _ rfl (heap_alloc_new w _) Tryd.underlying84 rfl (by kernel_rfl)) rfl ?_
 exact ⟨by rw [HP.out.1, HP.out.2.1, HP.out.2.2], us_new w _ _⟩
theorem uses_calls (op : Int) (w : World) : Calls Tryd.prog 35 #[.int .i64 op] w (UsPost op w) := by
 cases h : (us0 op || us1 op) with
 | false => exact uses_no op w h
 | true =>
  refine uses_yes op w ?_
  unfold us0 us1 at h
  simp only [Bool.or_eq_true, beq_iff_eq] at h
  omega
def rdB (i : S44) (r : Int) : Bool := (us1 i.f0 && i.f2 == r) || ((us2 i.f0 && i.f3 == r) || decide (r ∈ i.f7))
def wrB (i : S44) (r : Int) : Bool := (us0 i.f0 && i.f1 == r) || decide (r ∈ i.f8)
end Go.Proofs.YtjfleaekljapeaaDoor.K
namespace Go.Proofs.YtjfleaekljapeaaDoor.K
open Go.RowKit Go.Proofs.YtjfleaekljapeaaDoorW.PrintWords Go.Proofs.YtjfleaekljapeaaDoorW.PrintLast Go.Proofs.YtjfleaekljapeaaDoorW.PrintMore
set_option linter.unusedVariables false
end Go.Proofs.YtjfleaekljapeaaDoor.K
