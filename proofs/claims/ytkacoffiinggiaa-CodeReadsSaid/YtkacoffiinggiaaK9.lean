/- What Go functions of this seat answer: each has a Lean function ('.f') and a contract ('.calls'). Conditions: those of each theorem. Written by a program over the kit's printer; what is marked 'typed by hand' is this session's. -/
import Derived.Test.YtkacoffiinggiaaK0
namespace Go.Proofs.Ytkacoffiinggiaa.K
open Go.RowKit Go.Proofs.YtkacoffiinggiaaW.PrintWords Go.Proofs.YtkacoffiinggiaaW.PrintLast Go.Proofs.YtkacoffiinggiaaW.PrintMore
attribute [local go_sem] max2_int min2_int max_two min_two max_three min_three max_four min_four   -- for this text's walks alone
set_option linter.unusedVariables false
set_option linter.unusedSimpArgs false

/-! ### hauberkref02_Room: function 19 -/
def hauberkref02_Room.j0 : Nat → Int → Bool → Option (Int × Int)
 | 0, _, _ => none
 | k + 1, x4, x5 => if x5 = true then (some ((-2048), 2047)) else (if x4 = 84 then (some (0, 63)) else (if x4 = 66 then (some ((-4096), 4094)) else (if x4 = 85 then (some ((-524288), 524287)) else (if x4 = 74 then (some ((-1048576), 1048574)) else (some (1, 0))))))
def hauberkref02_Room.f (k : Nat) (a0 : Int) : Option (Int × Int) := if a0 = 73 then (hauberkref02_Room.j0 k a0 (a0 == 73)) else (hauberkref02_Room.j0 k a0 (a0 == 83))
theorem hauberkref02_Room.mono_l : ∀ k, (∀ y0 y1, LeO (hauberkref02_Room.j0 k y0 y1) (hauberkref02_Room.j0 (k + 1) y0 y1))
 | 0 => fun _ _ r h => by simp [hauberkref02_Room.j0] at h
 | k + 1 => by
  have ih0 := hauberkref02_Room.mono_l k
  ·intro y0 y1
   unfold hauberkref02_Room.j0
   repeat' first
   | (with_reducible exact ih0 _ _)
   | (with_reducible exact LeO.refl _)
   | (with_reducible exact LeO.none _)
   | (with_reducible refine LeO.ite ?_ ?_)
   | (with_reducible refine LeO.bind ?_ (fun _ => ?_))
   | exact ih0 _ _
   | exact LeO.none _
   | refine LeO.ite ?_ ?_
   | refine LeO.bind ?_ (fun _ => ?_)
theorem hauberkref02_Room.mono : ∀ a0 k, LeO (hauberkref02_Room.f k a0) (hauberkref02_Room.f (k + 1) a0) := by
 intro a0 k
 have ih0 := hauberkref02_Room.mono_l k
 unfold hauberkref02_Room.f
 repeat' first
   | (with_reducible exact ih0 _ _)
   | (with_reducible exact LeO.refl _)
   | (with_reducible exact LeO.none _)
   | (with_reducible refine LeO.ite ?_ ?_)
   | (with_reducible refine LeO.bind ?_ (fun _ => ?_))
   | exact ih0 _ _
   | exact LeO.none _
   | refine LeO.ite ?_ ?_
   | refine LeO.bind ?_ (fun _ => ?_)
set_option maxHeartbeats 8000000 in
set_option maxRecDepth 100000 in
theorem hauberkref02_Room.calls (k : Nat) (a0 : Int) (r1 : Int) (r2 : Int) (w : World) (h : hauberkref02_Room.f k a0 = some (r1, r2)) :
  Calls Try.prog 19 #[.int .u8 a0] w fun e w' => e = .returned (.tuple #[.int .i64 r1, .int .i64 r2]) ∧ Drawn0 w w' := by
 have H : (if a0 = 73 then (hauberkref02_Room.j0 k a0 (a0 == 73)) else (hauberkref02_Room.j0 k a0 (a0 == 83))) = some (r1, r2) := h
 clear h
 have HC2 := Aside0.mk H
 clear H
 go_enter Try.func19, Try.ntmps19
 go_upto_if 5 with (fail)
 go_cut [5] (fun v5 wc => ∃ (kq : Nat) (x5_1 : Bool), v5 = .bool x5_1 ∧ Aside0 (hauberkref02_Room.j0 kq a0 x5_1 = some (r1, r2)) ∧ Aside0 (kq ≤ k) ∧ Drawn0 w wc)
 case first =>
  have H := HC2.out
  clear HC2
  by_cases c3 : a0 = 73
  ·rw [if_pos c3] at H
   have c3b0 : (a0 == 73) = true := beq_iff_eq.mpr c3
   have c3b1 : (a0 != 73) = false := bne_eq_false_iff_eq.mpr c3
   clear c3
   (first | rw [c3b0] | (simp only [i64_w, i32_w]; rw [c3b0]) | skip)
   have H' := Aside0.mk H
   clear H
   go_wp2
   go_meet
   case rel => exact ⟨_, ((a0 == 73)), (by first | rfl | (simp; done) | (simp [*]; done)), H', ⟨by first | omega | exact Nat.le_refl _⟩, by repeat (first | exact Drawn0.refl _ | apply Drawn0.step)⟩
  ·rw [if_neg c3] at H
   have c3b0 : (a0 == 73) = false := beq_eq_false_iff_ne.mpr c3
   have c3b1 : (a0 != 73) = true := bne_iff_ne.mpr c3
   (first | rw [c3b0] | (simp only [i64_w, i32_w]; rw [c3b0]) | skip)
   have H' := Aside0.mk H
   clear H
   go_wp2
   go_meet
   case rel => exact ⟨_, ((a0 == 83)), (by first | rfl | (simp; done) | (simp [*]; done)), H', ⟨by first | omega | exact Nat.le_refl _⟩, by repeat (first | exact Drawn0.refl _ | apply Drawn0.step)⟩
 case rest =>
  clear HC2
  try clear c1
  try clear p2
  try clear c3
  try clear c3b0
  try clear c3b1
  obtain ⟨kq, x5_1, rfl, HA, HJ1, ⟨mc1, rfl⟩⟩ := hcut
  cases kq with
  | zero => exact absurd HA.out (by simp [hauberkref02_Room.j0])
  | succ kj1 =>
   have H := HA.out
   clear HA
   simp only [hauberkref02_Room.j0] at H
   by_cases c4 : x5_1 = true
   ·subst c4
    have H1 : (some ((-2048), 2047)) = some (r1, r2) := by rw [if_pos rfl] at H; exact H
    clear H
    have H := H1
    clear H1
    simp only [Option.some.injEq, Prod.mk.injEq] at H
    obtain ⟨rfl, rfl⟩ := H
    go_wp2
    go_ret2
    exact ⟨by first | rfl | (simp; done) | (simp [*]; done), by repeat (first | exact Drawn0.refl _ | apply Drawn0.step)⟩
   ·replace c4 := Bool.eq_false_iff.mpr c4
    subst c4
    have H1 : (if a0 = 84 then (some (0, 63)) else (if a0 = 66 then (some ((-4096), 4094)) else (if a0 = 85 then (some ((-524288), 524287)) else (if a0 = 74 then (some ((-1048576), 1048574)) else (some (1, 0)))))) = some (r1, r2) := by rw [if_neg (show ¬ (false = true) by decide)] at H; exact H
    clear H
    have H := H1
    clear H1
    by_cases c5 : a0 = 84
    ·rw [if_pos c5] at H
     have c5b0 : (a0 == 84) = true := beq_iff_eq.mpr c5
     have c5b1 : (a0 != 84) = false := bne_eq_false_iff_eq.mpr c5
     clear c5
     simp only [Option.some.injEq, Prod.mk.injEq] at H
     obtain ⟨rfl, rfl⟩ := H
     go_wp2
     go_ret2
     exact ⟨by first | rfl | (simp; done) | (simp [*]; done), by repeat (first | exact Drawn0.refl _ | apply Drawn0.step)⟩
    ·rw [if_neg c5] at H
     have c5b0 : (a0 == 84) = false := beq_eq_false_iff_ne.mpr c5
     have c5b1 : (a0 != 84) = true := bne_iff_ne.mpr c5
     by_cases c6 : a0 = 66
     ·rw [if_pos c6] at H
      have c6b0 : (a0 == 66) = true := beq_iff_eq.mpr c6
      have c6b1 : (a0 != 66) = false := bne_eq_false_iff_eq.mpr c6
      clear c6
      simp only [Option.some.injEq, Prod.mk.injEq] at H
      obtain ⟨rfl, rfl⟩ := H
      go_wp2
      go_ret2
      exact ⟨by first | rfl | (simp; done) | (simp [*]; done), by repeat (first | exact Drawn0.refl _ | apply Drawn0.step)⟩
     ·rw [if_neg c6] at H
      have c6b0 : (a0 == 66) = false := beq_eq_false_iff_ne.mpr c6
      have c6b1 : (a0 != 66) = true := bne_iff_ne.mpr c6
      by_cases c7 : a0 = 85
      ·rw [if_pos c7] at H
       have c7b0 : (a0 == 85) = true := beq_iff_eq.mpr c7
       have c7b1 : (a0 != 85) = false := bne_eq_false_iff_eq.mpr c7
       clear c7
       simp only [Option.some.injEq, Prod.mk.injEq] at H
       obtain ⟨rfl, rfl⟩ := H
       go_wp2
       go_ret2
       exact ⟨by first | rfl | (simp; done) | (simp [*]; done), by repeat (first | exact Drawn0.refl _ | apply Drawn0.step)⟩
      ·rw [if_neg c7] at H
       have c7b0 : (a0 == 85) = false := beq_eq_false_iff_ne.mpr c7
       have c7b1 : (a0 != 85) = true := bne_iff_ne.mpr c7
       by_cases c8 : a0 = 74
       ·rw [if_pos c8] at H
        have c8b0 : (a0 == 74) = true := beq_iff_eq.mpr c8
        have c8b1 : (a0 != 74) = false := bne_eq_false_iff_eq.mpr c8
        clear c8
        simp only [Option.some.injEq, Prod.mk.injEq] at H
        obtain ⟨rfl, rfl⟩ := H
        go_wp2
        go_ret2
        exact ⟨by first | rfl | (simp; done) | (simp [*]; done), by repeat (first | exact Drawn0.refl _ | apply Drawn0.step)⟩
       ·rw [if_neg c8] at H
        have c8b0 : (a0 == 74) = false := beq_eq_false_iff_ne.mpr c8
        have c8b1 : (a0 != 74) = true := bne_iff_ne.mpr c8
        simp only [Option.some.injEq, Prod.mk.injEq] at H
        obtain ⟨rfl, rfl⟩ := H
        go_wp2
        go_ret2
        exact ⟨by first | rfl | (simp; done) | (simp [*]; done), by repeat (first | exact Drawn0.refl _ | apply Drawn0.step)⟩

end Go.Proofs.Ytkacoffiinggiaa.K
