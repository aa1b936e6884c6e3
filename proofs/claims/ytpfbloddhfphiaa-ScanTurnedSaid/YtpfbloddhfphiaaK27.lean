/- What Go functions of this seat answer: each has a Lean function ('.f') and a contract ('.calls'). Conditions: those of each theorem. Written by a program over the kit's printer; what is marked 'typed by hand' is this session's. -/
import Derived.Test.YtpfbloddhfphiaaK0
namespace Go.Proofs.Ytpfbloddhfphiaa.K
open Go.RowKit Go.Proofs.YtpfbloddhfphiaaW.PrintWords Go.Proofs.YtpfbloddhfphiaaW.PrintLast Go.Proofs.YtpfbloddhfphiaaW.PrintMore
attribute [local go_sem] max2_int min2_int max_two min_two max_three min_three max_four min_four   -- for this text's walks alone
set_option linter.unusedVariables false
set_option linter.unusedSimpArgs false

/-! ### hauberkref16_few: function 25 -/
mutual
def hauberkref16_few.l0 : Nat → List (S34) → List Bool → Int → Int → Int → Option (Bool)
 | 0, _, _, _, _, _ => none
 | k + 1, x0, x1, x2, x11, x12 => if x12 < x11 then (hauberkref16_few.l1 k x0 x1 x2 x12 0 x11 x12 (x0.length : Int) 0) else (some true)
def hauberkref16_few.l1 : Nat → List (S34) → List Bool → Int → Int → Int → Int → Int → Int → Int → Option (Bool)
 | 0, _, _, _, _, _, _, _, _, _ => none
 | k + 1, x0, x1, x2, x7, x8, x11, x12, x16, x17 => if x17 < x16 then (if 0 ≤ x7 then (if x7 < (x1.length : Int) then (if rdOf false x1 x7 = true then (if 0 ≤ x17 then (if x17 < (x1.length : Int) then (if rdOf false x1 x17 = true then (if x7 < (x0.length : Int) then (if ((rd_T34 x0 x7).f0) ≤ ((rd_T34 x0 x7).f1) then (if x17 < (x0.length : Int) then (if ((rd_T34 x0 x17).f0) ≤ ((rd_T34 x0 x7).f0) then (if ((rd_T34 x0 x7).f0) ≤ ((rd_T34 x0 x17).f1) then (hauberkref16_few.l1 k x0 x1 x2 x7 (wrap64 (x8 + 1)) x11 x12 x16 (wrap64 (x17 + 1))) else (hauberkref16_few.l1 k x0 x1 x2 x7 x8 x11 x12 x16 (wrap64 (x17 + 1)))) else (hauberkref16_few.l1 k x0 x1 x2 x7 x8 x11 x12 x16 (wrap64 (x17 + 1)))) else (none)) else (hauberkref16_few.l1 k x0 x1 x2 x7 x8 x11 x12 x16 (wrap64 (x17 + 1)))) else (none)) else (hauberkref16_few.l1 k x0 x1 x2 x7 x8 x11 x12 x16 (wrap64 (x17 + 1)))) else (none)) else (none)) else (hauberkref16_few.l1 k x0 x1 x2 x7 x8 x11 x12 x16 (wrap64 (x17 + 1)))) else (none)) else (none)) else (if x8 > x2 then (some false) else (hauberkref16_few.l0 k x0 x1 x2 x11 (wrap64 (x12 + 1))))
end
def hauberkref16_few.f (k : Nat) (l0 : List (S34)) (l1 : List Bool) (a2 : Int) : Option (Bool) := hauberkref16_few.l0 k l0 l1 a2 (l0.length : Int) 0
theorem hauberkref16_few.mono_l : ∀ k, (∀ y0 y1 y2 y3 y4, LeO (hauberkref16_few.l0 k y0 y1 y2 y3 y4) (hauberkref16_few.l0 (k + 1) y0 y1 y2 y3 y4)) ∧ (∀ y0 y1 y2 y3 y4 y5 y6 y7 y8, LeO (hauberkref16_few.l1 k y0 y1 y2 y3 y4 y5 y6 y7 y8) (hauberkref16_few.l1 (k + 1) y0 y1 y2 y3 y4 y5 y6 y7 y8))
 | 0 => ⟨fun _ _ _ _ _ r h => by simp [hauberkref16_few.l0] at h, fun _ _ _ _ _ _ _ _ _ r h => by simp [hauberkref16_few.l1] at h⟩
 | k + 1 => by
  obtain ⟨ih0, ih1⟩ := hauberkref16_few.mono_l k
  refine ⟨?_, ?_⟩
  ·intro y0 y1 y2 y3 y4
   unfold hauberkref16_few.l0
   repeat' first
   | (with_reducible exact ih0 _ _ _ _ _)
   | (with_reducible exact ih1 _ _ _ _ _ _ _ _ _)
   | (with_reducible exact LeO.refl _)
   | (with_reducible exact LeO.none _)
   | (with_reducible refine LeO.ite ?_ ?_)
   | (with_reducible refine LeO.bind ?_ (fun _ => ?_))
   | exact ih0 _ _ _ _ _
   | exact ih1 _ _ _ _ _ _ _ _ _
   | exact LeO.none _
   | refine LeO.ite ?_ ?_
   | refine LeO.bind ?_ (fun _ => ?_)
  ·intro y0 y1 y2 y3 y4 y5 y6 y7 y8
   unfold hauberkref16_few.l1
   repeat' first
   | (with_reducible exact ih0 _ _ _ _ _)
   | (with_reducible exact ih1 _ _ _ _ _ _ _ _ _)
   | (with_reducible exact LeO.refl _)
   | (with_reducible exact LeO.none _)
   | (with_reducible refine LeO.ite ?_ ?_)
   | (with_reducible refine LeO.bind ?_ (fun _ => ?_))
   | exact ih0 _ _ _ _ _
   | exact ih1 _ _ _ _ _ _ _ _ _
   | exact LeO.none _
   | refine LeO.ite ?_ ?_
   | refine LeO.bind ?_ (fun _ => ?_)
theorem hauberkref16_few.mono : ∀ a0 a1 a2 k, LeO (hauberkref16_few.f k a0 a1 a2) (hauberkref16_few.f (k + 1) a0 a1 a2) := by
 intro a0 a1 a2 k
 obtain ⟨ih0, ih1⟩ := hauberkref16_few.mono_l k
 unfold hauberkref16_few.f
 repeat' first
   | (with_reducible exact ih0 _ _ _ _ _)
   | (with_reducible exact ih1 _ _ _ _ _ _ _ _ _)
   | (with_reducible exact LeO.refl _)
   | (with_reducible exact LeO.none _)
   | (with_reducible refine LeO.ite ?_ ?_)
   | (with_reducible refine LeO.bind ?_ (fun _ => ?_))
   | exact ih0 _ _ _ _ _
   | exact ih1 _ _ _ _ _ _ _ _ _
   | exact LeO.none _
   | refine LeO.ite ?_ ?_
   | refine LeO.bind ?_ (fun _ => ?_)
set_option maxHeartbeats 8000000 in
set_option maxRecDepth 100000 in
theorem hauberkref16_few.calls (k : Nat) (A0 : Option Addr) (c0 : Nat) (l0 : List (S34)) (A1 : Option Addr) (c1 : Nat) (l1 : List Bool) (a2 : Int) (r : Bool) (w : World) (hr0 : Kd.C k34 w A0 l0.length l0) (hc0 : l0.length ≤ c0) (hr1 : Kd.C Kd.bool w A1 l1.length l1) (hc1 : l1.length ≤ c1) (h : hauberkref16_few.f k l0 l1 a2 = some r) :
  Calls Try.prog 25 #[.slice A0 l0.length c0, .slice A1 l1.length c1, .int .i64 a2] w fun e w' => e = .returned (.bool r) ∧ Drawn0 w w' := by
 have HR0 := Aside0.mk hr0
 have HC0 := Aside0.mk hc0
 clear hr0 hc0
 have HR1 := Aside0.mk hr1
 have HC1 := Aside0.mk hc1
 clear hr1 hc1
 have H : (hauberkref16_few.l0 k l0 l1 a2 (l0.length : Int) 0) = some r := h
 clear h
 have H' := Aside0.mk H
 clear H
 go_enter Try.func25, Try.ntmps25
 go_wp2
 repeat (go_quiet (fail); try go_wp2)
 go_loopg [12] k (fun kq v12 w' => ∃ (x12_1 : Int), v12 = .int .i64 x12_1 ∧ Aside0 (hauberkref16_few.l0 kq l0 l1 a2 (l0.length : Int) x12_1 = some r) ∧ Aside0 (kq ≤ k) ∧ Drawn0 w w')
 case atStart => exact ⟨(0), (by first | rfl | (simp; done) | (simp [*]; done)), H', ⟨Nat.le_refl _⟩, by repeat (first | exact Drawn0.refl _ | apply Drawn0.step)⟩
 case round =>
  clear H'
  try clear c1
  try clear c2
  try clear p2
  obtain ⟨x12_1, rfl, HA, HK1, ⟨m1, rfl⟩⟩ := hrel
  cases gk with
  | zero => exact absurd HA.out (by simp [hauberkref16_few.l0])
  | succ k1 =>
   have H := HA.out
   clear HA
   simp only [hauberkref16_few.l0] at H
   by_cases c4 : x12_1 < (l0.length : Int)
   ·rw [if_pos c4] at H
    have c4b0 : decide (x12_1 < (l0.length : Int)) = true := decide_eq_true c4
    clear c4
    have H' := Aside0.mk H
    clear H
    go_wp2
    repeat (go_quiet (fail); try go_wp2)
    go_loopg [8, 17] k1 (fun kq v8 v17 w' => ∃ (x8_2 : Int) (x17_2 : Int), v8 = .int .i64 x8_2 ∧ v17 = .int .i64 x17_2 ∧ Aside0 (hauberkref16_few.l1 kq l0 l1 a2 x12_1 x8_2 (l0.length : Int) x12_1 (l0.length : Int) x17_2 = some r) ∧ Aside0 (kq ≤ k1) ∧ Drawn0 w w')
    case atStart => exact ⟨(0), (0), (by first | rfl | (simp; done) | (simp [*]; done)), (by first | rfl | (simp; done) | (simp [*]; done)), H', ⟨Nat.le_refl _⟩, by repeat (first | exact Drawn0.refl _ | apply Drawn0.step)⟩
    case round =>
     clear H'
     try clear c1
     try clear c2
     try clear p2
     try clear c4
     try clear c4b0
     try clear p2
     obtain ⟨x8_2, x17_2, rfl, rfl, HA, HK2, ⟨m2, rfl⟩⟩ := hrel
     cases gk with
     | zero => exact absurd HA.out (by simp [hauberkref16_few.l1])
     | succ k2 =>
      have H := HA.out
      clear HA
      simp only [hauberkref16_few.l1] at H
      by_cases c5 : x17_2 < (l0.length : Int)
      ·rw [if_pos c5] at H
       have c5b0 : decide (x17_2 < (l0.length : Int)) = true := decide_eq_true c5
       clear c5
       by_cases c6 : 0 ≤ x12_1
       ·rw [if_pos c6] at H
        have c6b0 : decide (0 ≤ x12_1) = true := decide_eq_true c6
        clear c6
        by_cases c7 : x12_1 < (l1.length : Int)
        ·rw [if_pos c7] at H
         have c7b0 : decide (x12_1 < (l1.length : Int)) = true := decide_eq_true c7
         clear c7
         obtain ⟨bq8, hbq8⟩ : ∃ b_ : Bool, b_ = (rdOf false l1 x12_1) := ⟨_, rfl⟩
         replace H : (if bq8 = true then (if 0 ≤ x17_2 then (if x17_2 < (l1.length : Int) then (if rdOf false l1 x17_2 = true then (if x12_1 < (l0.length : Int) then (if ((rd_T34 l0 x12_1).f0) ≤ ((rd_T34 l0 x12_1).f1) then (if x17_2 < (l0.length : Int) then (if ((rd_T34 l0 x17_2).f0) ≤ ((rd_T34 l0 x12_1).f0) then (if ((rd_T34 l0 x12_1).f0) ≤ ((rd_T34 l0 x17_2).f1) then (hauberkref16_few.l1 k2 l0 l1 a2 x12_1 (wrap64 (x8_2 + 1)) (l0.length : Int) x12_1 (l0.length : Int) (wrap64 (x17_2 + 1))) else (hauberkref16_few.l1 k2 l0 l1 a2 x12_1 x8_2 (l0.length : Int) x12_1 (l0.length : Int) (wrap64 (x17_2 + 1)))) else (hauberkref16_few.l1 k2 l0 l1 a2 x12_1 x8_2 (l0.length : Int) x12_1 (l0.length : Int) (wrap64 (x17_2 + 1)))) else (none)) else (hauberkref16_few.l1 k2 l0 l1 a2 x12_1 x8_2 (l0.length : Int) x12_1 (l0.length : Int) (wrap64 (x17_2 + 1)))) else (none)) else (hauberkref16_few.l1 k2 l0 l1 a2 x12_1 x8_2 (l0.length : Int) x12_1 (l0.length : Int) (wrap64 (x17_2 + 1)))) else (none)) else (none)) else (hauberkref16_few.l1 k2 l0 l1 a2 x12_1 x8_2 (l0.length : Int) x12_1 (l0.length : Int) (wrap64 (x17_2 + 1)))) = some r := by rw [← hbq8] at H; exact H
         have Nbq8 := Aside0.mk hbq8
         clear hbq8
         by_cases c9 : bq8 = true
         ·subst c9
          have H1 : (if 0 ≤ x17_2 then (if x17_2 < (l1.length : Int) then (if rdOf false l1 x17_2 = true then (if x12_1 < (l0.length : Int) then (if ((rd_T34 l0 x12_1).f0) ≤ ((rd_T34 l0 x12_1).f1) then (if x17_2 < (l0.length : Int) then (if ((rd_T34 l0 x17_2).f0) ≤ ((rd_T34 l0 x12_1).f0) then (if ((rd_T34 l0 x12_1).f0) ≤ ((rd_T34 l0 x17_2).f1) then (hauberkref16_few.l1 k2 l0 l1 a2 x12_1 (wrap64 (x8_2 + 1)) (l0.length : Int) x12_1 (l0.length : Int) (wrap64 (x17_2 + 1))) else (hauberkref16_few.l1 k2 l0 l1 a2 x12_1 x8_2 (l0.length : Int) x12_1 (l0.length : Int) (wrap64 (x17_2 + 1)))) else (hauberkref16_few.l1 k2 l0 l1 a2 x12_1 x8_2 (l0.length : Int) x12_1 (l0.length : Int) (wrap64 (x17_2 + 1)))) else (none)) else (hauberkref16_few.l1 k2 l0 l1 a2 x12_1 x8_2 (l0.length : Int) x12_1 (l0.length : Int) (wrap64 (x17_2 + 1)))) else (none)) else (hauberkref16_few.l1 k2 l0 l1 a2 x12_1 x8_2 (l0.length : Int) x12_1 (l0.length : Int) (wrap64 (x17_2 + 1)))) else (none)) else (none)) = some r := by rw [if_pos rfl] at H; exact H
          clear H
          have H := H1
          clear H1
          by_cases c10 : 0 ≤ x17_2
          ·rw [if_pos c10] at H
           have c10b0 : decide (0 ≤ x17_2) = true := decide_eq_true c10
           clear c10
           by_cases c11 : x17_2 < (l1.length : Int)
           ·rw [if_pos c11] at H
            have c11b0 : decide (x17_2 < (l1.length : Int)) = true := decide_eq_true c11
            clear c11
            obtain ⟨bq12, hbq12⟩ : ∃ b_ : Bool, b_ = (rdOf false l1 x17_2) := ⟨_, rfl⟩
            replace H : (if bq12 = true then (if x12_1 < (l0.length : Int) then (if ((rd_T34 l0 x12_1).f0) ≤ ((rd_T34 l0 x12_1).f1) then (if x17_2 < (l0.length : Int) then (if ((rd_T34 l0 x17_2).f0) ≤ ((rd_T34 l0 x12_1).f0) then (if ((rd_T34 l0 x12_1).f0) ≤ ((rd_T34 l0 x17_2).f1) then (hauberkref16_few.l1 k2 l0 l1 a2 x12_1 (wrap64 (x8_2 + 1)) (l0.length : Int) x12_1 (l0.length : Int) (wrap64 (x17_2 + 1))) else (hauberkref16_few.l1 k2 l0 l1 a2 x12_1 x8_2 (l0.length : Int) x12_1 (l0.length : Int) (wrap64 (x17_2 + 1)))) else (hauberkref16_few.l1 k2 l0 l1 a2 x12_1 x8_2 (l0.length : Int) x12_1 (l0.length : Int) (wrap64 (x17_2 + 1)))) else (none)) else (hauberkref16_few.l1 k2 l0 l1 a2 x12_1 x8_2 (l0.length : Int) x12_1 (l0.length : Int) (wrap64 (x17_2 + 1)))) else (none)) else (hauberkref16_few.l1 k2 l0 l1 a2 x12_1 x8_2 (l0.length : Int) x12_1 (l0.length : Int) (wrap64 (x17_2 + 1)))) = some r := by rw [← hbq12] at H; exact H
            have Nbq12 := Aside0.mk hbq12
            clear hbq12
            by_cases c13 : bq12 = true
            ·subst c13
             have H1 : (if x12_1 < (l0.length : Int) then (if ((rd_T34 l0 x12_1).f0) ≤ ((rd_T34 l0 x12_1).f1) then (if x17_2 < (l0.length : Int) then (if ((rd_T34 l0 x17_2).f0) ≤ ((rd_T34 l0 x12_1).f0) then (if ((rd_T34 l0 x12_1).f0) ≤ ((rd_T34 l0 x17_2).f1) then (hauberkref16_few.l1 k2 l0 l1 a2 x12_1 (wrap64 (x8_2 + 1)) (l0.length : Int) x12_1 (l0.length : Int) (wrap64 (x17_2 + 1))) else (hauberkref16_few.l1 k2 l0 l1 a2 x12_1 x8_2 (l0.length : Int) x12_1 (l0.length : Int) (wrap64 (x17_2 + 1)))) else (hauberkref16_few.l1 k2 l0 l1 a2 x12_1 x8_2 (l0.length : Int) x12_1 (l0.length : Int) (wrap64 (x17_2 + 1)))) else (none)) else (hauberkref16_few.l1 k2 l0 l1 a2 x12_1 x8_2 (l0.length : Int) x12_1 (l0.length : Int) (wrap64 (x17_2 + 1)))) else (none)) = some r := by rw [if_pos rfl] at H; exact H
             clear H
             have H := H1
             clear H1
             by_cases c14 : x12_1 < (l0.length : Int)
             ·rw [if_pos c14] at H
              have c14b0 : decide (x12_1 < (l0.length : Int)) = true := decide_eq_true c14
              clear c14
              by_cases c15 : ((rd_T34 l0 x12_1).f0) ≤ ((rd_T34 l0 x12_1).f1)
              ·rw [if_pos c15] at H
               have c15b0 : decide (((rd_T34 l0 x12_1).f0) ≤ ((rd_T34 l0 x12_1).f1)) = true := decide_eq_true c15
               clear c15
               by_cases c16 : x17_2 < (l0.length : Int)
               ·rw [if_pos c16] at H
                have c16b0 : decide (x17_2 < (l0.length : Int)) = true := decide_eq_true c16
                clear c16
                by_cases c17 : ((rd_T34 l0 x17_2).f0) ≤ ((rd_T34 l0 x12_1).f0)
                ·rw [if_pos c17] at H
                 have c17b0 : decide (((rd_T34 l0 x17_2).f0) ≤ ((rd_T34 l0 x12_1).f0)) = true := decide_eq_true c17
                 clear c17
                 by_cases c18 : ((rd_T34 l0 x12_1).f0) ≤ ((rd_T34 l0 x17_2).f1)
                 ·rw [if_pos c18] at H
                  have c18b0 : decide (((rd_T34 l0 x12_1).f0) ≤ ((rd_T34 l0 x17_2).f1)) = true := decide_eq_true c18
                  clear c18
                  have H' := Aside0.mk H
                  clear H
                  have p138 : 0 ≤ (x12_1 : Int) := of_decide_eq_true (by first | (with_reducible assumption) | assumption)
                  have q138 : x12_1 < (l1.length : Int) := of_decide_eq_true (by first | (with_reducible assumption) | assumption)
                  obtain ⟨ad138, e138, hx138_0⟩ := Kd.at_bool HR1.out x12_1 p138 q138
                  (try rw [← Nbq8.out] at hx138_0)
                  (try rw [← Nbq12.out] at hx138_0)
                  cases e138
                  replace p138 := eq_true p138
                  replace q138 := eq_true q138
                  have p139 : 0 ≤ (x17_2 : Int) := of_decide_eq_true (by first | (with_reducible assumption) | assumption)
                  have q139 : x17_2 < (l1.length : Int) := of_decide_eq_true (by first | (with_reducible assumption) | assumption)
                  obtain ⟨ad139, e139, hx139_0⟩ := Kd.at_bool HR1.out x17_2 p139 q139
                  (try rw [← Nbq8.out] at hx139_0)
                  (try rw [← Nbq12.out] at hx139_0)
                  obtain rfl : ad138 = ad139 := (by injection e139)
                  replace p139 := eq_true p139
                  replace q139 := eq_true q139
                  have p140 : 0 ≤ (x12_1 : Int) := of_decide_eq_true (by first | (with_reducible assumption) | assumption)
                  have q140 : x12_1 < (l0.length : Int) := of_decide_eq_true (by first | (with_reducible assumption) | assumption)
                  obtain ⟨ad140, e140, hx140_0, hx140_1⟩ := at_T34 HR0.out x12_1 p140 q140
                  cases e140
                  replace p140 := eq_true p140
                  replace q140 := eq_true q140
                  have p141 : 0 ≤ (x12_1 : Int) := of_decide_eq_true (by first | (with_reducible assumption) | assumption)
                  have q141 : x12_1 < (l0.length : Int) := of_decide_eq_true (by first | (with_reducible assumption) | assumption)
                  obtain ⟨ad141, e141, hx141_0, hx141_1⟩ := at_T34 HR0.out x12_1 p141 q141
                  obtain rfl : ad140 = ad141 := (by injection e141)
                  replace p141 := eq_true p141
                  replace q141 := eq_true q141
                  have p142 : 0 ≤ (x17_2 : Int) := of_decide_eq_true (by first | (with_reducible assumption) | assumption)
                  have q142 : x17_2 < (l0.length : Int) := of_decide_eq_true (by first | (with_reducible assumption) | assumption)
                  obtain ⟨ad142, e142, hx142_0, hx142_1⟩ := at_T34 HR0.out x17_2 p142 q142
                  obtain rfl : ad140 = ad142 := (by injection e142)
                  replace p142 := eq_true p142
                  replace q142 := eq_true q142
                  have p143 : 0 ≤ (x12_1 : Int) := of_decide_eq_true (by first | (with_reducible assumption) | assumption)
                  have q143 : x12_1 < (l0.length : Int) := of_decide_eq_true (by first | (with_reducible assumption) | assumption)
                  obtain ⟨ad143, e143, hx143_0, hx143_1⟩ := at_T34 HR0.out x12_1 p143 q143
                  obtain rfl : ad140 = ad143 := (by injection e143)
                  replace p143 := eq_true p143
                  replace q143 := eq_true q143
                  have p144 : 0 ≤ (x12_1 : Int) := of_decide_eq_true (by first | (with_reducible assumption) | assumption)
                  have q144 : x12_1 < (l0.length : Int) := of_decide_eq_true (by first | (with_reducible assumption) | assumption)
                  obtain ⟨ad144, e144, hx144_0, hx144_1⟩ := at_T34 HR0.out x12_1 p144 q144
                  obtain rfl : ad140 = ad144 := (by injection e144)
                  replace p144 := eq_true p144
                  replace q144 := eq_true q144
                  have p145 : 0 ≤ (x17_2 : Int) := of_decide_eq_true (by first | (with_reducible assumption) | assumption)
                  have q145 : x17_2 < (l0.length : Int) := of_decide_eq_true (by first | (with_reducible assumption) | assumption)
                  obtain ⟨ad145, e145, hx145_0, hx145_1⟩ := at_T34 HR0.out x17_2 p145 q145
                  obtain rfl : ad140 = ad145 := (by injection e145)
                  replace p145 := eq_true p145
                  replace q145 := eq_true q145
                  go_wp2
                  repeat (go_quiet (fail); try go_wp2)
                  go_roundg k2
                  case measure => have := HK1.out; have := HK2.out; omega
                  case rel => exact ⟨(wrap64 (x8_2 + 1)), (wrap64 (x17_2 + 1)), (by first | rfl | (simp; done) | (simp [*]; done)), (by first | rfl | (simp; done) | (simp [*]; done)), H', ⟨by have := HK1.out; have := HK2.out; omega⟩, by repeat (first | exact Drawn0.refl _ | apply Drawn0.step)⟩
                 ·rw [if_neg c18] at H
                  have c18b0 : decide (((rd_T34 l0 x12_1).f0) ≤ ((rd_T34 l0 x17_2).f1)) = false := decide_eq_false c18
                  clear c18
                  have H' := Aside0.mk H
                  clear H
                  have p138 : 0 ≤ (x12_1 : Int) := of_decide_eq_true (by first | (with_reducible assumption) | assumption)
                  have q138 : x12_1 < (l1.length : Int) := of_decide_eq_true (by first | (with_reducible assumption) | assumption)
                  obtain ⟨ad138, e138, hx138_0⟩ := Kd.at_bool HR1.out x12_1 p138 q138
                  (try rw [← Nbq8.out] at hx138_0)
                  (try rw [← Nbq12.out] at hx138_0)
                  cases e138
                  replace p138 := eq_true p138
                  replace q138 := eq_true q138
                  have p139 : 0 ≤ (x17_2 : Int) := of_decide_eq_true (by first | (with_reducible assumption) | assumption)
                  have q139 : x17_2 < (l1.length : Int) := of_decide_eq_true (by first | (with_reducible assumption) | assumption)
                  obtain ⟨ad139, e139, hx139_0⟩ := Kd.at_bool HR1.out x17_2 p139 q139
                  (try rw [← Nbq8.out] at hx139_0)
                  (try rw [← Nbq12.out] at hx139_0)
                  obtain rfl : ad138 = ad139 := (by injection e139)
                  replace p139 := eq_true p139
                  replace q139 := eq_true q139
                  have p140 : 0 ≤ (x12_1 : Int) := of_decide_eq_true (by first | (with_reducible assumption) | assumption)
                  have q140 : x12_1 < (l0.length : Int) := of_decide_eq_true (by first | (with_reducible assumption) | assumption)
                  obtain ⟨ad140, e140, hx140_0, hx140_1⟩ := at_T34 HR0.out x12_1 p140 q140
                  cases e140
                  replace p140 := eq_true p140
                  replace q140 := eq_true q140
                  have p141 : 0 ≤ (x12_1 : Int) := of_decide_eq_true (by first | (with_reducible assumption) | assumption)
                  have q141 : x12_1 < (l0.length : Int) := of_decide_eq_true (by first | (with_reducible assumption) | assumption)
                  obtain ⟨ad141, e141, hx141_0, hx141_1⟩ := at_T34 HR0.out x12_1 p141 q141
                  obtain rfl : ad140 = ad141 := (by injection e141)
                  replace p141 := eq_true p141
                  replace q141 := eq_true q141
                  have p142 : 0 ≤ (x17_2 : Int) := of_decide_eq_true (by first | (with_reducible assumption) | assumption)
                  have q142 : x17_2 < (l0.length : Int) := of_decide_eq_true (by first | (with_reducible assumption) | assumption)
                  obtain ⟨ad142, e142, hx142_0, hx142_1⟩ := at_T34 HR0.out x17_2 p142 q142
                  obtain rfl : ad140 = ad142 := (by injection e142)
                  replace p142 := eq_true p142
                  replace q142 := eq_true q142
                  have p143 : 0 ≤ (x12_1 : Int) := of_decide_eq_true (by first | (with_reducible assumption) | assumption)
                  have q143 : x12_1 < (l0.length : Int) := of_decide_eq_true (by first | (with_reducible assumption) | assumption)
                  obtain ⟨ad143, e143, hx143_0, hx143_1⟩ := at_T34 HR0.out x12_1 p143 q143
                  obtain rfl : ad140 = ad143 := (by injection e143)
                  replace p143 := eq_true p143
                  replace q143 := eq_true q143
                  have p144 : 0 ≤ (x12_1 : Int) := of_decide_eq_true (by first | (with_reducible assumption) | assumption)
                  have q144 : x12_1 < (l0.length : Int) := of_decide_eq_true (by first | (with_reducible assumption) | assumption)
                  obtain ⟨ad144, e144, hx144_0, hx144_1⟩ := at_T34 HR0.out x12_1 p144 q144
                  obtain rfl : ad140 = ad144 := (by injection e144)
                  replace p144 := eq_true p144
                  replace q144 := eq_true q144
                  have p145 : 0 ≤ (x17_2 : Int) := of_decide_eq_true (by first | (with_reducible assumption) | assumption)
                  have q145 : x17_2 < (l0.length : Int) := of_decide_eq_true (by first | (with_reducible assumption) | assumption)
                  obtain ⟨ad145, e145, hx145_0, hx145_1⟩ := at_T34 HR0.out x17_2 p145 q145
                  obtain rfl : ad140 = ad145 := (by injection e145)
                  replace p145 := eq_true p145
                  replace q145 := eq_true q145
                  go_wp2
                  repeat (go_quiet (fail); try go_wp2)
                  go_roundg k2
                  case measure => have := HK1.out; have := HK2.out; omega
                  case rel => exact ⟨(x8_2), (wrap64 (x17_2 + 1)), (by first | rfl | (simp; done) | (simp [*]; done)), (by first | rfl | (simp; done) | (simp [*]; done)), H', ⟨by have := HK1.out; have := HK2.out; omega⟩, by repeat (first | exact Drawn0.refl _ | apply Drawn0.step)⟩
                ·rw [if_neg c17] at H
                 have c17b0 : decide (((rd_T34 l0 x17_2).f0) ≤ ((rd_T34 l0 x12_1).f0)) = false := decide_eq_false c17
                 clear c17
                 have H' := Aside0.mk H
                 clear H
                 have p138 : 0 ≤ (x12_1 : Int) := of_decide_eq_true (by first | (with_reducible assumption) | assumption)
                 have q138 : x12_1 < (l1.length : Int) := of_decide_eq_true (by first | (with_reducible assumption) | assumption)
                 obtain ⟨ad138, e138, hx138_0⟩ := Kd.at_bool HR1.out x12_1 p138 q138
                 (try rw [← Nbq8.out] at hx138_0)
                 (try rw [← Nbq12.out] at hx138_0)
                 cases e138
                 replace p138 := eq_true p138
                 replace q138 := eq_true q138
                 have p139 : 0 ≤ (x17_2 : Int) := of_decide_eq_true (by first | (with_reducible assumption) | assumption)
                 have q139 : x17_2 < (l1.length : Int) := of_decide_eq_true (by first | (with_reducible assumption) | assumption)
                 obtain ⟨ad139, e139, hx139_0⟩ := Kd.at_bool HR1.out x17_2 p139 q139
                 (try rw [← Nbq8.out] at hx139_0)
                 (try rw [← Nbq12.out] at hx139_0)
                 obtain rfl : ad138 = ad139 := (by injection e139)
                 replace p139 := eq_true p139
                 replace q139 := eq_true q139
                 have p140 : 0 ≤ (x12_1 : Int) := of_decide_eq_true (by first | (with_reducible assumption) | assumption)
                 have q140 : x12_1 < (l0.length : Int) := of_decide_eq_true (by first | (with_reducible assumption) | assumption)
                 obtain ⟨ad140, e140, hx140_0, hx140_1⟩ := at_T34 HR0.out x12_1 p140 q140
                 cases e140
                 replace p140 := eq_true p140
                 replace q140 := eq_true q140
                 have p141 : 0 ≤ (x12_1 : Int) := of_decide_eq_true (by first | (with_reducible assumption) | assumption)
                 have q141 : x12_1 < (l0.length : Int) := of_decide_eq_true (by first | (with_reducible assumption) | assumption)
                 obtain ⟨ad141, e141, hx141_0, hx141_1⟩ := at_T34 HR0.out x12_1 p141 q141
                 obtain rfl : ad140 = ad141 := (by injection e141)
                 replace p141 := eq_true p141
                 replace q141 := eq_true q141
                 have p142 : 0 ≤ (x17_2 : Int) := of_decide_eq_true (by first | (with_reducible assumption) | assumption)
                 have q142 : x17_2 < (l0.length : Int) := of_decide_eq_true (by first | (with_reducible assumption) | assumption)
                 obtain ⟨ad142, e142, hx142_0, hx142_1⟩ := at_T34 HR0.out x17_2 p142 q142
                 obtain rfl : ad140 = ad142 := (by injection e142)
                 replace p142 := eq_true p142
                 replace q142 := eq_true q142
                 have p143 : 0 ≤ (x12_1 : Int) := of_decide_eq_true (by first | (with_reducible assumption) | assumption)
                 have q143 : x12_1 < (l0.length : Int) := of_decide_eq_true (by first | (with_reducible assumption) | assumption)
                 obtain ⟨ad143, e143, hx143_0, hx143_1⟩ := at_T34 HR0.out x12_1 p143 q143
                 obtain rfl : ad140 = ad143 := (by injection e143)
                 replace p143 := eq_true p143
                 replace q143 := eq_true q143
                 go_wp2
                 repeat (go_quiet (fail); try go_wp2)
                 go_roundg k2
                 case measure => have := HK1.out; have := HK2.out; omega
                 case rel => exact ⟨(x8_2), (wrap64 (x17_2 + 1)), (by first | rfl | (simp; done) | (simp [*]; done)), (by first | rfl | (simp; done) | (simp [*]; done)), H', ⟨by have := HK1.out; have := HK2.out; omega⟩, by repeat (first | exact Drawn0.refl _ | apply Drawn0.step)⟩
               ·rw [if_neg c16] at H
                exact absurd H (by simp)
              ·rw [if_neg c15] at H
               have c15b0 : decide (((rd_T34 l0 x12_1).f0) ≤ ((rd_T34 l0 x12_1).f1)) = false := decide_eq_false c15
               clear c15
               have H' := Aside0.mk H
               clear H
               have p138 : 0 ≤ (x12_1 : Int) := of_decide_eq_true (by first | (with_reducible assumption) | assumption)
               have q138 : x12_1 < (l1.length : Int) := of_decide_eq_true (by first | (with_reducible assumption) | assumption)
               obtain ⟨ad138, e138, hx138_0⟩ := Kd.at_bool HR1.out x12_1 p138 q138
               (try rw [← Nbq8.out] at hx138_0)
               (try rw [← Nbq12.out] at hx138_0)
               cases e138
               replace p138 := eq_true p138
               replace q138 := eq_true q138
               have p139 : 0 ≤ (x17_2 : Int) := of_decide_eq_true (by first | (with_reducible assumption) | assumption)
               have q139 : x17_2 < (l1.length : Int) := of_decide_eq_true (by first | (with_reducible assumption) | assumption)
               obtain ⟨ad139, e139, hx139_0⟩ := Kd.at_bool HR1.out x17_2 p139 q139
               (try rw [← Nbq8.out] at hx139_0)
               (try rw [← Nbq12.out] at hx139_0)
               obtain rfl : ad138 = ad139 := (by injection e139)
               replace p139 := eq_true p139
               replace q139 := eq_true q139
               have p140 : 0 ≤ (x12_1 : Int) := of_decide_eq_true (by first | (with_reducible assumption) | assumption)
               have q140 : x12_1 < (l0.length : Int) := of_decide_eq_true (by first | (with_reducible assumption) | assumption)
               obtain ⟨ad140, e140, hx140_0, hx140_1⟩ := at_T34 HR0.out x12_1 p140 q140
               cases e140
               replace p140 := eq_true p140
               replace q140 := eq_true q140
               have p141 : 0 ≤ (x12_1 : Int) := of_decide_eq_true (by first | (with_reducible assumption) | assumption)
               have q141 : x12_1 < (l0.length : Int) := of_decide_eq_true (by first | (with_reducible assumption) | assumption)
               obtain ⟨ad141, e141, hx141_0, hx141_1⟩ := at_T34 HR0.out x12_1 p141 q141
               obtain rfl : ad140 = ad141 := (by injection e141)
               replace p141 := eq_true p141
               replace q141 := eq_true q141
               go_wp2
               repeat (go_quiet (fail); try go_wp2)
               go_roundg k2
               case measure => have := HK1.out; have := HK2.out; omega
               case rel => exact ⟨(x8_2), (wrap64 (x17_2 + 1)), (by first | rfl | (simp; done) | (simp [*]; done)), (by first | rfl | (simp; done) | (simp [*]; done)), H', ⟨by have := HK1.out; have := HK2.out; omega⟩, by repeat (first | exact Drawn0.refl _ | apply Drawn0.step)⟩
             ·rw [if_neg c14] at H
              exact absurd H (by simp)
            ·replace c13 := Bool.eq_false_iff.mpr c13
             subst c13
             have H1 : (hauberkref16_few.l1 k2 l0 l1 a2 x12_1 x8_2 (l0.length : Int) x12_1 (l0.length : Int) (wrap64 (x17_2 + 1))) = some r := by rw [if_neg (show ¬ (false = true) by decide)] at H; exact H
             clear H
             have H := H1
             clear H1
             have H' := Aside0.mk H
             clear H
             have p138 : 0 ≤ (x12_1 : Int) := of_decide_eq_true (by first | (with_reducible assumption) | assumption)
             have q138 : x12_1 < (l1.length : Int) := of_decide_eq_true (by first | (with_reducible assumption) | assumption)
             obtain ⟨ad138, e138, hx138_0⟩ := Kd.at_bool HR1.out x12_1 p138 q138
             (try rw [← Nbq8.out] at hx138_0)
             (try rw [← Nbq12.out] at hx138_0)
             cases e138
             replace p138 := eq_true p138
             replace q138 := eq_true q138
             have p139 : 0 ≤ (x17_2 : Int) := of_decide_eq_true (by first | (with_reducible assumption) | assumption)
             have q139 : x17_2 < (l1.length : Int) := of_decide_eq_true (by first | (with_reducible assumption) | assumption)
             obtain ⟨ad139, e139, hx139_0⟩ := Kd.at_bool HR1.out x17_2 p139 q139
             (try rw [← Nbq8.out] at hx139_0)
             (try rw [← Nbq12.out] at hx139_0)
             obtain rfl : ad138 = ad139 := (by injection e139)
             replace p139 := eq_true p139
             replace q139 := eq_true q139
             go_wp2
             repeat (go_quiet (fail); try go_wp2)
             go_roundg k2
             case measure => have := HK1.out; have := HK2.out; omega
             case rel => exact ⟨(x8_2), (wrap64 (x17_2 + 1)), (by first | rfl | (simp; done) | (simp [*]; done)), (by first | rfl | (simp; done) | (simp [*]; done)), H', ⟨by have := HK1.out; have := HK2.out; omega⟩, by repeat (first | exact Drawn0.refl _ | apply Drawn0.step)⟩
           ·rw [if_neg c11] at H
            exact absurd H (by simp)
          ·rw [if_neg c10] at H
           exact absurd H (by simp)
         ·replace c9 := Bool.eq_false_iff.mpr c9
          subst c9
          have H1 : (hauberkref16_few.l1 k2 l0 l1 a2 x12_1 x8_2 (l0.length : Int) x12_1 (l0.length : Int) (wrap64 (x17_2 + 1))) = some r := by rw [if_neg (show ¬ (false = true) by decide)] at H; exact H
          clear H
          have H := H1
          clear H1
          have H' := Aside0.mk H
          clear H
          have p138 : 0 ≤ (x12_1 : Int) := of_decide_eq_true (by first | (with_reducible assumption) | assumption)
          have q138 : x12_1 < (l1.length : Int) := of_decide_eq_true (by first | (with_reducible assumption) | assumption)
          obtain ⟨ad138, e138, hx138_0⟩ := Kd.at_bool HR1.out x12_1 p138 q138
          (try rw [← Nbq8.out] at hx138_0)
          cases e138
          replace p138 := eq_true p138
          replace q138 := eq_true q138
          go_wp2
          repeat (go_quiet (fail); try go_wp2)
          go_roundg k2
          case measure => have := HK1.out; have := HK2.out; omega
          case rel => exact ⟨(x8_2), (wrap64 (x17_2 + 1)), (by first | rfl | (simp; done) | (simp [*]; done)), (by first | rfl | (simp; done) | (simp [*]; done)), H', ⟨by have := HK1.out; have := HK2.out; omega⟩, by repeat (first | exact Drawn0.refl _ | apply Drawn0.step)⟩
        ·rw [if_neg c7] at H
         exact absurd H (by simp)
       ·rw [if_neg c6] at H
        exact absurd H (by simp)
      ·rw [if_neg c5] at H
       have c5b0 : decide (x17_2 < (l0.length : Int)) = false := decide_eq_false c5
       clear c5
       by_cases c19 : x8_2 > a2
       ·rw [if_pos c19] at H
        have c19b0 : decide (a2 < x8_2) = true := decide_eq_true c19
        clear c19
        obtain rfl := Option.some.inj H
        go_wp2
        repeat (go_quiet (fail); try go_wp2)
        go_ret
        exact ⟨by first | rfl | (simp; done) | (simp [*]; done), by repeat (first | exact Drawn0.refl _ | apply Drawn0.step)⟩
       ·rw [if_neg c19] at H
        have c19b0 : decide (a2 < x8_2) = false := decide_eq_false c19
        clear c19
        have H' := Aside0.mk H
        clear H
        go_wp2
        repeat (go_quiet (fail); try go_wp2)
        go_roundg k2
        case measure => have := HK1.out; have := HK2.out; omega
        case rel => exact ⟨(wrap64 (x12_1 + 1)), (by first | rfl | (simp; done) | (simp [*]; done)), H', ⟨by have := HK1.out; have := HK2.out; omega⟩, by repeat (first | exact Drawn0.refl _ | apply Drawn0.step)⟩
   ·rw [if_neg c4] at H
    have c4b0 : decide (x12_1 < (l0.length : Int)) = false := decide_eq_false c4
    clear c4
    obtain rfl := Option.some.inj H
    go_wp2
    repeat (go_quiet (fail); try go_wp2)
    go_ret
    exact ⟨by first | rfl | (simp; done) | (simp [*]; done), by repeat (first | exact Drawn0.refl _ | apply Drawn0.step)⟩

end Go.Proofs.Ytpfbloddhfphiaa.K
