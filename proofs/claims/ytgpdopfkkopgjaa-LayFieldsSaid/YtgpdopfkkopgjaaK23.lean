/- What Go functions of this seat answer: each has a Lean function ('.f') and a contract ('.calls'). Conditions: those of each theorem. Written by a program over the kit's printer; what is marked 'typed by hand' is this session's. -/
import Derived.Test.YtgpdopfkkopgjaaK0
import Derived.Test.YtgpdopfkkopgjaaK1
import Derived.Test.YtgpdopfkkopgjaaK8
import Derived.Test.YtgpdopfkkopgjaaK9
import Derived.Test.YtgpdopfkkopgjaaK16
import Derived.Test.YtgpdopfkkopgjaaK18
import Derived.Test.YtgpdopfkkopgjaaK22
namespace Go.Proofs.Ytgpdopfkkopgjaa.K
open Go.RowKit Go.Proofs.YtgpdopfkkopgjaaW.PrintWords Go.Proofs.YtgpdopfkkopgjaaW.PrintLast Go.Proofs.YtgpdopfkkopgjaaW.PrintMore
attribute [local go_sem] max2_int min2_int max_two min_two max_three min_three max_four min_four   -- for this text's walks alone
set_option linter.unusedVariables false
set_option linter.unusedSimpArgs false

attribute [local go_sem high] eqA25
/-! ### hauberklaw04_LayFields: function 5 -/
mutual
def hauberklaw04_LayFields.j0 : Nat → List (S30) → Bool → Option (Bool)
 | 0, _, _ => none
 | k + 1, x0, x21 => if x21 = true then ((hauberklaw04_awake.f k).bind fun t271 => (some t271)) else (hauberklaw04_LayFields.l0 k x0 x0 (x0.length : Int) 0)
def hauberklaw04_LayFields.l0 : Nat → List (S30) → List (S30) → Int → Int → Option (Bool)
 | 0, _, _, _, _ => none
 | k + 1, x0, x23, x24, x25 => if x25 < x24 then (if 0 ≤ x25 then (if x25 < (x23.length : Int) then ((lay_Of.f k x0 ((rd_T30 x23 x25).f0)).bind fun bt274 => (if bt274.2.2.2 = 0 then (hauberklaw04_LayFields.j2 k x0 x23 x24 x25 ((bt274.2.2.1.length : Int) != (((rd_T30 x23 x25).f1).length : Int)) ((rd_T30 x23 x25).f0) ((rd_T30 x23 x25).f1) ((rd_T30 x23 x25).f2) bt274.1 bt274.2.1 bt274.2.2.1) else (hauberklaw04_LayFields.j2 k x0 x23 x24 x25 true ((rd_T30 x23 x25).f0) ((rd_T30 x23 x25).f1) ((rd_T30 x23 x25).f2) bt274.1 bt274.2.1 bt274.2.2.1))) else (none)) else (none)) else (some true)
def hauberklaw04_LayFields.j2 : Nat → List (S30) → List (S30) → Int → Int → Bool → ByteArray → List (S32) → Int → Int → Int → List Int → Option (Bool)
 | 0, _, _, _, _, _, _, _, _, _, _, _ => none
 | k + 1, x0, x23, x24, x25, x46, x274000, x274001, x274002, x281000, x281001, x281002 => if x46 = true then (some false) else (hauberklaw04_LayFields.l1 k x0 x23 x24 x25 x274001 (x274001.length : Int) 0 x274000 x274001 x274002 x281000 x281001 x281002)
def hauberklaw04_LayFields.l1 : Nat → List (S30) → List (S30) → Int → Int → List (S32) → Int → Int → ByteArray → List (S32) → Int → Int → Int → List Int → Option (Bool)
 | 0, _, _, _, _, _, _, _, _, _, _, _, _, _ => none
 | k + 1, x0, x23, x24, x25, x48, x49, x50, x274000, x274001, x274002, x281000, x281001, x281002 => if x50 < x49 then (if 0 ≤ x50 then (if x50 < (x48.length : Int) then ((lay_Field.f k x0 x274000 ((rd_T32 x48 x50).f0)).bind fun bt283 => ((lay_Size.f k x0 bt283.1 bt283.2.1 bt283.2.2.1).bind fun bt289 => (if (wrap64 (x50 + 1)) < (x281002.length : Int) then (if 0 ≤ (wrap64 (x50 + 1)) then (if bt283.2.2.2.2 = 0 then (if bt289.2 = 0 then (if (!(bt283.1 == ((rd_T32 x48 x50).f1.f0)) || (!(bt283.2.1 == ((rd_T32 x48 x50).f1.f1)) || (!(bt283.2.2.1.toList == (((rd_T32 x48 x50).f1.f2).toList))))) = true then (some false) else (if x50 < (x281002.length : Int) then (if bt283.2.2.2.1 = (rd x281002 x50) then (if (wrap64 (bt283.2.2.2.1 + bt289.1)) > (rd x281002 (wrap64 (x50 + 1))) then (some false) else (hauberklaw04_LayFields.l1 k x0 x23 x24 x25 x48 x49 (wrap64 (x50 + 1)) x274000 x274001 x274002 x281000 x281001 x281002)) else (some false)) else (none))) else (some false)) else (some false)) else (none)) else (if bt283.2.2.2.2 = 0 then (if bt289.2 = 0 then (if (!(bt283.1 == ((rd_T32 x48 x50).f1.f0)) || (!(bt283.2.1 == ((rd_T32 x48 x50).f1.f1)) || (!(bt283.2.2.1.toList == (((rd_T32 x48 x50).f1.f2).toList))))) = true then (some false) else (if x50 < (x281002.length : Int) then (if bt283.2.2.2.1 = (rd x281002 x50) then (if (wrap64 (bt283.2.2.2.1 + bt289.1)) > x281000 then (some false) else (hauberklaw04_LayFields.l1 k x0 x23 x24 x25 x48 x49 (wrap64 (x50 + 1)) x274000 x274001 x274002 x281000 x281001 x281002)) else (some false)) else (none))) else (some false)) else (some false))))) else (none)) else (none)) else (hauberklaw04_LayFields.l0 k x0 x23 x24 (wrap64 (x25 + 1)))
end
def hauberklaw04_LayFields.f (k : Nat) (l0 : List (S30)) : Option (Bool) := (hauberklaw04_awake.f k).bind fun t269 => (if t269 = true then ((hauberklaw04_right.f k l0).bind fun t270 => (hauberklaw04_LayFields.j0 k l0 (!t270))) else (hauberklaw04_LayFields.j0 k l0 true))
theorem hauberklaw04_LayFields.mono_l : ∀ k, (∀ y0 y1, LeO (hauberklaw04_LayFields.j0 k y0 y1) (hauberklaw04_LayFields.j0 (k + 1) y0 y1)) ∧ (∀ y0 y1 y2 y3, LeO (hauberklaw04_LayFields.l0 k y0 y1 y2 y3) (hauberklaw04_LayFields.l0 (k + 1) y0 y1 y2 y3)) ∧ (∀ y0 y1 y2 y3 y4 y5 y6 y7 y8 y9 y10, LeO (hauberklaw04_LayFields.j2 k y0 y1 y2 y3 y4 y5 y6 y7 y8 y9 y10) (hauberklaw04_LayFields.j2 (k + 1) y0 y1 y2 y3 y4 y5 y6 y7 y8 y9 y10)) ∧ (∀ y0 y1 y2 y3 y4 y5 y6 y7 y8 y9 y10 y11 y12, LeO (hauberklaw04_LayFields.l1 k y0 y1 y2 y3 y4 y5 y6 y7 y8 y9 y10 y11 y12) (hauberklaw04_LayFields.l1 (k + 1) y0 y1 y2 y3 y4 y5 y6 y7 y8 y9 y10 y11 y12))
 | 0 => ⟨fun _ _ r h => by simp [hauberklaw04_LayFields.j0] at h, fun _ _ _ _ r h => by simp [hauberklaw04_LayFields.l0] at h, fun _ _ _ _ _ _ _ _ _ _ _ r h => by simp [hauberklaw04_LayFields.j2] at h, fun _ _ _ _ _ _ _ _ _ _ _ _ _ r h => by simp [hauberklaw04_LayFields.l1] at h⟩
 | k + 1 => by
  obtain ⟨ih0, ih1, ih2, ih3⟩ := hauberklaw04_LayFields.mono_l k
  refine ⟨?_, ?_, ?_, ?_⟩
  ·intro y0 y1
   unfold hauberklaw04_LayFields.j0
   repeat' first
   | (with_reducible exact ih0 _ _)
   | (with_reducible exact ih1 _ _ _ _)
   | (with_reducible exact ih2 _ _ _ _ _ _ _ _ _ _ _)
   | (with_reducible exact ih3 _ _ _ _ _ _ _ _ _ _ _ _ _)
   | (with_reducible exact hauberklaw04_awake.mono _)
   | (with_reducible exact hauberklaw04_right.mono _ _)
   | (with_reducible exact lay_Field.mono _ _ _ _)
   | (with_reducible exact lay_Of.mono _ _ _)
   | (with_reducible exact lay_Size.mono _ _ _ _ _)
   | (with_reducible exact LeO.refl _)
   | (with_reducible exact LeO.none _)
   | (with_reducible refine LeO.ite ?_ ?_)
   | (with_reducible refine LeO.bind ?_ (fun _ => ?_))
   | exact ih0 _ _
   | exact ih1 _ _ _ _
   | exact ih2 _ _ _ _ _ _ _ _ _ _ _
   | exact ih3 _ _ _ _ _ _ _ _ _ _ _ _ _
   | exact hauberklaw04_awake.mono _
   | exact hauberklaw04_right.mono _ _
   | exact lay_Field.mono _ _ _ _
   | exact lay_Of.mono _ _ _
   | exact lay_Size.mono _ _ _ _ _
   | exact LeO.none _
   | refine LeO.ite ?_ ?_
   | refine LeO.bind ?_ (fun _ => ?_)
  ·intro y0 y1 y2 y3
   unfold hauberklaw04_LayFields.l0
   repeat' first
   | (with_reducible exact ih0 _ _)
   | (with_reducible exact ih1 _ _ _ _)
   | (with_reducible exact ih2 _ _ _ _ _ _ _ _ _ _ _)
   | (with_reducible exact ih3 _ _ _ _ _ _ _ _ _ _ _ _ _)
   | (with_reducible exact hauberklaw04_awake.mono _)
   | (with_reducible exact hauberklaw04_right.mono _ _)
   | (with_reducible exact lay_Field.mono _ _ _ _)
   | (with_reducible exact lay_Of.mono _ _ _)
   | (with_reducible exact lay_Size.mono _ _ _ _ _)
   | (with_reducible exact LeO.refl _)
   | (with_reducible exact LeO.none _)
   | (with_reducible refine LeO.ite ?_ ?_)
   | (with_reducible refine LeO.bind ?_ (fun _ => ?_))
   | exact ih0 _ _
   | exact ih1 _ _ _ _
   | exact ih2 _ _ _ _ _ _ _ _ _ _ _
   | exact ih3 _ _ _ _ _ _ _ _ _ _ _ _ _
   | exact hauberklaw04_awake.mono _
   | exact hauberklaw04_right.mono _ _
   | exact lay_Field.mono _ _ _ _
   | exact lay_Of.mono _ _ _
   | exact lay_Size.mono _ _ _ _ _
   | exact LeO.none _
   | refine LeO.ite ?_ ?_
   | refine LeO.bind ?_ (fun _ => ?_)
  ·intro y0 y1 y2 y3 y4 y5 y6 y7 y8 y9 y10
   unfold hauberklaw04_LayFields.j2
   repeat' first
   | (with_reducible exact ih0 _ _)
   | (with_reducible exact ih1 _ _ _ _)
   | (with_reducible exact ih2 _ _ _ _ _ _ _ _ _ _ _)
   | (with_reducible exact ih3 _ _ _ _ _ _ _ _ _ _ _ _ _)
   | (with_reducible exact hauberklaw04_awake.mono _)
   | (with_reducible exact hauberklaw04_right.mono _ _)
   | (with_reducible exact lay_Field.mono _ _ _ _)
   | (with_reducible exact lay_Of.mono _ _ _)
   | (with_reducible exact lay_Size.mono _ _ _ _ _)
   | (with_reducible exact LeO.refl _)
   | (with_reducible exact LeO.none _)
   | (with_reducible refine LeO.ite ?_ ?_)
   | (with_reducible refine LeO.bind ?_ (fun _ => ?_))
   | exact ih0 _ _
   | exact ih1 _ _ _ _
   | exact ih2 _ _ _ _ _ _ _ _ _ _ _
   | exact ih3 _ _ _ _ _ _ _ _ _ _ _ _ _
   | exact hauberklaw04_awake.mono _
   | exact hauberklaw04_right.mono _ _
   | exact lay_Field.mono _ _ _ _
   | exact lay_Of.mono _ _ _
   | exact lay_Size.mono _ _ _ _ _
   | exact LeO.none _
   | refine LeO.ite ?_ ?_
   | refine LeO.bind ?_ (fun _ => ?_)
  ·intro y0 y1 y2 y3 y4 y5 y6 y7 y8 y9 y10 y11 y12
   unfold hauberklaw04_LayFields.l1
   repeat' first
   | (with_reducible exact ih0 _ _)
   | (with_reducible exact ih1 _ _ _ _)
   | (with_reducible exact ih2 _ _ _ _ _ _ _ _ _ _ _)
   | (with_reducible exact ih3 _ _ _ _ _ _ _ _ _ _ _ _ _)
   | (with_reducible exact hauberklaw04_awake.mono _)
   | (with_reducible exact hauberklaw04_right.mono _ _)
   | (with_reducible exact lay_Field.mono _ _ _ _)
   | (with_reducible exact lay_Of.mono _ _ _)
   | (with_reducible exact lay_Size.mono _ _ _ _ _)
   | (with_reducible exact LeO.refl _)
   | (with_reducible exact LeO.none _)
   | (with_reducible refine LeO.ite ?_ ?_)
   | (with_reducible refine LeO.bind ?_ (fun _ => ?_))
   | exact ih0 _ _
   | exact ih1 _ _ _ _
   | exact ih2 _ _ _ _ _ _ _ _ _ _ _
   | exact ih3 _ _ _ _ _ _ _ _ _ _ _ _ _
   | exact hauberklaw04_awake.mono _
   | exact hauberklaw04_right.mono _ _
   | exact lay_Field.mono _ _ _ _
   | exact lay_Of.mono _ _ _
   | exact lay_Size.mono _ _ _ _ _
   | exact LeO.none _
   | refine LeO.ite ?_ ?_
   | refine LeO.bind ?_ (fun _ => ?_)
theorem hauberklaw04_LayFields.mono : ∀ a0 k, LeO (hauberklaw04_LayFields.f k a0) (hauberklaw04_LayFields.f (k + 1) a0) := by
 intro a0 k
 obtain ⟨ih0, ih1, ih2, ih3⟩ := hauberklaw04_LayFields.mono_l k
 unfold hauberklaw04_LayFields.f
 repeat' first
   | (with_reducible exact ih0 _ _)
   | (with_reducible exact ih1 _ _ _ _)
   | (with_reducible exact ih2 _ _ _ _ _ _ _ _ _ _ _)
   | (with_reducible exact ih3 _ _ _ _ _ _ _ _ _ _ _ _ _)
   | (with_reducible exact hauberklaw04_awake.mono _)
   | (with_reducible exact hauberklaw04_right.mono _ _)
   | (with_reducible exact lay_Field.mono _ _ _ _)
   | (with_reducible exact lay_Of.mono _ _ _)
   | (with_reducible exact lay_Size.mono _ _ _ _ _)
   | (with_reducible exact LeO.refl _)
   | (with_reducible exact LeO.none _)
   | (with_reducible refine LeO.ite ?_ ?_)
   | (with_reducible refine LeO.bind ?_ (fun _ => ?_))
   | exact ih0 _ _
   | exact ih1 _ _ _ _
   | exact ih2 _ _ _ _ _ _ _ _ _ _ _
   | exact ih3 _ _ _ _ _ _ _ _ _ _ _ _ _
   | exact hauberklaw04_awake.mono _
   | exact hauberklaw04_right.mono _ _
   | exact lay_Field.mono _ _ _ _
   | exact lay_Of.mono _ _ _
   | exact lay_Size.mono _ _ _ _ _
   | exact LeO.none _
   | refine LeO.ite ?_ ?_
   | refine LeO.bind ?_ (fun _ => ?_)
set_option maxHeartbeats 8000000 in
set_option maxRecDepth 100000 in
theorem hauberklaw04_LayFields.calls (k : Nat) (A0 : Option Addr) (c0 : Nat) (l0 : List (S30)) (r : Bool) (w : World) (hr0 : Kd.C k30 w A0 l0.length l0) (hc0 : l0.length ≤ c0) (hrt : Aside0 (r = true)) (h : hauberklaw04_LayFields.f k l0 = some r) :
  Calls Try.prog 5 #[.slice A0 l0.length c0] w fun e w' => e = .returned (.bool r) ∧ Below w.heap.size w w' := by
 have hu30 := Try.underlying30
 have hu36 := Try.underlying36
 have hu32 := Try.underlying32
 have hu25 := Try.underlying25
 have HR0 := Aside0.mk hr0
 have HC0 := Aside0.mk hc0
 clear hr0 hc0
 have HB := Aside0.mk (Below.refl w.heap.size w)
 have H : ((hauberklaw04_awake.f k).bind fun t269 => (if t269 = true then ((hauberklaw04_right.f k l0).bind fun t270 => (hauberklaw04_LayFields.j0 k l0 (!t270))) else (hauberklaw04_LayFields.j0 k l0 true))) = some r := h
 clear h
 have HC2 := Aside0.mk H
 clear H
 go_enter Try.func5, Try.ntmps5
 go_upto_region 1 with (fail)
 go_cut [21] (fun v21 wc => ∃ (kq : Nat) (x21_1 : Bool), v21 = .bool x21_1 ∧ Aside0 (hauberklaw04_LayFields.j0 kq l0 x21_1 = some r) ∧ Aside0 (kq ≤ k) ∧ Aside0 (Below w.heap.size w wc))
 case first =>
  have H := HC2.out
  clear HC2
  replace H := Option.bind_eq_some_iff.mp H
  obtain ⟨t269, A30, H⟩ := H
  replace H : (if t269 = true then ((hauberklaw04_right.f k l0).bind fun t270 => (hauberklaw04_LayFields.j0 k l0 (!t270))) else (hauberklaw04_LayFields.j0 k l0 true)) = some r := H
  have A3 := Aside0.mk A30
  clear A30
  by_cases c4 : t269 = true
  ·subst c4
   have H1 : ((hauberklaw04_right.f k l0).bind fun t270 => (hauberklaw04_LayFields.j0 k l0 (!t270))) = some r := by rw [if_pos rfl] at H; exact H
   clear H
   have H := H1
   clear H1
   replace H := Option.bind_eq_some_iff.mp H
   obtain ⟨t270, A50, H⟩ := H
   replace H : (hauberklaw04_LayFields.j0 k l0 (!t270)) = some r := H
   have A5 := Aside0.mk A50
   clear A50
   have H' := Aside0.mk H
   clear H
   go_wp2_with (first | ((with_reducible refine gate_callee (f := 8) rfl ?_); refine goesL_ (some 15) rfl rfl Try.func8 (by kernel_rfl) rfl #[] rfl (by (try simp only [List.map_toArray, List.map_cons, List.map_nil]); first | done | rfl | (simp only [List.length_drop, List.length_take]; rfl)) ?_; (with_reducible refine (hauberklaw04_awake.calls k  true _ A3.out).mono ?_); rintro e w6 ⟨rfl, hb⟩; refine ⟨_, rfl, ?_⟩; have n0_ := Aside0.mk (below_step (by repeat (first | (with_reducible first | exact HB.out | apply below_alloc | apply pw_below_drewN | apply below_drew1) | exact HB.out)) hb); clear HB; have HB := n0_; clear n0_; (try clear hb); (try clear hb2); (try clear hk); (try clear hi)) | (go_at_call 10; (with_reducible refine (hauberklaw04_right.calls k _ _ l0 t270 _ ?side1 ?side2 A5.out).mono ?_); (case side1 => repeat (first | exact (Kd.C_below HR0.out HB.out) | (with_reducible refine Kd.C_alloc ?_ _) | (with_reducible refine Kd.C_drewN ?_ _) | (with_reducible refine Kd.C_drew ?_))); (case side2 => exact HC0.out); rintro e w7 ⟨rfl, hb⟩; have n0_ := Aside0.mk (below_step (by repeat (first | (with_reducible first | exact HB.out | apply below_alloc | apply pw_below_drewN | apply below_drew1) | exact HB.out)) hb); clear HB; have HB := n0_; clear n0_; (try clear hb); (try clear hb2); (try clear hk); (try clear hi)))
   go_meet
   case rel => exact ⟨_, (!t270), (by first | rfl | (simp; done) | (simp [*]; done)), H', ⟨by first | omega | exact Nat.le_refl _⟩, ⟨by repeat (first | (with_reducible first | exact HB.out | apply below_alloc | apply pw_below_drewN | apply below_drew1) | exact HB.out)⟩⟩
  ·replace c4 := Bool.eq_false_iff.mpr c4
   subst c4
   have H1 : (hauberklaw04_LayFields.j0 k l0 true) = some r := by rw [if_neg (show ¬ (false = true) by decide)] at H; exact H
   clear H
   have H := H1
   clear H1
   have H' := Aside0.mk H
   clear H
   go_wp2_with (first | ((with_reducible refine gate_callee (f := 8) rfl ?_); refine goesL_ (some 15) rfl rfl Try.func8 (by kernel_rfl) rfl #[] rfl (by (try simp only [List.map_toArray, List.map_cons, List.map_nil]); first | done | rfl | (simp only [List.length_drop, List.length_take]; rfl)) ?_; (with_reducible refine (hauberklaw04_awake.calls k  false _ A3.out).mono ?_); rintro e w8 ⟨rfl, hb⟩; refine ⟨_, rfl, ?_⟩; have n0_ := Aside0.mk (below_step (by repeat (first | (with_reducible first | exact HB.out | apply below_alloc | apply pw_below_drewN | apply below_drew1) | exact HB.out)) hb); clear HB; have HB := n0_; clear n0_; (try clear hb); (try clear hb2); (try clear hk); (try clear hi)))
   go_meet
   case rel => exact ⟨_, (true), (by first | rfl | (simp; done) | (simp [*]; done)), H', ⟨by first | omega | exact Nat.le_refl _⟩, ⟨by repeat (first | (with_reducible first | exact HB.out | apply below_alloc | apply pw_below_drewN | apply below_drew1) | exact HB.out)⟩⟩
 case rest =>
  clear HC2
  try clear p2
  try clear c4
  try clear c5
  try clear c8
  obtain ⟨kq, x21_1, rfl, HA, HJ1, HB⟩ := hcut
  cases kq with
  | zero => exact absurd HA.out (by simp [hauberklaw04_LayFields.j0])
  | succ kj1 =>
   have H := HA.out
   clear HA
   simp only [hauberklaw04_LayFields.j0] at H
   by_cases c9 : x21_1 = true
   ·subst c9
    have H1 : ((hauberklaw04_awake.f kj1).bind fun t271 => (some t271)) = some r := by rw [if_pos rfl] at H; exact H
    clear H
    have H := H1
    clear H1
    replace H := Option.bind_eq_some_iff.mp H
    obtain ⟨t271, A100, H⟩ := H
    replace H : (some t271) = some r := H
    have A10 := Aside0.mk A100
    clear A100
    obtain rfl := Option.some.inj H
    go_wp2_with (first | ((with_reducible refine gate_callee (f := 8) rfl ?_); refine goesL_ (some 22) rfl rfl Try.func8 (by kernel_rfl) rfl #[] rfl (by (try simp only [List.map_toArray, List.map_cons, List.map_nil]); first | done | rfl | (simp only [List.length_drop, List.length_take]; rfl)) ?_; (with_reducible refine (hauberklaw04_awake.calls kj1  t271 _ A10.out).mono ?_); rintro e w11 ⟨rfl, hb⟩; refine ⟨_, rfl, ?_⟩; have n0_ := Aside0.mk (below_step (by repeat (first | (with_reducible first | exact HB.out | apply below_alloc | apply pw_below_drewN | apply below_drew1) | exact HB.out)) hb); clear HB; have HB := n0_; clear n0_; (try clear hb); (try clear hb2); (try clear hk); (try clear hi)))
    go_ret
    exact ⟨by first | rfl | (simp [errW_none, errW_some] <;> rfl) | (simp [*, errW_none, errW_some] <;> rfl), by repeat (first | (with_reducible first | exact HB.out | apply below_alloc | apply pw_below_drewN | apply below_drew1) | exact HB.out)⟩
   ·replace c9 := Bool.eq_false_iff.mpr c9
    subst c9
    have H1 : (hauberklaw04_LayFields.l0 kj1 l0 l0 (l0.length : Int) 0) = some r := by rw [if_neg (show ¬ (false = true) by decide)] at H; exact H
    clear H
    have H := H1
    clear H1
    have H' := Aside0.mk H
    clear H
    go_wp2
    go_loopg [25] kj1 (fun kq v25 w' => ∃ (x25_2 : Int), v25 = .int .i64 x25_2 ∧ Aside0 (hauberklaw04_LayFields.l0 kq l0 l0 (l0.length : Int) x25_2 = some r) ∧ Aside0 (kq ≤ kj1) ∧ Aside0 (Below w.heap.size w w'))
    case atStart => exact ⟨(0), (by first | rfl | (simp; done) | (simp [*]; done)), H', ⟨Nat.le_refl _⟩, ⟨by repeat (first | (with_reducible first | exact HB.out | apply below_alloc | apply pw_below_drewN | apply below_drew1) | exact HB.out)⟩⟩
    case round =>
     clear H'
     try clear p2
     try clear c4
     try clear c5
     try clear c8
     try clear c9
     try clear p2
     obtain ⟨x25_2, rfl, HA, HK2, HB⟩ := hrel
     cases gk with
     | zero => exact absurd HA.out (by simp [hauberklaw04_LayFields.l0])
     | succ k2 =>
      have H := HA.out
      clear HA
      simp only [hauberklaw04_LayFields.l0] at H
      by_cases c12 : x25_2 < (l0.length : Int)
      ·rw [if_pos c12] at H
       have c12b0 : decide (x25_2 < (l0.length : Int)) = true := decide_eq_true c12
       clear c12
       by_cases c13 : 0 ≤ x25_2
       ·rw [if_pos c13] at H
        have c13b0 : decide (0 ≤ x25_2) = true := decide_eq_true c13
        clear c13
        by_cases c14 : x25_2 < (l0.length : Int)
        ·rw [if_pos c14] at H
         have c14b0 : decide (x25_2 < (l0.length : Int)) = true := decide_eq_true c14
         clear c14
         replace H := Option.bind_eq_some_iff.mp H
         obtain ⟨⟨t274, t275, t276, t279⟩, A150, H⟩ := H
         replace H : (if t279 = 0 then (hauberklaw04_LayFields.j2 k2 l0 l0 (l0.length : Int) x25_2 ((t276.length : Int) != (((rd_T30 l0 x25_2).f1).length : Int)) ((rd_T30 l0 x25_2).f0) ((rd_T30 l0 x25_2).f1) ((rd_T30 l0 x25_2).f2) t274 t275 t276) else (hauberklaw04_LayFields.j2 k2 l0 l0 (l0.length : Int) x25_2 true ((rd_T30 l0 x25_2).f0) ((rd_T30 l0 x25_2).f1) ((rd_T30 l0 x25_2).f2) t274 t275 t276)) = some r := H
         have A15 := Aside0.mk A150
         clear A150
         have HC16 := Aside0.mk H
         clear H
         have p272 : 0 ≤ (x25_2 : Int) := of_decide_eq_true (by first | (with_reducible assumption) | assumption)
         have q272 : x25_2 < (l0.length : Int) := of_decide_eq_true (by first | (with_reducible assumption) | assumption)
         obtain ⟨ad272, A272_1, c272_1, e272, hx272_0, hx272_1, hx272_2, hl272_1, hi272_1⟩ := at_T30 HR0.out x25_2 p272 q272
         cases e272
         replace hx272_0 := (HB.out.cell (World.block_lt_of_cell? w _ hx272_0)).trans hx272_0
         replace hx272_1 := (HB.out.cell (World.block_lt_of_cell? w _ hx272_1)).trans hx272_1
         replace hx272_2 := (HB.out.cell (World.block_lt_of_cell? w _ hx272_2)).trans hx272_2
         have HR272_1 := Aside0.mk hi272_1
         have HC272_1 := Aside0.mk hl272_1
         clear hi272_1 hl272_1
         replace p272 := eq_true p272
         replace q272 := eq_true q272
         go_upto_region 7 with (first | ((with_reducible refine gate_dst (N := 4) rfl ?_); (try (refine gate_guard (by rfl) ?_; dsimp only)); refine box_event ?hg (N := 4) ?hd (cs := #[.string (⟨#[]⟩ : ByteArray), .slice none 0 0, .int .i64 0]) (t := 30) ?hr ?_; (case hd => rfl); (case hg => rfl); (case hr => first | (go_simp; done) | (go_simp; rfl)); intro gb273 hg w17 hbox hb; have n0_ := Aside0.mk (below_step (by repeat (first | (with_reducible first | exact HB.out | apply below_alloc | apply pw_below_drewN | apply below_drew1) | exact HB.out)) hb); have n1_ := Aside0.mk (hbox); have n2_ := Aside0.mk ((by rw [hg]; exact (below_size (by repeat (first | (with_reducible first | exact HB.out | apply below_alloc | apply pw_below_drewN | apply below_drew1) | exact HB.out))) : w.heap.size ≤ gb273)); have n3_ := Aside0.mk ((by rw [hg]; exact (below_size (by repeat (first | (with_reducible first | exact HB.out | apply below_alloc | apply pw_below_drewN | apply below_drew1) | exact HB.out))) : w.heap.size ≤ gb273)); clear HB; have HB := n0_; have BK273 := n1_; have GW273 := n2_; have GE273 := n3_; clear n0_ n1_ n2_ n3_; clear hb hbox hg; have hcz18_0 : w17.cell? ⟨gb273, 0, none⟩ = some (.string (⟨#[]⟩ : ByteArray)) := (blk_cell BK273.out 0).trans rfl; have hcz18_1 : w17.cell? ⟨gb273, 1, none⟩ = some (.slice none 0 0) := (blk_cell BK273.out 1).trans rfl; have hcz18_2 : w17.cell? ⟨gb273, 2, none⟩ = some (.int .i64 0) := (blk_cell BK273.out 2).trans rfl; have hfz18_0 := blk_frozen BK273.out 0; have hfz18_1 := blk_frozen BK273.out 1; have hfz18_2 := blk_frozen BK273.out 2) | ((with_reducible refine gate_callee (f := 9) rfl ?_); refine goesL_ (some 33) rfl rfl Try.func9 (by kernel_rfl) rfl #[.slice (some ad272) l0.length c0, .string ((rd_T30 l0 x25_2).f0)] rfl (by (try simp only [List.map_toArray, List.map_cons, List.map_nil]); first | done | rfl | (simp only [List.length_drop, List.length_take]; rfl)) ?_; (with_reducible refine (lay_Of.calls k2 _ _ l0 ((rd_T30 l0 x25_2).f0) t274 t275 t276 t279 _ ?side1 ?side2 A15.out).mono ?_); (case side1 => exact Kd.C_below HR0.out (by repeat (first | (with_reducible first | exact HB.out | apply below_alloc | apply pw_below_drewN | apply below_drew1 | refine below_set ?_ GE273.out) | exact HB.out))); (case side2 => exact HC0.out); rintro e w19 ⟨v277, rfl, ho0, hb⟩; refine ⟨_, rfl, ?_⟩; have n0_ := Aside0.mk (Kd.R_lower ho0 (below_size (by repeat (first | (with_reducible first | exact HB.out | apply below_alloc | apply pw_below_drewN | apply below_drew1 | refine below_set ?_ GE273.out) | exact HB.out)))); have n1_ := Aside0.mk (blk_below (g := gb273) (o := .cells #[.string ((rd_T30 l0 x25_2).f0), .slice A272_1 ((rd_T30 l0 x25_2).f1).length c272_1, .int .i64 ((rd_T30 l0 x25_2).f2)] 30 (0, 0)) (by (with_reducible repeat (first | refine blk_drewN ?_ _ | refine blk_drew ?_ | refine blk_alloc ?_ _)); refine blk_put (cs := #[.string ((rd_T30 l0 x25_2).f0), .slice A272_1 ((rd_T30 l0 x25_2).f1).length c272_1, .int .i64 0]) ?_ 2 _ rfl; (with_reducible repeat (first | refine blk_drewN ?_ _ | refine blk_drew ?_ | refine blk_alloc ?_ _)); refine blk_put (cs := #[.string ((rd_T30 l0 x25_2).f0), .slice none 0 0, .int .i64 0]) ?_ 1 _ rfl; (with_reducible repeat (first | refine blk_drewN ?_ _ | refine blk_drew ?_ | refine blk_alloc ?_ _)); refine blk_put (cs := #[.string (⟨#[]⟩ : ByteArray), .slice none 0 0, .int .i64 0]) ?_ 0 _ rfl; (with_reducible repeat (first | refine blk_drewN ?_ _ | refine blk_drew ?_ | refine blk_alloc ?_ _)); exact BK273.out) hb); have n2_ := Aside0.mk (below_step (by repeat (first | (with_reducible first | exact HB.out | apply below_alloc | apply pw_below_drewN | apply below_drew1 | refine below_set ?_ GE273.out) | exact HB.out)) hb); clear BK273; clear HB; have HO278 := n0_; have BK273 := n1_; have HB := n2_; clear n0_ n1_ n2_; (try clear hb); (try clear hb2); (try clear hk); (try clear hi); (try clear ho0)) | ((with_reducible refine gate_dst (N := 5) rfl ?_); (try (refine gate_guard (by rfl) ?_; dsimp only)); refine box_event ?hg (N := 5) ?hd (cs := #[.int .i64 0, .int .i64 0, .slice none 0 0]) (t := 36) ?hr ?_; (case hd => rfl); (case hg => rfl); (case hr => first | (go_simp; done) | (go_simp; rfl)); intro gb280 hg w20 hbox hb; have n0_ := Aside0.mk (Kd.R_below (by (with_reducible repeat (first | apply Kd.R_alloc | apply Kd.R_drewN | apply Kd.R_drew)); exact HO278.out) hb); have n1_ := Aside0.mk (blk_below (g := gb273) (o := .cells #[.string ((rd_T30 l0 x25_2).f0), .slice A272_1 ((rd_T30 l0 x25_2).f1).length c272_1, .int .i64 ((rd_T30 l0 x25_2).f2)] 30 (0, 0)) (by (with_reducible repeat (first | refine blk_drewN ?_ _ | refine blk_drew ?_ | refine blk_alloc ?_ _)); exact BK273.out) hb); have n2_ := Aside0.mk (below_step (by repeat (first | (with_reducible first | exact HB.out | apply below_alloc | apply pw_below_drewN | apply below_drew1 | refine below_set ?_ GE273.out) | exact HB.out)) hb); have n3_ := Aside0.mk (hbox); have n4_ := Aside0.mk ((by rw [hg]; exact (below_size (by repeat (first | (with_reducible first | exact HB.out | apply below_alloc | apply pw_below_drewN | apply below_drew1 | refine below_set ?_ GE273.out) | exact HB.out))) : w.heap.size ≤ gb280)); have n5_ := Aside0.mk ((by rw [hg]; exact (below_size (by repeat (first | (with_reducible first | exact HB.out | apply below_alloc | apply pw_below_drewN | apply below_drew1 | refine below_set ?_ GE273.out) | exact HB.out))) : w.heap.size ≤ gb280)); have n6_ := Aside0.mk ((by rw [hg]; exact Nat.ne_of_lt (blk_lt (g := gb273) (o := .cells #[.string ((rd_T30 l0 x25_2).f0), .slice A272_1 ((rd_T30 l0 x25_2).f1).length c272_1, .int .i64 ((rd_T30 l0 x25_2).f2)] 30 (0, 0)) (by (with_reducible repeat (first | refine blk_drewN ?_ _ | refine blk_drew ?_ | refine blk_alloc ?_ _)); exact BK273.out)) : gb273 ≠ gb280)); have n7_ := Aside0.mk ((by rw [hg]; exact Nat.ne_of_gt (blk_lt (g := gb273) (o := .cells #[.string ((rd_T30 l0 x25_2).f0), .slice A272_1 ((rd_T30 l0 x25_2).f1).length c272_1, .int .i64 ((rd_T30 l0 x25_2).f2)] 30 (0, 0)) (by (with_reducible repeat (first | refine blk_drewN ?_ _ | refine blk_drew ?_ | refine blk_alloc ?_ _)); exact BK273.out)) : gb280 ≠ gb273)); clear HO278; clear BK273; clear HB; have HO278 := n0_; have BK273 := n1_; have HB := n2_; have BK280 := n3_; have GW280 := n4_; have GE280 := n5_; have NB273_280 := n6_; have NB280_273 := n7_; clear n0_ n1_ n2_ n3_ n4_ n5_ n6_ n7_; clear hb hbox hg; have hnb21 := NB280_273.out; have hnc21 := NB273_280.out; have hcz22_0 : w20.cell? ⟨gb280, 0, none⟩ = some (.int .i64 0) := (blk_cell BK280.out 0).trans rfl; have hcz22_1 : w20.cell? ⟨gb280, 1, none⟩ = some (.int .i64 0) := (blk_cell BK280.out 1).trans rfl; have hcz22_2 : w20.cell? ⟨gb280, 2, none⟩ = some (.slice none 0 0) := (blk_cell BK280.out 2).trans rfl; have hfz22_0 := blk_frozen BK280.out 0; have hfz22_1 := blk_frozen BK280.out 1; have hfz22_2 := blk_frozen BK280.out 2; obtain ⟨Ao23, co23, eo23⟩ := Kd.R_slice HO278.out; subst eo23))
         (try simp only [Act.put, List.setIfInBounds_toArray, List.set_cons_zero, List.set_cons_succ])
         go_cut [46] (fun v46 wc => ∃ (kq : Nat) (x46_15 : Bool), v46 = .bool x46_15 ∧ Aside0 (hauberklaw04_LayFields.j2 kq l0 l0 (l0.length : Int) x25_2 x46_15 ((rd_T30 l0 x25_2).f0) ((rd_T30 l0 x25_2).f1) ((rd_T30 l0 x25_2).f2) t274 t275 t276 = some r) ∧ Aside0 (kq ≤ k2) ∧ Aside0 (Kd.R (Kd.int .i64) 3 wc w.heap.size (fun _ => True) (.slice Ao23 t276.length co23) t276) ∧ Aside0 (wc.heap[gb273]? = some (.cells #[.string ((rd_T30 l0 x25_2).f0), (.slice A272_1 ((rd_T30 l0 x25_2).f1).length c272_1), .int .i64 ((rd_T30 l0 x25_2).f2)] 30 (0, 0))) ∧ Aside0 (wc.heap[gb280]? = some (.cells #[.int .i64 t274, .int .i64 t275, (.slice Ao23 t276.length co23)] 36 (0, 0))) ∧ Aside0 (Below w.heap.size w wc))
         case first =>
          have H := HC16.out
          clear HC16
          by_cases c24 : t279 = 0
          ·rw [if_pos c24] at H
           have c24b0 : (t279 == 0) = true := beq_iff_eq.mpr c24
           have c24b1 : (t279 != 0) = false := bne_eq_false_iff_eq.mpr c24
           clear c24
           (first | rw [c24b0] | (simp only [i64_w, i32_w]; rw [c24b0]) | skip)
           have H' := Aside0.mk H
           clear H
           have hnb25 := NB280_273.out
           have hnc25 := NB273_280.out
           have hcz26_0 : w20.cell? ⟨gb280, 0, none⟩ = some (.int .i64 0) := (blk_cell BK280.out 0).trans rfl
           have hcz26_1 : w20.cell? ⟨gb280, 1, none⟩ = some (.int .i64 0) := (blk_cell BK280.out 1).trans rfl
           have hcz26_2 : w20.cell? ⟨gb280, 2, none⟩ = some (.slice none 0 0) := (blk_cell BK280.out 2).trans rfl
           have hfz26_0 := blk_frozen BK280.out 0
           have hfz26_1 := blk_frozen BK280.out 1
           have hfz26_2 := blk_frozen BK280.out 2
           have hcz27_0 : w20.cell? ⟨gb273, 0, none⟩ = some (.string ((rd_T30 l0 x25_2).f0)) := (blk_cell BK273.out 0).trans rfl
           have hcz27_1 : w20.cell? ⟨gb273, 1, none⟩ = some (.slice A272_1 ((rd_T30 l0 x25_2).f1).length c272_1) := (blk_cell BK273.out 1).trans rfl
           have hcz27_2 : w20.cell? ⟨gb273, 2, none⟩ = some (.int .i64 ((rd_T30 l0 x25_2).f2)) := (blk_cell BK273.out 2).trans rfl
           have hfz27_0 := blk_frozen BK273.out 0
           have hfz27_1 := blk_frozen BK273.out 1
           have hfz27_2 := blk_frozen BK273.out 2
           go_wp2
           go_meet
           case rel => exact ⟨_, (((t276.length : Int) != (((rd_T30 l0 x25_2).f1).length : Int))), (by first | rfl | (simp; done) | (simp [*]; done)), H', ⟨by have := HJ1.out; have := HK2.out; first | omega | exact Nat.le_refl _⟩, ⟨by (with_reducible repeat (first | apply Kd.R_alloc | apply Kd.R_drewN | apply Kd.R_drew)); exact Kd.R_mono (Kd.R_far (p := ⟨gb280, 2, none⟩) (Kd.R_far (p := ⟨gb280, 1, none⟩) (Kd.R_far (p := ⟨gb280, 0, none⟩) (Kd.R_types HO278.out BK280.out (by decide)) (fun _ hk => hk.2) (.int .i64 t274)) (fun _ hk => hk.2) (.int .i64 t275)) (fun _ hk => hk.2) (.slice Ao23 t276.length co23)) (fun _ hk => trivial)⟩, ⟨by (with_reducible repeat (first | refine blk_drewN ?_ _ | refine blk_drew ?_ | refine blk_alloc ?_ _)); refine blk_far ?_ NB273_280.out _; (with_reducible repeat (first | refine blk_drewN ?_ _ | refine blk_drew ?_ | refine blk_alloc ?_ _)); refine blk_far ?_ NB273_280.out _; (with_reducible repeat (first | refine blk_drewN ?_ _ | refine blk_drew ?_ | refine blk_alloc ?_ _)); refine blk_far ?_ NB273_280.out _; (with_reducible repeat (first | refine blk_drewN ?_ _ | refine blk_drew ?_ | refine blk_alloc ?_ _)); exact BK273.out⟩, ⟨by (with_reducible repeat (first | refine blk_drewN ?_ _ | refine blk_drew ?_ | refine blk_alloc ?_ _)); refine blk_put (cs := #[.int .i64 t274, .int .i64 t275, .slice none 0 0]) ?_ 2 _ rfl; (with_reducible repeat (first | refine blk_drewN ?_ _ | refine blk_drew ?_ | refine blk_alloc ?_ _)); refine blk_put (cs := #[.int .i64 t274, .int .i64 0, .slice none 0 0]) ?_ 1 _ rfl; (with_reducible repeat (first | refine blk_drewN ?_ _ | refine blk_drew ?_ | refine blk_alloc ?_ _)); refine blk_put (cs := #[.int .i64 0, .int .i64 0, .slice none 0 0]) ?_ 0 _ rfl; (with_reducible repeat (first | refine blk_drewN ?_ _ | refine blk_drew ?_ | refine blk_alloc ?_ _)); exact BK280.out⟩, ⟨by repeat (first | (with_reducible first | exact HB.out | apply below_alloc | apply pw_below_drewN | apply below_drew1 | refine below_set ?_ GE273.out | refine below_set ?_ GE280.out) | exact HB.out)⟩⟩
          ·rw [if_neg c24] at H
           have c24b0 : (t279 == 0) = false := beq_eq_false_iff_ne.mpr c24
           have c24b1 : (t279 != 0) = true := bne_iff_ne.mpr c24
           (first | rw [c24b0] | (simp only [i64_w, i32_w]; rw [c24b0]) | skip)
           have H' := Aside0.mk H
           clear H
           go_wp2
           go_meet
           case rel => exact ⟨_, (true), (by first | rfl | (simp; done) | (simp [*]; done)), H', ⟨by have := HJ1.out; have := HK2.out; first | omega | exact Nat.le_refl _⟩, ⟨by (with_reducible repeat (first | apply Kd.R_alloc | apply Kd.R_drewN | apply Kd.R_drew)); exact Kd.R_mono (Kd.R_far (p := ⟨gb280, 2, none⟩) (Kd.R_far (p := ⟨gb280, 1, none⟩) (Kd.R_far (p := ⟨gb280, 0, none⟩) (Kd.R_types HO278.out BK280.out (by decide)) (fun _ hk => hk.2) (.int .i64 t274)) (fun _ hk => hk.2) (.int .i64 t275)) (fun _ hk => hk.2) (.slice Ao23 t276.length co23)) (fun _ hk => trivial)⟩, ⟨by (with_reducible repeat (first | refine blk_drewN ?_ _ | refine blk_drew ?_ | refine blk_alloc ?_ _)); refine blk_far ?_ NB273_280.out _; (with_reducible repeat (first | refine blk_drewN ?_ _ | refine blk_drew ?_ | refine blk_alloc ?_ _)); refine blk_far ?_ NB273_280.out _; (with_reducible repeat (first | refine blk_drewN ?_ _ | refine blk_drew ?_ | refine blk_alloc ?_ _)); refine blk_far ?_ NB273_280.out _; (with_reducible repeat (first | refine blk_drewN ?_ _ | refine blk_drew ?_ | refine blk_alloc ?_ _)); exact BK273.out⟩, ⟨by (with_reducible repeat (first | refine blk_drewN ?_ _ | refine blk_drew ?_ | refine blk_alloc ?_ _)); refine blk_put (cs := #[.int .i64 t274, .int .i64 t275, .slice none 0 0]) ?_ 2 _ rfl; (with_reducible repeat (first | refine blk_drewN ?_ _ | refine blk_drew ?_ | refine blk_alloc ?_ _)); refine blk_put (cs := #[.int .i64 t274, .int .i64 0, .slice none 0 0]) ?_ 1 _ rfl; (with_reducible repeat (first | refine blk_drewN ?_ _ | refine blk_drew ?_ | refine blk_alloc ?_ _)); refine blk_put (cs := #[.int .i64 0, .int .i64 0, .slice none 0 0]) ?_ 0 _ rfl; (with_reducible repeat (first | refine blk_drewN ?_ _ | refine blk_drew ?_ | refine blk_alloc ?_ _)); exact BK280.out⟩, ⟨by repeat (first | (with_reducible first | exact HB.out | apply below_alloc | apply pw_below_drewN | apply below_drew1 | refine below_set ?_ GE273.out | refine below_set ?_ GE280.out) | exact HB.out)⟩⟩
         case rest =>
          clear HC16
          try clear c1
          try clear c2
          try clear p2
          try clear q2
          try clear hx2
          try clear c4
          try clear c5
          try clear c8
          try clear c9
          try clear c12
          try clear c12b0
          try clear c13
          try clear c13b0
          try clear c14
          try clear c14b0
          try clear c21
          try clear c24
          try clear c24b0
          try clear c24b1
          try clear c25
          try clear c27
          try clear p27
          try clear q27
          try clear hx27
          try clear hcz18_0
          try clear hcz18_1
          try clear hcz18_2
          try clear hcz22_0
          try clear hcz22_1
          try clear hcz22_2
          try clear hcz26_0
          try clear hcz26_1
          try clear hcz26_2
          try clear hcz27_0
          try clear hcz27_1
          try clear hcz27_2
          try clear hfz18_0
          try clear hfz18_1
          try clear hfz18_2
          try clear hfz22_0
          try clear hfz22_1
          try clear hfz22_2
          try clear hfz26_0
          try clear hfz26_1
          try clear hfz26_2
          try clear hfz27_0
          try clear hfz27_1
          try clear hfz27_2
          try clear hx272_0
          try clear hx272_1
          try clear hx272_2
          try clear p2
          try clear p272
          try clear q272
          obtain ⟨kq, x46_15, rfl, HA, HJ15, HO_281002, BK273, BK280, HB⟩ := hcut
          cases kq with
          | zero => exact absurd HA.out (by simp [hauberklaw04_LayFields.j2])
          | succ kj15 =>
           have H := HA.out
           clear HA
           simp only [hauberklaw04_LayFields.j2] at H
           by_cases c28 : x46_15 = true
           ·subst c28
            have H1 : (some false) = some r := by rw [if_pos rfl] at H; exact H
            clear H
            have H := H1
            clear H1
            obtain rfl := Option.some.inj H
            exact absurd hrt.out (by simp)
           ·replace c28 := Bool.eq_false_iff.mpr c28
            subst c28
            have H1 : (hauberklaw04_LayFields.l1 kj15 l0 l0 (l0.length : Int) x25_2 ((rd_T30 l0 x25_2).f1) (((rd_T30 l0 x25_2).f1).length : Int) 0 ((rd_T30 l0 x25_2).f0) ((rd_T30 l0 x25_2).f1) ((rd_T30 l0 x25_2).f2) t274 t275 t276) = some r := by rw [if_neg (show ¬ (false = true) by decide)] at H; exact H
            clear H
            have H := H1
            clear H1
            have H' := Aside0.mk H
            clear H
            have hnb29 := NB273_280.out
            have hnc29 := NB280_273.out
            have hcz30_0 : wc.cell? ⟨gb273, 0, none⟩ = some (.string ((rd_T30 l0 x25_2).f0)) := (blk_cell BK273.out 0).trans rfl
            have hcz30_1 : wc.cell? ⟨gb273, 1, none⟩ = some (.slice A272_1 ((rd_T30 l0 x25_2).f1).length c272_1) := (blk_cell BK273.out 1).trans rfl
            have hcz30_2 : wc.cell? ⟨gb273, 2, none⟩ = some (.int .i64 ((rd_T30 l0 x25_2).f2)) := (blk_cell BK273.out 2).trans rfl
            have hfz30_0 := blk_frozen BK273.out 0
            have hfz30_1 := blk_frozen BK273.out 1
            have hfz30_2 := blk_frozen BK273.out 2
            go_wp2
            go_loopg [50] kj15 (fun kq v50 w' => ∃ (x50_4 : Int), v50 = .int .i64 x50_4 ∧ Aside0 (hauberklaw04_LayFields.l1 kq l0 l0 (l0.length : Int) x25_2 ((rd_T30 l0 x25_2).f1) (((rd_T30 l0 x25_2).f1).length : Int) x50_4 ((rd_T30 l0 x25_2).f0) ((rd_T30 l0 x25_2).f1) ((rd_T30 l0 x25_2).f2) t274 t275 t276 = some r) ∧ Aside0 (kq ≤ kj15) ∧ Aside0 (Kd.R (Kd.int .i64) 3 w' w.heap.size (fun _ => True) (.slice Ao23 t276.length co23) t276) ∧ Aside0 (w'.heap[gb273]? = some (.cells #[.string ((rd_T30 l0 x25_2).f0), (.slice A272_1 ((rd_T30 l0 x25_2).f1).length c272_1), .int .i64 ((rd_T30 l0 x25_2).f2)] 30 (0, 0))) ∧ Aside0 (w'.heap[gb280]? = some (.cells #[.int .i64 t274, .int .i64 t275, (.slice Ao23 t276.length co23)] 36 (0, 0))) ∧ Aside0 (Below w.heap.size w w'))
            case atStart => exact ⟨(0), (by first | rfl | (simp; done) | (simp [*]; done)), H', ⟨Nat.le_refl _⟩, ⟨by (with_reducible repeat (first | apply Kd.R_alloc | apply Kd.R_drewN | apply Kd.R_drew)); exact HO_281002.out⟩, ⟨by (with_reducible repeat (first | refine blk_drewN ?_ _ | refine blk_drew ?_ | refine blk_alloc ?_ _)); exact BK273.out⟩, ⟨by (with_reducible repeat (first | refine blk_drewN ?_ _ | refine blk_drew ?_ | refine blk_alloc ?_ _)); exact BK280.out⟩, ⟨by repeat (first | (with_reducible first | exact HB.out | apply below_alloc | apply pw_below_drewN | apply below_drew1 | refine below_set ?_ GE273.out | refine below_set ?_ GE280.out) | exact HB.out)⟩⟩
            case round =>
             clear H'
             try clear c1
             try clear c2
             try clear p2
             try clear q2
             try clear hx2
             try clear c4
             try clear c5
             try clear c8
             try clear c9
             try clear c12
             try clear c12b0
             try clear c13
             try clear c13b0
             try clear c14
             try clear c14b0
             try clear c21
             try clear c24
             try clear c24b0
             try clear c24b1
             try clear c25
             try clear c27
             try clear p27
             try clear q27
             try clear hx27
             try clear c28
             try clear c29
             try clear hcz18_0
             try clear hcz18_1
             try clear hcz18_2
             try clear hcz22_0
             try clear hcz22_1
             try clear hcz22_2
             try clear hcz26_0
             try clear hcz26_1
             try clear hcz26_2
             try clear hcz27_0
             try clear hcz27_1
             try clear hcz27_2
             try clear hcz30_0
             try clear hcz30_1
             try clear hcz30_2
             try clear hfz18_0
             try clear hfz18_1
             try clear hfz18_2
             try clear hfz22_0
             try clear hfz22_1
             try clear hfz22_2
             try clear hfz26_0
             try clear hfz26_1
             try clear hfz26_2
             try clear hfz27_0
             try clear hfz27_1
             try clear hfz27_2
             try clear hfz30_0
             try clear hfz30_1
             try clear hfz30_2
             try clear hx272_0
             try clear hx272_1
             try clear hx272_2
             try clear p2
             try clear p27
             try clear p272
             try clear q2
             try clear q27
             try clear q272
             obtain ⟨x50_4, rfl, HA, HK4, HO_281002, BK273, BK280, HB⟩ := hrel
             cases gk with
             | zero => exact absurd HA.out (by simp [hauberklaw04_LayFields.l1])
             | succ k4 =>
              have H := HA.out
              clear HA
              simp only [hauberklaw04_LayFields.l1] at H
              by_cases c31 : x50_4 < (((rd_T30 l0 x25_2).f1).length : Int)
              ·rw [if_pos c31] at H
               have c31b0 : decide (x50_4 < (((rd_T30 l0 x25_2).f1).length : Int)) = true := decide_eq_true c31
               clear c31
               by_cases c32 : 0 ≤ x50_4
               ·rw [if_pos c32] at H
                have c32b0 : decide (0 ≤ x50_4) = true := decide_eq_true c32
                clear c32
                by_cases c33 : x50_4 < (((rd_T30 l0 x25_2).f1).length : Int)
                ·rw [if_pos c33] at H
                 have c33b0 : decide (x50_4 < (((rd_T30 l0 x25_2).f1).length : Int)) = true := decide_eq_true c33
                 clear c33
                 replace H := Option.bind_eq_some_iff.mp H
                 obtain ⟨⟨t283, t284, t285, t286, t287⟩, A340, H⟩ := H
                 replace H : ((lay_Size.f k4 l0 t283 t284 t285).bind fun bt289 => (if (wrap64 (x50_4 + 1)) < (t276.length : Int) then (if 0 ≤ (wrap64 (x50_4 + 1)) then (if t287 = 0 then (if bt289.2 = 0 then (if (!(t283 == ((rd_T32 ((rd_T30 l0 x25_2).f1) x50_4).f1.f0)) || (!(t284 == ((rd_T32 ((rd_T30 l0 x25_2).f1) x50_4).f1.f1)) || (!(t285.toList == (((rd_T32 ((rd_T30 l0 x25_2).f1) x50_4).f1.f2).toList))))) = true then (some false) else (if x50_4 < (t276.length : Int) then (if t286 = (rd t276 x50_4) then (if (wrap64 (t286 + bt289.1)) > (rd t276 (wrap64 (x50_4 + 1))) then (some false) else (hauberklaw04_LayFields.l1 k4 l0 l0 (l0.length : Int) x25_2 ((rd_T30 l0 x25_2).f1) (((rd_T30 l0 x25_2).f1).length : Int) (wrap64 (x50_4 + 1)) ((rd_T30 l0 x25_2).f0) ((rd_T30 l0 x25_2).f1) ((rd_T30 l0 x25_2).f2) t274 t275 t276)) else (some false)) else (none))) else (some false)) else (some false)) else (none)) else (if t287 = 0 then (if bt289.2 = 0 then (if (!(t283 == ((rd_T32 ((rd_T30 l0 x25_2).f1) x50_4).f1.f0)) || (!(t284 == ((rd_T32 ((rd_T30 l0 x25_2).f1) x50_4).f1.f1)) || (!(t285.toList == (((rd_T32 ((rd_T30 l0 x25_2).f1) x50_4).f1.f2).toList))))) = true then (some false) else (if x50_4 < (t276.length : Int) then (if t286 = (rd t276 x50_4) then (if (wrap64 (t286 + bt289.1)) > t274 then (some false) else (hauberklaw04_LayFields.l1 k4 l0 l0 (l0.length : Int) x25_2 ((rd_T30 l0 x25_2).f1) (((rd_T30 l0 x25_2).f1).length : Int) (wrap64 (x50_4 + 1)) ((rd_T30 l0 x25_2).f0) ((rd_T30 l0 x25_2).f1) ((rd_T30 l0 x25_2).f2) t274 t275 t276)) else (some false)) else (none))) else (some false)) else (some false)))) = some r := H
                 have A34 := Aside0.mk A340
                 clear A340
                 replace H := Option.bind_eq_some_iff.mp H
                 obtain ⟨⟨t289, t290⟩, A350, H⟩ := H
                 replace H : (if (wrap64 (x50_4 + 1)) < (t276.length : Int) then (if 0 ≤ (wrap64 (x50_4 + 1)) then (if t287 = 0 then (if t290 = 0 then (if (!(t283 == ((rd_T32 ((rd_T30 l0 x25_2).f1) x50_4).f1.f0)) || (!(t284 == ((rd_T32 ((rd_T30 l0 x25_2).f1) x50_4).f1.f1)) || (!(t285.toList == (((rd_T32 ((rd_T30 l0 x25_2).f1) x50_4).f1.f2).toList))))) = true then (some false) else (if x50_4 < (t276.length : Int) then (if t286 = (rd t276 x50_4) then (if (wrap64 (t286 + t289)) > (rd t276 (wrap64 (x50_4 + 1))) then (some false) else (hauberklaw04_LayFields.l1 k4 l0 l0 (l0.length : Int) x25_2 ((rd_T30 l0 x25_2).f1) (((rd_T30 l0 x25_2).f1).length : Int) (wrap64 (x50_4 + 1)) ((rd_T30 l0 x25_2).f0) ((rd_T30 l0 x25_2).f1) ((rd_T30 l0 x25_2).f2) t274 t275 t276)) else (some false)) else (none))) else (some false)) else (some false)) else (none)) else (if t287 = 0 then (if t290 = 0 then (if (!(t283 == ((rd_T32 ((rd_T30 l0 x25_2).f1) x50_4).f1.f0)) || (!(t284 == ((rd_T32 ((rd_T30 l0 x25_2).f1) x50_4).f1.f1)) || (!(t285.toList == (((rd_T32 ((rd_T30 l0 x25_2).f1) x50_4).f1.f2).toList))))) = true then (some false) else (if x50_4 < (t276.length : Int) then (if t286 = (rd t276 x50_4) then (if (wrap64 (t286 + t289)) > t274 then (some false) else (hauberklaw04_LayFields.l1 k4 l0 l0 (l0.length : Int) x25_2 ((rd_T30 l0 x25_2).f1) (((rd_T30 l0 x25_2).f1).length : Int) (wrap64 (x50_4 + 1)) ((rd_T30 l0 x25_2).f0) ((rd_T30 l0 x25_2).f1) ((rd_T30 l0 x25_2).f2) t274 t275 t276)) else (some false)) else (none))) else (some false)) else (some false))) = some r := H
                 have A35 := Aside0.mk A350
                 clear A350
                 by_cases c36 : (wrap64 (x50_4 + 1)) < (t276.length : Int)
                 ·rw [if_pos c36] at H
                  have c36b0 : decide ((wrap64 (x50_4 + 1)) < (t276.length : Int)) = true := decide_eq_true c36
                  clear c36
                  obtain ⟨ji37, hji37⟩ : ∃ j_ : Int, (wrap64 (x50_4 + 1)) = j_ := ⟨_, rfl⟩
                  replace H : (if 0 ≤ (ji37) then (if t287 = 0 then (if t290 = 0 then (if (!(t283 == ((rd_T32 ((rd_T30 l0 x25_2).f1) x50_4).f1.f0)) || (!(t284 == ((rd_T32 ((rd_T30 l0 x25_2).f1) x50_4).f1.f1)) || (!(t285.toList == (((rd_T32 ((rd_T30 l0 x25_2).f1) x50_4).f1.f2).toList))))) = true then (some false) else (if x50_4 < (t276.length : Int) then (if t286 = (rd t276 x50_4) then (if (wrap64 (t286 + t289)) > (rd t276 (ji37)) then (some false) else (hauberklaw04_LayFields.l1 k4 l0 l0 (l0.length : Int) x25_2 ((rd_T30 l0 x25_2).f1) (((rd_T30 l0 x25_2).f1).length : Int) ji37 ((rd_T30 l0 x25_2).f0) ((rd_T30 l0 x25_2).f1) ((rd_T30 l0 x25_2).f2) t274 t275 t276)) else (some false)) else (none))) else (some false)) else (some false)) else (none)) = some r := by first | (rw [hji37] at H; exact H) | (simp only [hji37] at H ⊢; exact H)
                  (try rw [hji37] at c36b0)
                  (try rw [hji37] at A34)
                  (try rw [hji37] at A35)
                  have hji37w : (IntKind.i64.wrap (x50_4 + 1)) = ji37 := (i64_w _).trans hji37
                  by_cases c38 : 0 ≤ (ji37)
                  ·rw [if_pos c38] at H
                   have c38b0 : decide (0 ≤ (ji37)) = true := decide_eq_true c38
                   clear c38
                   by_cases c39 : t287 = 0
                   ·rw [if_pos c39] at H
                    have c39b0 : (t287 == 0) = true := beq_iff_eq.mpr c39
                    have c39b1 : (t287 != 0) = false := bne_eq_false_iff_eq.mpr c39
                    clear c39
                    by_cases c40 : t290 = 0
                    ·rw [if_pos c40] at H
                     have c40b0 : (t290 == 0) = true := beq_iff_eq.mpr c40
                     have c40b1 : (t290 != 0) = false := bne_eq_false_iff_eq.mpr c40
                     clear c40
                     by_cases c41 : (!(t283 == ((rd_T32 ((rd_T30 l0 x25_2).f1) x50_4).f1.f0)) || (!(t284 == ((rd_T32 ((rd_T30 l0 x25_2).f1) x50_4).f1.f1)) || (!(t285.toList == (((rd_T32 ((rd_T30 l0 x25_2).f1) x50_4).f1.f2).toList))))) = true
                     ·rw [if_pos c41] at H
                      have c41b0 : (!(t283 == ((rd_T32 ((rd_T30 l0 x25_2).f1) x50_4).f1.f0)) || (!(t284 == ((rd_T32 ((rd_T30 l0 x25_2).f1) x50_4).f1.f1)) || (!(t285.toList == (((rd_T32 ((rd_T30 l0 x25_2).f1) x50_4).f1.f2).toList))))) = true := c41
                      clear c41
                      obtain rfl := Option.some.inj H
                      exact absurd hrt.out (by simp)
                     ·rw [if_neg c41] at H
                      have c41b0 : (!(t283 == ((rd_T32 ((rd_T30 l0 x25_2).f1) x50_4).f1.f0)) || (!(t284 == ((rd_T32 ((rd_T30 l0 x25_2).f1) x50_4).f1.f1)) || (!(t285.toList == (((rd_T32 ((rd_T30 l0 x25_2).f1) x50_4).f1.f2).toList))))) = false := by simpa using c41
                      clear c41
                      by_cases c42 : x50_4 < (t276.length : Int)
                      ·rw [if_pos c42] at H
                       have c42b0 : decide (x50_4 < (t276.length : Int)) = true := decide_eq_true c42
                       clear c42
                       by_cases c43 : t286 = (rd t276 x50_4)
                       ·rw [if_pos c43] at H
                        have c43b0 : (t286 == (rd t276 x50_4)) = true := beq_iff_eq.mpr c43
                        have c43b1 : (t286 != (rd t276 x50_4)) = false := bne_eq_false_iff_eq.mpr c43
                        clear c43
                        by_cases c44 : (wrap64 (t286 + t289)) > (rd t276 (ji37))
                        ·rw [if_pos c44] at H
                         have c44b0 : decide ((rd t276 (ji37)) < (wrap64 (t286 + t289))) = true := decide_eq_true c44
                         clear c44
                         obtain rfl := Option.some.inj H
                         exact absurd hrt.out (by simp)
                        ·rw [if_neg c44] at H
                         have c44b0 : decide ((rd t276 (ji37)) < (wrap64 (t286 + t289))) = false := decide_eq_false c44
                         clear c44
                         have H' := Aside0.mk H
                         clear H
                         have p281 : 0 ≤ (x50_4 : Int) := of_decide_eq_true (by first | (with_reducible assumption) | assumption)
                         have q281 : x50_4 < (((rd_T30 l0 x25_2).f1).length : Int) := of_decide_eq_true (by first | (with_reducible assumption) | assumption)
                         obtain ⟨ad281, e281, hx281_0, hx281_1, hx281_2, hx281_3, hx281_4⟩ := at_T32 HR272_1.out x50_4 p281 q281
                         cases e281
                         replace hx281_0 := (HB.out.cell (World.block_lt_of_cell? w _ hx281_0)).trans hx281_0
                         replace hx281_1 := (HB.out.cell (World.block_lt_of_cell? w _ hx281_1)).trans hx281_1
                         replace hx281_2 := (HB.out.cell (World.block_lt_of_cell? w _ hx281_2)).trans hx281_2
                         replace hx281_3 := (HB.out.cell (World.block_lt_of_cell? w _ hx281_3)).trans hx281_3
                         replace hx281_4 := (HB.out.cell (World.block_lt_of_cell? w _ hx281_4)).trans hx281_4
                         replace p281 := eq_true p281
                         replace q281 := eq_true q281
                         go_wp2_with (first | ((with_reducible refine gate_dst (N := 8) rfl ?_); (try (refine gate_guard (by rfl) ?_; dsimp only)); refine box_event ?hg (N := 8) ?hd (cs := #[.string (⟨#[]⟩ : ByteArray), .int .i64 0, .int .i64 0, .string (⟨#[]⟩ : ByteArray), .int .i64 0]) (t := 32) ?hr ?_; (case hd => rfl); (case hg => rfl); (case hr => first | (go_simp; done) | (go_simp; rfl)); intro gb282 hg w45 hbox hb; have n0_ := Aside0.mk (Kd.R_below (by (with_reducible repeat (first | apply Kd.R_alloc | apply Kd.R_drewN | apply Kd.R_drew)); exact HO_281002.out) hb); have n1_ := Aside0.mk (blk_below (g := gb273) (o := .cells #[.string ((rd_T30 l0 x25_2).f0), .slice (some ad281) ((rd_T30 l0 x25_2).f1).length c272_1, .int .i64 ((rd_T30 l0 x25_2).f2)] 30 (0, 0)) (by (with_reducible repeat (first | refine blk_drewN ?_ _ | refine blk_drew ?_ | refine blk_alloc ?_ _)); exact BK273.out) hb); have n2_ := Aside0.mk (blk_below (g := gb280) (o := .cells #[.int .i64 t274, .int .i64 t275, .slice Ao23 t276.length co23] 36 (0, 0)) (by (with_reducible repeat (first | refine blk_drewN ?_ _ | refine blk_drew ?_ | refine blk_alloc ?_ _)); exact BK280.out) hb); have n3_ := Aside0.mk (below_step (by repeat (first | (with_reducible first | exact HB.out | apply below_alloc | apply pw_below_drewN | apply below_drew1 | refine below_set ?_ GE273.out | refine below_set ?_ GE280.out) | exact HB.out)) hb); have n4_ := Aside0.mk (hbox); have n5_ := Aside0.mk ((by rw [hg]; exact (below_size (by repeat (first | (with_reducible first | exact HB.out | apply below_alloc | apply pw_below_drewN | apply below_drew1 | refine below_set ?_ GE273.out | refine below_set ?_ GE280.out) | exact HB.out))) : w.heap.size ≤ gb282)); have n6_ := Aside0.mk ((by rw [hg]; exact (below_size (by repeat (first | (with_reducible first | exact HB.out | apply below_alloc | apply pw_below_drewN | apply below_drew1 | refine below_set ?_ GE273.out | refine below_set ?_ GE280.out) | exact HB.out))) : w.heap.size ≤ gb282)); have n7_ := Aside0.mk ((by rw [hg]; exact Nat.ne_of_lt (blk_lt (g := gb273) (o := .cells #[.string ((rd_T30 l0 x25_2).f0), .slice (some ad281) ((rd_T30 l0 x25_2).f1).length c272_1, .int .i64 ((rd_T30 l0 x25_2).f2)] 30 (0, 0)) (by (with_reducible repeat (first | refine blk_drewN ?_ _ | refine blk_drew ?_ | refine blk_alloc ?_ _)); exact BK273.out)) : gb273 ≠ gb282)); have n8_ := Aside0.mk ((by rw [hg]; exact Nat.ne_of_gt (blk_lt (g := gb273) (o := .cells #[.string ((rd_T30 l0 x25_2).f0), .slice (some ad281) ((rd_T30 l0 x25_2).f1).length c272_1, .int .i64 ((rd_T30 l0 x25_2).f2)] 30 (0, 0)) (by (with_reducible repeat (first | refine blk_drewN ?_ _ | refine blk_drew ?_ | refine blk_alloc ?_ _)); exact BK273.out)) : gb282 ≠ gb273)); have n9_ := Aside0.mk ((by rw [hg]; exact Nat.ne_of_lt (blk_lt (g := gb280) (o := .cells #[.int .i64 t274, .int .i64 t275, .slice Ao23 t276.length co23] 36 (0, 0)) (by (with_reducible repeat (first | refine blk_drewN ?_ _ | refine blk_drew ?_ | refine blk_alloc ?_ _)); exact BK280.out)) : gb280 ≠ gb282)); have n10_ := Aside0.mk ((by rw [hg]; exact Nat.ne_of_gt (blk_lt (g := gb280) (o := .cells #[.int .i64 t274, .int .i64 t275, .slice Ao23 t276.length co23] 36 (0, 0)) (by (with_reducible repeat (first | refine blk_drewN ?_ _ | refine blk_drew ?_ | refine blk_alloc ?_ _)); exact BK280.out)) : gb282 ≠ gb280)); clear HO_281002; clear BK273; clear BK280; clear HB; have HO_281002 := n0_; have BK273 := n1_; have BK280 := n2_; have HB := n3_; have BK282 := n4_; have GW282 := n5_; have GE282 := n6_; have NB273_282 := n7_; have NB282_273 := n8_; have NB280_282 := n9_; have NB282_280 := n10_; clear n0_ n1_ n2_ n3_ n4_ n5_ n6_ n7_ n8_ n9_ n10_; clear hb hbox hg; have hnb46 := NB282_273.out; have hnc46 := NB273_282.out; have hnb47 := NB282_280.out; have hnc47 := NB280_282.out; have hcz48_0 : w45.cell? ⟨gb282, 0, none⟩ = some (.string (⟨#[]⟩ : ByteArray)) := (blk_cell BK282.out 0).trans rfl; have hcz48_1 : w45.cell? ⟨gb282, 1, none⟩ = some (.int .i64 0) := (blk_cell BK282.out 1).trans rfl; have hcz48_2 : w45.cell? ⟨gb282, 2, none⟩ = some (.int .i64 0) := (blk_cell BK282.out 2).trans rfl; have hcz48_3 : w45.cell? ⟨gb282, 3, none⟩ = some (.string (⟨#[]⟩ : ByteArray)) := (blk_cell BK282.out 3).trans rfl; have hcz48_4 : w45.cell? ⟨gb282, 4, none⟩ = some (.int .i64 0) := (blk_cell BK282.out 4).trans rfl; have hfz48_0 := blk_frozen BK282.out 0; have hfz48_1 := blk_frozen BK282.out 1; have hfz48_2 := blk_frozen BK282.out 2; have hfz48_3 := blk_frozen BK282.out 3; have hfz48_4 := blk_frozen BK282.out 4; have hnb49 := NB273_280.out; have hnc49 := NB280_273.out; have hcz50_0 : w45.cell? ⟨gb273, 0, none⟩ = some (.string ((rd_T30 l0 x25_2).f0)) := (blk_cell BK273.out 0).trans rfl; have hcz50_1 : w45.cell? ⟨gb273, 1, none⟩ = some (.slice (some ad281) ((rd_T30 l0 x25_2).f1).length c272_1) := (blk_cell BK273.out 1).trans rfl; have hcz50_2 : w45.cell? ⟨gb273, 2, none⟩ = some (.int .i64 ((rd_T30 l0 x25_2).f2)) := (blk_cell BK273.out 2).trans rfl; have hfz50_0 := blk_frozen BK273.out 0; have hfz50_1 := blk_frozen BK273.out 1; have hfz50_2 := blk_frozen BK273.out 2) | ((with_reducible refine gate_callee (f := 13) rfl ?_); refine goesL_ (some 61) rfl rfl Try.func13 (by kernel_rfl) rfl #[.slice (some ad272) l0.length c0, .string ((rd_T30 l0 x25_2).f0), .string ((rd_T32 ((rd_T30 l0 x25_2).f1) x50_4).f0)] rfl (by (try simp only [List.map_toArray, List.map_cons, List.map_nil]); first | done | rfl | (simp only [List.length_drop, List.length_take]; rfl)) ?_; (with_reducible refine (lay_Field.calls k4 _ _ l0 ((rd_T30 l0 x25_2).f0) ((rd_T32 ((rd_T30 l0 x25_2).f1) x50_4).f0) t283 t284 t285 t286 t287 _ ?side1 ?side2 A34.out).mono ?_); (case side1 => exact Kd.C_below HR0.out (by repeat (first | (with_reducible first | exact HB.out | apply below_alloc | apply pw_below_drewN | apply below_drew1 | refine below_set ?_ GE273.out | refine below_set ?_ GE280.out | refine below_set ?_ GE282.out) | exact HB.out))); (case side2 => exact HC0.out); rintro e w51 ⟨rfl, hb⟩; refine ⟨_, rfl, ?_⟩; have n0_ := Aside0.mk (Kd.R_below (by (with_reducible repeat (first | apply Kd.R_alloc | apply Kd.R_drewN | apply Kd.R_drew)); exact (Kd.R_mono (Kd.R_far (p := ⟨gb282, 4, none⟩) (Kd.R_far (p := ⟨gb282, 3, none⟩) (Kd.R_far (p := ⟨gb282, 2, none⟩) (Kd.R_far (p := ⟨gb282, 1, none⟩) (Kd.R_far (p := ⟨gb282, 0, none⟩) (Kd.R_types HO_281002.out BK282.out (by decide)) (fun _ hk => hk.2) (.string ((rd_T32 ((rd_T30 l0 x25_2).f1) x50_4).f0))) (fun _ hk => hk.2) (.int .i64 ((rd_T32 ((rd_T30 l0 x25_2).f1) x50_4).f1.f0))) (fun _ hk => hk.2) (.int .i64 ((rd_T32 ((rd_T30 l0 x25_2).f1) x50_4).f1.f1))) (fun _ hk => hk.2) (.string ((rd_T32 ((rd_T30 l0 x25_2).f1) x50_4).f1.f2))) (fun _ hk => hk.2) (.int .i64 ((rd_T32 ((rd_T30 l0 x25_2).f1) x50_4).f2))) (fun _ h_ => h_.1))) hb); have n1_ := Aside0.mk (blk_below (g := gb273) (o := .cells #[.string ((rd_T30 l0 x25_2).f0), .slice (some ad281) ((rd_T30 l0 x25_2).f1).length c272_1, .int .i64 ((rd_T30 l0 x25_2).f2)] 30 (0, 0)) (by (with_reducible repeat (first | refine blk_drewN ?_ _ | refine blk_drew ?_ | refine blk_alloc ?_ _)); refine blk_far ?_ NB273_282.out _; (with_reducible repeat (first | refine blk_drewN ?_ _ | refine blk_drew ?_ | refine blk_alloc ?_ _)); refine blk_far ?_ NB273_282.out _; (with_reducible repeat (first | refine blk_drewN ?_ _ | refine blk_drew ?_ | refine blk_alloc ?_ _)); refine blk_far ?_ NB273_282.out _; (with_reducible repeat (first | refine blk_drewN ?_ _ | refine blk_drew ?_ | refine blk_alloc ?_ _)); refine blk_far ?_ NB273_282.out _; (with_reducible repeat (first | refine blk_drewN ?_ _ | refine blk_drew ?_ | refine blk_alloc ?_ _)); refine blk_far ?_ NB273_282.out _; (with_reducible repeat (first | refine blk_drewN ?_ _ | refine blk_drew ?_ | refine blk_alloc ?_ _)); exact BK273.out) hb); have n2_ := Aside0.mk (blk_below (g := gb280) (o := .cells #[.int .i64 t274, .int .i64 t275, .slice Ao23 t276.length co23] 36 (0, 0)) (by (with_reducible repeat (first | refine blk_drewN ?_ _ | refine blk_drew ?_ | refine blk_alloc ?_ _)); refine blk_far ?_ NB280_282.out _; (with_reducible repeat (first | refine blk_drewN ?_ _ | refine blk_drew ?_ | refine blk_alloc ?_ _)); refine blk_far ?_ NB280_282.out _; (with_reducible repeat (first | refine blk_drewN ?_ _ | refine blk_drew ?_ | refine blk_alloc ?_ _)); refine blk_far ?_ NB280_282.out _; (with_reducible repeat (first | refine blk_drewN ?_ _ | refine blk_drew ?_ | refine blk_alloc ?_ _)); refine blk_far ?_ NB280_282.out _; (with_reducible repeat (first | refine blk_drewN ?_ _ | refine blk_drew ?_ | refine blk_alloc ?_ _)); refine blk_far ?_ NB280_282.out _; (with_reducible repeat (first | refine blk_drewN ?_ _ | refine blk_drew ?_ | refine blk_alloc ?_ _)); exact BK280.out) hb); have n3_ := Aside0.mk (blk_below (g := gb282) (o := .cells #[.string ((rd_T32 ((rd_T30 l0 x25_2).f1) x50_4).f0), .int .i64 ((rd_T32 ((rd_T30 l0 x25_2).f1) x50_4).f1.f0), .int .i64 ((rd_T32 ((rd_T30 l0 x25_2).f1) x50_4).f1.f1), .string ((rd_T32 ((rd_T30 l0 x25_2).f1) x50_4).f1.f2), .int .i64 ((rd_T32 ((rd_T30 l0 x25_2).f1) x50_4).f2)] 32 (0, 0)) (by (with_reducible repeat (first | refine blk_drewN ?_ _ | refine blk_drew ?_ | refine blk_alloc ?_ _)); refine blk_put (cs := #[.string ((rd_T32 ((rd_T30 l0 x25_2).f1) x50_4).f0), .int .i64 ((rd_T32 ((rd_T30 l0 x25_2).f1) x50_4).f1.f0), .int .i64 ((rd_T32 ((rd_T30 l0 x25_2).f1) x50_4).f1.f1), .string ((rd_T32 ((rd_T30 l0 x25_2).f1) x50_4).f1.f2), .int .i64 0]) ?_ 4 _ rfl; (with_reducible repeat (first | refine blk_drewN ?_ _ | refine blk_drew ?_ | refine blk_alloc ?_ _)); refine blk_put (cs := #[.string ((rd_T32 ((rd_T30 l0 x25_2).f1) x50_4).f0), .int .i64 ((rd_T32 ((rd_T30 l0 x25_2).f1) x50_4).f1.f0), .int .i64 ((rd_T32 ((rd_T30 l0 x25_2).f1) x50_4).f1.f1), .string (⟨#[]⟩ : ByteArray), .int .i64 0]) ?_ 3 _ rfl; (with_reducible repeat (first | refine blk_drewN ?_ _ | refine blk_drew ?_ | refine blk_alloc ?_ _)); refine blk_put (cs := #[.string ((rd_T32 ((rd_T30 l0 x25_2).f1) x50_4).f0), .int .i64 ((rd_T32 ((rd_T30 l0 x25_2).f1) x50_4).f1.f0), .int .i64 0, .string (⟨#[]⟩ : ByteArray), .int .i64 0]) ?_ 2 _ rfl; (with_reducible repeat (first | refine blk_drewN ?_ _ | refine blk_drew ?_ | refine blk_alloc ?_ _)); refine blk_put (cs := #[.string ((rd_T32 ((rd_T30 l0 x25_2).f1) x50_4).f0), .int .i64 0, .int .i64 0, .string (⟨#[]⟩ : ByteArray), .int .i64 0]) ?_ 1 _ rfl; (with_reducible repeat (first | refine blk_drewN ?_ _ | refine blk_drew ?_ | refine blk_alloc ?_ _)); refine blk_put (cs := #[.string (⟨#[]⟩ : ByteArray), .int .i64 0, .int .i64 0, .string (⟨#[]⟩ : ByteArray), .int .i64 0]) ?_ 0 _ rfl; (with_reducible repeat (first | refine blk_drewN ?_ _ | refine blk_drew ?_ | refine blk_alloc ?_ _)); exact BK282.out) hb); have n4_ := Aside0.mk (below_step (by repeat (first | (with_reducible first | exact HB.out | apply below_alloc | apply pw_below_drewN | apply below_drew1 | refine below_set ?_ GE273.out | refine below_set ?_ GE280.out | refine below_set ?_ GE282.out) | exact HB.out)) hb); clear HO_281002; clear BK273; clear BK280; clear BK282; clear HB; have HO_281002 := n0_; have BK273 := n1_; have BK280 := n2_; have BK282 := n3_; have HB := n4_; clear n0_ n1_ n2_ n3_ n4_; (try clear hb); (try clear hb2); (try clear hk); (try clear hi)) | ((with_reducible refine gate_dst (N := 9) rfl ?_); (try (refine gate_guard (by rfl) ?_; dsimp only)); refine box_event ?hg (N := 9) ?hd (cs := #[.int .i64 0, .int .i64 0, .string (⟨#[]⟩ : ByteArray)]) (t := 25) ?hr ?_; (case hd => rfl); (case hg => rfl); (case hr => first | (go_simp; done) | (go_simp; rfl)); intro gb288 hg w52 hbox hb; have n0_ := Aside0.mk (Kd.R_below (by (with_reducible repeat (first | apply Kd.R_alloc | apply Kd.R_drewN | apply Kd.R_drew)); exact HO_281002.out) hb); have n1_ := Aside0.mk (blk_below (g := gb273) (o := .cells #[.string ((rd_T30 l0 x25_2).f0), .slice (some ad281) ((rd_T30 l0 x25_2).f1).length c272_1, .int .i64 ((rd_T30 l0 x25_2).f2)] 30 (0, 0)) (by (with_reducible repeat (first | refine blk_drewN ?_ _ | refine blk_drew ?_ | refine blk_alloc ?_ _)); exact BK273.out) hb); have n2_ := Aside0.mk (blk_below (g := gb280) (o := .cells #[.int .i64 t274, .int .i64 t275, .slice Ao23 t276.length co23] 36 (0, 0)) (by (with_reducible repeat (first | refine blk_drewN ?_ _ | refine blk_drew ?_ | refine blk_alloc ?_ _)); exact BK280.out) hb); have n3_ := Aside0.mk (blk_below (g := gb282) (o := .cells #[.string ((rd_T32 ((rd_T30 l0 x25_2).f1) x50_4).f0), .int .i64 ((rd_T32 ((rd_T30 l0 x25_2).f1) x50_4).f1.f0), .int .i64 ((rd_T32 ((rd_T30 l0 x25_2).f1) x50_4).f1.f1), .string ((rd_T32 ((rd_T30 l0 x25_2).f1) x50_4).f1.f2), .int .i64 ((rd_T32 ((rd_T30 l0 x25_2).f1) x50_4).f2)] 32 (0, 0)) (by (with_reducible repeat (first | refine blk_drewN ?_ _ | refine blk_drew ?_ | refine blk_alloc ?_ _)); exact BK282.out) hb); have n4_ := Aside0.mk (below_step (by repeat (first | (with_reducible first | exact HB.out | apply below_alloc | apply pw_below_drewN | apply below_drew1 | refine below_set ?_ GE273.out | refine below_set ?_ GE280.out | refine below_set ?_ GE282.out) | exact HB.out)) hb); have n5_ := Aside0.mk (hbox); have n6_ := Aside0.mk ((by rw [hg]; exact (below_size (by repeat (first | (with_reducible first | exact HB.out | apply below_alloc | apply pw_below_drewN | apply below_drew1 | refine below_set ?_ GE273.out | refine below_set ?_ GE280.out | refine below_set ?_ GE282.out) | exact HB.out))) : w.heap.size ≤ gb288)); have n7_ := Aside0.mk ((by rw [hg]; exact (below_size (by repeat (first | (with_reducible first | exact HB.out | apply below_alloc | apply pw_below_drewN | apply below_drew1 | refine below_set ?_ GE273.out | refine below_set ?_ GE280.out | refine below_set ?_ GE282.out) | exact HB.out))) : w.heap.size ≤ gb288)); have n8_ := Aside0.mk ((by rw [hg]; exact Nat.ne_of_lt (blk_lt (g := gb273) (o := .cells #[.string ((rd_T30 l0 x25_2).f0), .slice (some ad281) ((rd_T30 l0 x25_2).f1).length c272_1, .int .i64 ((rd_T30 l0 x25_2).f2)] 30 (0, 0)) (by (with_reducible repeat (first | refine blk_drewN ?_ _ | refine blk_drew ?_ | refine blk_alloc ?_ _)); exact BK273.out)) : gb273 ≠ gb288)); have n9_ := Aside0.mk ((by rw [hg]; exact Nat.ne_of_gt (blk_lt (g := gb273) (o := .cells #[.string ((rd_T30 l0 x25_2).f0), .slice (some ad281) ((rd_T30 l0 x25_2).f1).length c272_1, .int .i64 ((rd_T30 l0 x25_2).f2)] 30 (0, 0)) (by (with_reducible repeat (first | refine blk_drewN ?_ _ | refine blk_drew ?_ | refine blk_alloc ?_ _)); exact BK273.out)) : gb288 ≠ gb273)); have n10_ := Aside0.mk ((by rw [hg]; exact Nat.ne_of_lt (blk_lt (g := gb280) (o := .cells #[.int .i64 t274, .int .i64 t275, .slice Ao23 t276.length co23] 36 (0, 0)) (by (with_reducible repeat (first | refine blk_drewN ?_ _ | refine blk_drew ?_ | refine blk_alloc ?_ _)); exact BK280.out)) : gb280 ≠ gb288)); have n11_ := Aside0.mk ((by rw [hg]; exact Nat.ne_of_gt (blk_lt (g := gb280) (o := .cells #[.int .i64 t274, .int .i64 t275, .slice Ao23 t276.length co23] 36 (0, 0)) (by (with_reducible repeat (first | refine blk_drewN ?_ _ | refine blk_drew ?_ | refine blk_alloc ?_ _)); exact BK280.out)) : gb288 ≠ gb280)); have n12_ := Aside0.mk ((by rw [hg]; exact Nat.ne_of_lt (blk_lt (g := gb282) (o := .cells #[.string ((rd_T32 ((rd_T30 l0 x25_2).f1) x50_4).f0), .int .i64 ((rd_T32 ((rd_T30 l0 x25_2).f1) x50_4).f1.f0), .int .i64 ((rd_T32 ((rd_T30 l0 x25_2).f1) x50_4).f1.f1), .string ((rd_T32 ((rd_T30 l0 x25_2).f1) x50_4).f1.f2), .int .i64 ((rd_T32 ((rd_T30 l0 x25_2).f1) x50_4).f2)] 32 (0, 0)) (by (with_reducible repeat (first | refine blk_drewN ?_ _ | refine blk_drew ?_ | refine blk_alloc ?_ _)); exact BK282.out)) : gb282 ≠ gb288)); have n13_ := Aside0.mk ((by rw [hg]; exact Nat.ne_of_gt (blk_lt (g := gb282) (o := .cells #[.string ((rd_T32 ((rd_T30 l0 x25_2).f1) x50_4).f0), .int .i64 ((rd_T32 ((rd_T30 l0 x25_2).f1) x50_4).f1.f0), .int .i64 ((rd_T32 ((rd_T30 l0 x25_2).f1) x50_4).f1.f1), .string ((rd_T32 ((rd_T30 l0 x25_2).f1) x50_4).f1.f2), .int .i64 ((rd_T32 ((rd_T30 l0 x25_2).f1) x50_4).f2)] 32 (0, 0)) (by (with_reducible repeat (first | refine blk_drewN ?_ _ | refine blk_drew ?_ | refine blk_alloc ?_ _)); exact BK282.out)) : gb288 ≠ gb282)); clear HO_281002; clear BK273; clear BK280; clear BK282; clear HB; have HO_281002 := n0_; have BK273 := n1_; have BK280 := n2_; have BK282 := n3_; have HB := n4_; have BK288 := n5_; have GW288 := n6_; have GE288 := n7_; have NB273_288 := n8_; have NB288_273 := n9_; have NB280_288 := n10_; have NB288_280 := n11_; have NB282_288 := n12_; have NB288_282 := n13_; clear n0_ n1_ n2_ n3_ n4_ n5_ n6_ n7_ n8_ n9_ n10_ n11_ n12_ n13_; clear hb hbox hg; have hnb53 := NB288_273.out; have hnc53 := NB273_288.out; have hnb54 := NB288_280.out; have hnc54 := NB280_288.out; have hnb55 := NB288_282.out; have hnc55 := NB282_288.out; have hcz56_0 : w52.cell? ⟨gb288, 0, none⟩ = some (.int .i64 0) := (blk_cell BK288.out 0).trans rfl; have hcz56_1 : w52.cell? ⟨gb288, 1, none⟩ = some (.int .i64 0) := (blk_cell BK288.out 1).trans rfl; have hcz56_2 : w52.cell? ⟨gb288, 2, none⟩ = some (.string (⟨#[]⟩ : ByteArray)) := (blk_cell BK288.out 2).trans rfl; have hfz56_0 := blk_frozen BK288.out 0; have hfz56_1 := blk_frozen BK288.out 1; have hfz56_2 := blk_frozen BK288.out 2) | ((with_reducible refine gate_callee (f := 15) rfl ?_); refine goesL_ (some 68) rfl rfl Try.func15 (by kernel_rfl) rfl #[.slice (some ad272) l0.length c0, .agg #[.int .i64 t283, .int .i64 t284, .string t285]] rfl (by (try simp only [List.map_toArray, List.map_cons, List.map_nil]); first | done | rfl | (simp only [List.length_drop, List.length_take]; rfl)) ?_; (with_reducible refine (lay_Size.calls k4 _ _ l0 t283 t284 t285 t289 t290 _ ?side1 ?side2 A35.out).mono ?_); (case side1 => exact Kd.C_below HR0.out (by repeat (first | (with_reducible first | exact HB.out | apply below_alloc | apply pw_below_drewN | apply below_drew1 | refine below_set ?_ GE273.out | refine below_set ?_ GE280.out | refine below_set ?_ GE282.out | refine below_set ?_ GE288.out) | exact HB.out))); (case side2 => exact HC0.out); rintro e w57 ⟨rfl, hb⟩; refine ⟨_, rfl, ?_⟩; have n0_ := Aside0.mk (Kd.R_below (by (with_reducible repeat (first | apply Kd.R_alloc | apply Kd.R_drewN | apply Kd.R_drew)); exact (Kd.R_mono (Kd.R_far (p := ⟨gb288, 2, none⟩) (Kd.R_far (p := ⟨gb288, 1, none⟩) (Kd.R_far (p := ⟨gb288, 0, none⟩) (Kd.R_types HO_281002.out BK288.out (by decide)) (fun _ hk => hk.2) (.int .i64 t283)) (fun _ hk => hk.2) (.int .i64 t284)) (fun _ hk => hk.2) (.string t285)) (fun _ h_ => h_.1))) hb); have n1_ := Aside0.mk (blk_below (g := gb273) (o := .cells #[.string ((rd_T30 l0 x25_2).f0), .slice (some ad281) ((rd_T30 l0 x25_2).f1).length c272_1, .int .i64 ((rd_T30 l0 x25_2).f2)] 30 (0, 0)) (by (with_reducible repeat (first | refine blk_drewN ?_ _ | refine blk_drew ?_ | refine blk_alloc ?_ _)); refine blk_far ?_ NB273_288.out _; (with_reducible repeat (first | refine blk_drewN ?_ _ | refine blk_drew ?_ | refine blk_alloc ?_ _)); refine blk_far ?_ NB273_288.out _; (with_reducible repeat (first | refine blk_drewN ?_ _ | refine blk_drew ?_ | refine blk_alloc ?_ _)); refine blk_far ?_ NB273_288.out _; (with_reducible repeat (first | refine blk_drewN ?_ _ | refine blk_drew ?_ | refine blk_alloc ?_ _)); exact BK273.out) hb); have n2_ := Aside0.mk (blk_below (g := gb280) (o := .cells #[.int .i64 t274, .int .i64 t275, .slice Ao23 t276.length co23] 36 (0, 0)) (by (with_reducible repeat (first | refine blk_drewN ?_ _ | refine blk_drew ?_ | refine blk_alloc ?_ _)); refine blk_far ?_ NB280_288.out _; (with_reducible repeat (first | refine blk_drewN ?_ _ | refine blk_drew ?_ | refine blk_alloc ?_ _)); refine blk_far ?_ NB280_288.out _; (with_reducible repeat (first | refine blk_drewN ?_ _ | refine blk_drew ?_ | refine blk_alloc ?_ _)); refine blk_far ?_ NB280_288.out _; (with_reducible repeat (first | refine blk_drewN ?_ _ | refine blk_drew ?_ | refine blk_alloc ?_ _)); exact BK280.out) hb); have n3_ := Aside0.mk (blk_below (g := gb282) (o := .cells #[.string ((rd_T32 ((rd_T30 l0 x25_2).f1) x50_4).f0), .int .i64 ((rd_T32 ((rd_T30 l0 x25_2).f1) x50_4).f1.f0), .int .i64 ((rd_T32 ((rd_T30 l0 x25_2).f1) x50_4).f1.f1), .string ((rd_T32 ((rd_T30 l0 x25_2).f1) x50_4).f1.f2), .int .i64 ((rd_T32 ((rd_T30 l0 x25_2).f1) x50_4).f2)] 32 (0, 0)) (by (with_reducible repeat (first | refine blk_drewN ?_ _ | refine blk_drew ?_ | refine blk_alloc ?_ _)); refine blk_far ?_ NB282_288.out _; (with_reducible repeat (first | refine blk_drewN ?_ _ | refine blk_drew ?_ | refine blk_alloc ?_ _)); refine blk_far ?_ NB282_288.out _; (with_reducible repeat (first | refine blk_drewN ?_ _ | refine blk_drew ?_ | refine blk_alloc ?_ _)); refine blk_far ?_ NB282_288.out _; (with_reducible repeat (first | refine blk_drewN ?_ _ | refine blk_drew ?_ | refine blk_alloc ?_ _)); exact BK282.out) hb); have n4_ := Aside0.mk (blk_below (g := gb288) (o := .cells #[.int .i64 t283, .int .i64 t284, .string t285] 25 (0, 0)) (by (with_reducible repeat (first | refine blk_drewN ?_ _ | refine blk_drew ?_ | refine blk_alloc ?_ _)); refine blk_put (cs := #[.int .i64 t283, .int .i64 t284, .string (⟨#[]⟩ : ByteArray)]) ?_ 2 _ rfl; (with_reducible repeat (first | refine blk_drewN ?_ _ | refine blk_drew ?_ | refine blk_alloc ?_ _)); refine blk_put (cs := #[.int .i64 t283, .int .i64 0, .string (⟨#[]⟩ : ByteArray)]) ?_ 1 _ rfl; (with_reducible repeat (first | refine blk_drewN ?_ _ | refine blk_drew ?_ | refine blk_alloc ?_ _)); refine blk_put (cs := #[.int .i64 0, .int .i64 0, .string (⟨#[]⟩ : ByteArray)]) ?_ 0 _ rfl; (with_reducible repeat (first | refine blk_drewN ?_ _ | refine blk_drew ?_ | refine blk_alloc ?_ _)); exact BK288.out) hb); have n5_ := Aside0.mk (below_step (by repeat (first | (with_reducible first | exact HB.out | apply below_alloc | apply pw_below_drewN | apply below_drew1 | refine below_set ?_ GE273.out | refine below_set ?_ GE280.out | refine below_set ?_ GE282.out | refine below_set ?_ GE288.out) | exact HB.out)) hb); clear HO_281002; clear BK273; clear BK280; clear BK282; clear BK288; clear HB; have HO_281002 := n0_; have BK273 := n1_; have BK280 := n2_; have BK282 := n3_; have BK288 := n4_; have HB := n5_; clear n0_ n1_ n2_ n3_ n4_ n5_; (try clear hb); (try clear hb2); (try clear hk); (try clear hi); have hcz58_0 : w57.cell? ⟨gb280, 0, none⟩ = some (.int .i64 t274) := (blk_cell BK280.out 0).trans rfl; have hcz58_1 : w57.cell? ⟨gb280, 1, none⟩ = some (.int .i64 t275) := (blk_cell BK280.out 1).trans rfl; have hcz58_2 : w57.cell? ⟨gb280, 2, none⟩ = some (.slice Ao23 t276.length co23) := (blk_cell BK280.out 2).trans rfl; have hfz58_0 := blk_frozen BK280.out 0; have hfz58_1 := blk_frozen BK280.out 1; have hfz58_2 := blk_frozen BK280.out 2; have p291 : 0 ≤ ((ji37) : Int) := of_decide_eq_true (by first | (with_reducible assumption) | assumption); have q291 : (ji37) < (t276.length : Int) := of_decide_eq_true (by first | (with_reducible assumption) | assumption); obtain ⟨ad291, e291, hx291_0⟩ := Kd.at_int (Kd.R_reads' HO_281002.out).2.2 (ji37) p291 q291; cases e291; replace p291 := eq_true p291; replace q291 := eq_true q291; have hcz59_0 : w57.cell? ⟨gb288, 0, none⟩ = some (.int .i64 t283) := (blk_cell BK288.out 0).trans rfl; have hcz59_1 : w57.cell? ⟨gb288, 1, none⟩ = some (.int .i64 t284) := (blk_cell BK288.out 1).trans rfl; have hcz59_2 : w57.cell? ⟨gb288, 2, none⟩ = some (.string t285) := (blk_cell BK288.out 2).trans rfl; have hfz59_0 := blk_frozen BK288.out 0; have hfz59_1 := blk_frozen BK288.out 1; have hfz59_2 := blk_frozen BK288.out 2; have hcz60_0 : w57.cell? ⟨gb282, 0, none⟩ = some (.string ((rd_T32 ((rd_T30 l0 x25_2).f1) x50_4).f0)) := (blk_cell BK282.out 0).trans rfl; have hcz60_1 : w57.cell? ⟨gb282, 1, none⟩ = some (.int .i64 ((rd_T32 ((rd_T30 l0 x25_2).f1) x50_4).f1.f0)) := (blk_cell BK282.out 1).trans rfl; have hcz60_2 : w57.cell? ⟨gb282, 2, none⟩ = some (.int .i64 ((rd_T32 ((rd_T30 l0 x25_2).f1) x50_4).f1.f1)) := (blk_cell BK282.out 2).trans rfl; have hcz60_3 : w57.cell? ⟨gb282, 3, none⟩ = some (.string ((rd_T32 ((rd_T30 l0 x25_2).f1) x50_4).f1.f2)) := (blk_cell BK282.out 3).trans rfl; have hcz60_4 : w57.cell? ⟨gb282, 4, none⟩ = some (.int .i64 ((rd_T32 ((rd_T30 l0 x25_2).f1) x50_4).f2)) := (blk_cell BK282.out 4).trans rfl; have hfz60_0 := blk_frozen BK282.out 0; have hfz60_1 := blk_frozen BK282.out 1; have hfz60_2 := blk_frozen BK282.out 2; have hfz60_3 := blk_frozen BK282.out 3; have hfz60_4 := blk_frozen BK282.out 4; have p292 : 0 ≤ (x50_4 : Int) := of_decide_eq_true (by first | (with_reducible assumption) | assumption); have q292 : x50_4 < (t276.length : Int) := of_decide_eq_true (by first | (with_reducible assumption) | assumption); obtain ⟨ad292, e292, hx292_0⟩ := Kd.at_int (Kd.R_reads' HO_281002.out).2.2 x50_4 p292 q292; obtain rfl : ad291 = ad292 := (by injection e292); replace p292 := eq_true p292; replace q292 := eq_true q292))
                         go_roundg k4
                         case measure => have := HJ1.out; have := HK2.out; have := HJ15.out; have := HK4.out; omega
                         case rel => exact ⟨(ji37), (by first | rfl | (simp; done) | (simp only [← hji37] <;> (first | rfl | simp)) | (simp [*]; done)), H', ⟨by have := HJ1.out; have := HK2.out; have := HJ15.out; have := HK4.out; omega⟩, ⟨by (with_reducible repeat (first | apply Kd.R_alloc | apply Kd.R_drewN | apply Kd.R_drew)); exact HO_281002.out⟩, ⟨by (with_reducible repeat (first | refine blk_drewN ?_ _ | refine blk_drew ?_ | refine blk_alloc ?_ _)); exact BK273.out⟩, ⟨by (with_reducible repeat (first | refine blk_drewN ?_ _ | refine blk_drew ?_ | refine blk_alloc ?_ _)); exact BK280.out⟩, ⟨by repeat (first | (with_reducible first | exact HB.out | apply below_alloc | apply pw_below_drewN | apply below_drew1 | refine below_set ?_ GE273.out | refine below_set ?_ GE280.out | refine below_set ?_ GE282.out | refine below_set ?_ GE288.out) | exact HB.out)⟩⟩
                       ·rw [if_neg c43] at H
                        have c43b0 : (t286 == (rd t276 x50_4)) = false := beq_eq_false_iff_ne.mpr c43
                        have c43b1 : (t286 != (rd t276 x50_4)) = true := bne_iff_ne.mpr c43
                        obtain rfl := Option.some.inj H
                        exact absurd hrt.out (by simp)
                      ·rw [if_neg c42] at H
                       exact absurd H (by simp)
                    ·rw [if_neg c40] at H
                     have c40b0 : (t290 == 0) = false := beq_eq_false_iff_ne.mpr c40
                     have c40b1 : (t290 != 0) = true := bne_iff_ne.mpr c40
                     obtain rfl := Option.some.inj H
                     exact absurd hrt.out (by simp)
                   ·rw [if_neg c39] at H
                    have c39b0 : (t287 == 0) = false := beq_eq_false_iff_ne.mpr c39
                    have c39b1 : (t287 != 0) = true := bne_iff_ne.mpr c39
                    obtain rfl := Option.some.inj H
                    exact absurd hrt.out (by simp)
                  ·rw [if_neg c38] at H
                   exact absurd H (by simp)
                 ·rw [if_neg c36] at H
                  have c36b0 : decide ((wrap64 (x50_4 + 1)) < (t276.length : Int)) = false := decide_eq_false c36
                  clear c36
                  by_cases c61 : t287 = 0
                  ·rw [if_pos c61] at H
                   have c61b0 : (t287 == 0) = true := beq_iff_eq.mpr c61
                   have c61b1 : (t287 != 0) = false := bne_eq_false_iff_eq.mpr c61
                   clear c61
                   by_cases c62 : t290 = 0
                   ·rw [if_pos c62] at H
                    have c62b0 : (t290 == 0) = true := beq_iff_eq.mpr c62
                    have c62b1 : (t290 != 0) = false := bne_eq_false_iff_eq.mpr c62
                    clear c62
                    by_cases c63 : (!(t283 == ((rd_T32 ((rd_T30 l0 x25_2).f1) x50_4).f1.f0)) || (!(t284 == ((rd_T32 ((rd_T30 l0 x25_2).f1) x50_4).f1.f1)) || (!(t285.toList == (((rd_T32 ((rd_T30 l0 x25_2).f1) x50_4).f1.f2).toList))))) = true
                    ·rw [if_pos c63] at H
                     have c63b0 : (!(t283 == ((rd_T32 ((rd_T30 l0 x25_2).f1) x50_4).f1.f0)) || (!(t284 == ((rd_T32 ((rd_T30 l0 x25_2).f1) x50_4).f1.f1)) || (!(t285.toList == (((rd_T32 ((rd_T30 l0 x25_2).f1) x50_4).f1.f2).toList))))) = true := c63
                     clear c63
                     obtain rfl := Option.some.inj H
                     exact absurd hrt.out (by simp)
                    ·rw [if_neg c63] at H
                     have c63b0 : (!(t283 == ((rd_T32 ((rd_T30 l0 x25_2).f1) x50_4).f1.f0)) || (!(t284 == ((rd_T32 ((rd_T30 l0 x25_2).f1) x50_4).f1.f1)) || (!(t285.toList == (((rd_T32 ((rd_T30 l0 x25_2).f1) x50_4).f1.f2).toList))))) = false := by simpa using c63
                     clear c63
                     by_cases c64 : x50_4 < (t276.length : Int)
                     ·rw [if_pos c64] at H
                      have c64b0 : decide (x50_4 < (t276.length : Int)) = true := decide_eq_true c64
                      clear c64
                      by_cases c65 : t286 = (rd t276 x50_4)
                      ·rw [if_pos c65] at H
                       have c65b0 : (t286 == (rd t276 x50_4)) = true := beq_iff_eq.mpr c65
                       have c65b1 : (t286 != (rd t276 x50_4)) = false := bne_eq_false_iff_eq.mpr c65
                       clear c65
                       by_cases c66 : (wrap64 (t286 + t289)) > t274
                       ·rw [if_pos c66] at H
                        have c66b0 : decide (t274 < (wrap64 (t286 + t289))) = true := decide_eq_true c66
                        clear c66
                        obtain rfl := Option.some.inj H
                        exact absurd hrt.out (by simp)
                       ·rw [if_neg c66] at H
                        have c66b0 : decide (t274 < (wrap64 (t286 + t289))) = false := decide_eq_false c66
                        clear c66
                        have H' := Aside0.mk H
                        clear H
                        have p281 : 0 ≤ (x50_4 : Int) := of_decide_eq_true (by first | (with_reducible assumption) | assumption)
                        have q281 : x50_4 < (((rd_T30 l0 x25_2).f1).length : Int) := of_decide_eq_true (by first | (with_reducible assumption) | assumption)
                        obtain ⟨ad281, e281, hx281_0, hx281_1, hx281_2, hx281_3, hx281_4⟩ := at_T32 HR272_1.out x50_4 p281 q281
                        cases e281
                        replace hx281_0 := (HB.out.cell (World.block_lt_of_cell? w _ hx281_0)).trans hx281_0
                        replace hx281_1 := (HB.out.cell (World.block_lt_of_cell? w _ hx281_1)).trans hx281_1
                        replace hx281_2 := (HB.out.cell (World.block_lt_of_cell? w _ hx281_2)).trans hx281_2
                        replace hx281_3 := (HB.out.cell (World.block_lt_of_cell? w _ hx281_3)).trans hx281_3
                        replace hx281_4 := (HB.out.cell (World.block_lt_of_cell? w _ hx281_4)).trans hx281_4
                        replace p281 := eq_true p281
                        replace q281 := eq_true q281
                        go_wp2_with (first | ((with_reducible refine gate_dst (N := 8) rfl ?_); (try (refine gate_guard (by rfl) ?_; dsimp only)); refine box_event ?hg (N := 8) ?hd (cs := #[.string (⟨#[]⟩ : ByteArray), .int .i64 0, .int .i64 0, .string (⟨#[]⟩ : ByteArray), .int .i64 0]) (t := 32) ?hr ?_; (case hd => rfl); (case hg => rfl); (case hr => first | (go_simp; done) | (go_simp; rfl)); intro gb282 hg w67 hbox hb; have n0_ := Aside0.mk (Kd.R_below (by (with_reducible repeat (first | apply Kd.R_alloc | apply Kd.R_drewN | apply Kd.R_drew)); exact HO_281002.out) hb); have n1_ := Aside0.mk (blk_below (g := gb273) (o := .cells #[.string ((rd_T30 l0 x25_2).f0), .slice (some ad281) ((rd_T30 l0 x25_2).f1).length c272_1, .int .i64 ((rd_T30 l0 x25_2).f2)] 30 (0, 0)) (by (with_reducible repeat (first | refine blk_drewN ?_ _ | refine blk_drew ?_ | refine blk_alloc ?_ _)); exact BK273.out) hb); have n2_ := Aside0.mk (blk_below (g := gb280) (o := .cells #[.int .i64 t274, .int .i64 t275, .slice Ao23 t276.length co23] 36 (0, 0)) (by (with_reducible repeat (first | refine blk_drewN ?_ _ | refine blk_drew ?_ | refine blk_alloc ?_ _)); exact BK280.out) hb); have n3_ := Aside0.mk (below_step (by repeat (first | (with_reducible first | exact HB.out | apply below_alloc | apply pw_below_drewN | apply below_drew1 | refine below_set ?_ GE273.out | refine below_set ?_ GE280.out) | exact HB.out)) hb); have n4_ := Aside0.mk (hbox); have n5_ := Aside0.mk ((by rw [hg]; exact (below_size (by repeat (first | (with_reducible first | exact HB.out | apply below_alloc | apply pw_below_drewN | apply below_drew1 | refine below_set ?_ GE273.out | refine below_set ?_ GE280.out) | exact HB.out))) : w.heap.size ≤ gb282)); have n6_ := Aside0.mk ((by rw [hg]; exact (below_size (by repeat (first | (with_reducible first | exact HB.out | apply below_alloc | apply pw_below_drewN | apply below_drew1 | refine below_set ?_ GE273.out | refine below_set ?_ GE280.out) | exact HB.out))) : w.heap.size ≤ gb282)); have n7_ := Aside0.mk ((by rw [hg]; exact Nat.ne_of_lt (blk_lt (g := gb273) (o := .cells #[.string ((rd_T30 l0 x25_2).f0), .slice (some ad281) ((rd_T30 l0 x25_2).f1).length c272_1, .int .i64 ((rd_T30 l0 x25_2).f2)] 30 (0, 0)) (by (with_reducible repeat (first | refine blk_drewN ?_ _ | refine blk_drew ?_ | refine blk_alloc ?_ _)); exact BK273.out)) : gb273 ≠ gb282)); have n8_ := Aside0.mk ((by rw [hg]; exact Nat.ne_of_gt (blk_lt (g := gb273) (o := .cells #[.string ((rd_T30 l0 x25_2).f0), .slice (some ad281) ((rd_T30 l0 x25_2).f1).length c272_1, .int .i64 ((rd_T30 l0 x25_2).f2)] 30 (0, 0)) (by (with_reducible repeat (first | refine blk_drewN ?_ _ | refine blk_drew ?_ | refine blk_alloc ?_ _)); exact BK273.out)) : gb282 ≠ gb273)); have n9_ := Aside0.mk ((by rw [hg]; exact Nat.ne_of_lt (blk_lt (g := gb280) (o := .cells #[.int .i64 t274, .int .i64 t275, .slice Ao23 t276.length co23] 36 (0, 0)) (by (with_reducible repeat (first | refine blk_drewN ?_ _ | refine blk_drew ?_ | refine blk_alloc ?_ _)); exact BK280.out)) : gb280 ≠ gb282)); have n10_ := Aside0.mk ((by rw [hg]; exact Nat.ne_of_gt (blk_lt (g := gb280) (o := .cells #[.int .i64 t274, .int .i64 t275, .slice Ao23 t276.length co23] 36 (0, 0)) (by (with_reducible repeat (first | refine blk_drewN ?_ _ | refine blk_drew ?_ | refine blk_alloc ?_ _)); exact BK280.out)) : gb282 ≠ gb280)); clear HO_281002; clear BK273; clear BK280; clear HB; have HO_281002 := n0_; have BK273 := n1_; have BK280 := n2_; have HB := n3_; have BK282 := n4_; have GW282 := n5_; have GE282 := n6_; have NB273_282 := n7_; have NB282_273 := n8_; have NB280_282 := n9_; have NB282_280 := n10_; clear n0_ n1_ n2_ n3_ n4_ n5_ n6_ n7_ n8_ n9_ n10_; clear hb hbox hg; have hnb68 := NB282_273.out; have hnc68 := NB273_282.out; have hnb69 := NB282_280.out; have hnc69 := NB280_282.out; have hcz70_0 : w67.cell? ⟨gb282, 0, none⟩ = some (.string (⟨#[]⟩ : ByteArray)) := (blk_cell BK282.out 0).trans rfl; have hcz70_1 : w67.cell? ⟨gb282, 1, none⟩ = some (.int .i64 0) := (blk_cell BK282.out 1).trans rfl; have hcz70_2 : w67.cell? ⟨gb282, 2, none⟩ = some (.int .i64 0) := (blk_cell BK282.out 2).trans rfl; have hcz70_3 : w67.cell? ⟨gb282, 3, none⟩ = some (.string (⟨#[]⟩ : ByteArray)) := (blk_cell BK282.out 3).trans rfl; have hcz70_4 : w67.cell? ⟨gb282, 4, none⟩ = some (.int .i64 0) := (blk_cell BK282.out 4).trans rfl; have hfz70_0 := blk_frozen BK282.out 0; have hfz70_1 := blk_frozen BK282.out 1; have hfz70_2 := blk_frozen BK282.out 2; have hfz70_3 := blk_frozen BK282.out 3; have hfz70_4 := blk_frozen BK282.out 4; have hnb71 := NB273_280.out; have hnc71 := NB280_273.out; have hcz72_0 : w67.cell? ⟨gb273, 0, none⟩ = some (.string ((rd_T30 l0 x25_2).f0)) := (blk_cell BK273.out 0).trans rfl; have hcz72_1 : w67.cell? ⟨gb273, 1, none⟩ = some (.slice (some ad281) ((rd_T30 l0 x25_2).f1).length c272_1) := (blk_cell BK273.out 1).trans rfl; have hcz72_2 : w67.cell? ⟨gb273, 2, none⟩ = some (.int .i64 ((rd_T30 l0 x25_2).f2)) := (blk_cell BK273.out 2).trans rfl; have hfz72_0 := blk_frozen BK273.out 0; have hfz72_1 := blk_frozen BK273.out 1; have hfz72_2 := blk_frozen BK273.out 2) | ((with_reducible refine gate_callee (f := 13) rfl ?_); refine goesL_ (some 61) rfl rfl Try.func13 (by kernel_rfl) rfl #[.slice (some ad272) l0.length c0, .string ((rd_T30 l0 x25_2).f0), .string ((rd_T32 ((rd_T30 l0 x25_2).f1) x50_4).f0)] rfl (by (try simp only [List.map_toArray, List.map_cons, List.map_nil]); first | done | rfl | (simp only [List.length_drop, List.length_take]; rfl)) ?_; (with_reducible refine (lay_Field.calls k4 _ _ l0 ((rd_T30 l0 x25_2).f0) ((rd_T32 ((rd_T30 l0 x25_2).f1) x50_4).f0) t283 t284 t285 t286 t287 _ ?side1 ?side2 A34.out).mono ?_); (case side1 => exact Kd.C_below HR0.out (by repeat (first | (with_reducible first | exact HB.out | apply below_alloc | apply pw_below_drewN | apply below_drew1 | refine below_set ?_ GE273.out | refine below_set ?_ GE280.out | refine below_set ?_ GE282.out) | exact HB.out))); (case side2 => exact HC0.out); rintro e w73 ⟨rfl, hb⟩; refine ⟨_, rfl, ?_⟩; have n0_ := Aside0.mk (Kd.R_below (by (with_reducible repeat (first | apply Kd.R_alloc | apply Kd.R_drewN | apply Kd.R_drew)); exact (Kd.R_mono (Kd.R_far (p := ⟨gb282, 4, none⟩) (Kd.R_far (p := ⟨gb282, 3, none⟩) (Kd.R_far (p := ⟨gb282, 2, none⟩) (Kd.R_far (p := ⟨gb282, 1, none⟩) (Kd.R_far (p := ⟨gb282, 0, none⟩) (Kd.R_types HO_281002.out BK282.out (by decide)) (fun _ hk => hk.2) (.string ((rd_T32 ((rd_T30 l0 x25_2).f1) x50_4).f0))) (fun _ hk => hk.2) (.int .i64 ((rd_T32 ((rd_T30 l0 x25_2).f1) x50_4).f1.f0))) (fun _ hk => hk.2) (.int .i64 ((rd_T32 ((rd_T30 l0 x25_2).f1) x50_4).f1.f1))) (fun _ hk => hk.2) (.string ((rd_T32 ((rd_T30 l0 x25_2).f1) x50_4).f1.f2))) (fun _ hk => hk.2) (.int .i64 ((rd_T32 ((rd_T30 l0 x25_2).f1) x50_4).f2))) (fun _ h_ => h_.1))) hb); have n1_ := Aside0.mk (blk_below (g := gb273) (o := .cells #[.string ((rd_T30 l0 x25_2).f0), .slice (some ad281) ((rd_T30 l0 x25_2).f1).length c272_1, .int .i64 ((rd_T30 l0 x25_2).f2)] 30 (0, 0)) (by (with_reducible repeat (first | refine blk_drewN ?_ _ | refine blk_drew ?_ | refine blk_alloc ?_ _)); refine blk_far ?_ NB273_282.out _; (with_reducible repeat (first | refine blk_drewN ?_ _ | refine blk_drew ?_ | refine blk_alloc ?_ _)); refine blk_far ?_ NB273_282.out _; (with_reducible repeat (first | refine blk_drewN ?_ _ | refine blk_drew ?_ | refine blk_alloc ?_ _)); refine blk_far ?_ NB273_282.out _; (with_reducible repeat (first | refine blk_drewN ?_ _ | refine blk_drew ?_ | refine blk_alloc ?_ _)); refine blk_far ?_ NB273_282.out _; (with_reducible repeat (first | refine blk_drewN ?_ _ | refine blk_drew ?_ | refine blk_alloc ?_ _)); refine blk_far ?_ NB273_282.out _; (with_reducible repeat (first | refine blk_drewN ?_ _ | refine blk_drew ?_ | refine blk_alloc ?_ _)); exact BK273.out) hb); have n2_ := Aside0.mk (blk_below (g := gb280) (o := .cells #[.int .i64 t274, .int .i64 t275, .slice Ao23 t276.length co23] 36 (0, 0)) (by (with_reducible repeat (first | refine blk_drewN ?_ _ | refine blk_drew ?_ | refine blk_alloc ?_ _)); refine blk_far ?_ NB280_282.out _; (with_reducible repeat (first | refine blk_drewN ?_ _ | refine blk_drew ?_ | refine blk_alloc ?_ _)); refine blk_far ?_ NB280_282.out _; (with_reducible repeat (first | refine blk_drewN ?_ _ | refine blk_drew ?_ | refine blk_alloc ?_ _)); refine blk_far ?_ NB280_282.out _; (with_reducible repeat (first | refine blk_drewN ?_ _ | refine blk_drew ?_ | refine blk_alloc ?_ _)); refine blk_far ?_ NB280_282.out _; (with_reducible repeat (first | refine blk_drewN ?_ _ | refine blk_drew ?_ | refine blk_alloc ?_ _)); refine blk_far ?_ NB280_282.out _; (with_reducible repeat (first | refine blk_drewN ?_ _ | refine blk_drew ?_ | refine blk_alloc ?_ _)); exact BK280.out) hb); have n3_ := Aside0.mk (blk_below (g := gb282) (o := .cells #[.string ((rd_T32 ((rd_T30 l0 x25_2).f1) x50_4).f0), .int .i64 ((rd_T32 ((rd_T30 l0 x25_2).f1) x50_4).f1.f0), .int .i64 ((rd_T32 ((rd_T30 l0 x25_2).f1) x50_4).f1.f1), .string ((rd_T32 ((rd_T30 l0 x25_2).f1) x50_4).f1.f2), .int .i64 ((rd_T32 ((rd_T30 l0 x25_2).f1) x50_4).f2)] 32 (0, 0)) (by (with_reducible repeat (first | refine blk_drewN ?_ _ | refine blk_drew ?_ | refine blk_alloc ?_ _)); refine blk_put (cs := #[.string ((rd_T32 ((rd_T30 l0 x25_2).f1) x50_4).f0), .int .i64 ((rd_T32 ((rd_T30 l0 x25_2).f1) x50_4).f1.f0), .int .i64 ((rd_T32 ((rd_T30 l0 x25_2).f1) x50_4).f1.f1), .string ((rd_T32 ((rd_T30 l0 x25_2).f1) x50_4).f1.f2), .int .i64 0]) ?_ 4 _ rfl; (with_reducible repeat (first | refine blk_drewN ?_ _ | refine blk_drew ?_ | refine blk_alloc ?_ _)); refine blk_put (cs := #[.string ((rd_T32 ((rd_T30 l0 x25_2).f1) x50_4).f0), .int .i64 ((rd_T32 ((rd_T30 l0 x25_2).f1) x50_4).f1.f0), .int .i64 ((rd_T32 ((rd_T30 l0 x25_2).f1) x50_4).f1.f1), .string (⟨#[]⟩ : ByteArray), .int .i64 0]) ?_ 3 _ rfl; (with_reducible repeat (first | refine blk_drewN ?_ _ | refine blk_drew ?_ | refine blk_alloc ?_ _)); refine blk_put (cs := #[.string ((rd_T32 ((rd_T30 l0 x25_2).f1) x50_4).f0), .int .i64 ((rd_T32 ((rd_T30 l0 x25_2).f1) x50_4).f1.f0), .int .i64 0, .string (⟨#[]⟩ : ByteArray), .int .i64 0]) ?_ 2 _ rfl; (with_reducible repeat (first | refine blk_drewN ?_ _ | refine blk_drew ?_ | refine blk_alloc ?_ _)); refine blk_put (cs := #[.string ((rd_T32 ((rd_T30 l0 x25_2).f1) x50_4).f0), .int .i64 0, .int .i64 0, .string (⟨#[]⟩ : ByteArray), .int .i64 0]) ?_ 1 _ rfl; (with_reducible repeat (first | refine blk_drewN ?_ _ | refine blk_drew ?_ | refine blk_alloc ?_ _)); refine blk_put (cs := #[.string (⟨#[]⟩ : ByteArray), .int .i64 0, .int .i64 0, .string (⟨#[]⟩ : ByteArray), .int .i64 0]) ?_ 0 _ rfl; (with_reducible repeat (first | refine blk_drewN ?_ _ | refine blk_drew ?_ | refine blk_alloc ?_ _)); exact BK282.out) hb); have n4_ := Aside0.mk (below_step (by repeat (first | (with_reducible first | exact HB.out | apply below_alloc | apply pw_below_drewN | apply below_drew1 | refine below_set ?_ GE273.out | refine below_set ?_ GE280.out | refine below_set ?_ GE282.out) | exact HB.out)) hb); clear HO_281002; clear BK273; clear BK280; clear BK282; clear HB; have HO_281002 := n0_; have BK273 := n1_; have BK280 := n2_; have BK282 := n3_; have HB := n4_; clear n0_ n1_ n2_ n3_ n4_; (try clear hb); (try clear hb2); (try clear hk); (try clear hi)) | ((with_reducible refine gate_dst (N := 9) rfl ?_); (try (refine gate_guard (by rfl) ?_; dsimp only)); refine box_event ?hg (N := 9) ?hd (cs := #[.int .i64 0, .int .i64 0, .string (⟨#[]⟩ : ByteArray)]) (t := 25) ?hr ?_; (case hd => rfl); (case hg => rfl); (case hr => first | (go_simp; done) | (go_simp; rfl)); intro gb288 hg w74 hbox hb; have n0_ := Aside0.mk (Kd.R_below (by (with_reducible repeat (first | apply Kd.R_alloc | apply Kd.R_drewN | apply Kd.R_drew)); exact HO_281002.out) hb); have n1_ := Aside0.mk (blk_below (g := gb273) (o := .cells #[.string ((rd_T30 l0 x25_2).f0), .slice (some ad281) ((rd_T30 l0 x25_2).f1).length c272_1, .int .i64 ((rd_T30 l0 x25_2).f2)] 30 (0, 0)) (by (with_reducible repeat (first | refine blk_drewN ?_ _ | refine blk_drew ?_ | refine blk_alloc ?_ _)); exact BK273.out) hb); have n2_ := Aside0.mk (blk_below (g := gb280) (o := .cells #[.int .i64 t274, .int .i64 t275, .slice Ao23 t276.length co23] 36 (0, 0)) (by (with_reducible repeat (first | refine blk_drewN ?_ _ | refine blk_drew ?_ | refine blk_alloc ?_ _)); exact BK280.out) hb); have n3_ := Aside0.mk (blk_below (g := gb282) (o := .cells #[.string ((rd_T32 ((rd_T30 l0 x25_2).f1) x50_4).f0), .int .i64 ((rd_T32 ((rd_T30 l0 x25_2).f1) x50_4).f1.f0), .int .i64 ((rd_T32 ((rd_T30 l0 x25_2).f1) x50_4).f1.f1), .string ((rd_T32 ((rd_T30 l0 x25_2).f1) x50_4).f1.f2), .int .i64 ((rd_T32 ((rd_T30 l0 x25_2).f1) x50_4).f2)] 32 (0, 0)) (by (with_reducible repeat (first | refine blk_drewN ?_ _ | refine blk_drew ?_ | refine blk_alloc ?_ _)); exact BK282.out) hb); have n4_ := Aside0.mk (below_step (by repeat (first | (with_reducible first | exact HB.out | apply below_alloc | apply pw_below_drewN | apply below_drew1 | refine below_set ?_ GE273.out | refine below_set ?_ GE280.out | refine below_set ?_ GE282.out) | exact HB.out)) hb); have n5_ := Aside0.mk (hbox); have n6_ := Aside0.mk ((by rw [hg]; exact (below_size (by repeat (first | (with_reducible first | exact HB.out | apply below_alloc | apply pw_below_drewN | apply below_drew1 | refine below_set ?_ GE273.out | refine below_set ?_ GE280.out | refine below_set ?_ GE282.out) | exact HB.out))) : w.heap.size ≤ gb288)); have n7_ := Aside0.mk ((by rw [hg]; exact (below_size (by repeat (first | (with_reducible first | exact HB.out | apply below_alloc | apply pw_below_drewN | apply below_drew1 | refine below_set ?_ GE273.out | refine below_set ?_ GE280.out | refine below_set ?_ GE282.out) | exact HB.out))) : w.heap.size ≤ gb288)); have n8_ := Aside0.mk ((by rw [hg]; exact Nat.ne_of_lt (blk_lt (g := gb273) (o := .cells #[.string ((rd_T30 l0 x25_2).f0), .slice (some ad281) ((rd_T30 l0 x25_2).f1).length c272_1, .int .i64 ((rd_T30 l0 x25_2).f2)] 30 (0, 0)) (by (with_reducible repeat (first | refine blk_drewN ?_ _ | refine blk_drew ?_ | refine blk_alloc ?_ _)); exact BK273.out)) : gb273 ≠ gb288)); have n9_ := Aside0.mk ((by rw [hg]; exact Nat.ne_of_gt (blk_lt (g := gb273) (o := .cells #[.string ((rd_T30 l0 x25_2).f0), .slice (some ad281) ((rd_T30 l0 x25_2).f1).length c272_1, .int .i64 ((rd_T30 l0 x25_2).f2)] 30 (0, 0)) (by (with_reducible repeat (first | refine blk_drewN ?_ _ | refine blk_drew ?_ | refine blk_alloc ?_ _)); exact BK273.out)) : gb288 ≠ gb273)); have n10_ := Aside0.mk ((by rw [hg]; exact Nat.ne_of_lt (blk_lt (g := gb280) (o := .cells #[.int .i64 t274, .int .i64 t275, .slice Ao23 t276.length co23] 36 (0, 0)) (by (with_reducible repeat (first | refine blk_drewN ?_ _ | refine blk_drew ?_ | refine blk_alloc ?_ _)); exact BK280.out)) : gb280 ≠ gb288)); have n11_ := Aside0.mk ((by rw [hg]; exact Nat.ne_of_gt (blk_lt (g := gb280) (o := .cells #[.int .i64 t274, .int .i64 t275, .slice Ao23 t276.length co23] 36 (0, 0)) (by (with_reducible repeat (first | refine blk_drewN ?_ _ | refine blk_drew ?_ | refine blk_alloc ?_ _)); exact BK280.out)) : gb288 ≠ gb280)); have n12_ := Aside0.mk ((by rw [hg]; exact Nat.ne_of_lt (blk_lt (g := gb282) (o := .cells #[.string ((rd_T32 ((rd_T30 l0 x25_2).f1) x50_4).f0), .int .i64 ((rd_T32 ((rd_T30 l0 x25_2).f1) x50_4).f1.f0), .int .i64 ((rd_T32 ((rd_T30 l0 x25_2).f1) x50_4).f1.f1), .string ((rd_T32 ((rd_T30 l0 x25_2).f1) x50_4).f1.f2), .int .i64 ((rd_T32 ((rd_T30 l0 x25_2).f1) x50_4).f2)] 32 (0, 0)) (by (with_reducible repeat (first | refine blk_drewN ?_ _ | refine blk_drew ?_ | refine blk_alloc ?_ _)); exact BK282.out)) : gb282 ≠ gb288)); have n13_ := Aside0.mk ((by rw [hg]; exact Nat.ne_of_gt (blk_lt (g := gb282) (o := .cells #[.string ((rd_T32 ((rd_T30 l0 x25_2).f1) x50_4).f0), .int .i64 ((rd_T32 ((rd_T30 l0 x25_2).f1) x50_4).f1.f0), .int .i64 ((rd_T32 ((rd_T30 l0 x25_2).f1) x50_4).f1.f1), .string ((rd_T32 ((rd_T30 l0 x25_2).f1) x50_4).f1.f2), .int .i64 ((rd_T32 ((rd_T30 l0 x25_2).f1) x50_4).f2)] 32 (0, 0)) (by (with_reducible repeat (first | refine blk_drewN ?_ _ | refine blk_drew ?_ | refine blk_alloc ?_ _)); exact BK282.out)) : gb288 ≠ gb282)); clear HO_281002; clear BK273; clear BK280; clear BK282; clear HB; have HO_281002 := n0_; have BK273 := n1_; have BK280 := n2_; have BK282 := n3_; have HB := n4_; have BK288 := n5_; have GW288 := n6_; have GE288 := n7_; have NB273_288 := n8_; have NB288_273 := n9_; have NB280_288 := n10_; have NB288_280 := n11_; have NB282_288 := n12_; have NB288_282 := n13_; clear n0_ n1_ n2_ n3_ n4_ n5_ n6_ n7_ n8_ n9_ n10_ n11_ n12_ n13_; clear hb hbox hg; have hnb75 := NB288_273.out; have hnc75 := NB273_288.out; have hnb76 := NB288_280.out; have hnc76 := NB280_288.out; have hnb77 := NB288_282.out; have hnc77 := NB282_288.out; have hcz78_0 : w74.cell? ⟨gb288, 0, none⟩ = some (.int .i64 0) := (blk_cell BK288.out 0).trans rfl; have hcz78_1 : w74.cell? ⟨gb288, 1, none⟩ = some (.int .i64 0) := (blk_cell BK288.out 1).trans rfl; have hcz78_2 : w74.cell? ⟨gb288, 2, none⟩ = some (.string (⟨#[]⟩ : ByteArray)) := (blk_cell BK288.out 2).trans rfl; have hfz78_0 := blk_frozen BK288.out 0; have hfz78_1 := blk_frozen BK288.out 1; have hfz78_2 := blk_frozen BK288.out 2) | ((with_reducible refine gate_callee (f := 15) rfl ?_); refine goesL_ (some 68) rfl rfl Try.func15 (by kernel_rfl) rfl #[.slice (some ad272) l0.length c0, .agg #[.int .i64 t283, .int .i64 t284, .string t285]] rfl (by (try simp only [List.map_toArray, List.map_cons, List.map_nil]); first | done | rfl | (simp only [List.length_drop, List.length_take]; rfl)) ?_; (with_reducible refine (lay_Size.calls k4 _ _ l0 t283 t284 t285 t289 t290 _ ?side1 ?side2 A35.out).mono ?_); (case side1 => exact Kd.C_below HR0.out (by repeat (first | (with_reducible first | exact HB.out | apply below_alloc | apply pw_below_drewN | apply below_drew1 | refine below_set ?_ GE273.out | refine below_set ?_ GE280.out | refine below_set ?_ GE282.out | refine below_set ?_ GE288.out) | exact HB.out))); (case side2 => exact HC0.out); rintro e w79 ⟨rfl, hb⟩; refine ⟨_, rfl, ?_⟩; have n0_ := Aside0.mk (Kd.R_below (by (with_reducible repeat (first | apply Kd.R_alloc | apply Kd.R_drewN | apply Kd.R_drew)); exact (Kd.R_mono (Kd.R_far (p := ⟨gb288, 2, none⟩) (Kd.R_far (p := ⟨gb288, 1, none⟩) (Kd.R_far (p := ⟨gb288, 0, none⟩) (Kd.R_types HO_281002.out BK288.out (by decide)) (fun _ hk => hk.2) (.int .i64 t283)) (fun _ hk => hk.2) (.int .i64 t284)) (fun _ hk => hk.2) (.string t285)) (fun _ h_ => h_.1))) hb); have n1_ := Aside0.mk (blk_below (g := gb273) (o := .cells #[.string ((rd_T30 l0 x25_2).f0), .slice (some ad281) ((rd_T30 l0 x25_2).f1).length c272_1, .int .i64 ((rd_T30 l0 x25_2).f2)] 30 (0, 0)) (by (with_reducible repeat (first | refine blk_drewN ?_ _ | refine blk_drew ?_ | refine blk_alloc ?_ _)); refine blk_far ?_ NB273_288.out _; (with_reducible repeat (first | refine blk_drewN ?_ _ | refine blk_drew ?_ | refine blk_alloc ?_ _)); refine blk_far ?_ NB273_288.out _; (with_reducible repeat (first | refine blk_drewN ?_ _ | refine blk_drew ?_ | refine blk_alloc ?_ _)); refine blk_far ?_ NB273_288.out _; (with_reducible repeat (first | refine blk_drewN ?_ _ | refine blk_drew ?_ | refine blk_alloc ?_ _)); exact BK273.out) hb); have n2_ := Aside0.mk (blk_below (g := gb280) (o := .cells #[.int .i64 t274, .int .i64 t275, .slice Ao23 t276.length co23] 36 (0, 0)) (by (with_reducible repeat (first | refine blk_drewN ?_ _ | refine blk_drew ?_ | refine blk_alloc ?_ _)); refine blk_far ?_ NB280_288.out _; (with_reducible repeat (first | refine blk_drewN ?_ _ | refine blk_drew ?_ | refine blk_alloc ?_ _)); refine blk_far ?_ NB280_288.out _; (with_reducible repeat (first | refine blk_drewN ?_ _ | refine blk_drew ?_ | refine blk_alloc ?_ _)); refine blk_far ?_ NB280_288.out _; (with_reducible repeat (first | refine blk_drewN ?_ _ | refine blk_drew ?_ | refine blk_alloc ?_ _)); exact BK280.out) hb); have n3_ := Aside0.mk (blk_below (g := gb282) (o := .cells #[.string ((rd_T32 ((rd_T30 l0 x25_2).f1) x50_4).f0), .int .i64 ((rd_T32 ((rd_T30 l0 x25_2).f1) x50_4).f1.f0), .int .i64 ((rd_T32 ((rd_T30 l0 x25_2).f1) x50_4).f1.f1), .string ((rd_T32 ((rd_T30 l0 x25_2).f1) x50_4).f1.f2), .int .i64 ((rd_T32 ((rd_T30 l0 x25_2).f1) x50_4).f2)] 32 (0, 0)) (by (with_reducible repeat (first | refine blk_drewN ?_ _ | refine blk_drew ?_ | refine blk_alloc ?_ _)); refine blk_far ?_ NB282_288.out _; (with_reducible repeat (first | refine blk_drewN ?_ _ | refine blk_drew ?_ | refine blk_alloc ?_ _)); refine blk_far ?_ NB282_288.out _; (with_reducible repeat (first | refine blk_drewN ?_ _ | refine blk_drew ?_ | refine blk_alloc ?_ _)); refine blk_far ?_ NB282_288.out _; (with_reducible repeat (first | refine blk_drewN ?_ _ | refine blk_drew ?_ | refine blk_alloc ?_ _)); exact BK282.out) hb); have n4_ := Aside0.mk (blk_below (g := gb288) (o := .cells #[.int .i64 t283, .int .i64 t284, .string t285] 25 (0, 0)) (by (with_reducible repeat (first | refine blk_drewN ?_ _ | refine blk_drew ?_ | refine blk_alloc ?_ _)); refine blk_put (cs := #[.int .i64 t283, .int .i64 t284, .string (⟨#[]⟩ : ByteArray)]) ?_ 2 _ rfl; (with_reducible repeat (first | refine blk_drewN ?_ _ | refine blk_drew ?_ | refine blk_alloc ?_ _)); refine blk_put (cs := #[.int .i64 t283, .int .i64 0, .string (⟨#[]⟩ : ByteArray)]) ?_ 1 _ rfl; (with_reducible repeat (first | refine blk_drewN ?_ _ | refine blk_drew ?_ | refine blk_alloc ?_ _)); refine blk_put (cs := #[.int .i64 0, .int .i64 0, .string (⟨#[]⟩ : ByteArray)]) ?_ 0 _ rfl; (with_reducible repeat (first | refine blk_drewN ?_ _ | refine blk_drew ?_ | refine blk_alloc ?_ _)); exact BK288.out) hb); have n5_ := Aside0.mk (below_step (by repeat (first | (with_reducible first | exact HB.out | apply below_alloc | apply pw_below_drewN | apply below_drew1 | refine below_set ?_ GE273.out | refine below_set ?_ GE280.out | refine below_set ?_ GE282.out | refine below_set ?_ GE288.out) | exact HB.out)) hb); clear HO_281002; clear BK273; clear BK280; clear BK282; clear BK288; clear HB; have HO_281002 := n0_; have BK273 := n1_; have BK280 := n2_; have BK282 := n3_; have BK288 := n4_; have HB := n5_; clear n0_ n1_ n2_ n3_ n4_ n5_; (try clear hb); (try clear hb2); (try clear hk); (try clear hi); have hcz80_0 : w79.cell? ⟨gb280, 0, none⟩ = some (.int .i64 t274) := (blk_cell BK280.out 0).trans rfl; have hcz80_1 : w79.cell? ⟨gb280, 1, none⟩ = some (.int .i64 t275) := (blk_cell BK280.out 1).trans rfl; have hcz80_2 : w79.cell? ⟨gb280, 2, none⟩ = some (.slice Ao23 t276.length co23) := (blk_cell BK280.out 2).trans rfl; have hfz80_0 := blk_frozen BK280.out 0; have hfz80_1 := blk_frozen BK280.out 1; have hfz80_2 := blk_frozen BK280.out 2; have hcz81_0 : w79.cell? ⟨gb288, 0, none⟩ = some (.int .i64 t283) := (blk_cell BK288.out 0).trans rfl; have hcz81_1 : w79.cell? ⟨gb288, 1, none⟩ = some (.int .i64 t284) := (blk_cell BK288.out 1).trans rfl; have hcz81_2 : w79.cell? ⟨gb288, 2, none⟩ = some (.string t285) := (blk_cell BK288.out 2).trans rfl; have hfz81_0 := blk_frozen BK288.out 0; have hfz81_1 := blk_frozen BK288.out 1; have hfz81_2 := blk_frozen BK288.out 2; have hcz82_0 : w79.cell? ⟨gb282, 0, none⟩ = some (.string ((rd_T32 ((rd_T30 l0 x25_2).f1) x50_4).f0)) := (blk_cell BK282.out 0).trans rfl; have hcz82_1 : w79.cell? ⟨gb282, 1, none⟩ = some (.int .i64 ((rd_T32 ((rd_T30 l0 x25_2).f1) x50_4).f1.f0)) := (blk_cell BK282.out 1).trans rfl; have hcz82_2 : w79.cell? ⟨gb282, 2, none⟩ = some (.int .i64 ((rd_T32 ((rd_T30 l0 x25_2).f1) x50_4).f1.f1)) := (blk_cell BK282.out 2).trans rfl; have hcz82_3 : w79.cell? ⟨gb282, 3, none⟩ = some (.string ((rd_T32 ((rd_T30 l0 x25_2).f1) x50_4).f1.f2)) := (blk_cell BK282.out 3).trans rfl; have hcz82_4 : w79.cell? ⟨gb282, 4, none⟩ = some (.int .i64 ((rd_T32 ((rd_T30 l0 x25_2).f1) x50_4).f2)) := (blk_cell BK282.out 4).trans rfl; have hfz82_0 := blk_frozen BK282.out 0; have hfz82_1 := blk_frozen BK282.out 1; have hfz82_2 := blk_frozen BK282.out 2; have hfz82_3 := blk_frozen BK282.out 3; have hfz82_4 := blk_frozen BK282.out 4; have p293 : 0 ≤ (x50_4 : Int) := of_decide_eq_true (by first | (with_reducible assumption) | assumption); have q293 : x50_4 < (t276.length : Int) := of_decide_eq_true (by first | (with_reducible assumption) | assumption); obtain ⟨ad293, e293, hx293_0⟩ := Kd.at_int (Kd.R_reads' HO_281002.out).2.2 x50_4 p293 q293; cases e293; replace p293 := eq_true p293; replace q293 := eq_true q293))
                        go_roundg k4
                        case measure => have := HJ1.out; have := HK2.out; have := HJ15.out; have := HK4.out; omega
                        case rel => exact ⟨(wrap64 (x50_4 + 1)), (by first | rfl | (simp; done) | (simp [*]; done)), H', ⟨by have := HJ1.out; have := HK2.out; have := HJ15.out; have := HK4.out; omega⟩, ⟨by (with_reducible repeat (first | apply Kd.R_alloc | apply Kd.R_drewN | apply Kd.R_drew)); exact HO_281002.out⟩, ⟨by (with_reducible repeat (first | refine blk_drewN ?_ _ | refine blk_drew ?_ | refine blk_alloc ?_ _)); exact BK273.out⟩, ⟨by (with_reducible repeat (first | refine blk_drewN ?_ _ | refine blk_drew ?_ | refine blk_alloc ?_ _)); exact BK280.out⟩, ⟨by repeat (first | (with_reducible first | exact HB.out | apply below_alloc | apply pw_below_drewN | apply below_drew1 | refine below_set ?_ GE273.out | refine below_set ?_ GE280.out | refine below_set ?_ GE282.out | refine below_set ?_ GE288.out) | exact HB.out)⟩⟩
                      ·rw [if_neg c65] at H
                       have c65b0 : (t286 == (rd t276 x50_4)) = false := beq_eq_false_iff_ne.mpr c65
                       have c65b1 : (t286 != (rd t276 x50_4)) = true := bne_iff_ne.mpr c65
                       obtain rfl := Option.some.inj H
                       exact absurd hrt.out (by simp)
                     ·rw [if_neg c64] at H
                      exact absurd H (by simp)
                   ·rw [if_neg c62] at H
                    have c62b0 : (t290 == 0) = false := beq_eq_false_iff_ne.mpr c62
                    have c62b1 : (t290 != 0) = true := bne_iff_ne.mpr c62
                    obtain rfl := Option.some.inj H
                    exact absurd hrt.out (by simp)
                  ·rw [if_neg c61] at H
                   have c61b0 : (t287 == 0) = false := beq_eq_false_iff_ne.mpr c61
                   have c61b1 : (t287 != 0) = true := bne_iff_ne.mpr c61
                   obtain rfl := Option.some.inj H
                   exact absurd hrt.out (by simp)
                ·rw [if_neg c33] at H
                 exact absurd H (by simp)
               ·rw [if_neg c32] at H
                exact absurd H (by simp)
              ·rw [if_neg c31] at H
               have c31b0 : decide (x50_4 < (((rd_T30 l0 x25_2).f1).length : Int)) = false := decide_eq_false c31
               clear c31
               have H' := Aside0.mk H
               clear H
               go_wp2
               go_roundg k4
               case measure => have := HJ1.out; have := HK2.out; have := HJ15.out; have := HK4.out; omega
               case rel => exact ⟨(wrap64 (x25_2 + 1)), (by first | rfl | (simp; done) | (simp [*]; done)), H', ⟨by have := HJ1.out; have := HK2.out; have := HJ15.out; have := HK4.out; omega⟩, ⟨by repeat (first | (with_reducible first | exact HB.out | apply below_alloc | apply pw_below_drewN | apply below_drew1 | refine below_set ?_ GE273.out | refine below_set ?_ GE280.out) | exact HB.out)⟩⟩
        ·rw [if_neg c14] at H
         exact absurd H (by simp)
       ·rw [if_neg c13] at H
        exact absurd H (by simp)
      ·rw [if_neg c12] at H
       have c12b0 : decide (x25_2 < (l0.length : Int)) = false := decide_eq_false c12
       clear c12
       obtain rfl := Option.some.inj H
       go_wp2
       go_ret
       exact ⟨by first | rfl | (simp [errW_none, errW_some] <;> rfl) | (simp [*, errW_none, errW_some] <;> rfl), by repeat (first | (with_reducible first | exact HB.out | apply below_alloc | apply pw_below_drewN | apply below_drew1) | exact HB.out)⟩

end Go.Proofs.Ytgpdopfkkopgjaa.K
