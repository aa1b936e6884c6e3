/- What Go functions of this seat answer: each has a Lean function ('.f') and a contract ('.calls'). Conditions: those of each theorem. Written by a program over the kit's printer; what is marked 'typed by hand' is this session's. -/
import Derived.Test.YtjfleaekljapeaaDoorK0
import Derived.Test.YtjfleaekljapeaaDoorKX
import Derived.Test.YtjfleaekljapeaaDoorK31
import Derived.Test.YtjfleaekljapeaaDoorZB
import Derived.Test.YtjfleaekljapeaaDoorK35
namespace Go.Proofs.YtjfleaekljapeaaDoor.K
open Go.RowKit Go.Proofs.YtjfleaekljapeaaDoorW.PrintWords Go.Proofs.YtjfleaekljapeaaDoorW.PrintLast Go.Proofs.YtjfleaekljapeaaDoorW.PrintMore
attribute [local go_sem] max2_int min2_int max_two min_two max_three min_three max_four min_four   -- for this text's walks alone
set_option linter.unusedVariables false
set_option linter.unusedSimpArgs false

/-! ### hauberkref15_Spans: function 15 -/
mutual
def hauberkref15_Spans.l0 : Nat → List (S38) → Int → Int → ByteArray → List Int → List Int → List Int → List (S44) → Option ((List (S38)))
 | 0, _, _, _, _, _, _, _, _ => none
 | k + 1, x3, x10, x11, x313000, x313001, x313002, x313003, x313004 => if x11 < x10 then ((hauberkref15_Of.f k x313000 x313001 x313002 x313003 x313004 x11).bind fun t314 => (hauberkref15_Spans.l1 k x3 x11 t314 x10 x11 (t314.length : Int) 0 x313000 x313001 x313002 x313003 x313004 0 (-1))) else (some x3)
def hauberkref15_Spans.l1 : Nat → List (S38) → Int → List Bool → Int → Int → Int → Int → ByteArray → List Int → List Int → List Int → List (S44) → Int → Int → Option ((List (S38)))
 | 0, _, _, _, _, _, _, _, _, _, _, _, _, _, _ => none
 | k + 1, x3, x4, x6, x10, x11, x19, x20, x313000, x313001, x313002, x313003, x313004, x314000, x314001 => if x20 < x19 then (if 0 ≤ x20 then (if x20 < (x6.length : Int) then (if rdOf false x6 x20 = true then (hauberkref15_Spans.j2 k x3 x4 x6 x20 x10 x11 x19 x20 true x313000 x313001 x313002 x313003 x313004 x314000 x314001) else (if x20 < (x313004.length : Int) then ((hauberkref15_Writes.f ((rd_T44 x313004 x20).f0) ((rd_T44 x313004 x20).f1) ((rd_T44 x313004 x20).f2) ((rd_T44 x313004 x20).f3) ((rd_T44 x313004 x20).f4) ((rd_T44 x313004 x20).f5) ((rd_T44 x313004 x20).f6) ((rd_T44 x313004 x20).f7) ((rd_T44 x313004 x20).f8) ((rd_T44 x313004 x20).f9) x4).bind fun t322 => (if t322 = true then (hauberkref15_Spans.j2 k x3 x4 x6 x20 x10 x11 x19 x20 true x313000 x313001 x313002 x313003 x313004 x314000 x314001) else (if x20 = 0 then ((hauberkref15_has.f k x313001 x4).bind fun t323 => (hauberkref15_Spans.j2 k x3 x4 x6 x20 x10 x11 x19 x20 t323 x313000 x313001 x313002 x313003 x313004 x314000 x314001)) else (hauberkref15_Spans.j2 k x3 x4 x6 x20 x10 x11 x19 x20 false x313000 x313001 x313002 x313003 x313004 x314000 x314001)))) else (none))) else (none)) else (none)) else (if x3.length < 8796093022208 then (hauberkref15_Spans.l0 k (x3 ++ [(⟨x314000, x314001⟩ : S38)]) x10 (wrap64 (x11 + 1)) x313000 x313001 x313002 x313003 x313004) else (none))
def hauberkref15_Spans.j2 : Nat → List (S38) → Int → List Bool → Int → Int → Int → Int → Int → Bool → ByteArray → List Int → List Int → List Int → List (S44) → Int → Int → Option ((List (S38)))
 | 0, _, _, _, _, _, _, _, _, _, _, _, _, _, _, _, _ => none
 | k + 1, x3, x4, x6, x7, x10, x11, x19, x20, x45, x313000, x313001, x313002, x313003, x313004, x314000, x314001 => if x45 = true then (if x314001 < 0 then (hauberkref15_Spans.l1 k x3 x4 x6 x10 x11 x19 (wrap64 (x20 + 1)) x313000 x313001 x313002 x313003 x313004 x7 x7) else (hauberkref15_Spans.l1 k x3 x4 x6 x10 x11 x19 (wrap64 (x20 + 1)) x313000 x313001 x313002 x313003 x313004 x314000 x7)) else (hauberkref15_Spans.l1 k x3 x4 x6 x10 x11 x19 (wrap64 (x20 + 1)) x313000 x313001 x313002 x313003 x313004 x314000 x314001)
end
def hauberkref15_Spans.f (k : Nat) (a0_0 : ByteArray) (l0_1 : List Int) (l0_2 : List Int) (l0_3 : List Int) (l0_4 : List (S44)) : Option ((List (S38))) := hauberkref15_Spans.l0 k ([] : List (S38)) (l0_2.length : Int) 0 a0_0 l0_1 l0_2 l0_3 l0_4
theorem hauberkref15_Spans.mono_l : ∀ k, (∀ y0 y1 y2 y3 y4 y5 y6 y7, LeO (hauberkref15_Spans.l0 k y0 y1 y2 y3 y4 y5 y6 y7) (hauberkref15_Spans.l0 (k + 1) y0 y1 y2 y3 y4 y5 y6 y7)) ∧ (∀ y0 y1 y2 y3 y4 y5 y6 y7 y8 y9 y10 y11 y12 y13, LeO (hauberkref15_Spans.l1 k y0 y1 y2 y3 y4 y5 y6 y7 y8 y9 y10 y11 y12 y13) (hauberkref15_Spans.l1 (k + 1) y0 y1 y2 y3 y4 y5 y6 y7 y8 y9 y10 y11 y12 y13)) ∧ (∀ y0 y1 y2 y3 y4 y5 y6 y7 y8 y9 y10 y11 y12 y13 y14 y15, LeO (hauberkref15_Spans.j2 k y0 y1 y2 y3 y4 y5 y6 y7 y8 y9 y10 y11 y12 y13 y14 y15) (hauberkref15_Spans.j2 (k + 1) y0 y1 y2 y3 y4 y5 y6 y7 y8 y9 y10 y11 y12 y13 y14 y15))
 | 0 => ⟨fun _ _ _ _ _ _ _ _ r h => by simp [hauberkref15_Spans.l0] at h, fun _ _ _ _ _ _ _ _ _ _ _ _ _ _ r h => by simp [hauberkref15_Spans.l1] at h, fun _ _ _ _ _ _ _ _ _ _ _ _ _ _ _ _ r h => by simp [hauberkref15_Spans.j2] at h⟩
 | k + 1 => by
  obtain ⟨ih0, ih1, ih2⟩ := hauberkref15_Spans.mono_l k
  refine ⟨?_, ?_, ?_⟩
  ·intro y0 y1 y2 y3 y4 y5 y6 y7
   unfold hauberkref15_Spans.l0
   repeat' first
   | (with_reducible exact ih0 _ _ _ _ _ _ _ _)
   | (with_reducible exact ih1 _ _ _ _ _ _ _ _ _ _ _ _ _ _)
   | (with_reducible exact ih2 _ _ _ _ _ _ _ _ _ _ _ _ _ _ _ _)
   | (with_reducible exact hauberkref15_Of.mono _ _ _ _ _ _ _)
   | (with_reducible exact hauberkref15_has.mono _ _ _)
   | (with_reducible exact LeO.refl _)
   | (with_reducible exact LeO.none _)
   | (with_reducible refine LeO.ite ?_ ?_)
   | (with_reducible refine LeO.bind ?_ (fun _ => ?_))
   | exact ih0 _ _ _ _ _ _ _ _
   | exact ih1 _ _ _ _ _ _ _ _ _ _ _ _ _ _
   | exact ih2 _ _ _ _ _ _ _ _ _ _ _ _ _ _ _ _
   | exact hauberkref15_Of.mono _ _ _ _ _ _ _
   | exact hauberkref15_has.mono _ _ _
   | exact LeO.none _
   | refine LeO.ite ?_ ?_
   | refine LeO.bind ?_ (fun _ => ?_)
  ·intro y0 y1 y2 y3 y4 y5 y6 y7 y8 y9 y10 y11 y12 y13
   unfold hauberkref15_Spans.l1
   repeat' first
   | (with_reducible exact ih0 _ _ _ _ _ _ _ _)
   | (with_reducible exact ih1 _ _ _ _ _ _ _ _ _ _ _ _ _ _)
   | (with_reducible exact ih2 _ _ _ _ _ _ _ _ _ _ _ _ _ _ _ _)
   | (with_reducible exact hauberkref15_Of.mono _ _ _ _ _ _ _)
   | (with_reducible exact hauberkref15_has.mono _ _ _)
   | (with_reducible exact LeO.refl _)
   | (with_reducible exact LeO.none _)
   | (with_reducible refine LeO.ite ?_ ?_)
   | (with_reducible refine LeO.bind ?_ (fun _ => ?_))
   | exact ih0 _ _ _ _ _ _ _ _
   | exact ih1 _ _ _ _ _ _ _ _ _ _ _ _ _ _
   | exact ih2 _ _ _ _ _ _ _ _ _ _ _ _ _ _ _ _
   | exact hauberkref15_Of.mono _ _ _ _ _ _ _
   | exact hauberkref15_has.mono _ _ _
   | exact LeO.none _
   | refine LeO.ite ?_ ?_
   | refine LeO.bind ?_ (fun _ => ?_)
  ·intro y0 y1 y2 y3 y4 y5 y6 y7 y8 y9 y10 y11 y12 y13 y14 y15
   unfold hauberkref15_Spans.j2
   repeat' first
   | (with_reducible exact ih0 _ _ _ _ _ _ _ _)
   | (with_reducible exact ih1 _ _ _ _ _ _ _ _ _ _ _ _ _ _)
   | (with_reducible exact ih2 _ _ _ _ _ _ _ _ _ _ _ _ _ _ _ _)
   | (with_reducible exact hauberkref15_Of.mono _ _ _ _ _ _ _)
   | (with_reducible exact hauberkref15_has.mono _ _ _)
   | (with_reducible exact LeO.refl _)
   | (with_reducible exact LeO.none _)
   | (with_reducible refine LeO.ite ?_ ?_)
   | (with_reducible refine LeO.bind ?_ (fun _ => ?_))
   | exact ih0 _ _ _ _ _ _ _ _
   | exact ih1 _ _ _ _ _ _ _ _ _ _ _ _ _ _
   | exact ih2 _ _ _ _ _ _ _ _ _ _ _ _ _ _ _ _
   | exact hauberkref15_Of.mono _ _ _ _ _ _ _
   | exact hauberkref15_has.mono _ _ _
   | exact LeO.none _
   | refine LeO.ite ?_ ?_
   | refine LeO.bind ?_ (fun _ => ?_)
theorem hauberkref15_Spans.mono : ∀ a0 a1 a2 a3 a4 k, LeO (hauberkref15_Spans.f k a0 a1 a2 a3 a4) (hauberkref15_Spans.f (k + 1) a0 a1 a2 a3 a4) := by
 intro a0 a1 a2 a3 a4 k
 obtain ⟨ih0, ih1, ih2⟩ := hauberkref15_Spans.mono_l k
 unfold hauberkref15_Spans.f
 repeat' first
   | (with_reducible exact ih0 _ _ _ _ _ _ _ _)
   | (with_reducible exact ih1 _ _ _ _ _ _ _ _ _ _ _ _ _ _)
   | (with_reducible exact ih2 _ _ _ _ _ _ _ _ _ _ _ _ _ _ _ _)
   | (with_reducible exact hauberkref15_Of.mono _ _ _ _ _ _ _)
   | (with_reducible exact hauberkref15_has.mono _ _ _)
   | (with_reducible exact LeO.refl _)
   | (with_reducible exact LeO.none _)
   | (with_reducible refine LeO.ite ?_ ?_)
   | (with_reducible refine LeO.bind ?_ (fun _ => ?_))
   | exact ih0 _ _ _ _ _ _ _ _
   | exact ih1 _ _ _ _ _ _ _ _ _ _ _ _ _ _
   | exact ih2 _ _ _ _ _ _ _ _ _ _ _ _ _ _ _ _
   | exact hauberkref15_Of.mono _ _ _ _ _ _ _
   | exact hauberkref15_has.mono _ _ _
   | exact LeO.none _
   | refine LeO.ite ?_ ?_
   | refine LeO.bind ?_ (fun _ => ?_)
set_option maxHeartbeats 8000000 in
set_option maxRecDepth 100000 in
theorem hauberkref15_Spans.calls (k : Nat) (a0_0 : ByteArray) (A0_1 : Option Addr) (c0_1 : Nat) (l0_1 : List Int) (A0_2 : Option Addr) (c0_2 : Nat) (l0_2 : List Int) (A0_3 : Option Addr) (c0_3 : Nat) (l0_3 : List Int) (A0_4 : Option Addr) (c0_4 : Nat) (l0_4 : List (S44)) (r : List (S38)) (w : World) (hr0_1 : Kd.C (Kd.int .i64) w A0_1 l0_1.length l0_1) (hc0_1 : l0_1.length ≤ c0_1) (hr0_2 : Kd.C (Kd.int .i64) w A0_2 l0_2.length l0_2) (hc0_2 : l0_2.length ≤ c0_2) (hr0_3 : Kd.C (Kd.int .i64) w A0_3 l0_3.length l0_3) (hc0_3 : l0_3.length ≤ c0_3) (hr0_4 : Kd.C k44 w A0_4 l0_4.length l0_4) (hc0_4 : l0_4.length ≤ c0_4) (h : hauberkref15_Spans.f k a0_0 l0_1 l0_2 l0_3 l0_4 = some r) :
  Calls Tryd.prog 15 #[.agg #[.string a0_0, .slice A0_1 l0_1.length c0_1, .slice A0_2 l0_2.length c0_2, .slice A0_3 l0_3.length c0_3, .slice A0_4 l0_4.length c0_4]] w fun e w' => ∃ v0_ : Value, e = .returned (v0_) ∧ Kd.R k38 38 w' w.heap.size (fun _ => True) v0_ r ∧ Below w.heap.size w w' := by
 have hu25 := Tryd.underlying25
 have hu38 := Tryd.underlying38
 have hu44 := Tryd.underlying44
 have HR0_1 := Aside0.mk hr0_1
 have HC0_1 := Aside0.mk hc0_1
 clear hr0_1 hc0_1
 have HR0_2 := Aside0.mk hr0_2
 have HC0_2 := Aside0.mk hc0_2
 clear hr0_2 hc0_2
 have HR0_3 := Aside0.mk hr0_3
 have HC0_3 := Aside0.mk hc0_3
 clear hr0_3 hc0_3
 have HR0_4 := Aside0.mk hr0_4
 have HC0_4 := Aside0.mk hc0_4
 clear hr0_4 hc0_4
 have HB := Aside0.mk (Below.refl w.heap.size w)
 have H : (hauberkref15_Spans.l0 k ([] : List (S38)) (l0_2.length : Int) 0 a0_0 l0_1 l0_2 l0_3 l0_4) = some r := h
 clear h
 have H' := Aside0.mk H
 clear H
 go_enter Tryd.func15, Tryd.ntmps15
 go_wp2_with (first | ((with_reducible refine gate_dst (N := 1) rfl ?_); refine box_event ?hg (N := 1) ?hd (cs := #[.string a0_0, .slice A0_1 l0_1.length c0_1, .slice A0_2 l0_2.length c0_2, .slice A0_3 l0_3.length c0_3, .slice A0_4 l0_4.length c0_4]) (t := 25) ?hr ?_; (case hd => rfl); (case hg => rfl); (case hr => first | (go_simp; done) | (go_simp; rfl)); intro gb312 hg w2 hbox hb; have n0_ := Aside0.mk (below_step (by repeat (first | (with_reducible first | exact HB.out | apply below_alloc | apply pw_below_drewN | apply below_drew1) | exact HB.out)) hb); have n1_ := Aside0.mk (hbox); have n2_ := Aside0.mk ((by rw [hg]; exact (below_size (by repeat (first | (with_reducible first | exact HB.out | apply below_alloc | apply pw_below_drewN | apply below_drew1) | exact HB.out))) : w.heap.size ≤ gb312)); have n3_ := Aside0.mk ((by rw [hg]; exact (below_size (by repeat (first | (with_reducible first | exact HB.out | apply below_alloc | apply pw_below_drewN | apply below_drew1) | exact HB.out))) : w.heap.size ≤ gb312)); clear HB; have HB := n0_; have BK312 := n1_; have GW312 := n2_; have GE312 := n3_; clear n0_ n1_ n2_ n3_; clear hb hbox hg; have hcz3_0 : w2.cell? ⟨gb312, 0, none⟩ = some (.string a0_0) := (blk_cell BK312.out 0).trans rfl; have hcz3_1 : w2.cell? ⟨gb312, 1, none⟩ = some (.slice A0_1 l0_1.length c0_1) := (blk_cell BK312.out 1).trans rfl; have hcz3_2 : w2.cell? ⟨gb312, 2, none⟩ = some (.slice A0_2 l0_2.length c0_2) := (blk_cell BK312.out 2).trans rfl; have hcz3_3 : w2.cell? ⟨gb312, 3, none⟩ = some (.slice A0_3 l0_3.length c0_3) := (blk_cell BK312.out 3).trans rfl; have hcz3_4 : w2.cell? ⟨gb312, 4, none⟩ = some (.slice A0_4 l0_4.length c0_4) := (blk_cell BK312.out 4).trans rfl; have hfz3_0 := blk_frozen BK312.out 0; have hfz3_1 := blk_frozen BK312.out 1; have hfz3_2 := blk_frozen BK312.out 2; have hfz3_3 := blk_frozen BK312.out 3; have hfz3_4 := blk_frozen BK312.out 4))
 go_loopg [3, 11] k (fun kq v3 v11 w' => ∃ (x3_1 : List (S38)) (x11_1 : Int), v11 = .int .i64 x11_1 ∧ Aside0 (hauberkref15_Spans.l0 kq x3_1 (l0_2.length : Int) x11_1 a0_0 l0_1 l0_2 l0_3 l0_4 = some r) ∧ Aside0 (kq ≤ k) ∧ Aside0 (Kd.R k38 38 w' w.heap.size (fun _ => True) v3 x3_1) ∧ Aside0 (w'.heap[gb312]? = some (.cells #[.string a0_0, (.slice A0_1 l0_1.length c0_1), (.slice A0_2 l0_2.length c0_2), (.slice A0_3 l0_3.length c0_3), (.slice A0_4 l0_4.length c0_4)] 25 (0, 0))) ∧ Aside0 (Below w.heap.size w w'))
 case atStart => exact ⟨(([] : List (S38))), (0), (by first | rfl | (simp; done) | (simp [*]; done)), H', ⟨Nat.le_refl _⟩, ⟨by first | exact Kd.R_nil _ _ _ _ _ | exact Kd.N_nil _ _ _ _ _ | exact Kd.V_nil _ _ _ _ _ | exact Kd.Q_nil _ _ _ _ _ | exact Kd.S_nil _ _ _ _ _⟩, ⟨by (with_reducible repeat (first | refine blk_drewN ?_ _ | refine blk_drew ?_ | refine blk_alloc ?_ _)); exact BK312.out⟩, ⟨by repeat (first | (with_reducible first | exact HB.out | apply below_alloc | apply pw_below_drewN | apply below_drew1 | refine below_set ?_ GE312.out) | exact HB.out)⟩⟩
 case round =>
  clear H'
  try clear c1
  try clear p2
  try clear hcz3_0
  try clear hcz3_1
  try clear hcz3_2
  try clear hcz3_3
  try clear hcz3_4
  try clear hfz3_0
  try clear hfz3_1
  try clear hfz3_2
  try clear hfz3_3
  try clear hfz3_4
  obtain ⟨x3_1, x11_1, rfl, HA, HK1, HO_3, BK312, HB⟩ := hrel
  cases gk with
  | zero => exact absurd HA.out (by simp [hauberkref15_Spans.l0])
  | succ k1 =>
   have H := HA.out
   clear HA
   simp only [hauberkref15_Spans.l0] at H
   by_cases c4 : x11_1 < (l0_2.length : Int)
   ·rw [if_pos c4] at H
    have c4b0 : decide (x11_1 < (l0_2.length : Int)) = true := decide_eq_true c4
    clear c4
    replace H := Option.bind_eq_some_iff.mp H
    obtain ⟨t314, A50, H⟩ := H
    replace H : (hauberkref15_Spans.l1 k1 x3_1 x11_1 t314 (l0_2.length : Int) x11_1 (t314.length : Int) 0 a0_0 l0_1 l0_2 l0_3 l0_4 0 (-1)) = some r := H
    have A5 := Aside0.mk A50
    clear A50
    have H' := Aside0.mk H
    clear H
    go_wp2_with (first | ((with_reducible refine gate_dst (N := 5) rfl ?_); refine box_event ?hg (N := 5) ?hd (cs := #[.int .i64 0, .int .i64 0]) (t := 38) ?hr ?_; (case hd => rfl); (case hg => rfl); (case hr => first | (go_simp; done) | (go_simp; rfl)); intro gb313 hg w6 hbox hb; have n0_ := Aside0.mk (Kd.R_below (Kd.R_elderB (by (with_reducible repeat (first | apply Kd.R_alloc | apply Kd.R_drewN | apply Kd.R_drew)); exact HO_3.out) gb313 (Nat.le_of_eq hg.symm)) hb); have n1_ := Aside0.mk (blk_below (g := gb312) (o := .cells #[.string a0_0, .slice A0_1 l0_1.length c0_1, .slice A0_2 l0_2.length c0_2, .slice A0_3 l0_3.length c0_3, .slice A0_4 l0_4.length c0_4] 25 (0, 0)) (by (with_reducible repeat (first | refine blk_drewN ?_ _ | refine blk_drew ?_ | refine blk_alloc ?_ _)); exact BK312.out) hb); have n2_ := Aside0.mk (below_step (by repeat (first | (with_reducible first | exact HB.out | apply below_alloc | apply pw_below_drewN | apply below_drew1 | refine below_set ?_ GE312.out) | exact HB.out)) hb); have n3_ := Aside0.mk (hbox); have n4_ := Aside0.mk ((by rw [hg]; exact (below_size (by repeat (first | (with_reducible first | exact HB.out | apply below_alloc | apply pw_below_drewN | apply below_drew1 | refine below_set ?_ GE312.out) | exact HB.out))) : w.heap.size ≤ gb313)); have n5_ := Aside0.mk ((by rw [hg]; exact (below_size (by repeat (first | (with_reducible first | exact HB.out | apply below_alloc | apply pw_below_drewN | apply below_drew1 | refine below_set ?_ GE312.out) | exact HB.out))) : w.heap.size ≤ gb313)); have n6_ := Aside0.mk ((by rw [hg]; exact Nat.ne_of_lt (blk_lt (g := gb312) (o := .cells #[.string a0_0, .slice A0_1 l0_1.length c0_1, .slice A0_2 l0_2.length c0_2, .slice A0_3 l0_3.length c0_3, .slice A0_4 l0_4.length c0_4] 25 (0, 0)) (by (with_reducible repeat (first | refine blk_drewN ?_ _ | refine blk_drew ?_ | refine blk_alloc ?_ _)); exact BK312.out)) : gb312 ≠ gb313)); have n7_ := Aside0.mk ((by rw [hg]; exact Nat.ne_of_gt (blk_lt (g := gb312) (o := .cells #[.string a0_0, .slice A0_1 l0_1.length c0_1, .slice A0_2 l0_2.length c0_2, .slice A0_3 l0_3.length c0_3, .slice A0_4 l0_4.length c0_4] 25 (0, 0)) (by (with_reducible repeat (first | refine blk_drewN ?_ _ | refine blk_drew ?_ | refine blk_alloc ?_ _)); exact BK312.out)) : gb313 ≠ gb312)); clear HO_3; clear BK312; clear HB; have HO_3 := n0_; have BK312 := n1_; have HB := n2_; have BK313 := n3_; have GW313 := n4_; have GE313 := n5_; have NB312_313 := n6_; have NB313_312 := n7_; clear n0_ n1_ n2_ n3_ n4_ n5_ n6_ n7_; clear hb hbox hg; have hnb7 := NB313_312.out; have hnc7 := NB312_313.out; have hcz8_0 : w6.cell? ⟨gb313, 0, none⟩ = some (.int .i64 0) := (blk_cell BK313.out 0).trans rfl; have hcz8_1 : w6.cell? ⟨gb313, 1, none⟩ = some (.int .i64 0) := (blk_cell BK313.out 1).trans rfl; have hfz8_0 := blk_frozen BK313.out 0; have hfz8_1 := blk_frozen BK313.out 1; have hcz9_0 : w6.cell? ⟨gb312, 0, none⟩ = some (.string a0_0) := (blk_cell BK312.out 0).trans rfl; have hcz9_1 : w6.cell? ⟨gb312, 1, none⟩ = some (.slice A0_1 l0_1.length c0_1) := (blk_cell BK312.out 1).trans rfl; have hcz9_2 : w6.cell? ⟨gb312, 2, none⟩ = some (.slice A0_2 l0_2.length c0_2) := (blk_cell BK312.out 2).trans rfl; have hcz9_3 : w6.cell? ⟨gb312, 3, none⟩ = some (.slice A0_3 l0_3.length c0_3) := (blk_cell BK312.out 3).trans rfl; have hcz9_4 : w6.cell? ⟨gb312, 4, none⟩ = some (.slice A0_4 l0_4.length c0_4) := (blk_cell BK312.out 4).trans rfl; have hfz9_0 := blk_frozen BK312.out 0; have hfz9_1 := blk_frozen BK312.out 1; have hfz9_2 := blk_frozen BK312.out 2; have hfz9_3 := blk_frozen BK312.out 3; have hfz9_4 := blk_frozen BK312.out 4) | ((with_reducible refine gate_callee (f := 26) rfl ?_); refine goesL_ (some 17) rfl rfl Tryd.func26 (by kernel_rfl) rfl #[.agg #[.string a0_0, .slice A0_1 l0_1.length c0_1, .slice A0_2 l0_2.length c0_2, .slice A0_3 l0_3.length c0_3, .slice A0_4 l0_4.length c0_4], .int .i64 x11_1] rfl (by (try simp only [List.map_toArray, List.map_cons, List.map_nil]); first | done | rfl | (simp only [List.length_drop, List.length_take]; rfl)) ?_; (with_reducible refine (hauberkref15_Of.calls k1 a0_0 _ _ l0_1 _ _ l0_2 _ _ l0_3 _ _ l0_4 x11_1 t314 _ ?side1 ?side2 ?side3 ?side4 ?side5 ?side6 ?side7 ?side8 A5.out).mono ?_); (case side1 => exact Kd.C_below HR0_1.out (by repeat (first | (with_reducible first | exact HB.out | apply below_alloc | apply pw_below_drewN | apply below_drew1 | refine below_set ?_ GE312.out | refine below_set ?_ GE313.out) | exact HB.out))); (case side2 => exact HC0_1.out); (case side3 => exact Kd.C_below HR0_2.out (by repeat (first | (with_reducible first | exact HB.out | apply below_alloc | apply pw_below_drewN | apply below_drew1 | refine below_set ?_ GE312.out | refine below_set ?_ GE313.out) | exact HB.out))); (case side4 => exact HC0_2.out); (case side5 => exact Kd.C_below HR0_3.out (by repeat (first | (with_reducible first | exact HB.out | apply below_alloc | apply pw_below_drewN | apply below_drew1 | refine below_set ?_ GE312.out | refine below_set ?_ GE313.out) | exact HB.out))); (case side6 => exact HC0_3.out); (case side7 => exact Kd.C_below HR0_4.out (by repeat (first | (with_reducible first | exact HB.out | apply below_alloc | apply pw_below_drewN | apply below_drew1 | refine below_set ?_ GE312.out | refine below_set ?_ GE313.out) | exact HB.out))); (case side8 => exact HC0_4.out); rintro e w10 ⟨v315, rfl, ho0, hb⟩; refine ⟨_, rfl, ?_⟩; have n0_ := Aside0.mk (Kd.R_below (by (with_reducible repeat (first | apply Kd.R_alloc | apply Kd.R_drewN | apply Kd.R_drew)); exact (Kd.R_mono (Kd.R_far (p := ⟨gb313, 1, none⟩) (Kd.R_far (p := ⟨gb313, 0, none⟩) (Kd.R_mono HO_3.out (fun k_ hk => (⟨hk, hk.2⟩ : _ ∧ k_ ≠ gb313))) (fun _ hk => hk.2) (.int .i64 0)) (fun _ hk => hk.2) (.int .i64 (-1))) (fun _ h_ => h_.1))) hb); have n1_ := Aside0.mk (Kd.R_lower ho0 (below_size (by repeat (first | (with_reducible first | exact HB.out | apply below_alloc | apply pw_below_drewN | apply below_drew1 | refine below_set ?_ GE312.out | refine below_set ?_ GE313.out) | exact HB.out)))); have n2_ := Aside0.mk (blk_below (g := gb312) (o := .cells #[.string a0_0, .slice A0_1 l0_1.length c0_1, .slice A0_2 l0_2.length c0_2, .slice A0_3 l0_3.length c0_3, .slice A0_4 l0_4.length c0_4] 25 (0, 0)) (by (with_reducible repeat (first | refine blk_drewN ?_ _ | refine blk_drew ?_ | refine blk_alloc ?_ _)); refine blk_far ?_ NB312_313.out _; (with_reducible repeat (first | refine blk_drewN ?_ _ | refine blk_drew ?_ | refine blk_alloc ?_ _)); refine blk_far ?_ NB312_313.out _; (with_reducible repeat (first | refine blk_drewN ?_ _ | refine blk_drew ?_ | refine blk_alloc ?_ _)); exact BK312.out) hb); have n3_ := Aside0.mk (blk_below (g := gb313) (o := .cells #[.int .i64 0, .int .i64 (-1)] 38 (0, 0)) (by (with_reducible repeat (first | refine blk_drewN ?_ _ | refine blk_drew ?_ | refine blk_alloc ?_ _)); refine blk_put (cs := #[.int .i64 0, .int .i64 0]) ?_ 1 _ rfl; (with_reducible repeat (first | refine blk_drewN ?_ _ | refine blk_drew ?_ | refine blk_alloc ?_ _)); refine blk_put (cs := #[.int .i64 0, .int .i64 0]) ?_ 0 _ rfl; (with_reducible repeat (first | refine blk_drewN ?_ _ | refine blk_drew ?_ | refine blk_alloc ?_ _)); exact BK313.out) hb); have n4_ := Aside0.mk (below_step (by repeat (first | (with_reducible first | exact HB.out | apply below_alloc | apply pw_below_drewN | apply below_drew1 | refine below_set ?_ GE312.out | refine below_set ?_ GE313.out) | exact HB.out)) hb); clear HO_3; clear BK312; clear BK313; clear HB; have HO_3 := n0_; have HO316 := n1_; have BK312 := n2_; have BK313 := n3_; have HB := n4_; clear n0_ n1_ n2_ n3_ n4_; (try clear hb); (try clear hb2); (try clear hk); (try clear hi); (try clear ho0); obtain ⟨Ao11, co11, eo11⟩ := Kd.R_slice HO316.out; subst eo11))
    go_loopg [20] k1 (fun kq v20 w' => ∃ (x20_2 : Int) (x314000_2 : Int) (x314001_2 : Int), v20 = .int .i64 x20_2 ∧ Aside0 (hauberkref15_Spans.l1 kq x3_1 x11_1 t314 (l0_2.length : Int) x11_1 (t314.length : Int) x20_2 a0_0 l0_1 l0_2 l0_3 l0_4 x314000_2 x314001_2 = some r) ∧ Aside0 (kq ≤ k1) ∧ Aside0 (Kd.R k38 38 w' w.heap.size (fun k_ => k_ ≠ gb313) u3 x3_1) ∧ Aside0 (Kd.R Kd.bool 4 w' w.heap.size (fun _ => True) (.slice Ao11 t314.length co11) t314) ∧ Aside0 (w'.heap[gb312]? = some (.cells #[.string a0_0, (.slice A0_1 l0_1.length c0_1), (.slice A0_2 l0_2.length c0_2), (.slice A0_3 l0_3.length c0_3), (.slice A0_4 l0_4.length c0_4)] 25 (0, 0))) ∧ Aside0 (w'.heap[gb313]? = some (.cells #[.int .i64 x314000_2, .int .i64 x314001_2] 38 (0, 0))) ∧ Aside0 (Below w.heap.size w w'))
    case atStart => exact ⟨(0), (0), ((-1)), (by first | rfl | (simp; done) | (simp [*]; done)), H', ⟨Nat.le_refl _⟩, ⟨by (with_reducible repeat (first | apply Kd.R_alloc | apply Kd.R_drewN | apply Kd.R_drew)); exact Kd.R_mono HO_3.out (fun _ hk => hk.2)⟩, ⟨by (with_reducible repeat (first | apply Kd.R_alloc | apply Kd.R_drewN | apply Kd.R_drew)); exact HO316.out⟩, ⟨by (with_reducible repeat (first | refine blk_drewN ?_ _ | refine blk_drew ?_ | refine blk_alloc ?_ _)); exact BK312.out⟩, ⟨by (with_reducible repeat (first | refine blk_drewN ?_ _ | refine blk_drew ?_ | refine blk_alloc ?_ _)); exact BK313.out⟩, ⟨by repeat (first | (with_reducible first | exact HB.out | apply below_alloc | apply pw_below_drewN | apply below_drew1 | refine below_set ?_ GE312.out | refine below_set ?_ GE313.out) | exact HB.out)⟩⟩
    case round =>
     clear H'
     try clear c1
     try clear c2
     try clear p2
     try clear c4
     try clear c4b0
     try clear c7
     try clear hcz3_0
     try clear hcz3_1
     try clear hcz3_2
     try clear hcz3_3
     try clear hcz3_4
     try clear hcz8_0
     try clear hcz8_1
     try clear hcz9_0
     try clear hcz9_1
     try clear hcz9_2
     try clear hcz9_3
     try clear hcz9_4
     try clear hfz3_0
     try clear hfz3_1
     try clear hfz3_2
     try clear hfz3_3
     try clear hfz3_4
     try clear hfz8_0
     try clear hfz8_1
     try clear hfz9_0
     try clear hfz9_1
     try clear hfz9_2
     try clear hfz9_3
     try clear hfz9_4
     try clear p2
     obtain ⟨x20_2, x314000_2, x314001_2, rfl, HA, HK2, HO_3, HO_6, BK312, BK313, HB⟩ := hrel
     cases gk with
     | zero => exact absurd HA.out (by simp [hauberkref15_Spans.l1])
     | succ k2 =>
      have H := HA.out
      clear HA
      simp only [hauberkref15_Spans.l1] at H
      by_cases c12 : x20_2 < (t314.length : Int)
      ·rw [if_pos c12] at H
       have c12b0 : decide (x20_2 < (t314.length : Int)) = true := decide_eq_true c12
       clear c12
       have HC13 := Aside0.mk H
       clear H
       go_upto_region 10 with (fail)
       go_cut [45] (fun v45 wc => ∃ (kq : Nat) (x45_12 : Bool), v45 = .bool x45_12 ∧ Aside0 (hauberkref15_Spans.j2 kq x3_1 x11_1 t314 x20_2 (l0_2.length : Int) x11_1 (t314.length : Int) x20_2 x45_12 a0_0 l0_1 l0_2 l0_3 l0_4 x314000_2 x314001_2 = some r) ∧ Aside0 (kq ≤ k2) ∧ Aside0 (Kd.R k38 38 wc w.heap.size (fun k_ => k_ ≠ gb313) u3 x3_1) ∧ Aside0 (Kd.R Kd.bool 4 wc w.heap.size (fun _ => True) (.slice Ao11 t314.length co11) t314) ∧ Aside0 (wc.heap[gb312]? = some (.cells #[.string a0_0, (.slice A0_1 l0_1.length c0_1), (.slice A0_2 l0_2.length c0_2), (.slice A0_3 l0_3.length c0_3), (.slice A0_4 l0_4.length c0_4)] 25 (0, 0))) ∧ Aside0 (wc.heap[gb313]? = some (.cells #[.int .i64 x314000_2, .int .i64 x314001_2] 38 (0, 0))) ∧ Aside0 (Below w.heap.size w wc))
       case first =>
        have H := HC13.out
        clear HC13
        by_cases c14 : 0 ≤ x20_2
        ·rw [if_pos c14] at H
         have c14b0 : decide (0 ≤ x20_2) = true := decide_eq_true c14
         clear c14
         (first | rw [c14b0] | (simp only [i64_w, i32_w]; rw [c14b0]) | skip)
         by_cases c15 : x20_2 < (t314.length : Int)
         ·rw [if_pos c15] at H
          have c15b0 : decide (x20_2 < (t314.length : Int)) = true := decide_eq_true c15
          clear c15
          obtain ⟨bq16, hbq16⟩ : ∃ b_ : Bool, b_ = (rdOf false t314 x20_2) := ⟨_, rfl⟩
          replace H : (if bq16 = true then (hauberkref15_Spans.j2 k2 x3_1 x11_1 t314 x20_2 (l0_2.length : Int) x11_1 (t314.length : Int) x20_2 true a0_0 l0_1 l0_2 l0_3 l0_4 x314000_2 x314001_2) else (if x20_2 < (l0_4.length : Int) then ((hauberkref15_Writes.f ((rd_T44 l0_4 x20_2).f0) ((rd_T44 l0_4 x20_2).f1) ((rd_T44 l0_4 x20_2).f2) ((rd_T44 l0_4 x20_2).f3) ((rd_T44 l0_4 x20_2).f4) ((rd_T44 l0_4 x20_2).f5) ((rd_T44 l0_4 x20_2).f6) ((rd_T44 l0_4 x20_2).f7) ((rd_T44 l0_4 x20_2).f8) ((rd_T44 l0_4 x20_2).f9) x11_1).bind fun t322 => (if t322 = true then (hauberkref15_Spans.j2 k2 x3_1 x11_1 t314 x20_2 (l0_2.length : Int) x11_1 (t314.length : Int) x20_2 true a0_0 l0_1 l0_2 l0_3 l0_4 x314000_2 x314001_2) else (if x20_2 = 0 then ((hauberkref15_has.f k2 l0_1 x11_1).bind fun t323 => (hauberkref15_Spans.j2 k2 x3_1 x11_1 t314 x20_2 (l0_2.length : Int) x11_1 (t314.length : Int) x20_2 t323 a0_0 l0_1 l0_2 l0_3 l0_4 x314000_2 x314001_2)) else (hauberkref15_Spans.j2 k2 x3_1 x11_1 t314 x20_2 (l0_2.length : Int) x11_1 (t314.length : Int) x20_2 false a0_0 l0_1 l0_2 l0_3 l0_4 x314000_2 x314001_2)))) else (none))) = some r := by rw [← hbq16] at H; exact H
          have Nbq16 := Aside0.mk hbq16
          clear hbq16
          by_cases c17 : bq16 = true
          ·subst c17
           have H1 : (hauberkref15_Spans.j2 k2 x3_1 x11_1 t314 x20_2 (l0_2.length : Int) x11_1 (t314.length : Int) x20_2 true a0_0 l0_1 l0_2 l0_3 l0_4 x314000_2 x314001_2) = some r := by rw [if_pos rfl] at H; exact H
           clear H
           have H := H1
           clear H1
           have H' := Aside0.mk H
           clear H
           have p320 : 0 ≤ (x20_2 : Int) := of_decide_eq_true (by first | (with_reducible assumption) | assumption)
           have q320 : x20_2 < (t314.length : Int) := of_decide_eq_true (by first | (with_reducible assumption) | assumption)
           obtain ⟨ad320, e320, hx320_0⟩ := Kd.at_bool (Kd.R_reads' HO_6.out).2.2 x20_2 p320 q320
           (try rw [← Nbq16.out] at hx320_0)
           cases e320
           replace p320 := eq_true p320
           replace q320 := eq_true q320
           go_wp2
           go_meet
           case rel => exact ⟨_, (true), (by first | rfl | (simp; done) | (simp [*]; done)), H', ⟨by have := HK1.out; have := HK2.out; first | omega | exact Nat.le_refl _⟩, ⟨by (with_reducible repeat (first | apply Kd.R_alloc | apply Kd.R_drewN | apply Kd.R_drew)); exact HO_3.out⟩, ⟨by (with_reducible repeat (first | apply Kd.R_alloc | apply Kd.R_drewN | apply Kd.R_drew)); exact HO_6.out⟩, ⟨by (with_reducible repeat (first | refine blk_drewN ?_ _ | refine blk_drew ?_ | refine blk_alloc ?_ _)); exact BK312.out⟩, ⟨by (with_reducible repeat (first | refine blk_drewN ?_ _ | refine blk_drew ?_ | refine blk_alloc ?_ _)); exact BK313.out⟩, ⟨by repeat (first | (with_reducible first | exact HB.out | apply below_alloc | apply pw_below_drewN | apply below_drew1 | refine below_set ?_ GE312.out | refine below_set ?_ GE313.out) | exact HB.out)⟩⟩
          ·replace c17 := Bool.eq_false_iff.mpr c17
           subst c17
           have H1 : (if x20_2 < (l0_4.length : Int) then ((hauberkref15_Writes.f ((rd_T44 l0_4 x20_2).f0) ((rd_T44 l0_4 x20_2).f1) ((rd_T44 l0_4 x20_2).f2) ((rd_T44 l0_4 x20_2).f3) ((rd_T44 l0_4 x20_2).f4) ((rd_T44 l0_4 x20_2).f5) ((rd_T44 l0_4 x20_2).f6) ((rd_T44 l0_4 x20_2).f7) ((rd_T44 l0_4 x20_2).f8) ((rd_T44 l0_4 x20_2).f9) x11_1).bind fun t322 => (if t322 = true then (hauberkref15_Spans.j2 k2 x3_1 x11_1 t314 x20_2 (l0_2.length : Int) x11_1 (t314.length : Int) x20_2 true a0_0 l0_1 l0_2 l0_3 l0_4 x314000_2 x314001_2) else (if x20_2 = 0 then ((hauberkref15_has.f k2 l0_1 x11_1).bind fun t323 => (hauberkref15_Spans.j2 k2 x3_1 x11_1 t314 x20_2 (l0_2.length : Int) x11_1 (t314.length : Int) x20_2 t323 a0_0 l0_1 l0_2 l0_3 l0_4 x314000_2 x314001_2)) else (hauberkref15_Spans.j2 k2 x3_1 x11_1 t314 x20_2 (l0_2.length : Int) x11_1 (t314.length : Int) x20_2 false a0_0 l0_1 l0_2 l0_3 l0_4 x314000_2 x314001_2)))) else (none)) = some r := by rw [if_neg (show ¬ (false = true) by decide)] at H; exact H
           clear H
           have H := H1
           clear H1
           by_cases c18 : x20_2 < (l0_4.length : Int)
           ·rw [if_pos c18] at H
            have c18b0 : decide (x20_2 < (l0_4.length : Int)) = true := decide_eq_true c18
            clear c18
            replace H := Option.bind_eq_some_iff.mp H
            obtain ⟨t322, A190, H⟩ := H
            replace H : (if t322 = true then (hauberkref15_Spans.j2 k2 x3_1 x11_1 t314 x20_2 (l0_2.length : Int) x11_1 (t314.length : Int) x20_2 true a0_0 l0_1 l0_2 l0_3 l0_4 x314000_2 x314001_2) else (if x20_2 = 0 then ((hauberkref15_has.f k2 l0_1 x11_1).bind fun t323 => (hauberkref15_Spans.j2 k2 x3_1 x11_1 t314 x20_2 (l0_2.length : Int) x11_1 (t314.length : Int) x20_2 t323 a0_0 l0_1 l0_2 l0_3 l0_4 x314000_2 x314001_2)) else (hauberkref15_Spans.j2 k2 x3_1 x11_1 t314 x20_2 (l0_2.length : Int) x11_1 (t314.length : Int) x20_2 false a0_0 l0_1 l0_2 l0_3 l0_4 x314000_2 x314001_2))) = some r := H
            have A19 := Aside0.mk A190
            clear A190
            by_cases c20 : t322 = true
            ·subst c20
             have H1 : (hauberkref15_Spans.j2 k2 x3_1 x11_1 t314 x20_2 (l0_2.length : Int) x11_1 (t314.length : Int) x20_2 true a0_0 l0_1 l0_2 l0_3 l0_4 x314000_2 x314001_2) = some r := by rw [if_pos rfl] at H; exact H
             clear H
             have H := H1
             clear H1
             have H' := Aside0.mk H
             clear H
             have p320 : 0 ≤ (x20_2 : Int) := of_decide_eq_true (by first | (with_reducible assumption) | assumption)
             have q320 : x20_2 < (t314.length : Int) := of_decide_eq_true (by first | (with_reducible assumption) | assumption)
             obtain ⟨ad320, e320, hx320_0⟩ := Kd.at_bool (Kd.R_reads' HO_6.out).2.2 x20_2 p320 q320
             (try rw [← Nbq16.out] at hx320_0)
             cases e320
             replace p320 := eq_true p320
             replace q320 := eq_true q320
             have hnb21 := NB312_313.out
             have hnc21 := NB313_312.out
             have hcz22_0 : wr.cell? ⟨gb312, 0, none⟩ = some (.string a0_0) := (blk_cell BK312.out 0).trans rfl
             have hcz22_1 : wr.cell? ⟨gb312, 1, none⟩ = some (.slice A0_1 l0_1.length c0_1) := (blk_cell BK312.out 1).trans rfl
             have hcz22_2 : wr.cell? ⟨gb312, 2, none⟩ = some (.slice A0_2 l0_2.length c0_2) := (blk_cell BK312.out 2).trans rfl
             have hcz22_3 : wr.cell? ⟨gb312, 3, none⟩ = some (.slice A0_3 l0_3.length c0_3) := (blk_cell BK312.out 3).trans rfl
             have hcz22_4 : wr.cell? ⟨gb312, 4, none⟩ = some (.slice A0_4 l0_4.length c0_4) := (blk_cell BK312.out 4).trans rfl
             have hfz22_0 := blk_frozen BK312.out 0
             have hfz22_1 := blk_frozen BK312.out 1
             have hfz22_2 := blk_frozen BK312.out 2
             have hfz22_3 := blk_frozen BK312.out 3
             have hfz22_4 := blk_frozen BK312.out 4
             have p321 : 0 ≤ (x20_2 : Int) := of_decide_eq_true (by first | (with_reducible assumption) | assumption)
             have q321 : x20_2 < (l0_4.length : Int) := of_decide_eq_true (by first | (with_reducible assumption) | assumption)
             obtain ⟨ad321, A321_7, c321_7, A321_8, c321_8, e321, hx321_0, hx321_1, hx321_2, hx321_3, hx321_4, hx321_5, hx321_6, hx321_7, hx321_8, hx321_9, hl321_7, hi321_7, hl321_8, hi321_8⟩ := at_T44 HR0_4.out x20_2 p321 q321
             cases e321
             replace hx321_0 := (HB.out.cell (World.block_lt_of_cell? w _ hx321_0)).trans hx321_0
             replace hx321_1 := (HB.out.cell (World.block_lt_of_cell? w _ hx321_1)).trans hx321_1
             replace hx321_2 := (HB.out.cell (World.block_lt_of_cell? w _ hx321_2)).trans hx321_2
             replace hx321_3 := (HB.out.cell (World.block_lt_of_cell? w _ hx321_3)).trans hx321_3
             replace hx321_4 := (HB.out.cell (World.block_lt_of_cell? w _ hx321_4)).trans hx321_4
             replace hx321_5 := (HB.out.cell (World.block_lt_of_cell? w _ hx321_5)).trans hx321_5
             replace hx321_6 := (HB.out.cell (World.block_lt_of_cell? w _ hx321_6)).trans hx321_6
             replace hx321_7 := (HB.out.cell (World.block_lt_of_cell? w _ hx321_7)).trans hx321_7
             replace hx321_8 := (HB.out.cell (World.block_lt_of_cell? w _ hx321_8)).trans hx321_8
             replace hx321_9 := (HB.out.cell (World.block_lt_of_cell? w _ hx321_9)).trans hx321_9
             have HR321_7 := Aside0.mk hi321_7
             have HC321_7 := Aside0.mk hl321_7
             clear hi321_7 hl321_7
             have HR321_8 := Aside0.mk hi321_8
             have HC321_8 := Aside0.mk hl321_8
             clear hi321_8 hl321_8
             replace p321 := eq_true p321
             replace q321 := eq_true q321
             go_wp2_with (first | (go_at_call 31; (with_reducible refine (hauberkref15_Writes.calls ((rd_T44 l0_4 x20_2).f0) ((rd_T44 l0_4 x20_2).f1) ((rd_T44 l0_4 x20_2).f2) ((rd_T44 l0_4 x20_2).f3) ((rd_T44 l0_4 x20_2).f4) ((rd_T44 l0_4 x20_2).f5) ((rd_T44 l0_4 x20_2).f6) _ _ ((rd_T44 l0_4 x20_2).f7) _ _ ((rd_T44 l0_4 x20_2).f8) ((rd_T44 l0_4 x20_2).f9) x11_1 true _ ?side1 ?side2 ?side3 ?side4 A19.out).mono ?_); (case side1 => repeat (first | exact (Kd.C_below HR321_7.out HB.out) | (with_reducible refine Kd.C_alloc ?_ _) | (with_reducible refine Kd.C_drewN ?_ _) | (with_reducible refine Kd.C_drew ?_))); (case side2 => exact HC321_7.out); (case side3 => repeat (first | exact (Kd.C_below HR321_8.out HB.out) | (with_reducible refine Kd.C_alloc ?_ _) | (with_reducible refine Kd.C_drewN ?_ _) | (with_reducible refine Kd.C_drew ?_))); (case side4 => exact HC321_8.out); rintro e w23 ⟨rfl, hb⟩; have n0_ := Aside0.mk (Kd.R_below (by (with_reducible repeat (first | apply Kd.R_alloc | apply Kd.R_drewN | apply Kd.R_drew)); exact HO_3.out) hb); have n1_ := Aside0.mk (Kd.R_below (by (with_reducible repeat (first | apply Kd.R_alloc | apply Kd.R_drewN | apply Kd.R_drew)); exact HO_6.out) hb); have n2_ := Aside0.mk (blk_below (g := gb312) (o := .cells #[.string a0_0, .slice A0_1 l0_1.length c0_1, .slice A0_2 l0_2.length c0_2, .slice A0_3 l0_3.length c0_3, .slice (some ad321) l0_4.length c0_4] 25 (0, 0)) (by (with_reducible repeat (first | refine blk_drewN ?_ _ | refine blk_drew ?_ | refine blk_alloc ?_ _)); exact BK312.out) hb); have n3_ := Aside0.mk (blk_below (g := gb313) (o := .cells #[.int .i64 x314000_2, .int .i64 x314001_2] 38 (0, 0)) (by (with_reducible repeat (first | refine blk_drewN ?_ _ | refine blk_drew ?_ | refine blk_alloc ?_ _)); exact BK313.out) hb); have n4_ := Aside0.mk (below_step (by repeat (first | (with_reducible first | exact HB.out | apply below_alloc | apply pw_below_drewN | apply below_drew1 | refine below_set ?_ GE312.out | refine below_set ?_ GE313.out) | exact HB.out)) hb); clear HO_3; clear HO_6; clear BK312; clear BK313; clear HB; have HO_3 := n0_; have HO_6 := n1_; have BK312 := n2_; have BK313 := n3_; have HB := n4_; clear n0_ n1_ n2_ n3_ n4_; (try clear hb); (try clear hb2); (try clear hk); (try clear hi)))
             go_meet
             case rel => exact ⟨_, (true), (by first | rfl | (simp; done) | (simp [*]; done)), H', ⟨by have := HK1.out; have := HK2.out; first | omega | exact Nat.le_refl _⟩, ⟨by (with_reducible repeat (first | apply Kd.R_alloc | apply Kd.R_drewN | apply Kd.R_drew)); exact HO_3.out⟩, ⟨by (with_reducible repeat (first | apply Kd.R_alloc | apply Kd.R_drewN | apply Kd.R_drew)); exact HO_6.out⟩, ⟨by (with_reducible repeat (first | refine blk_drewN ?_ _ | refine blk_drew ?_ | refine blk_alloc ?_ _)); exact BK312.out⟩, ⟨by (with_reducible repeat (first | refine blk_drewN ?_ _ | refine blk_drew ?_ | refine blk_alloc ?_ _)); exact BK313.out⟩, ⟨by repeat (first | (with_reducible first | exact HB.out | apply below_alloc | apply pw_below_drewN | apply below_drew1 | refine below_set ?_ GE312.out | refine below_set ?_ GE313.out) | exact HB.out)⟩⟩
            ·replace c20 := Bool.eq_false_iff.mpr c20
             subst c20
             have H1 : (if x20_2 = 0 then ((hauberkref15_has.f k2 l0_1 x11_1).bind fun t323 => (hauberkref15_Spans.j2 k2 x3_1 x11_1 t314 x20_2 (l0_2.length : Int) x11_1 (t314.length : Int) x20_2 t323 a0_0 l0_1 l0_2 l0_3 l0_4 x314000_2 x314001_2)) else (hauberkref15_Spans.j2 k2 x3_1 x11_1 t314 x20_2 (l0_2.length : Int) x11_1 (t314.length : Int) x20_2 false a0_0 l0_1 l0_2 l0_3 l0_4 x314000_2 x314001_2)) = some r := by rw [if_neg (show ¬ (false = true) by decide)] at H; exact H
             clear H
             have H := H1
             clear H1
             by_cases c24 : x20_2 = 0
             ·rw [if_pos c24] at H
              have c24b0 : (x20_2 == 0) = true := beq_iff_eq.mpr c24
              have c24b1 : (x20_2 != 0) = false := bne_eq_false_iff_eq.mpr c24
              clear c24
              replace H := Option.bind_eq_some_iff.mp H
              obtain ⟨t323, A250, H⟩ := H
              replace H : (hauberkref15_Spans.j2 k2 x3_1 x11_1 t314 x20_2 (l0_2.length : Int) x11_1 (t314.length : Int) x20_2 t323 a0_0 l0_1 l0_2 l0_3 l0_4 x314000_2 x314001_2) = some r := H
              have A25 := Aside0.mk A250
              clear A250
              have H' := Aside0.mk H
              clear H
              have p320 : 0 ≤ (x20_2 : Int) := of_decide_eq_true (by first | (with_reducible assumption) | assumption)
              have q320 : x20_2 < (t314.length : Int) := of_decide_eq_true (by first | (with_reducible assumption) | assumption)
              obtain ⟨ad320, e320, hx320_0⟩ := Kd.at_bool (Kd.R_reads' HO_6.out).2.2 x20_2 p320 q320
              (try rw [← Nbq16.out] at hx320_0)
              cases e320
              replace p320 := eq_true p320
              replace q320 := eq_true q320
              have hnb26 := NB312_313.out
              have hnc26 := NB313_312.out
              have hcz27_0 : wr.cell? ⟨gb312, 0, none⟩ = some (.string a0_0) := (blk_cell BK312.out 0).trans rfl
              have hcz27_1 : wr.cell? ⟨gb312, 1, none⟩ = some (.slice A0_1 l0_1.length c0_1) := (blk_cell BK312.out 1).trans rfl
              have hcz27_2 : wr.cell? ⟨gb312, 2, none⟩ = some (.slice A0_2 l0_2.length c0_2) := (blk_cell BK312.out 2).trans rfl
              have hcz27_3 : wr.cell? ⟨gb312, 3, none⟩ = some (.slice A0_3 l0_3.length c0_3) := (blk_cell BK312.out 3).trans rfl
              have hcz27_4 : wr.cell? ⟨gb312, 4, none⟩ = some (.slice A0_4 l0_4.length c0_4) := (blk_cell BK312.out 4).trans rfl
              have hfz27_0 := blk_frozen BK312.out 0
              have hfz27_1 := blk_frozen BK312.out 1
              have hfz27_2 := blk_frozen BK312.out 2
              have hfz27_3 := blk_frozen BK312.out 3
              have hfz27_4 := blk_frozen BK312.out 4
              have p321 : 0 ≤ (x20_2 : Int) := of_decide_eq_true (by first | (with_reducible assumption) | assumption)
              have q321 : x20_2 < (l0_4.length : Int) := of_decide_eq_true (by first | (with_reducible assumption) | assumption)
              obtain ⟨ad321, A321_7, c321_7, A321_8, c321_8, e321, hx321_0, hx321_1, hx321_2, hx321_3, hx321_4, hx321_5, hx321_6, hx321_7, hx321_8, hx321_9, hl321_7, hi321_7, hl321_8, hi321_8⟩ := at_T44 HR0_4.out x20_2 p321 q321
              cases e321
              replace hx321_0 := (HB.out.cell (World.block_lt_of_cell? w _ hx321_0)).trans hx321_0
              replace hx321_1 := (HB.out.cell (World.block_lt_of_cell? w _ hx321_1)).trans hx321_1
              replace hx321_2 := (HB.out.cell (World.block_lt_of_cell? w _ hx321_2)).trans hx321_2
              replace hx321_3 := (HB.out.cell (World.block_lt_of_cell? w _ hx321_3)).trans hx321_3
              replace hx321_4 := (HB.out.cell (World.block_lt_of_cell? w _ hx321_4)).trans hx321_4
              replace hx321_5 := (HB.out.cell (World.block_lt_of_cell? w _ hx321_5)).trans hx321_5
              replace hx321_6 := (HB.out.cell (World.block_lt_of_cell? w _ hx321_6)).trans hx321_6
              replace hx321_7 := (HB.out.cell (World.block_lt_of_cell? w _ hx321_7)).trans hx321_7
              replace hx321_8 := (HB.out.cell (World.block_lt_of_cell? w _ hx321_8)).trans hx321_8
              replace hx321_9 := (HB.out.cell (World.block_lt_of_cell? w _ hx321_9)).trans hx321_9
              have HR321_7 := Aside0.mk hi321_7
              have HC321_7 := Aside0.mk hl321_7
              clear hi321_7 hl321_7
              have HR321_8 := Aside0.mk hi321_8
              have HC321_8 := Aside0.mk hl321_8
              clear hi321_8 hl321_8
              replace p321 := eq_true p321
              replace q321 := eq_true q321
              go_wp2_with (first | (go_at_call 31; (with_reducible refine (hauberkref15_Writes.calls ((rd_T44 l0_4 x20_2).f0) ((rd_T44 l0_4 x20_2).f1) ((rd_T44 l0_4 x20_2).f2) ((rd_T44 l0_4 x20_2).f3) ((rd_T44 l0_4 x20_2).f4) ((rd_T44 l0_4 x20_2).f5) ((rd_T44 l0_4 x20_2).f6) _ _ ((rd_T44 l0_4 x20_2).f7) _ _ ((rd_T44 l0_4 x20_2).f8) ((rd_T44 l0_4 x20_2).f9) x11_1 false _ ?side1 ?side2 ?side3 ?side4 A19.out).mono ?_); (case side1 => repeat (first | exact (Kd.C_below HR321_7.out HB.out) | (with_reducible refine Kd.C_alloc ?_ _) | (with_reducible refine Kd.C_drewN ?_ _) | (with_reducible refine Kd.C_drew ?_))); (case side2 => exact HC321_7.out); (case side3 => repeat (first | exact (Kd.C_below HR321_8.out HB.out) | (with_reducible refine Kd.C_alloc ?_ _) | (with_reducible refine Kd.C_drewN ?_ _) | (with_reducible refine Kd.C_drew ?_))); (case side4 => exact HC321_8.out); rintro e w28 ⟨rfl, hb⟩; have n0_ := Aside0.mk (Kd.R_below (by (with_reducible repeat (first | apply Kd.R_alloc | apply Kd.R_drewN | apply Kd.R_drew)); exact HO_3.out) hb); have n1_ := Aside0.mk (Kd.R_below (by (with_reducible repeat (first | apply Kd.R_alloc | apply Kd.R_drewN | apply Kd.R_drew)); exact HO_6.out) hb); have n2_ := Aside0.mk (blk_below (g := gb312) (o := .cells #[.string a0_0, .slice A0_1 l0_1.length c0_1, .slice A0_2 l0_2.length c0_2, .slice A0_3 l0_3.length c0_3, .slice (some ad321) l0_4.length c0_4] 25 (0, 0)) (by (with_reducible repeat (first | refine blk_drewN ?_ _ | refine blk_drew ?_ | refine blk_alloc ?_ _)); exact BK312.out) hb); have n3_ := Aside0.mk (blk_below (g := gb313) (o := .cells #[.int .i64 x314000_2, .int .i64 x314001_2] 38 (0, 0)) (by (with_reducible repeat (first | refine blk_drewN ?_ _ | refine blk_drew ?_ | refine blk_alloc ?_ _)); exact BK313.out) hb); have n4_ := Aside0.mk (below_step (by repeat (first | (with_reducible first | exact HB.out | apply below_alloc | apply pw_below_drewN | apply below_drew1 | refine below_set ?_ GE312.out | refine below_set ?_ GE313.out) | exact HB.out)) hb); clear HO_3; clear HO_6; clear BK312; clear BK313; clear HB; have HO_3 := n0_; have HO_6 := n1_; have BK312 := n2_; have BK313 := n3_; have HB := n4_; clear n0_ n1_ n2_ n3_ n4_; (try clear hb); (try clear hb2); (try clear hk); (try clear hi); have hcz29_0 : w28.cell? ⟨gb312, 0, none⟩ = some (.string a0_0) := (blk_cell BK312.out 0).trans rfl; have hcz29_1 : w28.cell? ⟨gb312, 1, none⟩ = some (.slice A0_1 l0_1.length c0_1) := (blk_cell BK312.out 1).trans rfl; have hcz29_2 : w28.cell? ⟨gb312, 2, none⟩ = some (.slice A0_2 l0_2.length c0_2) := (blk_cell BK312.out 2).trans rfl; have hcz29_3 : w28.cell? ⟨gb312, 3, none⟩ = some (.slice A0_3 l0_3.length c0_3) := (blk_cell BK312.out 3).trans rfl; have hcz29_4 : w28.cell? ⟨gb312, 4, none⟩ = some (.slice (some ad321) l0_4.length c0_4) := (blk_cell BK312.out 4).trans rfl; have hfz29_0 := blk_frozen BK312.out 0; have hfz29_1 := blk_frozen BK312.out 1; have hfz29_2 := blk_frozen BK312.out 2; have hfz29_3 := blk_frozen BK312.out 3; have hfz29_4 := blk_frozen BK312.out 4) | (go_at_call 32; (with_reducible refine (hauberkref15_has.calls k2 _ _ l0_1 x11_1 t323 _ ?side1 ?side2 A25.out).mono ?_); (case side1 => repeat (first | exact (Kd.C_below HR0_1.out HB.out) | (with_reducible refine Kd.C_alloc ?_ _) | (with_reducible refine Kd.C_drewN ?_ _) | (with_reducible refine Kd.C_drew ?_))); (case side2 => exact HC0_1.out); rintro e w' ⟨rfl, ⟨nd, rfl⟩⟩))
              go_meet
              case rel => exact ⟨_, (t323), (by first | rfl | (simp; done) | (simp [*]; done)), H', ⟨by have := HK1.out; have := HK2.out; first | omega | exact Nat.le_refl _⟩, ⟨by (with_reducible repeat (first | apply Kd.R_alloc | apply Kd.R_drewN | apply Kd.R_drew)); exact HO_3.out⟩, ⟨by (with_reducible repeat (first | apply Kd.R_alloc | apply Kd.R_drewN | apply Kd.R_drew)); exact HO_6.out⟩, ⟨by (with_reducible repeat (first | refine blk_drewN ?_ _ | refine blk_drew ?_ | refine blk_alloc ?_ _)); exact BK312.out⟩, ⟨by (with_reducible repeat (first | refine blk_drewN ?_ _ | refine blk_drew ?_ | refine blk_alloc ?_ _)); exact BK313.out⟩, ⟨by repeat (first | (with_reducible first | exact HB.out | apply below_alloc | apply pw_below_drewN | apply below_drew1 | refine below_set ?_ GE312.out | refine below_set ?_ GE313.out) | exact HB.out)⟩⟩
             ·rw [if_neg c24] at H
              have c24b0 : (x20_2 == 0) = false := beq_eq_false_iff_ne.mpr c24
              have c24b1 : (x20_2 != 0) = true := bne_iff_ne.mpr c24
              have H' := Aside0.mk H
              clear H
              have p320 : 0 ≤ (x20_2 : Int) := of_decide_eq_true (by first | (with_reducible assumption) | assumption)
              have q320 : x20_2 < (t314.length : Int) := of_decide_eq_true (by first | (with_reducible assumption) | assumption)
              obtain ⟨ad320, e320, hx320_0⟩ := Kd.at_bool (Kd.R_reads' HO_6.out).2.2 x20_2 p320 q320
              (try rw [← Nbq16.out] at hx320_0)
              cases e320
              replace p320 := eq_true p320
              replace q320 := eq_true q320
              have hnb30 := NB312_313.out
              have hnc30 := NB313_312.out
              have hcz31_0 : wr.cell? ⟨gb312, 0, none⟩ = some (.string a0_0) := (blk_cell BK312.out 0).trans rfl
              have hcz31_1 : wr.cell? ⟨gb312, 1, none⟩ = some (.slice A0_1 l0_1.length c0_1) := (blk_cell BK312.out 1).trans rfl
              have hcz31_2 : wr.cell? ⟨gb312, 2, none⟩ = some (.slice A0_2 l0_2.length c0_2) := (blk_cell BK312.out 2).trans rfl
              have hcz31_3 : wr.cell? ⟨gb312, 3, none⟩ = some (.slice A0_3 l0_3.length c0_3) := (blk_cell BK312.out 3).trans rfl
              have hcz31_4 : wr.cell? ⟨gb312, 4, none⟩ = some (.slice A0_4 l0_4.length c0_4) := (blk_cell BK312.out 4).trans rfl
              have hfz31_0 := blk_frozen BK312.out 0
              have hfz31_1 := blk_frozen BK312.out 1
              have hfz31_2 := blk_frozen BK312.out 2
              have hfz31_3 := blk_frozen BK312.out 3
              have hfz31_4 := blk_frozen BK312.out 4
              have p321 : 0 ≤ (x20_2 : Int) := of_decide_eq_true (by first | (with_reducible assumption) | assumption)
              have q321 : x20_2 < (l0_4.length : Int) := of_decide_eq_true (by first | (with_reducible assumption) | assumption)
              obtain ⟨ad321, A321_7, c321_7, A321_8, c321_8, e321, hx321_0, hx321_1, hx321_2, hx321_3, hx321_4, hx321_5, hx321_6, hx321_7, hx321_8, hx321_9, hl321_7, hi321_7, hl321_8, hi321_8⟩ := at_T44 HR0_4.out x20_2 p321 q321
              cases e321
              replace hx321_0 := (HB.out.cell (World.block_lt_of_cell? w _ hx321_0)).trans hx321_0
              replace hx321_1 := (HB.out.cell (World.block_lt_of_cell? w _ hx321_1)).trans hx321_1
              replace hx321_2 := (HB.out.cell (World.block_lt_of_cell? w _ hx321_2)).trans hx321_2
              replace hx321_3 := (HB.out.cell (World.block_lt_of_cell? w _ hx321_3)).trans hx321_3
              replace hx321_4 := (HB.out.cell (World.block_lt_of_cell? w _ hx321_4)).trans hx321_4
              replace hx321_5 := (HB.out.cell (World.block_lt_of_cell? w _ hx321_5)).trans hx321_5
              replace hx321_6 := (HB.out.cell (World.block_lt_of_cell? w _ hx321_6)).trans hx321_6
              replace hx321_7 := (HB.out.cell (World.block_lt_of_cell? w _ hx321_7)).trans hx321_7
              replace hx321_8 := (HB.out.cell (World.block_lt_of_cell? w _ hx321_8)).trans hx321_8
              replace hx321_9 := (HB.out.cell (World.block_lt_of_cell? w _ hx321_9)).trans hx321_9
              have HR321_7 := Aside0.mk hi321_7
              have HC321_7 := Aside0.mk hl321_7
              clear hi321_7 hl321_7
              have HR321_8 := Aside0.mk hi321_8
              have HC321_8 := Aside0.mk hl321_8
              clear hi321_8 hl321_8
              replace p321 := eq_true p321
              replace q321 := eq_true q321
              go_wp2_with (first | (go_at_call 31; (with_reducible refine (hauberkref15_Writes.calls ((rd_T44 l0_4 x20_2).f0) ((rd_T44 l0_4 x20_2).f1) ((rd_T44 l0_4 x20_2).f2) ((rd_T44 l0_4 x20_2).f3) ((rd_T44 l0_4 x20_2).f4) ((rd_T44 l0_4 x20_2).f5) ((rd_T44 l0_4 x20_2).f6) _ _ ((rd_T44 l0_4 x20_2).f7) _ _ ((rd_T44 l0_4 x20_2).f8) ((rd_T44 l0_4 x20_2).f9) x11_1 false _ ?side1 ?side2 ?side3 ?side4 A19.out).mono ?_); (case side1 => repeat (first | exact (Kd.C_below HR321_7.out HB.out) | (with_reducible refine Kd.C_alloc ?_ _) | (with_reducible refine Kd.C_drewN ?_ _) | (with_reducible refine Kd.C_drew ?_))); (case side2 => exact HC321_7.out); (case side3 => repeat (first | exact (Kd.C_below HR321_8.out HB.out) | (with_reducible refine Kd.C_alloc ?_ _) | (with_reducible refine Kd.C_drewN ?_ _) | (with_reducible refine Kd.C_drew ?_))); (case side4 => exact HC321_8.out); rintro e w32 ⟨rfl, hb⟩; have n0_ := Aside0.mk (Kd.R_below (by (with_reducible repeat (first | apply Kd.R_alloc | apply Kd.R_drewN | apply Kd.R_drew)); exact HO_3.out) hb); have n1_ := Aside0.mk (Kd.R_below (by (with_reducible repeat (first | apply Kd.R_alloc | apply Kd.R_drewN | apply Kd.R_drew)); exact HO_6.out) hb); have n2_ := Aside0.mk (blk_below (g := gb312) (o := .cells #[.string a0_0, .slice A0_1 l0_1.length c0_1, .slice A0_2 l0_2.length c0_2, .slice A0_3 l0_3.length c0_3, .slice (some ad321) l0_4.length c0_4] 25 (0, 0)) (by (with_reducible repeat (first | refine blk_drewN ?_ _ | refine blk_drew ?_ | refine blk_alloc ?_ _)); exact BK312.out) hb); have n3_ := Aside0.mk (blk_below (g := gb313) (o := .cells #[.int .i64 x314000_2, .int .i64 x314001_2] 38 (0, 0)) (by (with_reducible repeat (first | refine blk_drewN ?_ _ | refine blk_drew ?_ | refine blk_alloc ?_ _)); exact BK313.out) hb); have n4_ := Aside0.mk (below_step (by repeat (first | (with_reducible first | exact HB.out | apply below_alloc | apply pw_below_drewN | apply below_drew1 | refine below_set ?_ GE312.out | refine below_set ?_ GE313.out) | exact HB.out)) hb); clear HO_3; clear HO_6; clear BK312; clear BK313; clear HB; have HO_3 := n0_; have HO_6 := n1_; have BK312 := n2_; have BK313 := n3_; have HB := n4_; clear n0_ n1_ n2_ n3_ n4_; (try clear hb); (try clear hb2); (try clear hk); (try clear hi)))
              go_meet
              case rel => exact ⟨_, (false), (by first | rfl | (simp; done) | (simp [*]; done)), H', ⟨by have := HK1.out; have := HK2.out; first | omega | exact Nat.le_refl _⟩, ⟨by (with_reducible repeat (first | apply Kd.R_alloc | apply Kd.R_drewN | apply Kd.R_drew)); exact HO_3.out⟩, ⟨by (with_reducible repeat (first | apply Kd.R_alloc | apply Kd.R_drewN | apply Kd.R_drew)); exact HO_6.out⟩, ⟨by (with_reducible repeat (first | refine blk_drewN ?_ _ | refine blk_drew ?_ | refine blk_alloc ?_ _)); exact BK312.out⟩, ⟨by (with_reducible repeat (first | refine blk_drewN ?_ _ | refine blk_drew ?_ | refine blk_alloc ?_ _)); exact BK313.out⟩, ⟨by repeat (first | (with_reducible first | exact HB.out | apply below_alloc | apply pw_below_drewN | apply below_drew1 | refine below_set ?_ GE312.out | refine below_set ?_ GE313.out) | exact HB.out)⟩⟩
           ·rw [if_neg c18] at H
            exact absurd H (by simp)
         ·rw [if_neg c15] at H
          exact absurd H (by simp)
        ·rw [if_neg c14] at H
         exact absurd H (by simp)
       case rest =>
        clear HC13
        try clear c1
        try clear q1
        try clear c2
        try clear p2
        try clear c3
        try clear p3
        try clear q3
        try clear hx3
        try clear c4
        try clear c4b0
        try clear c7
        try clear c12
        try clear c12b0
        try clear c14
        try clear c14b0
        try clear c15
        try clear c15b0
        try clear q16
        try clear c17
        try clear c18
        try clear c18b0
        try clear c20
        try clear c21
        try clear c24
        try clear c24b0
        try clear c24b1
        try clear c26
        try clear c30
        try clear c32
        try clear p32
        try clear q32
        try clear hx32
        try clear hcz22_0
        try clear hcz22_1
        try clear hcz22_2
        try clear hcz22_3
        try clear hcz22_4
        try clear hcz27_0
        try clear hcz27_1
        try clear hcz27_2
        try clear hcz27_3
        try clear hcz27_4
        try clear hcz29_0
        try clear hcz29_1
        try clear hcz29_2
        try clear hcz29_3
        try clear hcz29_4
        try clear hcz31_0
        try clear hcz31_1
        try clear hcz31_2
        try clear hcz31_3
        try clear hcz31_4
        try clear hcz3_0
        try clear hcz3_1
        try clear hcz3_2
        try clear hcz3_3
        try clear hcz3_4
        try clear hcz8_0
        try clear hcz8_1
        try clear hcz9_0
        try clear hcz9_1
        try clear hcz9_2
        try clear hcz9_3
        try clear hcz9_4
        try clear hfz22_0
        try clear hfz22_1
        try clear hfz22_2
        try clear hfz22_3
        try clear hfz22_4
        try clear hfz27_0
        try clear hfz27_1
        try clear hfz27_2
        try clear hfz27_3
        try clear hfz27_4
        try clear hfz29_0
        try clear hfz29_1
        try clear hfz29_2
        try clear hfz29_3
        try clear hfz29_4
        try clear hfz31_0
        try clear hfz31_1
        try clear hfz31_2
        try clear hfz31_3
        try clear hfz31_4
        try clear hfz3_0
        try clear hfz3_1
        try clear hfz3_2
        try clear hfz3_3
        try clear hfz3_4
        try clear hfz8_0
        try clear hfz8_1
        try clear hfz9_0
        try clear hfz9_1
        try clear hfz9_2
        try clear hfz9_3
        try clear hfz9_4
        try clear hx320_0
        try clear hx321_0
        try clear hx321_1
        try clear hx321_2
        try clear hx321_3
        try clear hx321_4
        try clear hx321_5
        try clear hx321_6
        try clear hx321_7
        try clear hx321_8
        try clear hx321_9
        try clear p2
        try clear p320
        try clear p321
        try clear q320
        try clear q321
        obtain ⟨kq, x45_12, rfl, HA, HJ12, HO_3, HO_6, BK312, BK313, HB⟩ := hcut
        cases kq with
        | zero => exact absurd HA.out (by simp [hauberkref15_Spans.j2])
        | succ kj12 =>
         have H := HA.out
         clear HA
         simp only [hauberkref15_Spans.j2] at H
         by_cases c33 : x45_12 = true
         ·subst c33
          have H1 : (if x314001_2 < 0 then (hauberkref15_Spans.l1 kj12 x3_1 x11_1 t314 (l0_2.length : Int) x11_1 (t314.length : Int) (wrap64 (x20_2 + 1)) a0_0 l0_1 l0_2 l0_3 l0_4 x20_2 x20_2) else (hauberkref15_Spans.l1 kj12 x3_1 x11_1 t314 (l0_2.length : Int) x11_1 (t314.length : Int) (wrap64 (x20_2 + 1)) a0_0 l0_1 l0_2 l0_3 l0_4 x314000_2 x20_2)) = some r := by rw [if_pos rfl] at H; exact H
          clear H
          have H := H1
          clear H1
          by_cases c34 : x314001_2 < 0
          ·rw [if_pos c34] at H
           have c34b0 : decide (x314001_2 < 0) = true := decide_eq_true c34
           clear c34
           have H' := Aside0.mk H
           clear H
           have hnb35 := NB313_312.out
           have hnc35 := NB312_313.out
           have hcz36_0 : wc.cell? ⟨gb313, 0, none⟩ = some (.int .i64 x314000_2) := (blk_cell BK313.out 0).trans rfl
           have hcz36_1 : wc.cell? ⟨gb313, 1, none⟩ = some (.int .i64 x314001_2) := (blk_cell BK313.out 1).trans rfl
           have hfz36_0 := blk_frozen BK313.out 0
           have hfz36_1 := blk_frozen BK313.out 1
           go_wp2
           go_roundg kj12
           case measure => have := HK1.out; have := HK2.out; have := HJ12.out; omega
           case rel => exact ⟨(wrap64 (x20_2 + 1)), (x20_2), (x20_2), (by first | rfl | (simp; done) | (simp [*]; done)), H', ⟨by have := HK1.out; have := HK2.out; have := HJ12.out; omega⟩, ⟨by (with_reducible repeat (first | apply Kd.R_alloc | apply Kd.R_drewN | apply Kd.R_drew)); exact Kd.R_mono (Kd.R_far (p := ⟨gb313, 1, none⟩) (Kd.R_far (p := ⟨gb313, 0, none⟩) (Kd.R_mono HO_3.out (fun k_ hk => (⟨hk, hk⟩ : _ ∧ k_ ≠ gb313))) (fun _ hk => hk.2) (.int .i64 x20_2)) (fun _ hk => hk.2) (.int .i64 x20_2)) (fun _ hk => hk.1)⟩, ⟨by (with_reducible repeat (first | apply Kd.R_alloc | apply Kd.R_drewN | apply Kd.R_drew)); exact Kd.R_mono (Kd.R_far (p := ⟨gb313, 1, none⟩) (Kd.R_far (p := ⟨gb313, 0, none⟩) (Kd.R_types HO_6.out BK313.out (by decide)) (fun _ hk => hk.2) (.int .i64 x20_2)) (fun _ hk => hk.2) (.int .i64 x20_2)) (fun _ hk => trivial)⟩, ⟨by (with_reducible repeat (first | refine blk_drewN ?_ _ | refine blk_drew ?_ | refine blk_alloc ?_ _)); refine blk_far ?_ NB312_313.out _; (with_reducible repeat (first | refine blk_drewN ?_ _ | refine blk_drew ?_ | refine blk_alloc ?_ _)); refine blk_far ?_ NB312_313.out _; (with_reducible repeat (first | refine blk_drewN ?_ _ | refine blk_drew ?_ | refine blk_alloc ?_ _)); exact BK312.out⟩, ⟨by (with_reducible repeat (first | refine blk_drewN ?_ _ | refine blk_drew ?_ | refine blk_alloc ?_ _)); refine blk_put (cs := #[.int .i64 x20_2, .int .i64 x314001_2]) ?_ 1 _ rfl; (with_reducible repeat (first | refine blk_drewN ?_ _ | refine blk_drew ?_ | refine blk_alloc ?_ _)); refine blk_put (cs := #[.int .i64 x314000_2, .int .i64 x314001_2]) ?_ 0 _ rfl; (with_reducible repeat (first | refine blk_drewN ?_ _ | refine blk_drew ?_ | refine blk_alloc ?_ _)); exact BK313.out⟩, ⟨by repeat (first | (with_reducible first | exact HB.out | apply below_alloc | apply pw_below_drewN | apply below_drew1 | refine below_set ?_ GE312.out | refine below_set ?_ GE313.out) | exact HB.out)⟩⟩
          ·rw [if_neg c34] at H
           have c34b0 : decide (x314001_2 < 0) = false := decide_eq_false c34
           clear c34
           have H' := Aside0.mk H
           clear H
           have hnb37 := NB313_312.out
           have hnc37 := NB312_313.out
           have hcz38_0 : wc.cell? ⟨gb313, 0, none⟩ = some (.int .i64 x314000_2) := (blk_cell BK313.out 0).trans rfl
           have hcz38_1 : wc.cell? ⟨gb313, 1, none⟩ = some (.int .i64 x314001_2) := (blk_cell BK313.out 1).trans rfl
           have hfz38_0 := blk_frozen BK313.out 0
           have hfz38_1 := blk_frozen BK313.out 1
           go_wp2
           go_roundg kj12
           case measure => have := HK1.out; have := HK2.out; have := HJ12.out; omega
           case rel => exact ⟨(wrap64 (x20_2 + 1)), (x314000_2), (x20_2), (by first | rfl | (simp; done) | (simp [*]; done)), H', ⟨by have := HK1.out; have := HK2.out; have := HJ12.out; omega⟩, ⟨by (with_reducible repeat (first | apply Kd.R_alloc | apply Kd.R_drewN | apply Kd.R_drew)); exact Kd.R_mono (Kd.R_far (p := ⟨gb313, 1, none⟩) (Kd.R_mono HO_3.out (fun k_ hk => (⟨hk, hk⟩ : _ ∧ k_ ≠ gb313))) (fun _ hk => hk.2) (.int .i64 x20_2)) (fun _ hk => hk.1)⟩, ⟨by (with_reducible repeat (first | apply Kd.R_alloc | apply Kd.R_drewN | apply Kd.R_drew)); exact Kd.R_mono (Kd.R_far (p := ⟨gb313, 1, none⟩) (Kd.R_types HO_6.out BK313.out (by decide)) (fun _ hk => hk.2) (.int .i64 x20_2)) (fun _ hk => trivial)⟩, ⟨by (with_reducible repeat (first | refine blk_drewN ?_ _ | refine blk_drew ?_ | refine blk_alloc ?_ _)); refine blk_far ?_ NB312_313.out _; (with_reducible repeat (first | refine blk_drewN ?_ _ | refine blk_drew ?_ | refine blk_alloc ?_ _)); exact BK312.out⟩, ⟨by (with_reducible repeat (first | refine blk_drewN ?_ _ | refine blk_drew ?_ | refine blk_alloc ?_ _)); refine blk_put (cs := #[.int .i64 x314000_2, .int .i64 x314001_2]) ?_ 1 _ rfl; (with_reducible repeat (first | refine blk_drewN ?_ _ | refine blk_drew ?_ | refine blk_alloc ?_ _)); exact BK313.out⟩, ⟨by repeat (first | (with_reducible first | exact HB.out | apply below_alloc | apply pw_below_drewN | apply below_drew1 | refine below_set ?_ GE312.out | refine below_set ?_ GE313.out) | exact HB.out)⟩⟩
         ·replace c33 := Bool.eq_false_iff.mpr c33
          subst c33
          have H1 : (hauberkref15_Spans.l1 kj12 x3_1 x11_1 t314 (l0_2.length : Int) x11_1 (t314.length : Int) (wrap64 (x20_2 + 1)) a0_0 l0_1 l0_2 l0_3 l0_4 x314000_2 x314001_2) = some r := by rw [if_neg (show ¬ (false = true) by decide)] at H; exact H
          clear H
          have H := H1
          clear H1
          have H' := Aside0.mk H
          clear H
          go_wp2
          go_roundg kj12
          case measure => have := HK1.out; have := HK2.out; have := HJ12.out; omega
          case rel => exact ⟨(wrap64 (x20_2 + 1)), (x314000_2), (x314001_2), (by first | rfl | (simp; done) | (simp [*]; done)), H', ⟨by have := HK1.out; have := HK2.out; have := HJ12.out; omega⟩, ⟨by (with_reducible repeat (first | apply Kd.R_alloc | apply Kd.R_drewN | apply Kd.R_drew)); exact HO_3.out⟩, ⟨by (with_reducible repeat (first | apply Kd.R_alloc | apply Kd.R_drewN | apply Kd.R_drew)); exact HO_6.out⟩, ⟨by (with_reducible repeat (first | refine blk_drewN ?_ _ | refine blk_drew ?_ | refine blk_alloc ?_ _)); exact BK312.out⟩, ⟨by (with_reducible repeat (first | refine blk_drewN ?_ _ | refine blk_drew ?_ | refine blk_alloc ?_ _)); exact BK313.out⟩, ⟨by repeat (first | (with_reducible first | exact HB.out | apply below_alloc | apply pw_below_drewN | apply below_drew1 | refine below_set ?_ GE312.out | refine below_set ?_ GE313.out) | exact HB.out)⟩⟩
      ·rw [if_neg c12] at H
       have c12b0 : decide (x20_2 < (t314.length : Int)) = false := decide_eq_false c12
       clear c12
       by_cases c39 : x3_1.length < 8796093022208
       ·rw [if_pos c39] at H
        have LMc39 := Aside0.mk c39
        clear c39
        obtain ⟨y317, hy317⟩ : ∃ y_ : List (S38), y_ = (x3_1 ++ [(⟨x314000_2, x314001_2⟩ : S38)]) := ⟨_, rfl⟩
        replace H : (hauberkref15_Spans.l0 k2 y317 (l0_2.length : Int) (wrap64 (x11_1 + 1)) a0_0 l0_1 l0_2 l0_3 l0_4) = some r := by first | (rw [hy317]; with_reducible exact H) | (have H2_ := (Option.bind_some _ _).symm.trans H; rw [hy317]; with_reducible exact H2_) | (have H2_ := (Option.bind_some _ _).symm.trans H; with_reducible exact H2_) | with_reducible exact H | (rw [hy317]; exact H) | exact H
        have Ny317 := Aside0.mk hy317
        clear hy317
        have H' := Aside0.mk H
        clear H
        have hnb40 := NB313_312.out
        have hnc40 := NB312_313.out
        have hcz41_0 : wr.cell? ⟨gb313, 0, none⟩ = some (.int .i64 x314000_2) := (blk_cell BK313.out 0).trans rfl
        have hcz41_1 : wr.cell? ⟨gb313, 1, none⟩ = some (.int .i64 x314001_2) := (blk_cell BK313.out 1).trans rfl
        have hfz41_0 := blk_frozen BK313.out 0
        have hfz41_1 := blk_frozen BK313.out 1
        go_wp2_with (first | ((with_reducible refine gate_builtin (b := .append) (xs := #[.tmp 54, .tmp 56]) rfl ?_); at_builtin; refine Kd.R_append k38 (w0 := w) w.heap.size rfl (.tmp 54) (.tmp 56) 35 38 (.agg #[(.int .i64 0), (.int .i64 0)]) 16 rfl Tryd.underlying35 info38 rfl (by decide) (by omega) u3 x3_1 (⟨x314000_2, x314001_2⟩ : S38) [.int .i64 x314000_2, .int .i64 x314001_2] (fun k_ => k_ ≠ gb313) (fun _ => False) rfl rfl ?aP (fun _ hk => hk.elim) ?aF ?aO ?aB ?aS ?aL ?_; (case aP => exact k38_mkM _ _ _ (⟨x314000_2, x314001_2⟩ : S38)); (case aB => exact (by repeat (first | (with_reducible first | exact HB.out | apply below_alloc | apply pw_below_drewN | apply below_drew1 | refine below_set ?_ GE312.out | refine below_set ?_ GE313.out) | exact HB.out))); (case aF => exact (fun k_ hk => Kd.freshB (g := gb313) (o := .cells #[.int .i64 x314000_2, .int .i64 x314001_2] 38 (0, 0)) (by (with_reducible repeat (first | refine blk_drewN ?_ _ | refine blk_drew ?_ | refine blk_alloc ?_ _)); exact BK313.out) k_ hk)); (case aO => exact (by (with_reducible repeat (first | apply Kd.R_alloc | apply Kd.R_drewN | apply Kd.R_drew)); exact HO_3.out)); (case aS => exact (below_size (by repeat (first | (with_reducible first | exact HB.out | apply below_alloc | apply pw_below_drewN | apply below_drew1 | refine below_set ?_ GE312.out | refine below_set ?_ GE313.out) | exact HB.out)))); (case aL => have := LMc39.out; omega); intro v318 w42 ho hb hg hat; rw [← Ny317.out] at ho; have n0_ := Aside0.mk (Kd.R_over' (by (with_reducible repeat (first | apply Kd.R_alloc | apply Kd.R_drewN | apply Kd.R_drew)); exact HO_6.out) (Kd.R_typed (by (with_reducible repeat (first | apply Kd.R_alloc | apply Kd.R_drewN | apply Kd.R_drew)); exact HO_3.out)) (by decide) hg); have n1_ := Aside0.mk (blk_grown (g := gb312) (o := .cells #[.string a0_0, .slice A0_1 l0_1.length c0_1, .slice A0_2 l0_2.length c0_2, .slice A0_3 l0_3.length c0_3, .slice A0_4 l0_4.length c0_4] 25 (0, 0)) (by (with_reducible repeat (first | refine blk_drewN ?_ _ | refine blk_drew ?_ | refine blk_alloc ?_ _)); exact BK312.out) hg (Kd.R_ne HO_3.out BK312.out (by decide))); have n2_ := Aside0.mk (blk_grown (g := gb313) (o := .cells #[.int .i64 x314000_2, .int .i64 x314001_2] 38 (0, 0)) (by (with_reducible repeat (first | refine blk_drewN ?_ _ | refine blk_drew ?_ | refine blk_alloc ?_ _)); exact BK313.out) hg (Kd.R_away HO_3.out (fun _ hk => hk))); have n3_ := Aside0.mk (hb); have n4_ := Aside0.mk (ho); clear HO_6; clear BK312; clear BK313; clear HB; clear HO_3; have HO_6 := n0_; have BK312 := n1_; have BK313 := n2_; have HB := n3_; have HO319 := n4_; clear n0_ n1_ n2_ n3_ n4_; clear ho hb hg hat))
        go_roundg k2
        case measure => have := HK1.out; have := HK2.out; omega
        case rel => exact ⟨(y317), (wrap64 (x11_1 + 1)), (by first | rfl | (simp; done) | (simp [*]; done)), H', ⟨by have := HK1.out; have := HK2.out; omega⟩, ⟨by (with_reducible repeat (first | apply Kd.R_alloc | apply Kd.R_drewN | apply Kd.R_drew)); exact Kd.R_mono HO319.out (fun _ hk => trivial)⟩, ⟨by (with_reducible repeat (first | refine blk_drewN ?_ _ | refine blk_drew ?_ | refine blk_alloc ?_ _)); exact BK312.out⟩, ⟨by repeat (first | (with_reducible first | exact HB.out | apply below_alloc | apply pw_below_drewN | apply below_drew1 | refine below_set ?_ GE312.out | refine below_set ?_ GE313.out) | exact HB.out)⟩⟩
       ·rw [if_neg c39] at H
        exact absurd H (by simp)
   ·rw [if_neg c4] at H
    have c4b0 : decide (x11_1 < (l0_2.length : Int)) = false := decide_eq_false c4
    clear c4
    obtain rfl := Option.some.inj H
    go_wp2
    go_ret
    exact ⟨_, by first | rfl | (simp [errW_none, errW_some] <;> rfl) | (simp [*, errW_none, errW_some] <;> rfl), by (with_reducible repeat (first | apply Kd.R_alloc | apply Kd.R_drewN | apply Kd.R_drew)); exact HO_3.out, by repeat (first | (with_reducible first | exact HB.out | apply below_alloc | apply pw_below_drewN | apply below_drew1 | refine below_set ?_ GE312.out) | exact HB.out)⟩

end Go.Proofs.YtjfleaekljapeaaDoor.K
