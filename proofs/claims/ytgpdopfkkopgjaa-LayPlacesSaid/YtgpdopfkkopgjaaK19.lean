/- What Go functions of this seat answer: each has a Lean function ('.f') and a contract ('.calls'). Conditions: those of each theorem. Written by a program over the kit's printer; what is marked 'typed by hand' is this session's. -/
import Derived.Test.YtgpdopfkkopgjaaK0
import Derived.Test.YtgpdopfkkopgjaaK12
import Derived.Test.YtgpdopfkkopgjaaK17
namespace Go.Proofs.Ytgpdopfkkopgjaa.K
open Go.RowKit Go.Proofs.YtgpdopfkkopgjaaW.PrintWords Go.Proofs.YtgpdopfkkopgjaaW.PrintLast Go.Proofs.YtgpdopfkkopgjaaW.PrintMore
attribute [local go_sem] max2_int min2_int max_two min_two max_three min_three max_four min_four   -- for this text's walks alone
set_option linter.unusedVariables false
set_option linter.unusedSimpArgs false

theorem V_blk {α : Type} {d : Kd α} {W : World} {ad : Addr} {g n c e base : Nat} {ok : Nat → Prop} {xs : List α} (h : Kd.V d e W base ok (.slice (some ad) n c) xs) (hok : ∀ k, ok k → k ≠ g) (hsz : 0 < d.sz)
  {i : Int} (h0 : 0 ≤ i) (h1 : i < (xs.length : Int)) : ad.block ≠ g := by
 intro hg
 obtain ⟨hn, _, hf⟩ := Kd.V_at h
 have hbad := hf { W with heap := W.heap.setIfInBounds g (.map #[] 0) } (fun k hk _ => by
  have := hok k hk
  simp only [Array.getElem?_setIfInBounds]
  rw [if_neg (fun e => this e.symm)])
 obtain ⟨_, _, hr⟩ := hbad
 obtain ⟨ad', e', hc⟩ := hr (by omega)
 obtain rfl := Option.some.inj e'
 have hl : 0 < xs.length := by omega
 obtain ⟨c', hl', _, hcell⟩ := hc 0 _ (List.getElem?_eq_getElem hl)
 have h2 := hcell 0 _ (List.getElem?_eq_getElem (by omega))
 have hb : (ad.add (0 * d.sz + 0)).block = g := by rw [← hg]; unfold Addr.add; split <;> rfl
 simp only [World.cell?, hb, Array.getElem?_setIfInBounds, if_pos trivial] at h2
 split at h2
 ·rename_i hh
  split at hh
  ·injection hh with hh; cases hh
  ·cases hh
 ·cases h2
/-! ### hauberkref04_Field: function 14 -/
def hauberkref04_Field.l0 : Nat → ByteArray → List Int → Int → Int → ByteArray → List (S32) → Int → Option (Int × Int × ByteArray × Int × Bool)
 | 0, _, _, _, _, _, _, _ => none
 | k + 1, x2, x11, x32, x33, x200000, x200001, x200002 => if x33 < x32 then (if 0 ≤ x33 then (if x33 < (x200001.length : Int) then (if ((rd_T32 x200001 x33).f0).toList = x2.toList then (if x33 < (x11.length : Int) then (some ((rd_T32 x200001 x33).f1.f0, (rd_T32 x200001 x33).f1.f1, (rd_T32 x200001 x33).f1.f2, rd x11 x33, true)) else (none)) else (hauberkref04_Field.l0 k x2 x11 x32 (wrap64 (x33 + 1)) x200000 x200001 x200002)) else (none)) else (none)) else (some (0, 0, (⟨#[]⟩ : ByteArray), 0, false))
def hauberkref04_Field.f (k : Nat) (l0 : List (S30)) (a1 : ByteArray) (a2 : ByteArray) : Option (Int × Int × ByteArray × Int × Bool) := (hauberkref04_Find.f k l0 a1).bind fun bt193 => (if bt193.2.2.2 = true then ((hauberkref04_Places.f k bt193.1 bt193.2.1 bt193.2.2.1).bind fun bt200 => (hauberkref04_Field.l0 k a2 bt200.1 (bt193.2.1.length : Int) 0 bt193.1 bt193.2.1 bt193.2.2.1)) else (some (0, 0, (⟨#[]⟩ : ByteArray), 0, false)))
theorem hauberkref04_Field.mono_l : ∀ k, (∀ y0 y1 y2 y3 y4 y5 y6, LeO (hauberkref04_Field.l0 k y0 y1 y2 y3 y4 y5 y6) (hauberkref04_Field.l0 (k + 1) y0 y1 y2 y3 y4 y5 y6))
 | 0 => fun _ _ _ _ _ _ _ r h => by simp [hauberkref04_Field.l0] at h
 | k + 1 => by
  have ih0 := hauberkref04_Field.mono_l k
  ·intro y0 y1 y2 y3 y4 y5 y6
   unfold hauberkref04_Field.l0
   repeat' first
   | (with_reducible exact ih0 _ _ _ _ _ _ _)
   | (with_reducible exact hauberkref04_Find.mono _ _ _)
   | (with_reducible exact hauberkref04_Places.mono _ _ _ _)
   | (with_reducible exact LeO.refl _)
   | (with_reducible exact LeO.none _)
   | (with_reducible refine LeO.ite ?_ ?_)
   | (with_reducible refine LeO.bind ?_ (fun _ => ?_))
   | exact ih0 _ _ _ _ _ _ _
   | exact hauberkref04_Find.mono _ _ _
   | exact hauberkref04_Places.mono _ _ _ _
   | exact LeO.none _
   | refine LeO.ite ?_ ?_
   | refine LeO.bind ?_ (fun _ => ?_)
theorem hauberkref04_Field.mono : ∀ a0 a1 a2 k, LeO (hauberkref04_Field.f k a0 a1 a2) (hauberkref04_Field.f (k + 1) a0 a1 a2) := by
 intro a0 a1 a2 k
 have ih0 := hauberkref04_Field.mono_l k
 unfold hauberkref04_Field.f
 repeat' first
   | (with_reducible exact ih0 _ _ _ _ _ _ _)
   | (with_reducible exact hauberkref04_Find.mono _ _ _)
   | (with_reducible exact hauberkref04_Places.mono _ _ _ _)
   | (with_reducible exact LeO.refl _)
   | (with_reducible exact LeO.none _)
   | (with_reducible refine LeO.ite ?_ ?_)
   | (with_reducible refine LeO.bind ?_ (fun _ => ?_))
   | exact ih0 _ _ _ _ _ _ _
   | exact hauberkref04_Find.mono _ _ _
   | exact hauberkref04_Places.mono _ _ _ _
   | exact LeO.none _
   | refine LeO.ite ?_ ?_
   | refine LeO.bind ?_ (fun _ => ?_)
def hauberkref04_Field.T9 : Bool × List (List Nat × List Nat) := (true, [([], []), ([0], [0]), ([], []), ([1, 2], [1, 2]), ([3], [3]), ([4], [4]), ([], []), ([], []), ([6, 7], [6, 7]), ([8], [8]), ([5, 0, 1, 2, 3, 4, 5], [5]), ([9, 10, 0, 1, 2, 3, 4, 5, 6, 7, 8, 9, 10], [9]), ([11, 0, 1, 2, 3, 4, 5, 6, 7, 8, 9, 10, 11], [])])
def hauberkref04_Field.B9 : List Nat := [0, 1, 0, 7, 15, 31, 0, 0, 192, 448, 63, 2047, 4095]
theorem hauberkref04_Field.tab9 : rtab .any (opsOf Try.f14 9) = hauberkref04_Field.T9 := by kernel_rfl
theorem hauberkref04_Field.bits9 : waitsOk hauberkref04_Field.T9.2 hauberkref04_Field.B9 = true := by kernel_rfl
set_option maxHeartbeats 8000000 in
set_option maxRecDepth 100000 in
theorem hauberkref04_Field.calls (k : Nat) (A0 : Option Addr) (c0 : Nat) (l0 : List (S30)) (a1 : ByteArray) (a2 : ByteArray) (r1 : Int) (r2 : Int) (r3 : ByteArray) (r4 : Int) (r5 : Bool) (w : World) (hr0 : Kd.C k30 w A0 l0.length l0) (hc0 : l0.length ≤ c0) (h : hauberkref04_Field.f k l0 a1 a2 = some (r1, r2, r3, r4, r5)) :
  Calls Try.prog 14 #[.slice A0 l0.length c0, .string a1, .string a2] w fun e w' => e = .returned (.tuple #[.agg #[.int .i64 r1, .int .i64 r2, .string r3], .int .i64 r4, .bool r5]) ∧ Below w.heap.size w w' := by
 have hu25 := Try.underlying25
 have hu30 := Try.underlying30
 have HR0 := Aside0.mk hr0
 have HC0 := Aside0.mk hc0
 clear hr0 hc0
 have HB := Aside0.mk (Below.refl w.heap.size w)
 have H : ((hauberkref04_Find.f k l0 a1).bind fun bt193 => (if bt193.2.2.2 = true then ((hauberkref04_Places.f k bt193.1 bt193.2.1 bt193.2.2.1).bind fun bt200 => (hauberkref04_Field.l0 k a2 bt200.1 (bt193.2.1.length : Int) 0 bt193.1 bt193.2.1 bt193.2.2.1)) else (some (0, 0, (⟨#[]⟩ : ByteArray), 0, false)))) = some (r1, r2, r3, r4, r5) := h
 clear h
 replace H := Option.bind_eq_some_iff.mp H
 obtain ⟨⟨t193, t194, t197, t198⟩, A40, H⟩ := H
 replace H : (if t198 = true then ((hauberkref04_Places.f k t193 t194 t197).bind fun bt200 => (hauberkref04_Field.l0 k a2 bt200.1 (t194.length : Int) 0 t193 t194 t197)) else (some (0, 0, (⟨#[]⟩ : ByteArray), 0, false))) = some (r1, r2, r3, r4, r5) := H
 have A4 := Aside0.mk A40
 clear A40
 by_cases c5 : t198 = true
 ·subst c5
  have H1 : ((hauberkref04_Places.f k t193 t194 t197).bind fun bt200 => (hauberkref04_Field.l0 k a2 bt200.1 (t194.length : Int) 0 t193 t194 t197)) = some (r1, r2, r3, r4, r5) := by rw [if_pos rfl] at H; exact H
  clear H
  have H := H1
  clear H1
  replace H := Option.bind_eq_some_iff.mp H
  obtain ⟨⟨t200, t203, t204⟩, A60, H⟩ := H
  replace H : (hauberkref04_Field.l0 k a2 t200 (t194.length : Int) 0 t193 t194 t197) = some (r1, r2, r3, r4, r5) := H
  have A6 := Aside0.mk A60
  clear A60
  have H' := Aside0.mk H
  clear H
  go_enter Try.func14, Try.ntmps14
  go_wp2_with (first | ((with_reducible refine gate_dst (N := 6) rfl ?_); refine box_event ?hg (N := 6) ?hd (cs := #[.int .i64 0, .int .i64 0, .string (⟨#[]⟩ : ByteArray)]) (t := 25) ?hr ?_; (case hd => rfl); (case hg => rfl); (case hr => first | (go_simp; done) | (go_simp; rfl)); intro gb192 hg w7 hbox hb; have n0_ := Aside0.mk (below_step (by repeat (first | (with_reducible first | exact HB.out | apply below_alloc | apply pw_below_drewN | apply below_drew1) | exact HB.out)) hb); have n1_ := Aside0.mk (hbox); have n2_ := Aside0.mk ((by rw [hg]; exact (below_size (by repeat (first | (with_reducible first | exact HB.out | apply below_alloc | apply pw_below_drewN | apply below_drew1) | exact HB.out))) : w.heap.size ≤ gb192)); have n3_ := Aside0.mk ((by rw [hg]; exact (below_size (by repeat (first | (with_reducible first | exact HB.out | apply below_alloc | apply pw_below_drewN | apply below_drew1) | exact HB.out))) : w.heap.size ≤ gb192)); clear HB; have HB := n0_; have BK192 := n1_; have GW192 := n2_; have GE192 := n3_; clear n0_ n1_ n2_ n3_; clear hb hbox hg) | ((with_reducible refine gate_callee (f := 11) rfl ?_); refine goesL_ (some 18) rfl rfl Try.func11 (by kernel_rfl) rfl #[.slice A0 l0.length c0, .string a1] rfl (by (try simp only [List.map_toArray, List.map_cons, List.map_nil]); first | done | rfl | (simp only [List.length_drop, List.length_take]; rfl)) ?_; (with_reducible refine (hauberkref04_Find.calls k (fun k_ => k_ < w.heap.size) _ _ l0 a1 t193 t194 t197 true _ ?side1 A4.out).mono ?_); (case side1 => exact Kd.V_mk HC0.out (Kd.F_below (Kd.C_F k30_heap HR0.out) (by repeat (first | (with_reducible first | exact HB.out | apply below_alloc | apply pw_below_drewN | apply below_drew1 | refine below_set ?_ GE192.out) | exact HB.out)))); rintro e w8 ⟨v195, rfl, ho0, hb⟩; refine ⟨_, rfl, ?_⟩; have n0_ := Aside0.mk (Kd.V_lower (Kd.V_mono (ok' := fun k_ => k_ ≠ gb192) ho0 (fun k_ hk_ => Or.elim hk_ (fun hs_ => fun e_ => Nat.not_le.2 hs_ (by rw [e_]; exact GW192.out)) (fun hn_ => (Kd.freshB (g := gb192) (o := .cells #[.int .i64 0, .int .i64 0, .string (⟨#[]⟩ : ByteArray)] 25 (0, 0)) (by (with_reducible repeat (first | refine blk_drewN ?_ _ | refine blk_drew ?_ | refine blk_alloc ?_ _)); exact BK192.out) k_ hn_)))) (below_size (by repeat (first | (with_reducible first | exact HB.out | apply below_alloc | apply pw_below_drewN | apply below_drew1 | refine below_set ?_ GE192.out) | exact HB.out)))); have n1_ := Aside0.mk (blk_below (g := gb192) (o := .cells #[.int .i64 0, .int .i64 0, .string (⟨#[]⟩ : ByteArray)] 25 (0, 0)) (by (with_reducible repeat (first | refine blk_drewN ?_ _ | refine blk_drew ?_ | refine blk_alloc ?_ _)); exact BK192.out) hb); have n2_ := Aside0.mk (below_step (by repeat (first | (with_reducible first | exact HB.out | apply below_alloc | apply pw_below_drewN | apply below_drew1 | refine below_set ?_ GE192.out) | exact HB.out)) hb); clear BK192; clear HB; have HO196 := n0_; have BK192 := n1_; have HB := n2_; clear n0_ n1_ n2_; (try clear hb); (try clear hb2); (try clear hk); (try clear hi); (try clear ho0)) | ((with_reducible refine gate_dst (N := 9) rfl ?_); refine box_event ?hg (N := 9) ?hd (cs := #[.string (⟨#[]⟩ : ByteArray), .slice none 0 0, .int .i64 0]) (t := 30) ?hr ?_; (case hd => rfl); (case hg => rfl); (case hr => first | (go_simp; done) | (go_simp; rfl)); intro gb199 hg w9 hbox hb; have n0_ := Aside0.mk (Kd.V_below (Kd.V_elderB (by (with_reducible repeat (first | apply Kd.V_alloc | apply Kd.V_drewN | apply Kd.V_drew)); exact HO196.out) gb199 (Nat.le_of_eq hg.symm)) hb); have n1_ := Aside0.mk (blk_below (g := gb192) (o := .cells #[.int .i64 0, .int .i64 0, .string (⟨#[]⟩ : ByteArray)] 25 (0, 0)) (by (with_reducible repeat (first | refine blk_drewN ?_ _ | refine blk_drew ?_ | refine blk_alloc ?_ _)); exact BK192.out) hb); have n2_ := Aside0.mk (below_step (by repeat (first | (with_reducible first | exact HB.out | apply below_alloc | apply pw_below_drewN | apply below_drew1 | refine below_set ?_ GE192.out) | exact HB.out)) hb); have n3_ := Aside0.mk (hbox); have n4_ := Aside0.mk ((by rw [hg]; exact (below_size (by repeat (first | (with_reducible first | exact HB.out | apply below_alloc | apply pw_below_drewN | apply below_drew1 | refine below_set ?_ GE192.out) | exact HB.out))) : w.heap.size ≤ gb199)); have n5_ := Aside0.mk ((by rw [hg]; exact (below_size (by repeat (first | (with_reducible first | exact HB.out | apply below_alloc | apply pw_below_drewN | apply below_drew1 | refine below_set ?_ GE192.out) | exact HB.out))) : w.heap.size ≤ gb199)); have n6_ := Aside0.mk ((by rw [hg]; exact Nat.ne_of_lt (blk_lt (g := gb192) (o := .cells #[.int .i64 0, .int .i64 0, .string (⟨#[]⟩ : ByteArray)] 25 (0, 0)) (by (with_reducible repeat (first | refine blk_drewN ?_ _ | refine blk_drew ?_ | refine blk_alloc ?_ _)); exact BK192.out)) : gb192 ≠ gb199)); have n7_ := Aside0.mk ((by rw [hg]; exact Nat.ne_of_gt (blk_lt (g := gb192) (o := .cells #[.int .i64 0, .int .i64 0, .string (⟨#[]⟩ : ByteArray)] 25 (0, 0)) (by (with_reducible repeat (first | refine blk_drewN ?_ _ | refine blk_drew ?_ | refine blk_alloc ?_ _)); exact BK192.out)) : gb199 ≠ gb192)); clear HO196; clear BK192; clear HB; have HO196 := n0_; have BK192 := n1_; have HB := n2_; have BK199 := n3_; have GW199 := n4_; have GE199 := n5_; have NB192_199 := n6_; have NB199_192 := n7_; clear n0_ n1_ n2_ n3_ n4_ n5_ n6_ n7_; clear hb hbox hg; have hnb10 := NB199_192.out; have hnc10 := NB192_199.out; have hcz11_0 : w9.cell? ⟨gb199, 0, none⟩ = some (.string (⟨#[]⟩ : ByteArray)) := (blk_cell BK199.out 0).trans rfl; have hcz11_1 : w9.cell? ⟨gb199, 1, none⟩ = some (.slice none 0 0) := (blk_cell BK199.out 1).trans rfl; have hcz11_2 : w9.cell? ⟨gb199, 2, none⟩ = some (.int .i64 0) := (blk_cell BK199.out 2).trans rfl; have hfz11_0 := blk_frozen BK199.out 0; have hfz11_1 := blk_frozen BK199.out 1; have hfz11_2 := blk_frozen BK199.out 2; obtain ⟨Ao12, co12, eo12⟩ := Kd.V_slice HO196.out; subst eo12) | ((with_reducible refine gate_callee (f := 12) rfl ?_); refine goesL_ (some 26) rfl rfl Try.func12 (by kernel_rfl) rfl #[.agg #[.string t193, .slice Ao12 t194.length co12, .int .i64 t197]] rfl (by (try simp only [List.map_toArray, List.map_cons, List.map_nil]); first | done | rfl | (simp only [List.length_drop, List.length_take]; rfl)) ?_; (with_reducible refine (hauberkref04_Places.calls k t193 _ _ t194 t197 t200 t203 t204 _ ?side1 ?side2 A6.out).mono ?_); (case side1 => refine (Kd.V_reads' (e := 32) (base := w.heap.size) (ok := fun k_ => (k_ ≠ gb192 ∧ k_ ≠ gb199)) (n := t194.length) (c := co12) ?_).2.2; exact (by (with_reducible repeat (first | apply Kd.V_alloc | apply Kd.V_drewN | apply Kd.V_drew)); exact (Kd.V_mono (Kd.V_far (p := ⟨gb199, 2, none⟩) (Kd.V_far (p := ⟨gb199, 1, none⟩) (Kd.V_far (p := ⟨gb199, 0, none⟩) (Kd.V_mono HO196.out (fun k_ hk => (⟨hk, hk.2⟩ : _ ∧ k_ ≠ gb199))) (fun _ hk => hk.2) (.string t193)) (fun _ hk => hk.2) (.slice Ao12 t194.length co12)) (fun _ hk => hk.2) (.int .i64 t197)) (fun _ h_ => h_.1)))); (case side2 => exact (Kd.V_reads' HO196.out).2.1); rintro e w13 ⟨v201, rfl, ho0, hb⟩; refine ⟨_, rfl, ?_⟩; have n0_ := Aside0.mk (Kd.V_elder' (by (with_reducible repeat (first | apply Kd.V_alloc | apply Kd.V_drewN | apply Kd.V_drew)); exact (Kd.V_mono (Kd.V_far (p := ⟨gb199, 2, none⟩) (Kd.V_far (p := ⟨gb199, 1, none⟩) (Kd.V_far (p := ⟨gb199, 0, none⟩) (Kd.V_mono HO196.out (fun k_ hk => (⟨hk, hk.2⟩ : _ ∧ k_ ≠ gb199))) (fun _ hk => hk.2) (.string t193)) (fun _ hk => hk.2) (.slice Ao12 t194.length co12)) (fun _ hk => hk.2) (.int .i64 t197)) (fun _ h_ => h_.1))) (Kd.R_base ho0) hb); have n1_ := Aside0.mk (Kd.R_lower ho0 (below_size (by repeat (first | (with_reducible first | exact HB.out | apply below_alloc | apply pw_below_drewN | apply below_drew1 | refine below_set ?_ GE192.out | refine below_set ?_ GE199.out) | exact HB.out)))); have n2_ := Aside0.mk (blk_below (g := gb192) (o := .cells #[.int .i64 0, .int .i64 0, .string (⟨#[]⟩ : ByteArray)] 25 (0, 0)) (by (with_reducible repeat (first | refine blk_drewN ?_ _ | refine blk_drew ?_ | refine blk_alloc ?_ _)); refine blk_far ?_ NB192_199.out _; (with_reducible repeat (first | refine blk_drewN ?_ _ | refine blk_drew ?_ | refine blk_alloc ?_ _)); refine blk_far ?_ NB192_199.out _; (with_reducible repeat (first | refine blk_drewN ?_ _ | refine blk_drew ?_ | refine blk_alloc ?_ _)); refine blk_far ?_ NB192_199.out _; (with_reducible repeat (first | refine blk_drewN ?_ _ | refine blk_drew ?_ | refine blk_alloc ?_ _)); exact BK192.out) hb); have n3_ := Aside0.mk (blk_below (g := gb199) (o := .cells #[.string t193, .slice Ao12 t194.length co12, .int .i64 t197] 30 (0, 0)) (by (with_reducible repeat (first | refine blk_drewN ?_ _ | refine blk_drew ?_ | refine blk_alloc ?_ _)); refine blk_put (cs := #[.string t193, .slice Ao12 t194.length co12, .int .i64 0]) ?_ 2 _ rfl; (with_reducible repeat (first | refine blk_drewN ?_ _ | refine blk_drew ?_ | refine blk_alloc ?_ _)); refine blk_put (cs := #[.string t193, .slice none 0 0, .int .i64 0]) ?_ 1 _ rfl; (with_reducible repeat (first | refine blk_drewN ?_ _ | refine blk_drew ?_ | refine blk_alloc ?_ _)); refine blk_put (cs := #[.string (⟨#[]⟩ : ByteArray), .slice none 0 0, .int .i64 0]) ?_ 0 _ rfl; (with_reducible repeat (first | refine blk_drewN ?_ _ | refine blk_drew ?_ | refine blk_alloc ?_ _)); exact BK199.out) hb); have n4_ := Aside0.mk (below_step (by repeat (first | (with_reducible first | exact HB.out | apply below_alloc | apply pw_below_drewN | apply below_drew1 | refine below_set ?_ GE192.out | refine below_set ?_ GE199.out) | exact HB.out)) hb); clear HO196; clear BK192; clear BK199; clear HB; have HO196 := n0_; have HO202 := n1_; have BK192 := n2_; have BK199 := n3_; have HB := n4_; clear n0_ n1_ n2_ n3_ n4_; (try clear hb); (try clear hb2); (try clear hk); (try clear hi); (try clear ho0); have hcz14_0 : w13.cell? ⟨gb199, 0, none⟩ = some (.string t193) := (blk_cell BK199.out 0).trans rfl; have hcz14_1 : w13.cell? ⟨gb199, 1, none⟩ = some (.slice Ao12 t194.length co12) := (blk_cell BK199.out 1).trans rfl; have hcz14_2 : w13.cell? ⟨gb199, 2, none⟩ = some (.int .i64 t197) := (blk_cell BK199.out 2).trans rfl; have hfz14_0 := blk_frozen BK199.out 0; have hfz14_1 := blk_frozen BK199.out 1; have hfz14_2 := blk_frozen BK199.out 2))
  go_loopg [33] k (fun kq v33 w' => ∃ (x33_1 : Int) (x193000_1 : Int) (x193001_1 : Int) (x193002_1 : ByteArray), v33 = .int .i64 x33_1 ∧ Aside0 (hauberkref04_Field.l0 kq a2 t200 (t194.length : Int) x33_1 t193 t194 t197 = some (r1, r2, r3, r4, r5)) ∧ Aside0 (kq ≤ k) ∧ Aside0 (Kd.R (Kd.int .i64) 3 w' w.heap.size (fun _ => True) v201 t200) ∧ Aside0 (Kd.V k32 32 w' w.heap.size (fun k_ => some k_ ≠ (v201 : Value).ownBlock ∧ k_ ≠ gb192 ∧ k_ ≠ gb199) (.slice Ao12 t194.length co12) t194) ∧ Aside0 (w'.heap[gb192]? = some (.cells #[.int .i64 x193000_1, .int .i64 x193001_1, .string x193002_1] 25 (0, 0))) ∧ Aside0 (w'.heap[gb199]? = some (.cells #[.string t193, (.slice Ao12 t194.length co12), .int .i64 t197] 30 (0, 0))) ∧ Aside0 (Below w.heap.size w w'))
  case atStart => exact ⟨(0), (0), (0), ((⟨#[]⟩ : ByteArray)), (by first | rfl | (simp; done) | (simp [*]; done)), H', ⟨Nat.le_refl _⟩, ⟨by (with_reducible repeat (first | apply Kd.R_alloc | apply Kd.R_drewN | apply Kd.R_drew)); exact HO202.out⟩, ⟨by (with_reducible repeat (first | apply Kd.V_alloc | apply Kd.V_drewN | apply Kd.V_drew)); exact Kd.V_mono HO196.out (fun _ hk => ⟨hk.2, ⟨hk.1.1, hk.1.2⟩⟩)⟩, ⟨by (with_reducible repeat (first | refine blk_drewN ?_ _ | refine blk_drew ?_ | refine blk_alloc ?_ _)); exact BK192.out⟩, ⟨by (with_reducible repeat (first | refine blk_drewN ?_ _ | refine blk_drew ?_ | refine blk_alloc ?_ _)); exact BK199.out⟩, ⟨by repeat (first | (with_reducible first | exact HB.out | apply below_alloc | apply pw_below_drewN | apply below_drew1 | refine below_set ?_ GE192.out | refine below_set ?_ GE199.out) | exact HB.out)⟩⟩
  case round =>
   clear H'
   try clear c1
   try clear p2
   try clear c5
   try clear c10
   try clear c11
   try clear c12
   try clear c14
   try clear hcz11_0
   try clear hcz11_1
   try clear hcz11_2
   try clear hcz14_0
   try clear hcz14_1
   try clear hcz14_2
   try clear hfz11_0
   try clear hfz11_1
   try clear hfz11_2
   try clear hfz14_0
   try clear hfz14_1
   try clear hfz14_2
   obtain ⟨x33_1, x193000_1, x193001_1, x193002_1, rfl, HA, HK1, HO_11, HO_200001, BK192, BK199, HB⟩ := hrel
   cases gk with
   | zero => exact absurd HA.out (by simp [hauberkref04_Field.l0])
   | succ k1 =>
    have H := HA.out
    clear HA
    simp only [hauberkref04_Field.l0] at H
    by_cases c15 : x33_1 < (t194.length : Int)
    ·rw [if_pos c15] at H
     have c15b0 : decide (x33_1 < (t194.length : Int)) = true := decide_eq_true c15
     clear c15
     by_cases c16 : 0 ≤ x33_1
     ·rw [if_pos c16] at H
      have c16b0 : decide (0 ≤ x33_1) = true := decide_eq_true c16
      clear c16
      by_cases c17 : x33_1 < (t194.length : Int)
      ·rw [if_pos c17] at H
       have c17b0 : decide (x33_1 < (t194.length : Int)) = true := decide_eq_true c17
       clear c17
       by_cases c18 : ((rd_T32 t194 x33_1).f0).toList = a2.toList
       ·rw [if_pos c18] at H
        have c18b0 : (((rd_T32 t194 x33_1).f0).toList == a2.toList) = true := beq_iff_eq.mpr c18
        have c18b1 : (((rd_T32 t194 x33_1).f0).toList != a2.toList) = false := bne_eq_false_iff_eq.mpr c18
        clear c18
        by_cases c19 : x33_1 < (t200.length : Int)
        ·rw [if_pos c19] at H
         have c19b0 : decide (x33_1 < (t200.length : Int)) = true := decide_eq_true c19
         clear c19
         simp only [Option.some.injEq, Prod.mk.injEq] at H
         obtain ⟨rfl, rfl, rfl, rfl, rfl⟩ := H
         have hnb20 := NB199_192.out
         have hnc20 := NB192_199.out
         have hcz21_0 : wr.cell? ⟨gb199, 0, none⟩ = some (.string t193) := (blk_cell BK199.out 0).trans rfl
         have hcz21_1 : wr.cell? ⟨gb199, 1, none⟩ = some (.slice Ao12 t194.length co12) := (blk_cell BK199.out 1).trans rfl
         have hcz21_2 : wr.cell? ⟨gb199, 2, none⟩ = some (.int .i64 t197) := (blk_cell BK199.out 2).trans rfl
         have hfz21_0 := blk_frozen BK199.out 0
         have hfz21_1 := blk_frozen BK199.out 1
         have hfz21_2 := blk_frozen BK199.out 2
         have p205 : 0 ≤ (x33_1 : Int) := of_decide_eq_true (by first | (with_reducible assumption) | assumption)
         have q205 : x33_1 < (t194.length : Int) := of_decide_eq_true (by first | (with_reducible assumption) | assumption)
         obtain ⟨ad205, e205, hx205_0, hx205_1, hx205_2, hx205_3, hx205_4⟩ := at_T32 (Kd.V_reads' HO_200001.out).2.2 x33_1 p205 q205
         cases e205
         replace p205 := eq_true p205
         replace q205 := eq_true q205
         try go_wp2
         have n0_ := Aside0.mk (Kd.R_drew HO_11.out)
         have n1_ := Aside0.mk (Kd.V_drew HO_200001.out)
         have n2_ := Aside0.mk (blk_drew BK192.out)
         have n3_ := Aside0.mk (blk_drew BK199.out)
         have n4_ := Aside0.mk (below_drew1 HB.out)
         clear HO_11
         clear HO_200001
         clear BK192
         clear BK199
         clear HB
         have HO_11 := n0_
         have HO_200001 := n1_
         have BK192 := n2_
         have BK199 := n3_
         have HB := n4_
         clear n0_ n1_ n2_ n3_ n4_
         have p206 : 0 ≤ (x33_1 : Int) := of_decide_eq_true (by first | (with_reducible assumption) | assumption)
         have q206 : x33_1 < (t194.length : Int) := of_decide_eq_true (by first | (with_reducible assumption) | assumption)
         obtain ⟨ad206, e206, hx206_0, hx206_1, hx206_2, hx206_3, hx206_4⟩ := at_T32 (Kd.V_reads' HO_200001.out).2.2 x33_1 p206 q206
         obtain rfl : ad205 = ad206 := (by injection e206)
         replace p206 := eq_true p206
         replace q206 := eq_true q206
         obtain ⟨Ao23, co23, eo23⟩ := Kd.R_slice HO_11.out
         (first | subst eo23 | (injection eo23 with f1_ f2_ f3_; have f4_ := f1_.symm; have f5_ := f3_.symm; clear f1_ f2_ f3_; subst f4_; subst f5_))
         have p207 : 0 ≤ (x33_1 : Int) := of_decide_eq_true (by first | (with_reducible assumption) | assumption)
         have q207 : x33_1 < (t200.length : Int) := of_decide_eq_true (by first | (with_reducible assumption) | assumption)
         obtain ⟨ad207, e207, hx207_0⟩ := Kd.at_int (Kd.R_reads' HO_11.out).2.2 x33_1 p207 q207
         cases e207
         replace p207 := eq_true p207
         replace q207 := eq_true q207
         refine start_ (n := 13) (S := fun w' => w'.cell? ⟨gb199, 0, none⟩ = some (.string t193) ∧ w'.cell? ⟨gb199, 1, none⟩ = some (.slice (some ad205) t194.length co12) ∧ w'.cell? ⟨gb199, 2, none⟩ = some (.int .i64 t197) ∧ w'.cell? (ad205.add ((x33_1).toNat * 5)) = some (.string ((rd_T32 t194 x33_1).f0)) ∧ w'.cell? ⟨(ad205.add ((x33_1).toNat * 5)).block, (ad205.add ((x33_1).toNat * 5)).off + 1, none⟩ = some (.int .i64 ((rd_T32 t194 x33_1).f1.f0)) ∧ w'.cell? ⟨(ad205.add ((x33_1).toNat * 5)).block, (ad205.add ((x33_1).toNat * 5)).off + 2, none⟩ = some (.int .i64 ((rd_T32 t194 x33_1).f1.f1)) ∧ w'.cell? ⟨(ad205.add ((x33_1).toNat * 5)).block, (ad205.add ((x33_1).toNat * 5)).off + 3, none⟩ = some (.string ((rd_T32 t194 x33_1).f1.f2)) ∧ w'.cell? ⟨(ad205.add ((x33_1).toNat * 5)).block, (ad205.add ((x33_1).toNat * 5)).off + 4, none⟩ = some (.int .i64 ((rd_T32 t194 x33_1).f2)) ∧ w'.cell? (ad207.add (x33_1).toNat) = some (.int .i64 (rd t200 x33_1))) (ds := []) #[false, false, false, false, false, false, false, false, false, false, false, false, false] (by kernel_rfl) rfl rfl ⟨(blk_cell BK199.out 0).trans rfl, (blk_cell BK199.out 1).trans rfl, (blk_cell BK199.out 2).trans rfl, hx206_0, hx206_1, hx206_2, hx206_3, hx206_4, hx207_0⟩ (fun hHeld => ?_); refine with_tabW hauberkref04_Field.tab9 hauberkref04_Field.bits9 (fun HT_ HW_ => ?_)
         generalize wr.drew = w22 at HO_11 HO_200001 BK192 BK199 HB hx206_0 hx206_1 hx206_2 hx206_3 hx206_4 hx207_0 hHeld ⊢
         refine pure_ (i := 0) (N := some 44) (v := ?_) (a' := ?_) #[true, false, false, false, false, false, false, false, false, false, false, false, false] rfl rfl (any_of HT_.out (by kernel_rfl)) (fun _ _ _ h => h) (Or.inl ⟨by rfl, ?_⟩) ?_ ?_
         rotate_left
         ·intro w'
          go_simp
          with_reducible rfl
         rotate_left
         ·simp only [Act.put, List.setIfInBounds_toArray, List.set_cons_zero, List.set_cons_succ, i64_w, i32_w]
          rfl
         refine pure_ (i := 2) (N := some 46) (v := ?_) (a' := ?_) #[true, false, true, false, false, false, false, false, false, false, false, false, false] rfl rfl (any_of HT_.out (by kernel_rfl)) (fun _ _ _ h => h) (Or.inl ⟨by rfl, ?_⟩) ?_ ?_
         rotate_left
         ·intro w'
          go_simp
          with_reducible rfl
         rotate_left
         ·simp only [Act.put, List.setIfInBounds_toArray, List.set_cons_zero, List.set_cons_succ, i64_w, i32_w]
          rfl
         refine pure_ (i := 6) (N := some 50) (v := ?_) (a' := ?_) #[true, false, true, false, false, false, true, false, false, false, false, false, false] rfl rfl (any_of HT_.out (by kernel_rfl)) (fun _ _ _ h => h) (Or.inl ⟨by rfl, ?_⟩) ?_ ?_
         rotate_left
         ·intro w'
          go_simp
          with_reducible rfl
         rotate_left
         ·simp only [Act.put, List.setIfInBounds_toArray, List.set_cons_zero, List.set_cons_succ, i64_w, i32_w]
          rfl
         refine pure_ (i := 7) (N := some 51) (v := ?_) (a' := ?_) #[true, false, true, false, false, false, true, true, false, false, false, false, false] rfl rfl (any_of HT_.out (by kernel_rfl)) (fun _ _ _ h => h) (Or.inl ⟨by rfl, ?_⟩) ?_ ?_
         rotate_left
         ·intro w'
          go_simp
          with_reducible rfl
         rotate_left
         ·simp only [Act.put, List.setIfInBounds_toArray, List.set_cons_zero, List.set_cons_succ, i64_w, i32_w]
          rfl
         refine pure_ (i := 8) (N := some 52) (v := ?_) (a' := ?_) #[true, false, true, false, false, false, true, true, true, false, false, false, false] rfl rfl (any_of HT_.out (by kernel_rfl)) (fun _ _ _ h => h) (Or.inl ⟨by rfl, ?_⟩) ?_ ?_
         rotate_left
         ·intro w'
          go_simp
          with_reducible rfl
         rotate_left
         ·simp only [Act.put, List.setIfInBounds_toArray, List.set_cons_zero, List.set_cons_succ, i64_w, i32_w]
          rfl
         refine take_ (i := 1) (N := some 45) (v := ?_) (a' := ?_) #[true, true, true, false, false, false, true, true, true, false, false, false, false] rfl rfl (take_ofW HT_.out HW_.out (by kernel_rfl)) (fun _ _ _ h => h) (Or.inl ⟨by rfl, ?_⟩) hHeld ?_ ?_
         rotate_left
         ·rintro w' ⟨s0, s1, s2, s3, s4, s5, s6, s7, s8⟩
          go_simp
          with_reducible rfl
         rotate_left
         ·simp only [Act.put, List.setIfInBounds_toArray, List.set_cons_zero, List.set_cons_succ, i64_w, i32_w]
          rfl
         refine pure_ (i := 3) (N := some 47) (v := ?_) (a' := ?_) #[true, true, true, true, false, false, true, true, true, false, false, false, false] rfl rfl (any_of HT_.out (by kernel_rfl)) (fun _ _ _ h => h) (Or.inl ⟨by rfl, ?_⟩) ?_ ?_
         rotate_left
         ·intro w'
          go_simp
          with_reducible rfl
         rotate_left
         ·simp only [Act.put, List.setIfInBounds_toArray, List.set_cons_zero, List.set_cons_succ, i64_w, i32_w]
          rfl
         refine pure_ (i := 4) (N := some 48) (v := ?_) (a' := ?_) #[true, true, true, true, true, false, true, true, true, false, false, false, false] rfl rfl (any_of HT_.out (by kernel_rfl)) (fun _ _ _ h => h) (Or.inl ⟨by rfl, ?_⟩) ?_ ?_
         rotate_left
         ·intro w'
          go_simp
          with_reducible rfl
         rotate_left
         ·simp only [Act.put, List.setIfInBounds_toArray, List.set_cons_zero, List.set_cons_succ, i64_w, i32_w]
          rfl
         refine take_ (i := 5) (N := some 49) (v := ?_) (a' := ?_) #[true, true, true, true, true, true, true, true, true, false, false, false, false] rfl rfl (take_ofW HT_.out HW_.out (by kernel_rfl)) (fun _ _ _ h => h) (Or.inl ⟨by rfl, ?_⟩) hHeld ?_ ?_
         rotate_left
         ·rintro w' ⟨s0, s1, s2, s3, s4, s5, s6, s7, s8⟩
          go_simp
          with_reducible rfl
         rotate_left
         ·simp only [Act.put, List.setIfInBounds_toArray, List.set_cons_zero, List.set_cons_succ, i64_w, i32_w]
          rfl
         refine take_ (i := 9) (N := some 53) (v := ?_) (a' := ?_) #[true, true, true, true, true, true, true, true, true, true, false, false, false] rfl rfl (take_ofW HT_.out HW_.out (by kernel_rfl)) (fun _ _ _ h => h) (Or.inl ⟨by rfl, ?_⟩) hHeld ?_ ?_
         rotate_left
         ·rintro w' ⟨s0, s1, s2, s3, s4, s5, s6, s7, s8⟩
          go_simp
          with_reducible rfl
         rotate_left
         ·simp only [Act.put, List.setIfInBounds_toArray, List.set_cons_zero, List.set_cons_succ, i64_w, i32_w]
          rfl
         refine one_ (i := 10) (N := none) #[true, true, true, true, true, true, true, true, true, true, true, false, false] rfl rfl (one_of HT_.out (by kernel_rfl)) (by decide) (fun K hK => ?_)
         have hs24 : w22.cell? ⟨gb192, 0, none⟩ = some (.int .i64 x193000_1) := (blk_cell BK192.out 0).trans rfl
         have hfs24 := blk_frozen BK192.out 0
         have hns24_1 := NB199_192.out
         have hms24_1 := NB192_199.out
         have hs25 : w22.cell? ⟨gb192, 1, none⟩ = some (.int .i64 x193001_1) := (blk_cell BK192.out 1).trans rfl
         have hfs25 := blk_frozen BK192.out 1
         have hns25_1 := NB199_192.out
         have hms25_1 := NB192_199.out
         have hs26 : w22.cell? ⟨gb192, 2, none⟩ = some (.string x193002_1) := (blk_cell BK192.out 2).trans rfl
         have hfs26 := blk_frozen BK192.out 2
         have hns26_1 := NB199_192.out
         have hms26_1 := NB192_199.out
         refine skip_ (w1 := ?_) (by rfl) rfl ?_ ?_
         rotate_left
         ·go_simp
          rfl
         refine hK.out _ _ ⟨((cell_far (p := ⟨gb192, _, none⟩) NB199_192.out _).trans (((cell_far (p := ⟨gb192, _, none⟩) NB199_192.out _).trans (((cell_far (p := ⟨gb192, _, none⟩) NB199_192.out _).trans (hHeld.1)))))), ((cell_far (p := ⟨gb192, _, none⟩) NB199_192.out _).trans (((cell_far (p := ⟨gb192, _, none⟩) NB199_192.out _).trans (((cell_far (p := ⟨gb192, _, none⟩) NB199_192.out _).trans (hHeld.2.1)))))), ((cell_far (p := ⟨gb192, _, none⟩) NB199_192.out _).trans (((cell_far (p := ⟨gb192, _, none⟩) NB199_192.out _).trans (((cell_far (p := ⟨gb192, _, none⟩) NB199_192.out _).trans (hHeld.2.2.1)))))), ((cell_far (p := ⟨gb192, _, none⟩) (by first | exact V_blk HO_200001.out (fun _ hk => hk.2.1) (by decide) (of_eq_true p206) (of_eq_true q206) | (rw [add_block]; exact V_blk HO_200001.out (fun _ hk => hk.2.1) (by decide) (of_eq_true p206) (of_eq_true q206)) | (show (Addr.add _ _).block ≠ _; rw [add_block]; exact V_blk HO_200001.out (fun _ hk => hk.2.1) (by decide) (of_eq_true p206) (of_eq_true q206)) | (dsimp only; exact V_blk HO_200001.out (fun _ hk => hk.2.1) (by decide) (of_eq_true p206) (of_eq_true q206))) _).trans (((cell_far (p := ⟨gb192, _, none⟩) (by first | exact V_blk HO_200001.out (fun _ hk => hk.2.1) (by decide) (of_eq_true p206) (of_eq_true q206) | (rw [add_block]; exact V_blk HO_200001.out (fun _ hk => hk.2.1) (by decide) (of_eq_true p206) (of_eq_true q206)) | (show (Addr.add _ _).block ≠ _; rw [add_block]; exact V_blk HO_200001.out (fun _ hk => hk.2.1) (by decide) (of_eq_true p206) (of_eq_true q206)) | (dsimp only; exact V_blk HO_200001.out (fun _ hk => hk.2.1) (by decide) (of_eq_true p206) (of_eq_true q206))) _).trans (((cell_far (p := ⟨gb192, _, none⟩) (by first | exact V_blk HO_200001.out (fun _ hk => hk.2.1) (by decide) (of_eq_true p206) (of_eq_true q206) | (rw [add_block]; exact V_blk HO_200001.out (fun _ hk => hk.2.1) (by decide) (of_eq_true p206) (of_eq_true q206)) | (show (Addr.add _ _).block ≠ _; rw [add_block]; exact V_blk HO_200001.out (fun _ hk => hk.2.1) (by decide) (of_eq_true p206) (of_eq_true q206)) | (dsimp only; exact V_blk HO_200001.out (fun _ hk => hk.2.1) (by decide) (of_eq_true p206) (of_eq_true q206))) _).trans (hHeld.2.2.2.1)))))), ((cell_far (p := ⟨gb192, _, none⟩) (by first | exact V_blk HO_200001.out (fun _ hk => hk.2.1) (by decide) (of_eq_true p206) (of_eq_true q206) | (rw [add_block]; exact V_blk HO_200001.out (fun _ hk => hk.2.1) (by decide) (of_eq_true p206) (of_eq_true q206)) | (show (Addr.add _ _).block ≠ _; rw [add_block]; exact V_blk HO_200001.out (fun _ hk => hk.2.1) (by decide) (of_eq_true p206) (of_eq_true q206)) | (dsimp only; exact V_blk HO_200001.out (fun _ hk => hk.2.1) (by decide) (of_eq_true p206) (of_eq_true q206))) _).trans (((cell_far (p := ⟨gb192, _, none⟩) (by first | exact V_blk HO_200001.out (fun _ hk => hk.2.1) (by decide) (of_eq_true p206) (of_eq_true q206) | (rw [add_block]; exact V_blk HO_200001.out (fun _ hk => hk.2.1) (by decide) (of_eq_true p206) (of_eq_true q206)) | (show (Addr.add _ _).block ≠ _; rw [add_block]; exact V_blk HO_200001.out (fun _ hk => hk.2.1) (by decide) (of_eq_true p206) (of_eq_true q206)) | (dsimp only; exact V_blk HO_200001.out (fun _ hk => hk.2.1) (by decide) (of_eq_true p206) (of_eq_true q206))) _).trans (((cell_far (p := ⟨gb192, _, none⟩) (by first | exact V_blk HO_200001.out (fun _ hk => hk.2.1) (by decide) (of_eq_true p206) (of_eq_true q206) | (rw [add_block]; exact V_blk HO_200001.out (fun _ hk => hk.2.1) (by decide) (of_eq_true p206) (of_eq_true q206)) | (show (Addr.add _ _).block ≠ _; rw [add_block]; exact V_blk HO_200001.out (fun _ hk => hk.2.1) (by decide) (of_eq_true p206) (of_eq_true q206)) | (dsimp only; exact V_blk HO_200001.out (fun _ hk => hk.2.1) (by decide) (of_eq_true p206) (of_eq_true q206))) _).trans (hHeld.2.2.2.2.1)))))), ((cell_far (p := ⟨gb192, _, none⟩) (by first | exact V_blk HO_200001.out (fun _ hk => hk.2.1) (by decide) (of_eq_true p206) (of_eq_true q206) | (rw [add_block]; exact V_blk HO_200001.out (fun _ hk => hk.2.1) (by decide) (of_eq_true p206) (of_eq_true q206)) | (show (Addr.add _ _).block ≠ _; rw [add_block]; exact V_blk HO_200001.out (fun _ hk => hk.2.1) (by decide) (of_eq_true p206) (of_eq_true q206)) | (dsimp only; exact V_blk HO_200001.out (fun _ hk => hk.2.1) (by decide) (of_eq_true p206) (of_eq_true q206))) _).trans (((cell_far (p := ⟨gb192, _, none⟩) (by first | exact V_blk HO_200001.out (fun _ hk => hk.2.1) (by decide) (of_eq_true p206) (of_eq_true q206) | (rw [add_block]; exact V_blk HO_200001.out (fun _ hk => hk.2.1) (by decide) (of_eq_true p206) (of_eq_true q206)) | (show (Addr.add _ _).block ≠ _; rw [add_block]; exact V_blk HO_200001.out (fun _ hk => hk.2.1) (by decide) (of_eq_true p206) (of_eq_true q206)) | (dsimp only; exact V_blk HO_200001.out (fun _ hk => hk.2.1) (by decide) (of_eq_true p206) (of_eq_true q206))) _).trans (((cell_far (p := ⟨gb192, _, none⟩) (by first | exact V_blk HO_200001.out (fun _ hk => hk.2.1) (by decide) (of_eq_true p206) (of_eq_true q206) | (rw [add_block]; exact V_blk HO_200001.out (fun _ hk => hk.2.1) (by decide) (of_eq_true p206) (of_eq_true q206)) | (show (Addr.add _ _).block ≠ _; rw [add_block]; exact V_blk HO_200001.out (fun _ hk => hk.2.1) (by decide) (of_eq_true p206) (of_eq_true q206)) | (dsimp only; exact V_blk HO_200001.out (fun _ hk => hk.2.1) (by decide) (of_eq_true p206) (of_eq_true q206))) _).trans (hHeld.2.2.2.2.2.1)))))), ((cell_far (p := ⟨gb192, _, none⟩) (by first | exact V_blk HO_200001.out (fun _ hk => hk.2.1) (by decide) (of_eq_true p206) (of_eq_true q206) | (rw [add_block]; exact V_blk HO_200001.out (fun _ hk => hk.2.1) (by decide) (of_eq_true p206) (of_eq_true q206)) | (show (Addr.add _ _).block ≠ _; rw [add_block]; exact V_blk HO_200001.out (fun _ hk => hk.2.1) (by decide) (of_eq_true p206) (of_eq_true q206)) | (dsimp only; exact V_blk HO_200001.out (fun _ hk => hk.2.1) (by decide) (of_eq_true p206) (of_eq_true q206))) _).trans (((cell_far (p := ⟨gb192, _, none⟩) (by first | exact V_blk HO_200001.out (fun _ hk => hk.2.1) (by decide) (of_eq_true p206) (of_eq_true q206) | (rw [add_block]; exact V_blk HO_200001.out (fun _ hk => hk.2.1) (by decide) (of_eq_true p206) (of_eq_true q206)) | (show (Addr.add _ _).block ≠ _; rw [add_block]; exact V_blk HO_200001.out (fun _ hk => hk.2.1) (by decide) (of_eq_true p206) (of_eq_true q206)) | (dsimp only; exact V_blk HO_200001.out (fun _ hk => hk.2.1) (by decide) (of_eq_true p206) (of_eq_true q206))) _).trans (((cell_far (p := ⟨gb192, _, none⟩) (by first | exact V_blk HO_200001.out (fun _ hk => hk.2.1) (by decide) (of_eq_true p206) (of_eq_true q206) | (rw [add_block]; exact V_blk HO_200001.out (fun _ hk => hk.2.1) (by decide) (of_eq_true p206) (of_eq_true q206)) | (show (Addr.add _ _).block ≠ _; rw [add_block]; exact V_blk HO_200001.out (fun _ hk => hk.2.1) (by decide) (of_eq_true p206) (of_eq_true q206)) | (dsimp only; exact V_blk HO_200001.out (fun _ hk => hk.2.1) (by decide) (of_eq_true p206) (of_eq_true q206))) _).trans (hHeld.2.2.2.2.2.2.1)))))), ((cell_far (p := ⟨gb192, _, none⟩) (by first | exact V_blk HO_200001.out (fun _ hk => hk.2.1) (by decide) (of_eq_true p206) (of_eq_true q206) | (rw [add_block]; exact V_blk HO_200001.out (fun _ hk => hk.2.1) (by decide) (of_eq_true p206) (of_eq_true q206)) | (show (Addr.add _ _).block ≠ _; rw [add_block]; exact V_blk HO_200001.out (fun _ hk => hk.2.1) (by decide) (of_eq_true p206) (of_eq_true q206)) | (dsimp only; exact V_blk HO_200001.out (fun _ hk => hk.2.1) (by decide) (of_eq_true p206) (of_eq_true q206))) _).trans (((cell_far (p := ⟨gb192, _, none⟩) (by first | exact V_blk HO_200001.out (fun _ hk => hk.2.1) (by decide) (of_eq_true p206) (of_eq_true q206) | (rw [add_block]; exact V_blk HO_200001.out (fun _ hk => hk.2.1) (by decide) (of_eq_true p206) (of_eq_true q206)) | (show (Addr.add _ _).block ≠ _; rw [add_block]; exact V_blk HO_200001.out (fun _ hk => hk.2.1) (by decide) (of_eq_true p206) (of_eq_true q206)) | (dsimp only; exact V_blk HO_200001.out (fun _ hk => hk.2.1) (by decide) (of_eq_true p206) (of_eq_true q206))) _).trans (((cell_far (p := ⟨gb192, _, none⟩) (by first | exact V_blk HO_200001.out (fun _ hk => hk.2.1) (by decide) (of_eq_true p206) (of_eq_true q206) | (rw [add_block]; exact V_blk HO_200001.out (fun _ hk => hk.2.1) (by decide) (of_eq_true p206) (of_eq_true q206)) | (show (Addr.add _ _).block ≠ _; rw [add_block]; exact V_blk HO_200001.out (fun _ hk => hk.2.1) (by decide) (of_eq_true p206) (of_eq_true q206)) | (dsimp only; exact V_blk HO_200001.out (fun _ hk => hk.2.1) (by decide) (of_eq_true p206) (of_eq_true q206))) _).trans (hHeld.2.2.2.2.2.2.2.1)))))), ((cell_far (p := ⟨gb192, _, none⟩) (by first | exact Kd.own_blk (Kd.R_ne HO_11.out BK192.out (by decide)) | (rw [add_block]; exact Kd.own_blk (Kd.R_ne HO_11.out BK192.out (by decide))) | (show (Addr.add _ _).block ≠ _; rw [add_block]; exact Kd.own_blk (Kd.R_ne HO_11.out BK192.out (by decide))) | (dsimp only; exact Kd.own_blk (Kd.R_ne HO_11.out BK192.out (by decide)))) _).trans (((cell_far (p := ⟨gb192, _, none⟩) (by first | exact Kd.own_blk (Kd.R_ne HO_11.out BK192.out (by decide)) | (rw [add_block]; exact Kd.own_blk (Kd.R_ne HO_11.out BK192.out (by decide))) | (show (Addr.add _ _).block ≠ _; rw [add_block]; exact Kd.own_blk (Kd.R_ne HO_11.out BK192.out (by decide))) | (dsimp only; exact Kd.own_blk (Kd.R_ne HO_11.out BK192.out (by decide)))) _).trans (((cell_far (p := ⟨gb192, _, none⟩) (by first | exact Kd.own_blk (Kd.R_ne HO_11.out BK192.out (by decide)) | (rw [add_block]; exact Kd.own_blk (Kd.R_ne HO_11.out BK192.out (by decide))) | (show (Addr.add _ _).block ≠ _; rw [add_block]; exact Kd.own_blk (Kd.R_ne HO_11.out BK192.out (by decide))) | (dsimp only; exact Kd.own_blk (Kd.R_ne HO_11.out BK192.out (by decide)))) _).trans (hHeld.2.2.2.2.2.2.2.2))))))⟩ (fun hHeld => ?_)
         clear hK K
         refine pure_ (i := 11) (N := some 7) (v := ?_) (a' := ?_) #[true, true, true, true, true, true, true, true, true, true, true, true, false] rfl rfl (any_of HT_.out (by kernel_rfl)) (fun _ _ _ h => h) (Or.inl ⟨by rfl, ?_⟩) ?_ ?_
         rotate_left
         ·intro w'
          go_simp
          with_reducible rfl
         rotate_left
         ·simp only [Act.put, List.setIfInBounds_toArray, List.set_cons_zero, List.set_cons_succ, i64_w, i32_w]
          rfl
         refine pure_ (i := 12) (N := some 8) (v := ?_) (a' := ?_) #[true, true, true, true, true, true, true, true, true, true, true, true, true] rfl rfl (any_of HT_.out (by kernel_rfl)) (fun _ _ _ h => h) (Or.inl ⟨by rfl, ?_⟩) ?_ ?_
         rotate_left
         ·intro w'
          go_simp
          with_reducible rfl
         rotate_left
         ·simp only [Act.put, List.setIfInBounds_toArray, List.set_cons_zero, List.set_cons_succ, i64_w, i32_w]
          rfl
         refine done_ (done_of HT_.out (by kernel_rfl)) ?_
         try go_wp2
         refine bodyPost_ret (results_ctt rfl _ _ gb192 25 #[.int .i64 ((rd_T32 t194 x33_1).f1.f0), .int .i64 ((rd_T32 t194 x33_1).f1.f1), .string ((rd_T32 t194 x33_1).f1.f2)] (0, 0) _ rfl (by (with_reducible repeat (first | refine blk_drewN ?_ _ | refine blk_drew ?_ | refine blk_alloc ?_ _)); refine blk_put (cs := #[.int .i64 ((rd_T32 t194 x33_1).f1.f0), .int .i64 ((rd_T32 t194 x33_1).f1.f1), .string x193002_1]) ?_ 2 _ rfl; (with_reducible repeat (first | refine blk_drewN ?_ _ | refine blk_drew ?_ | refine blk_alloc ?_ _)); refine blk_put (cs := #[.int .i64 ((rd_T32 t194 x33_1).f1.f0), .int .i64 x193001_1, .string x193002_1]) ?_ 1 _ rfl; (with_reducible repeat (first | refine blk_drewN ?_ _ | refine blk_drew ?_ | refine blk_alloc ?_ _)); refine blk_put (cs := #[.int .i64 x193000_1, .int .i64 x193001_1, .string x193002_1]) ?_ 0 _ rfl; (with_reducible repeat (first | refine blk_drewN ?_ _ | refine blk_drew ?_ | refine blk_alloc ?_ _)); exact BK192.out) Try.underlying25 rfl (by kernel_rfl)) rfl ?_
         exact ⟨by first | rfl | (simp [errW_none, errW_some] <;> rfl) | (simp [*, errW_none, errW_some] <;> rfl), by repeat (first | (with_reducible first | exact HB.out | apply below_alloc | apply pw_below_drewN | apply below_drew1 | refine below_set ?_ GE192.out | refine below_set ?_ GE199.out) | exact HB.out)⟩
        ·rw [if_neg c19] at H
         exact absurd H (by simp)
       ·rw [if_neg c18] at H
        have c18b0 : (((rd_T32 t194 x33_1).f0).toList == a2.toList) = false := beq_eq_false_iff_ne.mpr c18
        have c18b1 : (((rd_T32 t194 x33_1).f0).toList != a2.toList) = true := bne_iff_ne.mpr c18
        have H' := Aside0.mk H
        clear H
        have hnb27 := NB199_192.out
        have hnc27 := NB192_199.out
        have hcz28_0 : wr.cell? ⟨gb199, 0, none⟩ = some (.string t193) := (blk_cell BK199.out 0).trans rfl
        have hcz28_1 : wr.cell? ⟨gb199, 1, none⟩ = some (.slice Ao12 t194.length co12) := (blk_cell BK199.out 1).trans rfl
        have hcz28_2 : wr.cell? ⟨gb199, 2, none⟩ = some (.int .i64 t197) := (blk_cell BK199.out 2).trans rfl
        have hfz28_0 := blk_frozen BK199.out 0
        have hfz28_1 := blk_frozen BK199.out 1
        have hfz28_2 := blk_frozen BK199.out 2
        have p205 : 0 ≤ (x33_1 : Int) := of_decide_eq_true (by first | (with_reducible assumption) | assumption)
        have q205 : x33_1 < (t194.length : Int) := of_decide_eq_true (by first | (with_reducible assumption) | assumption)
        obtain ⟨ad205, e205, hx205_0, hx205_1, hx205_2, hx205_3, hx205_4⟩ := at_T32 (Kd.V_reads' HO_200001.out).2.2 x33_1 p205 q205
        cases e205
        replace p205 := eq_true p205
        replace q205 := eq_true q205
        go_wp2
        go_roundg k1
        case measure => have := HK1.out; omega
        case rel => exact ⟨(wrap64 (x33_1 + 1)), (x193000_1), (x193001_1), (x193002_1), (by first | rfl | (simp; done) | (simp [*]; done)), H', ⟨by have := HK1.out; omega⟩, ⟨by (with_reducible repeat (first | apply Kd.R_alloc | apply Kd.R_drewN | apply Kd.R_drew)); exact HO_11.out⟩, ⟨by (with_reducible repeat (first | apply Kd.V_alloc | apply Kd.V_drewN | apply Kd.V_drew)); exact HO_200001.out⟩, ⟨by (with_reducible repeat (first | refine blk_drewN ?_ _ | refine blk_drew ?_ | refine blk_alloc ?_ _)); exact BK192.out⟩, ⟨by (with_reducible repeat (first | refine blk_drewN ?_ _ | refine blk_drew ?_ | refine blk_alloc ?_ _)); exact BK199.out⟩, ⟨by repeat (first | (with_reducible first | exact HB.out | apply below_alloc | apply pw_below_drewN | apply below_drew1 | refine below_set ?_ GE192.out | refine below_set ?_ GE199.out) | exact HB.out)⟩⟩
      ·rw [if_neg c17] at H
       exact absurd H (by simp)
     ·rw [if_neg c16] at H
      exact absurd H (by simp)
    ·rw [if_neg c15] at H
     have c15b0 : decide (x33_1 < (t194.length : Int)) = false := decide_eq_false c15
     clear c15
     simp only [Option.some.injEq, Prod.mk.injEq] at H
     obtain ⟨rfl, rfl, rfl, rfl, rfl⟩ := H
     have hnb29 := NB192_199.out
     have hnc29 := NB199_192.out
     have hcz30_0 : wr.cell? ⟨gb192, 0, none⟩ = some (.int .i64 x193000_1) := (blk_cell BK192.out 0).trans rfl
     have hcz30_1 : wr.cell? ⟨gb192, 1, none⟩ = some (.int .i64 x193001_1) := (blk_cell BK192.out 1).trans rfl
     have hcz30_2 : wr.cell? ⟨gb192, 2, none⟩ = some (.string x193002_1) := (blk_cell BK192.out 2).trans rfl
     have hfz30_0 := blk_frozen BK192.out 0
     have hfz30_1 := blk_frozen BK192.out 1
     have hfz30_2 := blk_frozen BK192.out 2
     go_wp2
     refine bodyPost_ret (results_ctt rfl _ _ gb192 25 #[.int .i64 0, .int .i64 0, .string (⟨#[]⟩ : ByteArray)] (0, 0) _ rfl (by (with_reducible repeat (first | refine blk_drewN ?_ _ | refine blk_drew ?_ | refine blk_alloc ?_ _)); refine blk_put (cs := #[.int .i64 0, .int .i64 0, .string x193002_1]) ?_ 2 _ rfl; (with_reducible repeat (first | refine blk_drewN ?_ _ | refine blk_drew ?_ | refine blk_alloc ?_ _)); refine blk_put (cs := #[.int .i64 0, .int .i64 x193001_1, .string x193002_1]) ?_ 1 _ rfl; (with_reducible repeat (first | refine blk_drewN ?_ _ | refine blk_drew ?_ | refine blk_alloc ?_ _)); refine blk_put (cs := #[.int .i64 x193000_1, .int .i64 x193001_1, .string x193002_1]) ?_ 0 _ rfl; (with_reducible repeat (first | refine blk_drewN ?_ _ | refine blk_drew ?_ | refine blk_alloc ?_ _)); exact BK192.out) Try.underlying25 rfl (by kernel_rfl)) rfl ?_
     exact ⟨by first | rfl | (simp [errW_none, errW_some] <;> rfl) | (simp [*, errW_none, errW_some] <;> rfl), by repeat (first | (with_reducible first | exact HB.out | apply below_alloc | apply pw_below_drewN | apply below_drew1 | refine below_set ?_ GE192.out | refine below_set ?_ GE199.out) | exact HB.out)⟩
 ·replace c5 := Bool.eq_false_iff.mpr c5
  subst c5
  have H1 : (some (0, 0, (⟨#[]⟩ : ByteArray), 0, false)) = some (r1, r2, r3, r4, r5) := by rw [if_neg (show ¬ (false = true) by decide)] at H; exact H
  clear H
  have H := H1
  clear H1
  simp only [Option.some.injEq, Prod.mk.injEq] at H
  obtain ⟨rfl, rfl, rfl, rfl, rfl⟩ := H
  go_enter Try.func14, Try.ntmps14
  go_wp2_with (first | ((with_reducible refine gate_dst (N := 6) rfl ?_); refine box_event ?hg (N := 6) ?hd (cs := #[.int .i64 0, .int .i64 0, .string (⟨#[]⟩ : ByteArray)]) (t := 25) ?hr ?_; (case hd => rfl); (case hg => rfl); (case hr => first | (go_simp; done) | (go_simp; rfl)); intro gb192 hg w31 hbox hb; have n0_ := Aside0.mk (below_step (by repeat (first | (with_reducible first | exact HB.out | apply below_alloc | apply pw_below_drewN | apply below_drew1) | exact HB.out)) hb); have n1_ := Aside0.mk (hbox); have n2_ := Aside0.mk ((by rw [hg]; exact (below_size (by repeat (first | (with_reducible first | exact HB.out | apply below_alloc | apply pw_below_drewN | apply below_drew1) | exact HB.out))) : w.heap.size ≤ gb192)); have n3_ := Aside0.mk ((by rw [hg]; exact (below_size (by repeat (first | (with_reducible first | exact HB.out | apply below_alloc | apply pw_below_drewN | apply below_drew1) | exact HB.out))) : w.heap.size ≤ gb192)); clear HB; have HB := n0_; have BK192 := n1_; have GW192 := n2_; have GE192 := n3_; clear n0_ n1_ n2_ n3_; clear hb hbox hg) | ((with_reducible refine gate_callee (f := 11) rfl ?_); refine goesL_ (some 18) rfl rfl Try.func11 (by kernel_rfl) rfl #[.slice A0 l0.length c0, .string a1] rfl (by (try simp only [List.map_toArray, List.map_cons, List.map_nil]); first | done | rfl | (simp only [List.length_drop, List.length_take]; rfl)) ?_; (with_reducible refine (hauberkref04_Find.calls k (fun k_ => k_ < w.heap.size) _ _ l0 a1 t193 t194 t197 false _ ?side1 A4.out).mono ?_); (case side1 => exact Kd.V_mk HC0.out (Kd.F_below (Kd.C_F k30_heap HR0.out) (by repeat (first | (with_reducible first | exact HB.out | apply below_alloc | apply pw_below_drewN | apply below_drew1 | refine below_set ?_ GE192.out) | exact HB.out)))); rintro e w32 ⟨v195, rfl, ho0, hb⟩; refine ⟨_, rfl, ?_⟩; have n0_ := Aside0.mk (Kd.V_lower (Kd.V_mono (ok' := fun k_ => k_ ≠ gb192) ho0 (fun k_ hk_ => Or.elim hk_ (fun hs_ => fun e_ => Nat.not_le.2 hs_ (by rw [e_]; exact GW192.out)) (fun hn_ => (Kd.freshB (g := gb192) (o := .cells #[.int .i64 0, .int .i64 0, .string (⟨#[]⟩ : ByteArray)] 25 (0, 0)) (by (with_reducible repeat (first | refine blk_drewN ?_ _ | refine blk_drew ?_ | refine blk_alloc ?_ _)); exact BK192.out) k_ hn_)))) (below_size (by repeat (first | (with_reducible first | exact HB.out | apply below_alloc | apply pw_below_drewN | apply below_drew1 | refine below_set ?_ GE192.out) | exact HB.out)))); have n1_ := Aside0.mk (blk_below (g := gb192) (o := .cells #[.int .i64 0, .int .i64 0, .string (⟨#[]⟩ : ByteArray)] 25 (0, 0)) (by (with_reducible repeat (first | refine blk_drewN ?_ _ | refine blk_drew ?_ | refine blk_alloc ?_ _)); exact BK192.out) hb); have n2_ := Aside0.mk (below_step (by repeat (first | (with_reducible first | exact HB.out | apply below_alloc | apply pw_below_drewN | apply below_drew1 | refine below_set ?_ GE192.out) | exact HB.out)) hb); clear BK192; clear HB; have HO196 := n0_; have BK192 := n1_; have HB := n2_; clear n0_ n1_ n2_; (try clear hb); (try clear hb2); (try clear hk); (try clear hi); (try clear ho0)) | ((with_reducible refine gate_dst (N := 9) rfl ?_); refine box_event ?hg (N := 9) ?hd (cs := #[.string (⟨#[]⟩ : ByteArray), .slice none 0 0, .int .i64 0]) (t := 30) ?hr ?_; (case hd => rfl); (case hg => rfl); (case hr => first | (go_simp; done) | (go_simp; rfl)); intro gb199 hg w33 hbox hb; have n0_ := Aside0.mk (Kd.V_below (Kd.V_elderB (by (with_reducible repeat (first | apply Kd.V_alloc | apply Kd.V_drewN | apply Kd.V_drew)); exact HO196.out) gb199 (Nat.le_of_eq hg.symm)) hb); have n1_ := Aside0.mk (blk_below (g := gb192) (o := .cells #[.int .i64 0, .int .i64 0, .string (⟨#[]⟩ : ByteArray)] 25 (0, 0)) (by (with_reducible repeat (first | refine blk_drewN ?_ _ | refine blk_drew ?_ | refine blk_alloc ?_ _)); exact BK192.out) hb); have n2_ := Aside0.mk (below_step (by repeat (first | (with_reducible first | exact HB.out | apply below_alloc | apply pw_below_drewN | apply below_drew1 | refine below_set ?_ GE192.out) | exact HB.out)) hb); have n3_ := Aside0.mk (hbox); have n4_ := Aside0.mk ((by rw [hg]; exact (below_size (by repeat (first | (with_reducible first | exact HB.out | apply below_alloc | apply pw_below_drewN | apply below_drew1 | refine below_set ?_ GE192.out) | exact HB.out))) : w.heap.size ≤ gb199)); have n5_ := Aside0.mk ((by rw [hg]; exact (below_size (by repeat (first | (with_reducible first | exact HB.out | apply below_alloc | apply pw_below_drewN | apply below_drew1 | refine below_set ?_ GE192.out) | exact HB.out))) : w.heap.size ≤ gb199)); have n6_ := Aside0.mk ((by rw [hg]; exact Nat.ne_of_lt (blk_lt (g := gb192) (o := .cells #[.int .i64 0, .int .i64 0, .string (⟨#[]⟩ : ByteArray)] 25 (0, 0)) (by (with_reducible repeat (first | refine blk_drewN ?_ _ | refine blk_drew ?_ | refine blk_alloc ?_ _)); exact BK192.out)) : gb192 ≠ gb199)); have n7_ := Aside0.mk ((by rw [hg]; exact Nat.ne_of_gt (blk_lt (g := gb192) (o := .cells #[.int .i64 0, .int .i64 0, .string (⟨#[]⟩ : ByteArray)] 25 (0, 0)) (by (with_reducible repeat (first | refine blk_drewN ?_ _ | refine blk_drew ?_ | refine blk_alloc ?_ _)); exact BK192.out)) : gb199 ≠ gb192)); clear HO196; clear BK192; clear HB; have HO196 := n0_; have BK192 := n1_; have HB := n2_; have BK199 := n3_; have GW199 := n4_; have GE199 := n5_; have NB192_199 := n6_; have NB199_192 := n7_; clear n0_ n1_ n2_ n3_ n4_ n5_ n6_ n7_; clear hb hbox hg; have hnb34 := NB199_192.out; have hnc34 := NB192_199.out; have hcz35_0 : w33.cell? ⟨gb199, 0, none⟩ = some (.string (⟨#[]⟩ : ByteArray)) := (blk_cell BK199.out 0).trans rfl; have hcz35_1 : w33.cell? ⟨gb199, 1, none⟩ = some (.slice none 0 0) := (blk_cell BK199.out 1).trans rfl; have hcz35_2 : w33.cell? ⟨gb199, 2, none⟩ = some (.int .i64 0) := (blk_cell BK199.out 2).trans rfl; have hfz35_0 := blk_frozen BK199.out 0; have hfz35_1 := blk_frozen BK199.out 1; have hfz35_2 := blk_frozen BK199.out 2; obtain ⟨Ao36, co36, eo36⟩ := Kd.V_slice HO196.out; subst eo36; have hcz37_0 : w33.cell? ⟨gb192, 0, none⟩ = some (.int .i64 0) := (blk_cell BK192.out 0).trans rfl; have hcz37_1 : w33.cell? ⟨gb192, 1, none⟩ = some (.int .i64 0) := (blk_cell BK192.out 1).trans rfl; have hcz37_2 : w33.cell? ⟨gb192, 2, none⟩ = some (.string (⟨#[]⟩ : ByteArray)) := (blk_cell BK192.out 2).trans rfl; have hfz37_0 := blk_frozen BK192.out 0; have hfz37_1 := blk_frozen BK192.out 1; have hfz37_2 := blk_frozen BK192.out 2))
  refine bodyPost_ret (results_ctt rfl _ _ gb192 25 #[.int .i64 0, .int .i64 0, .string (⟨#[]⟩ : ByteArray)] (0, 0) _ rfl (by (with_reducible repeat (first | refine blk_drewN ?_ _ | refine blk_drew ?_ | refine blk_alloc ?_ _)); refine blk_put (cs := #[.int .i64 0, .int .i64 0, .string (⟨#[]⟩ : ByteArray)]) ?_ 2 _ rfl; (with_reducible repeat (first | refine blk_drewN ?_ _ | refine blk_drew ?_ | refine blk_alloc ?_ _)); refine blk_put (cs := #[.int .i64 0, .int .i64 0, .string (⟨#[]⟩ : ByteArray)]) ?_ 1 _ rfl; (with_reducible repeat (first | refine blk_drewN ?_ _ | refine blk_drew ?_ | refine blk_alloc ?_ _)); refine blk_put (cs := #[.int .i64 0, .int .i64 0, .string (⟨#[]⟩ : ByteArray)]) ?_ 0 _ rfl; (with_reducible repeat (first | refine blk_drewN ?_ _ | refine blk_drew ?_ | refine blk_alloc ?_ _)); refine blk_far ?_ NB192_199.out _; (with_reducible repeat (first | refine blk_drewN ?_ _ | refine blk_drew ?_ | refine blk_alloc ?_ _)); refine blk_far ?_ NB192_199.out _; (with_reducible repeat (first | refine blk_drewN ?_ _ | refine blk_drew ?_ | refine blk_alloc ?_ _)); refine blk_far ?_ NB192_199.out _; (with_reducible repeat (first | refine blk_drewN ?_ _ | refine blk_drew ?_ | refine blk_alloc ?_ _)); exact BK192.out) Try.underlying25 rfl (by kernel_rfl)) rfl ?_
  exact ⟨by first | rfl | (simp [errW_none, errW_some] <;> rfl) | (simp [*, errW_none, errW_some] <;> rfl), by repeat (first | (with_reducible first | exact HB.out | apply below_alloc | apply pw_below_drewN | apply below_drew1 | refine below_set ?_ GE192.out | refine below_set ?_ GE199.out) | exact HB.out)⟩

end Go.Proofs.Ytgpdopfkkopgjaa.K
