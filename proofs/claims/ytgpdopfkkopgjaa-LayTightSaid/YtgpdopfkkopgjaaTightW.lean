/- The law LayTight answers true: the walk of its Go text. Conditions: those of each theorem. -/
import Derived.Test.YtgpdopfkkopgjaaK8
import Derived.Test.YtgpdopfkkopgjaaPureTight
namespace Go.Proofs.Ytgpdopfkkopgjaa.K
open Go.RowKit Go.Proofs.YtgpdopfkkopgjaaW.PrintWords Go.Proofs.YtgpdopfkkopgjaaW.PrintLast Go.Proofs.YtgpdopfkkopgjaaW.PrintMore Go.Proofs.Ytgpdopfkkopgjaa.EvLib
set_option linter.unusedVariables false
set_option linter.unusedSimpArgs false
set_option linter.unusedSectionVars false
attribute [local go_sem] max2_int min2_int max_two min_two max_three min_three max_four min_four   -- for this text's walks alone
theorem tg_setRow {w : World} {g : Nat} {old cs : Array Value} {t : TypeId} (h : w.heap[g]? = some (.cells old t (0, 0))) : (w.setRow g cs).heap[g]? = some (.cells cs t (0, 0)) := setRow_heap w g old cs t _ h
theorem tg_setRow_ne {w : World} {g k : Nat} {cs : Array Value} (h : k ≠ g) : (w.setRow g cs).heap[k]? = w.heap[k]? := by
  show (w.heap.modify g _)[k]? = _
  rw [Array.getElem?_modify, if_neg (fun e => h e.symm)]
theorem tg_setRow_below {B : Nat} {w0 w : World} {g : Nat} {cs : Array Value} (h : Below B w0 w) (hg : B ≤ g) : Below B w0 (w.setRow g cs) :=
  ⟨h.os, h.tape, h.output, by show _ ≤ (w.heap.modify g _).size; rw [Array.size_modify]; exact h.size, fun k hk => (tg_setRow_ne (by omega)).trans (h.block k hk)⟩
theorem tg_conv (v : Int) (W : World) (a : Nat) (h : W.cell? ⟨a, 0, none⟩ = some (.int .u8 v)) : Sem.run Try.prog (convert 22 9 (.slice (some ⟨a, 0, none⟩) 1 1)) W = .ok (.string (strOfNums [v])) W := by
  refine string_of_reads (n := 1) (e := 5) (xs := [v]) Try.underlying22 Try.underlying5 Try.underlying9 ⟨rfl, by simp, fun _ => ⟨_, rfl, fun j hj => ?_⟩⟩
  obtain rfl : j = 0 := by omega
  exact h
theorem tg_al {w : World} {g : Nat} {o : Obj} (h : w.heap[g]? = some o) (o' : Obj) : (w.alloc o').heap[g]? = some o := (((Below.refl w.heap.size w).alloc (Nat.le_refl _) o').block _ (blk_lt h)).trans h
theorem tg_KM (W : World) (base : Nat) (ok : Nat → Prop) (x : S32) (cs : List Value) (h : k32.K W x cs) : k32.M W base ok x cs := by
  obtain rfl := k32_open h
  exact k32_mkM W base ok x
theorem tg_size {W : World} {g : Nat} (h : W.heap[g]? = some (.cells #[.int .i64 1, .int .i64 4, .int .i64 8, .int .i64 8] 27 (0, 0))) {k : Int} (h0 : 0 ≤ k) : W.cell? ⟨g, (k % 4).toNat, none⟩ = some (.int .i64 (tgS k)) := by
  rw [blk_cell h]
  have hq : k % 4 = 0 ∨ k % 4 = 1 ∨ k % 4 = 2 ∨ k % 4 = 3 := by omega
  unfold tgS
  rcases hq with hq | hq | hq | hq <;> rw [hq] <;> rfl
theorem tg_two1 (W : World) (A B : Obj) : ((W.alloc A).alloc B).drew.heap[W.heap.size + 1]? = some B := by
  have := heap_alloc_new (W.alloc A) B
  rw [show (W.alloc A).heap.size = W.heap.size + 1 by simp] at this
  exact this
theorem tg_two0 (W : World) (A B : Obj) : ((W.alloc B).alloc A).drew.heap[W.heap.size]? = some B := tg_al (heap_alloc_new W B) A
theorem tg_twoB (W : World) (A B : Obj) : Below W.heap.size W ((W.alloc A).alloc B).drew := ((((Below.refl W.heap.size W).alloc (Nat.le_refl _) A).alloc (by simp) B)).drew
set_option maxHeartbeats 4000000 in
set_option maxRecDepth 100000 in
theorem tight_calls (A : Option Addr) (c : Nat) (ks : List Int) (w : World) (hr : Kd.C (Kd.int .u8) w A ks.length ks) (hc : ks.length ≤ c) (hk : ∀ k ∈ ks, 0 ≤ k ∧ k ≤ 255) (K : Nat) (haw : hauberklaw04_awake.f K = some true) :
    Calls Try.prog 3 #[.slice A ks.length c] w fun e w' => e = .returned (.bool true) ∧ Below w.heap.size w w' := by
  have HB := Aside0.mk (Below.refl w.heap.size w)
  have HR := Aside0.mk hr
  have HC := Aside0.mk hc
  have HK := Aside0.mk hk
  have HAW := Aside0.mk haw
  clear hr hc hk haw
  have hu25 := Try.underlying25
  have hu26 := Try.underlying26
  have hu27 := Try.underlying27
  have hu30 := Try.underlying30
  have hu32 := Try.underlying32
  have hu36 := Try.underlying36
  by_cases h0 : ks.length = 0
  · have z0 : ((ks.length : Int) == 0) = true := by rw [h0]; rfl
    have z1 : (ks.length == 0) = true := by rw [h0]; rfl
    clear h0
    go_enter Try.func3, Try.ntmps3
    go_wp2_with (first | (go_at_call 8; (with_reducible refine (hauberklaw04_awake.calls K true _ HAW.out).mono ?_); rintro e w1 ⟨rfl, hb⟩; have n0_ := Aside0.mk (below_step HB.out hb); clear HB hb; have HB := n0_; clear n0_))
    go_ret
    exact ⟨rfl, HB.out⟩
  · have z0 : ((ks.length : Int) == 0) = false := by simpa using h0
    have z1 : (ks.length == 0) = false := by simpa using h0
    by_cases h12 : 12 < ks.length
    · have y0 : decide ((ks.length : Int) > 12) = true := decide_eq_true (by omega)
      have y1 : decide (12 < ks.length) = true := decide_eq_true (by omega)
      have y2 : decide (12 < (ks.length : Int)) = true := decide_eq_true (by omega)
      clear h0 h12
      go_enter Try.func3, Try.ntmps3
      go_wp2_with (first | (go_at_call 8; (with_reducible refine (hauberklaw04_awake.calls K true _ HAW.out).mono ?_); rintro e w1 ⟨rfl, hb⟩; have n0_ := Aside0.mk (below_step HB.out hb); clear HB hb; have HB := n0_; clear n0_))
      go_ret
      exact ⟨rfl, HB.out⟩
    · have y0 : decide ((ks.length : Int) > 12) = false := decide_eq_false (by omega)
      have y1 : decide (12 < ks.length) = false := decide_eq_false (by omega)
      have y2 : decide (12 < (ks.length : Int)) = false := decide_eq_false (by omega)
      have H12 := Aside0.mk h12
      have H0 := Aside0.mk h0
      clear h0 h12
      go_enter Try.func3, Try.ntmps3
      go_upto_region 3 with (first | (go_at_call 8; (with_reducible refine (hauberklaw04_awake.calls K true _ HAW.out).mono ?_); rintro e w1 ⟨rfl, hb⟩; have n0_ := Aside0.mk (below_step HB.out hb); clear HB hb; have HB := n0_; clear n0_))
      go_cut [3] (fun v3 wc => ∃ g3, v3 = .pointer (some ⟨g3, 0, none⟩) ∧ Aside0 (wc.heap[g3]? = some (.cells #[.int .i64 1, .int .i64 0, .string (⟨#[]⟩ : ByteArray), .int .i64 2, .int .i64 0, .string (⟨#[]⟩ : ByteArray), .int .i64 3, .int .i64 0, .string (⟨#[]⟩ : ByteArray), .int .i64 1, .int .i64 1, .string (⟨#[]⟩ : ByteArray)] 26 (0, 0))) ∧ Aside0 (w.heap.size ≤ g3) ∧ Aside0 (Below w.heap.size w wc))
      case first =>
        go_wp2_with (first | ((with_reducible refine gate_dst (N := 3) rfl ?_); (try (refine gate_guard (by rfl) ?_; dsimp only)); refine box_event ?hg (N := 3) ?hd (cs := #[.int .i64 0, .int .i64 0, .string (⟨#[]⟩ : ByteArray), .int .i64 0, .int .i64 0, .string (⟨#[]⟩ : ByteArray), .int .i64 0, .int .i64 0, .string (⟨#[]⟩ : ByteArray), .int .i64 0, .int .i64 0, .string (⟨#[]⟩ : ByteArray)]) (t := 26) ?hr ?_; (case hd => rfl); (case hg => rfl); (case hr => kernel_rfl); intro g3 hg w2 hbox hb; have n0_ := Aside0.mk (below_step (by repeat (first | (with_reducible first | exact HB.out | apply below_alloc | apply pw_below_drewN | apply below_drew1) | exact HB.out)) hb); have n1_ := Aside0.mk hbox; have n2_ := Aside0.mk ((by rw [hg]; exact (below_size (by repeat (first | (with_reducible first | exact HB.out | apply below_alloc | apply pw_below_drewN | apply below_drew1) | exact HB.out)))) : w.heap.size ≤ g3); clear HB; have HB := n0_; have BK3 := n1_; have GE3 := n2_; clear n0_ n1_ n2_; clear hb hbox hg) | ((with_reducible refine gate_store (t := 26) (p := 3) rfl ?_); refine wpList_store_row rfl 26 _ _ rfl g3 #[.int .i64 1, .int .i64 0, .string (⟨#[]⟩ : ByteArray), .int .i64 2, .int .i64 0, .string (⟨#[]⟩ : ByteArray), .int .i64 3, .int .i64 0, .string (⟨#[]⟩ : ByteArray), .int .i64 1, .int .i64 1, .string (⟨#[]⟩ : ByteArray)] (by rfl) (by rfl) 26 _ BK3.out (by kernel_rfl) (by kernel_rfl) (by kernel_rfl) ?_))
        go_meet
        case rel => exact ⟨_, rfl, ⟨tg_setRow BK3.out⟩, GE3, ⟨tg_setRow_below HB.out GE3.out⟩⟩
      case rest =>
        clear HB
        obtain ⟨g3, rfl, BK3, GE3, HB⟩ := hcut
        go_upto_region 4 with (fail)
        go_cut [4] (fun v4 wc => ∃ g4, v4 = .pointer (some ⟨g4, 0, none⟩) ∧ Aside0 (wc.heap[g4]? = some (.cells #[.int .i64 1, .int .i64 4, .int .i64 8, .int .i64 8] 27 (0, 0))) ∧ Aside0 (w.heap.size ≤ g4) ∧ Aside0 (wc.heap[g3]? = some (.cells #[.int .i64 1, .int .i64 0, .string (⟨#[]⟩ : ByteArray), .int .i64 2, .int .i64 0, .string (⟨#[]⟩ : ByteArray), .int .i64 3, .int .i64 0, .string (⟨#[]⟩ : ByteArray), .int .i64 1, .int .i64 1, .string (⟨#[]⟩ : ByteArray)] 26 (0, 0))) ∧ Aside0 (Below w.heap.size w wc))
        case first =>
          go_wp2_with (first | ((with_reducible refine gate_dst (N := 4) rfl ?_); (try (refine gate_guard (by rfl) ?_; dsimp only)); refine box_event ?hg (N := 4) ?hd (cs := #[.int .i64 0, .int .i64 0, .int .i64 0, .int .i64 0]) (t := 27) ?hr ?_; (case hd => rfl); (case hg => rfl); (case hr => kernel_rfl); intro g4 hg w3 hbox hb; have n0_ := Aside0.mk (blk_below (by (with_reducible repeat (first | refine blk_drewN ?_ _ | refine blk_drew ?_ | refine blk_alloc ?_ _)); exact BK3.out) hb); have n1_ := Aside0.mk (below_step (by repeat (first | (with_reducible first | exact HB.out | apply below_alloc | apply pw_below_drewN | apply below_drew1 | refine below_set ?_ GE3.out) | exact HB.out)) hb); have n2_ := Aside0.mk hbox; have n3_ := Aside0.mk ((by rw [hg]; exact (below_size (by repeat (first | (with_reducible first | exact HB.out | apply below_alloc | apply pw_below_drewN | apply below_drew1 | refine below_set ?_ GE3.out) | exact HB.out)))) : w.heap.size ≤ g4); have n4_ := Aside0.mk ((by rw [hg]; exact Nat.ne_of_lt (blk_lt (by (with_reducible repeat (first | refine blk_drewN ?_ _ | refine blk_drew ?_ | refine blk_alloc ?_ _)); exact BK3.out))) : g3 ≠ g4); clear BK3; clear HB; have BK3 := n0_; have HB := n1_; have BK4 := n2_; have GE4 := n3_; have NB3_4 := n4_; clear n0_ n1_ n2_ n3_ n4_; clear hb hbox hg; have NB4_3 := Aside0.mk (Ne.symm NB3_4.out)) | ((with_reducible refine gate_store (t := 27) (p := 4) rfl ?_); refine wpList_store_row rfl 27 _ _ rfl g4 #[.int .i64 1, .int .i64 4, .int .i64 8, .int .i64 8] (by rfl) (by rfl) 27 _ BK4.out (by kernel_rfl) (by kernel_rfl) (by kernel_rfl) ?_))
          go_meet
          case rel => exact ⟨_, rfl, ⟨tg_setRow BK4.out⟩, GE4, ⟨(tg_setRow_ne NB3_4.out).trans BK3.out⟩, ⟨tg_setRow_below HB.out GE4.out⟩⟩
        case rest =>
          clear BK3 HB
          obtain ⟨g4, rfl, BK4, GE4, BK3, HB⟩ := hcut
          go_upto_region 5 with (fail)
          go_cut [5, 6] (fun v5 v6 wc => ∃ g5 g6, v5 = .pointer (some ⟨g5, 0, none⟩) ∧ v6 = .pointer (some ⟨g6, 0, none⟩) ∧ Aside0 (wc.heap[g5]? = some (.cells #[.string (⟨#[]⟩ : ByteArray), .slice none 0 0, .int .i64 0] 30 (0, 0))) ∧ Aside0 (wc.heap[g6]? = some (.cells #[.string (⟨#[]⟩ : ByteArray), .slice none 0 0, .int .i64 0] 30 (0, 0))) ∧ Aside0 (g5 ≠ g6) ∧ Aside0 (w.heap.size ≤ g5) ∧ Aside0 (w.heap.size ≤ g6) ∧ Aside0 (wc.heap[g4]? = some (.cells #[.int .i64 1, .int .i64 4, .int .i64 8, .int .i64 8] 27 (0, 0))) ∧ Aside0 (wc.heap[g3]? = some (.cells #[.int .i64 1, .int .i64 0, .string (⟨#[]⟩ : ByteArray), .int .i64 2, .int .i64 0, .string (⟨#[]⟩ : ByteArray), .int .i64 3, .int .i64 0, .string (⟨#[]⟩ : ByteArray), .int .i64 1, .int .i64 1, .string (⟨#[]⟩ : ByteArray)] 26 (0, 0))) ∧ Aside0 (Below w.heap.size w wc))
          case first =>
            go_wp2_with (first | ((with_reducible refine gate_dst (N := 5) rfl ?_); (try (refine gate_guard (by rfl) ?_; dsimp only)); refine box_event ?hg (N := 5) ?hd (cs := #[.string (⟨#[]⟩ : ByteArray), .slice none 0 0, .int .i64 0]) (t := 30) ?hr ?_; (case hd => rfl); (case hg => rfl); (case hr => kernel_rfl); intro g5 hg w4 hbox hb; have n0_ := Aside0.mk (blk_below (by (with_reducible repeat (first | refine blk_drewN ?_ _ | refine blk_drew ?_ | refine blk_alloc ?_ _)); exact BK3.out) hb); have n1_ := Aside0.mk (blk_below (by (with_reducible repeat (first | refine blk_drewN ?_ _ | refine blk_drew ?_ | refine blk_alloc ?_ _)); exact BK4.out) hb); have n2_ := Aside0.mk (below_step (by repeat (first | (with_reducible first | exact HB.out | apply below_alloc | apply pw_below_drewN | apply below_drew1) | exact HB.out)) hb); have n3_ := Aside0.mk hbox; have n4_ := Aside0.mk ((by rw [hg]; exact (below_size (by repeat (first | (with_reducible first | exact HB.out | apply below_alloc | apply pw_below_drewN | apply below_drew1) | exact HB.out)))) : w.heap.size ≤ g5); have n5_ := Aside0.mk ((by rw [hg]; exact Nat.ne_of_lt (blk_lt (by (with_reducible repeat (first | refine blk_drewN ?_ _ | refine blk_drew ?_ | refine blk_alloc ?_ _)); exact BK3.out))) : g3 ≠ g5); have n6_ := Aside0.mk ((by rw [hg]; exact Nat.ne_of_lt (blk_lt (by (with_reducible repeat (first | refine blk_drewN ?_ _ | refine blk_drew ?_ | refine blk_alloc ?_ _)); exact BK4.out))) : g4 ≠ g5); clear BK3; clear BK4; clear HB; have BK3 := n0_; have BK4 := n1_; have HB := n2_; have BK5 := n3_; have GE5 := n4_; have NB3_5 := n5_; have NB4_5 := n6_; clear n0_ n1_ n2_ n3_ n4_ n5_ n6_; clear hb hbox hg; have NB5_3 := Aside0.mk (Ne.symm NB3_5.out); have NB5_4 := Aside0.mk (Ne.symm NB4_5.out)) | ((with_reducible refine gate_dst (N := 6) rfl ?_); (try (refine gate_guard (by rfl) ?_; dsimp only)); refine box_event ?hg (N := 6) ?hd (cs := #[.string (⟨#[]⟩ : ByteArray), .slice none 0 0, .int .i64 0]) (t := 30) ?hr ?_; (case hd => rfl); (case hg => rfl); (case hr => kernel_rfl); intro g6 hg w5 hbox hb; have n0_ := Aside0.mk (blk_below (by (with_reducible repeat (first | refine blk_drewN ?_ _ | refine blk_drew ?_ | refine blk_alloc ?_ _)); exact BK3.out) hb); have n1_ := Aside0.mk (blk_below (by (with_reducible repeat (first | refine blk_drewN ?_ _ | refine blk_drew ?_ | refine blk_alloc ?_ _)); exact BK4.out) hb); have n2_ := Aside0.mk (blk_below (by (with_reducible repeat (first | refine blk_drewN ?_ _ | refine blk_drew ?_ | refine blk_alloc ?_ _)); exact BK5.out) hb); have n3_ := Aside0.mk (below_step (by repeat (first | (with_reducible first | exact HB.out | apply below_alloc | apply pw_below_drewN | apply below_drew1) | exact HB.out)) hb); have n4_ := Aside0.mk hbox; have n5_ := Aside0.mk ((by rw [hg]; exact (below_size (by repeat (first | (with_reducible first | exact HB.out | apply below_alloc | apply pw_below_drewN | apply below_drew1) | exact HB.out)))) : w.heap.size ≤ g6); have n6_ := Aside0.mk ((by rw [hg]; exact Nat.ne_of_lt (blk_lt (by (with_reducible repeat (first | refine blk_drewN ?_ _ | refine blk_drew ?_ | refine blk_alloc ?_ _)); exact BK3.out))) : g3 ≠ g6); have n7_ := Aside0.mk ((by rw [hg]; exact Nat.ne_of_lt (blk_lt (by (with_reducible repeat (first | refine blk_drewN ?_ _ | refine blk_drew ?_ | refine blk_alloc ?_ _)); exact BK4.out))) : g4 ≠ g6); have n8_ := Aside0.mk ((by rw [hg]; exact Nat.ne_of_lt (blk_lt (by (with_reducible repeat (first | refine blk_drewN ?_ _ | refine blk_drew ?_ | refine blk_alloc ?_ _)); exact BK5.out))) : g5 ≠ g6); clear BK3; clear BK4; clear BK5; clear HB; have BK3 := n0_; have BK4 := n1_; have BK5 := n2_; have HB := n3_; have BK6 := n4_; have GE6 := n5_; have NB3_6 := n6_; have NB4_6 := n7_; have NB5_6 := n8_; clear n0_ n1_ n2_ n3_ n4_ n5_ n6_ n7_ n8_; clear hb hbox hg; have NB6_3 := Aside0.mk (Ne.symm NB3_6.out); have NB6_4 := Aside0.mk (Ne.symm NB4_6.out); have NB6_5 := Aside0.mk (Ne.symm NB5_6.out)))
            go_meet
            case rel => exact ⟨_, _, rfl, rfl, BK5, BK6, NB5_6, GE5, GE6, BK4, BK3, HB⟩
          case rest =>
            clear BK3 BK4 HB
            obtain ⟨g5, g6, rfl, rfl, BK5, BK6, NB5_6, GE5, GE6, BK4, BK3, HB⟩ := hcut
            go_wp2
            go_loopg [7, 8, 9, 39] 13 (fun gg v7 v8 v9 v39 w' => ∃ (i : Nat) (ua ub : Value), i ≤ ks.length ∧ ks.length - i ≤ gg ∧ v39 = .int .i64 i ∧ v7 = .int .i64 (tgSum (ks.take i)) ∧ v8 = .bool (tgSame ks i) ∧ v9 = .int .i64 (tgMx (ks.take i)) ∧
              Aside0 (w'.heap[g5]? = some (.cells #[.string (⟨#[]⟩ : ByteArray), ua, .int .i64 0] 30 (0, 0))) ∧ Aside0 (w'.heap[g6]? = some (.cells #[.string (⟨#[]⟩ : ByteArray), ub, .int .i64 0] 30 (0, 0))) ∧
              Aside0 (Kd.R k32 32 w' w.heap.size (fun k => some k ≠ ub.ownBlock) ua (tgL 0 (ks.take i))) ∧ Aside0 (Kd.R k32 32 w' w.heap.size (fun k => some k ≠ ua.ownBlock) ub (tgL 0 (ks.take i)).reverse) ∧ 
              Aside0 (w'.heap[g4]? = some (.cells #[.int .i64 1, .int .i64 4, .int .i64 8, .int .i64 8] 27 (0, 0))) ∧ Aside0 (w'.heap[g3]? = some (.cells #[.int .i64 1, .int .i64 0, .string (⟨#[]⟩ : ByteArray), .int .i64 2, .int .i64 0, .string (⟨#[]⟩ : ByteArray), .int .i64 3, .int .i64 0, .string (⟨#[]⟩ : ByteArray), .int .i64 1, .int .i64 1, .string (⟨#[]⟩ : ByteArray)] 26 (0, 0))) ∧ Aside0 (Below w.heap.size w w'))
            case atStart => exact ⟨0, .slice none 0 0, .slice none 0 0, Nat.zero_le _, by have := H12.out; omega, rfl, rfl, rfl, rfl, BK5, BK6, ⟨Kd.R_nil _ _ _ _ _⟩, ⟨Kd.R_nil _ _ _ _ _⟩, BK4, BK3, HB⟩
            case round =>
              clear BK3 BK4 BK5 BK6 HB
              obtain ⟨i, ua, ub, hil, hig, rfl, rfl, rfl, rfl, BK5, BK6, RA, RB, BK4, BK3, HB⟩ := hrel
              by_cases hlt : i < ks.length
              · have p0 : 0 ≤ (i : Int) := by omega
                have q0 : (i : Int) < (ks.length : Int) := by omega
                obtain ⟨ad, ea, hx⟩ := Kd.at_int HR.out (i : Int) p0 q0
                obtain ⟨kk, hkk⟩ : ∃ k : Int, rd ks (i : Int) = k := ⟨_, rfl⟩
                have hkr : 0 ≤ kk ∧ kk ≤ 255 := HK.out kk (by rw [← hkk]; exact rd_mem ks i hlt)
                obtain ⟨hk0, hk1⟩ := hkr
                rw [hkk] at hx
                subst ea
                rw [Int.toNat_natCast] at hx
                replace hx := (HB.out.cell (World.block_lt_of_cell? w _ hx)).trans hx
                have HKK := Aside0.mk hkk
                clear hkk
                go_upto_region 10 with (fail)
                go_cut [12] (fun v12 wc => ∃ g12, v12 = .pointer (some ⟨g12, 0, none⟩) ∧ Aside0 (wc.heap[g12]? = some (.cells #[.string (tgF (i : Int) kk).f0, .int .i64 (tgT kk).f0, .int .i64 (tgT kk).f1, .string (tgT kk).f2, .int .i64 0] 32 (0, 0))) ∧ Aside0 (wr.heap.size ≤ g12) ∧ Aside0 (Below wr.heap.size wr wc))
                case first =>
                  --D
                  have HBR := Aside0.mk (Below.refl wr.heap.size wr)
                  have hc3_0 : wr.cell? ⟨g3, 0, none⟩ = some (.int .i64 1) := (blk_cell BK3.out 0).trans rfl
                  have hc3_1 : wr.cell? ⟨g3, 1, none⟩ = some (.int .i64 0) := (blk_cell BK3.out 1).trans rfl
                  have hc3_2 : wr.cell? ⟨g3, 2, none⟩ = some (.string (⟨#[]⟩ : ByteArray)) := (blk_cell BK3.out 2).trans rfl
                  have hc3_3 : wr.cell? ⟨g3, 3, none⟩ = some (.int .i64 2) := (blk_cell BK3.out 3).trans rfl
                  have hc3_4 : wr.cell? ⟨g3, 4, none⟩ = some (.int .i64 0) := (blk_cell BK3.out 4).trans rfl
                  have hc3_5 : wr.cell? ⟨g3, 5, none⟩ = some (.string (⟨#[]⟩ : ByteArray)) := (blk_cell BK3.out 5).trans rfl
                  have hc3_6 : wr.cell? ⟨g3, 6, none⟩ = some (.int .i64 3) := (blk_cell BK3.out 6).trans rfl
                  have hc3_7 : wr.cell? ⟨g3, 7, none⟩ = some (.int .i64 0) := (blk_cell BK3.out 7).trans rfl
                  have hc3_8 : wr.cell? ⟨g3, 8, none⟩ = some (.string (⟨#[]⟩ : ByteArray)) := (blk_cell BK3.out 8).trans rfl
                  have hc3_9 : wr.cell? ⟨g3, 9, none⟩ = some (.int .i64 1) := (blk_cell BK3.out 9).trans rfl
                  have hc3_10 : wr.cell? ⟨g3, 10, none⟩ = some (.int .i64 1) := (blk_cell BK3.out 10).trans rfl
                  have hc3_11 : wr.cell? ⟨g3, 11, none⟩ = some (.string (⟨#[]⟩ : ByteArray)) := (blk_cell BK3.out 11).trans rfl
                  have hf3_0 := blk_frozen BK3.out 0
                  have hf3_1 := blk_frozen BK3.out 1
                  have hf3_2 := blk_frozen BK3.out 2
                  have hf3_3 := blk_frozen BK3.out 3
                  have hf3_4 := blk_frozen BK3.out 4
                  have hf3_5 := blk_frozen BK3.out 5
                  have hf3_6 := blk_frozen BK3.out 6
                  have hf3_7 := blk_frozen BK3.out 7
                  have hf3_8 := blk_frozen BK3.out 8
                  have hf3_9 := blk_frozen BK3.out 9
                  have hf3_10 := blk_frozen BK3.out 10
                  have hf3_11 := blk_frozen BK3.out 11
                  have hlt3 : g3 < wr.heap.size := blk_lt BK3.out
                  have hi12 : (i : Int) ≤ 12 := by have := H12.out; omega
                  have hw1 : IntKind.u8.wrap (i : Int) = i := by unfold IntKind.wrap; simp [IntKind.bits]; omega
                  have hw2 : IntKind.u8.wrap (97 + (i : Int)) = 97 + i := by unfold IntKind.wrap; simp [IntKind.bits]; omega
                  have hcv := tg_conv (97 + (i : Int))
                  have hq : kk % 4 = 0 ∨ kk % 4 = 1 ∨ kk % 4 = 2 ∨ kk % 4 = 3 := by omega
                  rcases hq with hq | hq | hq | hq
                  · have hT : tgT kk = ⟨1, 0, ⟨#[]⟩⟩ := by unfold tgT; rw [if_pos hq]
                    have HT := Aside0.mk hT
                    clear hT
                    go_region
                    all_goals go_wp2
                    all_goals go_meet
                    all_goals (case rel => rw [HT.out]; first | exact ⟨_, rfl, ⟨tg_two1 _ _ _⟩, ⟨Nat.le_succ _⟩, ⟨tg_twoB _ _ _⟩⟩ | exact ⟨_, rfl, ⟨tg_two0 _ _ _⟩, ⟨Nat.le_refl _⟩, ⟨tg_twoB _ _ _⟩⟩)
                  · have hT : tgT kk = ⟨2, 0, ⟨#[]⟩⟩ := by unfold tgT; rw [if_neg (by omega), if_pos hq]
                    have HT := Aside0.mk hT
                    clear hT
                    go_region
                    all_goals go_wp2
                    all_goals go_meet
                    all_goals (case rel => rw [HT.out]; first | exact ⟨_, rfl, ⟨tg_two1 _ _ _⟩, ⟨Nat.le_succ _⟩, ⟨tg_twoB _ _ _⟩⟩ | exact ⟨_, rfl, ⟨tg_two0 _ _ _⟩, ⟨Nat.le_refl _⟩, ⟨tg_twoB _ _ _⟩⟩)
                  · have hT : tgT kk = ⟨3, 0, ⟨#[]⟩⟩ := by unfold tgT; rw [if_neg (by omega), if_neg (by omega), if_pos hq]
                    have HT := Aside0.mk hT
                    clear hT
                    go_region
                    all_goals go_wp2
                    all_goals go_meet
                    all_goals (case rel => rw [HT.out]; first | exact ⟨_, rfl, ⟨tg_two1 _ _ _⟩, ⟨Nat.le_succ _⟩, ⟨tg_twoB _ _ _⟩⟩ | exact ⟨_, rfl, ⟨tg_two0 _ _ _⟩, ⟨Nat.le_refl _⟩, ⟨tg_twoB _ _ _⟩⟩)
                  · have hT : tgT kk = ⟨1, 1, ⟨#[]⟩⟩ := by unfold tgT; rw [if_neg (by omega), if_neg (by omega), if_neg (by omega)]
                    have HT := Aside0.mk hT
                    clear hT
                    go_region
                    all_goals go_wp2
                    all_goals go_meet
                    all_goals (case rel => rw [HT.out]; first | exact ⟨_, rfl, ⟨tg_two1 _ _ _⟩, ⟨Nat.le_succ _⟩, ⟨tg_twoB _ _ _⟩⟩ | exact ⟨_, rfl, ⟨tg_two0 _ _ _⟩, ⟨Nat.le_refl _⟩, ⟨tg_twoB _ _ _⟩⟩)
                  --E
                case rest =>
                  obtain ⟨g12, rfl, BK12, GE12, HBR⟩ := hcut
                  have n0_ := Aside0.mk (Kd.R_below (Kd.R_mono (ok' := (fun k => some k ≠ ub.ownBlock ∧ k ≠ g12)) (Kd.R_elderB RA.out g12 GE12.out) (fun k hk => hk)) HBR.out)
                  have n1_ := Aside0.mk (Kd.R_below (Kd.R_mono (ok' := (fun k => k ≠ g12 ∧ some k ≠ ua.ownBlock)) (Kd.R_elderB RB.out g12 GE12.out) (fun k hk => ⟨hk.2, hk.1⟩)) HBR.out)
                  have n2_ := Aside0.mk (blk_below BK3.out HBR.out)
                  have n3_ := Aside0.mk (blk_below BK4.out HBR.out)
                  have n4_ := Aside0.mk (blk_below BK5.out HBR.out)
                  have n5_ := Aside0.mk (blk_below BK6.out HBR.out)
                  have n6_ := Aside0.mk (below_step HB.out HBR.out)
                  have n7_ := Aside0.mk (Nat.ne_of_lt (Nat.lt_of_lt_of_le (blk_lt BK5.out) GE12.out))
                  have n8_ := Aside0.mk (Nat.ne_of_lt (Nat.lt_of_lt_of_le (blk_lt BK6.out) GE12.out))
                  clear RA RB BK3 BK4 BK5 BK6 HB HBR GE12 hx
                  have RA := n0_
                  have RB := n1_
                  have BK3 := n2_
                  have BK4 := n3_
                  have BK5 := n4_
                  have BK6 := n5_
                  have HB := n6_
                  have NB5_12 := n7_
                  have NB6_12 := n8_
                  clear n0_ n1_ n2_ n3_ n4_ n5_ n6_ n7_ n8_
                  go_upto_region 11 with (fail)
                  go_cut [] (fun wc => ∃ ua', Aside0 (wc.heap[g5]? = some (.cells #[.string (⟨#[]⟩ : ByteArray), ua', .int .i64 0] 30 (0, 0))) ∧ Aside0 (wc.heap[g6]? = some (.cells #[.string (⟨#[]⟩ : ByteArray), ub, .int .i64 0] 30 (0, 0))) ∧ Aside0 (wc.heap[g12]? = some (.cells #[.string (tgF (i : Int) kk).f0, .int .i64 (tgT kk).f0, .int .i64 (tgT kk).f1, .string (tgT kk).f2, .int .i64 0] 32 (0, 0))) ∧
                    Aside0 (Kd.R k32 32 wc w.heap.size (fun k => some k ≠ ub.ownBlock ∧ k ≠ g12) ua' (tgL 0 (ks.take (i + 1)))) ∧ Aside0 (Kd.R k32 32 wc w.heap.size (fun k => k ≠ g12 ∧ some k ≠ ua'.ownBlock) ub (tgL 0 (ks.take i)).reverse) ∧ 
                    Aside0 (wc.heap[g4]? = some (.cells #[.int .i64 1, .int .i64 4, .int .i64 8, .int .i64 8] 27 (0, 0))) ∧ Aside0 (wc.heap[g3]? = some (.cells #[.int .i64 1, .int .i64 0, .string (⟨#[]⟩ : ByteArray), .int .i64 2, .int .i64 0, .string (⟨#[]⟩ : ByteArray), .int .i64 3, .int .i64 0, .string (⟨#[]⟩ : ByteArray), .int .i64 1, .int .i64 1, .string (⟨#[]⟩ : ByteArray)] 26 (0, 0))) ∧ Aside0 (Below w.heap.size w wc))
                  case first =>
                    --D
                    have hc5_1 : wc.cell? ⟨g5, 1, none⟩ = some ua := (blk_cell BK5.out 1).trans rfl
                    have hf5_1 := blk_frozen BK5.out 1
                    have hc12_0 : wc.cell? ⟨g12, 0, none⟩ = some (.string (tgF (i : Int) kk).f0) := (blk_cell BK12.out 0).trans rfl
                    have hc12_1 : wc.cell? ⟨g12, 1, none⟩ = some (.int .i64 (tgT kk).f0) := (blk_cell BK12.out 1).trans rfl
                    have hc12_2 : wc.cell? ⟨g12, 2, none⟩ = some (.int .i64 (tgT kk).f1) := (blk_cell BK12.out 2).trans rfl
                    have hc12_3 : wc.cell? ⟨g12, 3, none⟩ = some (.string (tgT kk).f2) := (blk_cell BK12.out 3).trans rfl
                    have hc12_4 : wc.cell? ⟨g12, 4, none⟩ = some (.int .i64 0) := (blk_cell BK12.out 4).trans rfl
                    have hf12_0 := blk_frozen BK12.out 0
                    have hf12_1 := blk_frozen BK12.out 1
                    have hf12_2 := blk_frozen BK12.out 2
                    have hf12_3 := blk_frozen BK12.out 3
                    have hf12_4 := blk_frozen BK12.out 4
                    go_wp2_with (first | ((with_reducible refine gate_builtin (b := .append) (xs := #[.tmp 55, .tmp 57]) rfl ?_); at_builtin; refine Kd.R_append k32 (w0 := w) w.heap.size rfl (.tmp 55) (.tmp 57) 28 32 (.agg #[.string (⟨#[]⟩ : ByteArray), .int .i64 0, .int .i64 0, .string (⟨#[]⟩ : ByteArray), .int .i64 0]) 56 rfl Try.underlying28 info32 rfl (by decide) (by omega) ua (tgL 0 (ks.take i)) (tgF (i : Int) kk) [.string (tgF (i : Int) kk).f0, .int .i64 (tgT kk).f0, .int .i64 (tgT kk).f1, .string (tgT kk).f2, .int .i64 0] (fun k => some k ≠ ub.ownBlock ∧ k ≠ g12) (fun _ => False) rfl (by first | (go_simp; done) | (go_simp; rfl)) ?aP (fun _ hk => hk.elim) ?aF ?aO ?aB ?aS ?aL ?_; (case aP => exact k32_mkM _ _ _ (tgF (i : Int) kk)); (case aF => exact (fun k hk => ⟨Kd.fresh' (Kd.R_lt RB.out) k hk, Kd.freshB BK12.out k hk⟩)); (case aO => exact RA.out); (case aB => exact HB.out); (case aS => exact below_size HB.out); (case aL => rw [tgL_length]; have := H12.out; have := List.length_take_le i ks; omega); intro v58 w58 ho hb hg hat; obtain ⟨y58, hy58⟩ : ∃ y : List S32, y = tgL 0 (ks.take i) ++ [tgF (i : Int) kk] := ⟨_, rfl⟩; rw [← hy58] at ho; have NY58 := Aside0.mk hy58; clear hy58; have n0_ := Aside0.mk (Kd.R_after (ok := (fun k => k ≠ g12)) RB.out hg hat); have n1_ := Aside0.mk (blk_grown BK3.out hg (Kd.R_ne RA.out BK3.out (by decide))); have n2_ := Aside0.mk (blk_grown BK4.out hg (Kd.R_ne RA.out BK4.out (by decide))); have n3_ := Aside0.mk (blk_grown BK5.out hg (Kd.R_ne RA.out BK5.out (by decide))); have n4_ := Aside0.mk (blk_grown BK6.out hg (Kd.R_ne RA.out BK6.out (by decide))); have n5_ := Aside0.mk (blk_grown BK12.out hg (fun he => (RA.out.1 g12 he.symm).2 rfl)); have n6_ := Aside0.mk ho; clear RB BK3 BK4 BK5 BK6 BK12 HB RA; have RB := n0_; have BK3 := n1_; have BK4 := n2_; have BK5 := n3_; have BK6 := n4_; have BK12 := n5_; have RA := n6_; have HB := Aside0.mk hb; clear n0_ n1_ n2_ n3_ n4_ n5_ n6_ hb hg hat ho; obtain ⟨Ao, co, eo⟩ := Kd.R_slice RA.out; subst eo; have hc5_1 : w58.cell? ⟨g5, 1, none⟩ = some ua := (blk_cell BK5.out 1).trans rfl; have hf5_1 := blk_frozen BK5.out 1))
                    go_meet
                    case rel => exact ⟨_, ⟨blk_put (cs := #[.string (⟨#[]⟩ : ByteArray), ua, .int .i64 0]) BK5.out 1 _ rfl⟩, ⟨blk_far BK6.out (Ne.symm NB5_6.out) _⟩, ⟨blk_far BK12.out (Ne.symm NB5_12.out) _⟩, ⟨by rw [tgL_at ks i hlt kk HKK.out, ← NY58.out]; exact Kd.R_set RA.out BK5.out (by decide) 1 _⟩, ⟨Kd.R_set RB.out BK5.out (by decide) 1 _⟩, ⟨blk_far BK4.out (blk_ne BK4.out BK5.out (by decide)) _⟩, ⟨blk_far BK3.out (blk_ne BK3.out BK5.out (by decide)) _⟩, ⟨below_set HB.out GE5.out⟩⟩
                    --E
                  case rest =>
                    clear BK3 BK4 BK5 BK6 BK12 RA RB HB
                    obtain ⟨ua2, BK5, BK6, BK12, RA, RB, BK4, BK3, HB⟩ := hcut
                    obtain ⟨yb, hyb⟩ : ∃ y : List S32, y = (tgL 0 (ks.take i)).reverse := ⟨_, rfl⟩
                    rw [← hyb] at RB
                    have NYB := Aside0.mk hyb
                    clear hyb
                    obtain ⟨Ab, cb, hub⟩ := Kd.R_slice RB.out
                    subst hub
                    go_upto_region 12 with (fail)
                    go_cut [] (fun wc => ∃ ub', Aside0 (wc.heap[g5]? = some (.cells #[.string (⟨#[]⟩ : ByteArray), ua2, .int .i64 0] 30 (0, 0))) ∧ Aside0 (wc.heap[g6]? = some (.cells #[.string (⟨#[]⟩ : ByteArray), ub', .int .i64 0] 30 (0, 0))) ∧
                      Aside0 (Kd.R k32 32 wc w.heap.size (fun k => some k ≠ ub'.ownBlock) ua2 (tgL 0 (ks.take (i + 1)))) ∧ Aside0 (Kd.R k32 32 wc w.heap.size (fun k => some k ≠ ua2.ownBlock) ub' (tgL 0 (ks.take (i + 1))).reverse) ∧ 
                      Aside0 (wc.heap[g4]? = some (.cells #[.int .i64 1, .int .i64 4, .int .i64 8, .int .i64 8] 27 (0, 0))) ∧ Aside0 (wc.heap[g3]? = some (.cells #[.int .i64 1, .int .i64 0, .string (⟨#[]⟩ : ByteArray), .int .i64 2, .int .i64 0, .string (⟨#[]⟩ : ByteArray), .int .i64 3, .int .i64 0, .string (⟨#[]⟩ : ByteArray), .int .i64 1, .int .i64 1, .string (⟨#[]⟩ : ByteArray)] 26 (0, 0))) ∧ Aside0 (Below w.heap.size w wc))
                    case first =>
                      --D
                      have hc6_1 : wc.cell? ⟨g6, 1, none⟩ = some (.slice Ab yb.length cb) := (blk_cell BK6.out 1).trans rfl
                      have hf6_1 := blk_frozen BK6.out 1
                      have hc12_0 : wc.cell? ⟨g12, 0, none⟩ = some (.string (tgF (i : Int) kk).f0) := (blk_cell BK12.out 0).trans rfl
                      have hc12_1 : wc.cell? ⟨g12, 1, none⟩ = some (.int .i64 (tgT kk).f0) := (blk_cell BK12.out 1).trans rfl
                      have hc12_2 : wc.cell? ⟨g12, 2, none⟩ = some (.int .i64 (tgT kk).f1) := (blk_cell BK12.out 2).trans rfl
                      have hc12_3 : wc.cell? ⟨g12, 3, none⟩ = some (.string (tgT kk).f2) := (blk_cell BK12.out 3).trans rfl
                      have hc12_4 : wc.cell? ⟨g12, 4, none⟩ = some (.int .i64 0) := (blk_cell BK12.out 4).trans rfl
                      have hf12_0 := blk_frozen BK12.out 0
                      have hf12_1 := blk_frozen BK12.out 1
                      have hf12_2 := blk_frozen BK12.out 2
                      have hf12_3 := blk_frozen BK12.out 3
                      have hf12_4 := blk_frozen BK12.out 4
                      go_wp2_with (first | ((with_reducible refine gate_dst (N := 61) rfl ?_); refine Kd.R_lit k32 (w0 := w) w.heap.size 32 ?hg (N := 61) ?hd (xs := [tgF (i : Int) kk]) (inner := [.string (tgF (i : Int) kk).f0, .int .i64 (tgT kk).f0, .int .i64 (tgT kk).f1, .string (tgT kk).f2, .int .i64 0]) (ok := (fun k => some k ≠ (.slice Ab yb.length cb : Value).ownBlock ∧ some k ≠ ua2.ownBlock ∧ k ≠ g12)) (okp := fun _ => False) ?hr ?hp (fun _ hk => hk.elim) ?hf HB.out (below_size HB.out) (by simp) ?_; (case hd => rfl); (case hg => rfl); (case hr => first | (go_simp; done) | (go_simp; rfl)); (case hp => exact Reps.c5 (show Kd.M k32 _ _ _ (tgF (i : Int) kk) [.string (tgF (i : Int) kk).f0, .int .i64 (tgT kk).f0, .int .i64 (tgT kk).f1, .string (tgT kk).f2, .int .i64 0] from k32_mkM _ _ _ (tgF (i : Int) kk)) (Reps.none _ _)); (case hf => exact ⟨by exact Kd.fresh' (Kd.R_lt RB.out) _ (Nat.le_refl _), Kd.fresh' (Kd.R_lt RA.out) _ (Nat.le_refl _), Kd.freshB BK12.out _ (Nat.le_refl _)⟩); intro v61 w61 ho hb hg hnew; obtain ⟨y61, hy61⟩ : ∃ y : List S32, y = [tgF (i : Int) kk] := ⟨_, rfl⟩; rw [← hy61] at ho; have NY61 := Aside0.mk hy61; clear hy61; have hnw : ∀ k, k < wc.heap.size → some k ≠ v61.ownBlock := (fun k hk he => by obtain ⟨b, e1, e2⟩ := hnew; rw [e1] at he; injection he with he; omega); have n0_ := Aside0.mk (Kd.R_mono (ok' := (fun k => k ≠ g12 ∧ some k ≠ v61.ownBlock)) (Kd.R_grown (Kd.R_bound RA.out) hg (fun k hk => by simp)) (fun k hk => ⟨hk.1.2, hnw k hk.2.2.1⟩)); have n1_ := Aside0.mk (Kd.R_mono (ok' := (fun k => True)) (Kd.R_grown (Kd.R_bound RB.out) hg (fun k hk => by simp)) (fun k hk => trivial)); have n2_ := Aside0.mk (blk_grown BK3.out hg (by simp)); have n3_ := Aside0.mk (blk_grown BK4.out hg (by simp)); have n4_ := Aside0.mk (blk_grown BK5.out hg (by simp)); have n5_ := Aside0.mk (blk_grown BK6.out hg (by simp)); have n6_ := Aside0.mk ho; have n7_ := Aside0.mk hb; have n8_ := Aside0.mk (hnw _ (blk_lt BK6.out)); have n9_ := Aside0.mk ((fun k hk he => Kd.fresh' (Kd.R_lt RA.out) k hk he) : ∀ k, wc.heap.size ≤ k → some k ≠ ua2.ownBlock); clear RA RB BK3 BK4 BK5 BK6 BK12 HB hnw ho hb hg hnew; have RA := n0_; have RB := n1_; have BK3 := n2_; have BK4 := n3_; have BK5 := n4_; have BK6 := n5_; have RC := n6_; have HB := n7_; clear n0_ n1_ n2_ n3_ n4_ n5_ n6_ n7_ n8_ n9_; obtain ⟨Al, cl, el⟩ := Kd.R_slice RC.out; subst el; have hc6_1 : w61.cell? ⟨g6, 1, none⟩ = some (.slice Ab yb.length cb) := (blk_cell BK6.out 1).trans rfl; have hf6_1 := blk_frozen BK6.out 1) | ((with_reducible refine gate_builtin (b := .append) (xs := #[.tmp 61, .tmp 63]) rfl ?_); at_builtin; refine Kd.R_append_rows k32 (w0 := w) w.heap.size rfl (.tmp 61) (.tmp 63) 28 32 (.agg #[.string (⟨#[]⟩ : ByteArray), .int .i64 0, .int .i64 0, .string (⟨#[]⟩ : ByteArray), .int .i64 0]) 56 rfl Try.underlying28 info32 rfl (by decide) (by omega) (.slice Al y61.length cl) y61 yb Ab yb.length cb (fun k => some k ≠ ua2.ownBlock) (fun _ => False) rfl rfl ?aO (Kd.R_reads' RB.out).2.2 (fun x cs h => tg_KM _ _ _ x cs h) (fun _ h => h.elim) ?aF HB.out (below_size HB.out) ?aL ?_; (case aO => exact Kd.R_mono RC.out (fun k hk => hk.2.1)); (case aF => exact fun k hk => Kd.fresh' (Kd.R_lt RA.out) k hk); (case aL => have hl1 : y61.length = 1 := (by rw [NY61.out]; rfl); have hl2 : yb.length ≤ 12 := (by rw [NYB.out, List.length_reverse, tgL_length, List.length_take]; have := H12.out; omega); omega); intro v64 w64 ho hb hg hat; obtain ⟨y64, hy64⟩ : ∃ y : List S32, y = y61 ++ yb := ⟨_, rfl⟩; rw [← hy64] at ho; have NY64 := Aside0.mk hy64; clear hy64; have n0_ := Aside0.mk (Kd.R_after (ok := (fun k => k ≠ g12)) RA.out hg hat); have n2_ := Aside0.mk (blk_grown BK3.out hg (Kd.R_ne RC.out BK3.out (by decide))); have n3_ := Aside0.mk (blk_grown BK4.out hg (Kd.R_ne RC.out BK4.out (by decide))); have n4_ := Aside0.mk (blk_grown BK5.out hg (Kd.R_ne RC.out BK5.out (by decide))); have n5_ := Aside0.mk (blk_grown BK6.out hg (Kd.R_ne RC.out BK6.out (by decide))); clear RA RB BK3 BK4 BK5 BK6 HB RC; have RA := n0_; have BK3 := n2_; have BK4 := n3_; have BK5 := n4_; have BK6 := n5_; have RC := Aside0.mk ho; have HB := Aside0.mk hb; clear n0_ n2_ n3_ n4_ n5_ hb hg hat ho; obtain ⟨Am, cm, em⟩ := Kd.R_slice RC.out; subst em; have hc6_1 : w64.cell? ⟨g6, 1, none⟩ = some (.slice Ab yb.length cb) := (blk_cell BK6.out 1).trans rfl; have hf6_1 := blk_frozen BK6.out 1))
                      go_meet
                      case rel => exact ⟨_, ⟨blk_far BK5.out NB5_6.out _⟩, ⟨blk_put (cs := #[.string (⟨#[]⟩ : ByteArray), .slice Ab yb.length cb, .int .i64 0]) BK6.out 1 _ rfl⟩, ⟨Kd.R_mono (Kd.R_set RA.out BK6.out (by decide) 1 _) (fun k hk => hk.2)⟩, ⟨by rw [tgL_at ks i hlt kk HKK.out, List.reverse_append, ← NYB.out, List.reverse_singleton, ← NY61.out, ← NY64.out]; exact Kd.R_set RC.out BK6.out (by decide) 1 _⟩, ⟨blk_far BK4.out (blk_ne BK4.out BK6.out (by decide)) _⟩, ⟨blk_far BK3.out (blk_ne BK3.out BK6.out (by decide)) _⟩, ⟨below_set HB.out GE6.out⟩⟩
                      --E
                    case rest =>
                      clear BK3 BK4 BK5 BK6 BK12 RA RB HB
                      obtain ⟨ub2, BK5, BK6, RA, RB, BK4, BK3, HB⟩ := hcut
                      have hsz : wc.cell? ⟨g4, (kk % 4).toNat, none⟩ = some (.int .i64 (tgS kk)) := tg_size BK4.out hk0
                      have hm0 : 0 ≤ kk % 4 := by omega
                      have hm4 : kk % 4 < 4 := by omega
                      obtain ⟨hs0, hs1⟩ := tgSum_le (ks.take i)
                      have hs2 : tgSum (ks.take i) ≤ 96 := by have := H12.out; have := List.length_take_le i ks; omega
                      have hs3 := tgS_is kk
                      have hs4 : 0 ≤ tgS kk := by omega
                      have hs5 : tgS kk ≤ 8 := by omega
                      clear hs1 hs3
                      go_upto_region 14 with (fail)
                      go_cut [8] (fun v8 wx => v8 = .bool (tgSame ks (i + 1)) ∧ Aside0 (Drawn0 wc wx))
                      case first =>
                        --D
                        have q1 : 0 < (ks.length : Int) := by omega
                        have q2 : 0 < ks.length := by omega
                        obtain ⟨ad0, ea0, hx0⟩ := Kd.at_int HR.out 0 (by omega) q1
                        obtain rfl : ad = ad0 := by injection ea0
                        obtain ⟨k0, hk00⟩ : ∃ k : Int, rd ks 0 = k := ⟨_, rfl⟩
                        obtain ⟨hk01, hk02⟩ : 0 ≤ k0 ∧ k0 ≤ 255 := HK.out k0 (by rw [← hk00]; exact rd_mem ks 0 q2)
                        rw [hk00] at hx0
                        replace hx0 := (HB.out.cell (World.block_lt_of_cell? w _ hx0)).trans hx0
                        have hx0a : wc.cell? (ad.add 0) = some (.int .u8 k0) := hx0
                        have hx0b : wc.cell? ad = some (.int .u8 k0) := by rw [← hx0a]; congr 1
                        have hsz0 : wc.cell? ⟨g4, (k0 % 4).toNat, none⟩ = some (.int .i64 (tgS k0)) := tg_size BK4.out hk01
                        have hn0 : 0 ≤ k0 % 4 := by omega
                        have hn4 : k0 % 4 < 4 := by omega
                        have HS := Aside0.mk (tgSame_snoc ks i hlt kk HKK.out)
                        have HK0 := Aside0.mk hk00
                        clear hx0 hk00 ea0
                        cases hsame : tgSame ks i with
                        | false =>
                          go_quiet (fail)
                          go_wp2
                          go_meet
                          case rel => exact ⟨by rw [HS.out, hsame]; rfl, ⟨⟨_, rfl⟩⟩⟩
                        | true =>
                          go_quiet (fail)
                          go_wp2
                          go_meet
                          case rel => exact ⟨by rw [HS.out, hsame, HK0.out]; rfl, ⟨⟨_, rfl⟩⟩⟩
                        --E
                      case rest =>
                        obtain ⟨rfl, HD⟩ := hcut
                        obtain ⟨nq, rfl⟩ := HD.out.out
                        have n0_ := Aside0.mk (Kd.R_drewN RA.out nq)
                        have n1_ := Aside0.mk (Kd.R_drewN RB.out nq)
                        have n2_ := Aside0.mk (blk_drewN BK3.out nq)
                        have n3_ := Aside0.mk (blk_drewN BK4.out nq)
                        have n4_ := Aside0.mk (blk_drewN BK5.out nq)
                        have n5_ := Aside0.mk (blk_drewN BK6.out nq)
                        have n6_ := Aside0.mk (pw_below_drewN HB.out nq)
                        clear RA RB BK3 BK4 BK5 BK6 HB HD
                        obtain ⟨m9, hm9⟩ : ∃ m : Int, (if tgMx (ks.take i) < tgS kk then tgS kk else tgMx (ks.take i)) = m := ⟨_, rfl⟩
                        have HM9 := Aside0.mk (show tgMx (ks.take (i + 1)) = m9 by rw [take_at ks i hlt kk HKK.out, tgMx_snoc, ← hm9]; rfl)
                        have HS9 := Aside0.mk (show tgSum (ks.take (i + 1)) = tgSum (ks.take i) + tgS kk by rw [take_at ks i hlt kk HKK.out, tgSum_snoc])
                        have hi12 : (i : Int) ≤ 12 := by have := H12.out; omega
                        go_wp2
                        go_roundg (ks.length - (i + 1))
                        case measure => omega
                        case rel => exact ⟨i + 1, ua2, ub2, by omega, by omega, by go_num, by rw [HS9.out], rfl, by rw [HM9.out], n4_, n5_, n0_, n1_, n3_, n2_, n6_⟩
              · have hle : ¬ (i : Int) < (ks.length : Int) := by omega
                obtain rfl : i = ks.length := by omega
                obtain ⟨K2, X, Y, W, S, oX, oY, hA, hB, hW, hS, f1, f2, f3, f4, f5, f6, f7, f8⟩ := tight_facts ks H0.out H12.out
                rw [List.take_length] at RA RB ⊢
                rw [hW, hS]
                obtain ⟨fa, hfa⟩ : ∃ y : List S32, y = tgL 0 ks := ⟨_, rfl⟩
                rw [← hfa] at RA RB hA hB
                obtain ⟨fb, hfb⟩ : ∃ y : List S32, y = fa.reverse := ⟨_, rfl⟩
                rw [← hfb] at RB hA hB
                have HA := Aside0.mk hA
                have HBB := Aside0.mk hB
                have HF1 := Aside0.mk f1
                have HF2 := Aside0.mk (And.intro f2 (And.intro f3 f4))
                have HF5 := Aside0.mk f5
                have HF6 := Aside0.mk f6
                clear hA hB hW hS hfa hfb f1 f2 f3 f4 f5 f6 hig hil hlt
                obtain ⟨Aa, ca, ea⟩ := Kd.R_slice RA.out
                subst ea
                obtain ⟨Ab, cb, eb⟩ := Kd.R_slice RB.out
                subst eb
                go_upto_region 17 with (fail)
                go_cut [] (fun wc => Aside0 (wc.heap[g5]? = some (.cells #[.string (⟨#[97]⟩ : ByteArray), .slice Aa fa.length ca, .int .i64 0] 30 (0, 0))) ∧ Aside0 (wc.heap[g6]? = some (.cells #[.string (⟨#[98]⟩ : ByteArray), .slice Ab fb.length cb, .int .i64 0] 30 (0, 0))) ∧ Aside0 (Kd.R k32 32 wc w.heap.size (fun k => True) (.slice Aa fa.length ca) fa) ∧ Aside0 (Kd.R k32 32 wc w.heap.size (fun k => True) (.slice Ab fb.length cb) fb) ∧ Aside0 (Below w.heap.size w wc))
                case first =>
                  have hc5_0 : wr.cell? ⟨g5, 0, none⟩ = some (.string (⟨#[]⟩ : ByteArray)) := (blk_cell BK5.out 0).trans rfl
                  have hc5_1 : wr.cell? ⟨g5, 1, none⟩ = some (.slice Aa fa.length ca) := (blk_cell BK5.out 1).trans rfl
                  have hc5_2 : wr.cell? ⟨g5, 2, none⟩ = some (.int .i64 0) := (blk_cell BK5.out 2).trans rfl
                  have hf5_0 := blk_frozen BK5.out 0
                  have hf5_1 := blk_frozen BK5.out 1
                  have hf5_2 := blk_frozen BK5.out 2
                  have hc6_0 : wr.cell? ⟨g6, 0, none⟩ = some (.string (⟨#[]⟩ : ByteArray)) := (blk_cell BK6.out 0).trans rfl
                  have hc6_1 : wr.cell? ⟨g6, 1, none⟩ = some (.slice Ab fb.length cb) := (blk_cell BK6.out 1).trans rfl
                  have hc6_2 : wr.cell? ⟨g6, 2, none⟩ = some (.int .i64 0) := (blk_cell BK6.out 2).trans rfl
                  have hf6_0 := blk_frozen BK6.out 0
                  have hf6_1 := blk_frozen BK6.out 1
                  have hf6_2 := blk_frozen BK6.out 2
                  have hne := NB5_6.out
                  have hne' := Ne.symm NB5_6.out
                  go_wp2
                  go_meet
                  case rel =>
                    have b6 := blk_far BK6.out (p := ⟨g5, 0, none⟩) hne' (.string (⟨#[97]⟩ : ByteArray))
                    exact ⟨⟨blk_far (blk_put (cs := #[.string (⟨#[]⟩ : ByteArray), .slice Aa fa.length ca, .int .i64 0]) BK5.out 0 _ rfl) hne _⟩, ⟨blk_put (cs := #[.string (⟨#[]⟩ : ByteArray), .slice Ab fb.length cb, .int .i64 0]) b6 0 _ rfl⟩, ⟨Kd.R_mono (Kd.R_set (Kd.R_set RA.out BK5.out (by decide) 0 _) b6 (by decide) 0 _) (fun k hk => trivial)⟩, ⟨Kd.R_mono (Kd.R_set (Kd.R_set RB.out BK5.out (by decide) 0 _) b6 (by decide) 0 _) (fun k hk => trivial)⟩, ⟨below_set (below_set HB.out GE5.out) GE6.out⟩⟩
                case rest =>
                  clear BK3 BK4 BK5 BK6 RA RB HB
                  obtain ⟨BK5, BK6, RA, RB, HB⟩ := hcut
                  go_upto_region 18 with (fail)
                  go_cut [13] (fun v13 wc => ∃ Al cl, v13 = .slice Al (tgPair fa fb).length cl ∧ Aside0 (Kd.N k30 30 wc w.heap.size (fun _ => True) (.slice Al (tgPair fa fb).length cl) (tgPair fa fb)) ∧ Aside0 (Below w.heap.size w wc))
                  case first =>
                    have hc5_0 : wc.cell? ⟨g5, 0, none⟩ = some (.string (⟨#[97]⟩ : ByteArray)) := (blk_cell BK5.out 0).trans rfl
                    have hc5_1 : wc.cell? ⟨g5, 1, none⟩ = some (.slice Aa fa.length ca) := (blk_cell BK5.out 1).trans rfl
                    have hc5_2 : wc.cell? ⟨g5, 2, none⟩ = some (.int .i64 0) := (blk_cell BK5.out 2).trans rfl
                    have hf5_0 := blk_frozen BK5.out 0
                    have hf5_1 := blk_frozen BK5.out 1
                    have hf5_2 := blk_frozen BK5.out 2
                    have hc6_0 : wc.cell? ⟨g6, 0, none⟩ = some (.string (⟨#[98]⟩ : ByteArray)) := (blk_cell BK6.out 0).trans rfl
                    have hc6_1 : wc.cell? ⟨g6, 1, none⟩ = some (.slice Ab fb.length cb) := (blk_cell BK6.out 1).trans rfl
                    have hc6_2 : wc.cell? ⟨g6, 2, none⟩ = some (.int .i64 0) := (blk_cell BK6.out 2).trans rfl
                    have hf6_0 := blk_frozen BK6.out 0
                    have hf6_1 := blk_frozen BK6.out 1
                    have hf6_2 := blk_frozen BK6.out 2
                    go_wp2_with (first | ((with_reducible refine gate_dst (N := 97) rfl ?_); refine Kd.N_lit k30 (w0 := w) w.heap.size 30 ?hg (N' := 97) ?hd (xs := ([(⟨(⟨#[97]⟩ : ByteArray), fa, 0⟩ : S30), (⟨(⟨#[98]⟩ : ByteArray), fb, 0⟩ : S30)] : List S30)) (inner := [.string (⟨#[97]⟩ : ByteArray), .slice Aa fa.length ca, .int .i64 0, .string (⟨#[98]⟩ : ByteArray), .slice Ab fb.length cb, .int .i64 0]) (ok := (fun _ => True)) (okp := (fun _ => True)) ?hr ?hp (fun _ hk => hk) trivial HB.out (below_size HB.out) (by simp) ?_; (case hd => rfl); (case hg => rfl); (case hr => first | (go_simp; done) | (go_simp; rfl)); (case hp => exact (Reps.c3 (show Kd.FK k30 _ _ (⟨(⟨#[97]⟩ : ByteArray), fa, 0⟩ : S30) [.string (⟨#[97]⟩ : ByteArray), .slice Aa fa.length ca, .int .i64 0] from (k30_mkF _ _ (⟨(⟨#[97]⟩ : ByteArray), fa, 0⟩ : S30) (Kd.R_reads' RA.out).2.1 (Kd.R_F RA.out))) (Reps.c3 (show Kd.FK k30 _ _ (⟨(⟨#[98]⟩ : ByteArray), fb, 0⟩ : S30) [.string (⟨#[98]⟩ : ByteArray), .slice Ab fb.length cb, .int .i64 0] from (k30_mkF _ _ (⟨(⟨#[98]⟩ : ByteArray), fb, 0⟩ : S30) (Kd.R_reads' RB.out).2.1 (Kd.R_F RB.out))) (Reps.none _ _)))); intro v97 w97 ho hb hg_ hnew_; clear hg_ hnew_; obtain ⟨ll, hll⟩ : ∃ y : List S30, y = [(⟨(⟨#[97]⟩ : ByteArray), fa, 0⟩ : S30), (⟨(⟨#[98]⟩ : ByteArray), fb, 0⟩ : S30)] := ⟨_, rfl⟩; rw [← hll] at ho; have NLL := Aside0.mk hll; clear hll; have RL := Aside0.mk ho; clear HB; have HB := Aside0.mk hb; clear ho hb; obtain ⟨Al, cl, el⟩ := Kd.N_slice RL.out; subst el))
                    go_meet
                    case rel => exact ⟨Al, cl, by rw [NLL.out]; rfl, ⟨by rw [NLL.out] at RL; exact RL.out⟩, HB⟩
                  case rest =>
                    clear BK5 BK6 RA RB HB
                    obtain ⟨Al, cl, rfl, RL, HB⟩ := hcut
                    obtain ⟨ll, hll⟩ : ∃ y : List S30, y = tgPair fa fb := ⟨_, rfl⟩
                    rw [← hll] at RL ⊢
                    have HA1 := Aside0.mk (show lay_Of.f K2 ll (⟨#[97]⟩ : ByteArray) = some (X, W, oX, 0) by rw [hll]; exact HA.out)
                    have HB1 := Aside0.mk (show lay_Of.f K2 ll (⟨#[98]⟩ : ByteArray) = some (Y, W, oY, 0) by rw [hll]; exact HBB.out)
                    clear hll HA HBB
                    go_upto_region 19 with (fail)
                    go_cut [14, 15] (fun v14 v15 wc => ∃ g14 A14 n14 c14, v14 = .pointer (some ⟨g14, 0, none⟩) ∧ v15 = .int .i64 0 ∧ Aside0 (wc.heap[g14]? = some (.cells #[.int .i64 X, .int .i64 W, .slice A14 n14 c14] 36 (0, 0))) ∧ Aside0 (Kd.N k30 30 wc w.heap.size (fun _ => True) (.slice Al ll.length cl) ll) ∧ Aside0 (Below w.heap.size w wc))
                    case first =>
                      go_wp2_with (first | (go_at_call 9; (with_reducible refine (lay_Of.calls K2 _ _ ll (⟨#[97]⟩ : ByteArray) X W oX 0 _ (Kd.N_reads' RL.out).2.2 (Kd.N_reads' RL.out).2.1 HA1.out).mono ?_); rintro e w4 ⟨v4, rfl, ho0, hb⟩; obtain ⟨A14, c14, e4⟩ := Kd.R_slice ho0; subst e4; have n0_ := Aside0.mk (Kd.N_below RL.out hb); have n1_ := Aside0.mk (below_step HB.out hb); clear RL HB ho0 hb; have RL := n0_; have HB := n1_; clear n0_ n1_) | ((with_reducible refine gate_dst (N := 14) rfl ?_); (try (refine gate_guard (by rfl) ?_; dsimp only)); refine box_event ?hg (N := 14) ?hd (cs := #[.int .i64 0, .int .i64 0, .slice none 0 0]) (t := 36) ?hr ?_; (case hd => rfl); (case hg => rfl); (case hr => first | (go_simp; done) | (go_simp; rfl)); intro g14 hg w5 hbox hb; have n0_ := Aside0.mk (below_step (by repeat (first | (with_reducible first | exact HB.out | apply below_alloc | apply pw_below_drewN | apply below_drew1) | exact HB.out)) hb); have n1_ := Aside0.mk hbox; have n2_ := Aside0.mk ((by rw [hg]; exact (below_size (by repeat (first | (with_reducible first | exact HB.out | apply below_alloc | apply pw_below_drewN | apply below_drew1) | exact HB.out)))) : w.heap.size ≤ g14); clear HB; have HB := n0_; have BK14 := n1_; have GE14 := n2_; clear n0_ n1_ n2_; have nr_ := Aside0.mk (Kd.N_below (Kd.N_elderB RL.out g14 (Nat.le_of_eq hg.symm)) hb); clear RL; have RL := nr_; clear nr_; clear hb hbox hg; have hc14_0 : w5.cell? ⟨g14, 0, none⟩ = some (.int .i64 0) := (blk_cell BK14.out 0).trans rfl; have hc14_1 : w5.cell? ⟨g14, 1, none⟩ = some (.int .i64 0) := (blk_cell BK14.out 1).trans rfl; have hc14_2 : w5.cell? ⟨g14, 2, none⟩ = some (.slice none 0 0) := (blk_cell BK14.out 2).trans rfl; have hf14_0 := blk_frozen BK14.out 0; have hf14_1 := blk_frozen BK14.out 1; have hf14_2 := blk_frozen BK14.out 2))
                      go_meet
                      case rel => exact ⟨_, _, _, _, rfl, rfl, ⟨blk_put (cs := #[.int .i64 X, .int .i64 W, .slice none 0 0]) (blk_put (cs := #[.int .i64 X, .int .i64 0, .slice none 0 0]) (blk_put (cs := #[.int .i64 0, .int .i64 0, .slice none 0 0]) BK14.out 0 _ rfl) 1 _ rfl) 2 _ rfl⟩, ⟨Kd.N_mono (Kd.N_far (p := ⟨g14, 2, none⟩) (Kd.N_far (p := ⟨g14, 1, none⟩) (Kd.N_far (p := ⟨g14, 0, none⟩) RL.out (fun k hk => hk.2) _) (fun k hk => hk.2) _) (fun k hk => hk.2) _) (fun k hk => trivial)⟩, ⟨below_set (below_set (below_set HB.out GE14.out) GE14.out) GE14.out⟩⟩
                    case rest =>
                      clear RL HB
                      obtain ⟨g14, A14, n14, c14, rfl, rfl, BK14, RL, HB⟩ := hcut
                      go_upto_region 20 with (fail)
                      go_cut [16, 17] (fun v16 v17 wc => ∃ g16 A16 n16 c16, v16 = .pointer (some ⟨g16, 0, none⟩) ∧ v17 = .int .i64 0 ∧ Aside0 (wc.heap[g16]? = some (.cells #[.int .i64 Y, .int .i64 W, .slice A16 n16 c16] 36 (0, 0))) ∧ Aside0 (wc.heap[g14]? = some (.cells #[.int .i64 X, .int .i64 W, .slice A14 n14 c14] 36 (0, 0))) ∧ Aside0 (Kd.N k30 30 wc w.heap.size (fun _ => True) (.slice Al ll.length cl) ll) ∧ Aside0 (Below w.heap.size w wc))
                      case first =>
                        go_wp2_with (first | (go_at_call 9; (with_reducible refine (lay_Of.calls K2 _ _ ll (⟨#[98]⟩ : ByteArray) Y W oY 0 _ (Kd.N_reads' RL.out).2.2 (Kd.N_reads' RL.out).2.1 HB1.out).mono ?_); rintro e w4 ⟨v4, rfl, ho0, hb⟩; obtain ⟨A16, c16, e4⟩ := Kd.R_slice ho0; subst e4; have n0_ := Aside0.mk (Kd.N_below RL.out hb); have n1_ := Aside0.mk (below_step HB.out hb); have np0_ := Aside0.mk (blk_below BK14.out hb); clear BK14; have BK14 := np0_; clear np0_; clear RL HB ho0 hb; have RL := n0_; have HB := n1_; clear n0_ n1_) | ((with_reducible refine gate_dst (N := 16) rfl ?_); (try (refine gate_guard (by rfl) ?_; dsimp only)); refine box_event ?hg (N := 16) ?hd (cs := #[.int .i64 0, .int .i64 0, .slice none 0 0]) (t := 36) ?hr ?_; (case hd => rfl); (case hg => rfl); (case hr => first | (go_simp; done) | (go_simp; rfl)); intro g16 hg w5 hbox hb; have n0_ := Aside0.mk (blk_below (by (with_reducible repeat (first | refine blk_drewN ?_ _ | refine blk_drew ?_ | refine blk_alloc ?_ _)); exact BK14.out) hb); have n1_ := Aside0.mk (below_step (by repeat (first | (with_reducible first | exact HB.out | apply below_alloc | apply pw_below_drewN | apply below_drew1) | exact HB.out)) hb); have n2_ := Aside0.mk hbox; have n3_ := Aside0.mk ((by rw [hg]; exact (below_size (by repeat (first | (with_reducible first | exact HB.out | apply below_alloc | apply pw_below_drewN | apply below_drew1) | exact HB.out)))) : w.heap.size ≤ g16); have n4_ := Aside0.mk ((by rw [hg]; exact Nat.ne_of_lt (blk_lt (by (with_reducible repeat (first | refine blk_drewN ?_ _ | refine blk_drew ?_ | refine blk_alloc ?_ _)); exact BK14.out))) : g14 ≠ g16); clear BK14; clear HB; have BK14 := n0_; have HB := n1_; have BK16 := n2_; have GE16 := n3_; have NB14_16 := n4_; clear n0_ n1_ n2_ n3_ n4_; have nr_ := Aside0.mk (Kd.N_below (Kd.N_elderB RL.out g16 (Nat.le_of_eq hg.symm)) hb); clear RL; have RL := nr_; clear nr_; clear hb hbox hg; have NB16_14 := Aside0.mk (Ne.symm NB14_16.out); have hc16_0 : w5.cell? ⟨g16, 0, none⟩ = some (.int .i64 0) := (blk_cell BK16.out 0).trans rfl; have hc16_1 : w5.cell? ⟨g16, 1, none⟩ = some (.int .i64 0) := (blk_cell BK16.out 1).trans rfl; have hc16_2 : w5.cell? ⟨g16, 2, none⟩ = some (.slice none 0 0) := (blk_cell BK16.out 2).trans rfl; have hf16_0 := blk_frozen BK16.out 0; have hf16_1 := blk_frozen BK16.out 1; have hf16_2 := blk_frozen BK16.out 2))
                        go_meet
                        case rel => exact ⟨_, _, _, _, rfl, rfl, ⟨blk_put (cs := #[.int .i64 Y, .int .i64 W, .slice none 0 0]) (blk_put (cs := #[.int .i64 Y, .int .i64 0, .slice none 0 0]) (blk_put (cs := #[.int .i64 0, .int .i64 0, .slice none 0 0]) BK16.out 0 _ rfl) 1 _ rfl) 2 _ rfl⟩, ⟨blk_far (blk_far (blk_far BK14.out NB14_16.out _) NB14_16.out _) NB14_16.out _⟩, ⟨Kd.N_mono (Kd.N_far (p := ⟨g16, 2, none⟩) (Kd.N_far (p := ⟨g16, 1, none⟩) (Kd.N_far (p := ⟨g16, 0, none⟩) RL.out (fun k hk => hk.2) _) (fun k hk => hk.2) _) (fun k hk => hk.2) _) (fun k hk => trivial)⟩, ⟨below_set (below_set (below_set HB.out GE16.out) GE16.out) GE16.out⟩⟩
                      case rest =>
                        clear BK14 RL HB
                        obtain ⟨g16, A16, n16, c16, rfl, rfl, BK16, BK14, RL, HB⟩ := hcut
                        have hc14_0 : wc.cell? ⟨g14, 0, none⟩ = some (.int .i64 X) := (blk_cell BK14.out 0).trans rfl
                        have hc14_1 : wc.cell? ⟨g14, 1, none⟩ = some (.int .i64 W) := (blk_cell BK14.out 1).trans rfl
                        have hc14_2 : wc.cell? ⟨g14, 2, none⟩ = some (.slice A14 n14 c14) := (blk_cell BK14.out 2).trans rfl
                        have hf14_0 := blk_frozen BK14.out 0
                        have hf14_1 := blk_frozen BK14.out 1
                        have hf14_2 := blk_frozen BK14.out 2
                        have hc16_0 : wc.cell? ⟨g16, 0, none⟩ = some (.int .i64 Y) := (blk_cell BK16.out 0).trans rfl
                        have hc16_1 : wc.cell? ⟨g16, 1, none⟩ = some (.int .i64 W) := (blk_cell BK16.out 1).trans rfl
                        have hc16_2 : wc.cell? ⟨g16, 2, none⟩ = some (.slice A16 n16 c16) := (blk_cell BK16.out 2).trans rfl
                        have hf16_0 := blk_frozen BK16.out 0
                        have hf16_1 := blk_frozen BK16.out 1
                        have hf16_2 := blk_frozen BK16.out 2
                        obtain ⟨f2, f3, f4⟩ := HF2.out
                        obtain ⟨P, hP⟩ : ∃ P : Int, W * (ks.length : Int) = P := ⟨_, rfl⟩
                        rw [hP] at f4
                        have hW1 : 1 ≤ W := by have := HF6.out; omega
                        have hW0 : 0 < W := by omega
                        have hW2 : 0 ≤ W := by omega
                        have hWz : (W == 0) = false := by rw [beq_eq_false_iff_ne]; omega
                        have hlen : ks.length ≤ 12 := by have := H12.out; omega
                        have hP0 : 0 ≤ P := by rcases HF6.out with e | e | e <;> rw [e] at hP <;> omega
                        have hP1 : P ≤ 96 := by rcases HF6.out with e | e | e <;> rw [e] at hP <;> omega
                        have hX0 : 0 ≤ X := by omega
                        have hm1 : X % W = 0 := HF1.out
                        have hm2 : X.tmod W = 0 := by rw [Int.tmod_eq_emod_of_nonneg hX0]; exact hm1
                        have d1 : decide (X ≥ S) = true := decide_eq_true f2
                        have d1' : decide (S ≤ X) = true := decide_eq_true f2
                        have d2 : decide (Y ≥ S) = true := decide_eq_true f3
                        have d2' : decide (S ≤ Y) = true := decide_eq_true f3
                        have d3 : decide (X < S + P) = true := decide_eq_true f4
                        clear f2 f3 f4
                        cases hs : tgSame ks ks.length with
                        | false =>
                          go_wp2
                          go_ret
                          exact ⟨rfl, HB.out⟩
                        | true =>
                          obtain ⟨e1, e2⟩ := HF5.out hs
                          have b1 : (X == S) = true := by rw [e1]; exact beq_self_eq_true S
                          have b2 : (Y == S) = true := by rw [e2]; exact beq_self_eq_true S
                          clear e1 e2
                          go_wp2
                          go_ret
                          exact ⟨rfl, HB.out⟩
theorem ev_awake8 : Ev (fun k => hauberklaw04_awake.f k) true := by
  refine Ev.of (fun k => hauberklaw04_awake.mono k) (k := 10) ?_
  decide +kernel
end Go.Proofs.Ytgpdopfkkopgjaa.K
