/- What code.Room and the law CodeSteps answer. Conditions: those of each theorem. -/
import Derived.Test.YtkacoffiinggiaaProg
import Derived.Below
import Derived.Deep.Draws
import Derived.Deep.AppendLies
import Derived.Maps.AppendAt
import Derived.OwnWalk
import Derived.Laws.BytesArg
import Derived.Laws.MakeOwn
import Derived.Laws.OwnMore
import Derived.Deep.OwnRows
import Derived.Tactics
import Derived.Lib.ConvBytes
import Derived.Laws.Slices
import Derived.WalkKit
import Derived.KernelRfl
import Derived.RowKit3
import Derived.Deep.LoopGhost
import Derived.Deep.QuietTactic
import Derived.BigQuiet
import Derived.WideLaws
import Derived.Deep.DeepCutAuto
import Derived.Deep.CutBlock
import Derived.Deep.RegionHeld3
import Derived.Laws.Rows
import Derived.Lib.AppendStr
import Derived.ArgAppend
import Derived.Laws.IdiomCopy
import Derived.OrdersHeld
import Derived.Laws.BitsLemmas
import Derived.RowKit
import Derived.RegionTactic
import Derived.Deep.RegionWith
import Derived.Lib.Hide
import Derived.Test.YtkacoffiinggiaaWWords
import Derived.Test.YtkacoffiinggiaaWLast
import Derived.Test.YtkacoffiinggiaaWTab
import Derived.Test.YtkacoffiinggiaaWFour
import Derived.Test.YtkacoffiinggiaaWQPut
import Derived.Test.YtkacoffiinggiaaWApart
import Derived.Test.YtkacoffiinggiaaWArr
import Derived.Test.YtkacoffiinggiaaWZeros
import Derived.Test.YtkacoffiinggiaaWFoot
import Derived.Test.YtkacoffiinggiaaWKept
import Derived.Test.YtkacoffiinggiaaWShare
import Derived.Test.YtkacoffiinggiaaWN
import Derived.Test.YtkacoffiinggiaaWEqStruct
import Derived.Test.YtkacoffiinggiaaWRepsOne
import Derived.Test.YtkacoffiinggiaaWGuard
import Derived.Test.YtkacoffiinggiaaWNEv
import Derived.Test.YtkacoffiinggiaaWMore
import Derived.Test.YtkacoffiinggiaaDec
import Derived.Test.YtkacoffiinggiaaK7
import Derived.Test.YtkacoffiinggiaaPureApart
import Derived.Laws.Tables
namespace Go.Proofs.Ytkacoffiinggiaa.K
open Go.RowKit Go.Proofs.YtkacoffiinggiaaW.PrintWords Go.Proofs.YtkacoffiinggiaaW.PrintLast Go.Proofs.YtkacoffiinggiaaW.PrintMore
set_option linter.unusedVariables false
set_option linter.unusedSimpArgs false
theorem room_field (a b c d : Value) (w : World) : (Instr.field 48 (.agg #[a, b, c, d]) 0).run Try.prog w = .ok a w := by kernel_rfl
theorem room_look (w : World) (r : Nat) (h : w.heap[r]? = some (cm_st cm_e13)) (op : Int) :
    (Instr.lookup 50 (.map (some r)) (.int .i64 op) false).run Try.prog w = .ok (.agg #[.int .u8 (cm_ent op).form, .int .u32 (cm_ent op).op, .int .u32 (cm_ent op).f3, .int .u32 (cm_ent op).f7]) w := by
  have := cm_look w r cm_e13 h op false
  rw [if_neg (by decide), (cm_at_find op cm_e13 0).1] at this
  exact this
set_option maxHeartbeats 2000000 in
set_option maxRecDepth 100000 in
theorem room_calls (op : Int) (w : World) : Calls Try.prog 13 #[.int .i64 op] w fun e w' => e = .returned (.tuple #[.int .i64 (cf_room (cm_ent op).form).1, .int .i64 (cf_room (cm_ent op).form).2]) ∧ Below w.heap.size w w' := by
  have HB := Aside0.mk (Below.refl w.heap.size w)
  have hu48 := Try.underlying48
  have hfd := room_field
  have HF := Aside0.mk (cm_ent_ok op)
  obtain ⟨⟨lo, hi⟩, hr⟩ : ∃ r, cf_room (cm_ent op).form = r := ⟨_, rfl⟩
  have HR := Aside0.mk hr
  rw [hr]
  clear hr
  go_enter Try.func13, Try.ntmps13
  go_wp2_with (first | (go_at_call 14; refine (code_shapes' _).mono ?_; rintro e w2 ⟨gm, hgm, rfl, hm, hb⟩; have hlk := room_look w2 gm hm op; have n0_ := Aside0.mk (below_step HB.out hb); clear HB; have HB := n0_; clear n0_ hb hm hgm) | (go_at_call 15; refine (cf_room_calls' _ HF.out lo hi HR.out _).mono ?_; rintro e w' ⟨rfl, hw⟩; obtain rfl := hw.symm; clear hw))
  go_ret2
  exact ⟨rfl, HB.out⟩
theorem wpList_build_eq {P : Program} {ops : Array Oper} {rest : List Oper} {o : Oper} {a : Act} {w : World} {Q : Exit → Act → World → Prop} (hg : o.guard = none) (t : TypeId) (parts : Array (Nat × Operand)) (ho : o.op = .build t parts) (cs : Array Value)
    (hb : P.built t (parts.map fun (i, x) => (i, a.eval x)).toList = some cs) (h : wpList P ops Q rest (a.put o.dst (.agg cs)) w) : wpList P ops Q (o :: rest) a w :=
  wpList_build hg t parts ho (by rw [hb]; rfl) (by rw [hb]; exact h)
theorem steps_tm (n m : Int) (hm : 0 < m) : (IntKind.u64.wrap n).tmod m = n % 18446744073709551616 % m := by
  have e : IntKind.u64.wrap n = n % 18446744073709551616 := by simp [IntKind.wrap, IntKind.bits, IntKind.signed]
  rw [e, Int.tmod_eq_emod_of_nonneg (by omega)]
theorem fits_ex (e : Ent) (he : RowOk e) (imm : Int) (h : (e.form = 73 ∧ -2048 ≤ imm ∧ imm ≤ 2047) ∨ (e.form = 84 ∧ 0 ≤ imm ∧ imm ≤ 63) ∨ (e.form = 83 ∧ -2048 ≤ imm ∧ imm ≤ 2047) ∨ (e.form = 66 ∧ -4096 ≤ imm ∧ imm ≤ 4094 ∧ imm % 2 = 0) ∨ (e.form = 85 ∧ -524288 ≤ imm ∧ imm ≤ 524287) ∨ (e.form = 74 ∧ -1048576 ≤ imm ∧ imm ≤ 1048574 ∧ imm % 2 = 0)) : ∃ x, Fits e 0 0 0 imm x := by
  unfold Fits
  rcases h with ⟨h1, h2, h3⟩ | ⟨h1, h2, h3⟩ | ⟨h1, h2, h3⟩ | ⟨h1, h2, h3, h4⟩ | ⟨h1, h2, h3⟩ | ⟨h1, h2, h3, h4⟩
  · exact ⟨_, by omega, .inr (.inl ⟨h1, rfl, h2, h3, rfl⟩)⟩
  · exact ⟨_, by omega, .inr (.inr (.inl ⟨h1, rfl, h2, h3, rfl⟩))⟩
  · exact ⟨_, by omega, .inr (.inr (.inr (.inl ⟨h1, rfl, h2, h3, rfl⟩)))⟩
  · exact ⟨_, by omega, .inr (.inr (.inr (.inr (.inl ⟨h1, rfl, h2, h3, h4, rfl⟩))))⟩
  · exact ⟨_, by omega, .inr (.inr (.inr (.inr (.inr (.inl ⟨h1, rfl, rfl, h2, h3, rfl⟩)))))⟩
  · exact ⟨_, by omega, .inr (.inr (.inr (.inr (.inr (.inr (.inl ⟨h1, rfl, rfl, h2, h3, h4, rfl⟩))))))⟩
theorem steps_enc (op F : Int) (h1 : (1 : Int) = 1) (h2 : (1 : Int) = 1) (imm : Int) (hf : cm_has op = true ∧ (cm_ent op).form = F) (h : (F = 73 ∧ -2048 ≤ imm ∧ imm ≤ 2047) ∨ (F = 84 ∧ 0 ≤ imm ∧ imm ≤ 63) ∨ (F = 83 ∧ -2048 ≤ imm ∧ imm ≤ 2047) ∨ (F = 66 ∧ -4096 ≤ imm ∧ imm ≤ 4094 ∧ imm % 2 = 0) ∨ (F = 85 ∧ -524288 ≤ imm ∧ imm ≤ 524287) ∨ (F = 74 ∧ -1048576 ≤ imm ∧ imm ≤ 1048574 ∧ imm % 2 = 0)) : ∃ x, enc_r op 0 0 0 imm = (x, 0) := by
  rw [← hf.2] at h
  obtain ⟨x, hx⟩ := fits_ex (cm_ent op) (rows_ok _ (has_mem hf.1).1) imm h
  exact ⟨x, (enc_r_iff _ _ _ _ _ _).2 ⟨hf.1, hx⟩⟩
/-- A word is read back. -/
theorem dec_enc {a0 a1 a2 a3 a4 x : Int} (h : enc_r a0 a1 a2 a3 a4 = (x, 0)) : dec_r x = (a0, a1, a2, a3, a4, 0) ∧ 0 ≤ x ∧ x < 4294967296 := by
  obtain ⟨hh, hf⟩ := (enc_r_iff _ _ _ _ _ _).1 h
  obtain ⟨hm, hn⟩ := has_mem hh
  obtain ⟨hx, _, _, _, _, hd⟩ := fits_dec _ (rows_ok _ hm) _ _ _ _ _ hf
  have hit : Hit (cm_ent a0) x := by
    unfold Hit
    rw [hd, hn]
    exact h
  refine ⟨?_, hx⟩
  unfold dec_r
  cases hc : dec_fi x with
  | none => exact absurd hit (dec_fi_none hc _ hm)
  | some s =>
    obtain ⟨hs, h3⟩ := dec_fi_some hc
    obtain rfl := hit_one hm hs hit h3
    simp only [hd, hn]
theorem dec_f_of {a0 a1 a2 a3 a4 x : Int} (h : enc_r a0 a1 a2 a3 a4 = (x, 0)) : code_Decode.f x = some (a0, a1, a2, a3, a4, 0) := by
  unfold code_Decode.f
  rw [if_pos (dec_enc h).2, (dec_enc h).1]
theorem room_calls' (op lo hi : Int) (h : cf_room (cm_ent op).form = (lo, hi)) (w : World) : Calls Try.prog 13 #[.int .i64 op] w fun e w' => e = .returned (.tuple #[.int .i64 lo, .int .i64 hi]) ∧ Below w.heap.size w w' :=
  (room_calls op w).mono fun e w' ⟨h1, h2⟩ => ⟨by rw [h1, h], h2⟩
theorem steps_ix0 (w : World) : (Instr.index 41 (.agg #[.int .i64 28, .int .i64 36, .int .i64 44, .int .i64 47, .int .i64 51, .int .i64 53, .int .i64 37, .int .i64 39]) (.int .u8 0)).run Try.prog w = .ok (.int .i64 28) w := by kernel_rfl
theorem steps_ix1 (w : World) : (Instr.index 41 (.agg #[.int .i64 28, .int .i64 36, .int .i64 44, .int .i64 47, .int .i64 51, .int .i64 53, .int .i64 37, .int .i64 39]) (.int .u8 1)).run Try.prog w = .ok (.int .i64 36) w := by kernel_rfl
theorem steps_ix2 (w : World) : (Instr.index 41 (.agg #[.int .i64 28, .int .i64 36, .int .i64 44, .int .i64 47, .int .i64 51, .int .i64 53, .int .i64 37, .int .i64 39]) (.int .u8 2)).run Try.prog w = .ok (.int .i64 44) w := by kernel_rfl
theorem steps_ix3 (w : World) : (Instr.index 41 (.agg #[.int .i64 28, .int .i64 36, .int .i64 44, .int .i64 47, .int .i64 51, .int .i64 53, .int .i64 37, .int .i64 39]) (.int .u8 3)).run Try.prog w = .ok (.int .i64 47) w := by kernel_rfl
theorem steps_ix4 (w : World) : (Instr.index 41 (.agg #[.int .i64 28, .int .i64 36, .int .i64 44, .int .i64 47, .int .i64 51, .int .i64 53, .int .i64 37, .int .i64 39]) (.int .u8 4)).run Try.prog w = .ok (.int .i64 51) w := by kernel_rfl
theorem steps_ix5 (w : World) : (Instr.index 41 (.agg #[.int .i64 28, .int .i64 36, .int .i64 44, .int .i64 47, .int .i64 51, .int .i64 53, .int .i64 37, .int .i64 39]) (.int .u8 5)).run Try.prog w = .ok (.int .i64 53) w := by kernel_rfl
theorem steps_ix6 (w : World) : (Instr.index 41 (.agg #[.int .i64 28, .int .i64 36, .int .i64 44, .int .i64 47, .int .i64 51, .int .i64 53, .int .i64 37, .int .i64 39]) (.int .u8 6)).run Try.prog w = .ok (.int .i64 37) w := by kernel_rfl
theorem steps_ix7 (w : World) : (Instr.index 41 (.agg #[.int .i64 28, .int .i64 36, .int .i64 44, .int .i64 47, .int .i64 51, .int .i64 53, .int .i64 37, .int .i64 39]) (.int .u8 7)).run Try.prog w = .ok (.int .i64 39) w := by kernel_rfl
set_option maxHeartbeats 8000000 in
set_option maxRecDepth 100000 in
theorem steps_calls (which n : Int) (hw0 : 0 ≤ which) (hw1 : which < 256) (w : World) : Calls Try.prog 7 #[.int .u8 which, .int .i64 n] w fun e w' => e = .returned (.bool true) ∧ Below w.heap.size w w' := by
  have HB := Aside0.mk (Below.refl w.heap.size w)
  have hu29 := Try.underlying29
  go_enter Try.func7, Try.ntmps7
  have hj : which % 8 = 0 ∨ which % 8 = 1 ∨ which % 8 = 2 ∨ which % 8 = 3 ∨ which % 8 = 4 ∨ which % 8 = 5 ∨ which % 8 = 6 ∨ which % 8 = 7 := by omega
  rcases hj with hj | hj | hj | hj | hj | hj | hj | hj
  · as_aux_lemma =>
      have HK : ∃ k, -2048 + 1 * (n % 18446744073709551616 % 4095) = k := ⟨_, rfl⟩
      obtain ⟨k, hk⟩ := HK
      have HK := Aside0.mk hk
      have hk0 : -2048 ≤ k ∧ k + 1 ≤ 2047 := by omega
      obtain ⟨x, hx⟩ := steps_enc 28 73 rfl rfl k (by decide +kernel) (by simp; omega)
      obtain ⟨y, hy⟩ := steps_enc 28 73 rfl rfl (k + 1) (by decide +kernel) (by simp; omega)
      have hne : x ≠ y := fun h => by subst h; have := (enc_apart hx hy).2.2.2.2; omega
      have HX : Aside0 (code_Encode.f 28 0 0 0 k = some (x, 0)) := ⟨congrArg some hx⟩
      have HY : Aside0 (code_Encode.f 28 0 0 0 (k + 1) = some (y, 0)) := ⟨congrArg some hy⟩
      have HDX := Aside0.mk (dec_f_of hx)
      have HDY := Aside0.mk (dec_f_of hy)
      have HK0 := Aside0.mk hk0
      clear hx hy hk hk0
      have hix : ∀ w, (Instr.index 41 (.agg #[.int .i64 28, .int .i64 36, .int .i64 44, .int .i64 47, .int .i64 51, .int .i64 53, .int .i64 37, .int .i64 39]) (.int .u8 (which % 8))).run Try.prog w = .ok (.int .i64 28) w := fun w => by rw [hj]; exact steps_ix0 w
      clear hj
      go_upto_region 10 with (first | (go_at_call 8; (with_reducible refine (hauberklaw02_awake.calls true _ awake_true).mono ?_); rintro e w3 ⟨rfl, hb⟩; have n0_ := Aside0.mk (below_step HB.out hb); clear HB; have HB := n0_; clear n0_ hb) | (go_at_call 13; (with_reducible refine (room_calls' 28 (-2048) (2047) (by decide +kernel) _).mono ?_); rintro e w4 ⟨rfl, hb⟩; have n0_ := Aside0.mk (below_step HB.out hb); clear HB; have HB := n0_; clear n0_ hb) | ((with_reducible refine gate_dst (N := 20) rfl ?_); refine wpList_build_eq rfl 41 _ rfl #[.int .i64 28, .int .i64 36, .int .i64 44, .int .i64 47, .int .i64 51, .int .i64 53, .int .i64 37, .int .i64 39] (by rw [List.map_toArray]; simp only [List.map_cons, List.map_nil, Act.eval]; kernel_rfl) ?_))
      go_cut [9] (fun v9 wc => v9 = .int .i64 k ∧ Aside0 (Below w.heap.size w wc))
      case first =>
        go_wp2
        go_meet
        case rel => exact ⟨congrArg (Value.int .i64) ((by rw [steps_tm n 4095 (by decide)]; unfold wrap64; omega : _ = -2048 + 1 * (n % 18446744073709551616 % 4095)).trans HK.out), HB⟩
      case rest =>
        clear HB
        obtain ⟨rfl, HB⟩ := hcut
        obtain ⟨hk0, hk1⟩ := HK0.out
        go_upto_region 13 with (first | (go_at_call 9; (with_reducible refine (code_Encode.calls 28 0 0 0 k x 0 _ HX.out).mono ?_); rintro e w5 ⟨rfl, hb⟩; have n0_ := Aside0.mk (below_step HB.out hb); clear HB; have HB := n0_; clear n0_ hb) | (go_at_call 9; (with_reducible refine (code_Encode.calls 28 0 0 0 (k + 1) y 0 _ HY.out).mono ?_); rintro e w6 ⟨rfl, hb⟩; have n0_ := Aside0.mk (below_step HB.out hb); clear HB; have HB := n0_; clear n0_ hb))
        go_cut [14, 15] (fun v14 v15 wc => v15 = .int .i64 0 ∧ ∃ g14, v14 = .pointer (some ⟨g14, 0, none⟩) ∧ Aside0 (wc.heap[g14]? = some (.cells #[.int .i64 28, .int .i64 0, .int .i64 0, .int .i64 0, .int .i64 k] 29 (0, 0))) ∧ Aside0 (Below w.heap.size w wc))
        case first =>
          go_wp2_with (first | (go_at_call 11; (with_reducible refine (code_Decode.calls x 28 0 0 0 k 0 _ HDX.out).mono ?_); rintro e w7 ⟨rfl, hb⟩; have n0_ := Aside0.mk (below_step HB.out hb); clear HB; have HB := n0_; clear n0_ hb))
          go_meet
          case rel => exact ⟨rfl, _, rfl, ⟨heap_alloc_new _ _⟩, ⟨HB.out.alloc HB.out.size _⟩⟩
        case rest =>
          clear HB
          obtain ⟨rfl, g14, rfl, BK14, HB⟩ := hcut
          go_upto_region 14 with (fail)
          go_cut [16, 17] (fun v16 v17 wc => v17 = .int .i64 0 ∧ ∃ g16, v16 = .pointer (some ⟨g16, 0, none⟩) ∧ Aside0 (wc.heap[g16]? = some (.cells #[.int .i64 28, .int .i64 0, .int .i64 0, .int .i64 0, .int .i64 (k + 1)] 29 (0, 0))) ∧ Aside0 (wc.heap[g14]? = some (.cells #[.int .i64 28, .int .i64 0, .int .i64 0, .int .i64 0, .int .i64 k] 29 (0, 0))) ∧ Aside0 (Below w.heap.size w wc))
          case first =>
            go_wp2_with (first | (go_at_call 11; (with_reducible refine (code_Decode.calls y 28 0 0 0 (k + 1) 0 _ HDY.out).mono ?_); rintro e w8 ⟨rfl, hb⟩; have n0_ := Aside0.mk (blk_below BK14.out hb); have n1_ := Aside0.mk (below_step HB.out hb); clear BK14 HB; have BK14 := n0_; have HB := n1_; clear n0_ n1_ hb))
            go_meet
            case rel => exact ⟨rfl, _, rfl, ⟨heap_alloc_new _ _⟩, ⟨blk_al BK14.out _⟩, ⟨HB.out.alloc HB.out.size _⟩⟩
          case rest =>
            clear BK14 HB
            obtain ⟨rfl, g16, rfl, BK16, BK14, HB⟩ := hcut
            have hc14 : wc.cell? ⟨g14, 4, none⟩ = some (.int .i64 k) := (blk_cell BK14.out 4).trans rfl
            have hf14 := blk_frozen BK14.out 4
            have hc16 : wc.cell? ⟨g16, 4, none⟩ = some (.int .i64 (k + 1)) := (blk_cell BK16.out 4).trans rfl
            have hf16 := blk_frozen BK16.out 4
            go_wp2
            go_ret
            exact ⟨by simp [hne], HB.out⟩
  · as_aux_lemma =>
      have HK : ∃ k, 0 + 1 * (n % 18446744073709551616 % 63) = k := ⟨_, rfl⟩
      obtain ⟨k, hk⟩ := HK
      have HK := Aside0.mk hk
      have hk0 : 0 ≤ k ∧ k + 1 ≤ 63 := by omega
      obtain ⟨x, hx⟩ := steps_enc 36 84 rfl rfl k (by decide +kernel) (by simp; omega)
      obtain ⟨y, hy⟩ := steps_enc 36 84 rfl rfl (k + 1) (by decide +kernel) (by simp; omega)
      have hne : x ≠ y := fun h => by subst h; have := (enc_apart hx hy).2.2.2.2; omega
      have HX : Aside0 (code_Encode.f 36 0 0 0 k = some (x, 0)) := ⟨congrArg some hx⟩
      have HY : Aside0 (code_Encode.f 36 0 0 0 (k + 1) = some (y, 0)) := ⟨congrArg some hy⟩
      have HDX := Aside0.mk (dec_f_of hx)
      have HDY := Aside0.mk (dec_f_of hy)
      have HK0 := Aside0.mk hk0
      clear hx hy hk hk0
      have hix : ∀ w, (Instr.index 41 (.agg #[.int .i64 28, .int .i64 36, .int .i64 44, .int .i64 47, .int .i64 51, .int .i64 53, .int .i64 37, .int .i64 39]) (.int .u8 (which % 8))).run Try.prog w = .ok (.int .i64 36) w := fun w => by rw [hj]; exact steps_ix1 w
      clear hj
      go_upto_region 10 with (first | (go_at_call 8; (with_reducible refine (hauberklaw02_awake.calls true _ awake_true).mono ?_); rintro e w3 ⟨rfl, hb⟩; have n0_ := Aside0.mk (below_step HB.out hb); clear HB; have HB := n0_; clear n0_ hb) | (go_at_call 13; (with_reducible refine (room_calls' 36 (0) (63) (by decide +kernel) _).mono ?_); rintro e w4 ⟨rfl, hb⟩; have n0_ := Aside0.mk (below_step HB.out hb); clear HB; have HB := n0_; clear n0_ hb) | ((with_reducible refine gate_dst (N := 20) rfl ?_); refine wpList_build_eq rfl 41 _ rfl #[.int .i64 28, .int .i64 36, .int .i64 44, .int .i64 47, .int .i64 51, .int .i64 53, .int .i64 37, .int .i64 39] (by rw [List.map_toArray]; simp only [List.map_cons, List.map_nil, Act.eval]; kernel_rfl) ?_))
      go_cut [9] (fun v9 wc => v9 = .int .i64 k ∧ Aside0 (Below w.heap.size w wc))
      case first =>
        go_wp2
        go_meet
        case rel => exact ⟨congrArg (Value.int .i64) ((by rw [steps_tm n 63 (by decide)]; unfold wrap64; omega : _ = 0 + 1 * (n % 18446744073709551616 % 63)).trans HK.out), HB⟩
      case rest =>
        clear HB
        obtain ⟨rfl, HB⟩ := hcut
        obtain ⟨hk0, hk1⟩ := HK0.out
        go_upto_region 13 with (first | (go_at_call 9; (with_reducible refine (code_Encode.calls 36 0 0 0 k x 0 _ HX.out).mono ?_); rintro e w5 ⟨rfl, hb⟩; have n0_ := Aside0.mk (below_step HB.out hb); clear HB; have HB := n0_; clear n0_ hb) | (go_at_call 9; (with_reducible refine (code_Encode.calls 36 0 0 0 (k + 1) y 0 _ HY.out).mono ?_); rintro e w6 ⟨rfl, hb⟩; have n0_ := Aside0.mk (below_step HB.out hb); clear HB; have HB := n0_; clear n0_ hb))
        go_cut [14, 15] (fun v14 v15 wc => v15 = .int .i64 0 ∧ ∃ g14, v14 = .pointer (some ⟨g14, 0, none⟩) ∧ Aside0 (wc.heap[g14]? = some (.cells #[.int .i64 36, .int .i64 0, .int .i64 0, .int .i64 0, .int .i64 k] 29 (0, 0))) ∧ Aside0 (Below w.heap.size w wc))
        case first =>
          go_wp2_with (first | (go_at_call 11; (with_reducible refine (code_Decode.calls x 36 0 0 0 k 0 _ HDX.out).mono ?_); rintro e w7 ⟨rfl, hb⟩; have n0_ := Aside0.mk (below_step HB.out hb); clear HB; have HB := n0_; clear n0_ hb))
          go_meet
          case rel => exact ⟨rfl, _, rfl, ⟨heap_alloc_new _ _⟩, ⟨HB.out.alloc HB.out.size _⟩⟩
        case rest =>
          clear HB
          obtain ⟨rfl, g14, rfl, BK14, HB⟩ := hcut
          go_upto_region 14 with (fail)
          go_cut [16, 17] (fun v16 v17 wc => v17 = .int .i64 0 ∧ ∃ g16, v16 = .pointer (some ⟨g16, 0, none⟩) ∧ Aside0 (wc.heap[g16]? = some (.cells #[.int .i64 36, .int .i64 0, .int .i64 0, .int .i64 0, .int .i64 (k + 1)] 29 (0, 0))) ∧ Aside0 (wc.heap[g14]? = some (.cells #[.int .i64 36, .int .i64 0, .int .i64 0, .int .i64 0, .int .i64 k] 29 (0, 0))) ∧ Aside0 (Below w.heap.size w wc))
          case first =>
            go_wp2_with (first | (go_at_call 11; (with_reducible refine (code_Decode.calls y 36 0 0 0 (k + 1) 0 _ HDY.out).mono ?_); rintro e w8 ⟨rfl, hb⟩; have n0_ := Aside0.mk (blk_below BK14.out hb); have n1_ := Aside0.mk (below_step HB.out hb); clear BK14 HB; have BK14 := n0_; have HB := n1_; clear n0_ n1_ hb))
            go_meet
            case rel => exact ⟨rfl, _, rfl, ⟨heap_alloc_new _ _⟩, ⟨blk_al BK14.out _⟩, ⟨HB.out.alloc HB.out.size _⟩⟩
          case rest =>
            clear BK14 HB
            obtain ⟨rfl, g16, rfl, BK16, BK14, HB⟩ := hcut
            have hc14 : wc.cell? ⟨g14, 4, none⟩ = some (.int .i64 k) := (blk_cell BK14.out 4).trans rfl
            have hf14 := blk_frozen BK14.out 4
            have hc16 : wc.cell? ⟨g16, 4, none⟩ = some (.int .i64 (k + 1)) := (blk_cell BK16.out 4).trans rfl
            have hf16 := blk_frozen BK16.out 4
            go_wp2
            go_ret
            exact ⟨by simp [hne], HB.out⟩
  · as_aux_lemma =>
      have HK : ∃ k, -2048 + 1 * (n % 18446744073709551616 % 4095) = k := ⟨_, rfl⟩
      obtain ⟨k, hk⟩ := HK
      have HK := Aside0.mk hk
      have hk0 : -2048 ≤ k ∧ k + 1 ≤ 2047 := by omega
      obtain ⟨x, hx⟩ := steps_enc 44 83 rfl rfl k (by decide +kernel) (by simp; omega)
      obtain ⟨y, hy⟩ := steps_enc 44 83 rfl rfl (k + 1) (by decide +kernel) (by simp; omega)
      have hne : x ≠ y := fun h => by subst h; have := (enc_apart hx hy).2.2.2.2; omega
      have HX : Aside0 (code_Encode.f 44 0 0 0 k = some (x, 0)) := ⟨congrArg some hx⟩
      have HY : Aside0 (code_Encode.f 44 0 0 0 (k + 1) = some (y, 0)) := ⟨congrArg some hy⟩
      have HDX := Aside0.mk (dec_f_of hx)
      have HDY := Aside0.mk (dec_f_of hy)
      have HK0 := Aside0.mk hk0
      clear hx hy hk hk0
      have hix : ∀ w, (Instr.index 41 (.agg #[.int .i64 28, .int .i64 36, .int .i64 44, .int .i64 47, .int .i64 51, .int .i64 53, .int .i64 37, .int .i64 39]) (.int .u8 (which % 8))).run Try.prog w = .ok (.int .i64 44) w := fun w => by rw [hj]; exact steps_ix2 w
      clear hj
      go_upto_region 10 with (first | (go_at_call 8; (with_reducible refine (hauberklaw02_awake.calls true _ awake_true).mono ?_); rintro e w3 ⟨rfl, hb⟩; have n0_ := Aside0.mk (below_step HB.out hb); clear HB; have HB := n0_; clear n0_ hb) | (go_at_call 13; (with_reducible refine (room_calls' 44 (-2048) (2047) (by decide +kernel) _).mono ?_); rintro e w4 ⟨rfl, hb⟩; have n0_ := Aside0.mk (below_step HB.out hb); clear HB; have HB := n0_; clear n0_ hb) | ((with_reducible refine gate_dst (N := 20) rfl ?_); refine wpList_build_eq rfl 41 _ rfl #[.int .i64 28, .int .i64 36, .int .i64 44, .int .i64 47, .int .i64 51, .int .i64 53, .int .i64 37, .int .i64 39] (by rw [List.map_toArray]; simp only [List.map_cons, List.map_nil, Act.eval]; kernel_rfl) ?_))
      go_cut [9] (fun v9 wc => v9 = .int .i64 k ∧ Aside0 (Below w.heap.size w wc))
      case first =>
        go_wp2
        go_meet
        case rel => exact ⟨congrArg (Value.int .i64) ((by rw [steps_tm n 4095 (by decide)]; unfold wrap64; omega : _ = -2048 + 1 * (n % 18446744073709551616 % 4095)).trans HK.out), HB⟩
      case rest =>
        clear HB
        obtain ⟨rfl, HB⟩ := hcut
        obtain ⟨hk0, hk1⟩ := HK0.out
        go_upto_region 13 with (first | (go_at_call 9; (with_reducible refine (code_Encode.calls 44 0 0 0 k x 0 _ HX.out).mono ?_); rintro e w5 ⟨rfl, hb⟩; have n0_ := Aside0.mk (below_step HB.out hb); clear HB; have HB := n0_; clear n0_ hb) | (go_at_call 9; (with_reducible refine (code_Encode.calls 44 0 0 0 (k + 1) y 0 _ HY.out).mono ?_); rintro e w6 ⟨rfl, hb⟩; have n0_ := Aside0.mk (below_step HB.out hb); clear HB; have HB := n0_; clear n0_ hb))
        go_cut [14, 15] (fun v14 v15 wc => v15 = .int .i64 0 ∧ ∃ g14, v14 = .pointer (some ⟨g14, 0, none⟩) ∧ Aside0 (wc.heap[g14]? = some (.cells #[.int .i64 44, .int .i64 0, .int .i64 0, .int .i64 0, .int .i64 k] 29 (0, 0))) ∧ Aside0 (Below w.heap.size w wc))
        case first =>
          go_wp2_with (first | (go_at_call 11; (with_reducible refine (code_Decode.calls x 44 0 0 0 k 0 _ HDX.out).mono ?_); rintro e w7 ⟨rfl, hb⟩; have n0_ := Aside0.mk (below_step HB.out hb); clear HB; have HB := n0_; clear n0_ hb))
          go_meet
          case rel => exact ⟨rfl, _, rfl, ⟨heap_alloc_new _ _⟩, ⟨HB.out.alloc HB.out.size _⟩⟩
        case rest =>
          clear HB
          obtain ⟨rfl, g14, rfl, BK14, HB⟩ := hcut
          go_upto_region 14 with (fail)
          go_cut [16, 17] (fun v16 v17 wc => v17 = .int .i64 0 ∧ ∃ g16, v16 = .pointer (some ⟨g16, 0, none⟩) ∧ Aside0 (wc.heap[g16]? = some (.cells #[.int .i64 44, .int .i64 0, .int .i64 0, .int .i64 0, .int .i64 (k + 1)] 29 (0, 0))) ∧ Aside0 (wc.heap[g14]? = some (.cells #[.int .i64 44, .int .i64 0, .int .i64 0, .int .i64 0, .int .i64 k] 29 (0, 0))) ∧ Aside0 (Below w.heap.size w wc))
          case first =>
            go_wp2_with (first | (go_at_call 11; (with_reducible refine (code_Decode.calls y 44 0 0 0 (k + 1) 0 _ HDY.out).mono ?_); rintro e w8 ⟨rfl, hb⟩; have n0_ := Aside0.mk (blk_below BK14.out hb); have n1_ := Aside0.mk (below_step HB.out hb); clear BK14 HB; have BK14 := n0_; have HB := n1_; clear n0_ n1_ hb))
            go_meet
            case rel => exact ⟨rfl, _, rfl, ⟨heap_alloc_new _ _⟩, ⟨blk_al BK14.out _⟩, ⟨HB.out.alloc HB.out.size _⟩⟩
          case rest =>
            clear BK14 HB
            obtain ⟨rfl, g16, rfl, BK16, BK14, HB⟩ := hcut
            have hc14 : wc.cell? ⟨g14, 4, none⟩ = some (.int .i64 k) := (blk_cell BK14.out 4).trans rfl
            have hf14 := blk_frozen BK14.out 4
            have hc16 : wc.cell? ⟨g16, 4, none⟩ = some (.int .i64 (k + 1)) := (blk_cell BK16.out 4).trans rfl
            have hf16 := blk_frozen BK16.out 4
            go_wp2
            go_ret
            exact ⟨by simp [hne], HB.out⟩
  · as_aux_lemma =>
      have HK : ∃ k, -4096 + 2 * (n % 18446744073709551616 % 4095) = k := ⟨_, rfl⟩
      obtain ⟨k, hk⟩ := HK
      have HK := Aside0.mk hk
      have hk0 : -4096 ≤ k ∧ k + 2 ≤ 4094 ∧ k % 2 = 0 := by omega
      obtain ⟨x, hx⟩ := steps_enc 47 66 rfl rfl k (by decide +kernel) (by simp; omega)
      obtain ⟨y, hy⟩ := steps_enc 47 66 rfl rfl (k + 2) (by decide +kernel) (by simp; omega)
      have hne : x ≠ y := fun h => by subst h; have := (enc_apart hx hy).2.2.2.2; omega
      have HX : Aside0 (code_Encode.f 47 0 0 0 k = some (x, 0)) := ⟨congrArg some hx⟩
      have HY : Aside0 (code_Encode.f 47 0 0 0 (k + 2) = some (y, 0)) := ⟨congrArg some hy⟩
      have HDX := Aside0.mk (dec_f_of hx)
      have HDY := Aside0.mk (dec_f_of hy)
      have HK0 := Aside0.mk hk0
      clear hx hy hk hk0
      have hix : ∀ w, (Instr.index 41 (.agg #[.int .i64 28, .int .i64 36, .int .i64 44, .int .i64 47, .int .i64 51, .int .i64 53, .int .i64 37, .int .i64 39]) (.int .u8 (which % 8))).run Try.prog w = .ok (.int .i64 47) w := fun w => by rw [hj]; exact steps_ix3 w
      clear hj
      go_upto_region 10 with (first | (go_at_call 8; (with_reducible refine (hauberklaw02_awake.calls true _ awake_true).mono ?_); rintro e w3 ⟨rfl, hb⟩; have n0_ := Aside0.mk (below_step HB.out hb); clear HB; have HB := n0_; clear n0_ hb) | (go_at_call 13; (with_reducible refine (room_calls' 47 (-4096) (4094) (by decide +kernel) _).mono ?_); rintro e w4 ⟨rfl, hb⟩; have n0_ := Aside0.mk (below_step HB.out hb); clear HB; have HB := n0_; clear n0_ hb) | ((with_reducible refine gate_dst (N := 20) rfl ?_); refine wpList_build_eq rfl 41 _ rfl #[.int .i64 28, .int .i64 36, .int .i64 44, .int .i64 47, .int .i64 51, .int .i64 53, .int .i64 37, .int .i64 39] (by rw [List.map_toArray]; simp only [List.map_cons, List.map_nil, Act.eval]; kernel_rfl) ?_))
      go_cut [9] (fun v9 wc => v9 = .int .i64 k ∧ Aside0 (Below w.heap.size w wc))
      case first =>
        go_wp2
        go_meet
        case rel => exact ⟨congrArg (Value.int .i64) ((by rw [steps_tm n 4095 (by decide)]; unfold wrap64; omega : _ = -4096 + 2 * (n % 18446744073709551616 % 4095)).trans HK.out), HB⟩
      case rest =>
        clear HB
        obtain ⟨rfl, HB⟩ := hcut
        obtain ⟨hk0, hk1, _⟩ := HK0.out
        go_upto_region 13 with (first | (go_at_call 9; (with_reducible refine (code_Encode.calls 47 0 0 0 k x 0 _ HX.out).mono ?_); rintro e w5 ⟨rfl, hb⟩; have n0_ := Aside0.mk (below_step HB.out hb); clear HB; have HB := n0_; clear n0_ hb) | (go_at_call 9; (with_reducible refine (code_Encode.calls 47 0 0 0 (k + 2) y 0 _ HY.out).mono ?_); rintro e w6 ⟨rfl, hb⟩; have n0_ := Aside0.mk (below_step HB.out hb); clear HB; have HB := n0_; clear n0_ hb))
        go_cut [14, 15] (fun v14 v15 wc => v15 = .int .i64 0 ∧ ∃ g14, v14 = .pointer (some ⟨g14, 0, none⟩) ∧ Aside0 (wc.heap[g14]? = some (.cells #[.int .i64 47, .int .i64 0, .int .i64 0, .int .i64 0, .int .i64 k] 29 (0, 0))) ∧ Aside0 (Below w.heap.size w wc))
        case first =>
          go_wp2_with (first | (go_at_call 11; (with_reducible refine (code_Decode.calls x 47 0 0 0 k 0 _ HDX.out).mono ?_); rintro e w7 ⟨rfl, hb⟩; have n0_ := Aside0.mk (below_step HB.out hb); clear HB; have HB := n0_; clear n0_ hb))
          go_meet
          case rel => exact ⟨rfl, _, rfl, ⟨heap_alloc_new _ _⟩, ⟨HB.out.alloc HB.out.size _⟩⟩
        case rest =>
          clear HB
          obtain ⟨rfl, g14, rfl, BK14, HB⟩ := hcut
          go_upto_region 14 with (fail)
          go_cut [16, 17] (fun v16 v17 wc => v17 = .int .i64 0 ∧ ∃ g16, v16 = .pointer (some ⟨g16, 0, none⟩) ∧ Aside0 (wc.heap[g16]? = some (.cells #[.int .i64 47, .int .i64 0, .int .i64 0, .int .i64 0, .int .i64 (k + 2)] 29 (0, 0))) ∧ Aside0 (wc.heap[g14]? = some (.cells #[.int .i64 47, .int .i64 0, .int .i64 0, .int .i64 0, .int .i64 k] 29 (0, 0))) ∧ Aside0 (Below w.heap.size w wc))
          case first =>
            go_wp2_with (first | (go_at_call 11; (with_reducible refine (code_Decode.calls y 47 0 0 0 (k + 2) 0 _ HDY.out).mono ?_); rintro e w8 ⟨rfl, hb⟩; have n0_ := Aside0.mk (blk_below BK14.out hb); have n1_ := Aside0.mk (below_step HB.out hb); clear BK14 HB; have BK14 := n0_; have HB := n1_; clear n0_ n1_ hb))
            go_meet
            case rel => exact ⟨rfl, _, rfl, ⟨heap_alloc_new _ _⟩, ⟨blk_al BK14.out _⟩, ⟨HB.out.alloc HB.out.size _⟩⟩
          case rest =>
            clear BK14 HB
            obtain ⟨rfl, g16, rfl, BK16, BK14, HB⟩ := hcut
            have hc14 : wc.cell? ⟨g14, 4, none⟩ = some (.int .i64 k) := (blk_cell BK14.out 4).trans rfl
            have hf14 := blk_frozen BK14.out 4
            have hc16 : wc.cell? ⟨g16, 4, none⟩ = some (.int .i64 (k + 2)) := (blk_cell BK16.out 4).trans rfl
            have hf16 := blk_frozen BK16.out 4
            go_wp2
            go_ret
            exact ⟨by simp [hne], HB.out⟩
  · as_aux_lemma =>
      have HK : ∃ k, -524288 + 1 * (n % 18446744073709551616 % 1048575) = k := ⟨_, rfl⟩
      obtain ⟨k, hk⟩ := HK
      have HK := Aside0.mk hk
      have hk0 : -524288 ≤ k ∧ k + 1 ≤ 524287 := by omega
      obtain ⟨x, hx⟩ := steps_enc 51 85 rfl rfl k (by decide +kernel) (by simp; omega)
      obtain ⟨y, hy⟩ := steps_enc 51 85 rfl rfl (k + 1) (by decide +kernel) (by simp; omega)
      have hne : x ≠ y := fun h => by subst h; have := (enc_apart hx hy).2.2.2.2; omega
      have HX : Aside0 (code_Encode.f 51 0 0 0 k = some (x, 0)) := ⟨congrArg some hx⟩
      have HY : Aside0 (code_Encode.f 51 0 0 0 (k + 1) = some (y, 0)) := ⟨congrArg some hy⟩
      have HDX := Aside0.mk (dec_f_of hx)
      have HDY := Aside0.mk (dec_f_of hy)
      have HK0 := Aside0.mk hk0
      clear hx hy hk hk0
      have hix : ∀ w, (Instr.index 41 (.agg #[.int .i64 28, .int .i64 36, .int .i64 44, .int .i64 47, .int .i64 51, .int .i64 53, .int .i64 37, .int .i64 39]) (.int .u8 (which % 8))).run Try.prog w = .ok (.int .i64 51) w := fun w => by rw [hj]; exact steps_ix4 w
      clear hj
      go_upto_region 10 with (first | (go_at_call 8; (with_reducible refine (hauberklaw02_awake.calls true _ awake_true).mono ?_); rintro e w3 ⟨rfl, hb⟩; have n0_ := Aside0.mk (below_step HB.out hb); clear HB; have HB := n0_; clear n0_ hb) | (go_at_call 13; (with_reducible refine (room_calls' 51 (-524288) (524287) (by decide +kernel) _).mono ?_); rintro e w4 ⟨rfl, hb⟩; have n0_ := Aside0.mk (below_step HB.out hb); clear HB; have HB := n0_; clear n0_ hb) | ((with_reducible refine gate_dst (N := 20) rfl ?_); refine wpList_build_eq rfl 41 _ rfl #[.int .i64 28, .int .i64 36, .int .i64 44, .int .i64 47, .int .i64 51, .int .i64 53, .int .i64 37, .int .i64 39] (by rw [List.map_toArray]; simp only [List.map_cons, List.map_nil, Act.eval]; kernel_rfl) ?_))
      go_cut [9] (fun v9 wc => v9 = .int .i64 k ∧ Aside0 (Below w.heap.size w wc))
      case first =>
        go_wp2
        go_meet
        case rel => exact ⟨congrArg (Value.int .i64) ((by rw [steps_tm n 1048575 (by decide)]; unfold wrap64; omega : _ = -524288 + 1 * (n % 18446744073709551616 % 1048575)).trans HK.out), HB⟩
      case rest =>
        clear HB
        obtain ⟨rfl, HB⟩ := hcut
        obtain ⟨hk0, hk1⟩ := HK0.out
        go_upto_region 13 with (first | (go_at_call 9; (with_reducible refine (code_Encode.calls 51 0 0 0 k x 0 _ HX.out).mono ?_); rintro e w5 ⟨rfl, hb⟩; have n0_ := Aside0.mk (below_step HB.out hb); clear HB; have HB := n0_; clear n0_ hb) | (go_at_call 9; (with_reducible refine (code_Encode.calls 51 0 0 0 (k + 1) y 0 _ HY.out).mono ?_); rintro e w6 ⟨rfl, hb⟩; have n0_ := Aside0.mk (below_step HB.out hb); clear HB; have HB := n0_; clear n0_ hb))
        go_cut [14, 15] (fun v14 v15 wc => v15 = .int .i64 0 ∧ ∃ g14, v14 = .pointer (some ⟨g14, 0, none⟩) ∧ Aside0 (wc.heap[g14]? = some (.cells #[.int .i64 51, .int .i64 0, .int .i64 0, .int .i64 0, .int .i64 k] 29 (0, 0))) ∧ Aside0 (Below w.heap.size w wc))
        case first =>
          go_wp2_with (first | (go_at_call 11; (with_reducible refine (code_Decode.calls x 51 0 0 0 k 0 _ HDX.out).mono ?_); rintro e w7 ⟨rfl, hb⟩; have n0_ := Aside0.mk (below_step HB.out hb); clear HB; have HB := n0_; clear n0_ hb))
          go_meet
          case rel => exact ⟨rfl, _, rfl, ⟨heap_alloc_new _ _⟩, ⟨HB.out.alloc HB.out.size _⟩⟩
        case rest =>
          clear HB
          obtain ⟨rfl, g14, rfl, BK14, HB⟩ := hcut
          go_upto_region 14 with (fail)
          go_cut [16, 17] (fun v16 v17 wc => v17 = .int .i64 0 ∧ ∃ g16, v16 = .pointer (some ⟨g16, 0, none⟩) ∧ Aside0 (wc.heap[g16]? = some (.cells #[.int .i64 51, .int .i64 0, .int .i64 0, .int .i64 0, .int .i64 (k + 1)] 29 (0, 0))) ∧ Aside0 (wc.heap[g14]? = some (.cells #[.int .i64 51, .int .i64 0, .int .i64 0, .int .i64 0, .int .i64 k] 29 (0, 0))) ∧ Aside0 (Below w.heap.size w wc))
          case first =>
            go_wp2_with (first | (go_at_call 11; (with_reducible refine (code_Decode.calls y 51 0 0 0 (k + 1) 0 _ HDY.out).mono ?_); rintro e w8 ⟨rfl, hb⟩; have n0_ := Aside0.mk (blk_below BK14.out hb); have n1_ := Aside0.mk (below_step HB.out hb); clear BK14 HB; have BK14 := n0_; have HB := n1_; clear n0_ n1_ hb))
            go_meet
            case rel => exact ⟨rfl, _, rfl, ⟨heap_alloc_new _ _⟩, ⟨blk_al BK14.out _⟩, ⟨HB.out.alloc HB.out.size _⟩⟩
          case rest =>
            clear BK14 HB
            obtain ⟨rfl, g16, rfl, BK16, BK14, HB⟩ := hcut
            have hc14 : wc.cell? ⟨g14, 4, none⟩ = some (.int .i64 k) := (blk_cell BK14.out 4).trans rfl
            have hf14 := blk_frozen BK14.out 4
            have hc16 : wc.cell? ⟨g16, 4, none⟩ = some (.int .i64 (k + 1)) := (blk_cell BK16.out 4).trans rfl
            have hf16 := blk_frozen BK16.out 4
            go_wp2
            go_ret
            exact ⟨by simp [hne], HB.out⟩
  · as_aux_lemma =>
      have HK : ∃ k, -1048576 + 2 * (n % 18446744073709551616 % 1048575) = k := ⟨_, rfl⟩
      obtain ⟨k, hk⟩ := HK
      have HK := Aside0.mk hk
      have hk0 : -1048576 ≤ k ∧ k + 2 ≤ 1048574 ∧ k % 2 = 0 := by omega
      obtain ⟨x, hx⟩ := steps_enc 53 74 rfl rfl k (by decide +kernel) (by simp; omega)
      obtain ⟨y, hy⟩ := steps_enc 53 74 rfl rfl (k + 2) (by decide +kernel) (by simp; omega)
      have hne : x ≠ y := fun h => by subst h; have := (enc_apart hx hy).2.2.2.2; omega
      have HX : Aside0 (code_Encode.f 53 0 0 0 k = some (x, 0)) := ⟨congrArg some hx⟩
      have HY : Aside0 (code_Encode.f 53 0 0 0 (k + 2) = some (y, 0)) := ⟨congrArg some hy⟩
      have HDX := Aside0.mk (dec_f_of hx)
      have HDY := Aside0.mk (dec_f_of hy)
      have HK0 := Aside0.mk hk0
      clear hx hy hk hk0
      have hix : ∀ w, (Instr.index 41 (.agg #[.int .i64 28, .int .i64 36, .int .i64 44, .int .i64 47, .int .i64 51, .int .i64 53, .int .i64 37, .int .i64 39]) (.int .u8 (which % 8))).run Try.prog w = .ok (.int .i64 53) w := fun w => by rw [hj]; exact steps_ix5 w
      clear hj
      go_upto_region 10 with (first | (go_at_call 8; (with_reducible refine (hauberklaw02_awake.calls true _ awake_true).mono ?_); rintro e w3 ⟨rfl, hb⟩; have n0_ := Aside0.mk (below_step HB.out hb); clear HB; have HB := n0_; clear n0_ hb) | (go_at_call 13; (with_reducible refine (room_calls' 53 (-1048576) (1048574) (by decide +kernel) _).mono ?_); rintro e w4 ⟨rfl, hb⟩; have n0_ := Aside0.mk (below_step HB.out hb); clear HB; have HB := n0_; clear n0_ hb) | ((with_reducible refine gate_dst (N := 20) rfl ?_); refine wpList_build_eq rfl 41 _ rfl #[.int .i64 28, .int .i64 36, .int .i64 44, .int .i64 47, .int .i64 51, .int .i64 53, .int .i64 37, .int .i64 39] (by rw [List.map_toArray]; simp only [List.map_cons, List.map_nil, Act.eval]; kernel_rfl) ?_))
      go_cut [9] (fun v9 wc => v9 = .int .i64 k ∧ Aside0 (Below w.heap.size w wc))
      case first =>
        go_wp2
        go_meet
        case rel => exact ⟨congrArg (Value.int .i64) ((by rw [steps_tm n 1048575 (by decide)]; unfold wrap64; omega : _ = -1048576 + 2 * (n % 18446744073709551616 % 1048575)).trans HK.out), HB⟩
      case rest =>
        clear HB
        obtain ⟨rfl, HB⟩ := hcut
        obtain ⟨hk0, hk1, _⟩ := HK0.out
        go_upto_region 13 with (first | (go_at_call 9; (with_reducible refine (code_Encode.calls 53 0 0 0 k x 0 _ HX.out).mono ?_); rintro e w5 ⟨rfl, hb⟩; have n0_ := Aside0.mk (below_step HB.out hb); clear HB; have HB := n0_; clear n0_ hb) | (go_at_call 9; (with_reducible refine (code_Encode.calls 53 0 0 0 (k + 2) y 0 _ HY.out).mono ?_); rintro e w6 ⟨rfl, hb⟩; have n0_ := Aside0.mk (below_step HB.out hb); clear HB; have HB := n0_; clear n0_ hb))
        go_cut [14, 15] (fun v14 v15 wc => v15 = .int .i64 0 ∧ ∃ g14, v14 = .pointer (some ⟨g14, 0, none⟩) ∧ Aside0 (wc.heap[g14]? = some (.cells #[.int .i64 53, .int .i64 0, .int .i64 0, .int .i64 0, .int .i64 k] 29 (0, 0))) ∧ Aside0 (Below w.heap.size w wc))
        case first =>
          go_wp2_with (first | (go_at_call 11; (with_reducible refine (code_Decode.calls x 53 0 0 0 k 0 _ HDX.out).mono ?_); rintro e w7 ⟨rfl, hb⟩; have n0_ := Aside0.mk (below_step HB.out hb); clear HB; have HB := n0_; clear n0_ hb))
          go_meet
          case rel => exact ⟨rfl, _, rfl, ⟨heap_alloc_new _ _⟩, ⟨HB.out.alloc HB.out.size _⟩⟩
        case rest =>
          clear HB
          obtain ⟨rfl, g14, rfl, BK14, HB⟩ := hcut
          go_upto_region 14 with (fail)
          go_cut [16, 17] (fun v16 v17 wc => v17 = .int .i64 0 ∧ ∃ g16, v16 = .pointer (some ⟨g16, 0, none⟩) ∧ Aside0 (wc.heap[g16]? = some (.cells #[.int .i64 53, .int .i64 0, .int .i64 0, .int .i64 0, .int .i64 (k + 2)] 29 (0, 0))) ∧ Aside0 (wc.heap[g14]? = some (.cells #[.int .i64 53, .int .i64 0, .int .i64 0, .int .i64 0, .int .i64 k] 29 (0, 0))) ∧ Aside0 (Below w.heap.size w wc))
          case first =>
            go_wp2_with (first | (go_at_call 11; (with_reducible refine (code_Decode.calls y 53 0 0 0 (k + 2) 0 _ HDY.out).mono ?_); rintro e w8 ⟨rfl, hb⟩; have n0_ := Aside0.mk (blk_below BK14.out hb); have n1_ := Aside0.mk (below_step HB.out hb); clear BK14 HB; have BK14 := n0_; have HB := n1_; clear n0_ n1_ hb))
            go_meet
            case rel => exact ⟨rfl, _, rfl, ⟨heap_alloc_new _ _⟩, ⟨blk_al BK14.out _⟩, ⟨HB.out.alloc HB.out.size _⟩⟩
          case rest =>
            clear BK14 HB
            obtain ⟨rfl, g16, rfl, BK16, BK14, HB⟩ := hcut
            have hc14 : wc.cell? ⟨g14, 4, none⟩ = some (.int .i64 k) := (blk_cell BK14.out 4).trans rfl
            have hf14 := blk_frozen BK14.out 4
            have hc16 : wc.cell? ⟨g16, 4, none⟩ = some (.int .i64 (k + 2)) := (blk_cell BK16.out 4).trans rfl
            have hf16 := blk_frozen BK16.out 4
            go_wp2
            go_ret
            exact ⟨by simp [hne], HB.out⟩
  · as_aux_lemma =>
      have HK : ∃ k, -2048 + 1 * (n % 18446744073709551616 % 4095) = k := ⟨_, rfl⟩
      obtain ⟨k, hk⟩ := HK
      have HK := Aside0.mk hk
      have hk0 : -2048 ≤ k ∧ k + 1 ≤ 2047 := by omega
      obtain ⟨x, hx⟩ := steps_enc 37 73 rfl rfl k (by decide +kernel) (by simp; omega)
      obtain ⟨y, hy⟩ := steps_enc 37 73 rfl rfl (k + 1) (by decide +kernel) (by simp; omega)
      have hne : x ≠ y := fun h => by subst h; have := (enc_apart hx hy).2.2.2.2; omega
      have HX : Aside0 (code_Encode.f 37 0 0 0 k = some (x, 0)) := ⟨congrArg some hx⟩
      have HY : Aside0 (code_Encode.f 37 0 0 0 (k + 1) = some (y, 0)) := ⟨congrArg some hy⟩
      have HDX := Aside0.mk (dec_f_of hx)
      have HDY := Aside0.mk (dec_f_of hy)
      have HK0 := Aside0.mk hk0
      clear hx hy hk hk0
      have hix : ∀ w, (Instr.index 41 (.agg #[.int .i64 28, .int .i64 36, .int .i64 44, .int .i64 47, .int .i64 51, .int .i64 53, .int .i64 37, .int .i64 39]) (.int .u8 (which % 8))).run Try.prog w = .ok (.int .i64 37) w := fun w => by rw [hj]; exact steps_ix6 w
      clear hj
      go_upto_region 10 with (first | (go_at_call 8; (with_reducible refine (hauberklaw02_awake.calls true _ awake_true).mono ?_); rintro e w3 ⟨rfl, hb⟩; have n0_ := Aside0.mk (below_step HB.out hb); clear HB; have HB := n0_; clear n0_ hb) | (go_at_call 13; (with_reducible refine (room_calls' 37 (-2048) (2047) (by decide +kernel) _).mono ?_); rintro e w4 ⟨rfl, hb⟩; have n0_ := Aside0.mk (below_step HB.out hb); clear HB; have HB := n0_; clear n0_ hb) | ((with_reducible refine gate_dst (N := 20) rfl ?_); refine wpList_build_eq rfl 41 _ rfl #[.int .i64 28, .int .i64 36, .int .i64 44, .int .i64 47, .int .i64 51, .int .i64 53, .int .i64 37, .int .i64 39] (by rw [List.map_toArray]; simp only [List.map_cons, List.map_nil, Act.eval]; kernel_rfl) ?_))
      go_cut [9] (fun v9 wc => v9 = .int .i64 k ∧ Aside0 (Below w.heap.size w wc))
      case first =>
        go_wp2
        go_meet
        case rel => exact ⟨congrArg (Value.int .i64) ((by rw [steps_tm n 4095 (by decide)]; unfold wrap64; omega : _ = -2048 + 1 * (n % 18446744073709551616 % 4095)).trans HK.out), HB⟩
      case rest =>
        clear HB
        obtain ⟨rfl, HB⟩ := hcut
        obtain ⟨hk0, hk1⟩ := HK0.out
        go_upto_region 13 with (first | (go_at_call 9; (with_reducible refine (code_Encode.calls 37 0 0 0 k x 0 _ HX.out).mono ?_); rintro e w5 ⟨rfl, hb⟩; have n0_ := Aside0.mk (below_step HB.out hb); clear HB; have HB := n0_; clear n0_ hb) | (go_at_call 9; (with_reducible refine (code_Encode.calls 37 0 0 0 (k + 1) y 0 _ HY.out).mono ?_); rintro e w6 ⟨rfl, hb⟩; have n0_ := Aside0.mk (below_step HB.out hb); clear HB; have HB := n0_; clear n0_ hb))
        go_cut [14, 15] (fun v14 v15 wc => v15 = .int .i64 0 ∧ ∃ g14, v14 = .pointer (some ⟨g14, 0, none⟩) ∧ Aside0 (wc.heap[g14]? = some (.cells #[.int .i64 37, .int .i64 0, .int .i64 0, .int .i64 0, .int .i64 k] 29 (0, 0))) ∧ Aside0 (Below w.heap.size w wc))
        case first =>
          go_wp2_with (first | (go_at_call 11; (with_reducible refine (code_Decode.calls x 37 0 0 0 k 0 _ HDX.out).mono ?_); rintro e w7 ⟨rfl, hb⟩; have n0_ := Aside0.mk (below_step HB.out hb); clear HB; have HB := n0_; clear n0_ hb))
          go_meet
          case rel => exact ⟨rfl, _, rfl, ⟨heap_alloc_new _ _⟩, ⟨HB.out.alloc HB.out.size _⟩⟩
        case rest =>
          clear HB
          obtain ⟨rfl, g14, rfl, BK14, HB⟩ := hcut
          go_upto_region 14 with (fail)
          go_cut [16, 17] (fun v16 v17 wc => v17 = .int .i64 0 ∧ ∃ g16, v16 = .pointer (some ⟨g16, 0, none⟩) ∧ Aside0 (wc.heap[g16]? = some (.cells #[.int .i64 37, .int .i64 0, .int .i64 0, .int .i64 0, .int .i64 (k + 1)] 29 (0, 0))) ∧ Aside0 (wc.heap[g14]? = some (.cells #[.int .i64 37, .int .i64 0, .int .i64 0, .int .i64 0, .int .i64 k] 29 (0, 0))) ∧ Aside0 (Below w.heap.size w wc))
          case first =>
            go_wp2_with (first | (go_at_call 11; (with_reducible refine (code_Decode.calls y 37 0 0 0 (k + 1) 0 _ HDY.out).mono ?_); rintro e w8 ⟨rfl, hb⟩; have n0_ := Aside0.mk (blk_below BK14.out hb); have n1_ := Aside0.mk (below_step HB.out hb); clear BK14 HB; have BK14 := n0_; have HB := n1_; clear n0_ n1_ hb))
            go_meet
            case rel => exact ⟨rfl, _, rfl, ⟨heap_alloc_new _ _⟩, ⟨blk_al BK14.out _⟩, ⟨HB.out.alloc HB.out.size _⟩⟩
          case rest =>
            clear BK14 HB
            obtain ⟨rfl, g16, rfl, BK16, BK14, HB⟩ := hcut
            have hc14 : wc.cell? ⟨g14, 4, none⟩ = some (.int .i64 k) := (blk_cell BK14.out 4).trans rfl
            have hf14 := blk_frozen BK14.out 4
            have hc16 : wc.cell? ⟨g16, 4, none⟩ = some (.int .i64 (k + 1)) := (blk_cell BK16.out 4).trans rfl
            have hf16 := blk_frozen BK16.out 4
            go_wp2
            go_ret
            exact ⟨by simp [hne], HB.out⟩
  · as_aux_lemma =>
      have HK : ∃ k, -2048 + 1 * (n % 18446744073709551616 % 4095) = k := ⟨_, rfl⟩
      obtain ⟨k, hk⟩ := HK
      have HK := Aside0.mk hk
      have hk0 : -2048 ≤ k ∧ k + 1 ≤ 2047 := by omega
      obtain ⟨x, hx⟩ := steps_enc 39 73 rfl rfl k (by decide +kernel) (by simp; omega)
      obtain ⟨y, hy⟩ := steps_enc 39 73 rfl rfl (k + 1) (by decide +kernel) (by simp; omega)
      have hne : x ≠ y := fun h => by subst h; have := (enc_apart hx hy).2.2.2.2; omega
      have HX : Aside0 (code_Encode.f 39 0 0 0 k = some (x, 0)) := ⟨congrArg some hx⟩
      have HY : Aside0 (code_Encode.f 39 0 0 0 (k + 1) = some (y, 0)) := ⟨congrArg some hy⟩
      have HDX := Aside0.mk (dec_f_of hx)
      have HDY := Aside0.mk (dec_f_of hy)
      have HK0 := Aside0.mk hk0
      clear hx hy hk hk0
      have hix : ∀ w, (Instr.index 41 (.agg #[.int .i64 28, .int .i64 36, .int .i64 44, .int .i64 47, .int .i64 51, .int .i64 53, .int .i64 37, .int .i64 39]) (.int .u8 (which % 8))).run Try.prog w = .ok (.int .i64 39) w := fun w => by rw [hj]; exact steps_ix7 w
      clear hj
      go_upto_region 10 with (first | (go_at_call 8; (with_reducible refine (hauberklaw02_awake.calls true _ awake_true).mono ?_); rintro e w3 ⟨rfl, hb⟩; have n0_ := Aside0.mk (below_step HB.out hb); clear HB; have HB := n0_; clear n0_ hb) | (go_at_call 13; (with_reducible refine (room_calls' 39 (-2048) (2047) (by decide +kernel) _).mono ?_); rintro e w4 ⟨rfl, hb⟩; have n0_ := Aside0.mk (below_step HB.out hb); clear HB; have HB := n0_; clear n0_ hb) | ((with_reducible refine gate_dst (N := 20) rfl ?_); refine wpList_build_eq rfl 41 _ rfl #[.int .i64 28, .int .i64 36, .int .i64 44, .int .i64 47, .int .i64 51, .int .i64 53, .int .i64 37, .int .i64 39] (by rw [List.map_toArray]; simp only [List.map_cons, List.map_nil, Act.eval]; kernel_rfl) ?_))
      go_cut [9] (fun v9 wc => v9 = .int .i64 k ∧ Aside0 (Below w.heap.size w wc))
      case first =>
        go_wp2
        go_meet
        case rel => exact ⟨congrArg (Value.int .i64) ((by rw [steps_tm n 4095 (by decide)]; unfold wrap64; omega : _ = -2048 + 1 * (n % 18446744073709551616 % 4095)).trans HK.out), HB⟩
      case rest =>
        clear HB
        obtain ⟨rfl, HB⟩ := hcut
        obtain ⟨hk0, hk1⟩ := HK0.out
        go_upto_region 13 with (first | (go_at_call 9; (with_reducible refine (code_Encode.calls 39 0 0 0 k x 0 _ HX.out).mono ?_); rintro e w5 ⟨rfl, hb⟩; have n0_ := Aside0.mk (below_step HB.out hb); clear HB; have HB := n0_; clear n0_ hb) | (go_at_call 9; (with_reducible refine (code_Encode.calls 39 0 0 0 (k + 1) y 0 _ HY.out).mono ?_); rintro e w6 ⟨rfl, hb⟩; have n0_ := Aside0.mk (below_step HB.out hb); clear HB; have HB := n0_; clear n0_ hb))
        go_cut [14, 15] (fun v14 v15 wc => v15 = .int .i64 0 ∧ ∃ g14, v14 = .pointer (some ⟨g14, 0, none⟩) ∧ Aside0 (wc.heap[g14]? = some (.cells #[.int .i64 39, .int .i64 0, .int .i64 0, .int .i64 0, .int .i64 k] 29 (0, 0))) ∧ Aside0 (Below w.heap.size w wc))
        case first =>
          go_wp2_with (first | (go_at_call 11; (with_reducible refine (code_Decode.calls x 39 0 0 0 k 0 _ HDX.out).mono ?_); rintro e w7 ⟨rfl, hb⟩; have n0_ := Aside0.mk (below_step HB.out hb); clear HB; have HB := n0_; clear n0_ hb))
          go_meet
          case rel => exact ⟨rfl, _, rfl, ⟨heap_alloc_new _ _⟩, ⟨HB.out.alloc HB.out.size _⟩⟩
        case rest =>
          clear HB
          obtain ⟨rfl, g14, rfl, BK14, HB⟩ := hcut
          go_upto_region 14 with (fail)
          go_cut [16, 17] (fun v16 v17 wc => v17 = .int .i64 0 ∧ ∃ g16, v16 = .pointer (some ⟨g16, 0, none⟩) ∧ Aside0 (wc.heap[g16]? = some (.cells #[.int .i64 39, .int .i64 0, .int .i64 0, .int .i64 0, .int .i64 (k + 1)] 29 (0, 0))) ∧ Aside0 (wc.heap[g14]? = some (.cells #[.int .i64 39, .int .i64 0, .int .i64 0, .int .i64 0, .int .i64 k] 29 (0, 0))) ∧ Aside0 (Below w.heap.size w wc))
          case first =>
            go_wp2_with (first | (go_at_call 11; (with_reducible refine (code_Decode.calls y 39 0 0 0 (k + 1) 0 _ HDY.out).mono ?_); rintro e w8 ⟨rfl, hb⟩; have n0_ := Aside0.mk (blk_below BK14.out hb); have n1_ := Aside0.mk (below_step HB.out hb); clear BK14 HB; have BK14 := n0_; have HB := n1_; clear n0_ n1_ hb))
            go_meet
            case rel => exact ⟨rfl, _, rfl, ⟨heap_alloc_new _ _⟩, ⟨blk_al BK14.out _⟩, ⟨HB.out.alloc HB.out.size _⟩⟩
          case rest =>
            clear BK14 HB
            obtain ⟨rfl, g16, rfl, BK16, BK14, HB⟩ := hcut
            have hc14 : wc.cell? ⟨g14, 4, none⟩ = some (.int .i64 k) := (blk_cell BK14.out 4).trans rfl
            have hf14 := blk_frozen BK14.out 4
            have hc16 : wc.cell? ⟨g16, 4, none⟩ = some (.int .i64 (k + 1)) := (blk_cell BK16.out 4).trans rfl
            have hf16 := blk_frozen BK16.out 4
            go_wp2
            go_ret
            exact ⟨by simp [hne], HB.out⟩
end Go.Proofs.Ytkacoffiinggiaa.K
