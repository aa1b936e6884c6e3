import Derived.Test.YtjfleaekljapeaaDoorSpanRv
import Derived.Deep.DeepMust
import Derived.Test.YtjfleaekljapeaaDoorProg
import Derived.Below
import Derived.Deep.Draws
import Derived.Deep.AppendLies
import Derived.Maps.AppendAt
import Derived.OwnWalk
import Derived.Laws.BytesArg
import Derived.Laws.MakeOwn
import Derived.Laws.OwnMore
import Derived.Deep.OwnRows
import Derived.Tactics
import Derived.Lib.ConvBytes
import Derived.Laws.Slices
import Derived.WalkKit
import Derived.KernelRfl
import Derived.RowKit3
import Derived.Deep.LoopGhost
import Derived.Deep.QuietTactic
import Derived.BigQuiet
import Derived.WideLaws
import Derived.Deep.DeepCutAuto
import Derived.Deep.CutBlock
import Derived.Deep.RegionHeld3
import Derived.Deep.MidRow
import Derived.Laws.Rows
import Derived.Lib.AppendStr
import Derived.ArgAppend
import Derived.Laws.IdiomCopy
import Derived.OrdersHeld
import Derived.Laws.BitsLemmas
import Derived.RowKit
import Derived.RegionTactic
import Derived.Deep.RegionWith
import Derived.Lib.Hide
import Derived.Test.YtjfleaekljapeaaDoorWWords
import Derived.Test.YtjfleaekljapeaaDoorWLast
import Derived.Test.YtjfleaekljapeaaDoorWTab
import Derived.Test.YtjfleaekljapeaaDoorWFour
import Derived.Test.YtjfleaekljapeaaDoorWQPut
import Derived.Test.YtjfleaekljapeaaDoorWApart
import Derived.Test.YtjfleaekljapeaaDoorWArr
import Derived.Test.YtjfleaekljapeaaDoorWZeros
import Derived.Test.YtjfleaekljapeaaDoorWFoot
import Derived.Test.YtjfleaekljapeaaDoorWKept
import Derived.Test.YtjfleaekljapeaaDoorWShare
import Derived.Test.YtjfleaekljapeaaDoorWN
import Derived.Test.YtjfleaekljapeaaDoorWEqStruct
import Derived.Test.YtjfleaekljapeaaDoorWRepsOne
import Derived.Test.YtjfleaekljapeaaDoorWGuard
import Derived.Test.YtjfleaekljapeaaDoorWNEv
import Derived.Test.YtjfleaekljapeaaDoorWMore
import Derived.Deep.RegionLaw
import Derived.Laws.CopyOwn
import Derived.Shelf.Spec.TrailingZeros
namespace Go.Proofs.YtjfleaekljapeaaDoor.K
open Go.RowKit Go.Proofs.YtjfleaekljapeaaDoorW.PrintWords Go.Proofs.YtjfleaekljapeaaDoorW.PrintLast Go.Proofs.YtjfleaekljapeaaDoorW.PrintMore
attribute [local go_sem] max2_int min2_int max_two min_two max_three min_three max_four min_four   -- for this text's walks alone
set_option linter.unusedVariables false
set_option linter.unusedSimpArgs false
set_option linter.unusedSectionVars false
set_option maxHeartbeats 4000000 in
set_option maxRecDepth 100000 in
theorem rows_calls (n0 fr0 to0 : Int) (w : World) (hT : TzTab w) (hp : 0 < w.heap.size) :
    Calls Tryd.prog 5 #[.int .i64 n0, .int .i64 fr0, .int .i64 to0] w (AwPost w) := by
  have hu25 := Tryd.underlying25
  have hu39 := Tryd.underlying39
  have hu44 := Tryd.underlying44
  have HT := Aside0.mk hT
  have HB := Aside0.mk (Below.refl w.heap.size w)
  clear hT
  go_enter Tryd.func5, Tryd.ntmps5
  go_upto_region 3 with (first | (go_at_call 10; (with_reducible refine (awake_calls _ ?h1 ?h2).mono ?_); (case h1 => exact HT.out.below hp HB.out); (case h2 => exact Nat.lt_of_lt_of_le hp (below_size HB.out)); rintro e w1 ⟨rfl, hb⟩; have n0_ := Aside0.mk (below_step HB.out hb); clear HB; have HB := n0_; clear n0_ hb))
  go_cut [7] (fun v7 wc => ∃ f : Bool, v7 = .bool f ∧ Aside0 (Below w.heap.size w wc))
  case first =>
    go_wp2
    go_meet
    case rel => exact ⟨_, rfl, HB⟩
  case rest =>
  clear HB
  obtain ⟨first, rfl, HB⟩ := hcut
  go_upto_region 4 with (fail)
  go_cut [0] (fun v0 wc => ∃ N : Nat, (2 ≤ N ∧ N ≤ 31) ∧ v0 = .int .i64 N ∧ Aside0 (Below w.heap.size w wc))
  case first =>
    go_wp2
    go_meet
    case rel =>
      obtain ⟨N, h1, h2⟩ := ro_N n0
      exact ⟨N, h1, by rw [h2], HB⟩
  case rest =>
  clear HB
  obtain ⟨N, hN, rfl, HB⟩ := hcut
  have i1 := i64_id ((N : Int) - 1) (by omega) (by omega)
  have j1 := u64_id ((N : Int) - 1) (by omega) (by omega)
  have z1 : (((N : Int) - 1) == 0) = false := by simpa using (by omega : ¬ ((N : Int) - 1 = 0))
  go_upto_region 5 with (fail)
  go_cut [8] (fun v8 wc => ∃ A : Nat, A + 1 < N ∧ v8 = .int .i64 A ∧ Aside0 (Below w.heap.size w wc))
  case first =>
    go_wp2
    go_meet
    case rel =>
      obtain ⟨A, h1, h2⟩ := ro_A fr0 ((N : Int) - 1) (by omega) (by omega)
      exact ⟨A, by omega, by rw [h2], HB⟩
  case rest =>
  clear HB i1 j1 z1
  obtain ⟨A, hA, rfl, HB⟩ := hcut
  have i1 := i64_id ((A : Int) + 1) (by omega) (by omega)
  have i2 := i64_id ((N : Int) - A) (by omega) (by omega)
  have i3 := i64_id ((N : Int) - A - 1) (by omega) (by omega)
  have j1 := u64_id ((N : Int) - A - 1) (by omega) (by omega)
  have z1 : (((N : Int) - A - 1) == 0) = false := by simpa using (by omega : ¬ ((N : Int) - A - 1 = 0))
  go_upto_region 6 with (fail)
  go_cut [9] (fun v9 wc => ∃ B : Nat, (A < B ∧ B < N) ∧ v9 = .int .i64 B ∧ Aside0 (Below w.heap.size w wc))
  case first =>
    go_wp2
    go_meet
    case rel =>
      obtain ⟨D, h1, h2⟩ := ro_A to0 ((N : Int) - A - 1) (by omega) (by omega)
      have e : wrap64 ((A : Int) + 1 + (D : Int)) = ((A + 1 + D : Nat) : Int) := by unfold wrap64; omega
      exact ⟨A + 1 + D, ⟨by omega, by omega⟩, by rw [h2, e], HB⟩
  case rest =>
  clear HB i1 i2 i3 j1 z1
  obtain ⟨B, hB, rfl, HB⟩ := hcut
  go_upto_region 7 with (fail)
  go_cut [10] (fun v10 wc => ∃ gf gd, v10 = .pointer (some ⟨gf, 0, none⟩) ∧ Aside0 (wc.heap[gf]? = some (.cells #[.string ⟨#[109, 97, 105, 110]⟩, .slice none 0 0, .slice (some ⟨gd, 0, none⟩) 2 2, .slice none 0 0, .slice none 0 0] 25 (0, 0))) ∧ Aside0 (wc.heap[gd]? = some (.cells #[.int .i64 1, .int .i64 1] 3 (0, 0))) ∧ Aside0 (w.heap.size ≤ gf) ∧ Aside0 (Below w.heap.size w wc))
  case first =>
    go_wp2
    go_meet
    case rel => exact ⟨_, _, rfl, ⟨two_new wc _ _⟩, ⟨lv_al (heap_alloc_new wc _) _⟩, ⟨Nat.le_trans (below_size HB.out) (Nat.le_succ _)⟩, ⟨(HB.out.alloc (below_size HB.out) _).alloc (by have := below_size HB.out; simp; omega) _⟩⟩
  case rest =>
  clear HB
  obtain ⟨gf, gd, rfl, HF, HK, HG, HB⟩ := hcut
  have HS := Aside0.mk (RoSt.mk HF.out HK.out (Kd.R_nil k44 44 wc w.heap.size (fun _ => True)) HG.out HB.out)
  clear HF HK HG HB
  go_wp2
  go_loopg [11] N (fun gg v11 w' => ∃ (i : Nat) (vc : Value), i ≤ N ∧ N - i ≤ gg ∧ v11 = .int .i64 (i : Nat) ∧ Aside0 (RoSt w w' gf gd vc (List.replicate i (roI 1 1))))
  case atStart => exact ⟨0, _, Nat.zero_le _, by omega, rfl, HS⟩
  case round =>
    clear HS
    obtain ⟨i, vc, hi, hg, rfl, HS⟩ := hrel
    by_cases hlt : i < N
    · have hd : decide ((i : Int) < (N : Int)) = true := decide_eq_true (by omega)
      have i1 := i64_id ((i : Int) + 1) (by omega) (by omega)
      have hc4 : wr.cell? ⟨gf, 4, none⟩ = some vc := (blk_cell HS.out.hf 4).trans rfl
      have hz4 := blk_frozen HS.out.hf 4
      have HLEN := Aside0.mk (show (List.replicate i (roI 1 1)).length ≤ 100 by rw [List.length_replicate]; omega)
      go_wp2_with (first | ((with_reducible refine gate_builtin (b := .append) (xs := #[.tmp 51, .tmp 53]) rfl ?_); at_builtin; refine Kd.R_append k44 (w0 := w) w.heap.size rfl (.tmp 51) (.tmp 53) 23 44 (.agg (roV 0 0).toArray) 120 rfl Tryd.underlying23 ro_info44 rfl (by decide) (by omega) vc (List.replicate i (roI 1 1)) (roI 1 1) (roV 1 1) (fun _ => True) (fun _ => False) rfl rfl ?aP (fun _ hk => hk.elim) ?aF ?aO ?aB ?aS ?aL ?_; (case aP => exact ro_M _ _ _ _ _); (case aB => exact HS.out.hb); (case aF => exact (fun _ _ => trivial)); (case aO => exact HS.out.hr); (case aS => exact below_size HS.out.hb); (case aL => have := HLEN.out; omega); intro v54 w54 ho hb hg hat; obtain ⟨A5, c5, e5⟩ := Kd.R_slice ho; simp only [List.length_append, List.length_replicate, List.length_singleton] at e5; subst e5; have HF := Aside0.mk (blk_grown HS.out.hf hg (Kd.R_ne HS.out.hr HS.out.hf (by decide))); have HK := Aside0.mk (blk_grown HS.out.hk hg (Kd.R_ne HS.out.hr HS.out.hk (by decide))); have HO := Aside0.mk ho; have HB := Aside0.mk hb; have HG := Aside0.mk HS.out.hg; have hd4 : w54.cell? ⟨gf, 4, none⟩ = some vc := (blk_cell HF.out 4).trans rfl; have he4 := blk_frozen HF.out 4; clear ho hb hg hat HS hc4 hz4))
      go_roundg (N - (i + 1))
      case measure => omega
      case rel => exact ⟨i + 1, _, by omega, Nat.le_refl _, rfl, ⟨ro_store HF.out HK.out (by rw [List.replicate_succ']; exact HO.out) HG.out HB.out⟩⟩
    · obtain rfl : i = N := by omega
      have hd : decide ((i : Int) < (i : Int)) = false := decide_eq_false (by omega)
      clear hlt hi hg
      go_upto_if 57 with (fail)
      go_cut [] (fun wc => ∃ vc2, Aside0 (RoSt w wc gf gd vc2 (roL first A i)))
      case first =>
        cases first with
        | true =>
          go_wp2
          go_meet
          case rel => exact ⟨vc, ⟨by rw [roL_true]; exact HS.out⟩⟩
        | false =>
          obtain ⟨g, cap, e, hth, HS2⟩ := ro_upd HS.out A (by rw [List.length_replicate]; omega) 1 0
          rw [List.length_replicate] at e
          subst e
          rw [← roL_false] at HS2
          have HS2 := Aside0.mk HS2
          have HTH := Aside0.mk hth
          clear hth
          have hc4 : wr.cell? ⟨gf, 4, none⟩ = some (.slice (some ⟨g, 0, none⟩) i cap) := (blk_cell HS.out.hf 4).trans rfl
          have p0 : (0 : Int) ≤ (A : Int) := by omega
          have q0 : (A : Int) < (i : Int) := by omega
          go_wp2_with (first | ((with_reducible refine gate_store (t := 44) (p := 62) rfl ?_); refine wpList_store_mid rfl 44 _ _ rfl g (A * 10) (roV 1 0).toArray ?hx (by rfl) HTH.out (by kernel_rfl) (by kernel_rfl) ?_; (case hx => kernel_rfl)))
          go_meet
          case rel => exact ⟨_, HS2⟩
      case rest =>
      clear HS
      obtain ⟨vc2, HS⟩ := hcut
      obtain ⟨g, cap, e, hth, HS2⟩ := ro_upd HS.out B (by rw [roL_len]; omega) 20 0
      rw [roL_len] at e
      subst e
      have HS2 := Aside0.mk HS2
      have HTH := Aside0.mk hth
      clear hth
      have hc4 : wc.cell? ⟨gf, 4, none⟩ = some (.slice (some ⟨g, 0, none⟩) i cap) := (blk_cell HS.out.hf 4).trans rfl
      have p0 : (0 : Int) ≤ (B : Int) := by omega
      have q0 : (B : Int) < (i : Int) := by omega
      go_upto_region 14 with (fail)
      go_cut [] (fun wd => ∃ vc3, Aside0 (RoSt w wd gf gd vc3 ((roL first A i).set B (roI 20 0))))
      case first =>
        go_wp2_with (first | ((with_reducible refine gate_store (t := 44) (p := 67) rfl ?_); refine wpList_store_mid rfl 44 _ _ rfl g (B * 10) (roV 20 0).toArray ?hx (by rfl) HTH.out (by kernel_rfl) (by kernel_rfl) ?_; (case hx => kernel_rfl)))
        go_meet
        case rel => exact ⟨_, HS2⟩
      case rest =>
      clear HS HS2 HTH hc4
      obtain ⟨vc, HS⟩ := hcut
      have HLEN := Aside0.mk (show ((roL first A i).set B (roI 20 0)).length = i by rw [List.length_set, roL_len])
      have hc4 : wc.cell? ⟨gf, 4, none⟩ = some vc := (blk_cell HS.out.hf 4).trans rfl
      go_upto_region 15 with (fail)
      go_cut [] (fun we => ∃ c5 g5, Aside0 (RoSt w we gf gd (.slice (some ⟨g5, 0, none⟩) (i + 1) c5) (roCode first i A B)))
      case first =>
        have hz4 := blk_frozen HS.out.hf 4
        go_wp2_with (first | ((with_reducible refine gate_builtin (b := .append) (xs := #[.tmp 69, .tmp 71]) rfl ?_); at_builtin; refine Kd.R_append k44 (w0 := w) w.heap.size rfl (.tmp 69) (.tmp 71) 23 44 (.agg (roV 0 0).toArray) 120 rfl Tryd.underlying23 ro_info44 rfl (by decide) (by omega) vc ((roL first A i).set B (roI 20 0)) (roI 43 0) (roV 43 0) (fun _ => True) (fun _ => False) rfl rfl ?aP (fun _ hk => hk.elim) ?aF ?aO ?aB ?aS ?aL ?_; (case aP => exact ro_M _ _ _ _ _); (case aB => exact HS.out.hb); (case aF => exact (fun _ _ => trivial)); (case aO => exact HS.out.hr); (case aS => exact below_size HS.out.hb); (case aL => have := HLEN.out; omega); intro v72 w72 ho hb hg hat; rw [roL_code first A B i (by omega)] at ho; obtain ⟨g5, c5, e5, _⟩ := Kd.R_form ho (by rw [roCode_len]; omega); rw [roCode_len] at e5; subst e5; have HF := Aside0.mk (blk_grown HS.out.hf hg (Kd.R_ne HS.out.hr HS.out.hf (by decide))); have HK := Aside0.mk (blk_grown HS.out.hk hg (Kd.R_ne HS.out.hr HS.out.hk (by decide))); have HO := Aside0.mk ho; have HB := Aside0.mk hb; have HG := Aside0.mk HS.out.hg; have hd4 : w72.cell? ⟨gf, 4, none⟩ = some vc := (blk_cell HF.out 4).trans rfl; have he4 := blk_frozen HF.out 4; clear ho hb hg hat HS hc4 hz4))
        go_meet
        case rel => exact ⟨_, _, ⟨ro_store HF.out HK.out HO.out HG.out HB.out⟩⟩
      case rest =>
      clear HS hc4
      obtain ⟨c5, g5, HS⟩ := hcut
      obtain ⟨q, hq⟩ := ro_res first i A B (by omega) (by omega)
      have HQ := Aside0.mk hq
      clear hq
      obtain ⟨_, hle, hC⟩ := Kd.R_reads' HS.out.hr
      have hlen := roCode_len first i A B
      have hle2 : (roCode first i A B).length ≤ c5 := by rw [hlen]; exact hle
      have HKC := Aside0.mk (show (Kd.int .i64).C wc (some ⟨gd, 0, none⟩) 2 [1, 1] from row_C (d := Kd.int .i64) (cur := [.int .i64 1, .int .i64 1]) HS.out.hk ⟨rfl, fun j p hj => by
        have hj2 : j < 2 := (List.getElem?_eq_some_iff.1 hj).1
        have : j = 0 ∨ j = 1 := by omega
        rcases this with rfl | rfl <;> (have e : (1 : Int) = p := by simpa using hj) <;> subst e <;> rfl⟩ (by decide))
      have HSP := Aside0.mk (spans_calls ⟨#[109, 97, 105, 110]⟩ none 0 [] (some ⟨gd, 0, none⟩) 2 [1, 1] none 0 [] (some ⟨g5, 0, none⟩) c5 (roCode first i A B) wc (nil_int _) (Nat.le_refl _) HKC.out (Nat.le_refl _) (nil_int _) (Nat.le_refl _) hC hle2 (by decide) (ro_ok first i A B (by omega)) 2 (roR first i A B) (ro_run first i A B (by omega) (by omega)) (ro_bits first i A B) (ro_sp first i A B) (HT.out.below hp HS.out.hb) (Nat.lt_of_lt_of_le hp (below_size HS.out.hb)))
      have HSQ : Aside0 (Calls Tryd.prog 14 #[.agg #[.string ⟨#[109, 97, 105, 110]⟩, .slice none 0 0, .slice (some ⟨gd, 0, none⟩) 2 2, .slice none 0 0, .slice (some ⟨g5, 0, none⟩) (roCode first i A B).length c5]] wc (SpPost [(((roSt first A : Nat) : Int), ((B : Nat) : Int)), q] 2 wc)) := ⟨by
        have h := HSP.out
        rw [show ([1, 1] : List Int).length = 2 from rfl, HQ.out] at h
        exact h⟩
      have hf0 : wc.cell? ⟨gf, 0, none⟩ = some (.string ⟨#[109, 97, 105, 110]⟩) := (blk_cell HS.out.hf 0).trans rfl
      have hf1 : wc.cell? ⟨gf, 1, none⟩ = some (.slice none 0 0) := (blk_cell HS.out.hf 1).trans rfl
      have hf2 : wc.cell? ⟨gf, 2, none⟩ = some (.slice (some ⟨gd, 0, none⟩) 2 2) := (blk_cell HS.out.hf 2).trans rfl
      have hf3 : wc.cell? ⟨gf, 3, none⟩ = some (.slice none 0 0) := (blk_cell HS.out.hf 3).trans rfl
      have hf4 : wc.cell? ⟨gf, 4, none⟩ = some (.slice (some ⟨g5, 0, none⟩) (i + 1) c5) := (blk_cell HS.out.hf 4).trans rfl
      clear hC hle hle2 hlen
      go_upto_region 17 with (first | (go_at_call 14; (with_reducible refine HSQ.out.mono ?_); rintro e w16 ⟨g6, rfl, hg6, _, _, hb⟩; have HB := Aside0.mk (below_step HS.out.hb hb); have H6 := Aside0.mk hg6; clear hb hg6 HS hf0 hf1 hf2 hf3 hf4))
      clear HSQ HSP HKC HQ HLEN HS2 p0 q0
      go_upto_if 79 with (fail)
      go_cut [] (fun wd => Aside0 (wd.heap[w16.heap.size]? = some (.cells #[.int .i64 ((roSt first A : Nat) : Int), .int .i64 ((B : Nat) : Int)] 39 (0, 0))) ∧ Aside0 (wd.heap[g6]? = some (.cells (spRow [(((roSt first A : Nat) : Int), ((B : Nat) : Int)), q]).toArray 39 (0, 0))) ∧ Aside0 (Below w.heap.size w wd))
      case first =>
        have HG := Aside0.mk (below_size HB.out)
        have HA := Aside0.mk (blk_new w16 (.cells #[.int .i64 (A : Int), .int .i64 (B : Int)] 39 (0, 0)))
        have H6' := Aside0.mk (blk_alloc H6.out (.cells #[.int .i64 (A : Int), .int .i64 (B : Int)] 39 (0, 0)))
        have HB' := Aside0.mk (HB.out.alloc HG.out (.cells #[.int .i64 (A : Int), .int .i64 (B : Int)] 39 (0, 0)))
        have hne : w16.heap.size ≠ g6 := by have := blk_lt H6.out; omega
        have hc0 := (blk_cell HA.out 0).trans rfl
        have hz0 := blk_frozen HA.out 0
        cases first with
        | true =>
          go_wp2
          go_meet
          case rel => exact ⟨⟨blk_new _ _⟩, ⟨blk_alloc H6.out _⟩, ⟨HB.out.alloc HG.out _⟩⟩
        | false =>
          go_wp2
          go_meet
          case rel => exact ⟨HA, H6', HB'⟩
      case rest =>
      clear HB H6
      obtain ⟨HA, H6, HB⟩ := hcut
      have hc0 : wc.cell? ⟨w16.heap.size, 0, none⟩ = some (.int .i64 ((roSt first A : Nat) : Int)) := (blk_cell HA.out 0).trans rfl
      have hc1 : wc.cell? ⟨w16.heap.size, 1, none⟩ = some (.int .i64 ((B : Nat) : Int)) := (blk_cell HA.out 1).trans rfl
      have hd0 : wc.cell? ⟨g6, 0, none⟩ = some (.int .i64 ((roSt first A : Nat) : Int)) := (blk_cell H6.out 0).trans rfl
      have hd1 : wc.cell? ⟨g6, 1, none⟩ = some (.int .i64 ((B : Nat) : Int)) := (blk_cell H6.out 1).trans rfl
      generalize w16.heap.size = gw at *
      go_wp2
      go_region
      go_wp2
      go_ret
      exact ⟨rfl, HB.out.drew⟩
end Go.Proofs.YtjfleaekljapeaaDoor.K
