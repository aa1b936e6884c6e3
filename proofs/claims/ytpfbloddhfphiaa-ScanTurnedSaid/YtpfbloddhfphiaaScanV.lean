import Derived.Test.YtpfbloddhfphiaaK0
import Derived.Test.YtpfbloddhfphiaaScanQ
import Derived.Test.YtpfbloddhfphiaaScanW
import Derived.Test.YtpfbloddhfphiaaSortS
import Derived.Deep.DeepMust
import Derived.Test.YtpfbloddhfphiaaProg
import Derived.Below
import Derived.Deep.Draws
import Derived.Deep.AppendLies
import Derived.Maps.AppendAt
import Derived.OwnWalk
import Derived.Laws.BytesArg
import Derived.Laws.MakeOwn
import Derived.Laws.OwnMore
import Derived.Deep.OwnRows
import Derived.Tactics
import Derived.Lib.ConvBytes
import Derived.Laws.Slices
import Derived.WalkKit
import Derived.KernelRfl
import Derived.RowKit3
import Derived.Deep.LoopGhost
import Derived.Deep.QuietTactic
import Derived.BigQuiet
import Derived.WideLaws
import Derived.Deep.DeepCutAuto
import Derived.Deep.CutBlock
import Derived.Deep.RegionHeld3
import Derived.Deep.MidRow
import Derived.Laws.Rows
import Derived.Lib.AppendStr
import Derived.ArgAppend
import Derived.Laws.IdiomCopy
import Derived.OrdersHeld
import Derived.Laws.BitsLemmas
import Derived.RowKit
import Derived.RegionTactic
import Derived.Deep.RegionWith
import Derived.Lib.Hide
import Derived.Test.YtpfbloddhfphiaaWWords
import Derived.Test.YtpfbloddhfphiaaWLast
import Derived.Test.YtpfbloddhfphiaaWTab
import Derived.Test.YtpfbloddhfphiaaWFour
import Derived.Test.YtpfbloddhfphiaaWQPut
import Derived.Test.YtpfbloddhfphiaaWApart
import Derived.Test.YtpfbloddhfphiaaWArr
import Derived.Test.YtpfbloddhfphiaaWZeros
import Derived.Test.YtpfbloddhfphiaaWFoot
import Derived.Test.YtpfbloddhfphiaaWKept
import Derived.Test.YtpfbloddhfphiaaWShare
import Derived.Test.YtpfbloddhfphiaaWN
import Derived.Test.YtpfbloddhfphiaaWEqStruct
import Derived.Test.YtpfbloddhfphiaaWRepsOne
import Derived.Test.YtpfbloddhfphiaaWGuard
import Derived.Test.YtpfbloddhfphiaaWNEv
import Derived.Test.YtpfbloddhfphiaaWMore
import Derived.Deep.RegionLaw
import Derived.Laws.CopyOwn
namespace Go.Proofs.Ytpfbloddhfphiaa.K
open Go.RowKit Go.Proofs.YtpfbloddhfphiaaW.PrintWords Go.Proofs.YtpfbloddhfphiaaW.PrintLast Go.Proofs.YtpfbloddhfphiaaW.PrintMore
attribute [local go_sem] max2_int min2_int max_two min_two max_three min_three max_four min_four   -- for this text's walks alone
set_option linter.unusedVariables false
set_option linter.unusedSimpArgs false
set_option linter.unusedSectionVars false
section
/-! ### slices.SortStableFunc over the places' own closure (17), at any length up to 1000 -/
open Go.Shelf Go.Sort
set_option maxHeartbeats 4000000 in
set_option maxRecDepth 100000 in
theorem srt_calls60 (base b : Nat) (A : Option Addr) (c : Nat) (l : List S35) (ord : List Nat) (v : Value) (w : World) (H : Bx w b A c l) (hA : ∀ a, A = some a → a.block < base) (hb : b < base)
    (hQ : IQ w base v (zs ord)) (hord : ∀ k ∈ ord, k < l.length) (hn : ord.length ≤ 1000) :
    Calls Try.prog 17 #[v, .func (.func 18) #[] #[.pointer (some ⟨b, 0, none⟩)]] w (SrtDone base l ord v w) := by
  have key : ∃ A' n c', v = .slice A' n c' ∧ n = ord.length ∧ Calls Try.prog 27 #[.slice A' n c', .int .i64 (n : Int), .func (.func 18) #[] #[.pointer (some ⟨b, 0, none⟩)]] w (SrtDone base l ord v w) := by
    obtain ⟨hlen, hr⟩ := iq_row hQ
    rw [zs_len] at hr
    have h0case : ∀ A' c', v = .slice A' 0 c' → ord.length = 0 → ∃ A' n c', v = .slice A' n c' ∧ n = ord.length ∧ Calls Try.prog 27 #[.slice A' n c', .int .i64 (n : Int), .func (.func 18) #[] #[.pointer (some ⟨b, 0, none⟩)]] w (SrtDone base l ord v w) := by
      rintro A' c' rfl h0
      obtain rfl : ord = [] := List.eq_nil_of_length_eq_zero h0
      refine ⟨A', 0, c', rfl, rfl, (stb_none A' c' _ w).mono ?_⟩
      rintro e w' ⟨rfl, rfl⟩
      exact ⟨rfl, [], List.Perm.refl _, List.Pairwise.nil, hQ, World.grownBy.refl _ _⟩
    rcases hr with ⟨h0, A', rfl, _⟩ | ⟨g, off, cap, cur, rfl, hbg, hg, hnc, hm, hsz, hx⟩
    · exact h0case A' 0 rfl h0
    · rw [Nat.mul_one] at hx hsz ⊢
      rw [Nat.mul_one] at hx
      by_cases h0 : ord.length = 0
      · refine Nat.mul_one off ▸ h0case (some ⟨g, off * 1, none⟩) cap ?_ h0
        rw [h0]
      · have hpos : 0 < l.length := by
          have : ord.getD 0 0 ∈ ord := by rw [List.getD_eq_getElem?_getD, List.getElem?_eq_getElem (by omega : 0 < ord.length)]; exact List.getElem_mem _
          have := hord _ this; omega
        letI : Inhabited (Fin l.length) := ⟨⟨0, hpos⟩⟩
        have hdz : (fins l.length ord hord).toArray.size = ord.length := by simp [fins_len]
        have hHf := fins_holds (base := base) (cap := cap) hord hg hx
        have hst := stable_calls (cap := cap) ⟨fun _ => rfl, hHf, blk_lt hg⟩ (lays18 (fins l.length ord hord).toArray.size H hA hb hbg) ord.length hdz hn hHf
        refine ⟨some ⟨g, off, none⟩, ord.length, cap, rfl, rfl, hst.mono ?_⟩
        rintro e w' ⟨rfl, d', hp, hs0, hS⟩
        have hs := sorted_is hs0
        have hd' : d'.size = ord.length := by rw [hp.1, hdz]
        obtain ⟨cur', h1, h2, h3⟩ := sw_row hg hsz (by rw [hd']; exact hnc) hS
        refine ⟨rfl, d'.toList.map Fin.val, ?_, sorted_of (by rw [hd']; exact hs), ?_, ?_⟩
        · have := (perm_of hdz hp).map Fin.val
          rw [List.toList_toArray, fins_val] at this
          exact this
        · have hzl : (zs (d'.toList.map Fin.val)).length = ord.length := by rw [zs_len, List.length_map, Array.length_toList, hd']
          rw [← hzl]
          refine iq_mk hbg h1 (by rw [hzl]; exact hnc) hm h2 ?_
          rw [hzl, ← hd']
          exact h3
        · obtain ⟨m, os, rfl⟩ := hS
          exact sw_grown _ w g off m d' os
  obtain ⟨A', n, c', rfl, hnl, hc⟩ := key
  clear hnl hord hn
  have HC := Aside0.mk hc
  clear H hQ hc
  go_enter Try.func17, Try.ntmps17
  go_wp2_with (first | (go_at_call 27; (with_reducible refine HC.out.mono ?_); rintro e w1 ⟨rfl, hp⟩; have HP := Aside0.mk hp; clear hp))
  refine bodyPost_ret (v := .tuple #[]) (by simp [results, Try.results17, go_sem]) rfl ⟨rfl, HP.out⟩
end
/-! ### scan.Places (10) at up to 60 spans -/
set_option maxHeartbeats 8000000 in
set_option maxRecDepth 100000 in
theorem places_calls60 (A : Option Addr) (c : Nat) (l : List S35) (N : Nat) (w : World) (hrow : Kd.C k35 w A l.length l) (hc : l.length ≤ c) (hA : ∀ a, A = some a → a.block < w.heap.size) (hl : l.length ≤ 60) (hN : N ≤ 32) :
    Calls Try.prog 10 #[.slice A l.length c, .int .i64 (N : Int)] w (PlPost l N w) := by
  have hu35 := Try.underlying35
  have hu28 := Try.underlying28
  have n0 : ¬ ((N : Int) < 0) := by omega
  have n1 : ¬ ((32 : Int) < (N : Int)) := by omega
  have HR := Aside0.mk hrow
  have HC := Aside0.mk hc
  have HA := Aside0.mk hA
  have HL := Aside0.mk hl
  have HB := Aside0.mk (Below.refl w.heap.size w)
  clear hrow hc hA hl
  go_enter Try.func10, Try.ntmps10
  go_upto_region 3 with (first | ((with_reducible refine gate_dst (N := 2) rfl ?_); refine box_event ?hg (N := 2) ?hd (cs := #[.slice A l.length c]) (t := 24) ?hr ?_; (case hd => rfl); (case hg => rfl); (case hr => first | (go_simp; done) | (go_simp; rfl)); intro ga hg w1 hbox hb; have BA := Aside0.mk hbox; have HB1 := Aside0.mk (below_step HB.out hb); have GA := Aside0.mk hg; clear hb hbox hg))
  have hbx : ∀ O : Obj, (w1.alloc O).cell? ⟨ga, 0, none⟩ = some (.slice A l.length c) := fun O => (blk_cell (lv_al BA.out O) 0).trans rfl
  go_upto_region 5 with (first | (go_at_call 16; (with_reducible refine (rep_calls w1.heap.size l.length _ (heap_alloc_new w1 _) (by have := HL.out; omega)).mono ?_); rintro e w2 ⟨go, rfl, hgo, hlo, hb2⟩; have HCX := Aside0.mk (PlCx.mk (w0 := w) (base := w.heap.size + 1) (b := ga) (A := A) (by omega) (by have := GA.out; omega) (fun a ha => by have := HA.out a ha; omega)); have hbb := below_alloc (Below.refl w1.heap.size w1) (.cells #[.int .i64 (-1)] 3); have hbw : Below w.heap.size w w2 := below_step (below_alloc HB1.out _) hb2; have hga : ga < w1.heap.size := blk_lt BA.out; have HS := Aside0.mk (show PlSt w w2 (w.heap.size + 1) ga A c l go (.slice none 0 0) (.slice none 0 0) (.slice none 0 0) (plOrd l 0) ⟨plOut0 l N 0, [], []⟩ from { hB := hbw, hx := ⟨(hb2.block ga (by simp; omega)).trans (lv_al BA.out _), Kd.C_below HR.out hbw, HC.out⟩, ho := (by rw [hgo, plOut0_zero]; simp [spCells, encs]), hr := Kd.Q_nil _ _ _ _ _, ha := Kd.Q_nil _ _ _ _ _, hf := Kd.Q_nil _ _ _ _ _, og := (by have : (w1.alloc (.cells #[.int .i64 (-1)] 3)).heap.size = w1.heap.size + 1 := (by simp); have := GA.out; omega), ar := (fun h => by cases h), aa := (fun h => by cases h), af := (fun h => by cases h), ra := (fun k h => by cases h), rf := (fun k h => by cases h), fa := (fun k h => by cases h) }); clear hgo hlo hb2 hbb hbw hga HB1 BA hbx))
  have hbx := HS.out.hx.box0
  go_wp2
  clear hbx
  go_loopg [30, 7] l.length (fun gg v30 v7 w' => ∃ (i : Nat) (vr : Value), i ≤ l.length ∧ l.length - i ≤ gg ∧ v30 = .int .i64 (i : Nat) ∧ v7 = vr ∧ Aside0 (PlSt w w' (w.heap.size + 1) ga A c l go vr (.slice none 0 0) (.slice none 0 0) (plOrd l i) ⟨plOut0 l N i, [], []⟩))
  case atStart => exact ⟨0, _, Nat.zero_le _, by omega, rfl, rfl, HS⟩
  case round =>
    clear HS
    obtain ⟨i, vr, hi, hg, rfl, rfl, HS⟩ := hrel
    by_cases hlt : i < l.length
    · obtain ⟨ad, hAe, ha1, ha2⟩ := HS.out.hx.at_ i hlt
      have hd : decide ((i : Int) < (l.length : Int)) = true := decide_eq_true (by omega)
      have x0 : 0 ≤ (i : Int) := by omega
      have x1 : (i : Int) < (l.length : Int) := by omega
      have i1 := i64_id ((i : Int) + 1) (by omega) (by have := HL.out; omega)
      have HFT := Aside0.mk (⟨rfl, rfl⟩ : ff l i = ff l i ∧ tt l i = tt l i)
      subst hAe
      by_cases hf : ff l i ≤ tt l i
      · have HO := Aside0.mk ((plOrd_succ l i).trans (if_pos hf))
        have HU := Aside0.mk (plOut0_same l N i (.inl hf))
        have HLE := Aside0.mk (plOrd_le l i)
        generalize ff l i = fi at ha1 hf
        generalize tt l i = ti at ha2 hf
        have HS1 := Aside0.mk (HS.out.free_ HCX.out (World.grownBy_alloc wr (.cells #[.int .i64 fi, .int .i64 ti] 35) none))
        go_upto_region 9 with (fail)
        generalize wr.alloc (.cells #[.int .i64 fi, .int .i64 ti] 35) = wx at HS1 ⊢
        go_wp2_with (first | ((with_reducible refine gate_builtin (b := .append) (xs := #[.tmp 40, .tmp 42]) rfl ?_); at_builtin; refine iq_app (w.heap.size + 1) rfl (.tmp 40) (.tmp 42) rfl u7 (zs (plOrd l i)) (i : Int) rfl rfl HS1.out.hr ?hb ?hl ?_; (case hb => exact Nat.le_of_lt (Nat.lt_of_le_of_lt HS1.out.og HS1.out.lo)); (case hl => rw [zs_len]; have := HLE.out; have := HL.out; omega); intro v43 w43 a1 a2 a3; rw [← zs_snoc] at a1; have HS2 := Aside0.mk (HS1.out.putR HCX.out a2 a1 a3); clear a1 a2 a3 HS1 HS))
        go_roundg (l.length - (i + 1))
        case measure => omega
        case rel => exact ⟨i + 1, _, by omega, Nat.le_refl _, rfl, rfl, ⟨by rw [HO.out, HU.out]; exact HS2.out⟩⟩
      · have HO := Aside0.mk ((plOrd_succ l i).trans (if_neg hf))
        by_cases hN0 : 0 < N
        · have HU := Aside0.mk (plOut0_set l N i hlt hf (by omega))
          have hNz : (0 : Int) < (N : Int) := by omega
          generalize ff l i = fi at ha1 hf
          generalize tt l i = ti at ha2 hf
          have HS1 := Aside0.mk (HS.out.free_ HCX.out (World.grownBy_alloc wr (.cells #[.int .i64 fi, .int .i64 ti] 35) none))
          have HS2 := Aside0.mk (HS1.out.putO HCX.out i 0)
          have ho := HS1.out.out_at i (by rw [plOut0_len]; exact hlt)
          have hz := blk_frozen HS1.out.ho i
          generalize (PS.out ⟨plOut0 l (N : Int) i, [], []⟩).getD i 0 = oi at ho
          clear HS HS1
          go_wp2
          go_roundg (l.length - (i + 1))
          case measure => omega
          case rel => exact ⟨i + 1, _, by omega, Nat.le_refl _, rfl, rfl, ⟨by rw [HO.out, HU.out]; exact HS2.out⟩⟩
        · have HU := Aside0.mk (plOut0_same l N i (.inr (by omega)))
          have hNz : ¬ (0 : Int) < (N : Int) := by omega
          generalize ff l i = fi at ha1 hf
          generalize tt l i = ti at ha2 hf
          have HS1 := Aside0.mk (HS.out.free_ HCX.out (World.grownBy_alloc wr (.cells #[.int .i64 fi, .int .i64 ti] 35) none))
          clear HS
          go_wp2
          go_roundg (l.length - (i + 1))
          case measure => omega
          case rel => exact ⟨i + 1, _, by omega, Nat.le_refl _, rfl, rfl, ⟨by rw [HO.out, HU.out]; exact HS1.out⟩⟩
    · obtain rfl : i = l.length := by omega
      have hd : decide ((l.length : Int) < (l.length : Int)) = false := decide_eq_false (by omega)
      clear hlt hi hg
      go_upto_region 13 with (fail)
      generalize wr = wa at HS ⊢
      go_upto_region 14 with (first | (go_at_call 17; (with_reducible refine (srt_calls60 (w.heap.size + 1) ga A c l (plOrd l l.length) u7 wa HS.out.hx HCX.out.hA HCX.out.hb HS.out.hr (plOrd_lt l) (by have := plOrd_le l l.length; have := HL.out; omega)).mono ?_); rintro e wb ⟨rfl, ord, hp, hs, hq, hg⟩; have HS2 := Aside0.mk (HS.out.putR HCX.out hg hq (.inl rfl)); have HP := Aside0.mk hp; have HO := Aside0.mk hs; clear hp hs hq hg HS))
      obtain ⟨Ar, cr, e7, _⟩ := iq_slice HS2.out.hr
      rw [zs_len] at e7
      subst e7
      have HOL := Aside0.mk (show ord.length ≤ l.length by rw [HP.out.length_eq]; exact plOrd_le l l.length)
      have HOM := Aside0.mk (show ∀ k ∈ ord, k < l.length from fun k hk => plOrd_lt l k (HP.out.mem_iff.1 hk))
      have i1 := i64_id2 ((N : Int) - 1) (by omega) (by omega)
      go_wp2
      go_loopg [12, 11] (N + 1) (fun gg v12 v11 w' => ∃ (j : Nat) (vf : Value), j ≤ N ∧ N - j + 1 ≤ gg ∧ v12 = .int .i64 ((N : Int) - 1 - (j : Int)) ∧ v11 = vf ∧ Aside0 (PlSt w w' (w.heap.size + 1) ga A c l go (.slice Ar ord.length cr) (.slice none 0 0) vf ord ⟨plOut0 l N l.length, [], (plFree N).take j⟩))
      case atStart => exact ⟨0, _, Nat.zero_le _, by omega, by rw [show ((N : Int) - 1 - ((0 : Nat) : Int)) = (N : Int) - 1 by omega], rfl, HS2⟩
      case round =>
        clear HS2 i1
        obtain ⟨j, vf, hj, hgj, rfl, rfl, HS⟩ := hrel
        by_cases hlt : j < N
        · have HX := Aside0.mk (show (((N - 1 - j : Nat) : Int) = (N : Int) - 1 - (j : Int)) by omega)
          have y0 : 0 ≤ (N : Int) - 1 - (j : Int) := by omega
          have i1 := i64_id2 ((N : Int) - 1 - (j : Int) - 1) (by omega) (by omega)
          have HXN := Aside0.mk (show (N : Int) - 1 - (j : Int) - 1 = (N : Int) - 1 - ((j + 1 : Nat) : Int) by omega)
          have HFL := Aside0.mk (plFree_snoc N j hlt)
          have HFE := Aside0.mk (show ((plFree N).take j).length ≤ 1000 by rw [List.length_take]; omega)
          generalize (N : Int) - 1 - (j : Int) = y at HX y0 i1 HXN ⊢
          go_wp2_with (first | ((with_reducible refine gate_builtin (b := .append) (xs := #[.tmp 59, .tmp 61]) rfl ?_); at_builtin; refine iq_app (w.heap.size + 1) rfl (.tmp 59) (.tmp 61) rfl u11 ((plFree N).take j) y rfl rfl HS.out.hf ?hb ?hl ?_; (case hb => exact Nat.le_of_lt (Nat.lt_of_le_of_lt HS.out.og HS.out.lo)); (case hl => exact HFE.out); intro v62 w62 a1 a2 a3; rw [← HX.out, HFL.out] at a1; have HS2 := Aside0.mk (HS.out.putF HCX.out a2 a1 a3); clear a1 a2 a3 HS))
          go_roundg (N - (j + 1) + 1)
          case measure => omega
          case rel => exact ⟨j + 1, _, by omega, Nat.le_refl _, by rw [HXN.out], rfl, HS2⟩
        · obtain rfl : N = j := by omega
          have y0 : ¬ 0 ≤ (N : Int) - 1 - (N : Int) := by omega
          generalize (N : Int) - 1 - (N : Int) = y at y0 ⊢
          go_upto_region 20 with (fail)
          have HS2 := Aside0.mk (show PlSt w wr (w.heap.size + 1) ga A c l go (.slice Ar ord.length cr) (.slice none 0 0) u11 ord (plAt l N ord 0) by
            have e : (plFree N).take N = plFree N := List.take_of_length_le (by simp [plFree])
            have := HS.out
            rw [e] at this
            exact this)
          clear HS hlt hgj y0 HR HB
          generalize wr = wa at HS2 ⊢
          go_wp2
          go_loopg [65, 10, 11] ord.length (fun gg v65 v10 v11 w' => ∃ (j : Nat) (va vf : Value), j ≤ ord.length ∧ ord.length - j ≤ gg ∧ v65 = .int .i64 (j : Nat) ∧ v10 = va ∧ v11 = vf ∧ Aside0 (PlSt w w' (w.heap.size + 1) ga A c l go (.slice Ar ord.length cr) va vf ord (plAt l N ord j)))
          case atStart => exact ⟨0, _, _, Nat.zero_le _, by omega, rfl, rfl, rfl, HS2⟩
          case round =>
            clear HS2
            obtain ⟨j, va, vf, hj, hgj, rfl, rfl, rfl, HS⟩ := hrel
            by_cases hlt : j < ord.length
            · obtain ⟨i, hi⟩ : ∃ i, ord.getD j 0 = i := ⟨_, rfl⟩
              have hil : i < l.length := HOM.out i (by rw [← hi, List.getD_eq_getElem?_getD, List.getElem?_eq_getElem hlt]; exact List.getElem_mem _)
              have HNX := Aside0.mk (plAt_succ l N ord j hlt)
              have HIV := Aside0.mk (plAt_inv l N ord HOM.out j hj)
              rw [hi] at HNX
              generalize hsE : plAt l N ord j = s at HS HNX HIV
              have x0 : 0 ≤ (j : Int) := by omega
              have x1 : (j : Int) < (ord.length : Int) := by omega
              have hd : decide ((j : Int) < (ord.length : Int)) = true := decide_eq_true x1
              have i1 := i64_id2 ((j : Int) + 1) (by omega) (by have := HL.out; have := HOL.out; omega)
              obtain ⟨ad, hAe, hc0⟩ := iq_at HS.out.hr j (by rw [zs_len]; exact hlt)
              rw [show (zs ord).getD j 0 = (i : Int) by rw [← hi]; simp [zs, List.getD_eq_getElem?_getD, hlt]] at hc0
              subst hAe
              clear hi hsE
              go_wp2
              go_loopg [10, 11] (N + 1) (fun gg v10 v11 w' => ∃ (act : List Nat) (free : List Int) (va vf : Value), v10 = va ∧ v11 = vf ∧ act.length + free.length = N ∧ act.length + 1 ≤ gg ∧ (∀ k ∈ act, k < l.length) ∧ Aside0 (plExp l (ff l i) s.out act free = plExp l (ff l i) s.out s.act s.free) ∧ Aside0 (PlSt w w' (w.heap.size + 1) ga A c l go (.slice (some ad) ord.length cr) va vf ord ⟨s.out, act, free⟩))
              case atStart => exact ⟨s.act, s.free, _, _, rfl, rfl, HIV.out.tot, by have := HIV.out.tot; omega, HIV.out.alt, ⟨rfl⟩, HS⟩
              case round =>
                clear HS hc0
                obtain ⟨act, free, va, vf, rfl, rfl, htot, hgi, halt, HE, HS⟩ := hrel
                obtain ⟨Aa, ca, ea, hca⟩ := iq_slice HS.out.ha
                rw [zs_len] at ea hca
                have ea : u10 = .slice Aa act.length ca := ea
                have hca : act.length ≤ ca := hca
                subst ea
                have hbx := HS.out.hx.box0
                obtain ⟨al, hAl, hi1, hi2⟩ := HS.out.hx.at_ i hil
                subst hAl
                have z0 : 0 ≤ (i : Int) := by omega
                have z1 : (i : Int) < (l.length : Int) := by omega
                go_upto_region 23 with (fail)
                go_cut [86] (fun v86 wc => v86 = .bool (plMore l (ff l i) act) ∧ Aside0 (PlSt w wc (w.heap.size + 1) ga (some al) c l go (.slice (some ad) ord.length cr) (.slice Aa act.length ca) u11 ord ⟨s.out, act, free⟩))
                case first =>
                  cases act with
                  | nil =>
                    go_region
                    go_wp2
                    go_meet
                    case rel => exact ⟨rfl, ⟨HS.out.free_ HCX.out (drew_grown _)⟩⟩
                  | cons a r =>
                    have hal : a < l.length := halt a (List.mem_cons_self ..)
                    obtain ⟨aa, hAa, hk0⟩ := iq_at HS.out.ha 0 (by rw [zs_len]; simp)
                    subst hAa
                    replace hk0 : wr.cell? (aa.add 0) = some (.int .i64 (a : Int)) := hk0
                    rw [add_zero] at hk0
                    obtain ⟨al', hAl', ha1, ha2⟩ := HS.out.hx.at_ a hal
                    obtain rfl : al = al' := by simpa using hAl'
                    have y0 : 0 ≤ (a : Int) := by omega
                    have y1 : (a : Int) < (l.length : Int) := by omega
                    have p0 : (0 : Int) < (((a :: r).length : Nat) : Int) := by simp
                    obtain ⟨fi, hfi⟩ : ∃ fi, ff l i = fi := ⟨_, rfl⟩
                    obtain ⟨ta, hta⟩ : ∃ ta, tt l a = ta := ⟨_, rfl⟩
                    rw [hfi] at hi1
                    rw [hta] at ha2
                    have HFI := Aside0.mk hfi
                    have HTA := Aside0.mk hta
                    clear hfi hta
                    go_region
                    go_wp2
                    go_meet
                    case rel => exact ⟨by show Value.bool (decide (ta < fi)) = Value.bool (decide (tt l a < ff l i)); rw [HFI.out, HTA.out], ⟨HS.out.free_ HCX.out (drew_grown _)⟩⟩
                case rest =>
                  clear HS hbx hi1 hi2
                  obtain ⟨e86, HS⟩ := hcut
                  cases hm : plMore l (ff l i) act with
                  | true =>
                    rw [hm] at e86
                    subst e86
                    cases act with
                    | nil => exact absurd hm (by simp [plMore])
                    | cons a r =>
                      have hal : a < l.length := halt a (List.mem_cons_self ..)
                      have HGO := Aside0.mk (plExp_go l (ff l i) s.out a r free (by unfold plMore at hm; simpa using hm))
                      obtain ⟨aa, hAa, hk0⟩ := iq_at HS.out.ha 0 (by rw [zs_len]; simp)
                      subst hAa
                      replace hk0 : wc.cell? (aa.add 0) = some (.int .i64 (a : Int)) := hk0
                      rw [add_zero] at hk0
                      have hoa : wc.cell? ⟨go, a, none⟩ = some (.int .i64 (s.out.getD a 0)) := HS.out.out_at a (by show a < s.out.length; rw [HIV.out.olen]; exact hal)
                      have HFL := Aside0.mk (show free.length ≤ 1000 by omega)
                      obtain ⟨oa, hoE⟩ : ∃ oa, s.out.getD a 0 = oa := ⟨_, rfl⟩
                      rw [hoE] at hoa
                      have HOE := Aside0.mk hoE
                      have y0 : 0 ≤ (a : Int) := by omega
                      have y1 : (a : Int) < (l.length : Int) := by omega
                      have p0 : (0 : Int) < (((a :: r).length : Nat) : Int) := by simp
                      clear hoE hm
                      go_wp2_with (first | ((with_reducible refine gate_builtin (b := .append) (xs := #[.tmp 87, .tmp 94]) rfl ?_); at_builtin; refine iq_app (w.heap.size + 1) rfl (.tmp 87) (.tmp 94) rfl u11 free oa rfl rfl HS.out.hf ?hb ?hl ?_; (case hb => exact Nat.le_of_lt (Nat.lt_of_le_of_lt HS.out.og HS.out.lo)); (case hl => exact HFL.out); intro v95 w95 a1 a2 a3; have HS2 := Aside0.mk (HS.out.putF HCX.out a2 a1 a3); obtain ⟨A', c', hcut, hq, hob⟩ := iq_tail HS2.out.ha (by rw [zs_len]; simp); have HS3 := Aside0.mk (HS2.out.putA (act' := r) HCX.out (World.grownBy.refl _ _) hq (.inl hob)); replace hcut : ∀ W, (Instr.slice 28 (.slice (some aa) (r.length + 1) ca) (some (.int .i64 1)) none none).run Try.prog W = .ok (.slice A' r.length c') W := hcut; replace HS3 : Aside0 (PlSt w w95 (w.heap.size + 1) ga (some al) c l go (.slice (some ad) ord.length cr) (.slice A' r.length c') v95 ord ⟨s.out, r, free ++ [oa]⟩) := HS3; clear hq hob a1 a2 a3 HS HS2))
                      go_roundg (r.length + 1)
                      case measure => have : (a :: r).length = r.length + 1 := rfl; omega
                      case rel =>
                        have : (a :: r).length = r.length + 1 := rfl
                        exact ⟨r, free ++ [oa], _, _, rfl, rfl, by rw [List.length_append, List.length_singleton]; omega, Nat.le_refl _, fun k hk => halt k (List.mem_cons_of_mem _ hk), ⟨by rw [← HOE.out, ← HGO.out]; exact HE.out⟩, HS3⟩
                  | false =>
                    rw [hm] at e86
                    subst e86
                    have HST := Aside0.mk (plExp_stop l (ff l i) s.out act free hm)
                    clear hm
                    have HMD := Aside0.mk (plMid_inv HIV.out i hil)
                    rw [← HE.out, HST.out] at HMD
                    have HBE := HE.out
                    rw [HST.out] at HBE
                    have HBE := Aside0.mk HBE
                    clear HE HST
                    have hbx := HS.out.hx.box0
                    obtain ⟨al', hAl', hi1, hi2⟩ := HS.out.hx.at_ i hil
                    obtain rfl : al = al' := by simpa using hAl'
                    have HBS := Aside0.mk (bs_calls (w.heap.size + 1) ga (some al) c l act (tt l i) (.slice Aa act.length ca) wc HS.out.hx HCX.out.hA HCX.out.hb HS.out.ha halt (by omega) (fun p q hpq hq hlt2 => by
                      rcases Nat.lt_or_eq_of_le hpq with h | rfl
                      · have := List.pairwise_iff_getElem.1 HMD.out.2.1 p q (by show p < act.length; omega) hq h
                        have e1 : act.getD p 0 = act[p]'(by omega) := by rw [List.getD_eq_getElem?_getD, List.getElem?_eq_getElem (by omega)]; rfl
                        have e2 : act.getD q 0 = act[q] := by rw [List.getD_eq_getElem?_getD, List.getElem?_eq_getElem hq]; rfl
                        rw [e2] at hlt2
                        rw [e1]
                        have : tt l act[p] ≤ tt l act[q] := this
                        omega
                      · exact hlt2))
                    obtain ⟨ti, hti⟩ : ∃ ti, tt l i = ti := ⟨_, rfl⟩
                    have HCN := Aside0.mk (show act.countP (fun k => decide (tt l k < tt l i)) = plCnt l i act from rfl)
                    rw [HCN.out] at HBS
                    rw [hti] at HBS hi2
                    clear HCN hti hAl' hi1
                    go_upto_region 27 with (first | (go_at_call 20; (with_reducible refine HBS.out.mono ?_); rintro e wd ⟨⟨fb, rfl⟩, hg⟩; have HS2 := Aside0.mk (HS.out.free_ HCX.out hg); clear hg HS HBS))
                    have HS3 := Aside0.mk (HS2.out.free_ HCX.out (World.grownBy_alloc wd (.cells #[.int .i64 (i : Int)] 3) none))
                    have HIN := Aside0.mk (ins_calls (w.heap.size + 1) (.slice Aa act.length ca) (zs act) (plCnt l i act) (i : Int) wd.heap.size (wd.alloc (.cells #[.int .i64 (i : Int)] 3)) HS3.out.ha (by rw [zs_len]; exact plCnt_le _ _ _) (by rw [zs_len]; omega) (heap_alloc_new wd _) (fun he => by have := HS2.out.ha.lt _ he; omega) (Nat.le_of_lt (Nat.lt_of_le_of_lt HS3.out.og HS3.out.lo)))
                    rw [zs_ins] at HIN
                    generalize plCnt l i act = cnt at HIN ⊢
                    clear HS2 hbx hi2
                    go_upto_region 28 with (first | (go_at_call 22; (with_reducible refine HIN.out.mono ?_); rintro e we ⟨va2, rfl, hq, hg, hob⟩; have HS4 := Aside0.mk (HS3.out.putA HCX.out hg hq hob); clear hq hg hob HS3 HIN))
                    obtain ⟨A2, c2, e2, hc2⟩ := iq_slice HS4.out.ha
                    rw [zs_len] at e2 hc2
                    replace e2 : va2 = .slice A2 (plIns l i act).length c2 := e2
                    subst e2
                    obtain ⟨Af, cf, ef, hcf⟩ := iq_slice HS4.out.hf
                    replace ef : u11 = .slice Af free.length cf := ef
                    subst ef
                    have HFIN := Aside0.mk (show plStep l s i = plFin ⟨s.out, plIns l i act, free⟩ i by unfold plStep; rw [← HBE.out])
                    have HPL := Aside0.mk (plIns_len l i act)
                    have HLT := Aside0.mk HMD.out.2.2.2.1
                    clear HBE HMD
                    have ho0 : we.cell? ⟨go, i, none⟩ = some (.int .i64 (s.out.getD i 0)) := HS4.out.out_at i (by show i < s.out.length; rw [HIV.out.olen]; exact hil)
                    obtain ⟨oi, hoi⟩ : ∃ oi, s.out.getD i 0 = oi := ⟨_, rfl⟩
                    rw [hoi] at ho0
                    have hz0 := blk_frozen HS4.out.ho i
                    clear hoi
                    by_cases hfz : free.length = 0
                    · obtain rfl : free = [] := List.eq_nil_of_length_eq_zero hfz
                      obtain ⟨p, hp⟩ : ∃ p, (plIns l i act).length = p + 1 := ⟨act.length, HPL.out⟩
                      generalize plIns l i act = act2 at HS4 HFIN HPL HLT hc2 hp ⊢
                      obtain ⟨aa, hAa, hk0⟩ := iq_at HS4.out.ha p (by rw [zs_len]; show p < act2.length; omega)
                      subst hAa
                      replace hk0 : we.cell? (aa.add p) = some (.int .i64 ((zs act2).getD p 0)) := hk0
                      rw [zs_getD _ _ (by omega)] at hk0
                      obtain ⟨la, hla⟩ : ∃ la, act2.getD p 0 = la := ⟨_, rfl⟩
                      have hll : la < l.length := HLT.out la (by rw [← hla, List.getD_eq_getElem?_getD, List.getElem?_eq_getElem (by omega : p < act2.length)]; exact List.getElem_mem _)
                      have HLA := Aside0.mk (show lastN act2 = la by unfold lastN; rw [hp]; exact hla)
                      have HPE := Aside0.mk hp
                      rw [hla] at hk0
                      have hc1 := (iq_cut HS4.out.ha p (by rw [zs_len]; show p ≤ act2.length; omega)).1
                      have HS5 := Aside0.mk (HS4.out.putA (act' := act2.take p) HCX.out (World.grownBy.refl _ _) (by have := (iq_cut HS4.out.ha p (by rw [zs_len]; show p ≤ act2.length; omega)).2.1; rw [show (zs act2).take p = zs (act2.take p) by simp [zs]] at this; exact this) (.inl (iq_cut HS4.out.ha p (by rw [zs_len]; show p ≤ act2.length; omega)).2.2))
                      have y0 : 0 ≤ (p : Int) := Int.natCast_nonneg p
                      have y1 : (p : Int) < (act2.length : Int) := by omega
                      have b0 : 0 ≤ (la : Int) := Int.natCast_nonneg la
                      have b1 : (la : Int) < (l.length : Int) := by omega
                      have ho1 : we.cell? ⟨go, la, none⟩ = some (.int .i64 (s.out.getD la 0)) := HS4.out.out_at la (by show la < s.out.length; rw [HIV.out.olen]; exact hll)
                      obtain ⟨oa, hoa⟩ : ∃ oa, s.out.getD la 0 = oa := ⟨_, rfl⟩
                      rw [hoa] at ho1
                      have HOA := Aside0.mk hoa
                      have hz1 := blk_frozen HS4.out.ho la
                      have hp30 : p + 1 ≤ 90 := by have := HPL.out; omega
                      have w1 : IntKind.i64.wrap ((act2.length : Int) - 1) = (p : Int) := wr4 _ _ hp hp30
                      clear hla hp hoa HS4
                      replace HS5 : Aside0 (PlSt w we (w.heap.size + 1) ga (some al) c l go (.slice (some ad) ord.length cr) (.slice (some aa) p c2) (.slice Af 0 cf) ord ⟨s.out, act2.take p, []⟩) := HS5
                      by_cases he : la = i
                      · subst he
                        have HFA := Aside0.mk (plFin_a s.out act2 la p HPE.out HLA.out)
                        go_wp2
                        clear w1
                        go_roundg (ord.length - (j + 1))
                        case measure => omega
                        case rel => exact ⟨j + 1, _, _, by omega, Nat.le_refl _, rfl, rfl, rfl, ⟨by rw [HNX.out, HFIN.out, HFA.out]; exact HS5.out⟩⟩
                      · have hne : ¬ ((la : Int) = (i : Int)) := by omega
                        have hne2 : ¬ la = i := he
                        have HFB := Aside0.mk (plFin_b s.out act2 i p la HPE.out HLA.out he)
                        have HS6 := Aside0.mk ((HS5.out.putO HCX.out i oa).putO HCX.out la (-1))
                        go_wp2
                        clear w1
                        go_roundg (ord.length - (j + 1))
                        case measure => omega
                        case rel => exact ⟨j + 1, _, _, by omega, Nat.le_refl _, rfl, rfl, rfl, ⟨by rw [HNX.out, HFIN.out, HFB.out, HOA.out]; exact HS6.out⟩⟩
                    · obtain ⟨m, hm⟩ : ∃ m, free.length = m + 1 := ⟨free.length - 1, by omega⟩
                      obtain ⟨af, hAf, hk0⟩ := iq_at HS4.out.hf m (by show m < free.length; omega)
                      subst hAf
                      replace hk0 : we.cell? (af.add m) = some (.int .i64 (free.getD m 0)) := hk0
                      obtain ⟨fv, hfv⟩ : ∃ fv, free.getD m 0 = fv := ⟨_, rfl⟩
                      rw [hfv] at hk0
                      have HFV := Aside0.mk hfv
                      have HFC := Aside0.mk (plFin_c s.out (plIns l i act) free i m hm)
                      have hc1 := (iq_cut HS4.out.hf m (by show m ≤ free.length; omega)).1
                      have HS5 := Aside0.mk (HS4.out.putO HCX.out i fv)
                      have HS6 := Aside0.mk (HS5.out.putF (free' := free.take m) HCX.out (World.grownBy.refl _ _) (iq_cut HS5.out.hf m (by show m ≤ free.length; omega)).2.1 (.inl (iq_cut HS5.out.hf m (by show m ≤ free.length; omega)).2.2))
                      have y0 : 0 ≤ (m : Int) := Int.natCast_nonneg m
                      have y1 : (m : Int) < (free.length : Int) := by omega
                      have y2 : (0 : Int) < (free.length : Int) := Int.lt_of_le_of_lt y0 y1
                      have hm30 : m + 1 ≤ 90 := by omega
                      have w1 : IntKind.i64.wrap ((free.length : Int) - 1) = (m : Int) := wr4 _ _ hm hm30
                      clear hfv hm HS4 HS5
                      go_wp2
                      clear w1
                      go_roundg (ord.length - (j + 1))
                      case measure => omega
                      case rel => exact ⟨j + 1, _, _, by omega, Nat.le_refl _, rfl, rfl, rfl, ⟨by rw [HNX.out, HFIN.out, HFC.out, HFV.out]; exact HS6.out⟩⟩
            · obtain rfl : j = ord.length := by omega
              have hd : decide ((ord.length : Int) < (ord.length : Int)) = false := decide_eq_false (by omega)
              clear hlt hgj hj
              go_wp2
              go_ret2
              have hfin := HS.out
              rw [plAt_all] at hfin
              exact ⟨ord, go, HP.out, HO.out, rfl, hfin.ho, by have := hfin.og; omega, hfin.hB⟩
end Go.Proofs.Ytpfbloddhfphiaa.K
