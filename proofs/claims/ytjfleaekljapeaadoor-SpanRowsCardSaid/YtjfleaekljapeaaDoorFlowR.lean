import Derived.Test.YtjfleaekljapeaaDoorK0
import Derived.Test.YtjfleaekljapeaaDoorFlowA
import Derived.Deep.DeepMust
import Derived.Test.YtjfleaekljapeaaDoorProg
import Derived.Below
import Derived.Deep.Draws
import Derived.Deep.AppendLies
import Derived.Maps.AppendAt
import Derived.OwnWalk
import Derived.Laws.BytesArg
import Derived.Laws.MakeOwn
import Derived.Laws.OwnMore
import Derived.Deep.OwnRows
import Derived.Tactics
import Derived.Lib.ConvBytes
import Derived.Laws.Slices
import Derived.WalkKit
import Derived.KernelRfl
import Derived.RowKit3
import Derived.Deep.LoopGhost
import Derived.Deep.QuietTactic
import Derived.BigQuiet
import Derived.WideLaws
import Derived.Deep.DeepCutAuto
import Derived.Deep.CutBlock
import Derived.Deep.RegionHeld3
import Derived.Laws.Rows
import Derived.Lib.AppendStr
import Derived.ArgAppend
import Derived.Laws.IdiomCopy
import Derived.OrdersHeld
import Derived.Laws.BitsLemmas
import Derived.RowKit
import Derived.RegionTactic
import Derived.Deep.RegionWith
import Derived.Lib.Hide
import Derived.Test.YtjfleaekljapeaaDoorWWords
import Derived.Test.YtjfleaekljapeaaDoorWLast
import Derived.Test.YtjfleaekljapeaaDoorWTab
import Derived.Test.YtjfleaekljapeaaDoorWFour
import Derived.Test.YtjfleaekljapeaaDoorWQPut
import Derived.Test.YtjfleaekljapeaaDoorWApart
import Derived.Test.YtjfleaekljapeaaDoorWArr
import Derived.Test.YtjfleaekljapeaaDoorWZeros
import Derived.Test.YtjfleaekljapeaaDoorWFoot
import Derived.Test.YtjfleaekljapeaaDoorWKept
import Derived.Test.YtjfleaekljapeaaDoorWShare
import Derived.Test.YtjfleaekljapeaaDoorWN
import Derived.Test.YtjfleaekljapeaaDoorWEqStruct
import Derived.Test.YtjfleaekljapeaaDoorWRepsOne
import Derived.Test.YtjfleaekljapeaaDoorWGuard
import Derived.Test.YtjfleaekljapeaaDoorWNEv
import Derived.Test.YtjfleaekljapeaaDoorWMore
import Derived.Deep.RegionLaw
import Derived.Laws.CopyOwn
import Derived.Shelf.Spec.TrailingZeros
namespace Go.Proofs.YtjfleaekljapeaaDoor.K
open Go.RowKit Go.Proofs.YtjfleaekljapeaaDoorW.PrintWords Go.Proofs.YtjfleaekljapeaaDoorW.PrintLast Go.Proofs.YtjfleaekljapeaaDoorW.PrintMore
attribute [local go_sem] max2_int min2_int max_two min_two max_three min_three max_four min_four   -- for this text's walks alone
set_option linter.unusedVariables false
set_option linter.unusedSimpArgs false
set_option linter.unusedSectionVars false
/-! ### flow.Reads: function 43 -/
def kP : Kd Addr := Kd.scalar (fun a => Value.pointer (some a)) (fun _ => rfl)
theorem info86 : (Tryd.prog.info? 86).map (fun i => (i.zero, i.size, i.bytes)) = some (some (.pointer none), 1, 8) := by kernel_rfl
theorem two_ptr {W : World} {g t : Nat} {a b : Addr} (h : W.heap[g]? = some (.cells #[.pointer (some a), .pointer (some b)] t (0, 0))) : kP.C W (some ⟨g, 0, none⟩) 2 [a, b] :=
  ⟨rfl, by omega, fun _ => ⟨_, rfl, fun j p hj => by
    have hlt := (List.getElem?_eq_some_iff.1 hj).1
    refine ⟨[.pointer (some p)], rfl, rfl, fun i u hi => ?_⟩
    obtain rfl : i = 0 := by have := (List.getElem?_eq_some_iff.1 hi).1; simp at this; exact this
    have e : Value.pointer (some p) = u := by simpa using hi
    subst e
    have hj2 : j = 0 ∨ j = 1 := by simp at hlt; omega
    rw [add_plain]
    rcases hj2 with rfl | rfl
    · obtain rfl : a = p := by simpa using hj
      exact (blk_cell h 0).trans rfl
    · obtain rfl : b = p := by simpa using hj
      exact (blk_cell h 1).trans rfl⟩⟩
def lvRa (op : Int) : Bool := op == 2 || (op == 4 || (op == 19 || (op == 20 || (op == 22 || (op == 35 || (op == 37 || (op == 38 || op == 40)))))))
def lvRab (op : Int) : Bool := op == 3 || op == 36
def lvPre (i : S44) : List Int := if lvRa i.f0 then [i.f2] else if lvRab i.f0 then [i.f2, i.f3] else []
def lvReads (i : S44) : List Int := lvPre i ++ i.f7
def lvPrePs (g : Nat) (i : S44) : List Addr := if lvRa i.f0 then [⟨g, 2, none⟩] else if lvRab i.f0 then [⟨g, 2, none⟩, ⟨g, 3, none⟩] else []
def i44 (i : S44) (A7 : Option Addr) (c7 : Nat) (A8 : Option Addr) (c8 : Nat) : Array Value := #[.int .i64 i.f0, .int .i64 i.f1, .int .i64 i.f2, .int .i64 i.f3, .int .u64 i.f4, .int .i64 i.f5, .string i.f6, .slice A7 i.f7.length c7, .slice A8 i.f8.length c8, .int .i64 i.f9]
def RdPost (g : Nat) (i : S44) (A7 : Option Addr) (w : World) (e : Ending) (w' : World) : Prop :=
  ∃ (A : Option Addr) (c : Nat) (ps : List Addr), e = .returned (.slice A ps.length c) ∧ ps.length ≤ c ∧ kP.C w' A ps.length ps ∧ ps.length = (lvReads i).length ∧ (∀ (j : Nat) (p : Addr), ps[j]? = some p → ∃ v : Int, (lvReads i)[j]? = some v ∧ w'.cell? p = some (.int .i64 v)) ∧ Below w.heap.size w w' ∧
    ∀ g', g' ≠ g → (∀ ad, A7 = some ad → 0 < i.f7.length → ad.block ≠ g') → g' < w.heap.size → (∀ ad, A = some ad → 0 < ps.length → ad.block ≠ g') ∧ ∀ p ∈ ps, p.block ≠ g'
def rdAd (A : Option Addr) (k : Nat) : List Addr := match A with
  | none => []
  | some ad => (List.range k).map fun j => ad.add j
theorem rdAd_zero (A : Option Addr) : rdAd A 0 = [] := by cases A <;> rfl
theorem rdAd_succ (ad : Addr) (k : Nat) : rdAd (some ad) (k + 1) = rdAd (some ad) k ++ [ad.add k] := by simp [rdAd, List.range_succ]
theorem rdAd_len (A : Option Addr) (k : Nat) : (rdAd A k).length ≤ k := by cases A <;> simp [rdAd]
theorem lvPrePs_len (g : Nat) (i : S44) : (lvPrePs g i).length ≤ 2 := by unfold lvPrePs; (repeat' split) <;> simp
theorem lvPre_len (g : Nat) (i : S44) : (lvPrePs g i).length = (lvPre i).length := by unfold lvPrePs lvPre; (repeat' split) <;> rfl
theorem rdAd_full {w : World} {i : S44} (A7 : Option Addr) (hc : (Kd.int .i64).C w A7 i.f7.length i.f7) : (rdAd A7 i.f7.length).length = i.f7.length := by
  cases A7 with
  | some ad => simp [rdAd]
  | none =>
    have h : i.f7.length = 0 := by
      rcases Nat.eq_zero_or_pos i.f7.length with h | h
      · exact h
      · obtain ⟨ad, e, _⟩ := hc.2.2 h
        cases e
    rw [h]; rfl
theorem rd_len {w : World} (A7 : Option Addr) (g : Nat) (i : S44) (hc : (Kd.int .i64).C w A7 i.f7.length i.f7) : (lvPrePs g i ++ rdAd A7 i.f7.length).length = (lvReads i).length := by
  unfold lvReads
  rw [List.length_append, List.length_append, rdAd_full A7 hc, lvPre_len]
theorem rd_val {w w' : World} (g : Nat) (i : S44) (A7 : Option Addr) (c7 : Nat) (A8 : Option Addr) (c8 : Nat) (hg : w.heap[g]? = some (.cells (i44 i A7 c7 A8 c8) 44 (0, 0))) (hc : (Kd.int .i64).C w A7 i.f7.length i.f7) (hb : Below w.heap.size w w') :
    ∀ (j : Nat) (p : Addr), (lvPrePs g i ++ rdAd A7 i.f7.length)[j]? = some p → ∃ v : Int, (lvReads i)[j]? = some v ∧ w'.cell? p = some (.int .i64 v) := by
  intro j p hj
  have hgl := blk_lt hg
  have c2 : w'.cell? ⟨g, 2, none⟩ = some (.int .i64 i.f2) := (hb.cell (p := ⟨g, 2, none⟩) hgl).trans ((blk_cell hg 2).trans rfl)
  have c3 : w'.cell? ⟨g, 3, none⟩ = some (.int .i64 i.f3) := (hb.cell (p := ⟨g, 3, none⟩) hgl).trans ((blk_cell hg 3).trans rfl)
  unfold lvReads
  by_cases hlt : j < (lvPrePs g i).length
  · rw [List.getElem?_append_left hlt] at hj
    rw [List.getElem?_append_left (by rw [← lvPre_len g]; exact hlt)]
    unfold lvPrePs at hj hlt
    unfold lvPre
    split at hj
    · rename_i h
      rw [if_pos h] at hlt ⊢
      obtain rfl : j = 0 := by simp at hlt; exact hlt
      obtain rfl : (⟨g, 2, none⟩ : Addr) = p := by simpa using hj
      exact ⟨_, rfl, c2⟩
    · rename_i h
      rw [if_neg h] at hlt ⊢
      split at hj
      · rename_i h2
        rw [if_pos h2] at hlt ⊢
        have hj2 : j = 0 ∨ j = 1 := by simp at hlt; omega
        rcases hj2 with rfl | rfl
        · obtain rfl : (⟨g, 2, none⟩ : Addr) = p := by simpa using hj
          exact ⟨_, rfl, c2⟩
        · obtain rfl : (⟨g, 3, none⟩ : Addr) = p := by simpa using hj
          exact ⟨_, rfl, c3⟩
      · simp at hj
  · rw [List.getElem?_append_right (by omega)] at hj
    rw [List.getElem?_append_right (by rw [← lvPre_len g]; omega), ← lvPre_len g]
    generalize j - (lvPrePs g i).length = m at hj
    cases A7 with
    | none => simp [rdAd] at hj
    | some ad =>
      have hm : m < i.f7.length := by have := (List.getElem?_eq_some_iff.1 hj).1; simpa [rdAd] using this
      obtain ⟨ad', e, hx⟩ := Kd.at_int hc (m : Int) (by omega) (by omega)
      obtain rfl : ad = ad' := by injection e
      rw [Int.toNat_natCast] at hx
      have hp : ad.add m = p := by simpa [rdAd, hm] using hj
      refine ⟨i.f7[m], List.getElem?_eq_getElem hm, ?_⟩
      rw [← hp, hb.cell (World.block_lt_of_cell? w _ hx), hx]
      unfold rd
      rw [Int.toNat_natCast, List.getD_eq_getElem?_getD, List.getElem?_eq_getElem hm]
      rfl
theorem rd_own {w w' : World} {g' n c : Nat} {ad : Addr} {ys : List Addr} {ok : Nat → Prop} (h : kP.R 86 w' w.heap.size ok (.slice (some ad) n c) ys) (hp : 0 < ys.length) (hg : g' < w.heap.size) : ad.block ≠ g' := by
  obtain ⟨inner, ho⟩ := Kd.R_own h
  rcases ho.2 with ⟨e, _⟩ | ⟨b, cap, cur, e, hb, _⟩
  · cases e
  · injection e with e _ _
    injection e with e
    rw [e]
    show b ≠ g'
    omega
theorem rd_far (g : Nat) (i : S44) (A7 : Option Addr) {g' : Nat} (h1 : g' ≠ g) (h2 : ∀ ad, A7 = some ad → 0 < i.f7.length → ad.block ≠ g') : ∀ p ∈ lvPrePs g i ++ rdAd A7 i.f7.length, p.block ≠ g' := by
  intro p hp
  rw [List.mem_append] at hp
  rcases hp with hp | hp
  · have : p.block = g := by
      unfold lvPrePs at hp
      split at hp
      · simp at hp; rw [hp]
      · split at hp
        · simp at hp; rcases hp with rfl | rfl <;> rfl
        · cases hp
    rw [this]; exact Ne.symm h1
  · cases A7 with
    | none => cases hp
    | some ad =>
      simp only [rdAd, List.mem_map, List.mem_range] at hp
      obtain ⟨j, hj, rfl⟩ := hp
      rw [add_block]
      exact h2 ad rfl (by omega)
set_option maxHeartbeats 2000000 in
set_option maxRecDepth 100000 in
theorem rd_calls (g : Nat) (i : S44) (A7 : Option Addr) (c7 : Nat) (A8 : Option Addr) (c8 : Nat) (w : World) (hg : w.heap[g]? = some (.cells (i44 i A7 c7 A8 c8) 44 (0, 0))) (hl : i.f7.length ≤ c7) (hc : (Kd.int .i64).C w A7 i.f7.length i.f7) (hn : i.f7.length ≤ 1000000) :
    Calls Tryd.prog 43 #[.pointer (some ⟨g, 0, none⟩)] w (RdPost g i A7 w) := by
  have hu44 := Tryd.underlying44
  have h0 : w.cell? ⟨g, 0, none⟩ = some (.int .i64 i.f0) := (blk_cell hg 0).trans rfl
  have h7 : w.cell? ⟨g, 7, none⟩ = some (.slice A7 i.f7.length c7) := (blk_cell hg 7).trans rfl
  have hgl := blk_lt hg
  have HG := Aside0.mk hg
  have HL := Aside0.mk hl
  have HC := Aside0.mk hc
  have HN := Aside0.mk hn
  have HB := Aside0.mk (Below.refl w.heap.size w)
  clear hg hl hc hn
  go_enter Tryd.func43, Tryd.ntmps43
  go_upto_block 0 with (fail)
  go_cut [3, 8] (fun v3 v8 wc => Aside0 (kP.R 86 wc w.heap.size (fun _ => True) v3 (lvPrePs g i)) ∧ Aside0 (Below w.heap.size w wc))
  case first =>
    cases hra : lvRa i.f0 with
    | true =>
      have HP := Aside0.mk (show lvPrePs g i = [⟨g, 2, none⟩] by unfold lvPrePs; rw [hra]; rfl)
      have hop : i.f0 = 2 ∨ i.f0 = 4 ∨ i.f0 = 19 ∨ i.f0 = 20 ∨ i.f0 = 22 ∨ i.f0 = 35 ∨ i.f0 = 37 ∨ i.f0 = 38 ∨ i.f0 = 40 := by
        unfold lvRa at hra
        simpa using hra
      clear hra
      rcases hop with hop | hop | hop | hop | hop | hop | hop | hop | hop
      all_goals
        go_wp2_with (first | ((with_reducible refine gate_builtin (b := .append) (xs := #[.tmp 19, .tmp 23]) rfl ?_); at_builtin; refine Kd.R_append kP (w0 := w) w.heap.size rfl (.tmp 19) (.tmp 23) 100 86 (.pointer none) 8 rfl Tryd.underlying100 info86 rfl (by decide) (by omega) (.slice none 0 0) [] (⟨g, 2, none⟩ : Addr) [.pointer (some ⟨g, 2, none⟩)] (fun _ => True) (fun _ => False) rfl (by first | (go_simp; done) | (go_simp; rfl)) ?aP (fun _ hk => hk.elim) ?aF ?aO ?aB ?aS ?aL ?_; (case aP => rfl); (case aF => exact fun _ _ => trivial); (case aO => exact Kd.R_nil _ _ _ _ _); (case aB => exact HB.out); (case aS => exact below_size HB.out); (case aL => simp); intro v24 w24 ho hb hg hat; clear HB; have HB := Aside0.mk hb; have HO := Aside0.mk ho; clear hb ho hg hat))
        go_meet
        case rel => exact ⟨by rw [HP.out]; exact HO, HB⟩
    | false =>
      have HRA := Aside0.mk hra
      unfold lvRa at hra
      simp only [Bool.or_eq_false_iff] at hra
      obtain ⟨n1, n2, n3, n4, n5, n6, n7, n8, n9⟩ := hra
      cases hrb : lvRab i.f0 with
      | true =>
        have HP := Aside0.mk (show lvPrePs g i = [⟨g, 2, none⟩, ⟨g, 3, none⟩] by unfold lvPrePs; rw [HRA.out, hrb]; rfl)
        have hop : i.f0 = 3 ∨ i.f0 = 36 := by
          unfold lvRab at hrb
          simpa using hrb
        clear hrb n1 n2 n3 n4 n5 n6 n7 n8 n9
        rcases hop with hop | hop
        all_goals
          go_upto_region 15 with (fail)
          go_region_law (refine Kd.R_append_rows_step kP (Rr := kP.K w) (w0 := w) w.heap.size (by rfl) (.tmp 28) (.tmp 35) 100 86 (.pointer none) 8 rfl Tryd.underlying100 info86 rfl (by decide) (by omega) (.slice none 0 0) [] [⟨g, 2, none⟩, ⟨g, 3, none⟩] (some ⟨w.heap.size, 0, none⟩) 2 2 (fun _ => True) (fun _ => False) rfl rfl ?aO ?aR (fun _ _ h => h) (fun _ h => h.elim) ?aF ?aB ?aS ?aL ?_; (case aO => exact Kd.R_nil _ _ _ _ _); (case aR => exact two_ptr (heap_alloc_new w _)); (case aF => exact fun _ _ => trivial); (case aB => exact (HB.out.alloc (Nat.le_refl _) _).drew); (case aS => exact below_size ((Below.refl w.heap.size w).alloc (Nat.le_refl _) _).drew); (case aL => simp); intro v36 w36 ho hb hg hat; clear HB; have HB := Aside0.mk hb; have HO := Aside0.mk ho; clear hb ho hg hat)
          go_wp2
          go_meet
          case rel => exact ⟨by rw [HP.out]; exact HO, HB⟩
      | false =>
        have HP := Aside0.mk (show lvPrePs g i = [] by unfold lvPrePs; rw [HRA.out, hrb]; rfl)
        unfold lvRab at hrb
        simp only [Bool.or_eq_false_iff] at hrb
        obtain ⟨n10, n11⟩ := hrb
        go_wp2
        go_meet
        case rel => exact ⟨⟨by rw [HP.out]; exact Kd.R_nil _ _ _ _ _⟩, HB⟩
  case rest =>
    clear HB h0 h7
    obtain ⟨HO, HB⟩ := hcut
    have h7 : wc.cell? ⟨g, 7, none⟩ = some (.slice A7 i.f7.length c7) := (HB.out.cell (p := ⟨g, 7, none⟩) hgl).trans ((blk_cell HG.out 7).trans rfl)
    go_upto_region 16 with (fail)
    go_wp2
    go_loopg [3, 42] i.f7.length (fun gg v3 v42 w' => ∃ (k : Nat) (u : Value), k ≤ i.f7.length ∧ i.f7.length - k ≤ gg ∧ v42 = .int .i64 k ∧ v3 = u ∧ Aside0 (kP.R 86 w' w.heap.size (fun _ => True) u (lvPrePs g i ++ rdAd A7 k)) ∧ Aside0 (Below w.heap.size w w'))
    case atStart => exact ⟨0, _, Nat.zero_le _, by omega, rfl, rfl, ⟨by rw [rdAd_zero, List.append_nil]; exact HO.out⟩, HB⟩
    case round =>
      clear HO HB h7
      obtain ⟨k, u, hk, hg2, rfl, rfl, HO, HB⟩ := hrel
      by_cases hlt : k < i.f7.length
      · obtain ⟨ys, hys⟩ : ∃ y : List Addr, y = lvPrePs g i ++ rdAd A7 k := ⟨_, rfl⟩
        rw [← hys] at HO
        have HY := Aside0.mk hys
        have HYL := Aside0.mk (show ys.length ≤ 1000003 by rw [hys, List.length_append]; have := lvPrePs_len g i; have := rdAd_len A7 k; have := HN.out; omega)
        clear hys
        obtain ⟨Ao, co, eo⟩ := Kd.R_slice HO.out
        subst eo
        have p0 : 0 ≤ (k : Int) := by omega
        have q0 : (k : Int) < (i.f7.length : Int) := by omega
        obtain ⟨ad, ea, _⟩ := Kd.at_int HC.out (k : Int) p0 q0
        subst ea
        have h7 : wr.cell? ⟨g, 7, none⟩ = some (.slice (some ad) i.f7.length c7) := (HB.out.cell (p := ⟨g, 7, none⟩) hgl).trans ((blk_cell HG.out 7).trans rfl)
        have hk6 : (k : Int) ≤ 1000000 := by have := HN.out; omega
        go_wp2_with (first | ((with_reducible refine gate_builtin (b := .append) (xs := #[.tmp 45, .tmp 52]) rfl ?_); at_builtin; refine Kd.R_append kP (w0 := w) w.heap.size rfl (.tmp 45) (.tmp 52) 100 86 (.pointer none) 8 rfl Tryd.underlying100 info86 rfl (by decide) (by omega) (.slice Ao ys.length co) ys (ad.add k) [.pointer (some (ad.add k))] (fun _ => True) (fun _ => False) rfl (by first | (go_simp; done) | (go_simp; rfl)) ?aP (fun _ hk => hk.elim) ?aF ?aO ?aB ?aS ?aL ?_; (case aP => rfl); (case aF => exact fun _ _ => trivial); (case aO => exact HO.out); (case aB => exact HB.out); (case aS => exact below_size HB.out); (case aL => have := HYL.out; omega); intro v53 w53 ho hb hg hat; clear HB HO; have HB := Aside0.mk hb; have HO := Aside0.mk ho; clear hb ho hg hat))
        go_roundg (i.f7.length - (k + 1))
        case measure => omega
        case rel => exact ⟨k + 1, _, by omega, by omega, by go_num, rfl, ⟨by rw [rdAd_succ, ← List.append_assoc, ← HY.out]; exact HO.out⟩, HB⟩
      · obtain rfl : k = i.f7.length := by omega
        obtain ⟨ys, hys⟩ : ∃ y : List Addr, y = lvPrePs g i ++ rdAd A7 i.f7.length := ⟨_, rfl⟩
        rw [← hys] at HO
        have HY := Aside0.mk hys
        clear hys
        obtain ⟨Ao, co, eo⟩ := Kd.R_slice HO.out
        subst eo
        have HRR := Aside0.mk (Kd.R_reads' HO.out)
        go_wp2
        go_ret
        exact ⟨_, _, ys, rfl, HRR.out.2.1, HRR.out.2.2, by rw [HY.out]; exact rd_len A7 g i HC.out, by rw [HY.out]; exact rd_val g i A7 c7 A8 c8 HG.out HC.out HB.out, HB.out, fun g' h1 h2 h3 => ⟨fun ad e hp => by subst e; exact rd_own HO.out hp h3, by rw [HY.out]; exact rd_far g i A7 h1 h2⟩⟩
end Go.Proofs.YtjfleaekljapeaaDoor.K
