import Derived.Test.YtjfleaekljapeaaDoorFlowL
import Derived.Test.YtjfleaekljapeaaDoorFlowM
import Derived.Deep.DeepMust
import Derived.Test.YtjfleaekljapeaaDoorProg
import Derived.Below
import Derived.Deep.Draws
import Derived.Deep.AppendLies
import Derived.Maps.AppendAt
import Derived.OwnWalk
import Derived.Laws.BytesArg
import Derived.Laws.MakeOwn
import Derived.Laws.OwnMore
import Derived.Deep.OwnRows
import Derived.Tactics
import Derived.Lib.ConvBytes
import Derived.Laws.Slices
import Derived.WalkKit
import Derived.KernelRfl
import Derived.RowKit3
import Derived.Deep.LoopGhost
import Derived.Deep.QuietTactic
import Derived.BigQuiet
import Derived.WideLaws
import Derived.Deep.DeepCutAuto
import Derived.Deep.CutBlock
import Derived.Deep.RegionHeld3
import Derived.Laws.Rows
import Derived.Lib.AppendStr
import Derived.ArgAppend
import Derived.Laws.IdiomCopy
import Derived.OrdersHeld
import Derived.Laws.BitsLemmas
import Derived.RowKit
import Derived.RegionTactic
import Derived.Deep.RegionWith
import Derived.Lib.Hide
import Derived.Test.YtjfleaekljapeaaDoorWWords
import Derived.Test.YtjfleaekljapeaaDoorWLast
import Derived.Test.YtjfleaekljapeaaDoorWTab
import Derived.Test.YtjfleaekljapeaaDoorWFour
import Derived.Test.YtjfleaekljapeaaDoorWQPut
import Derived.Test.YtjfleaekljapeaaDoorWApart
import Derived.Test.YtjfleaekljapeaaDoorWArr
import Derived.Test.YtjfleaekljapeaaDoorWZeros
import Derived.Test.YtjfleaekljapeaaDoorWFoot
import Derived.Test.YtjfleaekljapeaaDoorWKept
import Derived.Test.YtjfleaekljapeaaDoorWShare
import Derived.Test.YtjfleaekljapeaaDoorWN
import Derived.Test.YtjfleaekljapeaaDoorWEqStruct
import Derived.Test.YtjfleaekljapeaaDoorWRepsOne
import Derived.Test.YtjfleaekljapeaaDoorWGuard
import Derived.Test.YtjfleaekljapeaaDoorWNEv
import Derived.Test.YtjfleaekljapeaaDoorWMore
import Derived.Deep.RegionLaw
import Derived.Laws.CopyOwn
import Derived.Shelf.Spec.TrailingZeros
namespace Go.Proofs.YtjfleaekljapeaaDoor.K
open Go.RowKit Go.Proofs.YtjfleaekljapeaaDoorW.PrintWords Go.Proofs.YtjfleaekljapeaaDoorW.PrintLast Go.Proofs.YtjfleaekljapeaaDoorW.PrintMore
attribute [local go_sem] max2_int min2_int max_two min_two max_three min_three max_four min_four   -- for this text's walks alone
set_option linter.unusedVariables false
set_option linter.unusedSimpArgs false
set_option linter.unusedSectionVars false
/-! ### span.Live: function 11 -/
def kInts : Kd (List Int) := Kd.slice 3 (Kd.int .i64)
theorem sl_info22 : (Tryd.prog.info? 22).map (fun i => (i.zero, i.size, i.bytes)) = some (some (.slice none 0 0), 1, 24) := by kernel_rfl
theorem sl_make (m : Nat) (hm : m ≤ 1000001) (W : World) : (Instr.makeSlice 29 (.int .i64 (m : Int)) (.int .i64 (m : Int))).run Tryd.prog W = .ok (.slice (some ⟨W.heap.size, 0, none⟩) m m) (W.alloc (.cells (Array.replicate m (Value.slice none 0 0)) 22)) := by
  have := print_make_of (P := Tryd.prog) 29 22 (.slice none 0 0) 24 Tryd.underlying29 sl_info22 rfl (by omega) m (by omega) W
  rw [this]
  have e : madeCells #[Value.slice none 0 0] m = Array.replicate m (Value.slice none 0 0) := by
    apply Array.toList_inj.1
    rw [toList_madeCells_one, Array.toList_replicate]
  rw [e]
/-- While the lists are put in. -/
structure OlSt (w0 w : World) (go m : Nat) (vs : List Value) (xs : List (List Int)) : Prop where
  ho : w.heap[go]? = some (.cells (vs ++ List.replicate (m - vs.length) (Value.slice none 0 0)).toArray 22 (0, 0))
  ln : vs.length = xs.length
  hv : ∀ (j : Nat) (v : Value) (x : List Int), vs[j]? = some v → xs[j]? = some x → Kd.R (Kd.int .i64) 3 w w0.heap.size (fun k => k ≠ go) v x
  lo : w0.heap.size ≤ go
  below : Below w0.heap.size w0 w
theorem ol_start (w : World) (o : Obj) (n : Nat) : OlSt w ((w.alloc o).alloc (.cells (Array.replicate n (Value.slice none 0 0)) 22)) (w.heap.size + 1) n [] [] := by
  refine ⟨?_, rfl, fun j v x h => by simp at h, Nat.le_succ _, ((Below.refl _ _).alloc (Nat.le_refl _) _).alloc (by simp) _⟩
  have e : (([] : List Value) ++ List.replicate (n - ([] : List Value).length) (Value.slice none 0 0)).toArray = Array.replicate n (Value.slice none 0 0) := by simp
  rw [e]
  exact two_new w o _
theorem OlSt.step {w0 w w' : World} {go m : Nat} {vs : List Value} {xs : List (List Int)} (h : OlSt w0 w go m vs xs) (hb : Below w.heap.size w w') : OlSt w0 w' go m vs xs :=
  ⟨blk_below h.ho hb, h.ln, fun j v x h1 h2 => Kd.R_below (h.hv j v x h1 h2) hb, h.lo, below_step h.below hb⟩
theorem OlSt.cell {w0 w : World} {go m : Nat} {vs : List Value} {xs : List (List Int)} (h : OlSt w0 w go m vs xs) (hl : vs.length < m) : w.cell? ⟨go, vs.length, none⟩ = some (.slice none 0 0) := by
  rw [blk_cell h.ho, List.getElem?_toArray, List.getElem?_append_right (Nat.le_refl _), Nat.sub_self, List.getElem?_replicate, if_pos (by omega)]
theorem OlSt.put {w0 w : World} {go m : Nat} {vs : List Value} {xs : List (List Int)} (h : OlSt w0 w go m vs xs) (hl : vs.length < m) (n : Nat) (hn : n = vs.length) {v : Value} {x : List Int} (hv : Kd.R (Kd.int .i64) 3 w w0.heap.size (fun k => k ≠ go) v x) :
    OlSt w0 (w.setCell ⟨go, n, none⟩ v) go m (vs ++ [v]) (xs ++ [x]) := by
  subst hn
  refine ⟨blk_put h.ho vs.length _ ?_, by simp [h.ln], fun j u y h1 h2 => ?_, h.lo, below_set h.below h.lo⟩
  · rw [List.setIfInBounds_toArray]
    congr 1
    rw [List.set_append_right _ _ (Nat.le_refl _), Nat.sub_self, List.append_assoc, List.length_append, List.length_singleton]
    congr 1
    obtain ⟨d, hd⟩ : ∃ d, m - vs.length = d + 1 := ⟨m - vs.length - 1, by omega⟩
    rw [hd, show m - (vs.length + 1) = d by omega, List.replicate_succ]
    rfl
  · refine Kd.R_far (p := ⟨go, vs.length, none⟩) ?_ (fun k hk => hk) v
    by_cases hj : j < vs.length
    · rw [List.getElem?_append_left hj] at h1
      rw [List.getElem?_append_left (by rw [← h.ln]; exact hj)] at h2
      exact h.hv j u y h1 h2
    · have hj2 : j < (vs ++ [v]).length := (List.getElem?_eq_some_iff.1 h1).1
      obtain rfl : j = vs.length := by simp at hj2; omega
      rw [List.getElem?_append_right (Nat.le_refl _), Nat.sub_self] at h1
      rw [List.getElem?_append_right (by rw [h.ln]; exact Nat.le_refl _), h.ln, Nat.sub_self] at h2
      obtain rfl : v = u := by simpa using h1
      obtain rfl : x = y := by simpa using h2
      exact hv
theorem OlSt.done {w0 w : World} {go m : Nat} {vs : List Value} {xs : List (List Int)} (h : OlSt w0 w go m vs xs) (hl : vs.length = m) (hm : m ≤ 1000001) :
    Kd.R kInts 22 w w0.heap.size (fun _ => True) (.slice (some ⟨go, 0, none⟩) m m) xs := by
  subst hl
  have ho := h.ho
  rw [Nat.sub_self, List.replicate_zero, List.append_nil] at ho
  refine ⟨fun _ _ => trivial, vs, ?_, ?_⟩
  · refine ⟨by simp [h.ln, kInts, Kd.slice], .inr ⟨go, vs.length, _, by simp [h.ln], h.lo, ho, by simp [h.ln], by simp only [maxLen]; omega, by simp [kInts, Kd.slice], ?_⟩⟩
    simp [h.ln, kInts, Kd.slice]
    rw [List.take_of_length_le (by have := h.ln; omega)]
  · refine ⟨by simp [h.ln, kInts, Kd.slice], fun j p hj => ?_⟩
    have hjl : j < vs.length := by have h1 := (List.getElem?_eq_some_iff.1 hj).1; have := h.ln; omega
    have e : (vs.drop (j * kInts.sz)).take kInts.sz = [vs[j]] := by
      show (vs.drop (j * 1)).take 1 = _
      rw [Nat.mul_one, List.drop_eq_getElem_cons hjl]
      rfl
    rw [e]
    refine ⟨vs[j], rfl, Kd.R_mono (h.hv j _ p (List.getElem?_eq_getElem hjl) hj) (fun k hk => ⟨trivial, fun he => ?_⟩)⟩
    have e2 : k = go := by simpa [Value.ownBlock] using he
    exact hk e2
theorem sets_at {w : World} {A : Option Addr} {n : Nat} {R : List Int} (h : kSets.C w A n (R.map fun x => [x])) (hn : n = R.length) (k : Nat) (hk : k < R.length) :
    ∃ ad A' c', A = some ad ∧ w.cell? (ad.add k) = some (.slice A' 1 c') ∧ (Kd.int .u64).C w A' 1 [rd R (k : Int)] := by
  obtain ⟨ad, e, hc⟩ := h.2.2 (by omega)
  have hg : (R.map fun x => [x])[k]? = some [rd R (k : Int)] := by
    unfold rd
    rw [List.getElem?_map, Int.toNat_natCast, List.getD_eq_getElem?_getD, List.getElem?_eq_getElem hk]
    rfl
  obtain ⟨c, h1, ⟨A', c', hcs, hl, hC⟩, h3⟩ := hc k _ hg
  subst hcs
  have := h3 0 _ rfl
  rw [show k * kSets.sz + 0 = k by show k * 1 + 0 = k; omega] at this
  exact ⟨ad, A', c', e, this, hC⟩
def lvLists (R : List Int) (n : Nat) : List (List Int) := (R.take n).map fun x => lvMem x.toNat
theorem lvLists_succ (R : List Int) (k x : Nat) (h : k < R.length) (hx : rd R (k : Int) = (x : Int)) : lvLists R (k + 1) = lvLists R k ++ [lvMem x] := by
  unfold lvLists
  rw [List.take_succ_eq_append_getElem h, List.map_append]
  have e : R[k] = (x : Int) := by
    rw [← hx]
    unfold rd
    rw [Int.toNat_natCast, List.getD_eq_getElem?_getD, List.getElem?_eq_getElem h]
    rfl
  rw [List.map_singleton, e]
  rfl
def SLivePost (xs : List (List Int)) (w : World) (e : Ending) (w' : World) : Prop := ∃ v : Value, e = .returned v ∧ Kd.R kInts 22 w' w.heap.size (fun _ => True) v xs ∧ Below w.heap.size w w'
theorem lvIn_length (code : List S44) : ∀ (n : Nat) (L : List Int) (m : Bool), (lvIn code n L m).1.length = L.length
  | 0, _, _ => rfl
  | n + 1, L, m => by
    rw [lvIn]
    split
    · exact lvIn_length code n L m
    · rw [lvIn_length code n, List.length_set]
theorem lvRun_length (code : List S44) : ∀ (K : Nat) (L R : List Int), lvRun code K L = some R → R.length = L.length
  | 0, _, _, h => by cases h
  | K + 1, L, R, h => by
    rw [lvRun] at h
    split at h
    · rw [lvRun_length code K _ R h, lvIn_length]
    · have := Option.some.inj h
      rw [← this, lvIn_length]
set_option maxHeartbeats 2000000 in
set_option maxRecDepth 100000 in
theorem slive_calls (nm : ByteArray) (A1 : Option Addr) (c1 : Nat) (l1 : List Int) (A2 : Option Addr) (c2 : Nat) (l2 : List Int) (A3 : Option Addr) (c3 : Nat) (l3 : List Int) (A4 : Option Addr) (c4 : Nat) (code : List S44) (w : World)
    (hr1 : Kd.C (Kd.int .i64) w A1 l1.length l1) (hc1 : l1.length ≤ c1) (hr2 : Kd.C (Kd.int .i64) w A2 l2.length l2) (hc2 : l2.length ≤ c2) (hr3 : Kd.C (Kd.int .i64) w A3 l3.length l3) (hc3 : l3.length ≤ c3) (hr4 : Kd.C k44 w A4 code.length code) (hc4 : code.length ≤ c4)
    (h64 : l2.length < 64) (hok : LvOk code) (K : Nat) (R : List Int) (hrun : lvRun code K (List.replicate (code.length + 1) 0) = some R) (hbits : ∀ x ∈ R, 0 ≤ x ∧ x < 18446744073709551616) (hT : TzTab w) (h1 : 0 < w.heap.size) :
    Calls Tryd.prog 11 #[.agg #[.string nm, .slice A1 l1.length c1, .slice A2 l2.length c2, .slice A3 l3.length c3, .slice A4 code.length c4]] w (SLivePost (lvLists R code.length) w) := by
  have hu25 := Tryd.underlying25
  have HRL := Aside0.mk (show R.length = code.length + 1 by rw [lvRun_length code K _ R hrun]; simp)
  have HR1 := Aside0.mk hr1
  have HR2 := Aside0.mk hr2
  have HR3 := Aside0.mk hr3
  have HR4 := Aside0.mk hr4
  have HC1 := Aside0.mk hc1
  have HC2 := Aside0.mk hc2
  have HC3 := Aside0.mk hc3
  have HC4 := Aside0.mk hc4
  have HOK := Aside0.mk hok
  have HRUN := Aside0.mk hrun
  have HBITS := Aside0.mk hbits
  have HT := Aside0.mk hT
  have hcl : code.length ≤ 1000000 := hok.len
  have hmk := sl_make code.length (by omega)
  clear hr1 hr2 hr3 hr4 hc1 hc2 hc3 hc4 hok hrun hbits hT
  obtain ⟨fc, hfc⟩ : ∃ fc, fc = lvBox nm (.slice A1 l1.length c1) (.slice A2 l2.length c2) (.slice A3 l3.length c3) (.slice A4 code.length c4) := ⟨_, rfl⟩
  have HFC := Aside0.mk hfc
  clear hfc
  go_enter Tryd.func11, Tryd.ntmps11
  go_upto_region 1 with (fail)
  go_cut [3] (fun v3 wc => ∃ go, v3 = .slice (some ⟨go, 0, none⟩) code.length code.length ∧ Aside0 (wc.heap[w.heap.size]? = some (.cells fc 25 (0, 0))) ∧ Aside0 (OlSt w wc go code.length [] []))
  case first =>
    go_wp2
    go_meet
    case rel => exact ⟨w.heap.size + 1, rfl, ⟨by rw [HFC.out]; exact lv_al (heap_alloc_new w _) _⟩, ⟨ol_start w _ code.length⟩⟩
  case rest =>
    obtain ⟨go, rfl, H1, HOL⟩ := hcut
    go_upto_region 2 with (fail)
    go_cut [4] (fun v4 wc => ∃ Ai ci, v4 = .slice Ai R.length ci ∧ Aside0 (Kd.R kSets 72 wc w.heap.size (fun _ => True) (.slice Ai R.length ci) (R.map fun x => [x])) ∧ Aside0 (OlSt w wc go code.length [] []))
    case first =>
      have hg0 : wc.cell? ⟨w.heap.size, 0, none⟩ = some (.string nm) := (blk_cell H1.out 0).trans (by rw [HFC.out]; rfl)
      have hg1 : wc.cell? ⟨w.heap.size, 1, none⟩ = some (.slice A1 l1.length c1) := (blk_cell H1.out 1).trans (by rw [HFC.out]; rfl)
      have hg2 : wc.cell? ⟨w.heap.size, 2, none⟩ = some (.slice A2 l2.length c2) := (blk_cell H1.out 2).trans (by rw [HFC.out]; rfl)
      have hg3 : wc.cell? ⟨w.heap.size, 3, none⟩ = some (.slice A3 l3.length c3) := (blk_cell H1.out 3).trans (by rw [HFC.out]; rfl)
      have hg4 : wc.cell? ⟨w.heap.size, 4, none⟩ = some (.slice A4 code.length c4) := (blk_cell H1.out 4).trans (by rw [HFC.out]; rfl)
      go_wp2_with (first | (go_at_call 24; (with_reducible refine (live_calls nm A1 c1 l1 A2 c2 l2 A3 c3 l3 A4 c4 code _ (Kd.C_below HR1.out HOL.out.below) HC1.out (Kd.C_below HR2.out HOL.out.below) HC2.out (Kd.C_below HR3.out HOL.out.below) HC3.out (Kd.C_below HR4.out HOL.out.below) HC4.out h64 HOK.out K R HRUN.out).mono ?_); rintro e w11 ⟨v11, rfl, hr, hb⟩; obtain ⟨Ai, ci, ei⟩ := Kd.R_slice hr; rw [List.length_map] at ei; subst ei; have n0_ := Aside0.mk (HOL.out.step hb); have n1_ := Aside0.mk (Kd.R_lower hr HOL.out.below.size); clear HOL hr hb; have HOL := n0_; have HIN := n1_; clear n0_ n1_))
      go_meet
      case rel => exact ⟨Ai, ci, rfl, HIN, HOL⟩
    case rest =>
      clear HOL
      obtain ⟨Ai, ci, rfl, HIN, HOL⟩ := hcut
      go_wp2
      go_loopg [14] code.length (fun gg v14 w' => ∃ (k : Nat) (vs : List Value), vs.length = k ∧ k ≤ code.length ∧ code.length - k ≤ gg ∧ v14 = .int .i64 k ∧ Aside0 (Kd.R kSets 72 w' w.heap.size (fun _ => True) (.slice Ai R.length ci) (R.map fun x => [x])) ∧ Aside0 (OlSt w w' go code.length vs (lvLists R k)))
      case atStart => exact ⟨0, [], rfl, Nat.zero_le _, by omega, rfl, HIN, ⟨by simpa [lvLists] using HOL.out⟩⟩
      case round =>
        clear HIN HOL
        obtain ⟨k, vs, hvk, hkl, hkg, rfl, HIN, HOL⟩ := hrel
        have HVK := Aside0.mk hvk
        clear hvk
        by_cases hlt : k < code.length
        · have k0 : 0 ≤ (k : Int) := by omega
          have k1 : (k : Int) < (code.length : Int) := by omega
          have hkR : k < R.length := by have := HRL.out; omega
          have k2 : (k : Int) < (R.length : Int) := by omega
          obtain ⟨adi, A', c', eai, hci, hCi⟩ := sets_at (Kd.R_reads' HIN.out).2.2 (by rw [List.length_map]) k hkR
          subst eai
          obtain ⟨hx0, hx1⟩ := HBITS.out _ (rd_mem' R k hkR)
          obtain ⟨x, hx⟩ := Int.eq_ofNat_of_zero_le hx0
          rw [hx] at hCi hx1
          have hx1' : x < 18446744073709551616 := by omega
          have HX := Aside0.mk hx
          have HCI := Aside0.mk hCi
          have HMC := Aside0.mk (mem_calls A' c' x hx1')
          clear hx hx0 hx1 hx1' hCi
          have hks : (k : Int) ≤ 1000000 := by omega
          have hcell : wr.cell? ⟨go, k, none⟩ = some (.slice none 0 0) := by rw [← HVK.out]; exact HOL.out.cell (by rw [HVK.out]; exact hlt)
          have hfro := blk_frozen HOL.out.ho k
          go_wp2_with (first | (go_at_call 25; (with_reducible refine (HMC.out _ (HT.out.below h1 HOL.out.below) (Nat.lt_of_lt_of_le h1 HOL.out.below.size) HCI.out).mono ?_); rintro e w23 ⟨v23, rfl, hr, hb⟩; obtain ⟨Am, cm, em⟩ := Kd.R_slice hr; subst em; have n0_ := Aside0.mk (HOL.out.step hb); have n1_ := Aside0.mk (Kd.R_below HIN.out hb); have n2_ := Aside0.mk (Kd.R_lower hr HOL.out.below.size); clear HOL HIN hr hb; have HOL := n0_; have HIN := n1_; have HM := n2_; clear n0_ n1_ n2_; have hcell : w23.cell? ⟨go, k, none⟩ = some (.slice none 0 0) := (by rw [← HVK.out]; exact HOL.out.cell (by rw [HVK.out]; exact hlt)); have hfro := blk_frozen HOL.out.ho k))
          go_roundg (code.length - (k + 1))
          case measure => omega
          case rel => exact ⟨k + 1, vs ++ [.slice Am (lvMem x).length cm], by simp [HVK.out], by omega, by omega, by go_num, ⟨Kd.R_set HIN.out HOL.out.ho (by decide) k _⟩, ⟨by rw [lvLists_succ R k x hkR HX.out]; exact HOL.out.put (by rw [HVK.out]; exact hlt) k HVK.out.symm (Kd.R_mono (Kd.R_types HM.out HOL.out.ho (by decide)) (fun k hk => hk.2))⟩⟩
        · obtain rfl : k = code.length := by omega
          go_wp2
          refine bodyPost_ret (v := .slice (some ⟨go, 0, none⟩) code.length code.length) (by simp [results, Tryd.results11, go_sem]) rfl ⟨_, rfl, HOL.out.done HVK.out (by omega), HOL.out.below⟩
end Go.Proofs.YtjfleaekljapeaaDoor.K
