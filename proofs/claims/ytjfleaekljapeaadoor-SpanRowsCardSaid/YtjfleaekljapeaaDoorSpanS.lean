import Derived.Test.YtjfleaekljapeaaDoorSpanL
import Derived.Test.YtjfleaekljapeaaDoorSpanN
import Derived.Test.YtjfleaekljapeaaDoorSpanC
import Derived.Test.YtjfleaekljapeaaDoorK28
import Derived.Deep.DeepMust
import Derived.Test.YtjfleaekljapeaaDoorProg
import Derived.Below
import Derived.Deep.Draws
import Derived.Deep.AppendLies
import Derived.Maps.AppendAt
import Derived.OwnWalk
import Derived.Laws.BytesArg
import Derived.Laws.MakeOwn
import Derived.Laws.OwnMore
import Derived.Deep.OwnRows
import Derived.Tactics
import Derived.Lib.ConvBytes
import Derived.Laws.Slices
import Derived.WalkKit
import Derived.KernelRfl
import Derived.RowKit3
import Derived.Deep.LoopGhost
import Derived.Deep.QuietTactic
import Derived.BigQuiet
import Derived.WideLaws
import Derived.Deep.DeepCutAuto
import Derived.Deep.CutBlock
import Derived.Deep.RegionHeld3
import Derived.Laws.Rows
import Derived.Lib.AppendStr
import Derived.ArgAppend
import Derived.Laws.IdiomCopy
import Derived.OrdersHeld
import Derived.Laws.BitsLemmas
import Derived.RowKit
import Derived.RegionTactic
import Derived.Deep.RegionWith
import Derived.Lib.Hide
import Derived.Test.YtjfleaekljapeaaDoorWWords
import Derived.Test.YtjfleaekljapeaaDoorWLast
import Derived.Test.YtjfleaekljapeaaDoorWTab
import Derived.Test.YtjfleaekljapeaaDoorWFour
import Derived.Test.YtjfleaekljapeaaDoorWQPut
import Derived.Test.YtjfleaekljapeaaDoorWApart
import Derived.Test.YtjfleaekljapeaaDoorWArr
import Derived.Test.YtjfleaekljapeaaDoorWZeros
import Derived.Test.YtjfleaekljapeaaDoorWFoot
import Derived.Test.YtjfleaekljapeaaDoorWKept
import Derived.Test.YtjfleaekljapeaaDoorWShare
import Derived.Test.YtjfleaekljapeaaDoorWN
import Derived.Test.YtjfleaekljapeaaDoorWEqStruct
import Derived.Test.YtjfleaekljapeaaDoorWRepsOne
import Derived.Test.YtjfleaekljapeaaDoorWGuard
import Derived.Test.YtjfleaekljapeaaDoorWNEv
import Derived.Test.YtjfleaekljapeaaDoorWMore
import Derived.Deep.RegionLaw
import Derived.Laws.CopyOwn
import Derived.Shelf.Spec.TrailingZeros
namespace Go.Proofs.YtjfleaekljapeaaDoor.K
open Go.RowKit Go.Proofs.YtjfleaekljapeaaDoorW.PrintWords Go.Proofs.YtjfleaekljapeaaDoorW.PrintLast Go.Proofs.YtjfleaekljapeaaDoorW.PrintMore
attribute [local go_sem] max2_int min2_int max_two min_two max_three min_three max_four min_four   -- for this text's walks alone
set_option linter.unusedVariables false
set_option linter.unusedSimpArgs false
set_option linter.unusedSectionVars false
/-! ### span.Spans: function 14 -/
def spWith (p : Int × Int) (n : Int) : Int × Int := if p.2 < p.1 then (n, n) else (mn p.1 n, mx p.2 n)
def spPut (n : Int) (l : List (Int × Int)) (r : Int) : List (Int × Int) := l.set r.toNat (spWith (l.getD r.toNat (0, -1)) n)
def spLine (xs : List (List Int)) (code : List S44) (l : List (Int × Int)) (n : Nat) : List (Int × Int) := (xs.getD n [] ++ lvWrites (rd_T44 code n)).foldl (spPut n) l
def spLines (xs : List (List Int)) (code : List S44) (nk k : Nat) : List (Int × Int) := (List.range k).foldl (spLine xs code) (List.replicate nk (0, -1))
def spRes (xs : List (List Int)) (code : List S44) (nk : Nat) (params : List Int) : List (Int × Int) := params.foldl (spPut 0) (spLines xs code nk code.length)
def spRow (l : List (Int × Int)) : List Value := l.flatMap fun p => [.int .i64 p.1, .int .i64 p.2]
theorem spWith_f (a b n : Int) : span_Span_with.f a b n = some ((spWith (a, b) n).1, (spWith (a, b) n).2) := by
  unfold span_Span_with.f spWith
  split <;> rfl
theorem spRow_rep (n : Nat) : spCells n 0 (-1) = spRow (List.replicate n (0, -1)) := by
  unfold spCells spRow
  rw [List.flatMap_replicate]
theorem spRow_at : ∀ (l : List (Int × Int)) (r : Nat) (h : r < l.length), (spRow l)[r * 2]? = some (.int .i64 l[r].1) ∧ (spRow l)[r * 2 + 1]? = some (.int .i64 l[r].2)
  | [], _, h => absurd h (by simp)
  | p :: t, 0, _ => by simp [spRow]
  | p :: t, r + 1, h => by
    have := spRow_at t r (by simpa using h)
    have e : spRow (p :: t) = [.int .i64 p.1, .int .i64 p.2] ++ spRow t := by simp [spRow]
    rw [e, show (r + 1) * 2 = r * 2 + 2 by omega]
    simpa [List.getElem?_append_right] using this
theorem spRow_set : ∀ (l : List (Int × Int)) (r : Nat) (p : Int × Int), r < l.length → ((spRow l).set (r * 2) (.int .i64 p.1)).set (r * 2 + 1) (.int .i64 p.2) = spRow (l.set r p)
  | [], _, _, h => absurd h (by simp)
  | q :: t, 0, p, _ => by simp [spRow]
  | q :: t, r + 1, p, h => by
    have := spRow_set t r p (by simpa using h)
    have e : spRow (q :: t) = [.int .i64 q.1, .int .i64 q.2] ++ spRow t := by simp [spRow]
    have e2 : spRow ((q :: t).set (r + 1) p) = [.int .i64 q.1, .int .i64 q.2] ++ spRow (t.set r p) := by simp [spRow]
    rw [e, e2, ← this, show (r + 1) * 2 = r * 2 + 2 by omega]
    simp
theorem spPut_length (n : Int) (l : List (Int × Int)) (r : Int) : (spPut n l r).length = l.length := by simp [spPut]
theorem spFold_length (n : Int) : ∀ (rs : List Int) (l : List (Int × Int)), (rs.foldl (spPut n) l).length = l.length
  | [], _ => rfl
  | r :: t, l => by rw [List.foldl_cons, spFold_length n t, spPut_length]
structure SpSt (w0 w : World) (g1 go nk : Nat) (fc : Array Value) (l : List (Int × Int)) : Prop where
  hf : w.heap[g1]? = some (.cells fc 25 (0, 0))
  ho : w.heap[go]? = some (.cells (spRow l).toArray 39 (0, 0))
  ln : l.length = nk
  lo1 : w0.heap.size ≤ g1
  loo : w0.heap.size ≤ go
  below : Below w0.heap.size w0 w
theorem SpSt.step {w0 w w' : World} {g1 go nk : Nat} {fc : Array Value} {l : List (Int × Int)} (h : SpSt w0 w g1 go nk fc l) (hb : Below w.heap.size w w') : SpSt w0 w' g1 go nk fc l :=
  ⟨blk_below h.hf hb, blk_below h.ho hb, h.ln, h.lo1, h.loo, below_step h.below hb⟩
theorem SpSt.put {w0 w : World} {g1 go nk : Nat} {fc : Array Value} {l : List (Int × Int)} (h : SpSt w0 w g1 go nk fc l) (r : Nat) (hr : r < nk) (p : Int × Int) :
    SpSt w0 ((w.setCell ⟨go, r * 2, none⟩ (.int .i64 p.1)).setCell ⟨go, r * 2 + 1, none⟩ (.int .i64 p.2)) g1 go nk fc (l.set r p) := by
  have hne := blk_ne h.hf h.ho (by decide)
  refine ⟨blk_far (blk_far h.hf hne _) hne _, ?_, by rw [List.length_set]; exact h.ln, h.lo1, h.loo, below_set (below_set h.below h.loo) h.loo⟩
  refine blk_put (blk_put h.ho (r * 2) _ rfl) (r * 2 + 1) _ ?_
  rw [List.setIfInBounds_toArray, List.setIfInBounds_toArray, spRow_set l r p (by rw [h.ln]; exact hr)]
theorem lists_at {w : World} {A : Option Addr} {n : Nat} {xs : List (List Int)} (h : kInts.C w A n xs) (hn : n = xs.length) (k : Nat) (hk : k < xs.length) :
    ∃ ad A' c', A = some ad ∧ w.cell? (ad.add k) = some (.slice A' (xs.getD k []).length c') ∧ (Kd.int .i64).C w A' (xs.getD k []).length (xs.getD k []) := by
  obtain ⟨ad, e, hc⟩ := h.2.2 (by omega)
  have hg : xs[k]? = some (xs.getD k []) := by rw [List.getD_eq_getElem?_getD, List.getElem?_eq_getElem hk]; rfl
  obtain ⟨c, h1, ⟨A', c', hcs, hl, hC⟩, h3⟩ := hc k _ hg
  subst hcs
  have := h3 0 _ rfl
  rw [show k * kInts.sz + 0 = k by show k * 1 + 0 = k; omega] at this
  exact ⟨ad, A', c', e, this, hC⟩
def SpPost (l : List (Int × Int)) (nk : Nat) (w : World) (e : Ending) (w' : World) : Prop := ∃ g, e = .returned (.slice (some ⟨g, 0, none⟩) nk nk) ∧ w'.heap[g]? = some (.cells (spRow l).toArray 39 (0, 0)) ∧ l.length = nk ∧ w.heap.size ≤ g ∧ Below w.heap.size w w'
/-- What the registers named anywhere must be: there. -/
structure SpOk (xs : List (List Int)) (code : List S44) (nk : Nat) (params : List Int) : Prop where
  xl : xs.length = code.length
  xm : ∀ n, n < code.length → ∀ r ∈ xs.getD n [], 0 ≤ r ∧ r < nk
  xc : ∀ n, n < code.length → (xs.getD n []).length ≤ 1000000
  wm : ∀ n, n < code.length → ∀ r ∈ lvWrites (rd_T44 code n), 0 ≤ r ∧ r < nk
  pm : ∀ r ∈ params, 0 ≤ r ∧ r < nk
  pl : params.length ≤ 1000000
set_option maxHeartbeats 4000000 in
set_option maxRecDepth 100000 in
theorem spans_calls (nm : ByteArray) (A1 : Option Addr) (c1 : Nat) (l1 : List Int) (A2 : Option Addr) (c2 : Nat) (l2 : List Int) (A3 : Option Addr) (c3 : Nat) (l3 : List Int) (A4 : Option Addr) (c4 : Nat) (code : List S44) (w : World)
    (hr1 : Kd.C (Kd.int .i64) w A1 l1.length l1) (hc1 : l1.length ≤ c1) (hr2 : Kd.C (Kd.int .i64) w A2 l2.length l2) (hc2 : l2.length ≤ c2) (hr3 : Kd.C (Kd.int .i64) w A3 l3.length l3) (hc3 : l3.length ≤ c3) (hr4 : Kd.C k44 w A4 code.length code) (hc4 : code.length ≤ c4)
    (h64 : l2.length < 64) (hok : LvOk code) (K : Nat) (R : List Int) (hrun : lvRun code K (List.replicate (code.length + 1) 0) = some R) (hbits : ∀ x ∈ R, 0 ≤ x ∧ x < 18446744073709551616) (hsp : SpOk (lvLists R code.length) code l2.length l1) (hT : TzTab w) (h1 : 0 < w.heap.size) :
    Calls Tryd.prog 14 #[.agg #[.string nm, .slice A1 l1.length c1, .slice A2 l2.length c2, .slice A3 l3.length c3, .slice A4 code.length c4]] w (SpPost (spRes (lvLists R code.length) code l2.length l1) l2.length w) := by
  have hu25 := Tryd.underlying25
  have hu39 := Tryd.underlying39
  have hu44 := Tryd.underlying44
  have HR1 := Aside0.mk hr1
  have HR2 := Aside0.mk hr2
  have HR3 := Aside0.mk hr3
  have HR4 := Aside0.mk hr4
  have HC1 := Aside0.mk hc1
  have HC2 := Aside0.mk hc2
  have HC3 := Aside0.mk hc3
  have HC4 := Aside0.mk hc4
  have HOK := Aside0.mk hok
  have HSP := Aside0.mk hsp
  have HSL := Aside0.mk (slive_calls nm A1 c1 l1 A2 c2 l2 A3 c3 l3 A4 c4 code)
  have HRUN := Aside0.mk hrun
  have HBITS := Aside0.mk hbits
  have HT := Aside0.mk hT
  have hcl : code.length ≤ 1000000 := hok.len
  clear hr1 hr2 hr3 hr4 hc1 hc2 hc3 hc4 hok hrun hbits hT hsp
  obtain ⟨xs, hxs⟩ : ∃ xs, xs = lvLists R code.length := ⟨_, rfl⟩
  rw [← hxs] at HSP ⊢
  have HXS := Aside0.mk hxs
  clear hxs
  obtain ⟨fc, hfc⟩ : ∃ fc, fc = lvBox nm (.slice A1 l1.length c1) (.slice A2 l2.length c2) (.slice A3 l3.length c3) (.slice A4 code.length c4) := ⟨_, rfl⟩
  have HFC := Aside0.mk hfc
  clear hfc
  go_enter Tryd.func14, Tryd.ntmps14
  go_upto_region 1 with (fail)
  go_cut [3] (fun v3 wc => ∃ go, v3 = .slice (some ⟨go, 0, none⟩) l2.length l2.length ∧ Aside0 (SpSt w wc w.heap.size go l2.length fc (List.replicate l2.length (0, -1))))
  case first =>
    go_wp2_with (first | (go_at_call 27; (with_reducible refine (rep_calls (w.heap.size + 1) l2.length _ (two_new w _ _) (by omega)).mono ?_); rintro e w15 ⟨go, rfl, hg, hlo, hb⟩; have HG := Aside0.mk hg; have HLO := Aside0.mk hlo; have HB := Aside0.mk hb; clear hg hlo hb))
    go_meet
    case rel =>
      have hs : w.heap.size ≤ ((w.alloc (.cells (lvBox nm (.slice A1 l1.length c1) (.slice A2 l2.length c2) (.slice A3 l3.length c3) (.slice A4 code.length c4)) 25)).alloc (.cells #[.int .i64 0, .int .i64 (-1)] 39)).heap.size := by simp; omega
      have hb2 : Below w.heap.size w ((w.alloc (.cells (lvBox nm (.slice A1 l1.length c1) (.slice A2 l2.length c2) (.slice A3 l3.length c3) (.slice A4 code.length c4)) 25)).alloc (.cells #[.int .i64 0, .int .i64 (-1)] 39)) := ((Below.refl _ _).alloc (Nat.le_refl _) _).alloc (by simp) _
      exact ⟨go, rfl, ⟨by rw [HFC.out]; exact blk_below (lv_al (heap_alloc_new w _) _) HB.out, by rw [← spRow_rep]; exact HG.out, by simp, Nat.le_refl _, Nat.le_trans hs HLO.out, below_step hb2 HB.out⟩⟩
  case rest =>
    obtain ⟨go, rfl, HST⟩ := hcut
    go_upto_region 2 with (fail)
    go_cut [17, 18, 19] (fun v17 v18 v19 wc => ∃ Al cl, v17 = .slice Al xs.length cl ∧ v18 = .int .i64 xs.length ∧ v19 = .int .i64 0 ∧ Aside0 (Kd.R kInts 22 wc w.heap.size (fun _ => True) (.slice Al xs.length cl) xs) ∧ Aside0 (SpSt w wc w.heap.size go l2.length fc (List.replicate l2.length (0, -1))))
    case first =>
      have hg0 : wc.cell? ⟨w.heap.size, 0, none⟩ = some (.string nm) := (blk_cell HST.out.hf 0).trans (by rw [HFC.out]; rfl)
      have hg1 : wc.cell? ⟨w.heap.size, 1, none⟩ = some (.slice A1 l1.length c1) := (blk_cell HST.out.hf 1).trans (by rw [HFC.out]; rfl)
      have hg2 : wc.cell? ⟨w.heap.size, 2, none⟩ = some (.slice A2 l2.length c2) := (blk_cell HST.out.hf 2).trans (by rw [HFC.out]; rfl)
      have hg3 : wc.cell? ⟨w.heap.size, 3, none⟩ = some (.slice A3 l3.length c3) := (blk_cell HST.out.hf 3).trans (by rw [HFC.out]; rfl)
      have hg4 : wc.cell? ⟨w.heap.size, 4, none⟩ = some (.slice A4 code.length c4) := (blk_cell HST.out.hf 4).trans (by rw [HFC.out]; rfl)
      go_wp2_with (first | (go_at_call 11; (with_reducible refine (HSL.out _ (Kd.C_below HR1.out HST.out.below) HC1.out (Kd.C_below HR2.out HST.out.below) HC2.out (Kd.C_below HR3.out HST.out.below) HC3.out (Kd.C_below HR4.out HST.out.below) HC4.out h64 HOK.out K R HRUN.out HBITS.out (HT.out.below h1 HST.out.below) (Nat.lt_of_lt_of_le h1 HST.out.below.size)).mono ?_); rintro e w17 ⟨v17, rfl, hr, hb⟩; rw [← HXS.out] at hr; obtain ⟨Al, cl, el⟩ := Kd.R_slice hr; subst el; have n0_ := Aside0.mk (HST.out.step hb); have n1_ := Aside0.mk (Kd.R_lower hr HST.out.below.size); clear HST hr hb; have HST := n0_; have HL := n1_; clear n0_ n1_))
      go_meet
      case rel => exact ⟨Al, cl, rfl, rfl, rfl, HL, HST⟩
    case rest =>
      clear HST
      obtain ⟨Al, cl, rfl, rfl, rfl, HL, HST⟩ := hcut
      have hxl : xs.length = code.length := HSP.out.xl
      have HXL := Aside0.mk hxl
      clear hxl
      go_wp2
      go_loopg [19] code.length (fun gg v19 w' => ∃ k : Nat, k ≤ code.length ∧ code.length - k ≤ gg ∧ v19 = .int .i64 k ∧ Aside0 (Kd.R kInts 22 w' w.heap.size (fun _ => True) (.slice Al xs.length cl) xs) ∧ Aside0 (SpSt w w' w.heap.size go l2.length fc (spLines xs code l2.length k)))
      case atStart => exact ⟨0, Nat.zero_le _, by omega, rfl, HL, HST⟩
      case round =>
        clear HL HST
        obtain ⟨k, hkl, hkg, rfl, HL, HST⟩ := hrel
        by_cases hlt : k < code.length
        · obtain ⟨L, hL⟩ : ∃ y, y = spLines xs code l2.length k := ⟨_, rfl⟩
          rw [← hL] at HST
          have HLL := Aside0.mk hL
          clear hL
          have hkx : k < xs.length := by have := HXL.out; omega
          have k0 : 0 ≤ (k : Int) := by omega
          have k1 : (k : Int) < (xs.length : Int) := by omega
          have k2 : (k : Int) < (code.length : Int) := by omega
          have k3 : (k : Int) ≤ 1000000 := by omega
          obtain ⟨adl, A', c', eal, hcl1, hCx⟩ := lists_at (Kd.R_reads' HL.out).2.2 rfl k hkx
          subst eal
          obtain ⟨xk, hxk⟩ : ∃ y, y = xs.getD k [] := ⟨_, rfl⟩
          rw [← hxk] at hcl1 hCx
          have HXK := Aside0.mk hxk
          have HCX := Aside0.mk hCx
          obtain ⟨ad, A7, c7, A8, c8, ea, hx0, hx1, hx2, hx3, hx4, hx5, hx6, hx7, hx8, hx9, hl7, hi7, hl8, hi8⟩ := at_T44 HR4.out (k : Int) k0 k2
          subst ea
          rw [Int.toNat_natCast] at hx0 hx1 hx2 hx3 hx4 hx5 hx6 hx7 hx8 hx9
          replace hx0 := pw_cell_below HST.out.below hx0
          replace hx1 := pw_cell_below HST.out.below hx1
          replace hx2 := pw_cell_below HST.out.below hx2
          replace hx3 := pw_cell_below HST.out.below hx3
          replace hx4 := pw_cell_below HST.out.below hx4
          replace hx5 := pw_cell_below HST.out.below hx5
          replace hx6 := pw_cell_below HST.out.below hx6
          replace hx7 := pw_cell_below HST.out.below hx7
          replace hx8 := pw_cell_below HST.out.below hx8
          replace hx9 := pw_cell_below HST.out.below hx9
          have HI8 := Aside0.mk hi8
          have HL8 := Aside0.mk hl8
          obtain ⟨ws, hws⟩ : ∃ y, y = lvWrites (rd_T44 code k) := ⟨_, rfl⟩
          have HWS := Aside0.mk hws
          obtain ⟨ys, hys⟩ : ∃ y, y = xk ++ ws := ⟨_, rfl⟩
          have HYS := Aside0.mk hys
          have HYM := Aside0.mk (show ∀ r ∈ ys, 0 ≤ r ∧ r < l2.length by
            intro r hr
            rw [hys, List.mem_append] at hr
            rcases hr with hr | hr
            · rw [hxk] at hr; exact HSP.out.xm k hlt r hr
            · rw [hws] at hr; exact HSP.out.wm k hlt r hr)
          have HYN := Aside0.mk (show ys.length ≤ 2000002 by
            rw [hys, List.length_append]
            have h1 := HSP.out.xc k hlt
            rw [← hxk] at h1
            have h2 := lvWrites_len (rd_T44 code k)
            rw [← hws] at h2
            have := HOK.out.outs k hlt
            omega)
          have HXC := Aside0.mk (show xk.length ≤ 1000001 by have h1 := HSP.out.xc k hlt; rw [← hxk] at h1; omega)
          have HWC := Aside0.mk (show ws.length ≤ 1000001 by have h2 := lvWrites_len (rd_T44 code k); rw [← hws] at h2; have := HOK.out.outs k hlt; omega)
          have hg4 : wr.cell? ⟨w.heap.size, 4, none⟩ = some (.slice (some ad) code.length c4) := (blk_cell HST.out.hf 4).trans (by rw [HFC.out]; rfl)
          clear hxk hCx hi7 hi8 hl7 hl8 hws hys
          go_upto_region 5 with (fail)
          go_cut [32, 33, 34] (fun v32 v33 v34 wc => ∃ Ac cc, v32 = .slice Ac ys.length cc ∧ v33 = .int .i64 ys.length ∧ v34 = .int .i64 0 ∧ Aside0 (Kd.R (Kd.int .i64) 3 wc w.heap.size (fun _ => True) (.slice Ac ys.length cc) ys) ∧ Aside0 (Kd.R kInts 22 wc w.heap.size (fun _ => True) (.slice (some adl) xs.length cl) xs) ∧ Aside0 (SpSt w wc w.heap.size go l2.length fc L))
          case first =>
            go_wp2_with (first | (go_at_call 29; (with_reducible refine (wr_calls (rd_T44 code k) A7 (rd_T44 code k).f7.length c7 A8 c8 _ HL8.out (Kd.C_below HI8.out HST.out.below)).mono ?_); rintro e w30 ⟨Aw, cw, rfl, hcw, hrw, hb, _⟩; have n0_ := Aside0.mk (HST.out.step hb); have n1_ := Aside0.mk (Kd.R_below HL.out hb); have n2_ := Aside0.mk (Kd.C_below HCX.out hb); have n3_ := Aside0.mk hrw; clear HST HL HCX hrw hb hcw; have HST := n0_; have HL := n1_; have HCX := n2_; have RW := n3_; clear n0_ n1_ n2_ n3_; rw [← HWS.out] at RW; rw [← HWS.out]) | (go_at_call 28; (with_reducible refine (cc_calls w30.heap.size A' c' xk Aw cw ws _ (heap_alloc_new w30 _) (Kd.C_alloc HCX.out _) (Kd.C_alloc RW.out _) HXC.out HWC.out).mono ?_); rintro e w32 ⟨v32, rfl, hr, hb⟩; rw [← HYS.out] at hr; obtain ⟨Ac, cc, ec⟩ := Kd.R_slice hr; subst ec; have hal := ((Below.refl w30.heap.size w30).alloc (Nat.le_refl _) (.cells #[.slice A' xk.length c', .slice Aw ws.length cw] 22)); have n0_ := Aside0.mk ((HST.out.step hal).step hb); have n1_ := Aside0.mk (Kd.R_below (Kd.R_below HL.out hal) hb); have n2_ := Aside0.mk (Kd.R_lower hr (HST.out.step hal).below.size); clear HST HL hr hb hal; have HST := n0_; have HL := n1_; have HY := n2_; clear n0_ n1_ n2_))
            go_meet
            case rel => exact ⟨Ac, cc, rfl, rfl, rfl, HY, HL, HST⟩
          case rest =>
            clear HL HST hx0 hx1 hx2 hx3 hx4 hx5 hx6 hx7 hx8 hx9 hg4 hcl1 HCX
            obtain ⟨Ac, cc, rfl, rfl, rfl, HY, HL, HST⟩ := hcut
            go_wp2
            go_loopg [34] ys.length (fun gg v34 w' => ∃ j : Nat, j ≤ ys.length ∧ ys.length - j ≤ gg ∧ v34 = .int .i64 j ∧ Aside0 (Kd.R (Kd.int .i64) 3 w' w.heap.size (fun _ => True) (.slice Ac ys.length cc) ys) ∧ Aside0 (Kd.R kInts 22 w' w.heap.size (fun _ => True) (.slice (some adl) xs.length cl) xs) ∧ Aside0 (SpSt w w' w.heap.size go l2.length fc ((ys.take j).foldl (spPut (k : Int)) L)))
            case atStart => exact ⟨0, Nat.zero_le _, by omega, rfl, HY, HL, HST⟩
            case round =>
              clear HY HL HST
              obtain ⟨j, hjl, hjg, rfl, HY, HL, HST⟩ := hrel
              by_cases hjlt : j < ys.length
              · obtain ⟨M, hM⟩ : ∃ y, y = (ys.take j).foldl (spPut (k : Int)) L := ⟨_, rfl⟩
                rw [← hM] at HST
                have HM := Aside0.mk hM
                clear hM
                have j0 : 0 ≤ (j : Int) := by omega
                have j1 : (j : Int) < (ys.length : Int) := by omega
                have j2 : (j : Int) ≤ 2000002 := by have := HYN.out; omega
                obtain ⟨ady, eay, hxy⟩ := Kd.at_int (Kd.R_reads' HY.out).2.2 (j : Int) j0 j1
                subst eay
                obtain ⟨hr0, hr1⟩ := HYM.out _ (rd_mem' ys j hjlt)
                obtain ⟨r, hr⟩ := Int.eq_ofNat_of_zero_le hr0
                rw [Int.toNat_natCast, hr] at hxy
                rw [hr] at hr1
                have HRR := Aside0.mk hr
                have hr2 : r < l2.length := by omega
                clear hr hr0
                have hrM : r < M.length := by rw [HST.out.ln]; exact hr2
                obtain ⟨pa, hpa⟩ : ∃ y, M[r].1 = y := ⟨_, rfl⟩
                obtain ⟨pb, hpb⟩ : ∃ y, M[r].2 = y := ⟨_, rfl⟩
                have hs0 : wr.cell? ⟨go, r * 2, none⟩ = some (.int .i64 pa) := by rw [← hpa]; exact (blk_cell HST.out.ho (r * 2)).trans (by simpa using (spRow_at M r hrM).1)
                have hs1 : wr.cell? ⟨go, r * 2 + 1, none⟩ = some (.int .i64 pb) := by rw [← hpb]; exact (blk_cell HST.out.ho (r * 2 + 1)).trans (by simpa using (spRow_at M r hrM).2)
                have HPP := Aside0.mk (show M.getD r (0, -1) = (pa, pb) by rw [List.getD_eq_getElem?_getD, List.getElem?_eq_getElem hrM, ← hpa, ← hpb]; rfl)
                clear hpa hpb hrM
                obtain ⟨qa, hqa⟩ : ∃ y, (spWith (pa, pb) (k : Int)).1 = y := ⟨_, rfl⟩
                obtain ⟨qb, hqb⟩ : ∃ y, (spWith (pa, pb) (k : Int)).2 = y := ⟨_, rfl⟩
                have HWF := Aside0.mk (show span_Span_with.f pa pb (k : Int) = some (qa, qb) by rw [spWith_f, hqa, hqb])
                have HQ := Aside0.mk (show spWith (pa, pb) (k : Int) = (qa, qb) by rw [← hqa, ← hqb])
                clear hqa hqb
                go_wp2_with (first | (go_at_call 30; (with_reducible refine (span_Span_with.calls pa pb (k : Int) qa qb _ HWF.out).mono ?_); rintro e w45 ⟨rfl, hb⟩; have n0_ := Aside0.mk (HST.out.step hb); have n1_ := Aside0.mk (Kd.R_below HL.out hb); have n2_ := Aside0.mk (Kd.R_below HY.out hb); clear HST HL HY hb; have HST := n0_; have HL := n1_; have HY := n2_; clear n0_ n1_ n2_; have hrM : r < M.length := (by rw [HST.out.ln]; exact hr2); have hs0 : w45.cell? ⟨go, r * 2, none⟩ = some (.int .i64 M[r].1) := (blk_cell HST.out.ho (r * 2)).trans (by simpa using (spRow_at M r hrM).1); have hs1 : w45.cell? ⟨go, r * 2 + 1, none⟩ = some (.int .i64 M[r].2) := (blk_cell HST.out.ho (r * 2 + 1)).trans (by simpa using (spRow_at M r hrM).2); have hf0 := blk_frozen HST.out.ho (r * 2); have hf1 := blk_frozen HST.out.ho (r * 2 + 1)))
                go_roundg (ys.length - (j + 1))
                case measure => omega
                case rel => exact ⟨j + 1, by omega, by omega, by go_num, ⟨Kd.R_set (Kd.R_set HY.out HST.out.ho (by decide) (r * 2) _) (blk_put HST.out.ho (r * 2) _ rfl) (by decide) (r * 2 + 1) _⟩, ⟨Kd.R_set (Kd.R_set HL.out HST.out.ho (by decide) (r * 2) _) (blk_put HST.out.ho (r * 2) _ rfl) (by decide) (r * 2 + 1) _⟩, ⟨by rw [foldl_take _ _ _ _ hjlt, ← HM.out, HRR.out]; unfold spPut; rw [Int.toNat_natCast, HPP.out, HQ.out]; exact HST.out.put r hr2 (qa, qb)⟩⟩
              · obtain rfl : j = ys.length := by omega
                go_wp2
                go_roundg (code.length - (k + 1))
                case measure => omega
                case rel => exact ⟨k + 1, by omega, by omega, by go_num, HL, ⟨by unfold spLines; rw [List.range_succ, List.foldl_append]; show SpSt w wr w.heap.size go l2.length fc (spLine xs code (spLines xs code l2.length k) k); rw [← HLL.out]; unfold spLine; rw [← HXK.out, ← HWS.out, ← HYS.out]; have h2 := HST.out; rwa [List.take_length] at h2⟩⟩
        · obtain rfl : k = code.length := by omega
          obtain ⟨L, hL⟩ : ∃ y, y = spLines xs code l2.length code.length := ⟨_, rfl⟩
          rw [← hL] at HST
          have HLL := Aside0.mk hL
          clear hL
          have hg1 : wr.cell? ⟨w.heap.size, 1, none⟩ = some (.slice A1 l1.length c1) := (blk_cell HST.out.hf 1).trans (by rw [HFC.out]; rfl)
          have hd1 : decide ((code.length : Int) < (xs.length : Int)) = false := decide_eq_false (by have := HXL.out; omega)
          have hd2 : decide (code.length < xs.length) = false := decide_eq_false (by have := HXL.out; omega)
          go_wp2
          go_loopg [52] l1.length (fun gg v52 w' => ∃ j : Nat, j ≤ l1.length ∧ l1.length - j ≤ gg ∧ v52 = .int .i64 j ∧ Aside0 (SpSt w w' w.heap.size go l2.length fc ((l1.take j).foldl (spPut 0) L)))
          case atStart => exact ⟨0, Nat.zero_le _, by omega, rfl, HST⟩
          case round =>
            clear HL HST hg1
            obtain ⟨j, hjl, hjg, rfl, HST⟩ := hrel
            by_cases hjlt : j < l1.length
            · obtain ⟨M, hM⟩ : ∃ y, y = (l1.take j).foldl (spPut 0) L := ⟨_, rfl⟩
              rw [← hM] at HST
              have HM := Aside0.mk hM
              clear hM
              have j0 : 0 ≤ (j : Int) := by omega
              have j1 : (j : Int) < (l1.length : Int) := by omega
              have j2 : (j : Int) ≤ 1000000 := by have := HSP.out.pl; omega
              obtain ⟨ady, eay, hxy⟩ := Kd.at_int HR1.out (j : Int) j0 j1
              subst eay
              replace hxy := pw_cell_below HST.out.below hxy
              obtain ⟨hr0, hr1⟩ := HSP.out.pm _ (rd_mem' l1 j hjlt)
              obtain ⟨r, hr⟩ := Int.eq_ofNat_of_zero_le hr0
              rw [Int.toNat_natCast, hr] at hxy
              rw [hr] at hr1
              have HRR := Aside0.mk hr
              have hr2 : r < l2.length := by omega
              clear hr hr0
              have hrM : r < M.length := by rw [HST.out.ln]; exact hr2
              obtain ⟨pa, hpa⟩ : ∃ y, M[r].1 = y := ⟨_, rfl⟩
              obtain ⟨pb, hpb⟩ : ∃ y, M[r].2 = y := ⟨_, rfl⟩
              have hs0 : wr.cell? ⟨go, r * 2, none⟩ = some (.int .i64 pa) := by rw [← hpa]; exact (blk_cell HST.out.ho (r * 2)).trans (by simpa using (spRow_at M r hrM).1)
              have hs1 : wr.cell? ⟨go, r * 2 + 1, none⟩ = some (.int .i64 pb) := by rw [← hpb]; exact (blk_cell HST.out.ho (r * 2 + 1)).trans (by simpa using (spRow_at M r hrM).2)
              have HPP := Aside0.mk (show M.getD r (0, -1) = (pa, pb) by rw [List.getD_eq_getElem?_getD, List.getElem?_eq_getElem hrM, ← hpa, ← hpb]; rfl)
              clear hpa hpb hrM
              obtain ⟨qa, hqa⟩ : ∃ y, (spWith (pa, pb) 0).1 = y := ⟨_, rfl⟩
              obtain ⟨qb, hqb⟩ : ∃ y, (spWith (pa, pb) 0).2 = y := ⟨_, rfl⟩
              have HWF := Aside0.mk (show span_Span_with.f pa pb 0 = some (qa, qb) by rw [spWith_f, hqa, hqb])
              have HQ := Aside0.mk (show spWith (pa, pb) 0 = (qa, qb) by rw [← hqa, ← hqb])
              clear hqa hqb
              go_wp2_with (first | (go_at_call 30; (with_reducible refine (span_Span_with.calls pa pb 0 qa qb _ HWF.out).mono ?_); rintro e w45 ⟨rfl, hb⟩; have n0_ := Aside0.mk (HST.out.step hb); clear HST hb; have HST := n0_; clear n0_; have hrM : r < M.length := (by rw [HST.out.ln]; exact hr2); have hs0 : w45.cell? ⟨go, r * 2, none⟩ = some (.int .i64 M[r].1) := (blk_cell HST.out.ho (r * 2)).trans (by simpa using (spRow_at M r hrM).1); have hs1 : w45.cell? ⟨go, r * 2 + 1, none⟩ = some (.int .i64 M[r].2) := (blk_cell HST.out.ho (r * 2 + 1)).trans (by simpa using (spRow_at M r hrM).2); have hf0 := blk_frozen HST.out.ho (r * 2); have hf1 := blk_frozen HST.out.ho (r * 2 + 1)))
              go_roundg (l1.length - (j + 1))
              case measure => omega
              case rel => exact ⟨j + 1, by omega, by omega, by go_num, ⟨by rw [foldl_take _ _ _ _ hjlt, ← HM.out, HRR.out]; unfold spPut; rw [Int.toNat_natCast, HPP.out, HQ.out]; exact HST.out.put r hr2 (qa, qb)⟩⟩
            · obtain rfl : j = l1.length := by omega
              go_wp2
              go_ret
              exact ⟨go, rfl, by unfold spRes; rw [← HLL.out]; have h2 := HST.out.ho; rwa [List.take_length] at h2, by unfold spRes; rw [spFold_length, ← HLL.out]; have h2 := HST.out.ln; rw [spFold_length] at h2; exact h2, HST.out.loo, HST.out.below⟩
end Go.Proofs.YtjfleaekljapeaaDoor.K
