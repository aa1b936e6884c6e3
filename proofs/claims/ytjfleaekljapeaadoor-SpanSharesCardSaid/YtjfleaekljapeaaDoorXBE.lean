import Derived.Test.YtjfleaekljapeaaDoorXBC
import Derived.Test.YtjfleaekljapeaaDoorXBD
import Derived.Deep.DeepMust
import Derived.Test.YtjfleaekljapeaaDoorProg
import Derived.Below
import Derived.Deep.Draws
import Derived.Deep.AppendLies
import Derived.Maps.AppendAt
import Derived.OwnWalk
import Derived.Laws.BytesArg
import Derived.Laws.MakeOwn
import Derived.Laws.OwnMore
import Derived.Deep.OwnRows
import Derived.Tactics
import Derived.Lib.ConvBytes
import Derived.Laws.Slices
import Derived.WalkKit
import Derived.KernelRfl
import Derived.RowKit3
import Derived.Deep.LoopGhost
import Derived.Deep.QuietTactic
import Derived.BigQuiet
import Derived.WideLaws
import Derived.Deep.DeepCutAuto
import Derived.Deep.CutBlock
import Derived.Deep.RegionHeld3
import Derived.Deep.MidRow
import Derived.Laws.Tables
import Derived.StillTailTactics
import Derived.Laws.Rows
import Derived.Lib.AppendStr
import Derived.ArgAppend
import Derived.Laws.IdiomCopy
import Derived.OrdersHeld
import Derived.Laws.BitsLemmas
import Derived.Laws.BitsAllLaws
import Derived.RowKit
import Derived.RegionTactic
import Derived.Deep.RegionWith
import Derived.Lib.Hide
import Derived.Test.YtjfleaekljapeaaDoorXAA
import Derived.Test.YtjfleaekljapeaaDoorXAB
import Derived.Test.YtjfleaekljapeaaDoorXAC
import Derived.Deep.RegionLaw
import Derived.Laws.CopyOwn
import Derived.Laws.EntriesVeiled
import Derived.Shelf.Spec.TrailingZeros
namespace Go.Proofs.YtjfleaekljapeaaDoor.K
open Go.RowKit Go.Proofs.YtjfleaekljapeaaDoorW.PrintWords Go.Proofs.YtjfleaekljapeaaDoorW.PrintLast Go.Proofs.YtjfleaekljapeaaDoorW.PrintMore
attribute [local go_sem] max2_int min2_int max_two min_two max_three min_three max_four min_four   -- for this text's walks alone
set_option linter.unusedVariables false
set_option linter.unusedSimpArgs false
set_option linter.unusedSectionVars false
section
open Go.Proofs.YtjfleaekljapeaaDoor.EvLib
def SHA (P : Program) (ops : Array Oper) (Q : Exit -> Act -> World -> Prop) (S : World -> Prop) (b : Nat -> Bool) (fuel : Nat) (listed : Array Bool) (a : Act) (w : World) (i : Nat) (oi : Oper) : Prop :=
 ∀ K : Act -> World -> Prop, (∀ a2 w2, (b i = true -> S w2) -> SH P ops Q S b fuel (listed.setIfInBounds i true) a2 w2 -> K a2 w2) -> if Region.wanted oi (yielded ops a.tmps) = true then oi.wp P a w K Q else K (a.put oi.dst undef) w
section
variable {P : Program} {ops : Array Oper} {Q : Exit -> Act -> World -> Prop} {S : World -> Prop} {b : Nat -> Bool} {fuel : Nat} {listed : Array Bool} {a : Act} {w : World}
theorem SHA.go {i : Nat} {oi : Oper} (h : SHA P ops Q S b fuel listed a w i oi) (hi : ops[i]? = some oi) (hj : i ∈ Region.ready .any ops listed) (inv : HeadInv .any ops ops.size listed) : wpOp P ops Q i (fun a2 w2 => (b i = true -> S w2) /\ wpAnyT P ops Q S b fuel (listed.setIfInBounds i true) a2 w2) a w := by
 have hK := h (fun a2 w2 => (b i = true -> S w2) /\ wpAnyT P ops Q S b fuel (listed.setIfInBounds i true) a2 w2) (fun a2 w2 hS h2 => ⟨hS, h2.out (inv.set hj (Array.getElem?_eq_some_iff.1 hi).1)⟩)
 unfold wpOp
 simp only [hi]
 split
 ·rename_i hw; rw [if_pos hw] at hK; exact .inl hK
 ·rename_i hw; rw [if_neg hw] at hK; exact hK
theorem SH.two (i j : Nat) {oi oj : Oper} (hr : Region.ready .any ops listed = [i, j]) (hi : ops[i]? = some oi) (hj : ops[j]? = some oj) (h1 : SHA P ops Q S b fuel listed a w i oi) (h2 : SHA P ops Q S b fuel listed a w j oj) : SH P ops Q S b (fuel + 1) listed a w := by
 refine ⟨fun inv => ⟨fun h0 => (by rw [h0] at hr; cases hr), fun k hk => ?_⟩⟩
 have hk0 := hk
 rw [hr] at hk
 simp only [List.mem_cons, List.not_mem_nil, or_false] at hk
 rcases hk with rfl | rfl
 ·exact h1.go hi hk0 inv
 ·exact h2.go hj hk0 inv
theorem SH.three (i j l : Nat) {oi oj ol : Oper} (hr : Region.ready .any ops listed = [i, j, l]) (hi : ops[i]? = some oi) (hj : ops[j]? = some oj) (hl : ops[l]? = some ol) (h1 : SHA P ops Q S b fuel listed a w i oi) (h2 : SHA P ops Q S b fuel listed a w j oj) (h3 : SHA P ops Q S b fuel listed a w l ol) : SH P ops Q S b (fuel + 1) listed a w := by
 refine ⟨fun inv => ⟨fun h0 => (by rw [h0] at hr; cases hr), fun k hk => ?_⟩⟩
 have hk0 := hk
 rw [hr] at hk
 simp only [List.mem_cons, List.not_mem_nil, or_false] at hk
 rcases hk with rfl | rfl | rfl
 ·exact h1.go hi hk0 inv
 ·exact h2.go hj hk0 inv
 ·exact h3.go hl hk0 inv
end
theorem un_any (w : World) (fc : Array Value) : ∃ W gt gf, UnSt W gt gf fc /\ Below w.heap.size w W :=
 ⟨(w.alloc (.cells #[.string ⟨#[118]⟩, .int .i64 16, .string ⟨#[119]⟩, .int .i64 8] 89)).alloc (.cells fc 25), w.heap.size, w.heap.size + 1, ⟨blk_below (heap_alloc_new w _) ((Below.refl _ _).alloc (Nat.le_refl _) _), two_new w _ _⟩, two_below w _ _⟩
theorem sp_ok {nk : Nat} {code : List S44} (hok : CodeOk nk code) (h64 : nk <= 64) {R : List Int} (hW : Words R) (hlen : R.length = code.length + 1) (hL : ∀ r : Nat, Least code (r : Int) (lb R r)) {params : List Int} (hp : ∀ x ∈ params, 0 <= x /\ x < nk) (hpl : params.length <= 10) : SpOk (lvLists R code.length) code nk params where
 xl := by unfold lvLists; rw [List.length_map, List.length_take]; omega
 xm := fun n hn r hr => by
  rw [lvLists_get code.length n hlen hn] at hr
  obtain ⟨x, ex, hx⟩ := hW n
  rw [ex, Int.toNat_natCast] at hr
  have h0 := lvMem_nonneg x r hr
  obtain ⟨q, rfl⟩ := Int.eq_ofNat_of_zero_le h0
  have h1 := (mem_lvMem 64 x (Nat.le_refl _) hx q).1 hr
  refine ⟨h0, ?_⟩
  by_cases c : q < nk
  ·omega
  ·have h2 := lb_high hok hL q (by omega) n hn
   unfold lb at h2
   rw [ex, Int.toNat_natCast, h1] at h2
   cases h2
 xc := fun n hn => by
  rw [lvLists_get code.length n hlen hn]
  obtain ⟨x, ex, hx⟩ := hW n
  rw [ex, Int.toNat_natCast]
  have := lvMem_len 64 x (Nat.le_refl _) hx
  omega
 wm := hok.wr
 pm := hp
 pl := by omega
theorem spRow_get (l : List (Int × Int)) (r : Nat) (hr : r < l.length) : (spRow l)[r * 2]? = some (.int .i64 (l.getD r (0, -1)).1) /\ (spRow l)[r * 2 + 1]? = some (.int .i64 (l.getD r (0, -1)).2) := by
 have := spRow_at l r hr
 rw [List.getD_eq_getElem?_getD, List.getElem?_eq_getElem hr]
 exact this
section
variable {nm : ByteArray} {A1 A2 A3 A4 : Option Addr} {c1 c2 c3 c4 : Nat} {l1 l2 l3 : List Int} {code : List S44}
set_option maxHeartbeats 8000000 in
set_option maxRecDepth 20000 in
theorem law_shares (a b : Int) (w : World) (hf : FnC A1 c1 l1 A2 c2 l2 A3 c3 l3 A4 c4 code w) (ha : ∀ n, n < code.length -> (rd_T44 code n).f7.length <= 17592186043904) (hf4 : ∀ n : Nat, n < code.length -> R64 (rd_T44 code n).f4) (hT : TzTab w) (h1 : 0 < w.heap.size) :
  Calls Tryd.prog 7 #[.agg #[.string nm, .slice A1 l1.length c1, .slice A2 l2.length c2, .slice A3 l3.length c3, .slice A4 code.length c4], .int .i64 a, .int .i64 b] w (AwPost w) := by
 have hu25 := Tryd.underlying25
 have hu22 := Tryd.underlying22
 have hu39 := Tryd.underlying39
 have hu33 := Tryd.underlying33
 have hu41 := Tryd.underlying41
 have hu60 := Tryd.underlying60
 have HF := Aside0.mk hf
 have HA := Aside0.mk ha
 have HF4 := Aside0.mk hf4
 have HT := Aside0.mk hT
 have HFT := Aside0.mk (fun W (hb : Below w.heap.size w W) => fits_calls (nm := nm) W (hf.below hb))
 have HAW := Aside0.mk (fun W (hb : Below w.heap.size w W) => awake_calls W (hT.below h1 hb) (Nat.lt_of_lt_of_le h1 hb.size))
 have HS := Aside0.mk (show LwSt w (w.alloc (.cells #[.string nm, .slice A1 l1.length c1, .slice A2 l2.length c2, .slice A3 l3.length c3, .slice A4 code.length c4] 25)) w.heap.size #[.string nm, .slice A1 l1.length c1, .slice A2 l2.length c2, .slice A3 l3.length c3, .slice A4 code.length c4] from ⟨heap_alloc_new w _, Nat.le_refl _, us_new w _ _⟩)
 have HO := Aside0.mk (fun h => code_ok (l2 := l2) (l3 := l3) (code := code) h)
 have HFB := Aside0.mk (show fitsB l2 l3 code = true -> code.length <= 80 /\ l2.length <= 40 /\ l3.length <= 10 /\ goodB mainS [] l2 l3 code = true from fun h => by
  unfold fitsB at h
  simp only [Bool.and_eq_true, decide_eq_true_eq] at h
  exact h)
 unfold FtPost at HFT
 generalize fitsB l2 l3 code = fb at HFT HO HFB
 clear hf ha hT hf4
 go_enter Tryd.func7, Tryd.ntmps7
 go_upto_region 1 with (fail)
 generalize w.alloc (.cells #[.string nm, .slice A1 l1.length c1, .slice A2 l2.length c2, .slice A3 l3.length c3, .slice A4 code.length c4] 25) = w1 at HS ⊢
 have z0 := (blk_cell HS.out.hf 0).trans (show _ = some (Value.string nm) from rfl)
 have z1 := (blk_cell HS.out.hf 1).trans (show _ = some (Value.slice A1 l1.length c1) from rfl)
 have z2 := (blk_cell HS.out.hf 2).trans (show _ = some (Value.slice A2 l2.length c2) from rfl)
 have z3 := (blk_cell HS.out.hf 3).trans (show _ = some (Value.slice A3 l3.length c3) from rfl)
 have z4 := (blk_cell HS.out.hf 4).trans (show _ = some (Value.slice A4 code.length c4) from rfl)
 go_upto_region 2 with (first | (go_at_call 9; (with_reducible refine (HFT.out _ HS.out.below).mono ?_); rintro e w2 ⟨rfl, hb⟩; have n0_ := Aside0.mk (HS.out.step hb); clear HS; have HS := n0_; clear n0_; have z0 := pw_cell_below hb z0; have z1 := pw_cell_below hb z1; have z2 := pw_cell_below hb z2; have z3 := pw_cell_below hb z3; have z4 := pw_cell_below hb z4; have q0 := blk_frozen HS.out.hf 0; have q1 := blk_frozen HS.out.hf 1; have q2 := blk_frozen HS.out.hf 2; have q3 := blk_frozen HS.out.hf 3; have q4 := blk_frozen HS.out.hf 4; clear hb))
 have n0_ := Aside0.mk (HS.out.put5 (.string ⟨#[109, 97, 105, 110]⟩) (.slice none 0 0) (.slice A2 l2.length c2) (.slice A3 l3.length c3) (.slice A4 code.length c4))
 clear HS z0 z1 z2 z3 z4 q0 q1 q2 q3 q4 HFT
 have HS := n0_
 clear n0_
 generalize (((((w2.setCell ⟨w.heap.size, 0, none⟩ (.string ⟨#[109, 97, 105, 110]⟩)).setCell ⟨w.heap.size, 1, none⟩ (.slice none 0 0)).setCell ⟨w.heap.size, 2, none⟩ (.slice A2 l2.length c2)).setCell ⟨w.heap.size, 3, none⟩ (.slice A3 l3.length c3)).setCell ⟨w.heap.size, 4, none⟩ (.slice A4 code.length c4)) = w3 at HS ⊢
 have z2 := (blk_cell HS.out.hf 2).trans (show _ = some (Value.slice A2 l2.length c2) from rfl)
 have z2b := Aside0.mk z2
 cases fb with
 | false =>
  go_wp2_with (first | (go_at_call 10; (with_reducible refine (HAW.out _ HS.out.below).mono ?_); rintro e w4 ⟨rfl, hb⟩; have n0_ := Aside0.mk (HS.out.step hb); have z2 := pw_cell_below hb z2; clear hb HS; have HS := n0_; clear n0_))
  go_ret
  exact ⟨rfl, HS.out.below⟩
 | true =>
  obtain ⟨hk40, hok⟩ := HO.out rfl
  have HOK := Aside0.mk hok
  have HK40 := Aside0.mk hk40
  have HFT := Aside0.mk (HFB.out rfl)
  clear HO hok hk40 HFB
  by_cases hl : (l2.length : Int) < 2
  ·go_wp2_with (first | (go_at_call 10; (with_reducible refine (HAW.out _ HS.out.below).mono ?_); rintro e w4 ⟨rfl, hb⟩; have n0_ := Aside0.mk (HS.out.step hb); have z2 := pw_cell_below hb z2; clear hb HS; have HS := n0_; clear n0_))
   go_ret
   exact ⟨rfl, HS.out.below⟩
  go_upto_region 4 with (first | (go_at_call 10; (with_reducible refine (HAW.out _ HS.out.below).mono ?_); rintro e w4 ⟨rfl, hb⟩; have n0_ := Aside0.mk (HS.out.step hb); have z2 := pw_cell_below hb z2; clear hb HS; have HS := n0_; clear n0_))
  have HL2 := Aside0.mk (show (2 : Int) <= (l2.length : Int) by omega)
  clear hl
  have l0 : ¬ ((l2.length : Int) = 0) := by have := HL2.out; omega
  go_upto_region 5 with (fail)
  have k40 : (l2.length : Int) <= 40 := by have := HK40.out; omega
  have k2 : (2 : Int) <= (l2.length : Int) := HL2.out
  have hwl : IntKind.u64.wrap (l2.length : Int) = (l2.length : Int) := by rw [IntKind.wrap_u64]; omega
  have hxy : ∀ c : Int, ∃ x : Nat, (IntKind.u64.wrap c).tmod (l2.length : Int) = (x : Int) /\ x < l2.length := fun c => by
   have h1 := (wrap_rng c).1
   have h2 := Int.tmod_nonneg (l2.length : Int) h1
   have h3 := Int.tmod_lt_of_pos (IntKind.u64.wrap c) (show (0 : Int) < (l2.length : Int) by omega)
   exact ⟨((IntKind.u64.wrap c).tmod (l2.length : Int)).toNat, by omega, by omega⟩
  obtain ⟨x, hx, hxl⟩ := hxy a
  obtain ⟨y, hy, hyl⟩ := hxy b
  have hwx : IntKind.i64.wrap (x : Int) = (x : Int) := by rw [IntKind.wrap_i64]; omega
  have hwy : IntKind.i64.wrap (y : Int) = (y : Int) := by rw [IntKind.wrap_i64]; omega
  clear hxy
  go_quiet (fail)
  clear hx hy hwx hwy hwl l0 k2 k40
  have n0_ := Aside0.mk (HS.out.step (pw_below_drewN (Below.refl _ _) nq))
  clear HS z2
  have HS := n0_
  clear n0_
  generalize w4.drewN nq = w5 at HS ⊢
  have HX := Aside0.mk hxl
  have HY := Aside0.mk hyl
  clear hxl hyl
  obtain ⟨K, R, hrun, hW, hRl, hL⟩ := live_run HOK.out (by have := HK40.out; omega)
  have HSP := Aside0.mk (fun W (hb : Below w.heap.size w W) => spans_calls ⟨#[109, 97, 105, 110]⟩ none 0 [] A2 c2 l2 A3 c3 l3 A4 c4 code W (HF.out.bare.below hb).h1 (Nat.le_refl _) (HF.out.below hb).h2 HF.out.g2 (HF.out.below hb).h3 HF.out.g3 (HF.out.below hb).h4 HF.out.g4 (by have := HK40.out; omega) (live_ok HOK.out (by have := HK40.out; omega) HA.out) K R hrun (words_mem hW) (sp_ok HOK.out (by have := HK40.out; omega) hW hRl hL (fun x hx => by cases hx) (by decide)) (HT.out.below h1 hb) (Nat.lt_of_lt_of_le h1 hb.size))
  have HREN := Aside0.mk (fun (hm : meetB ((spRes (lvLists R code.length) code l2.length []).getD x (0, -1)) ((spRes (lvLists R code.length) code l2.length []).getD y (0, -1)) = false) => ren_pl HOK.out (by have := HK40.out; omega) hW hRl hL x y HX.out HY.out hm)
  clear hrun hW hRl hL
  unfold SpPost at HSP
  simp only [List.length_nil] at HSP
  generalize spRes (lvLists R code.length) code l2.length [] = xs at HSP HREN
  have z0 := (blk_cell HS.out.hf 0).trans (show _ = some (Value.string ⟨#[109, 97, 105, 110]⟩) from rfl)
  have z1 := (blk_cell HS.out.hf 1).trans (show _ = some (Value.slice none 0 0) from rfl)
  have z2 := (blk_cell HS.out.hf 2).trans (show _ = some (Value.slice A2 l2.length c2) from rfl)
  have z3 := (blk_cell HS.out.hf 3).trans (show _ = some (Value.slice A3 l3.length c3) from rfl)
  have z4 := (blk_cell HS.out.hf 4).trans (show _ = some (Value.slice A4 code.length c4) from rfl)
  go_upto_region 6 with (first | (go_at_call 14; (with_reducible refine (HSP.out _ HS.out.below).mono ?_); rintro e w6 ⟨gl, rfl, hg, hxl, _, hb⟩; have HG := Aside0.mk hg; have HXL := Aside0.mk hxl; have n0_ := Aside0.mk (HS.out.step hb); have z2 := pw_cell_below hb z2; clear hb hg hxl HS z0 z1 z3 z4; have HS := n0_; clear n0_ HSP))
  have hne : ((l2.length : Int) != (l2.length : Int)) = false := by simp
  go_upto_region 8 with (fail)
  clear z2 hne
  have x0 : w6.cell? ⟨gl, x * 2, none⟩ = some (.int .i64 (xs.getD x (0, -1)).1) := by
   rw [blk_cell HG.out, List.getElem?_toArray]
   exact (spRow_get xs x (by rw [HXL.out]; exact HX.out)).1
  have x1 : w6.cell? ⟨gl, x * 2 + 1, none⟩ = some (.int .i64 (xs.getD x (0, -1)).2) := by
   rw [blk_cell HG.out, List.getElem?_toArray]
   exact (spRow_get xs x (by rw [HXL.out]; exact HX.out)).2
  have y0 : w6.cell? ⟨gl, y * 2, none⟩ = some (.int .i64 (xs.getD y (0, -1)).1) := by
   rw [blk_cell HG.out, List.getElem?_toArray]
   exact (spRow_get xs y (by rw [HXL.out]; exact HY.out)).1
  have y1 : w6.cell? ⟨gl, y * 2 + 1, none⟩ = some (.int .i64 (xs.getD y (0, -1)).2) := by
   rw [blk_cell HG.out, List.getElem?_toArray]
   exact (spRow_get xs y (by rw [HXL.out]; exact HY.out)).2
  have hxl : (x : Int) < (l2.length : Int) := by have := HX.out; omega
  have hyl : (y : Int) < (l2.length : Int) := by have := HY.out; omega
  have hx0 : (0 : Int) <= (x : Int) := by omega
  have hy0 : (0 : Int) <= (y : Int) := by omega
  by_cases hxy : x = y
  ·subst hxy
   have hq : ((x : Int) == (x : Int)) = true := by simp
   go_quiet (fail)
   go_wp2
   go_ret
   exact ⟨rfl, below_step HS.out.below (pw_below_drewN (Below.refl _ _) nq)⟩
  have hq : ((x : Int) == (y : Int)) = false := by simp; omega
  have HXY := Aside0.mk hxy
  clear hxy
  generalize xs.getD x (0, -1) = sx at x0 x1 HREN
  generalize xs.getD y (0, -1) = sy at y0 y1 HREN
  have HMT := Aside0.mk (fun W => span_Meet.calls sx.1 sx.2 sy.1 sy.2 (meetB sx sy) W (meet_f sx sy))
  obtain ⟨m, hm⟩ : ∃ m, meetB sx sy = m := ⟨_, rfl⟩
  rw [hm] at HMT HREN
  clear hm
  have HC8 := Aside0.mk (show ∀ w9, Below w6.heap.size w6 w9 -> (w9.cell? ⟨gl, x * 2, none⟩ = some (.int .i64 sx.1) /\ w9.cell? ⟨gl, x * 2 + 1, none⟩ = some (.int .i64 sx.2)) /\ (w9.cell? ⟨gl, y * 2, none⟩ = some (.int .i64 sy.1) /\ w9.cell? ⟨gl, y * 2 + 1, none⟩ = some (.int .i64 sy.2)) from fun w9 hb => ⟨⟨pw_cell_below hb x0, pw_cell_below hb x1⟩, ⟨pw_cell_below hb y0, pw_cell_below hb y1⟩⟩)
  clear x0 x1 y0 y1
  have hS0 : Below w6.heap.size w6 w6.drew := below_drew (Below.refl _ _)
  refine sh_start (fun w9 => Below w6.heap.size w6 w9) (fun k => decide (k < 13)) (by kernel_rfl) ?_
  refine SH.take 0 (v := ?_) rfl (by kernel_rfl) (fun _ _ _ h => h) hS0 (by rfl) ?_ ?_
  rotate_left
  ·intro w9 hS9
   go_simp <;> (with_reducible rfl)
  simp only [List.getElem_toArray, List.getElem_cons_succ, List.getElem_cons_zero, Act.put, List.setIfInBounds_toArray, List.set_cons_zero, List.set_cons_succ]
  refine SH.take 1 (v := ?_) rfl (by kernel_rfl) (fun _ _ _ h => h) hS0 (by rfl) ?_ ?_
  rotate_left
  ·intro w9 hS9
   go_simp <;> (with_reducible rfl)
  simp only [List.getElem_toArray, List.getElem_cons_succ, List.getElem_cons_zero, Act.put, List.setIfInBounds_toArray, List.set_cons_zero, List.set_cons_succ]
  refine SH.take 2 (v := ?_) rfl (by kernel_rfl) (fun _ _ _ h => h) hS0 (by rfl) ?_ ?_
  rotate_left
  ·intro w9 hS9
   go_simp <;> (with_reducible rfl)
  simp only [List.getElem_toArray, List.getElem_cons_succ, List.getElem_cons_zero, Act.put, List.setIfInBounds_toArray, List.set_cons_zero, List.set_cons_succ]
  refine SH.take 3 (v := ?_) rfl (by kernel_rfl) (fun _ _ _ h => h) hS0 (by rfl) ?_ ?_
  rotate_left
  ·intro w9 hS9
   go_simp <;> (with_reducible rfl)
  simp only [List.getElem_toArray, List.getElem_cons_succ, List.getElem_cons_zero, Act.put, List.setIfInBounds_toArray, List.set_cons_zero, List.set_cons_succ]
  refine SH.take 4 (v := ?_) rfl (by kernel_rfl) (fun _ _ _ h => h) hS0 (by rfl) ?_ ?_
  rotate_left
  ·intro w9 hS9
   go_simp <;> (with_reducible rfl)
  simp only [List.getElem_toArray, List.getElem_cons_succ, List.getElem_cons_zero, Act.put, List.setIfInBounds_toArray, List.set_cons_zero, List.set_cons_succ]
  refine SH.take 5 (v := ?_) rfl (by kernel_rfl) (fun _ _ _ h => h) hS0 (by rfl) ?_ ?_
  rotate_left
  ·intro w9 hS9
   go_simp <;> (with_reducible rfl)
  simp only [List.getElem_toArray, List.getElem_cons_succ, List.getElem_cons_zero, Act.put, List.setIfInBounds_toArray, List.set_cons_zero, List.set_cons_succ]
  refine SH.take 6 (v := ?_) rfl (by kernel_rfl) (fun _ _ _ h => h) hS0 (by rfl) ?_ ?_
  rotate_left
  ·intro w9 hS9
   go_simp <;> (with_reducible rfl)
  simp only [List.getElem_toArray, List.getElem_cons_succ, List.getElem_cons_zero, Act.put, List.setIfInBounds_toArray, List.set_cons_zero, List.set_cons_succ]
  refine SH.take 7 (v := ?_) rfl (by kernel_rfl) (fun _ _ _ h => h) hS0 (by rfl) ?_ ?_
  rotate_left
  ·intro w9 hS9
   have h9 := (HC8.out w9 hS9).1.1
   have h10 := (HC8.out w9 hS9).1.2
   go_simp <;> (with_reducible rfl)
  simp only [List.getElem_toArray, List.getElem_cons_succ, List.getElem_cons_zero, Act.put, List.setIfInBounds_toArray, List.set_cons_zero, List.set_cons_succ]
  refine SH.take 8 (v := ?_) rfl (by kernel_rfl) (fun _ _ _ h => h) hS0 (by rfl) ?_ ?_
  rotate_left
  ·intro w9 hS9
   go_simp <;> (with_reducible rfl)
  simp only [List.getElem_toArray, List.getElem_cons_succ, List.getElem_cons_zero, Act.put, List.setIfInBounds_toArray, List.set_cons_zero, List.set_cons_succ]
  refine SH.take 9 (v := ?_) rfl (by kernel_rfl) (fun _ _ _ h => h) hS0 (by rfl) ?_ ?_
  rotate_left
  ·intro w9 hS9
   go_simp <;> (with_reducible rfl)
  simp only [List.getElem_toArray, List.getElem_cons_succ, List.getElem_cons_zero, Act.put, List.setIfInBounds_toArray, List.set_cons_zero, List.set_cons_succ]
  refine SH.take 10 (v := ?_) rfl (by kernel_rfl) (fun _ _ _ h => h) hS0 (by rfl) ?_ ?_
  rotate_left
  ·intro w9 hS9
   go_simp <;> (with_reducible rfl)
  simp only [List.getElem_toArray, List.getElem_cons_succ, List.getElem_cons_zero, Act.put, List.setIfInBounds_toArray, List.set_cons_zero, List.set_cons_succ]
  refine SH.take 11 (v := ?_) rfl (by kernel_rfl) (fun _ _ _ h => h) hS0 (by rfl) ?_ ?_
  rotate_left
  ·intro w9 hS9
   have h9 := (HC8.out w9 hS9).2.1
   have h10 := (HC8.out w9 hS9).2.2
   go_simp <;> (with_reducible rfl)
  simp only [List.getElem_toArray, List.getElem_cons_succ, List.getElem_cons_zero, Act.put, List.setIfInBounds_toArray, List.set_cons_zero, List.set_cons_succ]
  refine SH.act 12 rfl (by kernel_rfl) ?_
  intro K hK
  go_simp
  refine (HMT.out _).mono ?_
  rintro e w7 ⟨rfl, hb7⟩
  have HB7 := Aside0.mk (below_step hS0 hb7)
  refine hK _ _ (fun _ => HB7.out) ?_
  clear hK K hb7 hS0 HMT
  refine SH.pure 13 (v := ?_) rfl (by kernel_rfl) rfl (fun _ _ _ h => h) (by rfl) ?_ ?_
  rotate_left
  ·intro w9
   go_simp <;> (with_reducible rfl)
  simp only [List.getElem_toArray, List.getElem_cons_succ, List.getElem_cons_zero, Act.put, List.setIfInBounds_toArray, List.set_cons_zero, List.set_cons_succ]
  refine SH.done (by kernel_rfl) ?_
  have n0_ := Aside0.mk (HS.out.step HB7.out)
  clear HS HB7 HC8 hq
  have HS := n0_
  clear n0_
  cases m with
  | true =>
   go_wp2
   go_ret
   exact ⟨rfl, HS.out.below⟩
  | false =>
   have HR := Aside0.mk (HREN.out rfl)
   clear HREN hxl hyl hx0 hy0
   have z2 := (blk_cell HS.out.hf 2).trans (show _ = some (Value.slice A2 l2.length c2) from rfl)
   have hmk : ∀ W : World, (Instr.makeSlice 22 (.int .i64 (l2.length : Int)) (.int .i64 (l2.length : Int))).run Tryd.prog W = .ok (.slice (some ⟨W.heap.size, 0, none⟩) l2.length l2.length) (W.alloc (.cells (madeCells #[.int .i64 0] l2.length) 3)) := fun W => by
    exact print_make_of (P := Tryd.prog) 22 3 (.int .i64 0) 8 Tryd.underlying22 info3 rfl (by omega) l2.length (by have := HK40.out; omega) W
   go_upto_region 11 with (fail)
   clear z2 hmk
   have HPR := Aside0.mk (pl_new w7 l2.length (by have := HK40.out; omega))
   have HPB := Aside0.mk (show Below w7.heap.size w7 (w7.alloc (.cells (madeCells #[.int .i64 0] l2.length) 3)) from (Below.refl _ _).alloc (Nat.le_refl _) _)
   generalize hgp : w7.heap.size = gp at HPR ⊢
   have HGP := Aside0.mk hgp
   clear hgp
   generalize World.alloc w7 (.cells (madeCells #[.int .i64 0] l2.length) 3) = w8 at HPR HPB ⊢
   go_wp2
   go_loopg [76] l2.length (fun gg v76 w' => ∃ (r : Nat), r <= l2.length /\ l2.length - r <= gg /\ v76 = .int .i64 (r : Int) /\ Aside0 (Rw (Kd.int .i64) 3 w7 w' (.slice (some ⟨gp, 0, none⟩) l2.length l2.length) (plS l2.length r)) /\ Aside0 (Below w7.heap.size w7 w'))
   case atStart => exact ⟨0, Nat.zero_le _, Nat.le_refl _, rfl, HPR, HPB⟩
   case round =>
    clear HPR HPB
    obtain ⟨r, hr, hgr, rfl, HPR, HPB⟩ := hrel
    have HOWN := Aside0.mk (show w7.heap.size <= gp from by have := HGP.out; omega)
    by_cases hlt : r < l2.length
    ·have r0 : 0 <= (r : Int) := by omega
     have r1 : (r : Int) < (l2.length : Int) := by omega
     have r2 : (r : Int) <= 40 := by have := HK40.out; omega
     obtain ⟨hc, hfz⟩ := Kd.R_celln 0 HPR.out (r : Int) r0 r1
     rw [Int.toNat_natCast] at hc hfz
     have hp := Kd.R_putg HPR.out (r : Int) (r : Int)
     rw [Int.toNat_natCast, plS_next _ _ hlt] at hp
     have HP2 := Aside0.mk hp
     clear hp
     go_wp2
     go_roundg (l2.length - (r + 1))
     case measure => omega
     case rel => exact ⟨r + 1, by omega, Nat.le_refl _, by go_num, ⟨HP2.out.1⟩, ⟨below_set HPB.out HOWN.out⟩⟩
    ·obtain rfl : r = l2.length := by omega
     have y0 : 0 <= (y : Int) := by omega
     have y1 : (y : Int) < (l2.length : Int) := by have := HY.out; omega
     obtain ⟨hc, hfz⟩ := Kd.R_celln 0 HPR.out (y : Int) y0 y1
     rw [Int.toNat_natCast] at hc hfz
     have hp := Kd.R_putg HPR.out (y : Int) (x : Int)
     rw [Int.toNat_natCast, plS_end] at hp
     have HP2 := Aside0.mk hp.1
     have HB2 := Aside0.mk (below_set (g := gp) (j := y) (v := .int .i64 (x : Int)) HPB.out HOWN.out)
     clear hp
     go_upto_region 17 with (fail)
     clear hc hfz HPR HPB
     generalize World.setCell wr ⟨gp, y, none⟩ (.int .i64 (x : Int)) = w10 at HP2 HB2 ⊢
     have n0_ := Aside0.mk (HS.out.step HB2.out)
     clear HS HB2 HOWN
     have HS := n0_
     clear n0_
     have HGDF := Aside0.mk (HFT.out.2.2.2)
     have HINS := Aside0.mk (ins_good HFT.out.2.2.2)
     have HSH := Aside0.mk (shared_calls w10 ⟨mainS, none, A2, A3, A4, 0, c2, c3, c4, l2, l3, code⟩ (HF.out.bare.below HS.out.below) (some ⟨gp, 0, none⟩) l2.length (plOf l2.length x y) l2.length (by have h := (Kd.R_reads' HP2.out).2.2; exact h) (by rw [plOf_len]; exact HINS.out) (by rw [plOf_len]; have := HK40.out; omega) (by have := HK40.out; omega) (fun n hn => ⟨HA.out n hn, by
      have h := HINS.out n hn
      have h2 := nodup_len l2.length _ h.nd h.r8
      have := HK40.out
      show (rd_T44 code n).f8.length <= 1000000
      omega⟩) (by have := HFT.out.1; show code.length <= 1000; omega))
     rw [plOf_len] at HSH
     unfold ShPost Fr4.cs mainS at HSH
     have z0 := (blk_cell HS.out.hf 0).trans (show _ = some (Value.string ⟨#[109, 97, 105, 110]⟩) from rfl)
     have z1 := (blk_cell HS.out.hf 1).trans (show _ = some (Value.slice none 0 0) from rfl)
     have z2 := (blk_cell HS.out.hf 2).trans (show _ = some (Value.slice A2 l2.length c2) from rfl)
     have z3 := (blk_cell HS.out.hf 3).trans (show _ = some (Value.slice A3 l3.length c3) from rfl)
     have z4 := (blk_cell HS.out.hf 4).trans (show _ = some (Value.slice A4 code.length c4) from rfl)
     go_upto_region 18 with (first | (go_at_call 18; (with_reducible refine HSH.out.mono ?_); rintro e w11 ⟨⟨nm2, B1, B2, B3, B4, d1, d2, d3, d4, k2, k3, code2⟩, rfl, e1, e2, e3, e4, e5, e6, hfn, hb⟩; have HE1 := Aside0.mk (show nm2 = mainS from e1); have HE4 := Aside0.mk (show k2 = List.replicate (l2.length + l2.length) 1 from e4); have HE5 := Aside0.mk (show k3 = l3 from e5); have HE6 := Aside0.mk (show code2 = code.map (renI (rnP (plOf l2.length x y) l2.length)) from e6); have HFG := Aside0.mk hfn; have HB11 := Aside0.mk hb; clear e1 e2 e3 e4 e5 e6 hfn hb HSH HP2 z0 z1 z2 z3 z4))
     have HSG := Aside0.mk (show LwSt w11 (w11.alloc (.cells #[.string nm2, .slice B1 0 d1, .slice B2 k2.length d2, .slice B3 k3.length d3, .slice B4 code2.length d4] 25)) w11.heap.size #[.string nm2, .slice B1 0 d1, .slice B2 k2.length d2, .slice B3 k3.length d3, .slice B4 code2.length d4] from ⟨heap_alloc_new w11 _, Nat.le_refl _, us_new w11 _ _⟩)
     have n0_ := Aside0.mk ((HS.out.step HB11.out).step HSG.out.below)
     clear HS HB11
     have HS := n0_
     clear n0_
     generalize w11.alloc (.cells #[.string nm2, .slice B1 0 d1, .slice B2 k2.length d2, .slice B3 k3.length d3, .slice B4 code2.length d4] 25) = w12 at HS HSG ⊢
     have n0_ := Aside0.mk (HFG.out.below HSG.out.below)
     clear HFG
     have HFG := n0_
     clear n0_
     obtain rfl := HE1.out
     have x0 := (blk_cell HSG.out.hf 0).trans (show _ = some (Value.string mainS) from rfl)
     have x1 := (blk_cell HSG.out.hf 1).trans (show _ = some (Value.slice B1 0 d1) from rfl)
     have x2 := (blk_cell HSG.out.hf 2).trans (show _ = some (Value.slice B2 k2.length d2) from rfl)
     have x3 := (blk_cell HSG.out.hf 3).trans (show _ = some (Value.slice B3 k3.length d3) from rfl)
     have x4 := (blk_cell HSG.out.hf 4).trans (show _ = some (Value.slice B4 code2.length d4) from rfl)
     have HAL := Aside0.mk (fun W => alone_calls (nm := mainS) (A1 := B1) (c1 := d1) (l1 := []) (A2 := B2) (c2 := d2) (l2 := k2) (A3 := B3) (c3 := d3) (l3 := k3) (A4 := B4) (c4 := d4) (code := code2) W)
     simp only [List.length_nil] at HAL
     obtain ⟨gb, hgb⟩ : ∃ x, goodB mainS [] k2 k3 code2 = x := ⟨_, rfl⟩
     have HGO := Aside0.mk (fun gt gf W hu hb => good_calls (nm := mainS) (A1 := B1) (c1 := d1) (l1 := []) (A2 := B2) (c2 := d2) (l2 := k2) (A3 := B3) (c3 := d3) (l3 := k3) (A4 := B4) (c4 := d4) (code := code2) gt gf W hu (HFG.out.below hb) rfl (by kernel_rfl))
     simp only [List.length_nil, unV] at HGO
     rw [hgb] at HGO
     have HGB := Aside0.mk hgb
     clear hgb
     have HLG := Aside0.mk (show mainS = ⟨#[109, 97, 105, 110]⟩ from rfl)
     obtain hcb | hcb : gb = false ∨ gb = true := by cases gb <;> simp
     ·subst hcb
      go_wp2_with (first | (go_at_call 20; (with_reducible refine (HAL.out _).mono ?_); rintro e w13 ⟨gt, gf, rfl, hu, hb⟩; have HU := Aside0.mk hu; have HB13 := Aside0.mk hb; clear hu hb; unfold unV) | (go_at_call 19; (with_reducible refine (HGO.out _ _ _ HU.out HB13.out).mono ?_); rintro e w14 ⟨rfl, hb⟩; have HB14 := Aside0.mk hb; clear hb))
      clear HAL HGO x0 x1 x2 x3 x4 HU
      have n0_ := Aside0.mk (HS.out.step (below_step HB13.out HB14.out))
      clear HS
      have HS := n0_
      clear n0_
      have n0_ := Aside0.mk (HSG.out.step (below_step HB13.out HB14.out))
      clear HSG
      have HSG := n0_
      clear n0_
      have n0_ := Aside0.mk (HFG.out.below (below_step HB13.out HB14.out))
      clear HFG HB13 HB14
      have HFG := n0_
      clear n0_
      go_ret
      exact ⟨rfl, HS.out.below⟩
     ·subst hcb
      go_upto_region 20 with (first | (go_at_call 20; (with_reducible refine (HAL.out _).mono ?_); rintro e w13 ⟨gt, gf, rfl, hu, hb⟩; have HU := Aside0.mk hu; have HB13 := Aside0.mk hb; clear hu hb; unfold unV) | (go_at_call 19; (with_reducible refine (HGO.out _ _ _ HU.out HB13.out).mono ?_); rintro e w14 ⟨rfl, hb⟩; have HB14 := Aside0.mk hb; clear hb))
      clear HAL HGO x0 x1 x2 x3 x4 HU
      have n0_ := Aside0.mk (HS.out.step (below_step HB13.out HB14.out))
      clear HS
      have HS := n0_
      clear n0_
      have n0_ := Aside0.mk (HSG.out.step (below_step HB13.out HB14.out))
      clear HSG
      have HSG := n0_
      clear n0_
      have n0_ := Aside0.mk (HFG.out.below (below_step HB13.out HB14.out))
      clear HFG HB13 HB14
      have HFG := n0_
      clear n0_
      have HFF := Aside0.mk (HF.out.bare.below HS.out.below)
      have HALF := Aside0.mk (fun W => alone_calls (nm := mainS) (A1 := none) (c1 := 0) (l1 := []) (A2 := A2) (c2 := c2) (l2 := l2) (A3 := A3) (c3 := c3) (l3 := l3) (A4 := A4) (c4 := c4) (code := code) W)
      simp only [List.length_nil, AlPost, unV, mainS] at HALF
      have HALG := Aside0.mk (fun W => alone_calls (nm := mainS) (A1 := B1) (c1 := d1) (l1 := []) (A2 := B2) (c2 := d2) (l2 := k2) (A3 := B3) (c3 := d3) (l3 := k3) (A4 := B4) (c4 := d4) (code := code2) W)
      simp only [List.length_nil, AlPost, unV] at HALG
      have h8 : ∀ n : Nat, n < code.length -> (rd_T44 code n).f8.length <= 40 := fun n hn => by
       have h := HINS.out n hn
       have h2 := nodup_len l2.length _ h.nd h.r8
       have := HK40.out
       omega
      have HSF := Aside0.mk (fun W gt gf (hb : Below w14.heap.size w14 W) (hu : UnSt W gt gf #[.string mainS, .slice none 0 0, .slice A2 l2.length c2, .slice A3 l3.length c3, .slice A4 code.length c4]) => si_of (w0 := W) (gt := gt) (gf := gf) (f := ⟨mainS, none, A2, A3, A4, 0, c2, c3, c4, l2, l3, code⟩) hu (HFF.out.below hb) (by have := HK40.out; show l2.length <= 80; omega) HFT.out.2.2.1 HFT.out.1 HGDF.out h8 HF4.out HA.out)
      have HSG2 := Aside0.mk (fun W gt gf (hb : Below w14.heap.size w14 W) (hu : UnSt W gt gf #[.string mainS, .slice B1 0 d1, .slice B2 k2.length d2, .slice B3 k3.length d3, .slice B4 code2.length d4]) => si_ren (W := W) (gt := gt) (gf := gf) (g := ⟨mainS, B1, B2, B3, B4, d1, d2, d3, d4, k2, k3, code2⟩) hu (HFG.out.below hb) HE6.out (by have := HK40.out; show k2.length <= 80; rw [HE4.out, List.length_replicate]; omega) (by show k3.length <= 10; rw [HE5.out]; exact HFT.out.2.2.1) HFT.out.1 HGB.out h8 HF4.out HA.out)
      obtain ⟨R, hR⟩ : ∃ R, runP l2.length l3 code = R := ⟨_, rfl⟩
      have hR2 : runP k2.length k3 code2 = R := by
       obtain ⟨W, gt, gf, hu, hb⟩ := un_any w14 #[.string mainS, .slice none 0 0, .slice A2 l2.length c2, .slice A3 l3.length c3, .slice A4 code.length c4]
       rw [HE4.out, HE5.out, HE6.out, List.length_replicate]
       exact (run_sim (HSF.out W gt gf hb hu) HR.out).trans hR
      have HRF := Aside0.mk (fun W gt gf gi (hb : Below w14.heap.size w14 W) (hu : UnSt W gt gf #[.string mainS, .slice none 0 0, .slice A2 l2.length c2, .slice A3 l3.length c3, .slice A4 code.length c4]) (hi : W.heap[gi]? = some (.cells #[.int .u8 5, .int .u8 6] 5 (0, 0))) => run_calls W gt gf gi _ (HSF.out W gt gf hb hu) rfl HGDF.out (c56 hi))
      have HRG := Aside0.mk (fun W gt gf gi (hb : Below w14.heap.size w14 W) (hu : UnSt W gt gf #[.string mainS, .slice B1 0 d1, .slice B2 k2.length d2, .slice B3 k3.length d3, .slice B4 code2.length d4]) (hi : W.heap[gi]? = some (.cells #[.int .u8 5, .int .u8 6] 5 (0, 0))) => run_calls W gt gf gi _ (HSG2.out W gt gf hb hu) rfl HGB.out (c56 hi))
      simp only [hR, hR2, mainS] at HRF
      simp only [hR, hR2] at HRG
      have hfl := Aside0.mk (show w14.heap[w.heap.size]? = some (.cells #[.string ⟨#[109, 97, 105, 110]⟩, .slice none 0 0, .slice A2 l2.length c2, .slice A3 l3.length c3, .slice A4 code.length c4] 25 (0, 0)) from HS.out.hf)
      have hgl := Aside0.mk HSG.out.hf
      clear h8 hR hR2 HSF HSG2 HFF HFG HE4 HE5 HE6 HR HGB HGDF HINS HFT HA HF4 HK40 HSG
      have hS : Below w14.heap.size w14 w14.drew := below_drew (Below.refl _ _)
      refine sh_start (fun w9 => Below w14.heap.size w14 w9) (fun k => decide (k < 9)) (by kernel_rfl) ?_
      have hS0 := hS
      refine SH.take 0 (v := ?_) rfl (by kernel_rfl) (fun _ _ _ h => h) hS0 (by rfl) ?_ ?_
      rotate_left
      ·intro w9 hS9
       have h0 := blk_below hfl.out hS9
       have x0 := (blk_cell h0 0).trans (show _ = some (Value.string ⟨#[109, 97, 105, 110]⟩) from rfl)
       have x1 := (blk_cell h0 1).trans (show _ = some (Value.slice none 0 0) from rfl)
       have x2 := (blk_cell h0 2).trans (show _ = some (Value.slice A2 l2.length c2) from rfl)
       have x3 := (blk_cell h0 3).trans (show _ = some (Value.slice A3 l3.length c3) from rfl)
       have x4 := (blk_cell h0 4).trans (show _ = some (Value.slice A4 code.length c4) from rfl)
       go_simp <;> (with_reducible rfl)
      simp only [List.getElem_toArray, List.getElem_cons_succ, List.getElem_cons_zero, Act.put, List.setIfInBounds_toArray, List.set_cons_zero, List.set_cons_succ]
      refine SH.take 4 (v := ?_) rfl (by kernel_rfl) (fun _ _ _ h => h) hS0 (by rfl) ?_ ?_
      rotate_left
      ·intro w9 hS9
       have h0 := blk_below hgl.out hS9
       have x0 := (blk_cell h0 0).trans (show _ = some (Value.string mainS) from rfl)
       have x1 := (blk_cell h0 1).trans (show _ = some (Value.slice B1 0 d1) from rfl)
       have x2 := (blk_cell h0 2).trans (show _ = some (Value.slice B2 k2.length d2) from rfl)
       have x3 := (blk_cell h0 3).trans (show _ = some (Value.slice B3 k3.length d3) from rfl)
       have x4 := (blk_cell h0 4).trans (show _ = some (Value.slice B4 code2.length d4) from rfl)
       go_simp <;> (with_reducible rfl)
      simp only [List.getElem_toArray, List.getElem_cons_succ, List.getElem_cons_zero, Act.put, List.setIfInBounds_toArray, List.set_cons_zero, List.set_cons_succ]
      clear hS0 hfl hgl
      generalize w14.drew = y0 at hS ⊢
      refine SH.three 1 2 6 (by kernel_rfl) rfl rfl rfl ?_ ?_ ?_
      ·intro K hK
       go_simp
       refine (HALF.out _).mono ?_
       rintro e y1 ⟨gt1, gf1, rfl, u1, hb⟩
       replace hS := below_step hS hb
       refine hK _ _ (fun _ => hS) ?_
       clear hK K
       clear hb
       refine SH.two 2 6 (by kernel_rfl) rfl rfl ?_ ?_
       ·intro K hK
        go_simp
        have hb : Below y1.heap.size y1 (y1.alloc (.cells #[.int .u8 5, .int .u8 6] 5)) := (Below.refl _ _).alloc (Nat.le_refl _) _
        have i2 := heap_alloc_new y1 (.cells #[.int .u8 5, .int .u8 6] 5)
        replace hS := below_step hS hb
        refine hK _ _ (fun _ => hS) ?_
        clear hK K
        generalize y1.alloc (.cells #[.int .u8 5, .int .u8 6] 5) = y2 at hb hS i2 ⊢
        generalize y1.heap.size = g2 at i2 ⊢
        replace u1 := u1.step hb
        clear hb
        refine SH.two 3 6 (by kernel_rfl) rfl rfl ?_ ?_
        ·intro K hK
         go_simp
         refine (HRF.out _ gt1 gf1 g2 hS u1 i2).mono ?_
         rintro e y3 ⟨A3r, c3r, rfl, r3, _, hb⟩
         replace hS := below_step hS hb
         refine hK _ _ (fun _ => hS) ?_
         clear hK K
         replace u1 := u1.step hb
         replace i2 := blk_below i2 hb
         clear hb
         refine SH.two 5 6 (by kernel_rfl) rfl rfl ?_ ?_
         ·intro K hK
          go_simp
          refine (HALG.out _).mono ?_
          rintro e y4 ⟨gt5, gf5, rfl, u5, hb⟩
          replace hS := below_step hS hb
          refine hK _ _ (fun _ => hS) ?_
          clear hK K
          replace r3 := Kd.C_below r3 hb
          clear hb
          refine SH.act 6 rfl (by kernel_rfl) ?_
          intro K hK
          go_simp
          have hb : Below y4.heap.size y4 (y4.alloc (.cells #[.int .u8 5, .int .u8 6] 5)) := (Below.refl _ _).alloc (Nat.le_refl _) _
          have i6 := heap_alloc_new y4 (.cells #[.int .u8 5, .int .u8 6] 5)
          replace hS := below_step hS hb
          refine hK _ _ (fun _ => hS) ?_
          clear hK K
          generalize y4.alloc (.cells #[.int .u8 5, .int .u8 6] 5) = y5 at hb hS i6 ⊢
          generalize y4.heap.size = g6 at i6 ⊢
          replace u5 := u5.step hb
          replace r3 := Kd.C_below r3 hb
          clear hb
          refine SH.act 7 rfl (by kernel_rfl) ?_
          intro K hK
          go_simp
          refine (HRG.out _ gt5 gf5 g6 hS u5 i6).mono ?_
          rintro e y6 ⟨A7r, c7r, rfl, r7, _, hb⟩
          replace hS := below_step hS hb
          refine hK _ _ (fun _ => hS) ?_
          clear hK K
          replace i6 := blk_below i6 hb
          replace u5 := u5.step hb
          replace r3 := Kd.C_below r3 hb
          clear hb
          refine SH.act 8 rfl (by kernel_rfl) ?_
          intro K hK
          go_simp
          refine (same_calls R A3r A7r c3r c7r _ r3 r7).mono ?_
          rintro e y7 ⟨rfl, hb⟩
          replace hS := below_step hS hb
          refine hK _ _ (fun _ => hS) ?_
          clear hK K
          replace r3 := Kd.C_below r3 hb
          replace r7 := Kd.C_below r7 hb
          clear hb
          refine SH.pure 9 (v := ?_) rfl (by kernel_rfl) rfl (fun _ _ _ h => h) (by rfl) ?_ ?_
          rotate_left
          ·intro w9
           go_simp <;> (with_reducible rfl)
          simp only [List.getElem_toArray, List.getElem_cons_succ, List.getElem_cons_zero, Act.put, List.setIfInBounds_toArray, List.set_cons_zero, List.set_cons_succ]
          refine SH.done (by kernel_rfl) ?_
          go_wp2
          go_ret
          exact ⟨rfl, below_step HS.out.below hS⟩
         ·intro K hK
          go_simp
          have hb : Below y3.heap.size y3 (y3.alloc (.cells #[.int .u8 5, .int .u8 6] 5)) := (Below.refl _ _).alloc (Nat.le_refl _) _
          have i6 := heap_alloc_new y3 (.cells #[.int .u8 5, .int .u8 6] 5)
          replace hS := below_step hS hb
          refine hK _ _ (fun _ => hS) ?_
          clear hK K
          generalize y3.alloc (.cells #[.int .u8 5, .int .u8 6] 5) = y8 at hb hS i6 ⊢
          generalize y3.heap.size = g6 at i6 ⊢
          replace r3 := Kd.C_below r3 hb
          clear hb
          refine SH.act 5 rfl (by kernel_rfl) ?_
          intro K hK
          go_simp
          refine (HALG.out _).mono ?_
          rintro e y9 ⟨gt5, gf5, rfl, u5, hb⟩
          replace hS := below_step hS hb
          refine hK _ _ (fun _ => hS) ?_
          clear hK K
          replace i6 := blk_below i6 hb
          replace r3 := Kd.C_below r3 hb
          clear hb
          refine SH.act 7 rfl (by kernel_rfl) ?_
          intro K hK
          go_simp
          refine (HRG.out _ gt5 gf5 g6 hS u5 i6).mono ?_
          rintro e y10 ⟨A7r, c7r, rfl, r7, _, hb⟩
          replace hS := below_step hS hb
          refine hK _ _ (fun _ => hS) ?_
          clear hK K
          replace i6 := blk_below i6 hb
          replace u5 := u5.step hb
          replace r3 := Kd.C_below r3 hb
          clear hb
          refine SH.act 8 rfl (by kernel_rfl) ?_
          intro K hK
          go_simp
          refine (same_calls R A3r A7r c3r c7r _ r3 r7).mono ?_
          rintro e y11 ⟨rfl, hb⟩
          replace hS := below_step hS hb
          refine hK _ _ (fun _ => hS) ?_
          clear hK K
          replace r3 := Kd.C_below r3 hb
          replace r7 := Kd.C_below r7 hb
          clear hb
          refine SH.pure 9 (v := ?_) rfl (by kernel_rfl) rfl (fun _ _ _ h => h) (by rfl) ?_ ?_
          rotate_left
          ·intro w9
           go_simp <;> (with_reducible rfl)
          simp only [List.getElem_toArray, List.getElem_cons_succ, List.getElem_cons_zero, Act.put, List.setIfInBounds_toArray, List.set_cons_zero, List.set_cons_succ]
          refine SH.done (by kernel_rfl) ?_
          go_wp2
          go_ret
          exact ⟨rfl, below_step HS.out.below hS⟩
        ·intro K hK
         go_simp
         have hb : Below y2.heap.size y2 (y2.alloc (.cells #[.int .u8 5, .int .u8 6] 5)) := (Below.refl _ _).alloc (Nat.le_refl _) _
         have i6 := heap_alloc_new y2 (.cells #[.int .u8 5, .int .u8 6] 5)
         replace hS := below_step hS hb
         refine hK _ _ (fun _ => hS) ?_
         clear hK K
         generalize y2.alloc (.cells #[.int .u8 5, .int .u8 6] 5) = y12 at hb hS i6 ⊢
         generalize y2.heap.size = g6 at i6 ⊢
         replace u1 := u1.step hb
         replace i2 := blk_below i2 hb
         clear hb
         refine SH.act 3 rfl (by kernel_rfl) ?_
         intro K hK
         go_simp
         refine (HRF.out _ gt1 gf1 g2 hS u1 i2).mono ?_
         rintro e y13 ⟨A3r, c3r, rfl, r3, _, hb⟩
         replace hS := below_step hS hb
         refine hK _ _ (fun _ => hS) ?_
         clear hK K
         replace u1 := u1.step hb
         replace i2 := blk_below i2 hb
         replace i6 := blk_below i6 hb
         clear hb
         refine SH.act 5 rfl (by kernel_rfl) ?_
         intro K hK
         go_simp
         refine (HALG.out _).mono ?_
         rintro e y14 ⟨gt5, gf5, rfl, u5, hb⟩
         replace hS := below_step hS hb
         refine hK _ _ (fun _ => hS) ?_
         clear hK K
         replace i6 := blk_below i6 hb
         replace r3 := Kd.C_below r3 hb
         clear hb
         refine SH.act 7 rfl (by kernel_rfl) ?_
         intro K hK
         go_simp
         refine (HRG.out _ gt5 gf5 g6 hS u5 i6).mono ?_
         rintro e y15 ⟨A7r, c7r, rfl, r7, _, hb⟩
         replace hS := below_step hS hb
         refine hK _ _ (fun _ => hS) ?_
         clear hK K
         replace i6 := blk_below i6 hb
         replace u5 := u5.step hb
         replace r3 := Kd.C_below r3 hb
         clear hb
         refine SH.act 8 rfl (by kernel_rfl) ?_
         intro K hK
         go_simp
         refine (same_calls R A3r A7r c3r c7r _ r3 r7).mono ?_
         rintro e y16 ⟨rfl, hb⟩
         replace hS := below_step hS hb
         refine hK _ _ (fun _ => hS) ?_
         clear hK K
         replace r3 := Kd.C_below r3 hb
         replace r7 := Kd.C_below r7 hb
         clear hb
         refine SH.pure 9 (v := ?_) rfl (by kernel_rfl) rfl (fun _ _ _ h => h) (by rfl) ?_ ?_
         rotate_left
         ·intro w9
          go_simp <;> (with_reducible rfl)
         simp only [List.getElem_toArray, List.getElem_cons_succ, List.getElem_cons_zero, Act.put, List.setIfInBounds_toArray, List.set_cons_zero, List.set_cons_succ]
         refine SH.done (by kernel_rfl) ?_
         go_wp2
         go_ret
         exact ⟨rfl, below_step HS.out.below hS⟩
       ·intro K hK
        go_simp
        have hb : Below y1.heap.size y1 (y1.alloc (.cells #[.int .u8 5, .int .u8 6] 5)) := (Below.refl _ _).alloc (Nat.le_refl _) _
        have i6 := heap_alloc_new y1 (.cells #[.int .u8 5, .int .u8 6] 5)
        replace hS := below_step hS hb
        refine hK _ _ (fun _ => hS) ?_
        clear hK K
        generalize y1.alloc (.cells #[.int .u8 5, .int .u8 6] 5) = y17 at hb hS i6 ⊢
        generalize y1.heap.size = g6 at i6 ⊢
        replace u1 := u1.step hb
        clear hb
        refine SH.act 2 rfl (by kernel_rfl) ?_
        intro K hK
        go_simp
        have hb : Below y17.heap.size y17 (y17.alloc (.cells #[.int .u8 5, .int .u8 6] 5)) := (Below.refl _ _).alloc (Nat.le_refl _) _
        have i2 := heap_alloc_new y17 (.cells #[.int .u8 5, .int .u8 6] 5)
        replace hS := below_step hS hb
        refine hK _ _ (fun _ => hS) ?_
        clear hK K
        generalize y17.alloc (.cells #[.int .u8 5, .int .u8 6] 5) = y18 at hb hS i2 ⊢
        generalize y17.heap.size = g2 at i2 ⊢
        replace u1 := u1.step hb
        replace i6 := blk_below i6 hb
        clear hb
        refine SH.act 3 rfl (by kernel_rfl) ?_
        intro K hK
        go_simp
        refine (HRF.out _ gt1 gf1 g2 hS u1 i2).mono ?_
        rintro e y19 ⟨A3r, c3r, rfl, r3, _, hb⟩
        replace hS := below_step hS hb
        refine hK _ _ (fun _ => hS) ?_
        clear hK K
        replace u1 := u1.step hb
        replace i2 := blk_below i2 hb
        replace i6 := blk_below i6 hb
        clear hb
        refine SH.act 5 rfl (by kernel_rfl) ?_
        intro K hK
        go_simp
        refine (HALG.out _).mono ?_
        rintro e y20 ⟨gt5, gf5, rfl, u5, hb⟩
        replace hS := below_step hS hb
        refine hK _ _ (fun _ => hS) ?_
        clear hK K
        replace i6 := blk_below i6 hb
        replace r3 := Kd.C_below r3 hb
        clear hb
        refine SH.act 7 rfl (by kernel_rfl) ?_
        intro K hK
        go_simp
        refine (HRG.out _ gt5 gf5 g6 hS u5 i6).mono ?_
        rintro e y21 ⟨A7r, c7r, rfl, r7, _, hb⟩
        replace hS := below_step hS hb
        refine hK _ _ (fun _ => hS) ?_
        clear hK K
        replace i6 := blk_below i6 hb
        replace u5 := u5.step hb
        replace r3 := Kd.C_below r3 hb
        clear hb
        refine SH.act 8 rfl (by kernel_rfl) ?_
        intro K hK
        go_simp
        refine (same_calls R A3r A7r c3r c7r _ r3 r7).mono ?_
        rintro e y22 ⟨rfl, hb⟩
        replace hS := below_step hS hb
        refine hK _ _ (fun _ => hS) ?_
        clear hK K
        replace r3 := Kd.C_below r3 hb
        replace r7 := Kd.C_below r7 hb
        clear hb
        refine SH.pure 9 (v := ?_) rfl (by kernel_rfl) rfl (fun _ _ _ h => h) (by rfl) ?_ ?_
        rotate_left
        ·intro w9
         go_simp <;> (with_reducible rfl)
        simp only [List.getElem_toArray, List.getElem_cons_succ, List.getElem_cons_zero, Act.put, List.setIfInBounds_toArray, List.set_cons_zero, List.set_cons_succ]
        refine SH.done (by kernel_rfl) ?_
        go_wp2
        go_ret
        exact ⟨rfl, below_step HS.out.below hS⟩
      ·intro K hK
       go_simp
       have hb : Below y0.heap.size y0 (y0.alloc (.cells #[.int .u8 5, .int .u8 6] 5)) := (Below.refl _ _).alloc (Nat.le_refl _) _
       have i2 := heap_alloc_new y0 (.cells #[.int .u8 5, .int .u8 6] 5)
       replace hS := below_step hS hb
       refine hK _ _ (fun _ => hS) ?_
       clear hK K
       generalize y0.alloc (.cells #[.int .u8 5, .int .u8 6] 5) = y23 at hb hS i2 ⊢
       generalize y0.heap.size = g2 at i2 ⊢
       clear hb
       refine SH.two 1 6 (by kernel_rfl) rfl rfl ?_ ?_
       ·intro K hK
        go_simp
        refine (HALF.out _).mono ?_
        rintro e y24 ⟨gt1, gf1, rfl, u1, hb⟩
        replace hS := below_step hS hb
        refine hK _ _ (fun _ => hS) ?_
        clear hK K
        replace i2 := blk_below i2 hb
        clear hb
        refine SH.two 3 6 (by kernel_rfl) rfl rfl ?_ ?_
        ·intro K hK
         go_simp
         refine (HRF.out _ gt1 gf1 g2 hS u1 i2).mono ?_
         rintro e y25 ⟨A3r, c3r, rfl, r3, _, hb⟩
         replace hS := below_step hS hb
         refine hK _ _ (fun _ => hS) ?_
         clear hK K
         replace u1 := u1.step hb
         replace i2 := blk_below i2 hb
         clear hb
         refine SH.two 5 6 (by kernel_rfl) rfl rfl ?_ ?_
         ·intro K hK
          go_simp
          refine (HALG.out _).mono ?_
          rintro e y26 ⟨gt5, gf5, rfl, u5, hb⟩
          replace hS := below_step hS hb
          refine hK _ _ (fun _ => hS) ?_
          clear hK K
          replace r3 := Kd.C_below r3 hb
          clear hb
          refine SH.act 6 rfl (by kernel_rfl) ?_
          intro K hK
          go_simp
          have hb : Below y26.heap.size y26 (y26.alloc (.cells #[.int .u8 5, .int .u8 6] 5)) := (Below.refl _ _).alloc (Nat.le_refl _) _
          have i6 := heap_alloc_new y26 (.cells #[.int .u8 5, .int .u8 6] 5)
          replace hS := below_step hS hb
          refine hK _ _ (fun _ => hS) ?_
          clear hK K
          generalize y26.alloc (.cells #[.int .u8 5, .int .u8 6] 5) = y27 at hb hS i6 ⊢
          generalize y26.heap.size = g6 at i6 ⊢
          replace u5 := u5.step hb
          replace r3 := Kd.C_below r3 hb
          clear hb
          refine SH.act 7 rfl (by kernel_rfl) ?_
          intro K hK
          go_simp
          refine (HRG.out _ gt5 gf5 g6 hS u5 i6).mono ?_
          rintro e y28 ⟨A7r, c7r, rfl, r7, _, hb⟩
          replace hS := below_step hS hb
          refine hK _ _ (fun _ => hS) ?_
          clear hK K
          replace i6 := blk_below i6 hb
          replace u5 := u5.step hb
          replace r3 := Kd.C_below r3 hb
          clear hb
          refine SH.act 8 rfl (by kernel_rfl) ?_
          intro K hK
          go_simp
          refine (same_calls R A3r A7r c3r c7r _ r3 r7).mono ?_
          rintro e y29 ⟨rfl, hb⟩
          replace hS := below_step hS hb
          refine hK _ _ (fun _ => hS) ?_
          clear hK K
          replace r3 := Kd.C_below r3 hb
          replace r7 := Kd.C_below r7 hb
          clear hb
          refine SH.pure 9 (v := ?_) rfl (by kernel_rfl) rfl (fun _ _ _ h => h) (by rfl) ?_ ?_
          rotate_left
          ·intro w9
           go_simp <;> (with_reducible rfl)
          simp only [List.getElem_toArray, List.getElem_cons_succ, List.getElem_cons_zero, Act.put, List.setIfInBounds_toArray, List.set_cons_zero, List.set_cons_succ]
          refine SH.done (by kernel_rfl) ?_
          go_wp2
          go_ret
          exact ⟨rfl, below_step HS.out.below hS⟩
         ·intro K hK
          go_simp
          have hb : Below y25.heap.size y25 (y25.alloc (.cells #[.int .u8 5, .int .u8 6] 5)) := (Below.refl _ _).alloc (Nat.le_refl _) _
          have i6 := heap_alloc_new y25 (.cells #[.int .u8 5, .int .u8 6] 5)
          replace hS := below_step hS hb
          refine hK _ _ (fun _ => hS) ?_
          clear hK K
          generalize y25.alloc (.cells #[.int .u8 5, .int .u8 6] 5) = y30 at hb hS i6 ⊢
          generalize y25.heap.size = g6 at i6 ⊢
          replace r3 := Kd.C_below r3 hb
          clear hb
          refine SH.act 5 rfl (by kernel_rfl) ?_
          intro K hK
          go_simp
          refine (HALG.out _).mono ?_
          rintro e y31 ⟨gt5, gf5, rfl, u5, hb⟩
          replace hS := below_step hS hb
          refine hK _ _ (fun _ => hS) ?_
          clear hK K
          replace i6 := blk_below i6 hb
          replace r3 := Kd.C_below r3 hb
          clear hb
          refine SH.act 7 rfl (by kernel_rfl) ?_
          intro K hK
          go_simp
          refine (HRG.out _ gt5 gf5 g6 hS u5 i6).mono ?_
          rintro e y32 ⟨A7r, c7r, rfl, r7, _, hb⟩
          replace hS := below_step hS hb
          refine hK _ _ (fun _ => hS) ?_
          clear hK K
          replace i6 := blk_below i6 hb
          replace u5 := u5.step hb
          replace r3 := Kd.C_below r3 hb
          clear hb
          refine SH.act 8 rfl (by kernel_rfl) ?_
          intro K hK
          go_simp
          refine (same_calls R A3r A7r c3r c7r _ r3 r7).mono ?_
          rintro e y33 ⟨rfl, hb⟩
          replace hS := below_step hS hb
          refine hK _ _ (fun _ => hS) ?_
          clear hK K
          replace r3 := Kd.C_below r3 hb
          replace r7 := Kd.C_below r7 hb
          clear hb
          refine SH.pure 9 (v := ?_) rfl (by kernel_rfl) rfl (fun _ _ _ h => h) (by rfl) ?_ ?_
          rotate_left
          ·intro w9
           go_simp <;> (with_reducible rfl)
          simp only [List.getElem_toArray, List.getElem_cons_succ, List.getElem_cons_zero, Act.put, List.setIfInBounds_toArray, List.set_cons_zero, List.set_cons_succ]
          refine SH.done (by kernel_rfl) ?_
          go_wp2
          go_ret
          exact ⟨rfl, below_step HS.out.below hS⟩
        ·intro K hK
         go_simp
         have hb : Below y24.heap.size y24 (y24.alloc (.cells #[.int .u8 5, .int .u8 6] 5)) := (Below.refl _ _).alloc (Nat.le_refl _) _
         have i6 := heap_alloc_new y24 (.cells #[.int .u8 5, .int .u8 6] 5)
         replace hS := below_step hS hb
         refine hK _ _ (fun _ => hS) ?_
         clear hK K
         generalize y24.alloc (.cells #[.int .u8 5, .int .u8 6] 5) = y34 at hb hS i6 ⊢
         generalize y24.heap.size = g6 at i6 ⊢
         replace u1 := u1.step hb
         replace i2 := blk_below i2 hb
         clear hb
         refine SH.act 3 rfl (by kernel_rfl) ?_
         intro K hK
         go_simp
         refine (HRF.out _ gt1 gf1 g2 hS u1 i2).mono ?_
         rintro e y35 ⟨A3r, c3r, rfl, r3, _, hb⟩
         replace hS := below_step hS hb
         refine hK _ _ (fun _ => hS) ?_
         clear hK K
         replace u1 := u1.step hb
         replace i2 := blk_below i2 hb
         replace i6 := blk_below i6 hb
         clear hb
         refine SH.act 5 rfl (by kernel_rfl) ?_
         intro K hK
         go_simp
         refine (HALG.out _).mono ?_
         rintro e y36 ⟨gt5, gf5, rfl, u5, hb⟩
         replace hS := below_step hS hb
         refine hK _ _ (fun _ => hS) ?_
         clear hK K
         replace i6 := blk_below i6 hb
         replace r3 := Kd.C_below r3 hb
         clear hb
         refine SH.act 7 rfl (by kernel_rfl) ?_
         intro K hK
         go_simp
         refine (HRG.out _ gt5 gf5 g6 hS u5 i6).mono ?_
         rintro e y37 ⟨A7r, c7r, rfl, r7, _, hb⟩
         replace hS := below_step hS hb
         refine hK _ _ (fun _ => hS) ?_
         clear hK K
         replace i6 := blk_below i6 hb
         replace u5 := u5.step hb
         replace r3 := Kd.C_below r3 hb
         clear hb
         refine SH.act 8 rfl (by kernel_rfl) ?_
         intro K hK
         go_simp
         refine (same_calls R A3r A7r c3r c7r _ r3 r7).mono ?_
         rintro e y38 ⟨rfl, hb⟩
         replace hS := below_step hS hb
         refine hK _ _ (fun _ => hS) ?_
         clear hK K
         replace r3 := Kd.C_below r3 hb
         replace r7 := Kd.C_below r7 hb
         clear hb
         refine SH.pure 9 (v := ?_) rfl (by kernel_rfl) rfl (fun _ _ _ h => h) (by rfl) ?_ ?_
         rotate_left
         ·intro w9
          go_simp <;> (with_reducible rfl)
         simp only [List.getElem_toArray, List.getElem_cons_succ, List.getElem_cons_zero, Act.put, List.setIfInBounds_toArray, List.set_cons_zero, List.set_cons_succ]
         refine SH.done (by kernel_rfl) ?_
         go_wp2
         go_ret
         exact ⟨rfl, below_step HS.out.below hS⟩
       ·intro K hK
        go_simp
        have hb : Below y23.heap.size y23 (y23.alloc (.cells #[.int .u8 5, .int .u8 6] 5)) := (Below.refl _ _).alloc (Nat.le_refl _) _
        have i6 := heap_alloc_new y23 (.cells #[.int .u8 5, .int .u8 6] 5)
        replace hS := below_step hS hb
        refine hK _ _ (fun _ => hS) ?_
        clear hK K
        generalize y23.alloc (.cells #[.int .u8 5, .int .u8 6] 5) = y39 at hb hS i6 ⊢
        generalize y23.heap.size = g6 at i6 ⊢
        replace i2 := blk_below i2 hb
        clear hb
        refine SH.act 1 rfl (by kernel_rfl) ?_
        intro K hK
        go_simp
        refine (HALF.out _).mono ?_
        rintro e y40 ⟨gt1, gf1, rfl, u1, hb⟩
        replace hS := below_step hS hb
        refine hK _ _ (fun _ => hS) ?_
        clear hK K
        replace i2 := blk_below i2 hb
        replace i6 := blk_below i6 hb
        clear hb
        refine SH.act 3 rfl (by kernel_rfl) ?_
        intro K hK
        go_simp
        refine (HRF.out _ gt1 gf1 g2 hS u1 i2).mono ?_
        rintro e y41 ⟨A3r, c3r, rfl, r3, _, hb⟩
        replace hS := below_step hS hb
        refine hK _ _ (fun _ => hS) ?_
        clear hK K
        replace u1 := u1.step hb
        replace i2 := blk_below i2 hb
        replace i6 := blk_below i6 hb
        clear hb
        refine SH.act 5 rfl (by kernel_rfl) ?_
        intro K hK
        go_simp
        refine (HALG.out _).mono ?_
        rintro e y42 ⟨gt5, gf5, rfl, u5, hb⟩
        replace hS := below_step hS hb
        refine hK _ _ (fun _ => hS) ?_
        clear hK K
        replace i6 := blk_below i6 hb
        replace r3 := Kd.C_below r3 hb
        clear hb
        refine SH.act 7 rfl (by kernel_rfl) ?_
        intro K hK
        go_simp
        refine (HRG.out _ gt5 gf5 g6 hS u5 i6).mono ?_
        rintro e y43 ⟨A7r, c7r, rfl, r7, _, hb⟩
        replace hS := below_step hS hb
        refine hK _ _ (fun _ => hS) ?_
        clear hK K
        replace i6 := blk_below i6 hb
        replace u5 := u5.step hb
        replace r3 := Kd.C_below r3 hb
        clear hb
        refine SH.act 8 rfl (by kernel_rfl) ?_
        intro K hK
        go_simp
        refine (same_calls R A3r A7r c3r c7r _ r3 r7).mono ?_
        rintro e y44 ⟨rfl, hb⟩
        replace hS := below_step hS hb
        refine hK _ _ (fun _ => hS) ?_
        clear hK K
        replace r3 := Kd.C_below r3 hb
        replace r7 := Kd.C_below r7 hb
        clear hb
        refine SH.pure 9 (v := ?_) rfl (by kernel_rfl) rfl (fun _ _ _ h => h) (by rfl) ?_ ?_
        rotate_left
        ·intro w9
         go_simp <;> (with_reducible rfl)
        simp only [List.getElem_toArray, List.getElem_cons_succ, List.getElem_cons_zero, Act.put, List.setIfInBounds_toArray, List.set_cons_zero, List.set_cons_succ]
        refine SH.done (by kernel_rfl) ?_
        go_wp2
        go_ret
        exact ⟨rfl, below_step HS.out.below hS⟩
      ·intro K hK
       go_simp
       have hb : Below y0.heap.size y0 (y0.alloc (.cells #[.int .u8 5, .int .u8 6] 5)) := (Below.refl _ _).alloc (Nat.le_refl _) _
       have i6 := heap_alloc_new y0 (.cells #[.int .u8 5, .int .u8 6] 5)
       replace hS := below_step hS hb
       refine hK _ _ (fun _ => hS) ?_
       clear hK K
       generalize y0.alloc (.cells #[.int .u8 5, .int .u8 6] 5) = y45 at hb hS i6 ⊢
       generalize y0.heap.size = g6 at i6 ⊢
       clear hb
       refine SH.two 1 2 (by kernel_rfl) rfl rfl ?_ ?_
       ·intro K hK
        go_simp
        refine (HALF.out _).mono ?_
        rintro e y46 ⟨gt1, gf1, rfl, u1, hb⟩
        replace hS := below_step hS hb
        refine hK _ _ (fun _ => hS) ?_
        clear hK K
        replace i6 := blk_below i6 hb
        clear hb
        refine SH.act 2 rfl (by kernel_rfl) ?_
        intro K hK
        go_simp
        have hb : Below y46.heap.size y46 (y46.alloc (.cells #[.int .u8 5, .int .u8 6] 5)) := (Below.refl _ _).alloc (Nat.le_refl _) _
        have i2 := heap_alloc_new y46 (.cells #[.int .u8 5, .int .u8 6] 5)
        replace hS := below_step hS hb
        refine hK _ _ (fun _ => hS) ?_
        clear hK K
        generalize y46.alloc (.cells #[.int .u8 5, .int .u8 6] 5) = y47 at hb hS i2 ⊢
        generalize y46.heap.size = g2 at i2 ⊢
        replace u1 := u1.step hb
        replace i6 := blk_below i6 hb
        clear hb
        refine SH.act 3 rfl (by kernel_rfl) ?_
        intro K hK
        go_simp
        refine (HRF.out _ gt1 gf1 g2 hS u1 i2).mono ?_
        rintro e y48 ⟨A3r, c3r, rfl, r3, _, hb⟩
        replace hS := below_step hS hb
        refine hK _ _ (fun _ => hS) ?_
        clear hK K
        replace u1 := u1.step hb
        replace i2 := blk_below i2 hb
        replace i6 := blk_below i6 hb
        clear hb
        refine SH.act 5 rfl (by kernel_rfl) ?_
        intro K hK
        go_simp
        refine (HALG.out _).mono ?_
        rintro e y49 ⟨gt5, gf5, rfl, u5, hb⟩
        replace hS := below_step hS hb
        refine hK _ _ (fun _ => hS) ?_
        clear hK K
        replace i6 := blk_below i6 hb
        replace r3 := Kd.C_below r3 hb
        clear hb
        refine SH.act 7 rfl (by kernel_rfl) ?_
        intro K hK
        go_simp
        refine (HRG.out _ gt5 gf5 g6 hS u5 i6).mono ?_
        rintro e y50 ⟨A7r, c7r, rfl, r7, _, hb⟩
        replace hS := below_step hS hb
        refine hK _ _ (fun _ => hS) ?_
        clear hK K
        replace i6 := blk_below i6 hb
        replace u5 := u5.step hb
        replace r3 := Kd.C_below r3 hb
        clear hb
        refine SH.act 8 rfl (by kernel_rfl) ?_
        intro K hK
        go_simp
        refine (same_calls R A3r A7r c3r c7r _ r3 r7).mono ?_
        rintro e y51 ⟨rfl, hb⟩
        replace hS := below_step hS hb
        refine hK _ _ (fun _ => hS) ?_
        clear hK K
        replace r3 := Kd.C_below r3 hb
        replace r7 := Kd.C_below r7 hb
        clear hb
        refine SH.pure 9 (v := ?_) rfl (by kernel_rfl) rfl (fun _ _ _ h => h) (by rfl) ?_ ?_
        rotate_left
        ·intro w9
         go_simp <;> (with_reducible rfl)
        simp only [List.getElem_toArray, List.getElem_cons_succ, List.getElem_cons_zero, Act.put, List.setIfInBounds_toArray, List.set_cons_zero, List.set_cons_succ]
        refine SH.done (by kernel_rfl) ?_
        go_wp2
        go_ret
        exact ⟨rfl, below_step HS.out.below hS⟩
       ·intro K hK
        go_simp
        have hb : Below y45.heap.size y45 (y45.alloc (.cells #[.int .u8 5, .int .u8 6] 5)) := (Below.refl _ _).alloc (Nat.le_refl _) _
        have i2 := heap_alloc_new y45 (.cells #[.int .u8 5, .int .u8 6] 5)
        replace hS := below_step hS hb
        refine hK _ _ (fun _ => hS) ?_
        clear hK K
        generalize y45.alloc (.cells #[.int .u8 5, .int .u8 6] 5) = y52 at hb hS i2 ⊢
        generalize y45.heap.size = g2 at i2 ⊢
        replace i6 := blk_below i6 hb
        clear hb
        refine SH.act 1 rfl (by kernel_rfl) ?_
        intro K hK
        go_simp
        refine (HALF.out _).mono ?_
        rintro e y53 ⟨gt1, gf1, rfl, u1, hb⟩
        replace hS := below_step hS hb
        refine hK _ _ (fun _ => hS) ?_
        clear hK K
        replace i2 := blk_below i2 hb
        replace i6 := blk_below i6 hb
        clear hb
        refine SH.act 3 rfl (by kernel_rfl) ?_
        intro K hK
        go_simp
        refine (HRF.out _ gt1 gf1 g2 hS u1 i2).mono ?_
        rintro e y54 ⟨A3r, c3r, rfl, r3, _, hb⟩
        replace hS := below_step hS hb
        refine hK _ _ (fun _ => hS) ?_
        clear hK K
        replace u1 := u1.step hb
        replace i2 := blk_below i2 hb
        replace i6 := blk_below i6 hb
        clear hb
        refine SH.act 5 rfl (by kernel_rfl) ?_
        intro K hK
        go_simp
        refine (HALG.out _).mono ?_
        rintro e y55 ⟨gt5, gf5, rfl, u5, hb⟩
        replace hS := below_step hS hb
        refine hK _ _ (fun _ => hS) ?_
        clear hK K
        replace i6 := blk_below i6 hb
        replace r3 := Kd.C_below r3 hb
        clear hb
        refine SH.act 7 rfl (by kernel_rfl) ?_
        intro K hK
        go_simp
        refine (HRG.out _ gt5 gf5 g6 hS u5 i6).mono ?_
        rintro e y56 ⟨A7r, c7r, rfl, r7, _, hb⟩
        replace hS := below_step hS hb
        refine hK _ _ (fun _ => hS) ?_
        clear hK K
        replace i6 := blk_below i6 hb
        replace u5 := u5.step hb
        replace r3 := Kd.C_below r3 hb
        clear hb
        refine SH.act 8 rfl (by kernel_rfl) ?_
        intro K hK
        go_simp
        refine (same_calls R A3r A7r c3r c7r _ r3 r7).mono ?_
        rintro e y57 ⟨rfl, hb⟩
        replace hS := below_step hS hb
        refine hK _ _ (fun _ => hS) ?_
        clear hK K
        replace r3 := Kd.C_below r3 hb
        replace r7 := Kd.C_below r7 hb
        clear hb
        refine SH.pure 9 (v := ?_) rfl (by kernel_rfl) rfl (fun _ _ _ h => h) (by rfl) ?_ ?_
        rotate_left
        ·intro w9
         go_simp <;> (with_reducible rfl)
        simp only [List.getElem_toArray, List.getElem_cons_succ, List.getElem_cons_zero, Act.put, List.setIfInBounds_toArray, List.set_cons_zero, List.set_cons_succ]
        refine SH.done (by kernel_rfl) ?_
        go_wp2
        go_ret
        exact ⟨rfl, below_step HS.out.below hS⟩
end
end
end Go.Proofs.YtjfleaekljapeaaDoor.K
