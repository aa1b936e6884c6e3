import Derived.Test.YtjfleaekljapeaaDoorXAD
import Derived.Test.YtjfleaekljapeaaDoorXAE
import Derived.Deep.DeepMust
import Derived.Test.YtjfleaekljapeaaDoorProg
import Derived.Below
import Derived.Deep.Draws
import Derived.Deep.AppendLies
import Derived.Maps.AppendAt
import Derived.OwnWalk
import Derived.Laws.BytesArg
import Derived.Laws.MakeOwn
import Derived.Laws.OwnMore
import Derived.Deep.OwnRows
import Derived.Tactics
import Derived.Lib.ConvBytes
import Derived.Laws.Slices
import Derived.WalkKit
import Derived.KernelRfl
import Derived.RowKit3
import Derived.Deep.LoopGhost
import Derived.Deep.QuietTactic
import Derived.BigQuiet
import Derived.WideLaws
import Derived.Deep.DeepCutAuto
import Derived.Deep.CutBlock
import Derived.Deep.RegionHeld3
import Derived.Laws.Rows
import Derived.Lib.AppendStr
import Derived.ArgAppend
import Derived.Laws.IdiomCopy
import Derived.OrdersHeld
import Derived.Laws.BitsLemmas
import Derived.RowKit
import Derived.RegionTactic
import Derived.Deep.RegionWith
import Derived.Lib.Hide
import Derived.Test.YtjfleaekljapeaaDoorXAA
import Derived.Test.YtjfleaekljapeaaDoorXAB
import Derived.Test.YtjfleaekljapeaaDoorXAC
import Derived.Deep.RegionLaw
import Derived.Laws.CopyOwn
import Derived.Shelf.Spec.TrailingZeros
import Derived.Test.YtjfleaekljapeaaDoorXAF
namespace Go.Proofs.YtjfleaekljapeaaDoor.K
open Go.RowKit Go.Proofs.YtjfleaekljapeaaDoorW.PrintWords Go.Proofs.YtjfleaekljapeaaDoorW.PrintLast Go.Proofs.YtjfleaekljapeaaDoorW.PrintMore
attribute [local go_sem] max2_int min2_int max_two min_two max_three min_three max_four min_four   -- for this text's walks alone
set_option linter.unusedVariables false
set_option linter.unusedSimpArgs false
set_option linter.unusedSectionVars false
theorem and_pred_lt (x : Nat) (h : x ≠ 0) : x &&& (x - 1) < x := Nat.lt_of_le_of_lt Nat.and_le_right (by omega)
def lvMem (x : Nat) : List Int := if h : x = 0 then [] else (Lib.ctz 64 x : Int) :: lvMem (x &&& (x - 1))
termination_by x
decreasing_by exact and_pred_lt x h
theorem lvMem_zero : lvMem 0 = [] := by rw [lvMem]; rfl
theorem lvMem_pos (x : Nat) (h : x ≠ 0) : lvMem x = (Lib.ctz 64 x : Int) :: lvMem (x &&& (x - 1)) := by rw [lvMem, dif_neg h]
theorem and_pred_double (y : Nat) (h : y ≠ 0) : (2 * y) &&& (2 * y - 1) = 2 * (y &&& (y - 1)) := by
 apply Nat.eq_of_testBit_eq
 intro i
 cases i with
 | zero => simp [Nat.testBit_zero, Nat.testBit_and]
 | succ i =>
  rw [Nat.testBit_and, Nat.testBit_succ, Nat.testBit_succ, Nat.testBit_succ, Nat.mul_div_cancel_left _ (by omega), Nat.mul_div_cancel_left _ (by omega), Nat.testBit_and, show (2 * y - 1) / 2 = y - 1 by omega]
theorem and_pred_odd (y : Nat) : (2 * y + 1) &&& (2 * y + 1 - 1) = 2 * y := by
 apply Nat.eq_of_testBit_eq
 intro i
 cases i with
 | zero => simp [Nat.testBit_zero, Nat.testBit_and]
 | succ i =>
  rw [Nat.testBit_and, Nat.testBit_succ, Nat.testBit_succ, show (2 * y + 1) / 2 = y by omega, show (2 * y + 1 - 1) / 2 = y by omega, Bool.and_self, Nat.testBit_succ, Nat.mul_div_cancel_left _ (by omega)]
theorem ctzFrom_mono : ∀ (b x : Nat), x ≠ 0 -> x < 2 ^ b -> Lib.ctzFrom (b + 1) x = Lib.ctzFrom b x
 | 0, x, h, hx => by omega
 | b + 1, x, h, hx => by
  rw [Lib.ctzFrom]
  conv => rhs; rw [Lib.ctzFrom]
  split
  ·rfl
  ·rw [ctzFrom_mono b (x / 2) (by omega) (by rw [Nat.pow_succ] at hx; omega)]
theorem ctz_double (y : Nat) (h : y ≠ 0) (hy : 2 * y < 18446744073709551616) : Lib.ctz 64 (2 * y) = Lib.ctz 64 y + 1 := by
 unfold Lib.ctz
 rw [if_neg (by omega), if_neg h]
 conv => lhs; rw [Lib.ctzFrom]
 rw [if_neg (by omega), Nat.mul_div_cancel_left _ (by omega), <- ctzFrom_mono 63 y h (by omega), Nat.add_comm]
theorem ctz_odd (y : Nat) : Lib.ctz 64 (2 * y + 1) = 0 := by
 unfold Lib.ctz
 rw [if_neg (by omega), Lib.ctzFrom, if_pos (by omega)]
theorem lvMem_double (y : Nat) : 2 * y < 18446744073709551616 -> lvMem (2 * y) = (lvMem y).map (· + 1) := by
 induction y using Nat.strongRecOn with
 | _ y ih =>
  intro hy
  by_cases h : y = 0
  ·subst h
   simp [lvMem_zero]
  ·have hlt := and_pred_lt y h
   rw [lvMem_pos (2 * y) (by omega), lvMem_pos y h, and_pred_double y h, ih _ hlt (by omega), ctz_double y h hy]
   simp
theorem lvMem_odd (y : Nat) (h : 2 * y + 1 < 18446744073709551616) : lvMem (2 * y + 1) = 0 :: (lvMem y).map (· + 1) := by
 rw [lvMem_pos _ (by omega), and_pred_odd, ctz_odd, lvMem_double y (by omega)]
 rfl
theorem lvMem_len : ∀ (n x : Nat), n <= 64 -> x < 2 ^ n -> (lvMem x).length <= n
 | 0, x, _, hx => by
  obtain rfl : x = 0 := by omega
  simp [lvMem_zero]
 | n + 1, x, hn, hx => by
  rw [Nat.pow_succ] at hx
  have h64 : 2 ^ n * 2 <= 18446744073709551616 := by
   have : 2 ^ (n + 1) <= 2 ^ 64 := Nat.pow_le_pow_right (by omega) hn
   rw [Nat.pow_succ] at this
   exact this
  have ih := lvMem_len n (x / 2) (by omega) (by omega)
  rcases Nat.mod_two_eq_zero_or_one x with h | h
  ·rw [show x = 2 * (x / 2) by omega, lvMem_double _ (by omega), List.length_map]
   omega
  ·rw [show x = 2 * (x / 2) + 1 by omega, lvMem_odd _ (by omega), List.length_cons, List.length_map]
   omega
theorem lvMem_nonneg (x : Nat) : ∀ a ∈ lvMem x, 0 <= a := by
 induction x using Nat.strongRecOn with
 | _ x ih =>
  intro a ha
  by_cases h : x = 0
  ·subst h
   rw [lvMem_zero] at ha
   cases ha
  ·rw [lvMem_pos x h, List.mem_cons] at ha
   rcases ha with rfl | ha
   ·omega
   ·exact ih _ (and_pred_lt x h) a ha
theorem mem_lvMem : ∀ (n x : Nat), n <= 64 -> x < 2 ^ n -> ∀ r : Nat, ((r : Int) ∈ lvMem x <-> x.testBit r = true)
 | 0, x, _, hx, r => by
  obtain rfl : x = 0 := by omega
  simp [lvMem_zero]
 | n + 1, x, hn, hx, r => by
  rw [Nat.pow_succ] at hx
  have h64 : 2 ^ n * 2 <= 18446744073709551616 := by
   have : 2 ^ (n + 1) <= 2 ^ 64 := Nat.pow_le_pow_right (by omega) hn
   rw [Nat.pow_succ] at this
   exact this
  have ih := mem_lvMem n (x / 2) (by omega) (by omega)
  have hm : ∀ r : Nat, ((r : Int) ∈ (lvMem (x / 2)).map (· + 1)) <-> ∃ s, r = s + 1 /\ (x / 2).testBit s = true := by
   intro r
   rw [List.mem_map]
   constructor
   ·rintro ⟨a, ha, e⟩
    have h0 : 0 <= a := lvMem_nonneg _ a ha
    obtain ⟨s, rfl⟩ := Int.eq_ofNat_of_zero_le h0
    exact ⟨s, by omega, (ih s).1 ha⟩
   ·rintro ⟨s, rfl, hs⟩
    exact ⟨s, (ih s).2 hs, by omega⟩
  rcases Nat.mod_two_eq_zero_or_one x with h | h
  ·conv => lhs; rw [show x = 2 * (x / 2) by omega, lvMem_double _ (by omega)]
   rw [hm]
   cases r with
   | zero => simp [Nat.testBit_zero, h]
   | succ r =>
    rw [Nat.testBit_succ]
    constructor
    ·rintro ⟨s, e, hs⟩
     obtain rfl : r = s := by omega
     exact hs
    ·intro hs
     exact ⟨r, rfl, hs⟩
  ·conv => lhs; rw [show x = 2 * (x / 2) + 1 by omega, lvMem_odd _ (by omega)]
   rw [List.mem_cons, hm]
   cases r with
   | zero => simp [Nat.testBit_zero, h]
   | succ r =>
    rw [Nat.testBit_succ]
    constructor
    ·rintro (e | ⟨s, e, hs⟩)
     ·omega
     ·obtain rfl : r = s := by omega
      exact hs
    ·intro hs
     exact .inr ⟨r, rfl, hs⟩
def MemPost (x : Nat) (w : World) (e : Ending) (w' : World) : Prop := ∃ v : Value, e = .returned v /\ Kd.R (Kd.int .i64) 3 w' w.heap.size (fun _ => True) v (lvMem x) /\ Below w.heap.size w w'
theorem mm_info3 : (Tryd.prog.info? 3).map (fun i => (i.zero, i.size, i.bytes)) = some (some (.int .i64 0), 1, 8) := by kernel_rfl
set_option maxHeartbeats 2000000 in
set_option maxRecDepth 100000 in
theorem mem_calls (A : Option Addr) (c : Nat) (x : Nat) (hx : x < 18446744073709551616) (w : World) (hT : TzTab w) (h1 : 0 < w.heap.size) (hc : (Kd.int .u64).C w A 1 [(x : Int)]) : Calls Tryd.prog 25 #[.slice A 1 c] w (MemPost x w) := by
 obtain ⟨ad, ea, hcell⟩ := Kd.at_int (n := 1) hc 0 (by omega) (by omega)
 subst ea
 have hcell0 : w.cell? ad = some (.int .u64 (x : Int)) := by
  have e : ad.add 0 = ad := by unfold Addr.add; cases ad; simp
  rw [show (0 : Int).toNat = 0 from rfl, e] at hcell
  exact hcell
 have hcell1 : w.cell? (ad.add 0) = some (.int .u64 (x : Int)) := hcell
 have HLEN := Aside0.mk (lvMem_len 64 x (by omega) hx)
 have HX := Aside0.mk hx
 have HT := Aside0.mk hT
 have HC0 := Aside0.mk hcell0
 have HC1 := Aside0.mk hcell1
 have HB := Aside0.mk (Below.refl w.heap.size w)
 clear hx hT hc hcell hcell0 hcell1
 go_enter Tryd.func25, Tryd.ntmps25
 go_wp2
 go_loopg [3, 8] 1 (fun gg v3 v8 w' => ∃ (r : Nat) (u : Value), r <= 1 /\ 1 - r <= gg /\ v8 = .int .i64 r /\ v3 = u /\ Aside0 (Kd.R (Kd.int .i64) 3 w' w.heap.size (fun _ => True) u (if r = 0 then [] else lvMem x)) /\ Aside0 (Below w.heap.size w w'))
 case atStart => exact ⟨0, _, by omega, by omega, rfl, rfl, ⟨Kd.R_nil _ _ _ _ _⟩, HB⟩
 case round =>
  clear HB
  obtain ⟨r, u, hr1, hrg, rfl, rfl, HO, HB⟩ := hrel
  have hr01 : r = 0 ∨ r = 1 := by omega
  clear hr1
  rcases hr01 with rfl | rfl
  ·have HO0 := Aside0.mk (show Kd.R (Kd.int .i64) 3 wr w.heap.size (fun _ => True) u3 [] by have := HO.out; rwa [if_pos rfl] at this)
   clear HO
   have h0 : wr.cell? ad = some (.int .u64 (x : Int)) := pw_cell_below HB.out HC0.out
   have h01 : wr.cell? (ad.add 0) = some (.int .u64 (x : Int)) := pw_cell_below HB.out HC1.out
   go_wp2
   go_loopg [3, 5] x (fun gg v3 v5 w' => ∃ (y : Nat) (acc : List Int) (u : Value), y <= gg /\ v5 = .int .u64 (y : Int) /\ v3 = u /\ Aside0 (y < 18446744073709551616) /\ Aside0 (acc ++ lvMem y = lvMem x) /\ Aside0 (Kd.R (Kd.int .i64) 3 w' w.heap.size (fun _ => True) u acc) /\ Aside0 (Below w.heap.size w w'))
   case atStart => exact ⟨x, [], _, Nat.le_refl _, rfl, rfl, HX, ⟨rfl⟩, HO0, HB⟩
   case round =>
    clear HO0 HB h0 h01
    obtain ⟨y, acc, u, hyg, rfl, rfl, HY, HACC, HO, HB⟩ := hrel
    obtain ⟨Ao, co, eo⟩ := Kd.R_slice HO.out
    subst eo
    by_cases hy : y = 0
    ·subst hy
     have HO2 := Aside0.mk (show Kd.R (Kd.int .i64) 3 wr w.heap.size (fun _ => True) (.slice Ao acc.length co) (if 1 = 0 then [] else lvMem x) by
      rw [if_neg (by decide), <- HACC.out, lvMem_zero, List.append_nil]; exact HO.out)
     go_wp2
     go_roundg 0
     case measure => omega
     case rel => exact ⟨1, _, by omega, by omega, by go_num, rfl, HO2, HB⟩
    ·have hy1 : 1 <= (y : Int) := by omega
     have hyb1 : ((y : Int) != 0) = true := by simp; omega
     have hyb2 : ((y : Int) == 0) = false := by simp; omega
     obtain ⟨cz, hcz⟩ : ∃ k, Lib.ctz 64 y = k := ⟨_, rfl⟩
     have HCZ := Aside0.mk hcz
     have HTZ := Aside0.mk (tz_calls y HY.out)
     have HAL := Aside0.mk (show acc.length <= 64 by have h2 := HLEN.out; rw [<- HACC.out, List.length_append] at h2; omega)
     have hczl : cz <= 64 := by rw [<- hcz]; exact Nat.le_of_lt (Lib.lowest_bit 64 y hy HY.out).2
     have hand : Go.bits .and .u64 (y : Int) ((y : Int) - 1) = ((y &&& (y - 1) : Nat) : Int) := by
      have e : ((y : Int) - 1) = ((y - 1 : Nat) : Int) := by omega
      rw [e]; exact bits_and_u64_nat y (y - 1) HY.out (by have := HY.out; omega)
     have hw1 : IntKind.u64.wrap ((y : Int) - 1) = (y : Int) - 1 := by have := HY.out; rw [IntKind.wrap_u64]; omega
     have hlt := and_pred_lt y hy
     obtain ⟨y2, hy2⟩ : ∃ z, y &&& (y - 1) = z := ⟨_, rfl⟩
     rw [hy2] at hand hlt
     have HY2 := Aside0.mk hy2
     clear hcz hy2
     have h0c : 0 <= (cz : Int) := by omega
     have h1c : (cz : Int) <= 64 := by omega
     go_wp2_with (first | (go_at_call 45; (with_reducible refine (HTZ.out _ (HT.out.below h1 HB.out)).mono ?_); rintro e w19 ⟨rfl, rfl⟩; rw [HCZ.out]) | ((with_reducible refine gate_builtin (b := .append) (xs := #[.tmp 15, .tmp 21]) rfl ?_); at_builtin; refine Kd.R_append (Kd.int .i64) (w0 := w) w.heap.size rfl (.tmp 15) (.tmp 21) 22 3 (.int .i64 0) 8 rfl Tryd.underlying22 mm_info3 rfl (by decide) (by omega) (.slice Ao acc.length co) acc (cz : Int) [.int .i64 cz] (fun _ => True) (fun _ => False) rfl (by first | (go_simp; done) | (go_simp; rfl)) ?aP (fun _ hk => hk.elim) ?aF ?aO ?aB ?aS ?aL ?_; (case aP => rfl); (case aF => exact fun _ _ => trivial); (case aO => exact HO.out); (case aB => exact HB.out); (case aS => exact below_size HB.out); (case aL => have := HAL.out; omega); intro v22 w22 ho hb hg hat; clear HB HO; have HB := Aside0.mk hb; have HO := Aside0.mk ho; clear hb ho hg hat))
     go_roundg y2
     case measure => omega
     case rel => exact ⟨y2, acc ++ [(cz : Int)], _, Nat.le_refl _, rfl, rfl, ⟨by have := HY.out; omega⟩, ⟨by rw [<- HACC.out, lvMem_pos y hy, HCZ.out, HY2.out, List.append_assoc]; rfl⟩, HO, HB⟩
  ·obtain ⟨Ao, co, eo⟩ := Kd.R_slice HO.out
   subst eo
   have HO2 := Aside0.mk (show Kd.R (Kd.int .i64) 3 wr w.heap.size (fun _ => True) _ (lvMem x) by have := HO.out; rwa [if_neg (by decide)] at this)
   go_wp2
   go_ret
   exact ⟨_, rfl, HO2.out, HB.out⟩
def kInts : Kd (List Int) := Kd.slice 3 (Kd.int .i64)
theorem sl_info22 : (Tryd.prog.info? 22).map (fun i => (i.zero, i.size, i.bytes)) = some (some (.slice none 0 0), 1, 24) := by kernel_rfl
theorem sl_make (m : Nat) (hm : m <= 1000001) (W : World) : (Instr.makeSlice 29 (.int .i64 (m : Int)) (.int .i64 (m : Int))).run Tryd.prog W = .ok (.slice (some ⟨W.heap.size, 0, none⟩) m m) (W.alloc (.cells (Array.replicate m (Value.slice none 0 0)) 22)) := by
 have := print_make_of (P := Tryd.prog) 29 22 (.slice none 0 0) 24 Tryd.underlying29 sl_info22 rfl (by omega) m (by omega) W
 rw [this]
 have e : madeCells #[Value.slice none 0 0] m = Array.replicate m (Value.slice none 0 0) := by
  apply Array.toList_inj.1
  rw [toList_madeCells_one, Array.toList_replicate]
 rw [e]
structure OlSt (w0 w : World) (go m : Nat) (vs : List Value) (xs : List (List Int)) : Prop where
 ho : w.heap[go]? = some (.cells (vs ++ List.replicate (m - vs.length) (Value.slice none 0 0)).toArray 22 (0, 0))
 ln : vs.length = xs.length
 hv : ∀ (j : Nat) (v : Value) (x : List Int), vs[j]? = some v -> xs[j]? = some x -> Kd.R (Kd.int .i64) 3 w w0.heap.size (fun k => k ≠ go) v x
 lo : w0.heap.size <= go
 below : Below w0.heap.size w0 w
theorem ol_start (w : World) (o : Obj) (n : Nat) : OlSt w ((w.alloc o).alloc (.cells (Array.replicate n (Value.slice none 0 0)) 22)) (w.heap.size + 1) n [] [] := by
 refine ⟨?_, rfl, fun j v x h => by simp at h, Nat.le_succ _, ((Below.refl _ _).alloc (Nat.le_refl _) _).alloc (by simp) _⟩
 have e : (([] : List Value) ++ List.replicate (n - ([] : List Value).length) (Value.slice none 0 0)).toArray = Array.replicate n (Value.slice none 0 0) := by simp
 rw [e]
 exact two_new w o _
theorem OlSt.step {w0 w w' : World} {go m : Nat} {vs : List Value} {xs : List (List Int)} (h : OlSt w0 w go m vs xs) (hb : Below w.heap.size w w') : OlSt w0 w' go m vs xs :=
 ⟨blk_below h.ho hb, h.ln, fun j v x h1 h2 => Kd.R_below (h.hv j v x h1 h2) hb, h.lo, below_step h.below hb⟩
theorem OlSt.cell {w0 w : World} {go m : Nat} {vs : List Value} {xs : List (List Int)} (h : OlSt w0 w go m vs xs) (hl : vs.length < m) : w.cell? ⟨go, vs.length, none⟩ = some (.slice none 0 0) := by
 rw [blk_cell h.ho, List.getElem?_toArray, List.getElem?_append_right (Nat.le_refl _), Nat.sub_self, List.getElem?_replicate, if_pos (by omega)]
theorem OlSt.put {w0 w : World} {go m : Nat} {vs : List Value} {xs : List (List Int)} (h : OlSt w0 w go m vs xs) (hl : vs.length < m) (n : Nat) (hn : n = vs.length) {v : Value} {x : List Int} (hv : Kd.R (Kd.int .i64) 3 w w0.heap.size (fun k => k ≠ go) v x) :
  OlSt w0 (w.setCell ⟨go, n, none⟩ v) go m (vs ++ [v]) (xs ++ [x]) := by
 subst hn
 refine ⟨blk_put h.ho vs.length _ ?_, by simp [h.ln], fun j u y h1 h2 => ?_, h.lo, below_set h.below h.lo⟩
 ·rw [List.setIfInBounds_toArray]
  congr 1
  rw [List.set_append_right _ _ (Nat.le_refl _), Nat.sub_self, List.append_assoc, List.length_append, List.length_singleton]
  congr 1
  obtain ⟨d, hd⟩ : ∃ d, m - vs.length = d + 1 := ⟨m - vs.length - 1, by omega⟩
  rw [hd, show m - (vs.length + 1) = d by omega, List.replicate_succ]
  rfl
 ·refine Kd.R_far (p := ⟨go, vs.length, none⟩) ?_ (fun k hk => hk) v
  by_cases hj : j < vs.length
  ·rw [List.getElem?_append_left hj] at h1
   rw [List.getElem?_append_left (by rw [<- h.ln]; exact hj)] at h2
   exact h.hv j u y h1 h2
  ·have hj2 : j < (vs ++ [v]).length := (List.getElem?_eq_some_iff.1 h1).1
   obtain rfl : j = vs.length := by simp at hj2; omega
   rw [List.getElem?_append_right (Nat.le_refl _), Nat.sub_self] at h1
   rw [List.getElem?_append_right (by rw [h.ln]; exact Nat.le_refl _), h.ln, Nat.sub_self] at h2
   obtain rfl : v = u := by simpa using h1
   obtain rfl : x = y := by simpa using h2
   exact hv
theorem OlSt.done {w0 w : World} {go m : Nat} {vs : List Value} {xs : List (List Int)} (h : OlSt w0 w go m vs xs) (hl : vs.length = m) (hm : m <= 1000001) :
  Kd.R kInts 22 w w0.heap.size (fun _ => True) (.slice (some ⟨go, 0, none⟩) m m) xs := by
 subst hl
 have ho := h.ho
 rw [Nat.sub_self, List.replicate_zero, List.append_nil] at ho
 refine ⟨fun _ _ => trivial, vs, ?_, ?_⟩
 ·refine ⟨by simp [h.ln, kInts, Kd.slice], .inr ⟨go, vs.length, _, by simp [h.ln], h.lo, ho, by simp [h.ln], by simp only [maxLen]; omega, by simp [kInts, Kd.slice], ?_⟩⟩
  simp [h.ln, kInts, Kd.slice]
  rw [List.take_of_length_le (by have := h.ln; omega)]
 ·refine ⟨by simp [h.ln, kInts, Kd.slice], fun j p hj => ?_⟩
  have hjl : j < vs.length := by have h1 := (List.getElem?_eq_some_iff.1 hj).1; have := h.ln; omega
  have e : (vs.drop (j * kInts.sz)).take kInts.sz = [vs[j]] := by
   show (vs.drop (j * 1)).take 1 = _
   rw [Nat.mul_one, List.drop_eq_getElem_cons hjl]
   rfl
  rw [e]
  refine ⟨vs[j], rfl, Kd.R_mono (h.hv j _ p (List.getElem?_eq_getElem hjl) hj) (fun k hk => ⟨trivial, fun he => ?_⟩)⟩
  have e2 : k = go := by simpa [Value.ownBlock] using he
  exact hk e2
theorem sets_at {w : World} {A : Option Addr} {n : Nat} {R : List Int} (h : kSets.C w A n (R.map fun x => [x])) (hn : n = R.length) (k : Nat) (hk : k < R.length) :
  ∃ ad A' c', A = some ad /\ w.cell? (ad.add k) = some (.slice A' 1 c') /\ (Kd.int .u64).C w A' 1 [rd R (k : Int)] := by
 obtain ⟨ad, e, hc⟩ := h.2.2 (by omega)
 have hg : (R.map fun x => [x])[k]? = some [rd R (k : Int)] := by
  unfold rd
  rw [List.getElem?_map, Int.toNat_natCast, List.getD_eq_getElem?_getD, List.getElem?_eq_getElem hk]
  rfl
 obtain ⟨c, h1, ⟨A', c', hcs, hl, hC⟩, h3⟩ := hc k _ hg
 subst hcs
 have := h3 0 _ rfl
 rw [show k * kSets.sz + 0 = k by show k * 1 + 0 = k; omega] at this
 exact ⟨ad, A', c', e, this, hC⟩
def lvLists (R : List Int) (n : Nat) : List (List Int) := (R.take n).map fun x => lvMem x.toNat
theorem lvLists_succ (R : List Int) (k x : Nat) (h : k < R.length) (hx : rd R (k : Int) = (x : Int)) : lvLists R (k + 1) = lvLists R k ++ [lvMem x] := by
 unfold lvLists
 rw [List.take_succ_eq_append_getElem h, List.map_append]
 have e : R[k] = (x : Int) := by
  rw [<- hx]
  unfold rd
  rw [Int.toNat_natCast, List.getD_eq_getElem?_getD, List.getElem?_eq_getElem h]
  rfl
 rw [List.map_singleton, e]
 rfl
def SLivePost (xs : List (List Int)) (w : World) (e : Ending) (w' : World) : Prop := ∃ v : Value, e = .returned v /\ Kd.R kInts 22 w' w.heap.size (fun _ => True) v xs /\ Below w.heap.size w w'
theorem lvIn_length (code : List S44) : ∀ (n : Nat) (L : List Int) (m : Bool), (lvIn code n L m).1.length = L.length
 | 0, _, _ => rfl
 | n + 1, L, m => by
  rw [lvIn]
  split
  ·exact lvIn_length code n L m
  ·rw [lvIn_length code n, List.length_set]
theorem lvRun_length (code : List S44) : ∀ (K : Nat) (L R : List Int), lvRun code K L = some R -> R.length = L.length
 | 0, _, _, h => by cases h
 | K + 1, L, R, h => by
  rw [lvRun] at h
  split at h
  ·rw [lvRun_length code K _ R h, lvIn_length]
  ·have := Option.some.inj h
   rw [<- this, lvIn_length]
set_option maxHeartbeats 2000000 in
set_option maxRecDepth 100000 in
theorem slive_calls (nm : ByteArray) (A1 : Option Addr) (c1 : Nat) (l1 : List Int) (A2 : Option Addr) (c2 : Nat) (l2 : List Int) (A3 : Option Addr) (c3 : Nat) (l3 : List Int) (A4 : Option Addr) (c4 : Nat) (code : List S44) (w : World)
  (hr1 : Kd.C (Kd.int .i64) w A1 l1.length l1) (hc1 : l1.length <= c1) (hr2 : Kd.C (Kd.int .i64) w A2 l2.length l2) (hc2 : l2.length <= c2) (hr3 : Kd.C (Kd.int .i64) w A3 l3.length l3) (hc3 : l3.length <= c3) (hr4 : Kd.C k44 w A4 code.length code) (hc4 : code.length <= c4)
  (h64 : l2.length < 64) (hok : LvOk code) (K : Nat) (R : List Int) (hrun : lvRun code K (List.replicate (code.length + 1) 0) = some R) (hbits : ∀ x ∈ R, 0 <= x /\ x < 18446744073709551616) (hT : TzTab w) (h1 : 0 < w.heap.size) :
  Calls Tryd.prog 11 #[.agg #[.string nm, .slice A1 l1.length c1, .slice A2 l2.length c2, .slice A3 l3.length c3, .slice A4 code.length c4]] w (SLivePost (lvLists R code.length) w) := by
 have hu25 := Tryd.underlying25
 have HRL := Aside0.mk (show R.length = code.length + 1 by rw [lvRun_length code K _ R hrun]; simp)
 have HR1 := Aside0.mk hr1
 have HR2 := Aside0.mk hr2
 have HR3 := Aside0.mk hr3
 have HR4 := Aside0.mk hr4
 have HC1 := Aside0.mk hc1
 have HC2 := Aside0.mk hc2
 have HC3 := Aside0.mk hc3
 have HC4 := Aside0.mk hc4
 have HOK := Aside0.mk hok
 have HRUN := Aside0.mk hrun
 have HBITS := Aside0.mk hbits
 have HT := Aside0.mk hT
 have hcl : code.length <= 1000000 := hok.len
 have hmk := sl_make code.length (by omega)
 clear hr1 hr2 hr3 hr4 hc1 hc2 hc3 hc4 hok hrun hbits hT
 obtain ⟨fc, hfc⟩ : ∃ fc, fc = lvBox nm (.slice A1 l1.length c1) (.slice A2 l2.length c2) (.slice A3 l3.length c3) (.slice A4 code.length c4) := ⟨_, rfl⟩
 have HFC := Aside0.mk hfc
 clear hfc
 go_enter Tryd.func11, Tryd.ntmps11
 go_upto_region 1 with (fail)
 go_cut [3] (fun v3 wc => ∃ go, v3 = .slice (some ⟨go, 0, none⟩) code.length code.length /\ Aside0 (wc.heap[w.heap.size]? = some (.cells fc 25 (0, 0))) /\ Aside0 (OlSt w wc go code.length [] []))
 case first =>
  go_wp2
  go_meet
  case rel => exact ⟨w.heap.size + 1, rfl, ⟨by rw [HFC.out]; exact lv_al (heap_alloc_new w _) _⟩, ⟨ol_start w _ code.length⟩⟩
 case rest =>
  obtain ⟨go, rfl, H1, HOL⟩ := hcut
  go_upto_region 2 with (fail)
  go_cut [4] (fun v4 wc => ∃ Ai ci, v4 = .slice Ai R.length ci /\ Aside0 (Kd.R kSets 72 wc w.heap.size (fun _ => True) (.slice Ai R.length ci) (R.map fun x => [x])) /\ Aside0 (OlSt w wc go code.length [] []))
  case first =>
   have hg0 : wc.cell? ⟨w.heap.size, 0, none⟩ = some (.string nm) := (blk_cell H1.out 0).trans (by rw [HFC.out]; rfl)
   have hg1 : wc.cell? ⟨w.heap.size, 1, none⟩ = some (.slice A1 l1.length c1) := (blk_cell H1.out 1).trans (by rw [HFC.out]; rfl)
   have hg2 : wc.cell? ⟨w.heap.size, 2, none⟩ = some (.slice A2 l2.length c2) := (blk_cell H1.out 2).trans (by rw [HFC.out]; rfl)
   have hg3 : wc.cell? ⟨w.heap.size, 3, none⟩ = some (.slice A3 l3.length c3) := (blk_cell H1.out 3).trans (by rw [HFC.out]; rfl)
   have hg4 : wc.cell? ⟨w.heap.size, 4, none⟩ = some (.slice A4 code.length c4) := (blk_cell H1.out 4).trans (by rw [HFC.out]; rfl)
   go_wp2_with (first | (go_at_call 24; (with_reducible refine (live_calls nm A1 c1 l1 A2 c2 l2 A3 c3 l3 A4 c4 code _ (Kd.C_below HR1.out HOL.out.below) HC1.out (Kd.C_below HR2.out HOL.out.below) HC2.out (Kd.C_below HR3.out HOL.out.below) HC3.out (Kd.C_below HR4.out HOL.out.below) HC4.out h64 HOK.out K R HRUN.out).mono ?_); rintro e w11 ⟨v11, rfl, hr, hb⟩; obtain ⟨Ai, ci, ei⟩ := Kd.R_slice hr; rw [List.length_map] at ei; subst ei; have n0_ := Aside0.mk (HOL.out.step hb); have n1_ := Aside0.mk (Kd.R_lower hr HOL.out.below.size); clear HOL hr hb; have HOL := n0_; have HIN := n1_; clear n0_ n1_))
   go_meet
   case rel => exact ⟨Ai, ci, rfl, HIN, HOL⟩
  case rest =>
   clear HOL
   obtain ⟨Ai, ci, rfl, HIN, HOL⟩ := hcut
   go_wp2
   go_loopg [14] code.length (fun gg v14 w' => ∃ (k : Nat) (vs : List Value), vs.length = k /\ k <= code.length /\ code.length - k <= gg /\ v14 = .int .i64 k /\ Aside0 (Kd.R kSets 72 w' w.heap.size (fun _ => True) (.slice Ai R.length ci) (R.map fun x => [x])) /\ Aside0 (OlSt w w' go code.length vs (lvLists R k)))
   case atStart => exact ⟨0, [], rfl, Nat.zero_le _, by omega, rfl, HIN, ⟨by simpa [lvLists] using HOL.out⟩⟩
   case round =>
    clear HIN HOL
    obtain ⟨k, vs, hvk, hkl, hkg, rfl, HIN, HOL⟩ := hrel
    have HVK := Aside0.mk hvk
    clear hvk
    by_cases hlt : k < code.length
    ·have k0 : 0 <= (k : Int) := by omega
     have k1 : (k : Int) < (code.length : Int) := by omega
     have hkR : k < R.length := by have := HRL.out; omega
     have k2 : (k : Int) < (R.length : Int) := by omega
     obtain ⟨adi, A', c', eai, hci, hCi⟩ := sets_at (Kd.R_reads' HIN.out).2.2 (by rw [List.length_map]) k hkR
     subst eai
     obtain ⟨hx0, hx1⟩ := HBITS.out _ (rd_mem' R k hkR)
     obtain ⟨x, hx⟩ := Int.eq_ofNat_of_zero_le hx0
     rw [hx] at hCi hx1
     have hx1' : x < 18446744073709551616 := by omega
     have HX := Aside0.mk hx
     have HCI := Aside0.mk hCi
     have HMC := Aside0.mk (mem_calls A' c' x hx1')
     clear hx hx0 hx1 hx1' hCi
     have hks : (k : Int) <= 1000000 := by omega
     have hcell : wr.cell? ⟨go, k, none⟩ = some (.slice none 0 0) := by rw [<- HVK.out]; exact HOL.out.cell (by rw [HVK.out]; exact hlt)
     have hfro := blk_frozen HOL.out.ho k
     go_wp2_with (first | (go_at_call 25; (with_reducible refine (HMC.out _ (HT.out.below h1 HOL.out.below) (Nat.lt_of_lt_of_le h1 HOL.out.below.size) HCI.out).mono ?_); rintro e w23 ⟨v23, rfl, hr, hb⟩; obtain ⟨Am, cm, em⟩ := Kd.R_slice hr; subst em; have n0_ := Aside0.mk (HOL.out.step hb); have n1_ := Aside0.mk (Kd.R_below HIN.out hb); have n2_ := Aside0.mk (Kd.R_lower hr HOL.out.below.size); clear HOL HIN hr hb; have HOL := n0_; have HIN := n1_; have HM := n2_; clear n0_ n1_ n2_; have hcell : w23.cell? ⟨go, k, none⟩ = some (.slice none 0 0) := (by rw [<- HVK.out]; exact HOL.out.cell (by rw [HVK.out]; exact hlt)); have hfro := blk_frozen HOL.out.ho k))
     go_roundg (code.length - (k + 1))
     case measure => omega
     case rel => exact ⟨k + 1, vs ++ [.slice Am (lvMem x).length cm], by simp [HVK.out], by omega, by omega, by go_num, ⟨Kd.R_set HIN.out HOL.out.ho (by decide) k _⟩, ⟨by rw [lvLists_succ R k x hkR HX.out]; exact HOL.out.put (by rw [HVK.out]; exact hlt) k HVK.out.symm (Kd.R_mono (Kd.R_types HM.out HOL.out.ho (by decide)) (fun k hk => hk.2))⟩⟩
    ·obtain rfl : k = code.length := by omega
     go_wp2
     refine bodyPost_ret (v := .slice (some ⟨go, 0, none⟩) code.length code.length) (by simp [results, Tryd.results11, go_sem]) rfl ⟨_, rfl, HOL.out.done HVK.out (by omega), HOL.out.below⟩
theorem and32 (n : Nat) (h : n < 4294967296) : Go.bits .and .u64 (n : Int) 4294967295 = (n : Int) := by
 have e := bits_and_u64_nat n 4294967295 (by omega) (by omega)
 have e2 : n &&& 4294967295 = n := by
  have := Nat.and_two_pow_sub_one_eq_mod n 32
  rw [show (2 : Nat) ^ 32 - 1 = 4294967295 by rfl] at this
  rw [this]
  omega
 rw [e2] at e
 exact e
theorem mul_f (n : Nat) (h : n <= 1000000) : bits_Mul.f 1 (n : Int) = some (0, (n : Int)) := by
 have h1 : Go.bits .and .u64 1 4294967295 = 1 := by decide +kernel
 have h0 : Go.bits .and .u64 0 4294967295 = 0 := by decide +kernel
 have h2 := and32 n (by omega)
 have e1 : (1 : Int) / 4294967296 = 0 := by omega
 have e2 : (n : Int) / 4294967296 = 0 := by omega
 have ew : ∀ x : Int, 0 <= x -> x < 18446744073709551616 -> IntKind.u64.wrap x = x := fun x a b => by rw [IntKind.wrap_u64]; omega
 have w0 : IntKind.u64.wrap 0 = 0 := ew 0 (by omega) (by omega)
 have wn : IntKind.u64.wrap (n : Int) = n := ew _ (by omega) (by omega)
 have ez : (0 : Int) / 4294967296 = 0 := by omega
 unfold bits_Mul.f bits_Mul64.f
 simp only [h1, h2, e1, e2, Int.one_mul, Int.zero_mul, Int.mul_zero, w0, wn, Int.zero_add, Int.add_zero, h0, ez, Option.bind_some]
def spCells (n : Nat) (a b : Int) : List Value := (List.replicate n [Value.int .i64 a, Value.int .i64 b]).flatten
theorem spCells_len (n : Nat) (a b : Int) : (spCells n a b).length = 2 * n := by
 induction n with
 | zero => rfl
 | succ n ih => unfold spCells at *; rw [List.replicate_succ, List.flatten_cons, List.length_append, ih]; simp; omega
theorem spCells_add (m n : Nat) (a b : Int) : spCells (m + n) a b = spCells m a b ++ spCells n a b := by
 unfold spCells
 rw [<- List.flatten_append, List.replicate_append_replicate]
theorem spCells_one (n : Nat) (a b : Int) : ∀ v ∈ spCells n a b, v.oneCell' = true := by
 intro v hv
 unfold spCells at hv
 rw [List.mem_flatten] at hv
 obtain ⟨l, hl, hv⟩ := hv
 obtain rfl := List.eq_of_mem_replicate hl
 simp at hv
 rcases hv with rfl | rfl <;> rfl
theorem rp_info39 : (Tryd.prog.info? 39).map (fun i => (i.zero, i.size, i.bytes)) = some (some (.agg #[.int .i64 0, .int .i64 0]), 2, 16) := by kernel_rfl
theorem rp_make (n : Nat) (hn : n <= 1000000) : ∃ mc : List Value, mc.length = 2 * n /\ ∀ W : World, (Instr.makeSlice 33 (.int .i64 (n : Int)) (.int .i64 (n : Int))).run Tryd.prog W = .ok (.slice (some ⟨W.heap.size, 0, none⟩) n n) (W.alloc (.cells mc.toArray 39)) := by
 obtain ⟨i, hi, hz⟩ := Option.map_eq_some_iff.1 rp_info39
 simp only [Prod.mk.injEq] at hz
 obtain ⟨hz0, hz1, hz2⟩ := hz
 refine ⟨(madeCells (Value.agg #[Value.int .i64 0, Value.int .i64 0]).cells (n * 2)).toList, by rw [Array.length_toList, size_madeCells]; omega, fun W => ?_⟩
 have hr := run_make (P := Tryd.prog) W 33 39 i _ Tryd.underlying33 hi hz0 .i64 .i64 (n : Int) (n : Int) (by omega) (by omega) (by rw [hz2]; omega) (by omega)
 rw [Int.toNat_natCast, hz1] at hr
 simpa using hr
theorem rp_copy (w : World) (g o dLen dCap : Nat) (a : Addr) (sLen sCap : Nat) (cur : List Value) (t ty : TypeId) (cs : List Value) (k : Nat) (hk : Nat.min sLen dLen = k)
  (hg : w.heap[g]? = some (.cells cur.toArray t (0, 0))) (hn : cs.length = k * 2) (hsrc : ∀ j v, cs[j]? = some v -> w.cell? (a.add j) = some v) (hfit : o + cs.length <= cur.length) (h1 : ∀ v ∈ cs, v.oneCell' = true) :
  (Builtin.copy_ #[33, 33] ty #[.slice (some ⟨g, o, none⟩) dLen dCap, .slice (some a) sLen sCap]).run Tryd.prog w = .ok (goInt k) (w.setRow g (cur.take o ++ cs ++ cur.drop (o + cs.length)).toArray) := by
 have hl := run_loadCells_list (P := Tryd.prog) w a cs hsrc
 have hst := run_storeCells_at Tryd.prog g o t cs 0 cur.toArray w hg (by simpa using hfit) h1
 obtain ⟨i, hi, hz⟩ := Option.map_eq_some_iff.1 rp_info39
 simp only [Prod.mk.injEq] at hz
 obtain ⟨hz0, hz1, hz2⟩ := hz
 rw [hn] at hl
 simp [Builtin.copy_, run_underlying Tryd.underlying33, Builtin.lenOf, Builtin.firstCells, sizeOf, typeInfo, hi, hz1, hk, hl, hst]
theorem rp_step {ops : Array Oper} {o : Oper} {a : Act} {Q : Exit -> Act -> World -> Prop} {Kc : Act -> World -> Prop} {E : Prop} {w : World} (hg : o.guard = none) (d s : Operand) (ho : o.op = .call { callee := .builtin .copy, args := #[d, s], argTypes := #[33, 33] })
  (va vb : Value) (hd : a.eval d = va) (hs : a.eval s = vb) (r : Value) (w1 : World) (hrun : (Builtin.copy_ #[33, 33] o.type #[va, vb]).run Tryd.prog w = .ok r w1) (hK : Kc (a.put o.dst r) w1) :
  if Region.wanted o (yielded ops a.tmps) = true then Oper.wp Tryd.prog o a w Kc Q else E := by
 have hw : Region.wanted o (yielded ops a.tmps) = true := by simp [Region.wanted, hg]
 rw [if_pos hw]
 unfold Oper.wp
 simp [execOp, ho, resolve, invoke, builtin, hd, hs, hrun, Result.andThen]
 exact hK
theorem rp_list {ops : Array Oper} {rest : List Oper} {o : Oper} {a : Act} {Q : Exit -> Act -> World -> Prop} {w : World} (hg : o.guard = none) (d s : Operand) (ho : o.op = .call { callee := .builtin .copy, args := #[d, s], argTypes := #[33, 33] })
  (va vb : Value) (hd : a.eval d = va) (hs : a.eval s = vb) (r : Value) (w1 : World) (hrun : (Builtin.copy_ #[33, 33] o.type #[va, vb]).run Tryd.prog w = .ok r w1) (hK : wpList Tryd.prog ops Q rest (a.put o.dst r) w1) :
  wpList Tryd.prog ops Q (o :: rest) a w := by
 refine wpList_plain hg fun K hK2 => ?_
 unfold Oper.wp
 simp [execOp, ho, resolve, invoke, builtin, hd, hs, hrun, Result.andThen]
 exact hK2 _ _ hK
theorem rp_src {W : World} {gx k : Nat} (h : W.heap[gx]? = some (.cells #[.int .i64 0, .int .i64 (-1)] 39 (0, 0))) (hk : k <= 1) : ∀ (j : Nat) (v : Value), (spCells k 0 (-1))[j]? = some v -> W.cell? ((⟨gx, 0, none⟩ : Addr).add j) = some v := by
 intro j v hj
 rw [add_plain, blk_cell h]
 have hk2 : k = 0 ∨ k = 1 := by omega
 rcases hk2 with rfl | rfl
 ·simp [spCells] at hj
 ·rw [show spCells 1 0 (-1) = [Value.int .i64 0, Value.int .i64 (-1)] from rfl] at hj
  exact (by simpa using hj)
theorem rp_next {W : World} {g n f k : Nat} {rest cur : List Value} (hc : cur = spCells f 0 (-1) ++ rest) (hl : rest.length = 2 * (n - f))
  (h : W.heap[g]? = some (.cells (cur.take (2 * f) ++ spCells k 0 (-1) ++ cur.drop (2 * f + (spCells k 0 (-1)).length)).toArray 39 (0, 0))) (hk : f + k <= n) :
  ∃ rest2 : List Value, rest2.length = 2 * (n - (f + k)) /\ W.heap[g]? = some (.cells (spCells (f + k) 0 (-1) ++ rest2).toArray 39 (0, 0)) := by
 subst hc
 refine ⟨rest.drop (2 * k), by rw [List.length_drop, hl]; omega, ?_⟩
 have e : (spCells f 0 (-1) ++ rest).take (2 * f) ++ spCells k 0 (-1) ++ (spCells f 0 (-1) ++ rest).drop (2 * f + (spCells k 0 (-1)).length) = spCells (f + k) 0 (-1) ++ rest.drop (2 * k) := by
  rw [spCells_add, List.take_left' (spCells_len f 0 (-1)), spCells_len k, <- List.drop_drop, List.drop_left' (spCells_len f 0 (-1))]
 rw [h, e]
theorem rp_first {W : World} {g n k : Nat} {mc : List Value} (hl : mc.length = 2 * n) (h : W.heap[g]? = some (.cells (spCells k 0 (-1) ++ mc.drop (spCells k 0 (-1)).length).toArray 39 (0, 0))) (hk : k <= n) :
  ∃ rest2 : List Value, rest2.length = 2 * (n - k) /\ W.heap[g]? = some (.cells (spCells k 0 (-1) ++ rest2).toArray 39 (0, 0)) := by
 have := rp_next (f := 0) (rest := mc) (cur := mc) (n := n) (k := k) (by rfl) (by rw [hl]; simp) (by simpa using h) (by omega)
 rw [Nat.zero_add] at this
 exact this
structure RpSt (w0 w : World) (g n f : Nat) : Prop where
 hg : ∃ rest : List Value, rest.length = 2 * (n - f) /\ w.heap[g]? = some (.cells (spCells f 0 (-1) ++ rest).toArray 39 (0, 0))
 lo : w0.heap.size <= g
 below : Below w0.heap.size w0 w
def RepPost (n : Nat) (w : World) (e : Ending) (w' : World) : Prop := ∃ g, e = .returned (.slice (some ⟨g, 0, none⟩) n n) /\ w'.heap[g]? = some (.cells (spCells n 0 (-1)).toArray 39 (0, 0)) /\ w.heap.size <= g /\ Below w.heap.size w w'
set_option maxHeartbeats 2000000 in
set_option maxRecDepth 100000 in
theorem rep_calls (gx n : Nat) (w : World) (hx : w.heap[gx]? = some (.cells #[.int .i64 0, .int .i64 (-1)] 39 (0, 0))) (hn : n <= 1000000) :
  Calls Tryd.prog 27 #[.slice (some ⟨gx, 0, none⟩) 1 1, .int .i64 (n : Int)] w (RepPost n w) := by
 obtain ⟨mc, hmc, hmk⟩ := rp_make n hn
 have HMC := Aside0.mk hmc
 have HX := Aside0.mk hx
 have HB := Aside0.mk (Below.refl w.heap.size w)
 have n0 : 0 <= (n : Int) := by omega
 have n1 : (n : Int) <= 1000000 := by omega
 have HMUL := Aside0.mk (mul_f n hn)
 clear hmc hx
 go_enter Tryd.func27, Tryd.ntmps27
 go_upto_region 6 with (first | (go_at_call 48; (with_reducible refine (bits_Mul.calls 1 (n : Int) 0 (n : Int) _ HMUL.out).mono ?_); rintro e w18 ⟨rfl, hd⟩; obtain ⟨nq, rfl⟩ := hd.out))
 go_cut [7] (fun v7 wc => ∃ g, v7 = .slice (some ⟨g, 0, none⟩) n n /\ Aside0 (wc.heap[g]? = some (.cells mc.toArray 39 (0, 0))) /\ Aside0 (wc.heap[gx]? = some (.cells #[.int .i64 0, .int .i64 (-1)] 39 (0, 0))) /\ Aside0 (w.heap.size <= g) /\ Aside0 (Below w.heap.size w wc))
 case first =>
  go_wp2
  go_meet
  case rel => exact ⟨_, rfl, ⟨heap_alloc_new (w.drewN nq) _⟩, ⟨lv_al (w := w.drewN nq) HX.out _⟩, ⟨Nat.le_refl _⟩, ⟨(pw_below_drewN (Below.refl w.heap.size w) nq).alloc (Nat.le_refl _) _⟩⟩
 case rest =>
  obtain ⟨g, rfl, HG, HX2, HLO, HB2⟩ := hcut
  obtain ⟨k, hk⟩ : ∃ k, Nat.min 1 n = k := ⟨_, rfl⟩
  have hk1 : k <= n /\ k <= 1 /\ (1 <= n -> k = 1) := by rw [<- hk]; simp only [Nat.min_def]; split <;> omega
  have HK := Aside0.mk hk
  have HK1 := Aside0.mk hk1
  clear hk hk1
  go_upto_region 7 with (fail)
  go_cut [8] (fun v8 wc => v8 = .int .i64 (k : Int) /\ Aside0 (RpSt w wc g n k))
  case first =>
   go_wp2_with (first | ((with_reducible refine gate_builtin (b := .copy) (xs := #[.tmp 31, .tmp 32]) rfl ?_); refine rp_list rfl (.tmp 31) (.tmp 32) rfl (.slice (some ⟨g, 0, none⟩) n n) (.slice (some ⟨gx, 0, none⟩) 1 1) rfl rfl (goInt k) _ (rp_copy wc g 0 n n ⟨gx, 0, none⟩ 1 1 mc 39 _ (spCells k 0 (-1)) k HK.out HG.out (by rw [spCells_len]; omega) (rp_src HX2.out HK1.out.2.1) (by rw [spCells_len, HMC.out]; have := HK1.out.1; omega) (spCells_one k 0 (-1))) ?_))
   go_meet
   case rel => exact ⟨rfl, ⟨⟨rp_first HMC.out (setRow_heap _ _ _ _ 39 _ HG.out) HK1.out.1, HLO.out, below_setRow HB2.out HLO.out _⟩⟩⟩
  case rest =>
   obtain ⟨rfl, HST⟩ := hcut
   go_wp2
   go_loopg [8] n (fun gg v8 w' => ∃ f : Nat, f <= n /\ n - f <= gg /\ (1 <= n -> 1 <= f) /\ v8 = .int .i64 f /\ Aside0 (RpSt w w' g n f))
   case atStart => exact ⟨k, HK1.out.1, by omega, fun h => by have := HK1.out.2.2 h; omega, rfl, HST⟩
   case round =>
    clear HST
    obtain ⟨f, hfn, hfg, hf1, rfl, HST⟩ := hrel
    by_cases hlt : f < n
    ·have hf0 : 1 <= f := hf1 (by omega)
     clear hf1
     have f0 : 0 <= (f : Int) := by omega
     have f1 : (f : Int) <= (n : Int) := by omega
     have f2 : (f : Int) <= 1000000 := by omega
     have f3 : (f : Int) < (n : Int) := by omega
     have hne : ¬ f = n := by omega
     have hne2 : ¬ n = f := by omega
     obtain ⟨rest, hrl, hrg⟩ := HST.out.hg
     obtain ⟨kk, hkk⟩ : ∃ kk, Nat.min f (n - f) = kk := ⟨_, rfl⟩
     have hkk1 : 1 <= kk /\ kk <= f /\ f + kk <= n := by rw [<- hkk]; simp only [Nat.min_def]; split <;> omega
     obtain ⟨cur, hcur⟩ : ∃ cur, cur = spCells f 0 (-1) ++ rest := ⟨_, rfl⟩
     rw [<- hcur] at hrg
     have hcl : cur.length = 2 * n := by rw [hcur, List.length_append, spCells_len, hrl]; omega
     obtain ⟨nc, hnc⟩ : ∃ nc, nc = cur.take (f * 2) ++ spCells kk 0 (-1) ++ cur.drop (f * 2 + (spCells kk 0 (-1)).length) := ⟨_, rfl⟩
     have HRUN := Aside0.mk (show ∀ ty, (Builtin.copy_ #[33, 33] ty #[.slice (some ⟨g, f * 2, none⟩) (n - f) (n - f), .slice (some ⟨g, 0, none⟩) f n]).run Tryd.prog wr.drew = .ok (goInt kk) (wr.drew.setRow g nc.toArray) by
      intro ty
      rw [hnc]
      exact rp_copy wr.drew g (f * 2) (n - f) (n - f) ⟨g, 0, none⟩ f n cur 39 ty (spCells kk 0 (-1)) kk hkk hrg (by rw [spCells_len]; omega) (by
       intro j v hj
       have hjl : j < 2 * kk := by have := (List.getElem?_eq_some_iff.1 hj).1; rwa [spCells_len] at this
       rw [add_plain]
       refine (blk_cell (w := wr) hrg j).trans ?_
       rw [List.getElem?_toArray, hcur, show f = kk + (f - kk) by omega, spCells_add, List.append_assoc, List.getElem?_append_left (by rw [spCells_len]; exact hjl)]
       exact hj) (by rw [spCells_len, hcl]; omega) (spCells_one kk 0 (-1)))
     have HNX := Aside0.mk (show ∀ W : World, W.heap[g]? = some (.cells nc.toArray 39 (0, 0)) -> ∃ rest2 : List Value, rest2.length = 2 * (n - (f + kk)) /\ W.heap[g]? = some (.cells (spCells (f + kk) 0 (-1) ++ rest2).toArray 39 (0, 0)) by
      intro W hW
      refine rp_next hcur hrl ?_ hkk1.2.2
      rw [hW, hnc, Nat.mul_comm f 2])
     have HRG := Aside0.mk hrg
     have HKK := Aside0.mk hkk1
     have hk2 : (kk : Int) <= 1000000 := by omega
     have hk0 : 0 <= (kk : Int) := by omega
     have hwr : IntKind.i64.wrap ((f : Int) + (kk : Int)) = (f : Int) + (kk : Int) := by rw [IntKind.wrap_i64]; omega
     clear hrl hrg hkk hcur hcl hnc hkk1
     go_wp2
     go_region_law (refine rp_step (by rfl) (.tmp 41) (.tmp 44) rfl (.slice (some ⟨g, f * 2, none⟩) (n - f) (n - f)) (.slice (some ⟨g, 0, none⟩) f n) ?hd ?hs (goInt kk) (wr.drew.setRow g nc.toArray) ?hrun ?_; (case hd => kernel_rfl); (case hs => kernel_rfl); (case hrun => exact HRUN.out _))
     go_wp2
     go_roundg (n - (f + kk))
     case measure => have := HKK.out; omega
     case rel => exact ⟨f + kk, HKK.out.2.2, Nat.le_refl _, fun _ => by omega, by go_num, ⟨⟨HNX.out _ (setRow_heap wr.drew g _ _ 39 _ HRG.out), HLO.out, below_setRow HST.out.below.drew HLO.out _⟩⟩⟩
    ·obtain rfl : f = n := by omega
     go_wp2
     go_ret
     obtain ⟨rest, hrl, hrg⟩ := HST.out.hg
     obtain rfl : rest = [] := List.eq_nil_of_length_eq_zero (by rw [hrl]; omega)
     rw [List.append_nil] at hrg
     exact ⟨g, rfl, hrg, HLO.out, HST.out.below⟩
theorem cc_info3 : (Tryd.prog.info? 3).map (fun i => (i.zero, i.size, i.bytes)) = some (some (.int .i64 0), 1, 8) := by kernel_rfl
theorem R_take0 {w : World} {base : Nat} {A : Option Addr} {n c : Nat} {xs : List Int} (h : Kd.R (Kd.int .i64) 3 w base (fun _ => True) (.slice A n c) xs) : Kd.R (Kd.int .i64) 3 w base (fun _ => True) (.slice A 0 c) [] := by
 obtain ⟨inner, ho⟩ := Kd.R_own h
 rcases ho.2 with ⟨e, _⟩ | ⟨g, cap, cur, e, hb, hg, hnc, hcm, hcs, _⟩
 ·injection e with e1 e2 e3
  subst e1 e3
  exact Kd.R_nil _ _ _ _ _
 ·injection e with e1 e2 e3
  subst e1 e3
  exact ⟨fun _ _ => trivial, [], ⟨rfl, .inr ⟨g, c, cur, rfl, hb, hg, Nat.zero_le _, hcm, hcs, by simp⟩⟩, Reps.none _ _⟩
def RowPost (xs : List Int) (w : World) (e : Ending) (w' : World) : Prop := ∃ v : Value, e = .returned v /\ Kd.R (Kd.int .i64) 3 w' w.heap.size (fun _ => True) v xs /\ Below w.heap.size w w'
set_option maxHeartbeats 2000000 in
theorem gr_calls (n : Nat) (hn : n <= 3000000) (w : World) : Calls Tryd.prog 49 #[.slice none 0 0, .int .i64 (n : Int)] w (RowPost [] w) := by
 have HB := Aside0.mk (Below.refl w.heap.size w)
 have n0 : 0 <= (n : Int) := by omega
 have n1 : (n : Int) <= 3000000 := by omega
 by_cases h : n = 0
 ·subst h
  go_enter Tryd.func49, Tryd.ntmps49
  go_wp2
  go_ret
  exact ⟨_, rfl, Kd.R_nil _ _ _ _ _, HB.out⟩
 ·have h1 : 0 < (n : Int) := by omega
  go_enter Tryd.func49, Tryd.ntmps49
  go_wp2_with (first | ((with_reducible refine gate_builtin (b := .append) (xs := #[.tmp 20, .tmp 21]) rfl ?_); refine Kd.R_append_zeros (Kd.int .i64) (w0 := w) w.heap.size rfl (.tmp 20) (.tmp 21) 22 3 3 (.int .i64 0) 8 rfl Tryd.underlying22 Tryd.underlying3 cc_info3 rfl (by decide) (by omega) (.slice none 0 0) [] (0 : Int) (n : Int) (fun _ => True) rfl rfl ?hz ?hf ?hO n0 HB.out (below_size HB.out) ?hl ?_; (case hz => rfl); (case hf => exact fun _ _ => trivial); (case hO => exact Kd.R_nil _ _ _ _ _); (case hl => simp; omega); intro v22 w22 ho hb hg hat; clear HB; have HB := Aside0.mk hb; have HO := Aside0.mk ho; clear hb ho hg hat; obtain ⟨Ao, co, eo⟩ := Kd.R_slice HO.out; subst eo))
  go_ret
  exact ⟨_, rfl, R_take0 HO.out, HB.out⟩
set_option maxHeartbeats 2000000 in
set_option maxRecDepth 100000 in
theorem cc_calls (ga : Nat) (A1 : Option Addr) (c1 : Nat) (l1 : List Int) (A2 : Option Addr) (c2 : Nat) (l2 : List Int) (w : World) (hg : w.heap[ga]? = some (.cells #[.slice A1 l1.length c1, .slice A2 l2.length c2] 22 (0, 0)))
  (hr1 : (Kd.int .i64).C w A1 l1.length l1) (hr2 : (Kd.int .i64).C w A2 l2.length l2) (hl1 : l1.length <= 1000001) (hl2 : l2.length <= 1000001) :
  Calls Tryd.prog 28 #[.slice (some ⟨ga, 0, none⟩) 2 2] w (RowPost (l1 ++ l2) w) := by
 have hc0 : w.cell? ⟨ga, 0, none⟩ = some (.slice A1 l1.length c1) := (blk_cell hg 0).trans rfl
 have hc1 : w.cell? ⟨ga, 1, none⟩ = some (.slice A2 l2.length c2) := (blk_cell hg 1).trans rfl
 have HC0 := Aside0.mk hc0
 have HC1 := Aside0.mk hc1
 have HR1 := Aside0.mk hr1
 have HR2 := Aside0.mk hr2
 have HL1 := Aside0.mk hl1
 have HL2 := Aside0.mk hl2
 have HB := Aside0.mk (Below.refl w.heap.size w)
 have i1 : (l1.length : Int) <= 1000001 := by omega
 have i2 : (l2.length : Int) <= 1000001 := by omega
 clear hg hr1 hr2
 go_enter Tryd.func28, Tryd.ntmps28
 go_wp2
 go_loopg [3, 11] 2 (fun gg v3 v11 w' => ∃ j : Nat, j <= 2 /\ 2 - j <= gg /\ v11 = .int .i64 j /\ v3 = .int .i64 (if j = 0 then 0 else if j = 1 then (l1.length : Int) else ((l1.length + l2.length : Nat) : Int)) /\ w' = w)
 case atStart => exact ⟨0, by omega, by omega, rfl, rfl, rfl⟩
 case round =>
  obtain ⟨j, hj, hjg, rfl, rfl, hwr⟩ := hrel
  obtain rfl := hwr.symm
  clear hwr
  have hj3 : j = 0 ∨ j = 1 ∨ j = 2 := by omega
  clear hj
  rcases hj3 with rfl | rfl | rfl
  ·rw [if_pos rfl]
   go_wp2
   go_roundg 1
   case measure => omega
   case rel => exact ⟨1, by omega, by omega, by go_num, by rw [if_neg (by decide), if_pos rfl], rfl⟩
  ·rw [if_neg (by decide), if_pos rfl]
   have hw : IntKind.i64.wrap ((l1.length : Int) + (l2.length : Int)) = (l1.length : Int) + (l2.length : Int) := by rw [IntKind.wrap_i64]; omega
   go_wp2
   go_roundg 0
   case measure => omega
   case rel => exact ⟨2, by omega, by omega, by go_num, by rw [if_neg (by decide), if_neg (by decide)]; go_num, rfl⟩
  ·rw [if_neg (by decide), if_neg (by decide)]
   clear hc0 hc1
   have HGR := Aside0.mk (show ∀ W : World, Calls Tryd.prog 49 #[.slice none 0 0, .int .i64 ((l1.length : Int) + (l2.length : Int))] W (RowPost [] W) by
    intro W
    have := gr_calls (l1.length + l2.length) (by omega) W
    rwa [Int.natCast_add] at this)
   go_wp2_with (first | (go_at_call 49; (with_reducible refine (HGR.out _).mono ?_); rintro e w24 ⟨v24, rfl, hr, hb⟩; have HO := Aside0.mk hr; clear HB; have HB := Aside0.mk hb; clear hr hb))
   go_loopg [6, 27] 2 (fun gg v6 v27 w' => ∃ j : Nat, j <= 2 /\ 2 - j <= gg /\ v27 = .int .i64 j /\ Aside0 (Kd.R (Kd.int .i64) 3 w' w.heap.size (fun _ => True) v6 (if j = 0 then [] else if j = 1 then l1 else l1 ++ l2)) /\ Aside0 (Below w.heap.size w w'))
   case atStart => exact ⟨0, by omega, by omega, rfl, ⟨by rw [if_pos rfl]; exact HO.out⟩, HB⟩
   case round =>
    clear HO HB
    obtain ⟨j, hj, hjg, rfl, HO, HB⟩ := hrel
    have hj3 : j = 0 ∨ j = 1 ∨ j = 2 := by omega
    clear hj
    rcases hj3 with rfl | rfl | rfl
    ·replace HO := Aside0.mk (show Kd.R (Kd.int .i64) 3 wr w.heap.size (fun _ => True) u6 [] by have := HO.out; rwa [if_pos rfl] at this)
     obtain ⟨Ao, co, eo⟩ := Kd.R_slice HO.out
     subst eo
     have h0 := pw_cell_below HB.out HC0.out
     go_wp2_with (first | ((with_reducible refine gate_builtin (b := .append) (xs := #[.tmp 31, .tmp 32]) rfl ?_); at_builtin; refine Kd.R_append_rows (Kd.int .i64) (Rr := (Kd.int .i64).K w) (w0 := w) w.heap.size rfl (.tmp 31) (.tmp 32) 22 3 (.int .i64 0) 8 rfl Tryd.underlying22 cc_info3 rfl (by decide) (by omega) (.slice Ao 0 co) [] l1 A1 l1.length c1 (fun _ => True) (fun _ => False) rfl rfl ?aO ?aR (fun _ _ h => h) (fun _ h => h.elim) ?aF ?aB ?aS ?aL ?_; (case aO => exact HO.out); (case aR => exact Kd.C_below HR1.out HB.out); (case aF => exact fun _ _ => trivial); (case aB => exact HB.out); (case aS => exact below_size HB.out); (case aL => have := HL1.out; have := HL2.out; simp; omega); intro v33 w33 ho hb hg hat; clear HB HO; have HB := Aside0.mk hb; have HO := Aside0.mk ho; clear hb ho hg hat))
     go_roundg 1
     case measure => omega
     case rel => exact ⟨1, by omega, by omega, by go_num, ⟨by rw [if_neg (by decide), if_pos rfl]; simpa using HO.out⟩, HB⟩
    ·replace HO := Aside0.mk (show Kd.R (Kd.int .i64) 3 wr w.heap.size (fun _ => True) u6 l1 by have := HO.out; rwa [if_neg (by decide), if_pos rfl] at this)
     obtain ⟨Ao, co, eo⟩ := Kd.R_slice HO.out
     subst eo
     have h1 := pw_cell_below HB.out HC1.out
     go_wp2_with (first | ((with_reducible refine gate_builtin (b := .append) (xs := #[.tmp 31, .tmp 32]) rfl ?_); at_builtin; refine Kd.R_append_rows (Kd.int .i64) (Rr := (Kd.int .i64).K w) (w0 := w) w.heap.size rfl (.tmp 31) (.tmp 32) 22 3 (.int .i64 0) 8 rfl Tryd.underlying22 cc_info3 rfl (by decide) (by omega) (.slice Ao l1.length co) l1 l2 A2 l2.length c2 (fun _ => True) (fun _ => False) rfl rfl ?aO ?aR (fun _ _ h => h) (fun _ h => h.elim) ?aF ?aB ?aS ?aL ?_; (case aO => exact HO.out); (case aR => exact Kd.C_below HR2.out HB.out); (case aF => exact fun _ _ => trivial); (case aB => exact HB.out); (case aS => exact below_size HB.out); (case aL => have := HL1.out; have := HL2.out; simp; omega); intro v33 w33 ho hb hg hat; clear HB HO; have HB := Aside0.mk hb; have HO := Aside0.mk ho; clear hb ho hg hat))
     go_roundg 0
     case measure => omega
     case rel => exact ⟨2, by omega, by omega, by go_num, ⟨by rw [if_neg (by decide), if_neg (by decide)]; exact HO.out⟩, HB⟩
    ·obtain ⟨y, hy⟩ : ∃ y, y = l1 ++ l2 := ⟨_, rfl⟩
     replace HO := Aside0.mk (show Kd.R (Kd.int .i64) 3 wr w.heap.size (fun _ => True) u6 y by have := HO.out; rw [if_neg (by decide), if_neg (by decide), <- hy] at this; exact this)
     have HY := Aside0.mk hy
     clear hy
     obtain ⟨Ao, co, eo⟩ := Kd.R_slice HO.out
     subst eo
     go_wp2
     go_ret
     exact ⟨_, rfl, by rw [<- HY.out]; exact HO.out, HB.out⟩
def spWith (p : Int × Int) (n : Int) : Int × Int := if p.2 < p.1 then (n, n) else (mn p.1 n, mx p.2 n)
def spPut (n : Int) (l : List (Int × Int)) (r : Int) : List (Int × Int) := l.set r.toNat (spWith (l.getD r.toNat (0, -1)) n)
def spLine (xs : List (List Int)) (code : List S44) (l : List (Int × Int)) (n : Nat) : List (Int × Int) := (xs.getD n [] ++ lvWrites (rd_T44 code n)).foldl (spPut n) l
def spLines (xs : List (List Int)) (code : List S44) (nk k : Nat) : List (Int × Int) := (List.range k).foldl (spLine xs code) (List.replicate nk (0, -1))
def spRes (xs : List (List Int)) (code : List S44) (nk : Nat) (params : List Int) : List (Int × Int) := params.foldl (spPut 0) (spLines xs code nk code.length)
def spRow (l : List (Int × Int)) : List Value := l.flatMap fun p => [.int .i64 p.1, .int .i64 p.2]
theorem spWith_f (a b n : Int) : span_Span_with.f a b n = some ((spWith (a, b) n).1, (spWith (a, b) n).2) := by
 unfold span_Span_with.f spWith
 split <;> rfl
theorem spRow_rep (n : Nat) : spCells n 0 (-1) = spRow (List.replicate n (0, -1)) := by
 unfold spCells spRow
 rw [List.flatMap_replicate]
theorem spRow_at : ∀ (l : List (Int × Int)) (r : Nat) (h : r < l.length), (spRow l)[r * 2]? = some (.int .i64 l[r].1) /\ (spRow l)[r * 2 + 1]? = some (.int .i64 l[r].2)
 | [], _, h => absurd h (by simp)
 | p :: t, 0, _ => by simp [spRow]
 | p :: t, r + 1, h => by
  have := spRow_at t r (by simpa using h)
  have e : spRow (p :: t) = [.int .i64 p.1, .int .i64 p.2] ++ spRow t := by simp [spRow]
  rw [e, show (r + 1) * 2 = r * 2 + 2 by omega]
  simpa [List.getElem?_append_right] using this
theorem spRow_set : ∀ (l : List (Int × Int)) (r : Nat) (p : Int × Int), r < l.length -> ((spRow l).set (r * 2) (.int .i64 p.1)).set (r * 2 + 1) (.int .i64 p.2) = spRow (l.set r p)
 | [], _, _, h => absurd h (by simp)
 | q :: t, 0, p, _ => by simp [spRow]
 | q :: t, r + 1, p, h => by
  have := spRow_set t r p (by simpa using h)
  have e : spRow (q :: t) = [.int .i64 q.1, .int .i64 q.2] ++ spRow t := by simp [spRow]
  have e2 : spRow ((q :: t).set (r + 1) p) = [.int .i64 q.1, .int .i64 q.2] ++ spRow (t.set r p) := by simp [spRow]
  rw [e, e2, <- this, show (r + 1) * 2 = r * 2 + 2 by omega]
  simp
theorem spPut_length (n : Int) (l : List (Int × Int)) (r : Int) : (spPut n l r).length = l.length := by simp [spPut]
theorem spFold_length (n : Int) : ∀ (rs : List Int) (l : List (Int × Int)), (rs.foldl (spPut n) l).length = l.length
 | [], _ => rfl
 | r :: t, l => by rw [List.foldl_cons, spFold_length n t, spPut_length]
structure SpSt (w0 w : World) (g1 go nk : Nat) (fc : Array Value) (l : List (Int × Int)) : Prop where
 hf : w.heap[g1]? = some (.cells fc 25 (0, 0))
 ho : w.heap[go]? = some (.cells (spRow l).toArray 39 (0, 0))
 ln : l.length = nk
 lo1 : w0.heap.size <= g1
 loo : w0.heap.size <= go
 below : Below w0.heap.size w0 w
theorem SpSt.step {w0 w w' : World} {g1 go nk : Nat} {fc : Array Value} {l : List (Int × Int)} (h : SpSt w0 w g1 go nk fc l) (hb : Below w.heap.size w w') : SpSt w0 w' g1 go nk fc l :=
 ⟨blk_below h.hf hb, blk_below h.ho hb, h.ln, h.lo1, h.loo, below_step h.below hb⟩
theorem SpSt.put {w0 w : World} {g1 go nk : Nat} {fc : Array Value} {l : List (Int × Int)} (h : SpSt w0 w g1 go nk fc l) (r : Nat) (hr : r < nk) (p : Int × Int) :
  SpSt w0 ((w.setCell ⟨go, r * 2, none⟩ (.int .i64 p.1)).setCell ⟨go, r * 2 + 1, none⟩ (.int .i64 p.2)) g1 go nk fc (l.set r p) := by
 have hne := blk_ne h.hf h.ho (by decide)
 refine ⟨blk_far (blk_far h.hf hne _) hne _, ?_, by rw [List.length_set]; exact h.ln, h.lo1, h.loo, below_set (below_set h.below h.loo) h.loo⟩
 refine blk_put (blk_put h.ho (r * 2) _ rfl) (r * 2 + 1) _ ?_
 rw [List.setIfInBounds_toArray, List.setIfInBounds_toArray, spRow_set l r p (by rw [h.ln]; exact hr)]
theorem lists_at {w : World} {A : Option Addr} {n : Nat} {xs : List (List Int)} (h : kInts.C w A n xs) (hn : n = xs.length) (k : Nat) (hk : k < xs.length) :
  ∃ ad A' c', A = some ad /\ w.cell? (ad.add k) = some (.slice A' (xs.getD k []).length c') /\ (Kd.int .i64).C w A' (xs.getD k []).length (xs.getD k []) := by
 obtain ⟨ad, e, hc⟩ := h.2.2 (by omega)
 have hg : xs[k]? = some (xs.getD k []) := by rw [List.getD_eq_getElem?_getD, List.getElem?_eq_getElem hk]; rfl
 obtain ⟨c, h1, ⟨A', c', hcs, hl, hC⟩, h3⟩ := hc k _ hg
 subst hcs
 have := h3 0 _ rfl
 rw [show k * kInts.sz + 0 = k by show k * 1 + 0 = k; omega] at this
 exact ⟨ad, A', c', e, this, hC⟩
def SpPost (l : List (Int × Int)) (nk : Nat) (w : World) (e : Ending) (w' : World) : Prop := ∃ g, e = .returned (.slice (some ⟨g, 0, none⟩) nk nk) /\ w'.heap[g]? = some (.cells (spRow l).toArray 39 (0, 0)) /\ l.length = nk /\ w.heap.size <= g /\ Below w.heap.size w w'
structure SpOk (xs : List (List Int)) (code : List S44) (nk : Nat) (params : List Int) : Prop where
 xl : xs.length = code.length
 xm : ∀ n, n < code.length -> ∀ r ∈ xs.getD n [], 0 <= r /\ r < nk
 xc : ∀ n, n < code.length -> (xs.getD n []).length <= 1000000
 wm : ∀ n, n < code.length -> ∀ r ∈ lvWrites (rd_T44 code n), 0 <= r /\ r < nk
 pm : ∀ r ∈ params, 0 <= r /\ r < nk
 pl : params.length <= 1000000
set_option maxHeartbeats 4000000 in
set_option maxRecDepth 100000 in
theorem spans_calls (nm : ByteArray) (A1 : Option Addr) (c1 : Nat) (l1 : List Int) (A2 : Option Addr) (c2 : Nat) (l2 : List Int) (A3 : Option Addr) (c3 : Nat) (l3 : List Int) (A4 : Option Addr) (c4 : Nat) (code : List S44) (w : World)
  (hr1 : Kd.C (Kd.int .i64) w A1 l1.length l1) (hc1 : l1.length <= c1) (hr2 : Kd.C (Kd.int .i64) w A2 l2.length l2) (hc2 : l2.length <= c2) (hr3 : Kd.C (Kd.int .i64) w A3 l3.length l3) (hc3 : l3.length <= c3) (hr4 : Kd.C k44 w A4 code.length code) (hc4 : code.length <= c4)
  (h64 : l2.length < 64) (hok : LvOk code) (K : Nat) (R : List Int) (hrun : lvRun code K (List.replicate (code.length + 1) 0) = some R) (hbits : ∀ x ∈ R, 0 <= x /\ x < 18446744073709551616) (hsp : SpOk (lvLists R code.length) code l2.length l1) (hT : TzTab w) (h1 : 0 < w.heap.size) :
  Calls Tryd.prog 14 #[.agg #[.string nm, .slice A1 l1.length c1, .slice A2 l2.length c2, .slice A3 l3.length c3, .slice A4 code.length c4]] w (SpPost (spRes (lvLists R code.length) code l2.length l1) l2.length w) := by
 have hu25 := Tryd.underlying25
 have hu39 := Tryd.underlying39
 have hu44 := Tryd.underlying44
 have HR1 := Aside0.mk hr1
 have HR2 := Aside0.mk hr2
 have HR3 := Aside0.mk hr3
 have HR4 := Aside0.mk hr4
 have HC1 := Aside0.mk hc1
 have HC2 := Aside0.mk hc2
 have HC3 := Aside0.mk hc3
 have HC4 := Aside0.mk hc4
 have HOK := Aside0.mk hok
 have HSP := Aside0.mk hsp
 have HSL := Aside0.mk (slive_calls nm A1 c1 l1 A2 c2 l2 A3 c3 l3 A4 c4 code)
 have HRUN := Aside0.mk hrun
 have HBITS := Aside0.mk hbits
 have HT := Aside0.mk hT
 have hcl : code.length <= 1000000 := hok.len
 clear hr1 hr2 hr3 hr4 hc1 hc2 hc3 hc4 hok hrun hbits hT hsp
 obtain ⟨xs, hxs⟩ : ∃ xs, xs = lvLists R code.length := ⟨_, rfl⟩
 rw [<- hxs] at HSP ⊢
 have HXS := Aside0.mk hxs
 clear hxs
 obtain ⟨fc, hfc⟩ : ∃ fc, fc = lvBox nm (.slice A1 l1.length c1) (.slice A2 l2.length c2) (.slice A3 l3.length c3) (.slice A4 code.length c4) := ⟨_, rfl⟩
 have HFC := Aside0.mk hfc
 clear hfc
 go_enter Tryd.func14, Tryd.ntmps14
 go_upto_region 1 with (fail)
 go_cut [3] (fun v3 wc => ∃ go, v3 = .slice (some ⟨go, 0, none⟩) l2.length l2.length /\ Aside0 (SpSt w wc w.heap.size go l2.length fc (List.replicate l2.length (0, -1))))
 case first =>
  go_wp2_with (first | (go_at_call 27; (with_reducible refine (rep_calls (w.heap.size + 1) l2.length _ (two_new w _ _) (by omega)).mono ?_); rintro e w15 ⟨go, rfl, hg, hlo, hb⟩; have HG := Aside0.mk hg; have HLO := Aside0.mk hlo; have HB := Aside0.mk hb; clear hg hlo hb))
  go_meet
  case rel =>
   have hs : w.heap.size <= ((w.alloc (.cells (lvBox nm (.slice A1 l1.length c1) (.slice A2 l2.length c2) (.slice A3 l3.length c3) (.slice A4 code.length c4)) 25)).alloc (.cells #[.int .i64 0, .int .i64 (-1)] 39)).heap.size := by simp; omega
   have hb2 : Below w.heap.size w ((w.alloc (.cells (lvBox nm (.slice A1 l1.length c1) (.slice A2 l2.length c2) (.slice A3 l3.length c3) (.slice A4 code.length c4)) 25)).alloc (.cells #[.int .i64 0, .int .i64 (-1)] 39)) := ((Below.refl _ _).alloc (Nat.le_refl _) _).alloc (by simp) _
   exact ⟨go, rfl, ⟨by rw [HFC.out]; exact blk_below (lv_al (heap_alloc_new w _) _) HB.out, by rw [<- spRow_rep]; exact HG.out, by simp, Nat.le_refl _, Nat.le_trans hs HLO.out, below_step hb2 HB.out⟩⟩
 case rest =>
  obtain ⟨go, rfl, HST⟩ := hcut
  go_upto_region 2 with (fail)
  go_cut [17, 18, 19] (fun v17 v18 v19 wc => ∃ Al cl, v17 = .slice Al xs.length cl /\ v18 = .int .i64 xs.length /\ v19 = .int .i64 0 /\ Aside0 (Kd.R kInts 22 wc w.heap.size (fun _ => True) (.slice Al xs.length cl) xs) /\ Aside0 (SpSt w wc w.heap.size go l2.length fc (List.replicate l2.length (0, -1))))
  case first =>
   have hg0 : wc.cell? ⟨w.heap.size, 0, none⟩ = some (.string nm) := (blk_cell HST.out.hf 0).trans (by rw [HFC.out]; rfl)
   have hg1 : wc.cell? ⟨w.heap.size, 1, none⟩ = some (.slice A1 l1.length c1) := (blk_cell HST.out.hf 1).trans (by rw [HFC.out]; rfl)
   have hg2 : wc.cell? ⟨w.heap.size, 2, none⟩ = some (.slice A2 l2.length c2) := (blk_cell HST.out.hf 2).trans (by rw [HFC.out]; rfl)
   have hg3 : wc.cell? ⟨w.heap.size, 3, none⟩ = some (.slice A3 l3.length c3) := (blk_cell HST.out.hf 3).trans (by rw [HFC.out]; rfl)
   have hg4 : wc.cell? ⟨w.heap.size, 4, none⟩ = some (.slice A4 code.length c4) := (blk_cell HST.out.hf 4).trans (by rw [HFC.out]; rfl)
   go_wp2_with (first | (go_at_call 11; (with_reducible refine (HSL.out _ (Kd.C_below HR1.out HST.out.below) HC1.out (Kd.C_below HR2.out HST.out.below) HC2.out (Kd.C_below HR3.out HST.out.below) HC3.out (Kd.C_below HR4.out HST.out.below) HC4.out h64 HOK.out K R HRUN.out HBITS.out (HT.out.below h1 HST.out.below) (Nat.lt_of_lt_of_le h1 HST.out.below.size)).mono ?_); rintro e w17 ⟨v17, rfl, hr, hb⟩; rw [<- HXS.out] at hr; obtain ⟨Al, cl, el⟩ := Kd.R_slice hr; subst el; have n0_ := Aside0.mk (HST.out.step hb); have n1_ := Aside0.mk (Kd.R_lower hr HST.out.below.size); clear HST hr hb; have HST := n0_; have HL := n1_; clear n0_ n1_))
   go_meet
   case rel => exact ⟨Al, cl, rfl, rfl, rfl, HL, HST⟩
  case rest =>
   clear HST
   obtain ⟨Al, cl, rfl, rfl, rfl, HL, HST⟩ := hcut
   have hxl : xs.length = code.length := HSP.out.xl
   have HXL := Aside0.mk hxl
   clear hxl
   go_wp2
   go_loopg [19] code.length (fun gg v19 w' => ∃ k : Nat, k <= code.length /\ code.length - k <= gg /\ v19 = .int .i64 k /\ Aside0 (Kd.R kInts 22 w' w.heap.size (fun _ => True) (.slice Al xs.length cl) xs) /\ Aside0 (SpSt w w' w.heap.size go l2.length fc (spLines xs code l2.length k)))
   case atStart => exact ⟨0, Nat.zero_le _, by omega, rfl, HL, HST⟩
   case round =>
    clear HL HST
    obtain ⟨k, hkl, hkg, rfl, HL, HST⟩ := hrel
    by_cases hlt : k < code.length
    ·obtain ⟨L, hL⟩ : ∃ y, y = spLines xs code l2.length k := ⟨_, rfl⟩
     rw [<- hL] at HST
     have HLL := Aside0.mk hL
     clear hL
     have hkx : k < xs.length := by have := HXL.out; omega
     have k0 : 0 <= (k : Int) := by omega
     have k1 : (k : Int) < (xs.length : Int) := by omega
     have k2 : (k : Int) < (code.length : Int) := by omega
     have k3 : (k : Int) <= 1000000 := by omega
     obtain ⟨adl, A', c', eal, hcl1, hCx⟩ := lists_at (Kd.R_reads' HL.out).2.2 rfl k hkx
     subst eal
     obtain ⟨xk, hxk⟩ : ∃ y, y = xs.getD k [] := ⟨_, rfl⟩
     rw [<- hxk] at hcl1 hCx
     have HXK := Aside0.mk hxk
     have HCX := Aside0.mk hCx
     obtain ⟨ad, A7, c7, A8, c8, ea, hx0, hx1, hx2, hx3, hx4, hx5, hx6, hx7, hx8, hx9, hl7, hi7, hl8, hi8⟩ := at_T44 HR4.out (k : Int) k0 k2
     subst ea
     rw [Int.toNat_natCast] at hx0 hx1 hx2 hx3 hx4 hx5 hx6 hx7 hx8 hx9
     replace hx0 := pw_cell_below HST.out.below hx0
     replace hx1 := pw_cell_below HST.out.below hx1
     replace hx2 := pw_cell_below HST.out.below hx2
     replace hx3 := pw_cell_below HST.out.below hx3
     replace hx4 := pw_cell_below HST.out.below hx4
     replace hx5 := pw_cell_below HST.out.below hx5
     replace hx6 := pw_cell_below HST.out.below hx6
     replace hx7 := pw_cell_below HST.out.below hx7
     replace hx8 := pw_cell_below HST.out.below hx8
     replace hx9 := pw_cell_below HST.out.below hx9
     have HI8 := Aside0.mk hi8
     have HL8 := Aside0.mk hl8
     obtain ⟨ws, hws⟩ : ∃ y, y = lvWrites (rd_T44 code k) := ⟨_, rfl⟩
     have HWS := Aside0.mk hws
     obtain ⟨ys, hys⟩ : ∃ y, y = xk ++ ws := ⟨_, rfl⟩
     have HYS := Aside0.mk hys
     have HYM := Aside0.mk (show ∀ r ∈ ys, 0 <= r /\ r < l2.length by
      intro r hr
      rw [hys, List.mem_append] at hr
      rcases hr with hr | hr
      ·rw [hxk] at hr; exact HSP.out.xm k hlt r hr
      ·rw [hws] at hr; exact HSP.out.wm k hlt r hr)
     have HYN := Aside0.mk (show ys.length <= 2000002 by
      rw [hys, List.length_append]
      have h1 := HSP.out.xc k hlt
      rw [<- hxk] at h1
      have h2 := lvWrites_len (rd_T44 code k)
      rw [<- hws] at h2
      have := HOK.out.outs k hlt
      omega)
     have HXC := Aside0.mk (show xk.length <= 1000001 by have h1 := HSP.out.xc k hlt; rw [<- hxk] at h1; omega)
     have HWC := Aside0.mk (show ws.length <= 1000001 by have h2 := lvWrites_len (rd_T44 code k); rw [<- hws] at h2; have := HOK.out.outs k hlt; omega)
     have hg4 : wr.cell? ⟨w.heap.size, 4, none⟩ = some (.slice (some ad) code.length c4) := (blk_cell HST.out.hf 4).trans (by rw [HFC.out]; rfl)
     clear hxk hCx hi7 hi8 hl7 hl8 hws hys
     go_upto_region 5 with (fail)
     go_cut [32, 33, 34] (fun v32 v33 v34 wc => ∃ Ac cc, v32 = .slice Ac ys.length cc /\ v33 = .int .i64 ys.length /\ v34 = .int .i64 0 /\ Aside0 (Kd.R (Kd.int .i64) 3 wc w.heap.size (fun _ => True) (.slice Ac ys.length cc) ys) /\ Aside0 (Kd.R kInts 22 wc w.heap.size (fun _ => True) (.slice (some adl) xs.length cl) xs) /\ Aside0 (SpSt w wc w.heap.size go l2.length fc L))
     case first =>
      go_wp2_with (first | (go_at_call 29; (with_reducible refine (wr_calls (rd_T44 code k) A7 (rd_T44 code k).f7.length c7 A8 c8 _ HL8.out (Kd.C_below HI8.out HST.out.below)).mono ?_); rintro e w30 ⟨Aw, cw, rfl, hcw, hrw, hb, _⟩; have n0_ := Aside0.mk (HST.out.step hb); have n1_ := Aside0.mk (Kd.R_below HL.out hb); have n2_ := Aside0.mk (Kd.C_below HCX.out hb); have n3_ := Aside0.mk hrw; clear HST HL HCX hrw hb hcw; have HST := n0_; have HL := n1_; have HCX := n2_; have RW := n3_; clear n0_ n1_ n2_ n3_; rw [<- HWS.out] at RW; rw [<- HWS.out]) | (go_at_call 28; (with_reducible refine (cc_calls w30.heap.size A' c' xk Aw cw ws _ (heap_alloc_new w30 _) (Kd.C_alloc HCX.out _) (Kd.C_alloc RW.out _) HXC.out HWC.out).mono ?_); rintro e w32 ⟨v32, rfl, hr, hb⟩; rw [<- HYS.out] at hr; obtain ⟨Ac, cc, ec⟩ := Kd.R_slice hr; subst ec; have hal := ((Below.refl w30.heap.size w30).alloc (Nat.le_refl _) (.cells #[.slice A' xk.length c', .slice Aw ws.length cw] 22)); have n0_ := Aside0.mk ((HST.out.step hal).step hb); have n1_ := Aside0.mk (Kd.R_below (Kd.R_below HL.out hal) hb); have n2_ := Aside0.mk (Kd.R_lower hr (HST.out.step hal).below.size); clear HST HL hr hb hal; have HST := n0_; have HL := n1_; have HY := n2_; clear n0_ n1_ n2_))
      go_meet
      case rel => exact ⟨Ac, cc, rfl, rfl, rfl, HY, HL, HST⟩
     case rest =>
      clear HL HST hx0 hx1 hx2 hx3 hx4 hx5 hx6 hx7 hx8 hx9 hg4 hcl1 HCX
      obtain ⟨Ac, cc, rfl, rfl, rfl, HY, HL, HST⟩ := hcut
      go_wp2
      go_loopg [34] ys.length (fun gg v34 w' => ∃ j : Nat, j <= ys.length /\ ys.length - j <= gg /\ v34 = .int .i64 j /\ Aside0 (Kd.R (Kd.int .i64) 3 w' w.heap.size (fun _ => True) (.slice Ac ys.length cc) ys) /\ Aside0 (Kd.R kInts 22 w' w.heap.size (fun _ => True) (.slice (some adl) xs.length cl) xs) /\ Aside0 (SpSt w w' w.heap.size go l2.length fc ((ys.take j).foldl (spPut (k : Int)) L)))
      case atStart => exact ⟨0, Nat.zero_le _, by omega, rfl, HY, HL, HST⟩
      case round =>
       clear HY HL HST
       obtain ⟨j, hjl, hjg, rfl, HY, HL, HST⟩ := hrel
       by_cases hjlt : j < ys.length
       ·obtain ⟨M, hM⟩ : ∃ y, y = (ys.take j).foldl (spPut (k : Int)) L := ⟨_, rfl⟩
        rw [<- hM] at HST
        have HM := Aside0.mk hM
        clear hM
        have j0 : 0 <= (j : Int) := by omega
        have j1 : (j : Int) < (ys.length : Int) := by omega
        have j2 : (j : Int) <= 2000002 := by have := HYN.out; omega
        obtain ⟨ady, eay, hxy⟩ := Kd.at_int (Kd.R_reads' HY.out).2.2 (j : Int) j0 j1
        subst eay
        obtain ⟨hr0, hr1⟩ := HYM.out _ (rd_mem' ys j hjlt)
        obtain ⟨r, hr⟩ := Int.eq_ofNat_of_zero_le hr0
        rw [Int.toNat_natCast, hr] at hxy
        rw [hr] at hr1
        have HRR := Aside0.mk hr
        have hr2 : r < l2.length := by omega
        clear hr hr0
        have hrM : r < M.length := by rw [HST.out.ln]; exact hr2
        obtain ⟨pa, hpa⟩ : ∃ y, M[r].1 = y := ⟨_, rfl⟩
        obtain ⟨pb, hpb⟩ : ∃ y, M[r].2 = y := ⟨_, rfl⟩
        have hs0 : wr.cell? ⟨go, r * 2, none⟩ = some (.int .i64 pa) := by rw [<- hpa]; exact (blk_cell HST.out.ho (r * 2)).trans (by simpa using (spRow_at M r hrM).1)
        have hs1 : wr.cell? ⟨go, r * 2 + 1, none⟩ = some (.int .i64 pb) := by rw [<- hpb]; exact (blk_cell HST.out.ho (r * 2 + 1)).trans (by simpa using (spRow_at M r hrM).2)
        have HPP := Aside0.mk (show M.getD r (0, -1) = (pa, pb) by rw [List.getD_eq_getElem?_getD, List.getElem?_eq_getElem hrM, <- hpa, <- hpb]; rfl)
        clear hpa hpb hrM
        obtain ⟨qa, hqa⟩ : ∃ y, (spWith (pa, pb) (k : Int)).1 = y := ⟨_, rfl⟩
        obtain ⟨qb, hqb⟩ : ∃ y, (spWith (pa, pb) (k : Int)).2 = y := ⟨_, rfl⟩
        have HWF := Aside0.mk (show span_Span_with.f pa pb (k : Int) = some (qa, qb) by rw [spWith_f, hqa, hqb])
        have HQ := Aside0.mk (show spWith (pa, pb) (k : Int) = (qa, qb) by rw [<- hqa, <- hqb])
        clear hqa hqb
        go_wp2_with (first | (go_at_call 30; (with_reducible refine (span_Span_with.calls pa pb (k : Int) qa qb _ HWF.out).mono ?_); rintro e w45 ⟨rfl, hb⟩; have n0_ := Aside0.mk (HST.out.step hb); have n1_ := Aside0.mk (Kd.R_below HL.out hb); have n2_ := Aside0.mk (Kd.R_below HY.out hb); clear HST HL HY hb; have HST := n0_; have HL := n1_; have HY := n2_; clear n0_ n1_ n2_; have hrM : r < M.length := (by rw [HST.out.ln]; exact hr2); have hs0 : w45.cell? ⟨go, r * 2, none⟩ = some (.int .i64 M[r].1) := (blk_cell HST.out.ho (r * 2)).trans (by simpa using (spRow_at M r hrM).1); have hs1 : w45.cell? ⟨go, r * 2 + 1, none⟩ = some (.int .i64 M[r].2) := (blk_cell HST.out.ho (r * 2 + 1)).trans (by simpa using (spRow_at M r hrM).2); have hf0 := blk_frozen HST.out.ho (r * 2); have hf1 := blk_frozen HST.out.ho (r * 2 + 1)))
        go_roundg (ys.length - (j + 1))
        case measure => omega
        case rel => exact ⟨j + 1, by omega, by omega, by go_num, ⟨Kd.R_set (Kd.R_set HY.out HST.out.ho (by decide) (r * 2) _) (blk_put HST.out.ho (r * 2) _ rfl) (by decide) (r * 2 + 1) _⟩, ⟨Kd.R_set (Kd.R_set HL.out HST.out.ho (by decide) (r * 2) _) (blk_put HST.out.ho (r * 2) _ rfl) (by decide) (r * 2 + 1) _⟩, ⟨by rw [foldl_take _ _ _ _ hjlt, <- HM.out, HRR.out]; unfold spPut; rw [Int.toNat_natCast, HPP.out, HQ.out]; exact HST.out.put r hr2 (qa, qb)⟩⟩
       ·obtain rfl : j = ys.length := by omega
        go_wp2
        go_roundg (code.length - (k + 1))
        case measure => omega
        case rel => exact ⟨k + 1, by omega, by omega, by go_num, HL, ⟨by unfold spLines; rw [List.range_succ, List.foldl_append]; show SpSt w wr w.heap.size go l2.length fc (spLine xs code (spLines xs code l2.length k) k); rw [<- HLL.out]; unfold spLine; rw [<- HXK.out, <- HWS.out, <- HYS.out]; have h2 := HST.out; rwa [List.take_length] at h2⟩⟩
    ·obtain rfl : k = code.length := by omega
     obtain ⟨L, hL⟩ : ∃ y, y = spLines xs code l2.length code.length := ⟨_, rfl⟩
     rw [<- hL] at HST
     have HLL := Aside0.mk hL
     clear hL
     have hg1 : wr.cell? ⟨w.heap.size, 1, none⟩ = some (.slice A1 l1.length c1) := (blk_cell HST.out.hf 1).trans (by rw [HFC.out]; rfl)
     have hd1 : decide ((code.length : Int) < (xs.length : Int)) = false := decide_eq_false (by have := HXL.out; omega)
     have hd2 : decide (code.length < xs.length) = false := decide_eq_false (by have := HXL.out; omega)
     go_wp2
     go_loopg [52] l1.length (fun gg v52 w' => ∃ j : Nat, j <= l1.length /\ l1.length - j <= gg /\ v52 = .int .i64 j /\ Aside0 (SpSt w w' w.heap.size go l2.length fc ((l1.take j).foldl (spPut 0) L)))
     case atStart => exact ⟨0, Nat.zero_le _, by omega, rfl, HST⟩
     case round =>
      clear HL HST hg1
      obtain ⟨j, hjl, hjg, rfl, HST⟩ := hrel
      by_cases hjlt : j < l1.length
      ·obtain ⟨M, hM⟩ : ∃ y, y = (l1.take j).foldl (spPut 0) L := ⟨_, rfl⟩
       rw [<- hM] at HST
       have HM := Aside0.mk hM
       clear hM
       have j0 : 0 <= (j : Int) := by omega
       have j1 : (j : Int) < (l1.length : Int) := by omega
       have j2 : (j : Int) <= 1000000 := by have := HSP.out.pl; omega
       obtain ⟨ady, eay, hxy⟩ := Kd.at_int HR1.out (j : Int) j0 j1
       subst eay
       replace hxy := pw_cell_below HST.out.below hxy
       obtain ⟨hr0, hr1⟩ := HSP.out.pm _ (rd_mem' l1 j hjlt)
       obtain ⟨r, hr⟩ := Int.eq_ofNat_of_zero_le hr0
       rw [Int.toNat_natCast, hr] at hxy
       rw [hr] at hr1
       have HRR := Aside0.mk hr
       have hr2 : r < l2.length := by omega
       clear hr hr0
       have hrM : r < M.length := by rw [HST.out.ln]; exact hr2
       obtain ⟨pa, hpa⟩ : ∃ y, M[r].1 = y := ⟨_, rfl⟩
       obtain ⟨pb, hpb⟩ : ∃ y, M[r].2 = y := ⟨_, rfl⟩
       have hs0 : wr.cell? ⟨go, r * 2, none⟩ = some (.int .i64 pa) := by rw [<- hpa]; exact (blk_cell HST.out.ho (r * 2)).trans (by simpa using (spRow_at M r hrM).1)
       have hs1 : wr.cell? ⟨go, r * 2 + 1, none⟩ = some (.int .i64 pb) := by rw [<- hpb]; exact (blk_cell HST.out.ho (r * 2 + 1)).trans (by simpa using (spRow_at M r hrM).2)
       have HPP := Aside0.mk (show M.getD r (0, -1) = (pa, pb) by rw [List.getD_eq_getElem?_getD, List.getElem?_eq_getElem hrM, <- hpa, <- hpb]; rfl)
       clear hpa hpb hrM
       obtain ⟨qa, hqa⟩ : ∃ y, (spWith (pa, pb) 0).1 = y := ⟨_, rfl⟩
       obtain ⟨qb, hqb⟩ : ∃ y, (spWith (pa, pb) 0).2 = y := ⟨_, rfl⟩
       have HWF := Aside0.mk (show span_Span_with.f pa pb 0 = some (qa, qb) by rw [spWith_f, hqa, hqb])
       have HQ := Aside0.mk (show spWith (pa, pb) 0 = (qa, qb) by rw [<- hqa, <- hqb])
       clear hqa hqb
       go_wp2_with (first | (go_at_call 30; (with_reducible refine (span_Span_with.calls pa pb 0 qa qb _ HWF.out).mono ?_); rintro e w45 ⟨rfl, hb⟩; have n0_ := Aside0.mk (HST.out.step hb); clear HST hb; have HST := n0_; clear n0_; have hrM : r < M.length := (by rw [HST.out.ln]; exact hr2); have hs0 : w45.cell? ⟨go, r * 2, none⟩ = some (.int .i64 M[r].1) := (blk_cell HST.out.ho (r * 2)).trans (by simpa using (spRow_at M r hrM).1); have hs1 : w45.cell? ⟨go, r * 2 + 1, none⟩ = some (.int .i64 M[r].2) := (blk_cell HST.out.ho (r * 2 + 1)).trans (by simpa using (spRow_at M r hrM).2); have hf0 := blk_frozen HST.out.ho (r * 2); have hf1 := blk_frozen HST.out.ho (r * 2 + 1)))
       go_roundg (l1.length - (j + 1))
       case measure => omega
       case rel => exact ⟨j + 1, by omega, by omega, by go_num, ⟨by rw [foldl_take _ _ _ _ hjlt, <- HM.out, HRR.out]; unfold spPut; rw [Int.toNat_natCast, HPP.out, HQ.out]; exact HST.out.put r hr2 (qa, qb)⟩⟩
      ·obtain rfl : j = l1.length := by omega
       go_wp2
       go_ret
       exact ⟨go, rfl, by unfold spRes; rw [<- HLL.out]; have h2 := HST.out.ho; rwa [List.take_length] at h2, by unfold spRes; rw [spFold_length, <- HLL.out]; have h2 := HST.out.ln; rw [spFold_length] at h2; exact h2, HST.out.loo, HST.out.below⟩
def awI (op dst a b n : Int) (args : List Int) : S44 := ⟨op, dst, a, b, n, 0, ⟨#[]⟩, args, [], 0⟩
def awCode : List S44 := [awI 1 0 0 0 0 [], awI 1 1 0 0 0 [], awI 3 2 0 1 1 [], awI 43 0 0 0 0 [2]]
def awR : List Int := [0, 1, 3, 4, 0]
theorem aw_run : lvRun awCode 2 (List.replicate (awCode.length + 1) 0) = some awR := by decide +kernel
theorem aw_mem1 : lvMem 1 = [0] := by rw [lvMem_odd 0 (by omega), lvMem_zero]; rfl
theorem aw_mem3 : lvMem 3 = [0, 1] := by rw [lvMem_odd 1 (by omega), aw_mem1]; rfl
theorem aw_mem4 : lvMem 4 = [2] := by rw [lvMem_double 2 (by omega), lvMem_double 1 (by omega), aw_mem1]; rfl
theorem aw_lists : lvLists awR awCode.length = [[], [0], [0, 1], [2]] := by
 show [lvMem 0, lvMem 1, lvMem 3, lvMem 4] = _
 rw [lvMem_zero, aw_mem1, aw_mem3, aw_mem4]
theorem four {P : Nat -> Prop} (h0 : P 0) (h1 : P 1) (h2 : P 2) (h3 : P 3) : ∀ n, n < 4 -> P n := by
 intro n hn
 have : n = 0 ∨ n = 1 ∨ n = 2 ∨ n = 3 := by omega
 rcases this with rfl | rfl | rfl | rfl <;> assumption
theorem aw_ok : LvOk awCode where
 len := by decide
 next := four (by decide +kernel) (by decide +kernel) (by decide +kernel) (by decide +kernel)
 wr := four (by decide +kernel) (by decide +kernel) (by decide +kernel) (by decide +kernel)
 rds := four (by decide +kernel) (by decide +kernel) (by decide +kernel) (by decide +kernel)
 args := four (by decide +kernel) (by decide +kernel) (by decide +kernel) (by decide +kernel)
 outs := four (by decide +kernel) (by decide +kernel) (by decide +kernel) (by decide +kernel)
theorem aw_sp : SpOk (lvLists awR awCode.length) awCode 3 [] := by
 rw [aw_lists]
 exact ⟨rfl, four (by decide +kernel) (by decide +kernel) (by decide +kernel) (by decide +kernel), four (by decide +kernel) (by decide +kernel) (by decide +kernel) (by decide +kernel), four (by decide +kernel) (by decide +kernel) (by decide +kernel) (by decide +kernel), by simp, by simp⟩
theorem aw_res : spRes (lvLists awR awCode.length) awCode 3 [] = [(0, 2), (1, 2), (2, 3)] := by
 rw [aw_lists]
 decide +kernel
def awV (i : S44) (v7 : Value) : List Value := [.int .i64 i.f0, .int .i64 i.f1, .int .i64 i.f2, .int .i64 i.f3, .int .u64 i.f4, .int .i64 i.f5, .string i.f6, v7, .slice none 0 0, .int .i64 i.f9]
def awCells (a1 : Nat) : Array Value := (awV (awI 1 0 0 0 0 []) (.slice none 0 0) ++ (awV (awI 1 1 0 0 0 []) (.slice none 0 0) ++ (awV (awI 3 2 0 1 1 []) (.slice none 0 0) ++ awV (awI 43 0 0 0 0 [2]) (.slice (some ⟨a1, 0, none⟩) 1 1)))).toArray
theorem nil_int (W : World) : (Kd.int .i64).C W none ([] : List Int).length [] := ⟨rfl, by simp, fun h => absurd h (by simp)⟩
theorem aw_K0 (W : World) (op dst a b n : Int) : k44.K W (awI op dst a b n []) (awV (awI op dst a b n []) (.slice none 0 0)) :=
 k44_mk W (awI op dst a b n []) (A7 := none) (c7 := 0) (Nat.le_refl _) (nil_int W) (A8 := none) (c8 := 0) (Nat.le_refl _) (nil_int W)
theorem aw_K1 {W : World} {a1 : Nat} (h : W.heap[a1]? = some (.cells #[.int .i64 2] 3 (0, 0))) (op dst a b n : Int) : k44.K W (awI op dst a b n [2]) (awV (awI op dst a b n [2]) (.slice (some ⟨a1, 0, none⟩) 1 1)) :=
 k44_mk W (awI op dst a b n [2]) (A7 := some ⟨a1, 0, none⟩) (c7 := 1) (Nat.le_refl _) (one_int h) (A8 := none) (c8 := 0) (Nat.le_refl _) (nil_int W)
theorem row_C {α : Type} {d : Kd α} {W : World} {g t : Nat} {cur : List Value} {xs : List α} (h : W.heap[g]? = some (.cells cur.toArray t (0, 0))) (hr : Reps (d.K W) d.sz xs cur) (hl : xs.length <= 9223372036854775807) : d.C W (some ⟨g, 0, none⟩) xs.length xs := by
 refine ⟨rfl, hl, fun _ => ⟨_, rfl, fun j p hj => ⟨(cur.drop (j * d.sz)).take d.sz, d.K_len (hr.2 j p hj), hr.2 j p hj, fun i u hi => ?_⟩⟩⟩
 have hi2 : i < d.sz := by have h1 := (List.getElem?_eq_some_iff.1 hi).1; rw [d.K_len (hr.2 j p hj)] at h1; exact h1
 rw [add_plain, blk_cell h, List.getElem?_toArray]
 rw [List.getElem?_take, if_pos hi2, List.getElem?_drop] at hi
 exact hi
theorem aw_C {W : World} {a1 a2 : Nat} (h1 : W.heap[a1]? = some (.cells #[.int .i64 2] 3 (0, 0))) (h2 : W.heap[a2]? = some (.cells (awCells a1) 44 (0, 0))) : Kd.C k44 W (some ⟨a2, 0, none⟩) 4 awCode := by
 refine row_C (cur := awV (awI 1 0 0 0 0 []) (.slice none 0 0) ++ (awV (awI 1 1 0 0 0 []) (.slice none 0 0) ++ (awV (awI 3 2 0 1 1 []) (.slice none 0 0) ++ awV (awI 43 0 0 0 0 [2]) (.slice (some ⟨a1, 0, none⟩) 1 1)))) h2 ?_ (by decide)
 have e : awV (awI 43 0 0 0 0 [2]) (.slice (some ⟨a1, 0, none⟩) 1 1) = awV (awI 43 0 0 0 0 [2]) (.slice (some ⟨a1, 0, none⟩) 1 1) ++ [] := by simp
 rw [e]
 exact Reps.front (aw_K0 W 1 0 0 0 0) rfl (Reps.front (aw_K0 W 1 1 0 0 0) rfl (Reps.front (aw_K0 W 3 2 0 1 1) rfl (Reps.front (aw_K1 h1 43 0 0 0 0) rfl (Reps.none _ _) rfl) rfl) rfl) rfl
theorem kinds_C {W : World} {a0 : Nat} (h : W.heap[a0]? = some (.cells #[.int .i64 1, .int .i64 1, .int .i64 1] 3 (0, 0))) : (Kd.int .i64).C W (some ⟨a0, 0, none⟩) 3 [1, 1, 1] := by
 refine row_C (d := Kd.int .i64) (cur := [.int .i64 1, .int .i64 1, .int .i64 1]) h ?_ (by decide)
 exact ⟨rfl, fun j p hj => by
  have hj3 : j < 3 := (List.getElem?_eq_some_iff.1 hj).1
  have : j = 0 ∨ j = 1 ∨ j = 2 := by omega
  rcases this with rfl | rfl | rfl <;> (have e : (1 : Int) = p := by simpa using hj) <;> subst e <;> rfl⟩
theorem aw_spans (a0 a1 a2 : Nat) (W : World) (h0 : W.heap[a0]? = some (.cells #[.int .i64 1, .int .i64 1, .int .i64 1] 3 (0, 0))) (h1 : W.heap[a1]? = some (.cells #[.int .i64 2] 3 (0, 0))) (h2 : W.heap[a2]? = some (.cells (awCells a1) 44 (0, 0))) (hT : TzTab W) (hp : 0 < W.heap.size) :
  Calls Tryd.prog 14 #[.agg #[.string ⟨#[102]⟩, .slice none 0 0, .slice (some ⟨a0, 0, none⟩) 3 3, .slice none 0 0, .slice (some ⟨a2, 0, none⟩) 4 4]] W (SpPost [(0, 2), (1, 2), (2, 3)] 3 W) := by
 have := spans_calls ⟨#[102]⟩ none 0 [] (some ⟨a0, 0, none⟩) 3 [1, 1, 1] none 0 [] (some ⟨a2, 0, none⟩) 4 awCode W (nil_int W) (Nat.le_refl _) (kinds_C h0) (Nat.le_refl _) (nil_int W) (Nat.le_refl _) (aw_C h1 h2) (Nat.le_refl _) (by decide) aw_ok 2 awR aw_run (by decide) aw_sp hT hp
 have e := aw_res
 rw [show ([1, 1, 1] : List Int).length = 3 from rfl, e] at this
 exact this
theorem three_new (W : World) (A B C : Obj) : (((W.alloc A).alloc B).alloc C).heap[W.heap.size + 1 + 1]? = some C := by
 have := two_new (W.alloc A) B C
 rw [show (W.alloc A).heap.size = W.heap.size + 1 by simp] at this
 exact this
theorem three_below (w : World) (A B C : Obj) : Below w.heap.size w (((w.alloc A).alloc B).alloc C) := (((Below.refl _ _).alloc (Nat.le_refl _) _).alloc (by simp) _).alloc (by simp; omega) _
def AwPost (w : World) (e : Ending) (w' : World) : Prop := e = .returned (.bool true) /\ Below w.heap.size w w'
set_option maxHeartbeats 2000000 in
set_option maxRecDepth 100000 in
theorem awake_calls (w : World) (hT : TzTab w) (hp : 0 < w.heap.size) : Calls Tryd.prog 10 #[] w (AwPost w) := by
 have hu39 := Tryd.underlying39
 have hu44 := Tryd.underlying44
 have hu25 := Tryd.underlying25
 have HT := Aside0.mk hT
 clear hT
 go_enter Tryd.func10, Tryd.ntmps10
 go_wp2_with (first | (go_at_call 14; (with_reducible refine (aw_spans w.heap.size (w.heap.size + 1) (w.heap.size + 1 + 1) _ ?h0 ?h1 ?h2 ?h3 ?h4).mono ?_); (case h0 => exact lv_al (lv_al (heap_alloc_new w _) _) _); (case h1 => exact lv_al (two_new w _ _) _); (case h2 => exact three_new w _ _ _); (case h3 => exact HT.out.below hp (three_below w _ _ _)); (case h4 => simp); rintro e w10 ⟨g, rfl, hg, hl, hlo, hb⟩; have HB := Aside0.mk (below_step (three_below w _ _ _) hb); have hs0 : w10.cell? ⟨g, 0, none⟩ = some (.int .i64 0) := (blk_cell hg 0).trans rfl; have hs1 : w10.cell? ⟨g, 1, none⟩ = some (.int .i64 2) := (blk_cell hg 1).trans rfl; have hs2 : w10.cell? ⟨g, 2, none⟩ = some (.int .i64 1) := (blk_cell hg 2).trans rfl; have hs3 : w10.cell? ⟨g, 3, none⟩ = some (.int .i64 2) := (blk_cell hg 3).trans rfl; have hs4 : w10.cell? ⟨g, 4, none⟩ = some (.int .i64 2) := (blk_cell hg 4).trans rfl; have hs5 : w10.cell? ⟨g, 5, none⟩ = some (.int .i64 3) := (blk_cell hg 5).trans rfl; clear hg hl hlo hb))
 go_ret
 exact ⟨rfl, HB.out⟩
end Go.Proofs.YtjfleaekljapeaaDoor.K
