import Derived.Test.YtjfleaekljapeaaDoorK0
import Derived.Test.YtjfleaekljapeaaDoorFlowA
import Derived.Deep.DeepMust
import Derived.Test.YtjfleaekljapeaaDoorProg
import Derived.Below
import Derived.Deep.Draws
import Derived.Deep.AppendLies
import Derived.Maps.AppendAt
import Derived.OwnWalk
import Derived.Laws.BytesArg
import Derived.Laws.MakeOwn
import Derived.Laws.OwnMore
import Derived.Deep.OwnRows
import Derived.Tactics
import Derived.Lib.ConvBytes
import Derived.Laws.Slices
import Derived.WalkKit
import Derived.KernelRfl
import Derived.RowKit3
import Derived.Deep.LoopGhost
import Derived.Deep.QuietTactic
import Derived.BigQuiet
import Derived.WideLaws
import Derived.Deep.DeepCutAuto
import Derived.Deep.CutBlock
import Derived.Deep.RegionHeld3
import Derived.Laws.Rows
import Derived.Lib.AppendStr
import Derived.ArgAppend
import Derived.Laws.IdiomCopy
import Derived.OrdersHeld
import Derived.Laws.BitsLemmas
import Derived.RowKit
import Derived.RegionTactic
import Derived.Deep.RegionWith
import Derived.Lib.Hide
import Derived.Test.YtjfleaekljapeaaDoorWWords
import Derived.Test.YtjfleaekljapeaaDoorWLast
import Derived.Test.YtjfleaekljapeaaDoorWTab
import Derived.Test.YtjfleaekljapeaaDoorWFour
import Derived.Test.YtjfleaekljapeaaDoorWQPut
import Derived.Test.YtjfleaekljapeaaDoorWApart
import Derived.Test.YtjfleaekljapeaaDoorWArr
import Derived.Test.YtjfleaekljapeaaDoorWZeros
import Derived.Test.YtjfleaekljapeaaDoorWFoot
import Derived.Test.YtjfleaekljapeaaDoorWKept
import Derived.Test.YtjfleaekljapeaaDoorWShare
import Derived.Test.YtjfleaekljapeaaDoorWN
import Derived.Test.YtjfleaekljapeaaDoorWEqStruct
import Derived.Test.YtjfleaekljapeaaDoorWRepsOne
import Derived.Test.YtjfleaekljapeaaDoorWGuard
import Derived.Test.YtjfleaekljapeaaDoorWNEv
import Derived.Test.YtjfleaekljapeaaDoorWMore
import Derived.Deep.RegionLaw
import Derived.Laws.CopyOwn
import Derived.Shelf.Spec.TrailingZeros
namespace Go.Proofs.YtjfleaekljapeaaDoor.K
open Go.RowKit Go.Proofs.YtjfleaekljapeaaDoorW.PrintWords Go.Proofs.YtjfleaekljapeaaDoorW.PrintLast Go.Proofs.YtjfleaekljapeaaDoorW.PrintMore
attribute [local go_sem] max2_int min2_int max_two min_two max_three min_three max_four min_four   -- for this text's walks alone
set_option linter.unusedVariables false
set_option linter.unusedSimpArgs false
set_option linter.unusedSectionVars false
/-! ### flow.Set.Members: function 25 -/
theorem and_pred_lt (x : Nat) (h : x ≠ 0) : x &&& (x - 1) < x := Nat.lt_of_le_of_lt Nat.and_le_right (by omega)
def lvMem (x : Nat) : List Int := if h : x = 0 then [] else (Lib.ctz 64 x : Int) :: lvMem (x &&& (x - 1))
termination_by x
decreasing_by exact and_pred_lt x h
theorem lvMem_zero : lvMem 0 = [] := by rw [lvMem]; rfl
theorem lvMem_pos (x : Nat) (h : x ≠ 0) : lvMem x = (Lib.ctz 64 x : Int) :: lvMem (x &&& (x - 1)) := by rw [lvMem, dif_neg h]
theorem and_pred_double (y : Nat) (h : y ≠ 0) : (2 * y) &&& (2 * y - 1) = 2 * (y &&& (y - 1)) := by
  apply Nat.eq_of_testBit_eq
  intro i
  cases i with
  | zero => simp [Nat.testBit_zero, Nat.testBit_and]
  | succ i =>
    rw [Nat.testBit_and, Nat.testBit_succ, Nat.testBit_succ, Nat.testBit_succ, Nat.mul_div_cancel_left _ (by omega), Nat.mul_div_cancel_left _ (by omega), Nat.testBit_and, show (2 * y - 1) / 2 = y - 1 by omega]
theorem and_pred_odd (y : Nat) : (2 * y + 1) &&& (2 * y + 1 - 1) = 2 * y := by
  apply Nat.eq_of_testBit_eq
  intro i
  cases i with
  | zero => simp [Nat.testBit_zero, Nat.testBit_and]
  | succ i =>
    rw [Nat.testBit_and, Nat.testBit_succ, Nat.testBit_succ, show (2 * y + 1) / 2 = y by omega, show (2 * y + 1 - 1) / 2 = y by omega, Bool.and_self, Nat.testBit_succ, Nat.mul_div_cancel_left _ (by omega)]
theorem ctzFrom_mono : ∀ (b x : Nat), x ≠ 0 → x < 2 ^ b → Lib.ctzFrom (b + 1) x = Lib.ctzFrom b x
  | 0, x, h, hx => by omega
  | b + 1, x, h, hx => by
    rw [Lib.ctzFrom]
    conv => rhs; rw [Lib.ctzFrom]
    split
    · rfl
    · rw [ctzFrom_mono b (x / 2) (by omega) (by rw [Nat.pow_succ] at hx; omega)]
theorem ctz_double (y : Nat) (h : y ≠ 0) (hy : 2 * y < 18446744073709551616) : Lib.ctz 64 (2 * y) = Lib.ctz 64 y + 1 := by
  unfold Lib.ctz
  rw [if_neg (by omega), if_neg h]
  conv => lhs; rw [Lib.ctzFrom]
  rw [if_neg (by omega), Nat.mul_div_cancel_left _ (by omega), ← ctzFrom_mono 63 y h (by omega), Nat.add_comm]
theorem ctz_odd (y : Nat) : Lib.ctz 64 (2 * y + 1) = 0 := by
  unfold Lib.ctz
  rw [if_neg (by omega), Lib.ctzFrom, if_pos (by omega)]
theorem lvMem_double (y : Nat) : 2 * y < 18446744073709551616 → lvMem (2 * y) = (lvMem y).map (· + 1) := by
  induction y using Nat.strongRecOn with
  | _ y ih =>
    intro hy
    by_cases h : y = 0
    · subst h
      simp [lvMem_zero]
    · have hlt := and_pred_lt y h
      rw [lvMem_pos (2 * y) (by omega), lvMem_pos y h, and_pred_double y h, ih _ hlt (by omega), ctz_double y h hy]
      simp
theorem lvMem_odd (y : Nat) (h : 2 * y + 1 < 18446744073709551616) : lvMem (2 * y + 1) = 0 :: (lvMem y).map (· + 1) := by
  rw [lvMem_pos _ (by omega), and_pred_odd, ctz_odd, lvMem_double y (by omega)]
  rfl
theorem lvMem_len : ∀ (n x : Nat), n ≤ 64 → x < 2 ^ n → (lvMem x).length ≤ n
  | 0, x, _, hx => by
    obtain rfl : x = 0 := by omega
    simp [lvMem_zero]
  | n + 1, x, hn, hx => by
    rw [Nat.pow_succ] at hx
    have h64 : 2 ^ n * 2 ≤ 18446744073709551616 := by
      have : 2 ^ (n + 1) ≤ 2 ^ 64 := Nat.pow_le_pow_right (by omega) hn
      rw [Nat.pow_succ] at this
      exact this
    have ih := lvMem_len n (x / 2) (by omega) (by omega)
    rcases Nat.mod_two_eq_zero_or_one x with h | h
    · rw [show x = 2 * (x / 2) by omega, lvMem_double _ (by omega), List.length_map]
      omega
    · rw [show x = 2 * (x / 2) + 1 by omega, lvMem_odd _ (by omega), List.length_cons, List.length_map]
      omega
theorem lvMem_nonneg (x : Nat) : ∀ a ∈ lvMem x, 0 ≤ a := by
  induction x using Nat.strongRecOn with
  | _ x ih =>
    intro a ha
    by_cases h : x = 0
    · subst h
      rw [lvMem_zero] at ha
      cases ha
    · rw [lvMem_pos x h, List.mem_cons] at ha
      rcases ha with rfl | ha
      · omega
      · exact ih _ (and_pred_lt x h) a ha
/-- A register is among the members just if its bit is set. -/
theorem mem_lvMem : ∀ (n x : Nat), n ≤ 64 → x < 2 ^ n → ∀ r : Nat, ((r : Int) ∈ lvMem x ↔ x.testBit r = true)
  | 0, x, _, hx, r => by
    obtain rfl : x = 0 := by omega
    simp [lvMem_zero]
  | n + 1, x, hn, hx, r => by
    rw [Nat.pow_succ] at hx
    have h64 : 2 ^ n * 2 ≤ 18446744073709551616 := by
      have : 2 ^ (n + 1) ≤ 2 ^ 64 := Nat.pow_le_pow_right (by omega) hn
      rw [Nat.pow_succ] at this
      exact this
    have ih := mem_lvMem n (x / 2) (by omega) (by omega)
    have hm : ∀ r : Nat, ((r : Int) ∈ (lvMem (x / 2)).map (· + 1)) ↔ ∃ s, r = s + 1 ∧ (x / 2).testBit s = true := by
      intro r
      rw [List.mem_map]
      constructor
      · rintro ⟨a, ha, e⟩
        have h0 : 0 ≤ a := lvMem_nonneg _ a ha
        obtain ⟨s, rfl⟩ := Int.eq_ofNat_of_zero_le h0
        exact ⟨s, by omega, (ih s).1 ha⟩
      · rintro ⟨s, rfl, hs⟩
        exact ⟨s, (ih s).2 hs, by omega⟩
    rcases Nat.mod_two_eq_zero_or_one x with h | h
    · conv => lhs; rw [show x = 2 * (x / 2) by omega, lvMem_double _ (by omega)]
      rw [hm]
      cases r with
      | zero => simp [Nat.testBit_zero, h]
      | succ r =>
        rw [Nat.testBit_succ]
        constructor
        · rintro ⟨s, e, hs⟩
          obtain rfl : r = s := by omega
          exact hs
        · intro hs
          exact ⟨r, rfl, hs⟩
    · conv => lhs; rw [show x = 2 * (x / 2) + 1 by omega, lvMem_odd _ (by omega)]
      rw [List.mem_cons, hm]
      cases r with
      | zero => simp [Nat.testBit_zero, h]
      | succ r =>
        rw [Nat.testBit_succ]
        constructor
        · rintro (e | ⟨s, e, hs⟩)
          · omega
          · obtain rfl : r = s := by omega
            exact hs
        · intro hs
          exact .inr ⟨r, rfl, hs⟩
def MemPost (x : Nat) (w : World) (e : Ending) (w' : World) : Prop := ∃ v : Value, e = .returned v ∧ Kd.R (Kd.int .i64) 3 w' w.heap.size (fun _ => True) v (lvMem x) ∧ Below w.heap.size w w'
theorem mm_info3 : (Tryd.prog.info? 3).map (fun i => (i.zero, i.size, i.bytes)) = some (some (.int .i64 0), 1, 8) := by kernel_rfl
set_option maxHeartbeats 2000000 in
set_option maxRecDepth 100000 in
theorem mem_calls (A : Option Addr) (c : Nat) (x : Nat) (hx : x < 18446744073709551616) (w : World) (hT : TzTab w) (h1 : 0 < w.heap.size) (hc : (Kd.int .u64).C w A 1 [(x : Int)]) : Calls Tryd.prog 25 #[.slice A 1 c] w (MemPost x w) := by
  obtain ⟨ad, ea, hcell⟩ := Kd.at_int (n := 1) hc 0 (by omega) (by omega)
  subst ea
  have hcell0 : w.cell? ad = some (.int .u64 (x : Int)) := by
    have e : ad.add 0 = ad := by unfold Addr.add; cases ad; simp
    rw [show (0 : Int).toNat = 0 from rfl, e] at hcell
    exact hcell
  have hcell1 : w.cell? (ad.add 0) = some (.int .u64 (x : Int)) := hcell
  have HLEN := Aside0.mk (lvMem_len 64 x (by omega) hx)
  have HX := Aside0.mk hx
  have HT := Aside0.mk hT
  have HC0 := Aside0.mk hcell0
  have HC1 := Aside0.mk hcell1
  have HB := Aside0.mk (Below.refl w.heap.size w)
  clear hx hT hc hcell hcell0 hcell1
  go_enter Tryd.func25, Tryd.ntmps25
  go_wp2
  go_loopg [3, 8] 1 (fun gg v3 v8 w' => ∃ (r : Nat) (u : Value), r ≤ 1 ∧ 1 - r ≤ gg ∧ v8 = .int .i64 r ∧ v3 = u ∧ Aside0 (Kd.R (Kd.int .i64) 3 w' w.heap.size (fun _ => True) u (if r = 0 then [] else lvMem x)) ∧ Aside0 (Below w.heap.size w w'))
  case atStart => exact ⟨0, _, by omega, by omega, rfl, rfl, ⟨Kd.R_nil _ _ _ _ _⟩, HB⟩
  case round =>
    clear HB
    obtain ⟨r, u, hr1, hrg, rfl, rfl, HO, HB⟩ := hrel
    have hr01 : r = 0 ∨ r = 1 := by omega
    clear hr1
    rcases hr01 with rfl | rfl
    · have HO0 := Aside0.mk (show Kd.R (Kd.int .i64) 3 wr w.heap.size (fun _ => True) u3 [] by have := HO.out; rwa [if_pos rfl] at this)
      clear HO
      have h0 : wr.cell? ad = some (.int .u64 (x : Int)) := pw_cell_below HB.out HC0.out
      have h01 : wr.cell? (ad.add 0) = some (.int .u64 (x : Int)) := pw_cell_below HB.out HC1.out
      go_wp2
      go_loopg [3, 5] x (fun gg v3 v5 w' => ∃ (y : Nat) (acc : List Int) (u : Value), y ≤ gg ∧ v5 = .int .u64 (y : Int) ∧ v3 = u ∧ Aside0 (y < 18446744073709551616) ∧ Aside0 (acc ++ lvMem y = lvMem x) ∧ Aside0 (Kd.R (Kd.int .i64) 3 w' w.heap.size (fun _ => True) u acc) ∧ Aside0 (Below w.heap.size w w'))
      case atStart => exact ⟨x, [], _, Nat.le_refl _, rfl, rfl, HX, ⟨rfl⟩, HO0, HB⟩
      case round =>
        clear HO0 HB h0 h01
        obtain ⟨y, acc, u, hyg, rfl, rfl, HY, HACC, HO, HB⟩ := hrel
        obtain ⟨Ao, co, eo⟩ := Kd.R_slice HO.out
        subst eo
        by_cases hy : y = 0
        · subst hy
          have HO2 := Aside0.mk (show Kd.R (Kd.int .i64) 3 wr w.heap.size (fun _ => True) (.slice Ao acc.length co) (if 1 = 0 then [] else lvMem x) by
            rw [if_neg (by decide), ← HACC.out, lvMem_zero, List.append_nil]; exact HO.out)
          go_wp2
          go_roundg 0
          case measure => omega
          case rel => exact ⟨1, _, by omega, by omega, by go_num, rfl, HO2, HB⟩
        · have hy1 : 1 ≤ (y : Int) := by omega
          have hyb1 : ((y : Int) != 0) = true := by simp; omega
          have hyb2 : ((y : Int) == 0) = false := by simp; omega
          obtain ⟨cz, hcz⟩ : ∃ k, Lib.ctz 64 y = k := ⟨_, rfl⟩
          have HCZ := Aside0.mk hcz
          have HTZ := Aside0.mk (tz_calls y HY.out)
          have HAL := Aside0.mk (show acc.length ≤ 64 by have h2 := HLEN.out; rw [← HACC.out, List.length_append] at h2; omega)
          have hczl : cz ≤ 64 := by rw [← hcz]; exact Nat.le_of_lt (Lib.lowest_bit 64 y hy HY.out).2
          have hand : Go.bits .and .u64 (y : Int) ((y : Int) - 1) = ((y &&& (y - 1) : Nat) : Int) := by
            have e : ((y : Int) - 1) = ((y - 1 : Nat) : Int) := by omega
            rw [e]; exact bits_and_u64_nat y (y - 1) HY.out (by have := HY.out; omega)
          have hw1 : IntKind.u64.wrap ((y : Int) - 1) = (y : Int) - 1 := by have := HY.out; rw [IntKind.wrap_u64]; omega
          have hlt := and_pred_lt y hy
          obtain ⟨y2, hy2⟩ : ∃ z, y &&& (y - 1) = z := ⟨_, rfl⟩
          rw [hy2] at hand hlt
          have HY2 := Aside0.mk hy2
          clear hcz hy2
          have h0c : 0 ≤ (cz : Int) := by omega
          have h1c : (cz : Int) ≤ 64 := by omega
          go_wp2_with (first | (go_at_call 45; (with_reducible refine (HTZ.out _ (HT.out.below h1 HB.out)).mono ?_); rintro e w19 ⟨rfl, rfl⟩; rw [HCZ.out]) | ((with_reducible refine gate_builtin (b := .append) (xs := #[.tmp 15, .tmp 21]) rfl ?_); at_builtin; refine Kd.R_append (Kd.int .i64) (w0 := w) w.heap.size rfl (.tmp 15) (.tmp 21) 22 3 (.int .i64 0) 8 rfl Tryd.underlying22 mm_info3 rfl (by decide) (by omega) (.slice Ao acc.length co) acc (cz : Int) [.int .i64 cz] (fun _ => True) (fun _ => False) rfl (by first | (go_simp; done) | (go_simp; rfl)) ?aP (fun _ hk => hk.elim) ?aF ?aO ?aB ?aS ?aL ?_; (case aP => rfl); (case aF => exact fun _ _ => trivial); (case aO => exact HO.out); (case aB => exact HB.out); (case aS => exact below_size HB.out); (case aL => have := HAL.out; omega); intro v22 w22 ho hb hg hat; clear HB HO; have HB := Aside0.mk hb; have HO := Aside0.mk ho; clear hb ho hg hat))
          go_roundg y2
          case measure => omega
          case rel => exact ⟨y2, acc ++ [(cz : Int)], _, Nat.le_refl _, rfl, rfl, ⟨by have := HY.out; omega⟩, ⟨by rw [← HACC.out, lvMem_pos y hy, HCZ.out, HY2.out, List.append_assoc]; rfl⟩, HO, HB⟩
    · obtain ⟨Ao, co, eo⟩ := Kd.R_slice HO.out
      subst eo
      have HO2 := Aside0.mk (show Kd.R (Kd.int .i64) 3 wr w.heap.size (fun _ => True) _ (lvMem x) by have := HO.out; rwa [if_neg (by decide)] at this)
      go_wp2
      go_ret
      exact ⟨_, rfl, HO2.out, HB.out⟩
end Go.Proofs.YtjfleaekljapeaaDoor.K
