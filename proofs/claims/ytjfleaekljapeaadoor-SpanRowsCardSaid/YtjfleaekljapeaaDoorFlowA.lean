import Derived.Test.YtjfleaekljapeaaDoorK0
import Derived.Deep.DeepMust
import Derived.Test.YtjfleaekljapeaaDoorProg
import Derived.Below
import Derived.Deep.Draws
import Derived.Deep.AppendLies
import Derived.Maps.AppendAt
import Derived.OwnWalk
import Derived.Laws.BytesArg
import Derived.Laws.MakeOwn
import Derived.Laws.OwnMore
import Derived.Deep.OwnRows
import Derived.Tactics
import Derived.Lib.ConvBytes
import Derived.Laws.Slices
import Derived.WalkKit
import Derived.KernelRfl
import Derived.RowKit3
import Derived.Deep.LoopGhost
import Derived.Deep.QuietTactic
import Derived.BigQuiet
import Derived.WideLaws
import Derived.Deep.DeepCutAuto
import Derived.Deep.CutBlock
import Derived.Deep.RegionHeld3
import Derived.Laws.Rows
import Derived.Lib.AppendStr
import Derived.ArgAppend
import Derived.Laws.IdiomCopy
import Derived.OrdersHeld
import Derived.Laws.BitsLemmas
import Derived.RowKit
import Derived.RegionTactic
import Derived.Deep.RegionWith
import Derived.Lib.Hide
import Derived.Test.YtjfleaekljapeaaDoorWWords
import Derived.Test.YtjfleaekljapeaaDoorWLast
import Derived.Test.YtjfleaekljapeaaDoorWTab
import Derived.Test.YtjfleaekljapeaaDoorWFour
import Derived.Test.YtjfleaekljapeaaDoorWQPut
import Derived.Test.YtjfleaekljapeaaDoorWApart
import Derived.Test.YtjfleaekljapeaaDoorWArr
import Derived.Test.YtjfleaekljapeaaDoorWZeros
import Derived.Test.YtjfleaekljapeaaDoorWFoot
import Derived.Test.YtjfleaekljapeaaDoorWKept
import Derived.Test.YtjfleaekljapeaaDoorWShare
import Derived.Test.YtjfleaekljapeaaDoorWN
import Derived.Test.YtjfleaekljapeaaDoorWEqStruct
import Derived.Test.YtjfleaekljapeaaDoorWRepsOne
import Derived.Test.YtjfleaekljapeaaDoorWGuard
import Derived.Test.YtjfleaekljapeaaDoorWNEv
import Derived.Test.YtjfleaekljapeaaDoorWMore
import Derived.Deep.RegionLaw
import Derived.Laws.CopyOwn
import Derived.Shelf.Spec.TrailingZeros
namespace Go.Proofs.YtjfleaekljapeaaDoor.K
open Go.RowKit Go.Proofs.YtjfleaekljapeaaDoorW.PrintWords Go.Proofs.YtjfleaekljapeaaDoorW.PrintLast Go.Proofs.YtjfleaekljapeaaDoorW.PrintMore
attribute [local go_sem] max2_int min2_int max_two min_two max_three min_three max_four min_four   -- for this text's walks alone
set_option linter.unusedVariables false
set_option linter.unusedSimpArgs false
set_option linter.unusedSectionVars false
/-! ### math/bits.TrailingZeros64: function 45 -/
def TzTab (w : World) : Prop := TabAt 0 Lib.deBruijn64tab w
theorem TzTab.below {B : Nat} {w w1 : World} (h : TzTab w) (hB : 0 < B) (hb : Below B w w1) : TzTab w1 := fun j hj => (hb.cell (p := ⟨0, j, none⟩) hB).trans (h j hj)
set_option maxHeartbeats 1000000 in
theorem tz_core (x k idx : Nat) (w : World) (hx0 : ((x : Int) == 0) = false)
    (key : IntKind.u64.wrap (bits BinOp.and IntKind.u64 (x : Int) (IntKind.u64.wrap (-(x : Int))) * 285870213051353865) / 288230376151711744 = (idx : Int))
    (hi : idx < 64) (hk : k < 64) (hcell : w.cell? ⟨0, idx, none⟩ = some (.int .u8 k)) :
    Calls Tryd.prog 45 #[.int .u64 x] w fun e w' => e = .returned (.int .i64 k) ∧ w' = w := by
  have hu118 := Tryd.underlying118
  go_enter Tryd.func45, Tryd.ntmps45
  go_wp2_with (simp only [key])
  go_ret
  exact ⟨rfl, rfl⟩
theorem tz_zero (w : World) : Calls Tryd.prog 45 #[.int .u64 0] w fun e w' => e = .returned (.int .i64 64) ∧ w' = w := by
  go_enter Tryd.func45, Tryd.ntmps45
  go_wp2
  go_ret
  exact ⟨rfl, rfl⟩
theorem tz_calls (x : Nat) (hx : x < 18446744073709551616) (w : World) (hT : TzTab w) : Calls Tryd.prog 45 #[.int .u64 x] w fun e w' => e = .returned (.int .i64 (Lib.ctz 64 x)) ∧ w' = w := by
  by_cases hx0 : x = 0
  · subst hx0
    exact tz_zero w
  · obtain ⟨hlow, hk⟩ := Lib.lowest_bit 64 x hx0 hx
    obtain ⟨hi, htab⟩ := Lib.deBruijn64_at _ hk
    have hcell := hT _ hi
    rw [htab] at hcell
    exact tz_core x _ _ w (by simp; omega) (tz64_key x _ hx hx0 hlow) hi hk hcell
/-! ### flow.Set.put: function 42, at a set of one word -/
def lvPut (x r : Int) (b : Bool) : Int := if b = true then Go.bits .or .u64 (Go.bits .andNot .u64 x (2 ^ r.toNat)) (2 ^ r.toNat) else Go.bits .andNot .u64 x (2 ^ r.toNat)
/-- Only the block g has been written. -/
structure OnlyAt (g : Nat) (w w' : World) : Prop where
  size : w.heap.size ≤ w'.heap.size
  far : ∀ k, k ≠ g → w'.heap[k]? = w.heap[k]?
  below : ∀ (B : Nat) (w0 : World), Below B w0 w → B ≤ g → Below B w0 w'
def PutPost (g : Nat) (x r : Int) (b : Bool) (w : World) (e : Ending) (w' : World) : Prop :=
  e = .returned (.tuple #[]) ∧ w'.heap[g]? = some (.cells #[.int .u64 (lvPut x r b)] 42 (0, 0)) ∧ OnlyAt g w w'
theorem and63 (r : Int) (h0 : 0 ≤ r) (h1 : r < 64) : Go.bits .and .i64 r 63 = r := by
  obtain ⟨n, rfl⟩ := Int.eq_ofNat_of_zero_le h0
  have hn : n < 64 := by omega
  have h : ∀ n : Fin 64, Go.bits .and .i64 ((n.val : Nat) : Int) 63 = ((n.val : Nat) : Int) := by decide +kernel
  exact h ⟨n, hn⟩
theorem shl64 (r : Int) (h0 : 0 ≤ r) (h1 : r < 64) : IntKind.u64.wrap (2 ^ r.toNat) = 2 ^ r.toNat := by
  obtain ⟨n, rfl⟩ := Int.eq_ofNat_of_zero_le h0
  have hn : n < 64 := by omega
  have h : ∀ n : Fin 64, IntKind.u64.wrap (2 ^ ((n.val : Nat) : Int).toNat) = 2 ^ ((n.val : Nat) : Int).toNat := by decide +kernel
  exact h ⟨n, hn⟩
theorem only_set (g : Nat) (w : World) (u : Value) : OnlyAt g w (w.setCell ⟨g, 0, none⟩ u).drew :=
  ⟨by simp [World.setCell], fun k hk => Below.heap_setCell w ⟨g, 0, none⟩ u k hk, fun B w0 h hB => (h.setCell hB _).drew⟩
theorem only_set2 (g : Nat) (w : World) (u v : Value) : OnlyAt g w ((w.setCell ⟨g, 0, none⟩ u).setCell ⟨g, 0, none⟩ v).drew.drew :=
  ⟨by simp [World.setCell], fun k hk => (Below.heap_setCell _ ⟨g, 0, none⟩ v k hk).trans (Below.heap_setCell w ⟨g, 0, none⟩ u k hk), fun B w0 h hB => ((h.setCell hB _).setCell hB _).drew.drew⟩
theorem OnlyAt.keep {g : Nat} {w w' : World} (h : OnlyAt g w w') : KeepBut w w' g none := ⟨h.size, fun i _ hi _ => h.far i hi⟩
theorem OnlyAt.cell {g : Nat} {w w' : World} (h : OnlyAt g w w') {a : Addr} {v : Value} (hc : w.cell? a = some v) (hne : a.block ≠ g) : w'.cell? a = some v := keep_cell h.keep hc hne
theorem OnlyAt.reads {α : Type} {enc : α → Value} {h1 : ∀ x, (enc x).oneCell' = true} (d : α) {g : Nat} {w w' : World} (h : OnlyAt g w w') {A : Option Addr} {n : Nat} {xs : List α} (hc : (Kd.scalar enc h1).C w A n xs) (hf : ∀ ad, A = some ad → 0 < n → ad.block ≠ g) : (Kd.scalar enc h1).C w' A n xs :=
  Kd.C_keep d hc h.keep hf
theorem only_row (g : Nat) (w : World) (cs : Array Value) : OnlyAt g w (w.setRow g cs) :=
  ⟨by simp [World.setRow], fun k hk => by show (w.heap.modify g _)[k]? = _; rw [Array.getElem?_modify, if_neg (fun e => hk e.symm)], fun B w0 h hB => below_setRow h hB cs⟩
theorem only_one (g : Nat) (w : World) (u : Value) : OnlyAt g w (w.setCell ⟨g, 0, none⟩ u) :=
  ⟨by simp [World.setCell], fun k hk => Below.heap_setCell w ⟨g, 0, none⟩ u k hk, fun B w0 h hB => h.setCell hB _⟩
set_option maxHeartbeats 2000000 in
theorem put_calls (g : Nat) (x r : Int) (b : Bool) (w : World) (hg : w.heap[g]? = some (.cells #[.int .u64 x] 42 (0, 0))) (h0 : 0 ≤ r) (h1 : r < 64) :
    Calls Tryd.prog 42 #[.slice (some ⟨g, 0, none⟩) 1 1, .int .i64 r, .bool b] w (PutPost g x r b w) := by
  have hq : r / 64 = 0 := by omega
  have ha := and63 r h0 h1
  obtain ⟨s, hs⟩ : ∃ s : Int, (2 : Int) ^ r.toNat = s := ⟨_, rfl⟩
  have hs1 : IntKind.u64.wrap (2 ^ r.toNat) = s := (shl64 r h0 h1).trans hs
  have hm : min r.toNat 64 = r.toNat := by omega
  have hs2 : IntKind.u64.wrap (1 * 2 ^ r.toNat) = s := by rw [Int.one_mul]; exact hs1
  have hc : w.cell? ⟨g, 0, none⟩ = some (.int .u64 x) := (blk_cell hg 0).trans rfl
  have hf := blk_frozen hg 0
  have HG := Aside0.mk hg
  have HS := Aside0.mk hs
  clear hs
  have hr1 : r ≤ 64 := by omega
  cases b with
  | false =>
    go_enter Tryd.func42, Tryd.ntmps42
    go_wp2
    go_region
    all_goals go_wp2
    all_goals
      refine bodyPost_ret (v := .tuple #[]) (by simp [results, Tryd.results42, go_sem]) rfl ⟨rfl, ?_, only_set g w _⟩
      unfold lvPut
      rw [if_neg (by decide), HS.out]
      exact blk_put (cs := #[.int .u64 x]) HG.out 0 _ rfl
  | true =>
    go_enter Tryd.func42, Tryd.ntmps42
    go_wp2
    go_region
    all_goals go_wp2
    all_goals go_region
    all_goals go_wp2
    all_goals
      refine bodyPost_ret (v := .tuple #[]) (by simp [results, Tryd.results42, go_sem]) rfl ⟨rfl, ?_, only_set2 g w _ _⟩
      unfold lvPut
      rw [if_pos rfl, HS.out]
      exact blk_put (cs := #[.int .u64 (Go.bits .andNot .u64 x s)]) (blk_put (cs := #[.int .u64 x]) HG.out 0 _ rfl) 0 _ rfl
theorem one_int {W : World} {g t : Nat} {k : IntKind} {v : Int} (h : W.heap[g]? = some (.cells #[.int k v] t (0, 0))) : (Kd.int k).C W (some ⟨g, 0, none⟩) [v].length [v] :=
  ⟨rfl, by simp, fun _ => ⟨_, rfl, fun j p hj => by
    obtain rfl : j = 0 := by have := (List.getElem?_eq_some_iff.1 hj).1; simp at this; exact this
    have e : v = p := by simpa using hj
    subst e
    refine ⟨[.int k v], rfl, rfl, fun i u hi => ?_⟩
    obtain rfl : i = 0 := by have := (List.getElem?_eq_some_iff.1 hi).1; simp at this; exact this
    have e : Value.int k v = u := by simpa using hi
    subst e
    exact (blk_cell h 0).trans rfl⟩⟩
theorem two_new (W : World) (A B : Obj) : ((W.alloc A).alloc B).heap[W.heap.size + 1]? = some B := by
  have := heap_alloc_new (W.alloc A) B
  rw [show (W.alloc A).heap.size = W.heap.size + 1 by simp] at this
  exact this
/-! ### flow.Writes: function 29 -/
def lvWop (op : Int) : Bool := op == 1 || (op == 2 || (op == 3 || (op == 4 || (op == 21 || (op == 30 || (op == 31 || (op == 32 || (op == 33 || op == 35))))))))
def lvWrites (i : S44) : List Int := if lvWop i.f0 then [i.f1] else i.f8
def WrPost (i : S44) (A8 : Option Addr) (w : World) (e : Ending) (w' : World) : Prop := ∃ (A : Option Addr) (c : Nat), e = .returned (.slice A (lvWrites i).length c) ∧ (lvWrites i).length ≤ c ∧ (Kd.int .i64).C w' A (lvWrites i).length (lvWrites i) ∧ Below w.heap.size w w' ∧
    ∀ g, (∀ ad, A8 = some ad → 0 < i.f8.length → ad.block ≠ g) → g < w.heap.size → ∀ ad, A = some ad → 0 < (lvWrites i).length → ad.block ≠ g
set_option maxHeartbeats 2000000 in
theorem wr_yes (i : S44) (v7 v8 : Value) (A8' : Option Addr) (h7 : ∃ A n c, v7 = .slice A n c) (h8 : ∃ A n c, v8 = .slice A n c) (w : World) (op : Int) (h : i.f0 = op) (ho : op = 1 ∨ op = 2 ∨ op = 3 ∨ op = 4 ∨ op = 21 ∨ op = 30 ∨ op = 31 ∨ op = 32 ∨ op = 33 ∨ op = 35) :
    Calls Tryd.prog 29 #[.agg #[.int .i64 op, .int .i64 i.f1, .int .i64 i.f2, .int .i64 i.f3, .int .u64 i.f4, .int .i64 i.f5, .string i.f6, v7, v8, .int .i64 i.f9]] w (WrPost i A8' w) := by
  obtain ⟨A7, n7, c7, rfl⟩ := h7
  obtain ⟨A8, n8, c8, rfl⟩ := h8
  have hu44 := Tryd.underlying44
  have hw : lvWrites i = [i.f1] := by
    unfold lvWrites lvWop
    rw [h]
    rcases ho with rfl | rfl | rfl | rfl | rfl | rfl | rfl | rfl | rfl | rfl <;> rfl
  have HW := Aside0.mk hw
  clear hw h
  rcases ho with rfl | rfl | rfl | rfl | rfl | rfl | rfl | rfl | rfl | rfl
  all_goals
    go_enter Tryd.func29, Tryd.ntmps29
    go_wp2
    go_ret
    unfold WrPost
    rw [HW.out]
    exact ⟨_, _, rfl, Nat.le_refl _, one_int (two_new w _ _), ((Below.refl _ _).alloc (Nat.le_refl _) _).alloc (by simp) _, fun g _ hg ad e _ => by injection e with e; rw [← e]; show w.heap.size + 1 ≠ g; omega⟩
set_option maxHeartbeats 2000000 in
theorem wr_no (i : S44) (v7 : Value) (h7 : ∃ A n c, v7 = .slice A n c) (A8 : Option Addr) (c8 : Nat) (w : World) (hl : i.f8.length ≤ c8) (hc : (Kd.int .i64).C w A8 i.f8.length i.f8) (h : lvWop i.f0 = false) :
    Calls Tryd.prog 29 #[.agg #[.int .i64 i.f0, .int .i64 i.f1, .int .i64 i.f2, .int .i64 i.f3, .int .u64 i.f4, .int .i64 i.f5, .string i.f6, v7, .slice A8 i.f8.length c8, .int .i64 i.f9]] w (WrPost i A8 w) := by
  obtain ⟨A7, n7, c7, rfl⟩ := h7
  have hu44 := Tryd.underlying44
  have HW := Aside0.mk (show lvWrites i = i.f8 by unfold lvWrites; rw [h]; rfl)
  have HL := Aside0.mk hl
  have HC := Aside0.mk hc
  unfold lvWop at h
  simp only [Bool.or_eq_false_iff] at h
  obtain ⟨h1, h2, h3, h4, h5, h6, h8, h9, h10, h11⟩ := h
  clear hl hc
  go_enter Tryd.func29, Tryd.ntmps29
  go_wp2
  go_ret
  unfold WrPost
  rw [HW.out]
  exact ⟨_, _, rfl, HL.out, Kd.C_alloc HC.out _, (Below.refl _ _).alloc (Nat.le_refl _) _, fun g h _ => h⟩
theorem wr_calls (i : S44) (A7 : Option Addr) (n7 c7 : Nat) (A8 : Option Addr) (c8 : Nat) (w : World) (hl : i.f8.length ≤ c8) (hc : (Kd.int .i64).C w A8 i.f8.length i.f8) :
    Calls Tryd.prog 29 #[.agg #[.int .i64 i.f0, .int .i64 i.f1, .int .i64 i.f2, .int .i64 i.f3, .int .u64 i.f4, .int .i64 i.f5, .string i.f6, .slice A7 n7 c7, .slice A8 i.f8.length c8, .int .i64 i.f9]] w (WrPost i A8 w) := by
  cases h : lvWop i.f0 with
  | false => exact wr_no i _ ⟨A7, n7, c7, rfl⟩ A8 c8 w hl hc h
  | true =>
    refine wr_yes i _ _ A8 ⟨A7, n7, c7, rfl⟩ ⟨A8, _, c8, rfl⟩ w i.f0 rfl ?_
    unfold lvWop at h
    simpa using h
end Go.Proofs.YtjfleaekljapeaaDoor.K
