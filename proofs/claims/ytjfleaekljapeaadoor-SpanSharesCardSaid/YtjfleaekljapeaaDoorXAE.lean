import Derived.Test.YtjfleaekljapeaaDoorXAD
import Derived.Deep.DeepMust
import Derived.Test.YtjfleaekljapeaaDoorProg
import Derived.Below
import Derived.Deep.Draws
import Derived.Deep.AppendLies
import Derived.Maps.AppendAt
import Derived.OwnWalk
import Derived.Laws.BytesArg
import Derived.Laws.MakeOwn
import Derived.Laws.OwnMore
import Derived.Deep.OwnRows
import Derived.Tactics
import Derived.Lib.ConvBytes
import Derived.Laws.Slices
import Derived.WalkKit
import Derived.KernelRfl
import Derived.RowKit3
import Derived.Deep.LoopGhost
import Derived.Deep.QuietTactic
import Derived.BigQuiet
import Derived.WideLaws
import Derived.Deep.DeepCutAuto
import Derived.Deep.CutBlock
import Derived.Deep.RegionHeld3
import Derived.Deep.MidRow
import Derived.Laws.Rows
import Derived.Lib.AppendStr
import Derived.ArgAppend
import Derived.Laws.IdiomCopy
import Derived.OrdersHeld
import Derived.Laws.BitsLemmas
import Derived.RowKit
import Derived.RegionTactic
import Derived.Deep.RegionWith
import Derived.Lib.Hide
import Derived.Test.YtjfleaekljapeaaDoorXAA
import Derived.Test.YtjfleaekljapeaaDoorXAB
import Derived.Test.YtjfleaekljapeaaDoorXAC
import Derived.Deep.RegionLaw
import Derived.Laws.CopyOwn
import Derived.Shelf.Spec.TrailingZeros
namespace Go.Proofs.YtjfleaekljapeaaDoor.K
open Go.RowKit Go.Proofs.YtjfleaekljapeaaDoorW.PrintWords Go.Proofs.YtjfleaekljapeaaDoorW.PrintLast Go.Proofs.YtjfleaekljapeaaDoorW.PrintMore
attribute [local go_sem] max2_int min2_int max_two min_two max_three min_three max_four min_four   -- for this text's walks alone
set_option linter.unusedVariables false
set_option linter.unusedSimpArgs false
set_option linter.unusedSectionVars false
def TzTab (w : World) : Prop := TabAt 0 Lib.deBruijn64tab w
theorem TzTab.below {B : Nat} {w w1 : World} (h : TzTab w) (hB : 0 < B) (hb : Below B w w1) : TzTab w1 := fun j hj => (hb.cell (p := ⟨0, j, none⟩) hB).trans (h j hj)
set_option maxHeartbeats 1000000 in
theorem tz_core (x k idx : Nat) (w : World) (hx0 : ((x : Int) == 0) = false)
  (key : IntKind.u64.wrap (bits BinOp.and IntKind.u64 (x : Int) (IntKind.u64.wrap (-(x : Int))) * 285870213051353865) / 288230376151711744 = (idx : Int))
  (hi : idx < 64) (hk : k < 64) (hcell : w.cell? ⟨0, idx, none⟩ = some (.int .u8 k)) :
  Calls Tryd.prog 45 #[.int .u64 x] w fun e w' => e = .returned (.int .i64 k) /\ w' = w := by
 have hu118 := Tryd.underlying118
 go_enter Tryd.func45, Tryd.ntmps45
 go_wp2_with (simp only [key])
 go_ret
 exact ⟨rfl, rfl⟩
theorem tz_zero (w : World) : Calls Tryd.prog 45 #[.int .u64 0] w fun e w' => e = .returned (.int .i64 64) /\ w' = w := by
 go_enter Tryd.func45, Tryd.ntmps45
 go_wp2
 go_ret
 exact ⟨rfl, rfl⟩
theorem tz_calls (x : Nat) (hx : x < 18446744073709551616) (w : World) (hT : TzTab w) : Calls Tryd.prog 45 #[.int .u64 x] w fun e w' => e = .returned (.int .i64 (Lib.ctz 64 x)) /\ w' = w := by
 by_cases hx0 : x = 0
 ·subst hx0
  exact tz_zero w
 ·obtain ⟨hlow, hk⟩ := Lib.lowest_bit 64 x hx0 hx
  obtain ⟨hi, htab⟩ := Lib.deBruijn64_at _ hk
  have hcell := hT _ hi
  rw [htab] at hcell
  exact tz_core x _ _ w (by simp; omega) (tz64_key x _ hx hx0 hlow) hi hk hcell
def lvPut (x r : Int) (b : Bool) : Int := if b = true then Go.bits .or .u64 (Go.bits .andNot .u64 x (2 ^ r.toNat)) (2 ^ r.toNat) else Go.bits .andNot .u64 x (2 ^ r.toNat)
structure OnlyAt (g : Nat) (w w' : World) : Prop where
 size : w.heap.size <= w'.heap.size
 far : ∀ k, k ≠ g -> w'.heap[k]? = w.heap[k]?
 below : ∀ (B : Nat) (w0 : World), Below B w0 w -> B <= g -> Below B w0 w'
def PutPost (g : Nat) (x r : Int) (b : Bool) (w : World) (e : Ending) (w' : World) : Prop :=
 e = .returned (.tuple #[]) /\ w'.heap[g]? = some (.cells #[.int .u64 (lvPut x r b)] 42 (0, 0)) /\ OnlyAt g w w'
theorem and63 (r : Int) (h0 : 0 <= r) (h1 : r < 64) : Go.bits .and .i64 r 63 = r := by
 obtain ⟨n, rfl⟩ := Int.eq_ofNat_of_zero_le h0
 have hn : n < 64 := by omega
 have h : ∀ n : Fin 64, Go.bits .and .i64 ((n.val : Nat) : Int) 63 = ((n.val : Nat) : Int) := by decide +kernel
 exact h ⟨n, hn⟩
theorem shl64 (r : Int) (h0 : 0 <= r) (h1 : r < 64) : IntKind.u64.wrap (2 ^ r.toNat) = 2 ^ r.toNat := by
 obtain ⟨n, rfl⟩ := Int.eq_ofNat_of_zero_le h0
 have hn : n < 64 := by omega
 have h : ∀ n : Fin 64, IntKind.u64.wrap (2 ^ ((n.val : Nat) : Int).toNat) = 2 ^ ((n.val : Nat) : Int).toNat := by decide +kernel
 exact h ⟨n, hn⟩
theorem only_set (g : Nat) (w : World) (u : Value) : OnlyAt g w (w.setCell ⟨g, 0, none⟩ u).drew :=
 ⟨by simp [World.setCell], fun k hk => Below.heap_setCell w ⟨g, 0, none⟩ u k hk, fun B w0 h hB => (h.setCell hB _).drew⟩
theorem only_set2 (g : Nat) (w : World) (u v : Value) : OnlyAt g w ((w.setCell ⟨g, 0, none⟩ u).setCell ⟨g, 0, none⟩ v).drew.drew :=
 ⟨by simp [World.setCell], fun k hk => (Below.heap_setCell _ ⟨g, 0, none⟩ v k hk).trans (Below.heap_setCell w ⟨g, 0, none⟩ u k hk), fun B w0 h hB => ((h.setCell hB _).setCell hB _).drew.drew⟩
theorem OnlyAt.keep {g : Nat} {w w' : World} (h : OnlyAt g w w') : KeepBut w w' g none := ⟨h.size, fun i _ hi _ => h.far i hi⟩
theorem OnlyAt.cell {g : Nat} {w w' : World} (h : OnlyAt g w w') {a : Addr} {v : Value} (hc : w.cell? a = some v) (hne : a.block ≠ g) : w'.cell? a = some v := keep_cell h.keep hc hne
theorem OnlyAt.reads {α : Type} {enc : α -> Value} {h1 : ∀ x, (enc x).oneCell' = true} (d : α) {g : Nat} {w w' : World} (h : OnlyAt g w w') {A : Option Addr} {n : Nat} {xs : List α} (hc : (Kd.scalar enc h1).C w A n xs) (hf : ∀ ad, A = some ad -> 0 < n -> ad.block ≠ g) : (Kd.scalar enc h1).C w' A n xs :=
 Kd.C_keep d hc h.keep hf
theorem only_row (g : Nat) (w : World) (cs : Array Value) : OnlyAt g w (w.setRow g cs) :=
 ⟨by simp [World.setRow], fun k hk => by show (w.heap.modify g _)[k]? = _; rw [Array.getElem?_modify, if_neg (fun e => hk e.symm)], fun B w0 h hB => below_setRow h hB cs⟩
theorem only_one (g : Nat) (w : World) (u : Value) : OnlyAt g w (w.setCell ⟨g, 0, none⟩ u) :=
 ⟨by simp [World.setCell], fun k hk => Below.heap_setCell w ⟨g, 0, none⟩ u k hk, fun B w0 h hB => h.setCell hB _⟩
set_option maxHeartbeats 2000000 in
theorem put_calls (g : Nat) (x r : Int) (b : Bool) (w : World) (hg : w.heap[g]? = some (.cells #[.int .u64 x] 42 (0, 0))) (h0 : 0 <= r) (h1 : r < 64) :
  Calls Tryd.prog 42 #[.slice (some ⟨g, 0, none⟩) 1 1, .int .i64 r, .bool b] w (PutPost g x r b w) := by
 have hq : r / 64 = 0 := by omega
 have ha := and63 r h0 h1
 obtain ⟨s, hs⟩ : ∃ s : Int, (2 : Int) ^ r.toNat = s := ⟨_, rfl⟩
 have hs1 : IntKind.u64.wrap (2 ^ r.toNat) = s := (shl64 r h0 h1).trans hs
 have hm : min r.toNat 64 = r.toNat := by omega
 have hs2 : IntKind.u64.wrap (1 * 2 ^ r.toNat) = s := by rw [Int.one_mul]; exact hs1
 have hc : w.cell? ⟨g, 0, none⟩ = some (.int .u64 x) := (blk_cell hg 0).trans rfl
 have hf := blk_frozen hg 0
 have HG := Aside0.mk hg
 have HS := Aside0.mk hs
 clear hs
 have hr1 : r <= 64 := by omega
 cases b with
 | false =>
  go_enter Tryd.func42, Tryd.ntmps42
  go_wp2
  go_region
  all_goals go_wp2
  all_goals
   refine bodyPost_ret (v := .tuple #[]) (by simp [results, Tryd.results42, go_sem]) rfl ⟨rfl, ?_, only_set g w _⟩
   unfold lvPut
   rw [if_neg (by decide), HS.out]
   exact blk_put (cs := #[.int .u64 x]) HG.out 0 _ rfl
 | true =>
  go_enter Tryd.func42, Tryd.ntmps42
  go_wp2
  go_region
  all_goals go_wp2
  all_goals go_region
  all_goals go_wp2
  all_goals
   refine bodyPost_ret (v := .tuple #[]) (by simp [results, Tryd.results42, go_sem]) rfl ⟨rfl, ?_, only_set2 g w _ _⟩
   unfold lvPut
   rw [if_pos rfl, HS.out]
   exact blk_put (cs := #[.int .u64 (Go.bits .andNot .u64 x s)]) (blk_put (cs := #[.int .u64 x]) HG.out 0 _ rfl) 0 _ rfl
theorem one_int {W : World} {g t : Nat} {k : IntKind} {v : Int} (h : W.heap[g]? = some (.cells #[.int k v] t (0, 0))) : (Kd.int k).C W (some ⟨g, 0, none⟩) [v].length [v] :=
 ⟨rfl, by simp, fun _ => ⟨_, rfl, fun j p hj => by
  obtain rfl : j = 0 := by have := (List.getElem?_eq_some_iff.1 hj).1; simp at this; exact this
  have e : v = p := by simpa using hj
  subst e
  refine ⟨[.int k v], rfl, rfl, fun i u hi => ?_⟩
  obtain rfl : i = 0 := by have := (List.getElem?_eq_some_iff.1 hi).1; simp at this; exact this
  have e : Value.int k v = u := by simpa using hi
  subst e
  exact (blk_cell h 0).trans rfl⟩⟩
theorem two_new (W : World) (A B : Obj) : ((W.alloc A).alloc B).heap[W.heap.size + 1]? = some B := by
 have := heap_alloc_new (W.alloc A) B
 rw [show (W.alloc A).heap.size = W.heap.size + 1 by simp] at this
 exact this
def lvWop (op : Int) : Bool := op == 1 || (op == 2 || (op == 3 || (op == 4 || (op == 21 || (op == 30 || (op == 31 || (op == 32 || (op == 33 || op == 35))))))))
def lvWrites (i : S44) : List Int := if lvWop i.f0 then [i.f1] else i.f8
def WrPost (i : S44) (A8 : Option Addr) (w : World) (e : Ending) (w' : World) : Prop := ∃ (A : Option Addr) (c : Nat), e = .returned (.slice A (lvWrites i).length c) /\ (lvWrites i).length <= c /\ (Kd.int .i64).C w' A (lvWrites i).length (lvWrites i) /\ Below w.heap.size w w' ∧
  ∀ g, (∀ ad, A8 = some ad -> 0 < i.f8.length -> ad.block ≠ g) -> g < w.heap.size -> ∀ ad, A = some ad -> 0 < (lvWrites i).length -> ad.block ≠ g
set_option maxHeartbeats 2000000 in
theorem wr_yes (i : S44) (v7 v8 : Value) (A8' : Option Addr) (h7 : ∃ A n c, v7 = .slice A n c) (h8 : ∃ A n c, v8 = .slice A n c) (w : World) (op : Int) (h : i.f0 = op) (ho : op = 1 ∨ op = 2 ∨ op = 3 ∨ op = 4 ∨ op = 21 ∨ op = 30 ∨ op = 31 ∨ op = 32 ∨ op = 33 ∨ op = 35) :
  Calls Tryd.prog 29 #[.agg #[.int .i64 op, .int .i64 i.f1, .int .i64 i.f2, .int .i64 i.f3, .int .u64 i.f4, .int .i64 i.f5, .string i.f6, v7, v8, .int .i64 i.f9]] w (WrPost i A8' w) := by
 obtain ⟨A7, n7, c7, rfl⟩ := h7
 obtain ⟨A8, n8, c8, rfl⟩ := h8
 have hu44 := Tryd.underlying44
 have hw : lvWrites i = [i.f1] := by
  unfold lvWrites lvWop
  rw [h]
  rcases ho with rfl | rfl | rfl | rfl | rfl | rfl | rfl | rfl | rfl | rfl <;> rfl
 have HW := Aside0.mk hw
 clear hw h
 rcases ho with rfl | rfl | rfl | rfl | rfl | rfl | rfl | rfl | rfl | rfl
 all_goals
  go_enter Tryd.func29, Tryd.ntmps29
  go_wp2
  go_ret
  unfold WrPost
  rw [HW.out]
  exact ⟨_, _, rfl, Nat.le_refl _, one_int (two_new w _ _), ((Below.refl _ _).alloc (Nat.le_refl _) _).alloc (by simp) _, fun g _ hg ad e _ => by injection e with e; rw [<- e]; show w.heap.size + 1 ≠ g; omega⟩
set_option maxHeartbeats 2000000 in
theorem wr_no (i : S44) (v7 : Value) (h7 : ∃ A n c, v7 = .slice A n c) (A8 : Option Addr) (c8 : Nat) (w : World) (hl : i.f8.length <= c8) (hc : (Kd.int .i64).C w A8 i.f8.length i.f8) (h : lvWop i.f0 = false) :
  Calls Tryd.prog 29 #[.agg #[.int .i64 i.f0, .int .i64 i.f1, .int .i64 i.f2, .int .i64 i.f3, .int .u64 i.f4, .int .i64 i.f5, .string i.f6, v7, .slice A8 i.f8.length c8, .int .i64 i.f9]] w (WrPost i A8 w) := by
 obtain ⟨A7, n7, c7, rfl⟩ := h7
 have hu44 := Tryd.underlying44
 have HW := Aside0.mk (show lvWrites i = i.f8 by unfold lvWrites; rw [h]; rfl)
 have HL := Aside0.mk hl
 have HC := Aside0.mk hc
 unfold lvWop at h
 simp only [Bool.or_eq_false_iff] at h
 obtain ⟨h1, h2, h3, h4, h5, h6, h8, h9, h10, h11⟩ := h
 clear hl hc
 go_enter Tryd.func29, Tryd.ntmps29
 go_wp2
 go_ret
 unfold WrPost
 rw [HW.out]
 exact ⟨_, _, rfl, HL.out, Kd.C_alloc HC.out _, (Below.refl _ _).alloc (Nat.le_refl _) _, fun g h _ => h⟩
theorem wr_calls (i : S44) (A7 : Option Addr) (n7 c7 : Nat) (A8 : Option Addr) (c8 : Nat) (w : World) (hl : i.f8.length <= c8) (hc : (Kd.int .i64).C w A8 i.f8.length i.f8) :
  Calls Tryd.prog 29 #[.agg #[.int .i64 i.f0, .int .i64 i.f1, .int .i64 i.f2, .int .i64 i.f3, .int .u64 i.f4, .int .i64 i.f5, .string i.f6, .slice A7 n7 c7, .slice A8 i.f8.length c8, .int .i64 i.f9]] w (WrPost i A8 w) := by
 cases h : lvWop i.f0 with
 | false => exact wr_no i _ ⟨A7, n7, c7, rfl⟩ A8 c8 w hl hc h
 | true =>
  refine wr_yes i _ _ A8 ⟨A7, n7, c7, rfl⟩ ⟨A8, _, c8, rfl⟩ w i.f0 rfl ?_
  unfold lvWop at h
  simpa using h
def kP : Kd Addr := Kd.scalar (fun a => Value.pointer (some a)) (fun _ => rfl)
theorem info86 : (Tryd.prog.info? 86).map (fun i => (i.zero, i.size, i.bytes)) = some (some (.pointer none), 1, 8) := by kernel_rfl
theorem two_ptr {W : World} {g t : Nat} {a b : Addr} (h : W.heap[g]? = some (.cells #[.pointer (some a), .pointer (some b)] t (0, 0))) : kP.C W (some ⟨g, 0, none⟩) 2 [a, b] :=
 ⟨rfl, by omega, fun _ => ⟨_, rfl, fun j p hj => by
  have hlt := (List.getElem?_eq_some_iff.1 hj).1
  refine ⟨[.pointer (some p)], rfl, rfl, fun i u hi => ?_⟩
  obtain rfl : i = 0 := by have := (List.getElem?_eq_some_iff.1 hi).1; simp at this; exact this
  have e : Value.pointer (some p) = u := by simpa using hi
  subst e
  have hj2 : j = 0 ∨ j = 1 := by simp at hlt; omega
  rw [add_plain]
  rcases hj2 with rfl | rfl
  ·obtain rfl : a = p := by simpa using hj
   exact (blk_cell h 0).trans rfl
  ·obtain rfl : b = p := by simpa using hj
   exact (blk_cell h 1).trans rfl⟩⟩
def lvRa (op : Int) : Bool := op == 2 || (op == 4 || (op == 19 || (op == 20 || (op == 22 || (op == 35 || (op == 37 || (op == 38 || op == 40)))))))
def lvRab (op : Int) : Bool := op == 3 || op == 36
def lvPre (i : S44) : List Int := if lvRa i.f0 then [i.f2] else if lvRab i.f0 then [i.f2, i.f3] else []
def lvReads (i : S44) : List Int := lvPre i ++ i.f7
def lvPrePs (g : Nat) (i : S44) : List Addr := if lvRa i.f0 then [⟨g, 2, none⟩] else if lvRab i.f0 then [⟨g, 2, none⟩, ⟨g, 3, none⟩] else []
def i44 (i : S44) (A7 : Option Addr) (c7 : Nat) (A8 : Option Addr) (c8 : Nat) : Array Value := #[.int .i64 i.f0, .int .i64 i.f1, .int .i64 i.f2, .int .i64 i.f3, .int .u64 i.f4, .int .i64 i.f5, .string i.f6, .slice A7 i.f7.length c7, .slice A8 i.f8.length c8, .int .i64 i.f9]
def RdPost (g : Nat) (i : S44) (A7 : Option Addr) (w : World) (e : Ending) (w' : World) : Prop :=
 ∃ (A : Option Addr) (c : Nat) (ps : List Addr), e = .returned (.slice A ps.length c) /\ ps.length <= c /\ kP.C w' A ps.length ps /\ ps.length = (lvReads i).length /\ (∀ (j : Nat) (p : Addr), ps[j]? = some p -> ∃ v : Int, (lvReads i)[j]? = some v /\ w'.cell? p = some (.int .i64 v)) /\ Below w.heap.size w w' ∧
  ∀ g', g' ≠ g -> (∀ ad, A7 = some ad -> 0 < i.f7.length -> ad.block ≠ g') -> g' < w.heap.size -> (∀ ad, A = some ad -> 0 < ps.length -> ad.block ≠ g') /\ ∀ p ∈ ps, p.block ≠ g'
def rdAd (A : Option Addr) (k : Nat) : List Addr := match A with
 | none => []
 | some ad => (List.range k).map fun j => ad.add j
theorem rdAd_zero (A : Option Addr) : rdAd A 0 = [] := by cases A <;> rfl
theorem rdAd_succ (ad : Addr) (k : Nat) : rdAd (some ad) (k + 1) = rdAd (some ad) k ++ [ad.add k] := by simp [rdAd, List.range_succ]
theorem rdAd_len (A : Option Addr) (k : Nat) : (rdAd A k).length <= k := by cases A <;> simp [rdAd]
theorem lvPrePs_len (g : Nat) (i : S44) : (lvPrePs g i).length <= 2 := by unfold lvPrePs; (repeat' split) <;> simp
theorem lvPre_len (g : Nat) (i : S44) : (lvPrePs g i).length = (lvPre i).length := by unfold lvPrePs lvPre; (repeat' split) <;> rfl
theorem rdAd_full {w : World} {i : S44} (A7 : Option Addr) (hc : (Kd.int .i64).C w A7 i.f7.length i.f7) : (rdAd A7 i.f7.length).length = i.f7.length := by
 cases A7 with
 | some ad => simp [rdAd]
 | none =>
  have h : i.f7.length = 0 := by
   rcases Nat.eq_zero_or_pos i.f7.length with h | h
   ·exact h
   ·obtain ⟨ad, e, _⟩ := hc.2.2 h
    cases e
  rw [h]; rfl
theorem rd_len {w : World} (A7 : Option Addr) (g : Nat) (i : S44) (hc : (Kd.int .i64).C w A7 i.f7.length i.f7) : (lvPrePs g i ++ rdAd A7 i.f7.length).length = (lvReads i).length := by
 unfold lvReads
 rw [List.length_append, List.length_append, rdAd_full A7 hc, lvPre_len]
theorem rd_val {w w' : World} (g : Nat) (i : S44) (A7 : Option Addr) (c7 : Nat) (A8 : Option Addr) (c8 : Nat) (hg : w.heap[g]? = some (.cells (i44 i A7 c7 A8 c8) 44 (0, 0))) (hc : (Kd.int .i64).C w A7 i.f7.length i.f7) (hb : Below w.heap.size w w') :
  ∀ (j : Nat) (p : Addr), (lvPrePs g i ++ rdAd A7 i.f7.length)[j]? = some p -> ∃ v : Int, (lvReads i)[j]? = some v /\ w'.cell? p = some (.int .i64 v) := by
 intro j p hj
 have hgl := blk_lt hg
 have c2 : w'.cell? ⟨g, 2, none⟩ = some (.int .i64 i.f2) := (hb.cell (p := ⟨g, 2, none⟩) hgl).trans ((blk_cell hg 2).trans rfl)
 have c3 : w'.cell? ⟨g, 3, none⟩ = some (.int .i64 i.f3) := (hb.cell (p := ⟨g, 3, none⟩) hgl).trans ((blk_cell hg 3).trans rfl)
 unfold lvReads
 by_cases hlt : j < (lvPrePs g i).length
 ·rw [List.getElem?_append_left hlt] at hj
  rw [List.getElem?_append_left (by rw [<- lvPre_len g]; exact hlt)]
  unfold lvPrePs at hj hlt
  unfold lvPre
  split at hj
  ·rename_i h
   rw [if_pos h] at hlt ⊢
   obtain rfl : j = 0 := by simp at hlt; exact hlt
   obtain rfl : (⟨g, 2, none⟩ : Addr) = p := by simpa using hj
   exact ⟨_, rfl, c2⟩
  ·rename_i h
   rw [if_neg h] at hlt ⊢
   split at hj
   ·rename_i h2
    rw [if_pos h2] at hlt ⊢
    have hj2 : j = 0 ∨ j = 1 := by simp at hlt; omega
    rcases hj2 with rfl | rfl
    ·obtain rfl : (⟨g, 2, none⟩ : Addr) = p := by simpa using hj
     exact ⟨_, rfl, c2⟩
    ·obtain rfl : (⟨g, 3, none⟩ : Addr) = p := by simpa using hj
     exact ⟨_, rfl, c3⟩
   ·simp at hj
 ·rw [List.getElem?_append_right (by omega)] at hj
  rw [List.getElem?_append_right (by rw [<- lvPre_len g]; omega), <- lvPre_len g]
  generalize j - (lvPrePs g i).length = m at hj
  cases A7 with
  | none => simp [rdAd] at hj
  | some ad =>
   have hm : m < i.f7.length := by have := (List.getElem?_eq_some_iff.1 hj).1; simpa [rdAd] using this
   obtain ⟨ad', e, hx⟩ := Kd.at_int hc (m : Int) (by omega) (by omega)
   obtain rfl : ad = ad' := by injection e
   rw [Int.toNat_natCast] at hx
   have hp : ad.add m = p := by simpa [rdAd, hm] using hj
   refine ⟨i.f7[m], List.getElem?_eq_getElem hm, ?_⟩
   rw [<- hp, hb.cell (World.block_lt_of_cell? w _ hx), hx]
   unfold rd
   rw [Int.toNat_natCast, List.getD_eq_getElem?_getD, List.getElem?_eq_getElem hm]
   rfl
theorem rd_own {w w' : World} {g' n c : Nat} {ad : Addr} {ys : List Addr} {ok : Nat -> Prop} (h : kP.R 86 w' w.heap.size ok (.slice (some ad) n c) ys) (hp : 0 < ys.length) (hg : g' < w.heap.size) : ad.block ≠ g' := by
 obtain ⟨inner, ho⟩ := Kd.R_own h
 rcases ho.2 with ⟨e, _⟩ | ⟨b, cap, cur, e, hb, _⟩
 ·cases e
 ·injection e with e _ _
  injection e with e
  rw [e]
  show b ≠ g'
  omega
theorem rd_far (g : Nat) (i : S44) (A7 : Option Addr) {g' : Nat} (h1 : g' ≠ g) (h2 : ∀ ad, A7 = some ad -> 0 < i.f7.length -> ad.block ≠ g') : ∀ p ∈ lvPrePs g i ++ rdAd A7 i.f7.length, p.block ≠ g' := by
 intro p hp
 rw [List.mem_append] at hp
 rcases hp with hp | hp
 ·have : p.block = g := by
   unfold lvPrePs at hp
   split at hp
   ·simp at hp; rw [hp]
   ·split at hp
    ·simp at hp; rcases hp with rfl | rfl <;> rfl
    ·cases hp
  rw [this]; exact Ne.symm h1
 ·cases A7 with
  | none => cases hp
  | some ad =>
   simp only [rdAd, List.mem_map, List.mem_range] at hp
   obtain ⟨j, hj, rfl⟩ := hp
   rw [add_block]
   exact h2 ad rfl (by omega)
set_option maxHeartbeats 2000000 in
set_option maxRecDepth 100000 in
theorem rd_calls (g : Nat) (i : S44) (A7 : Option Addr) (c7 : Nat) (A8 : Option Addr) (c8 : Nat) (w : World) (hg : w.heap[g]? = some (.cells (i44 i A7 c7 A8 c8) 44 (0, 0))) (hl : i.f7.length <= c7) (hc : (Kd.int .i64).C w A7 i.f7.length i.f7) (hn : i.f7.length <= 17592186043904) :
  Calls Tryd.prog 43 #[.pointer (some ⟨g, 0, none⟩)] w (RdPost g i A7 w) := by
 have hu44 := Tryd.underlying44
 have h0 : w.cell? ⟨g, 0, none⟩ = some (.int .i64 i.f0) := (blk_cell hg 0).trans rfl
 have h7 : w.cell? ⟨g, 7, none⟩ = some (.slice A7 i.f7.length c7) := (blk_cell hg 7).trans rfl
 have hgl := blk_lt hg
 have HG := Aside0.mk hg
 have HL := Aside0.mk hl
 have HC := Aside0.mk hc
 have HN := Aside0.mk hn
 have HB := Aside0.mk (Below.refl w.heap.size w)
 clear hg hl hc hn
 go_enter Tryd.func43, Tryd.ntmps43
 go_upto_block 0 with (fail)
 go_cut [3, 8] (fun v3 v8 wc => Aside0 (kP.R 86 wc w.heap.size (fun _ => True) v3 (lvPrePs g i)) /\ Aside0 (Below w.heap.size w wc))
 case first =>
  cases hra : lvRa i.f0 with
  | true =>
   have HP := Aside0.mk (show lvPrePs g i = [⟨g, 2, none⟩] by unfold lvPrePs; rw [hra]; rfl)
   have hop : i.f0 = 2 ∨ i.f0 = 4 ∨ i.f0 = 19 ∨ i.f0 = 20 ∨ i.f0 = 22 ∨ i.f0 = 35 ∨ i.f0 = 37 ∨ i.f0 = 38 ∨ i.f0 = 40 := by
    unfold lvRa at hra
    simpa using hra
   clear hra
   rcases hop with hop | hop | hop | hop | hop | hop | hop | hop | hop
   all_goals
    go_wp2_with (first | ((with_reducible refine gate_builtin (b := .append) (xs := #[.tmp 19, .tmp 23]) rfl ?_); at_builtin; refine Kd.R_append kP (w0 := w) w.heap.size rfl (.tmp 19) (.tmp 23) 100 86 (.pointer none) 8 rfl Tryd.underlying100 info86 rfl (by decide) (by omega) (.slice none 0 0) [] (⟨g, 2, none⟩ : Addr) [.pointer (some ⟨g, 2, none⟩)] (fun _ => True) (fun _ => False) rfl (by first | (go_simp; done) | (go_simp; rfl)) ?aP (fun _ hk => hk.elim) ?aF ?aO ?aB ?aS ?aL ?_; (case aP => rfl); (case aF => exact fun _ _ => trivial); (case aO => exact Kd.R_nil _ _ _ _ _); (case aB => exact HB.out); (case aS => exact below_size HB.out); (case aL => simp); intro v24 w24 ho hb hg hat; clear HB; have HB := Aside0.mk hb; have HO := Aside0.mk ho; clear hb ho hg hat))
    go_meet
    case rel => exact ⟨by rw [HP.out]; exact HO, HB⟩
  | false =>
   have HRA := Aside0.mk hra
   unfold lvRa at hra
   simp only [Bool.or_eq_false_iff] at hra
   obtain ⟨n1, n2, n3, n4, n5, n6, n7, n8, n9⟩ := hra
   cases hrb : lvRab i.f0 with
   | true =>
    have HP := Aside0.mk (show lvPrePs g i = [⟨g, 2, none⟩, ⟨g, 3, none⟩] by unfold lvPrePs; rw [HRA.out, hrb]; rfl)
    have hop : i.f0 = 3 ∨ i.f0 = 36 := by
     unfold lvRab at hrb
     simpa using hrb
    clear hrb n1 n2 n3 n4 n5 n6 n7 n8 n9
    rcases hop with hop | hop
    all_goals
     go_upto_region 15 with (fail)
     go_region_law (refine Kd.R_append_rows_step kP (Rr := kP.K w) (w0 := w) w.heap.size (by rfl) (.tmp 28) (.tmp 35) 100 86 (.pointer none) 8 rfl Tryd.underlying100 info86 rfl (by decide) (by omega) (.slice none 0 0) [] [⟨g, 2, none⟩, ⟨g, 3, none⟩] (some ⟨w.heap.size, 0, none⟩) 2 2 (fun _ => True) (fun _ => False) rfl rfl ?aO ?aR (fun _ _ h => h) (fun _ h => h.elim) ?aF ?aB ?aS ?aL ?_; (case aO => exact Kd.R_nil _ _ _ _ _); (case aR => exact two_ptr (heap_alloc_new w _)); (case aF => exact fun _ _ => trivial); (case aB => exact (HB.out.alloc (Nat.le_refl _) _).drew); (case aS => exact below_size ((Below.refl w.heap.size w).alloc (Nat.le_refl _) _).drew); (case aL => simp); intro v36 w36 ho hb hg hat; clear HB; have HB := Aside0.mk hb; have HO := Aside0.mk ho; clear hb ho hg hat)
     go_wp2
     go_meet
     case rel => exact ⟨by rw [HP.out]; exact HO, HB⟩
   | false =>
    have HP := Aside0.mk (show lvPrePs g i = [] by unfold lvPrePs; rw [HRA.out, hrb]; rfl)
    unfold lvRab at hrb
    simp only [Bool.or_eq_false_iff] at hrb
    obtain ⟨n10, n11⟩ := hrb
    go_wp2
    go_meet
    case rel => exact ⟨⟨by rw [HP.out]; exact Kd.R_nil _ _ _ _ _⟩, HB⟩
 case rest =>
  clear HB h0 h7
  obtain ⟨HO, HB⟩ := hcut
  have h7 : wc.cell? ⟨g, 7, none⟩ = some (.slice A7 i.f7.length c7) := (HB.out.cell (p := ⟨g, 7, none⟩) hgl).trans ((blk_cell HG.out 7).trans rfl)
  go_upto_region 16 with (fail)
  go_wp2
  go_loopg [3, 42] i.f7.length (fun gg v3 v42 w' => ∃ (k : Nat) (u : Value), k <= i.f7.length /\ i.f7.length - k <= gg /\ v42 = .int .i64 k /\ v3 = u /\ Aside0 (kP.R 86 w' w.heap.size (fun _ => True) u (lvPrePs g i ++ rdAd A7 k)) /\ Aside0 (Below w.heap.size w w'))
  case atStart => exact ⟨0, _, Nat.zero_le _, by omega, rfl, rfl, ⟨by rw [rdAd_zero, List.append_nil]; exact HO.out⟩, HB⟩
  case round =>
   clear HO HB h7
   obtain ⟨k, u, hk, hg2, rfl, rfl, HO, HB⟩ := hrel
   by_cases hlt : k < i.f7.length
   ·obtain ⟨ys, hys⟩ : ∃ y : List Addr, y = lvPrePs g i ++ rdAd A7 k := ⟨_, rfl⟩
    rw [<- hys] at HO
    have HY := Aside0.mk hys
    have HYL := Aside0.mk (show ys.length <= 17592186043907 by rw [hys, List.length_append]; have := lvPrePs_len g i; have := rdAd_len A7 k; have := HN.out; omega)
    clear hys
    obtain ⟨Ao, co, eo⟩ := Kd.R_slice HO.out
    subst eo
    have p0 : 0 <= (k : Int) := by omega
    have q0 : (k : Int) < (i.f7.length : Int) := by omega
    obtain ⟨ad, ea, _⟩ := Kd.at_int HC.out (k : Int) p0 q0
    subst ea
    have h7 : wr.cell? ⟨g, 7, none⟩ = some (.slice (some ad) i.f7.length c7) := (HB.out.cell (p := ⟨g, 7, none⟩) hgl).trans ((blk_cell HG.out 7).trans rfl)
    have hk6 : (k : Int) <= 17592186043904 := by have := HN.out; omega
    go_wp2_with (first | ((with_reducible refine gate_builtin (b := .append) (xs := #[.tmp 45, .tmp 52]) rfl ?_); at_builtin; refine Kd.R_append kP (w0 := w) w.heap.size rfl (.tmp 45) (.tmp 52) 100 86 (.pointer none) 8 rfl Tryd.underlying100 info86 rfl (by decide) (by omega) (.slice Ao ys.length co) ys (ad.add k) [.pointer (some (ad.add k))] (fun _ => True) (fun _ => False) rfl (by first | (go_simp; done) | (go_simp; rfl)) ?aP (fun _ hk => hk.elim) ?aF ?aO ?aB ?aS ?aL ?_; (case aP => rfl); (case aF => exact fun _ _ => trivial); (case aO => exact HO.out); (case aB => exact HB.out); (case aS => exact below_size HB.out); (case aL => have := HYL.out; omega); intro v53 w53 ho hb hg hat; clear HB HO; have HB := Aside0.mk hb; have HO := Aside0.mk ho; clear hb ho hg hat))
    go_roundg (i.f7.length - (k + 1))
    case measure => omega
    case rel => exact ⟨k + 1, _, by omega, by omega, by go_num, rfl, ⟨by rw [rdAd_succ, <- List.append_assoc, <- HY.out]; exact HO.out⟩, HB⟩
   ·obtain rfl : k = i.f7.length := by omega
    obtain ⟨ys, hys⟩ : ∃ y : List Addr, y = lvPrePs g i ++ rdAd A7 i.f7.length := ⟨_, rfl⟩
    rw [<- hys] at HO
    have HY := Aside0.mk hys
    clear hys
    obtain ⟨Ao, co, eo⟩ := Kd.R_slice HO.out
    subst eo
    have HRR := Aside0.mk (Kd.R_reads' HO.out)
    go_wp2
    go_ret
    exact ⟨_, _, ys, rfl, HRR.out.2.1, HRR.out.2.2, by rw [HY.out]; exact rd_len A7 g i HC.out, by rw [HY.out]; exact rd_val g i A7 c7 A8 c8 HG.out HC.out HB.out, HB.out, fun g' h1 h2 h3 => ⟨fun ad e hp => by subst e; exact rd_own HO.out hp h3, by rw [HY.out]; exact rd_far g i A7 h1 h2⟩⟩
section
def lvNext (code : List S44) (n : Nat) : List Int :=
 if (rd_T44 code n).f0 = 43 ∨ (rd_T44 code n).f0 = 22 then [] else if (rd_T44 code n).f0 = 18 then [(rd_T44 code n).f9] else if (rd_T44 code n).f0 = 19 then [(n : Int) + 1, (rd_T44 code n).f9] else [(n : Int) + 1]
theorem lvNext_len (code : List S44) (n : Nat) : (lvNext code n).length <= 2 := by
 unfold lvNext
 (repeat' split) <;> simp
def lvOr (L : List Int) (x m : Int) : Int := Go.bits .or .u64 x (rd L m)
def lvPuts (b : Bool) (x : Int) (l : List Int) : Int := l.foldl (fun x r => lvPut x r b) x
def lvNow (code : List S44) (L : List Int) (n : Nat) : Int :=
 lvPuts true (lvPuts false ((lvNext code n).foldl (lvOr L) 0) (lvWrites (rd_T44 code n))) (lvReads (rd_T44 code n))
def lvIn (code : List S44) : Nat -> List Int -> Bool -> List Int × Bool
 | 0, L, m => (L, m)
 | n + 1, L, m => if lvNow code L n = rd L n then lvIn code n L m else lvIn code n (L.set n (lvNow code L n)) true
def lvRun (code : List S44) : Nat -> List Int -> Option (List Int)
 | 0, _ => none
 | k + 1, L => if (lvIn code code.length L false).2 = true then lvRun code k (lvIn code code.length L false).1 else some (lvIn code code.length L false).1
structure LvOk (code : List S44) : Prop where
 len : code.length <= 1000000
 next : ∀ n, n < code.length -> ∀ m ∈ lvNext code n, 0 <= m /\ m <= code.length
 wr : ∀ n, n < code.length -> ∀ r ∈ lvWrites (rd_T44 code n), 0 <= r /\ r < 64
 rds : ∀ n, n < code.length -> ∀ r ∈ lvReads (rd_T44 code n), 0 <= r /\ r < 64
 args : ∀ n, n < code.length -> (rd_T44 code n).f7.length <= 17592186043904
 outs : ∀ n, n < code.length -> (rd_T44 code n).f8.length <= 1000000
theorem next_f (k : Nat) (a : ByteArray) (l1 l2 l3 : List Int) (code : List S44) (n : Nat) (h : n < code.length) (hn : code.length <= 1000000) : flow_Next.f (k + 1) a l1 l2 l3 code (n : Int) = some (lvNext code n) := by
 have hw : wrap64 ((n : Int) + 1) = (n : Int) + 1 := by unfold wrap64; omega
 unfold flow_Next.f lvNext
 rw [if_pos (by omega), if_pos (by omega)]
 by_cases h43 : (rd_T44 code n).f0 = 43
 ·rw [if_pos h43, if_pos (.inl h43)]
  simp only [flow_Next.j0]
  rw [h43]; rfl
 ·rw [if_neg h43]
  simp only [flow_Next.j0, hw]
  by_cases h22 : (rd_T44 code n).f0 = 22
  ·have e : ((rd_T44 code n).f0 == 22) = true := by rw [h22]; rfl
   rw [if_pos e, if_pos (Or.inr h22)]
  ·have e : ((rd_T44 code n).f0 == 22) = false := by simpa using h22
   have e2 : ¬ ((rd_T44 code n).f0 = 43 ∨ (rd_T44 code n).f0 = 22) := by omega
   rw [e, if_neg (by decide), if_neg e2]
   split
   ·rfl
   ·split <;> rfl
theorem equal_f (k : Nat) (x y : Int) : flow_Set_uint64.f (k + 2) [x] [y] = some (x == y) := by
 unfold flow_Set_uint64.f
 rw [if_pos (show (([x].length : Nat) : Int) = ([y].length : Nat) from rfl)]
 simp only [flow_Set_uint64.l0]
 by_cases h : x = y
 ·subst h
  simp [rd, wrap64]
 ·simp [rd, h]
def lvSl (b : Nat) : Value := .slice (some ⟨b, 0, none⟩) 1 1
def lvRow (bs : List Nat) (m : Nat) : List Value := bs.map lvSl ++ List.replicate (m - bs.length) (.slice none 0 0)
theorem lv_al {w : World} {g : Nat} {o : Obj} (h : w.heap[g]? = some o) (o' : Obj) : (w.alloc o').heap[g]? = some o := (((Below.refl w.heap.size w).alloc (Nat.le_refl _) o').block _ (blk_lt h)).trans h
structure LvMk (w0 w : World) (g1 gi : Nat) (fc : Array Value) (m : Nat) (bs : List Nat) : Prop where
 hf : w.heap[g1]? = some (.cells fc 25 (0, 0))
 hi : w.heap[gi]? = some (.cells (lvRow bs m).toArray 72 (0, 0))
 hb : ∀ b ∈ bs, w.heap[b]? = some (.cells #[.int .u64 0] 42 (0, 0))
 nd : bs.Nodup
 lo1 : w0.heap.size <= g1
 loi : w0.heap.size <= gi
 lob : ∀ b ∈ bs, w0.heap.size <= b
 below : Below w0.heap.size w0 w
theorem LvMk.step {w0 w : World} {g1 gi m : Nat} {fc : Array Value} {bs : List Nat} (h : LvMk w0 w g1 gi fc m bs) (hl : bs.length < m) (n : Nat) (hn : n = bs.length) :
  LvMk w0 ((w.setCell ⟨gi, n, none⟩ (lvSl w.heap.size)).alloc (.cells #[.int .u64 0] 42)) g1 gi fc m (bs ++ [w.heap.size]) := by
 subst hn
 have hig := blk_lt h.hi
 have h1g : g1 ≠ gi := blk_ne h.hf h.hi (by decide)
 have hs : (w.setCell ⟨gi, bs.length, none⟩ (lvSl w.heap.size)).heap.size = w.heap.size := by simp [World.setCell]
 refine ⟨lv_al (blk_far h.hf h1g _) _, lv_al (blk_put h.hi bs.length _ ?_) _, fun b hb => ?_, ?_, h.lo1, h.loi, fun b hb => ?_, (below_set h.below h.loi).alloc (by rw [hs]; exact h.below.size) _⟩
 ·unfold lvRow
  rw [List.setIfInBounds_toArray]
  congr 1
  rw [List.set_append_right _ _ (by simp), List.length_map, Nat.sub_self, List.map_append, List.append_assoc, List.length_append, List.length_singleton]
  congr 1
  obtain ⟨d, hd⟩ : ∃ d, m - bs.length = d + 1 := ⟨m - bs.length - 1, by omega⟩
  rw [hd, show m - (bs.length + 1) = d by omega, List.replicate_succ]
  rfl
 ·rw [List.mem_append, List.mem_singleton] at hb
  rcases hb with hb | rfl
  ·exact lv_al (blk_far (h.hb b hb) (blk_ne (h.hb b hb) h.hi (by decide)) _) _
  ·have := heap_alloc_new (w.setCell ⟨gi, bs.length, none⟩ (lvSl w.heap.size)) (.cells #[.int .u64 0] 42)
   rw [hs] at this
   exact this
 ·rw [List.nodup_append]
  refine ⟨h.nd, by simp, fun a ha b hb e => ?_⟩
  rw [List.mem_singleton] at hb
  have := blk_lt (h.hb a ha)
  omega
 ·rw [List.mem_append, List.mem_singleton] at hb
  rcases hb with hb | rfl
  ·exact h.lob b hb
  ·exact h.below.size
theorem nodup_inj {bs : List Nat} (h : bs.Nodup) {i j : Nat} (hi : i < bs.length) (hj : j < bs.length) (e : bs[i] = bs[j]) : i = j := by
 rcases Nat.lt_trichotomy i j with h1 | h1 | h1
 ·exact absurd e (List.pairwise_iff_getElem.1 h i j hi hj h1)
 ·exact h1
 ·exact absurd e.symm (List.pairwise_iff_getElem.1 h j i hj hi h1)
structure LvSt (w0 w : World) (g1 gi gw : Nat) (fc : Array Value) (bs : List Nat) (L : List Int) (x : Int) : Prop where
 hf : w.heap[g1]? = some (.cells fc 25 (0, 0))
 hi : w.heap[gi]? = some (.cells (bs.map lvSl).toArray 72 (0, 0))
 hb : ∀ (j : Nat) (h : j < bs.length), w.heap[bs[j]]? = some (.cells #[.int .u64 (rd L (j : Int))] 42 (0, 0))
 hn : w.heap[gw]? = some (.cells #[.int .u64 x] 42 (0, 0))
 nd : bs.Nodup
 ln : L.length = bs.length
 nw : gw ∉ bs
 lo1 : w0.heap.size <= g1
 loi : w0.heap.size <= gi
 low : w0.heap.size <= gw
 lob : ∀ b ∈ bs, w0.heap.size <= b
 below : Below w0.heap.size w0 w
section
variable {w0 w w' : World} {g1 gi gw : Nat} {fc : Array Value} {bs : List Nat} {L : List Int} {x : Int}
theorem LvSt.step (h : LvSt w0 w g1 gi gw fc bs L x) (hb : Below w.heap.size w w') : LvSt w0 w' g1 gi gw fc bs L x :=
 ⟨blk_below h.hf hb, blk_below h.hi hb, fun j hj => blk_below (h.hb j hj) hb, blk_below h.hn hb, h.nd, h.ln, h.nw, h.lo1, h.loi, h.low, h.lob, below_step h.below hb⟩
theorem LvSt.now (h : LvSt w0 w g1 gi gw fc bs L x) {x' : Int} (o : OnlyAt gw w w') (hx : w'.heap[gw]? = some (.cells #[.int .u64 x'] 42 (0, 0))) : LvSt w0 w' g1 gi gw fc bs L x' :=
 ⟨(o.far _ (blk_ne h.hf h.hn (by decide))).trans h.hf, (o.far _ (blk_ne h.hi h.hn (by decide))).trans h.hi, fun j hj => (o.far _ (fun e => h.nw (by rw [<- e]; exact List.getElem_mem hj))).trans (h.hb j hj), hx, h.nd, h.ln, h.nw, h.lo1, h.loi, h.low, h.lob, o.below _ _ h.below h.low⟩
theorem rd_set_ne (L : List Int) (n j : Nat) (y : Int) (h : n ≠ j) : rd (L.set n y) (j : Int) = rd L (j : Int) := by
 unfold rd
 rw [Int.toNat_natCast, List.getD_eq_getElem?_getD, List.getD_eq_getElem?_getD, List.getElem?_set_ne h]
theorem rd_set_eq (L : List Int) (n : Nat) (y : Int) (h : n < L.length) : rd (L.set n y) (n : Int) = y := by
 unfold rd
 rw [Int.toNat_natCast, List.getD_eq_getElem?_getD, List.getElem?_set_self h]
 rfl
theorem LvSt.put (h : LvSt w0 w g1 gi gw fc bs L x) {n : Nat} (hn : n < bs.length) {y : Int} (o : OnlyAt bs[n] w w') (hy : w'.heap[bs[n]]? = some (.cells #[.int .u64 y] 42 (0, 0))) : LvSt w0 w' g1 gi gw fc bs (L.set n y) x :=
  ⟨(o.far _ (blk_ne h.hf (h.hb n hn) (by decide))).trans h.hf, (o.far _ (blk_ne h.hi (h.hb n hn) (by decide))).trans h.hi, fun j hj => by
    by_cases e : n = j
    · subst e
      rw [rd_set_eq L n y (by rw [h.ln]; exact hn)]
      exact hy
    · rw [rd_set_ne L n j y e]
      exact (o.far _ (fun e2 => e (nodup_inj h.nd hj hn e2).symm)).trans (h.hb j hj),
   (o.far _ (fun e => h.nw (by rw [e]; exact List.getElem_mem hn))).trans h.hn, h.nd, by rw [List.length_set]; exact h.ln, h.nw, h.lo1, h.loi, h.low, h.lob, o.below _ _ h.below (h.lob _ (List.getElem_mem hn))⟩
theorem LvSt.cell_row (h : LvSt w0 w g1 gi gw fc bs L x) (n : Nat) (hn : n < bs.length) : w.cell? ⟨gi, n, none⟩ = some (lvSl bs[n]) := by
 rw [blk_cell h.hi n]
 simp [hn]
theorem LvSt.cell_set (h : LvSt w0 w g1 gi gw fc bs L x) (n : Nat) (hn : n < bs.length) : w.cell? ⟨bs[n], 0, none⟩ = some (.int .u64 (rd L (n : Int))) := (blk_cell (h.hb n hn) 0).trans rfl
theorem LvSt.cell_now (h : LvSt w0 w g1 gi gw fc bs L x) : w.cell? ⟨gw, 0, none⟩ = some (.int .u64 x) := (blk_cell h.hn 0).trans rfl
end
theorem LvMk.done {w0 w : World} {g1 gi m : Nat} {fc : Array Value} {bs : List Nat} (h : LvMk w0 w g1 gi fc m bs) (hl : bs.length = m) :
  LvSt w0 (w.alloc (.cells #[.int .u64 0] 42)) g1 gi w.heap.size fc bs (List.replicate m 0) 0 := by
 refine ⟨lv_al h.hf _, ?_, fun j hj => ?_, heap_alloc_new w _, h.nd, by simp [hl], fun hm => ?_, h.lo1, h.loi, h.below.size, h.lob, h.below.alloc h.below.size _⟩
 ·have := lv_al h.hi (.cells #[.int .u64 0] 42)
  unfold lvRow at this
  rw [hl, Nat.sub_self, List.replicate_zero, List.append_nil] at this
  exact this
 ·have e : rd (List.replicate m 0) (j : Int) = 0 := by
   unfold rd
   rw [Int.toNat_natCast, List.getD_eq_getElem?_getD, List.getElem?_replicate, if_pos (by omega)]
   rfl
  rw [e]
  exact lv_al (h.hb _ (List.getElem_mem hj)) _
 ·have := blk_lt (h.hb _ hm)
  omega
end
end Go.Proofs.YtjfleaekljapeaaDoor.K
