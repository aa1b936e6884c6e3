/- What Go functions of this seat answer: each has a Lean function ('.f') and a contract ('.calls'). Conditions: those of each theorem. Written by a program over the kit's printer; what is marked 'typed by hand' is this session's. -/
import Derived.Test.YtgpdopfkkopgjaaK0
namespace Go.Proofs.Ytgpdopfkkopgjaa.K
open Go.RowKit Go.Proofs.YtgpdopfkkopgjaaW.PrintWords Go.Proofs.YtgpdopfkkopgjaaW.PrintLast Go.Proofs.YtgpdopfkkopgjaaW.PrintMore
attribute [local go_sem] max2_int min2_int max_two min_two max_three min_three max_four min_four   -- for this text's walks alone
set_option linter.unusedVariables false
set_option linter.unusedSimpArgs false

/-! ### lay_find: function 18 (typed by hand) -/
def lay_find.go (a1 : ByteArray) : List S30 → Int → Int
 | [], _ => -1
 | s :: r, i => if s.f0.toList = a1.toList then i else lay_find.go a1 r (i + 1)
def lay_find.f (l0 : List (S30)) (a1 : ByteArray) : Option (Int) := some (lay_find.go a1 l0 0)
def lf_BoolPost (r : Bool) (w : World) (e : Ending) (w' : World) : Prop := e = .returned (.bool r) ∧ Below w.heap.size w w'
def lf_IntPost (r : Int) (w : World) (e : Ending) (w' : World) : Prop := e = .returned (.int .i64 r) ∧ Below w.heap.size w w'
theorem lf_clos (s t : ByteArray) (v : Value) (hv : ∃ A n c, v = .slice A n c) (at_ : Int) (B : Nat) (w : World) (hc : w.cell? ⟨B, 0, none⟩ = some (.string t)) :
  Calls Try.prog 27 #[.agg #[.string s, v, .int .i64 at_], .pointer (some ⟨B, 0, none⟩)] w (lf_BoolPost (s.toList == t.toList) w) := by
 obtain ⟨A, n, c, rfl⟩ := hv
 have hB := World.block_lt_of_cell? w _ hc
 have HB := Lib.hid ((Below.refl w.heap.size w).alloc (Nat.le_refl _) (Obj.cells #[.string s, .slice A n c, .int .i64 at_] 30))
 have hc2 : (w.alloc (Obj.cells #[.string s, .slice A n c, .int .i64 at_] 30)).cell? ⟨B, 0, none⟩ = some (.string t) := (HB.out.cell hB).trans hc
 go_enter Try.func27, Try.ntmps27
 go_wp2
 go_ret
 exact ⟨rfl, HB.out⟩
theorem lf_go_drop (a1 : ByteArray) (l : List S30) (k : Nat) (h : k < l.length) : lay_find.go a1 (l.drop k) k = if (rd_T30 l k).f0.toList = a1.toList then (k : Int) else lay_find.go a1 (l.drop (k + 1)) ((k + 1 : Nat) : Int) := by
 rw [List.drop_eq_getElem_cons h, lay_find.go]
 have e : rd_T30 l k = l[k] := by simp [rd_T30, List.getD_eq_getElem?_getD, List.getElem?_eq_getElem h]
 rw [e]; rfl
set_option maxHeartbeats 1000000 in
theorem lf_index (A0 : Option Addr) (c0 : Nat) (l0 : List (S30)) (a1 : ByteArray) (B : Nat) (w : World) (hr0 : Kd.C k30 w A0 l0.length l0) (hc : w.cell? ⟨B, 0, none⟩ = some (.string a1)) :
  Calls Try.prog 26 #[.slice A0 l0.length c0, .func (.func 27) #[] #[.pointer (some ⟨B, 0, none⟩)]] w (lf_IntPost (lay_find.go a1 l0 0) w) := by
 have hB := World.block_lt_of_cell? w _ hc
 have hn : l0.length ≤ 9223372036854775807 := hr0.2.1
 have HR := Aside0.mk hr0
 have HC := Aside0.mk hc
 clear hr0 hc
 go_enter Try.func26, Try.ntmps26
 go_wp2_with fail
 go_loopg [5, 8] l0.length (fun gg _ v8 w' => ∃ k : Nat, k ≤ l0.length ∧ l0.length - k ≤ gg ∧ v8 = .int .i64 k ∧ Aside0 (lay_find.go a1 l0 0 = lay_find.go a1 (l0.drop k) k) ∧ Aside0 (Below w.heap.size w w'))
 case atStart => exact ⟨0, Nat.zero_le _, by omega, rfl, ⟨by simp⟩, ⟨Below.refl _ _⟩⟩
 case round =>
  obtain ⟨k, hk, hg, rfl, HA, HB⟩ := hrel
  by_cases hlt : k < l0.length
  ·have hltz : (k : Int) < (l0.length : Int) := by omega
   obtain ⟨ad, A1, c1, e, h0, h1, h2, _, _⟩ := at_T30 HR.out (k : Int) (by omega) hltz
   have E := Lib.hid (lf_go_drop a1 l0 k hlt)
   have hcall := lf_clos (rd_T30 l0 k).f0 a1 (.slice A1 (rd_T30 l0 k).f1.length c1) ⟨_, _, _, rfl⟩ (rd_T30 l0 k).f2 B wr ((HB.out.cell hB).trans HC.out)
   cases e
   replace h0 := (HB.out.cell (World.block_lt_of_cell? w _ h0)).trans h0
   replace h1 := (HB.out.cell (World.block_lt_of_cell? w _ h1)).trans h1
   replace h2 := (HB.out.cell (World.block_lt_of_cell? w _ h2)).trans h2
   simp only [Int.toNat_natCast] at h0 h1 h2
   have HCALL := Lib.hid hcall
   clear hcall
   by_cases hq : (rd_T30 l0 k).f0.toList = a1.toList
   ·have hq1 : ((rd_T30 l0 k).f0.toList == a1.toList) = true := beq_iff_eq.mpr hq
    have Q := Lib.hid hq
    clear hq
    go_wp2_with (go_at_call 27; refine HCALL.out.mono ?_; rintro e w' ⟨rfl, hb'⟩)
    go_ret
    refine ⟨?_, below_then HB.out (below_size HB.out) hb'⟩
    rw [HA.out, E.out, if_pos Q.out]
    rfl
   ·have hq1 : ((rd_T30 l0 k).f0.toList == a1.toList) = false := beq_eq_false_iff_ne.mpr hq
    have Q := Lib.hid hq
    clear hq
    go_wp2_with (go_at_call 27; refine HCALL.out.mono ?_; rintro e w' ⟨rfl, hb'⟩)
    go_roundg (l0.length - (k + 1))
    case measure => omega
    case rel => exact ⟨k + 1, by omega, by omega, by go_num, ⟨by rw [HA.out, E.out, if_neg Q.out]⟩, ⟨below_then HB.out (below_size HB.out) hb'⟩⟩
  ·have hltz : ¬ (k : Int) < (l0.length : Int) := by omega
   have : k = l0.length := by omega
   have K := Lib.hid this
   clear this
   go_wp2
   go_ret
   refine ⟨?_, HB.out⟩
   rw [HA.out, K.out, List.drop_length]
   rfl
set_option maxHeartbeats 400000 in
theorem lay_find.calls (A0 : Option Addr) (c0 : Nat) (l0 : List (S30)) (a1 : ByteArray) (r : Int) (w : World) (hr0 : Kd.C k30 w A0 l0.length l0) (hc0 : l0.length ≤ c0) (h : lay_find.f l0 a1 = some r) :
  Calls Try.prog 18 #[.slice A0 l0.length c0, .string a1] w fun e w' => e = .returned (.int .i64 r) ∧ Below w.heap.size w w' := by
 obtain rfl := Option.some.inj h
 clear h
 have HB := Lib.hid ((Below.refl w.heap.size w).alloc (Nat.le_refl _) (Obj.cells #[.string a1] 9))
 have hcall := Lib.hid (lf_index A0 c0 l0 a1 w.heap.size (w.alloc (Obj.cells #[.string a1] 9)) (Kd.C_below hr0 HB.out) (blk_cell (heap_alloc_new w _) 0))
 clear hr0
 show Calls Try.prog 18 _ w (lf_IntPost _ w)
 go_enter Try.func18, Try.ntmps18
 go_wp2_with (go_at_call 26; refine hcall.out.mono ?_; rintro e w' ⟨rfl, hb'⟩)
 go_ret
 exact ⟨rfl, below_then HB.out (below_size HB.out) hb'⟩

end Go.Proofs.Ytgpdopfkkopgjaa.K
