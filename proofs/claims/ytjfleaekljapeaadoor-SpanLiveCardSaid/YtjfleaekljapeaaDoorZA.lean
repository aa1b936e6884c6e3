import Derived.Test.YtjfleaekljapeaaDoorWWords
import Derived.Test.YtjfleaekljapeaaDoorK0
import Derived.Test.YtjfleaekljapeaaDoorK2
import Derived.Test.YtjfleaekljapeaaDoorK3
import Derived.Test.YtjfleaekljapeaaDoorK5
import Derived.Test.YtjfleaekljapeaaDoorK6
import Derived.Test.YtjfleaekljapeaaDoorK31
import Derived.Test.YtjfleaekljapeaaDoorK34
import Derived.Test.YtjfleaekljapeaaDoorK37
import Derived.Test.YtjfleaekljapeaaDoorZFlow
import Derived.Deep.DeepMust
import Derived.Test.YtjfleaekljapeaaDoorProg
import Derived.Below
import Derived.Deep.Draws
import Derived.Deep.AppendLies
import Derived.Maps.AppendAt
import Derived.OwnWalk
import Derived.Laws.BytesArg
import Derived.Laws.MakeOwn
import Derived.Laws.OwnMore
import Derived.Deep.OwnRows
import Derived.Tactics
import Derived.Lib.ConvBytes
import Derived.Laws.Slices
import Derived.WalkKit
import Derived.KernelRfl
import Derived.RowKit3
import Derived.Deep.LoopGhost
import Derived.Deep.QuietTactic
import Derived.BigQuiet
import Derived.WideLaws
import Derived.Deep.DeepCutAuto
import Derived.Deep.CutBlock
import Derived.Deep.RegionHeld3
import Derived.Deep.MidRow
import Derived.Laws.Rows
import Derived.Lib.AppendStr
import Derived.ArgAppend
import Derived.Laws.IdiomCopy
import Derived.OrdersHeld
import Derived.Laws.BitsLemmas
import Derived.RowKit
import Derived.RegionTactic
import Derived.Deep.RegionWith
import Derived.Lib.Hide
import Derived.Test.YtjfleaekljapeaaDoorWLast
import Derived.Test.YtjfleaekljapeaaDoorWTab
import Derived.Test.YtjfleaekljapeaaDoorWFour
import Derived.Test.YtjfleaekljapeaaDoorWQPut
import Derived.Test.YtjfleaekljapeaaDoorWApart
import Derived.Test.YtjfleaekljapeaaDoorWArr
import Derived.Test.YtjfleaekljapeaaDoorWZeros
import Derived.Test.YtjfleaekljapeaaDoorWFoot
import Derived.Test.YtjfleaekljapeaaDoorWKept
import Derived.Test.YtjfleaekljapeaaDoorWShare
import Derived.Test.YtjfleaekljapeaaDoorWN
import Derived.Test.YtjfleaekljapeaaDoorWEqStruct
import Derived.Test.YtjfleaekljapeaaDoorWRepsOne
import Derived.Test.YtjfleaekljapeaaDoorWGuard
import Derived.Test.YtjfleaekljapeaaDoorWNEv
import Derived.Test.YtjfleaekljapeaaDoorWMore
import Derived.Deep.RegionLaw
import Derived.Laws.CopyOwn
import Derived.Shelf.Spec.TrailingZeros
namespace Go.Proofs.YtjfleaekljapeaaDoor.EvLib
open Go.RowKit Go.Proofs.YtjfleaekljapeaaDoorW.PrintWords
theorem Ev.succ {α : Type} {g : Nat → Option α} {r : α} (h : Ev (fun k => g (k + 1)) r) : Ev g r := Ev.step (fun _ => rfl) h
theorem Ev.pos {α : Type} {c : Prop} [Decidable c] {f g : Nat → Option α} {r : α} (hc : c) (h : Ev f r) : Ev (fun k => if c then f k else g k) r := by
  obtain ⟨K, h⟩ := h
  exact ⟨K, fun k hk => by simp only [if_pos hc]; exact h k hk⟩
theorem Ev.neg {α : Type} {c : Prop} [Decidable c] {f g : Nat → Option α} {r : α} (hc : ¬ c) (h : Ev g r) : Ev (fun k => if c then f k else g k) r := by
  obtain ⟨K, h⟩ := h
  exact ⟨K, fun k hk => by simp only [if_neg hc]; exact h k hk⟩
theorem Ev.const {α : Type} {x : Option α} {r : α} (h : x = some r) : Ev (fun _ => x) r := ⟨0, fun _ _ => h⟩
theorem Ev.eq {α : Type} {g : Nat → Option α} {r r' : α} (h : Ev g r) (e : r = r') : Ev g r' := e ▸ h
theorem Ev.ret {α : Type} {v r : α} (e : v = r) : Ev (fun _ => some v) r := ⟨0, fun _ _ => by rw [e]⟩
theorem Ev.unique {α : Type} {g : Nat → Option α} {r r' : α} (h : Ev g r) (h' : Ev g r') : r = r' := by
  obtain ⟨K, h⟩ := h
  obtain ⟨K', h'⟩ := h'
  have h1 := h (max K K') (by omega)
  have h2 := h' (max K K') (by omega)
  rw [h1] at h2
  exact Option.some.inj h2
theorem wrap_succ {i : Nat} (h : i < 4611686018427387904) : wrap64 ((i : Int) + 1) = ((i + 1 : Nat) : Int) := by
  unfold wrap64
  omega
theorem wrap_in {a : Int} (h0 : -9223372036854775808 ≤ a) (h1 : a ≤ 9223372036854775807) : wrap64 a = a := by
  unfold wrap64
  omega
end Go.Proofs.YtjfleaekljapeaaDoor.EvLib
namespace Go.Proofs.YtjfleaekljapeaaDoor.K
open Go.RowKit Go.Proofs.YtjfleaekljapeaaDoorW.PrintWords Go.Proofs.YtjfleaekljapeaaDoorW.PrintLast Go.Proofs.YtjfleaekljapeaaDoorW.PrintMore
attribute [local go_sem] max2_int min2_int max_two min_two max_three min_three max_four min_four   -- for this text's walks alone
set_option linter.unusedVariables false
set_option linter.unusedSimpArgs false
set_option linter.unusedSectionVars false
/-! ### what the printed functions of hauberkref12, hauberkref15 answer, in plain words -/
open Go.Proofs.YtjfleaekljapeaaDoor.EvLib
theorem rd_nat (l : List Int) (i : Nat) : rd l (i : Int) = l.getD i 0 := by unfold rd; rw [Int.toNat_natCast]
theorem w64_nat (i : Nat) (h : i + 1 ≤ 9223372036854775807) : wrap64 ((i : Int) + 1) = ((i + 1 : Nat) : Int) := by unfold wrap64; omega
theorem getD_mem (l : List Int) (i : Nat) (h : i < l.length) : l.getD i 0 ∈ l := by
  rw [List.getD_eq_getElem?_getD, List.getElem?_eq_getElem h]; exact List.getElem_mem h
theorem mem_drop (l : List Int) (i : Nat) (h : i < l.length) (r : Int) : r ∈ l.drop i ↔ l.getD i 0 = r ∨ r ∈ l.drop (i + 1) := by
  rw [List.drop_eq_getElem_cons h, List.mem_cons, List.getD_eq_getElem?_getD, List.getElem?_eq_getElem h]
  show r = l[i] ∨ _ ↔ l[i] = r ∨ _
  constructor <;> rintro (h | h) <;> first | exact .inl h.symm | exact .inr h
theorem has_ev (l : List Int) (r : Int) (hl : l.length ≤ 9223372036854775807) : ∀ (d i : Nat), l.length - i = d → i ≤ l.length → Ev (fun k => hauberkref15_has.l0 k l r (l.length : Int) (i : Int)) (decide (r ∈ l.drop i))
  | 0, i, hd, hi => by
    obtain rfl : i = l.length := by omega
    refine Ev.succ ?_
    simp only [hauberkref15_has.l0]
    rw [List.drop_length]
    exact Ev.neg (by omega) (Ev.ret (by simp))
  | d + 1, i, hd, hi => by
    have c : i < l.length := by omega
    refine Ev.succ ?_
    simp only [hauberkref15_has.l0]
    rw [rd_nat, w64_nat i (by omega)]
    have hm := mem_drop l i c r
    refine Ev.pos (by omega) (Ev.pos (by omega) (Ev.pos (by omega) ?_))
    by_cases e : l.getD i 0 = r
    · exact Ev.pos e (Ev.ret (decide_eq_true (hm.2 (.inl e))).symm)
    · exact Ev.neg e (Ev.eq (has_ev l r hl d (i + 1) (by omega) (by omega)) (decide_eq_decide.2 ⟨fun h => hm.2 (.inr h), fun h => (hm.1 h).resolve_left e⟩))
theorem has_f (l : List Int) (r : Int) (hl : l.length ≤ 9223372036854775807) : Ev (fun k => hauberkref15_has.f k l r) (decide (r ∈ l)) := by
  have := has_ev l r hl l.length 0 (by omega) (by omega)
  rw [List.drop_zero] at this
  exact this
/-- The registers that are there. -/
def thB (nk : Nat) (r : Int) : Bool := decide (0 ≤ r) && decide (r < nk)
theorem th_iff (nk : Nat) (r : Int) : thB nk r = true ↔ 0 ≤ r ∧ r < nk := by unfold thB; simp
theorem there_f (nm : ByteArray) (l1 l2 l3 : List Int) (code : List S44) (r : Int) : hauberkref12_there.f nm l1 l2 l3 code r = some (thB l2.length r) := by
  unfold hauberkref12_there.f thB
  by_cases c : 0 ≤ r
  · rw [if_pos c, decide_eq_true c]; rfl
  · rw [if_neg c, decide_eq_false c]; rfl
/-- From place i on registers are there, none (asked for) as one before it. -/
def AllF (nk : Nat) (l : List Int) (once : Bool) (i : Nat) : Prop := ∀ q, i ≤ q → q < l.length → (0 ≤ l.getD q 0 ∧ l.getD q 0 < nk) ∧ (once = true → ∀ k, k < q → l.getD k 0 ≠ l.getD q 0)
def AllP (nk : Nat) (l : List Int) (once : Bool) : Prop := AllF nk l once 0
section
variable (nm : ByteArray) (l1 l2 l3 : List Int) (code : List S44) (l : List Int) (hl : l.length ≤ 9223372036854775807)
include hl
theorem all_ev1 (once : Bool) (i : Nat) (hi : i < l.length) (b' : Bool) (hb : Ev (fun k => hauberkref12_all.l0 k l once (l.length : Int) ((i + 1 : Nat) : Int) nm l1 l2 l3 code) b') :
    ∀ (d j : Nat), i - j = d → j ≤ i → ∃ b, Ev (fun k => hauberkref12_all.l1 k l once i j (l.length : Int) i nm l1 l2 l3 code) b ∧ (b = true ↔ b' = true ∧ (once = true → ∀ q, j ≤ q → q < i → l.getD q 0 ≠ l.getD i 0))
  | 0, j, hd, hj => by
    obtain rfl : j = i := by omega
    refine ⟨b', Ev.succ ?_, ⟨fun h => ⟨h, fun _ q h1 h2 => by omega⟩, fun h => h.1⟩⟩
    simp only [hauberkref12_all.l1]
    rw [w64_nat j (by omega)]
    exact Ev.neg (by omega) hb
  | d + 1, j, hd, hj => by
    have c : j < i := by omega
    obtain ⟨b, h1, h2⟩ := all_ev1 once i hi b' hb d (j + 1) (by omega) (by omega)
    cases once with
    | false =>
      refine ⟨b, Ev.succ ?_, h2.trans ⟨fun h => ⟨h.1, fun h => (by cases h)⟩, fun h => ⟨h.1, fun h => (by cases h)⟩⟩⟩
      simp only [hauberkref12_all.l1]
      rw [w64_nat j (by omega)]
      exact Ev.pos (by omega) (Ev.neg (by decide) h1)
    | true =>
      by_cases e : l.getD j 0 = l.getD i 0
      · refine ⟨false, Ev.succ ?_, ⟨fun h => (by cases h), fun h => absurd e (h.2 rfl j (Nat.le_refl _) c)⟩⟩
        simp only [hauberkref12_all.l1]
        rw [rd_nat, rd_nat]
        exact Ev.pos (by omega) (Ev.pos trivial (Ev.pos (by omega) (Ev.pos (by omega) (Ev.pos (by omega) (Ev.pos (by omega) (Ev.pos e (Ev.now _)))))))
      · refine ⟨b, Ev.succ ?_, h2.trans ⟨fun h => ⟨h.1, fun _ q h3 h4 => ?_⟩, fun h => ⟨h.1, fun h5 q h3 h4 => h.2 h5 q (by omega) h4⟩⟩⟩
        · simp only [hauberkref12_all.l1]
          rw [rd_nat, rd_nat, w64_nat j (by omega)]
          exact Ev.pos (by omega) (Ev.pos trivial (Ev.pos (by omega) (Ev.pos (by omega) (Ev.pos (by omega) (Ev.pos (by omega) (Ev.neg e h1))))))
        · by_cases h5 : q = j
          · subst h5; exact e
          · exact h.2 rfl q (by omega) h4
theorem all_ev0 (once : Bool) : ∀ (d i : Nat), l.length - i = d → i ≤ l.length → ∃ b, Ev (fun k => hauberkref12_all.l0 k l once (l.length : Int) (i : Int) nm l1 l2 l3 code) b ∧ (b = true ↔ AllF l2.length l once i)
  | 0, i, hd, hi => by
    obtain rfl : i = l.length := by omega
    refine ⟨true, Ev.succ ?_, ⟨fun _ q h1 h2 => by omega, fun _ => rfl⟩⟩
    simp only [hauberkref12_all.l0]
    exact Ev.neg (by omega) (Ev.now _)
  | d + 1, i, hd, hi => by
    have c : i < l.length := by omega
    obtain ⟨b', h1, h2⟩ := all_ev0 once d (i + 1) (by omega) (by omega)
    obtain ⟨b, h3, h4⟩ := all_ev1 nm l1 l2 l3 code l hl once i c b' h1 i 0 (by omega) (by omega)
    cases ht : thB l2.length (l.getD i 0) with
    | false =>
      refine ⟨false, Ev.succ ?_, ⟨fun h => (by cases h), fun h => ?_⟩⟩
      · simp only [hauberkref12_all.l0]
        rw [rd_nat, there_f, ht]
        exact Ev.pos (by omega) (Ev.pos (by omega) (Ev.pos (by omega) (Ev.bind (Ev.now _) (Ev.neg (by decide) (Ev.now _)))))
      · have := (th_iff _ _).2 (h i (Nat.le_refl _) c).1
        rw [ht] at this
        cases this
    | true =>
      refine ⟨b, Ev.succ ?_, h4.trans ⟨fun h q h5 h6 => ?_, fun h => ⟨h2.2 fun q h5 h6 => h q (by omega) h6, fun ho q _ h6 => (h i (Nat.le_refl _) c).2 ho q h6⟩⟩⟩
      · simp only [hauberkref12_all.l0]
        rw [rd_nat, there_f, ht]
        exact Ev.pos (by omega) (Ev.pos (by omega) (Ev.pos (by omega) (Ev.bind (Ev.now _) (Ev.pos rfl h3))))
      · by_cases h7 : q = i
        · subst h7
          exact ⟨(th_iff _ _).1 ht, fun ho k hk => h.2 ho k (Nat.zero_le _) hk⟩
        · exact h2.1 h.1 q (by omega) h6
theorem all_f (once : Bool) : ∃ b, Ev (fun k => hauberkref12_all.f k nm l1 l2 l3 code l once) b ∧ (b = true ↔ AllP l2.length l once) := all_ev0 nm l1 l2 l3 code l hl once l.length 0 (by omega) (by omega)
end
def isB (op : Int) : Bool := (decide (1 ≤ op) && decide (op ≤ 4)) || ((decide (18 ≤ op) && decide (op ≤ 22)) || (decide (30 ≤ op) && decide (op ≤ 43)))
theorem is_f (op : Int) : hauberkref12_Is.f op = some (isB op) := by
  unfold hauberkref12_Is.f isB
  by_cases h1 : 1 ≤ op <;> by_cases h2 : op ≤ 4 <;> by_cases h3 : 18 ≤ op <;> by_cases h4 : op ≤ 22 <;> by_cases h5 : 30 ≤ op <;> simp [h1, h2, h3, h4, h5]
def liA (op : Int) : Int := if op = 34 ∨ op = 41 then 5 else if op = 38 then 4 else if op = 42 ∨ op = 43 then -1 else 0
def liO (op : Int) : Int := if op = 37 then 4 else if op = 40 then 5 else if op = 42 then -1 else 0
theorem lists_f (op : Int) : hauberkref12_Lists.f 1 op = some (liA op, liO op) := by
  unfold hauberkref12_Lists.f liA liO
  simp only [hauberkref12_Lists.j0]
  by_cases h34 : op = 34
  · subst h34; rfl
  rw [if_neg h34]
  by_cases h41 : op = 41
  · subst h41; rfl
  have e : (op == 41) = false := by simpa using h41
  rw [e, if_neg (by decide)]
  have e2 : ¬ (op = 34 ∨ op = 41) := by omega
  rw [if_neg e2]
  (repeat' split) <;> first | rfl | omega
theorem ints_ev (l m : List Int) (hl : l.length ≤ 9223372036854775807) (hm : m.length = l.length) : ∀ (d i : Nat), l.length - i = d → i ≤ l.length → (∀ q, q < l.length → l.getD q 0 = m.getD q 0) → Ev (fun k => hauberkref01_Ints.l0 k l m (l.length : Int) (i : Int)) true
  | 0, i, hd, hi, he => by
    obtain rfl : i = l.length := by omega
    refine Ev.succ ?_
    simp only [hauberkref01_Ints.l0]
    exact Ev.neg (by omega) (Ev.now _)
  | d + 1, i, hd, hi, he => by
    have c : i < l.length := by omega
    refine Ev.succ ?_
    simp only [hauberkref01_Ints.l0]
    rw [rd_nat, rd_nat, w64_nat i (by omega)]
    exact Ev.pos (by omega) (Ev.pos (by omega) (Ev.pos (by omega) (Ev.pos (by omega) (Ev.pos (he i c) (ints_ev l m hl hm d (i + 1) (by omega) (by omega) he)))))
theorem ints_f (l : List Int) (hl : l.length ≤ 9223372036854775807) : Ev (fun k => hauberkref01_Ints.f k l l) true := by
  unfold hauberkref01_Ints.f
  exact Ev.pos rfl (ints_ev l l hl rfl l.length 0 (by omega) (by omega) (fun _ _ => rfl))
theorem follow_f (k : Nat) (nm : ByteArray) (l1 l2 l3 : List Int) (code : List S44) (n : Nat) (h : n < code.length) (hn : code.length ≤ 1000000) : hauberkref15_follow.f (k + 1) nm l1 l2 l3 code (n : Int) = some (lvNext code n) := by
  have hw : wrap64 ((n : Int) + 1) = (n : Int) + 1 := by unfold wrap64; omega
  unfold hauberkref15_follow.f lvNext
  rw [if_pos (by omega), if_pos (by omega)]
  by_cases h22 : (rd_T44 code n).f0 = 22
  · rw [if_pos h22, if_pos (.inr h22)]
    simp only [hauberkref15_follow.j0]
    rw [h22]; rfl
  · rw [if_neg h22]
    simp only [hauberkref15_follow.j0, hw]
    by_cases h43 : (rd_T44 code n).f0 = 43
    · have e : ((rd_T44 code n).f0 == 43) = true := by rw [h43]; rfl
      rw [if_pos e, if_pos (Or.inl h43)]
    · have e : ((rd_T44 code n).f0 == 43) = false := by simpa using h43
      have e2 : ¬ ((rd_T44 code n).f0 = 43 ∨ (rd_T44 code n).f0 = 22) := by omega
      rw [e, if_neg (by decide), if_neg e2]
      split
      · rw [if_pos (by omega), if_pos (by omega)]
      · split
        · rw [if_pos (by omega), if_pos (by omega)]
        · rfl
def allB (nk : Nat) (l : List Int) (once : Bool) : Bool := (List.range l.length).all fun q => thB nk (l.getD q 0) && (!once || (List.range q).all fun k => !(l.getD k 0 == l.getD q 0))
theorem allB_iff (nk : Nat) (l : List Int) (once : Bool) : allB nk l once = true ↔ AllP nk l once := by
  unfold allB AllP AllF
  rw [List.all_eq_true]
  constructor
  · intro h q _ hq
    have := h q (List.mem_range.2 hq)
    rw [Bool.and_eq_true, th_iff] at this
    refine ⟨this.1, fun ho k hk e => ?_⟩
    have h2 := this.2
    rw [ho, Bool.not_true, Bool.false_or, List.all_eq_true] at h2
    have h3 := h2 k (List.mem_range.2 hk)
    rw [e] at h3
    simp at h3
  · intro h q hq
    obtain ⟨h1, h2⟩ := h q (Nat.zero_le _) (List.mem_range.1 hq)
    rw [Bool.and_eq_true, th_iff]
    refine ⟨h1, ?_⟩
    cases once with
    | false => rfl
    | true =>
      rw [Bool.not_true, Bool.false_or, List.all_eq_true]
      intro k hk
      have := h2 rfl k (List.mem_range.1 hk)
      simpa using this
theorem all_is (nm : ByteArray) (l1 l2 l3 : List Int) (code : List S44) (l : List Int) (hl : l.length ≤ 9223372036854775807) (once : Bool) : Ev (fun k => hauberkref12_all.f k nm l1 l2 l3 code l once) (allB l2.length l once) := by
  obtain ⟨b, h1, h2⟩ := all_f nm l1 l2 l3 code l hl once
  refine Ev.eq h1 ?_
  rw [Bool.eq_iff_iff, h2, allB_iff]
end Go.Proofs.YtjfleaekljapeaaDoor.K
