/- The plain laws of layer 4, third part: what the program's Of, Known, Size and Cells answer of right structs, and the reference's Size and Cells. Conditions: none. -/
import Derived.Test.YtgpdopfkkopgjaaPure2
import Derived.Test.YtgpdopfkkopgjaaK24
import Derived.Test.YtgpdopfkkopgjaaK26
namespace Go.Proofs.Ytgpdopfkkopgjaa.K
set_option linter.unusedVariables false
set_option linter.unusedSimpArgs false
open Go.RowKit Go.Proofs.YtgpdopfkkopgjaaW.PrintWords Go.Proofs.YtgpdopfkkopgjaaW.PrintMore Go.Proofs.Ytgpdopfkkopgjaa.EvLib

theorem go_none (a : ByteArray) : ∀ (l : List S30) (i : Int), fnd l a = none → lay_find.go a l i = -1
  | [], _, _ => rfl
  | s :: r, i, h => by
    rw [fnd, List.find?_cons] at h
    by_cases e : s.f0.toList = a.toList
    · rw [beq_iff_eq.mpr e] at h; cases h
    · rw [beq_eq_false_iff_ne.mpr e] at h
      rw [lay_find.go, if_neg e]
      exact go_none a r _ h
theorem go_some (a : ByteArray) (s : S30) : ∀ (l : List S30) (i : Int), fnd l a = some s → ∃ j, ∃ h : j < l.length, l[j] = s ∧ lay_find.go a l i = i + j
  | [], _, h => by cases h
  | x :: r, i, h => by
    rw [fnd, List.find?_cons] at h
    by_cases e : x.f0.toList = a.toList
    · rw [beq_iff_eq.mpr e] at h
      rw [lay_find.go, if_pos e]
      exact ⟨0, by simp, by simpa using h, by simp⟩
    · rw [beq_eq_false_iff_ne.mpr e] at h
      rw [lay_find.go, if_neg e]
      obtain ⟨j, hj, h1, h2⟩ := go_some a s r (i + 1) h
      exact ⟨j + 1, by simp; omega, by simpa using h1, by rw [h2]; simp; omega⟩
theorem fnd_mem {l : List S30} {a : ByteArray} {s : S30} (h : fnd l a = some s) : s ∈ l := List.mem_of_find?_eq_some h
theorem right_fields {l : List S30} (hR : Right l) {s : S30} (hs : s ∈ l) : 1 ≤ s.f1.length ∧ s.f1.length ≤ 12 ∧ ∀ f ∈ s.f1, FieldOk l f := by
  obtain ⟨i, hi, rfl⟩ := List.mem_iff_getElem.1 hs
  obtain ⟨_, h1, h2, h3⟩ := hR.2 i hi
  refine ⟨h1, h2, fun f hf => ?_⟩
  obtain ⟨m, hm, rfl⟩ := List.mem_iff_getElem.1 hf
  exact (h3 m hm).1
theorem layout_facts {l : List S30} {fs : List S32} (hn : 1 ≤ fs.length ∧ fs.length ≤ 12) (hok : ∀ f ∈ fs, FieldOk l f) :
    1 ≤ (layout fs).1 ∧ (layout fs).1 ≤ 200 ∧ (layout fs).2.2.length = fs.length := by
  obtain ⟨h1, h2, h3, h4⟩ := layF_facts fs 0 1 [] hok (by omega) (by simp)
  obtain ⟨u1, u2, _⟩ := up_spec (layF fs 0 1 []).1 (layF fs 0 1 []).2.1 h1 h3
  refine ⟨?_, by unfold layout; dsimp only; omega, by unfold layout; dsimp only; simpa using h4⟩
  unfold layout
  dsimp only
  obtain ⟨f, r, rfl⟩ : ∃ f r, fs = f :: r := by
    cases fs with
    | nil => simp at hn
    | cons f r => exact ⟨f, r, rfl⟩
  have hs := field_size (hok f (by simp))
  obtain ⟨v1, _, _⟩ := up_spec 0 (sm f.f1) (by omega) hs
  have := layF_facts r (upI 0 (sm f.f1) + sm f.f1) (mx 1 (sm f.f1)) ([] ++ [upI 0 (sm f.f1)]) (fun g hg => hok g (by simp [hg])) (by omega) (mx_size _ _ (by simp) hs)
  rw [layF] at u1 ⊢
  omega
theorem ev_Of {l : List S30} (hR : Right l) (a : ByteArray) : Ev (fun k => lay_Of.f k l a) (match fnd l a with | none => (0, 0, [], 13) | some s => ((layout s.f1).1, (layout s.f1).2.1, (layout s.f1).2.2, 0)) := by
  unfold lay_Of.f
  cases h : fnd l a with
  | none => exact Ev.bind (Ev.const (show lay_find.f l a = some (-1) from by unfold lay_find.f; rw [go_none a l 0 h])) (Ev.pos (by omega) (Ev.now _))
  | some s =>
    obtain ⟨j, hj, h1, h2⟩ := go_some a s l 0 h
    obtain ⟨f1, f2, f3⟩ := right_fields hR (fnd_mem h)
    refine Ev.bind (Ev.const (show lay_find.f l a = some (j : Int) from by unfold lay_find.f; rw [h2]; simp)) (Ev.neg (by omega) (Ev.pos (by omega) (Ev.pos (by omega) ?_)))
    rw [rd30_at l j hj, h1]
    exact ev_Of_fields s.f1 f3 f2
theorem ev_KnownP {l : List S30} (a b : Int) (c : ByteArray) : Ev (fun k => lay_Known.f k l a b c) (knownB l ⟨a, b, c⟩) := by
  unfold lay_Known.f knownB
  dsimp only
  by_cases h1 : b < 0
  · refine Ev.pos h1 (Ev.succ ?_)
    simp only [lay_Known.j0]
    refine Ev.pos (by simp) (Ev.ret ?_)
    rw [decide_eq_false (by omega)]; rfl
  · refine Ev.neg h1 (Ev.succ ?_)
    simp only [lay_Known.j0]
    rw [decide_eq_true (show 0 ≤ b by omega)]
    by_cases h2 : b > 4
    · refine Ev.pos (by simpa using h2) (Ev.ret ?_)
      rw [decide_eq_false (show ¬ b ≤ 4 by omega)]; rfl
    · rw [decide_eq_true (show b ≤ 4 by omega)]
      refine Ev.neg (by simpa using h2) ?_
      by_cases h5 : a = 4
      · subst h5
        refine Ev.pos rfl ?_
        rw [if_pos rfl]
        cases h : fnd l c with
        | none => exact Ev.bind (Ev.const (show lay_find.f l c = some (-1) from by unfold lay_find.f; rw [go_none c l 0 h])) (Ev.ret (by rfl))
        | some s =>
          obtain ⟨j, hj, _, e2⟩ := go_some c s l 0 h
          exact Ev.bind (Ev.const (show lay_find.f l c = some (j : Int) from by unfold lay_find.f; rw [e2]; simp)) (Ev.ret (by rw [decide_eq_true (by omega)]; rfl))
      · refine Ev.neg h5 ?_
        rw [if_neg h5]
        by_cases h3 : a ≥ 0
        · rw [decide_eq_true (show 0 ≤ a by omega)]
          refine Ev.pos h3 ?_
          by_cases h4 : a ≤ 3
          · rw [decide_eq_true (show a ≤ 4 by omega)]
            exact Ev.pos h4 (Ev.ret (by simp))
          · rw [decide_eq_false (show ¬ a ≤ 4 by omega)]
            exact Ev.neg h4 (Ev.ret (by simp))
        · rw [decide_eq_false (show ¬ 0 ≤ a by omega)]
          exact Ev.neg h3 (Ev.ret (by simp))
/-- A type's size, if it has one. -/
def sizeOf (l : List S30) (t : S25) : Option Int :=
  if knownB l t = true then (if sm t > 0 then some (sm t) else if t.f0 = 4 then (fnd l t.f2).map (fun s => (layout s.f1).1) else none) else none
theorem ev_Size {l : List S30} (hR : Right l) (t : S25) : Ev (fun k => lay_Size.f k l t.f0 t.f1 t.f2) (match sizeOf l t with | none => (0, 14) | some n => (n, 0)) := by
  unfold lay_Size.f sizeOf
  by_cases hk : knownB l t = true
  · refine Ev.bind (ev_KnownP _ _ _) (Ev.pos hk (Ev.bind (Ev.const (small_known hk)) ?_))
    rw [if_pos hk]
    by_cases h1 : sm t > 0
    · rw [if_pos h1]
      exact Ev.pos h1 (Ev.now _)
    · rw [if_neg h1]
      refine Ev.neg h1 ?_
      by_cases h4 : t.f0 = 4
      · rw [if_pos h4]
        refine Ev.pos h4 (Ev.bind (ev_Of hR t.f2) ?_)
        have := (known_facts hk).2.2.2.2.1 h4
        cases h : fnd l t.f2 with
        | none => rw [h] at this; cases this
        | some s => exact Ev.now _
      · rw [if_neg h4]
        exact Ev.neg h4 (Ev.now _)
  · rw [if_neg hk]
    exact Ev.bind (ev_KnownP _ _ _) (Ev.neg hk (Ev.now _))
theorem size_range {l : List S30} (hR : Right l) {t : S25} {n : Int} (h : sizeOf l t = some n) : 1 ≤ n ∧ n ≤ 200 := by
  unfold sizeOf at h
  by_cases hk : knownB l t = true
  · rw [if_pos hk] at h
    by_cases h1 : sm t > 0
    · rw [if_pos h1] at h
      obtain rfl := Option.some.inj h
      rcases sm_range t with e | e | e | e <;> omega
    · rw [if_neg h1] at h
      by_cases h4 : t.f0 = 4
      · rw [if_pos h4] at h
        obtain ⟨s, hs, rfl⟩ := Option.map_eq_some_iff.1 h
        obtain ⟨f1, f2, f3⟩ := right_fields hR (fnd_mem hs)
        have := layout_facts ⟨f1, f2⟩ f3
        exact ⟨this.1, this.2.1⟩
      · rw [if_neg h4] at h; cases h
  · rw [if_neg hk] at h; cases h
theorem ev_SizeR {l : List S30} (hR : Right l) (t : S25) : Ev (fun k => hauberkref04_Size.f k l t.f0 t.f1 t.f2) (match sizeOf l t with | none => (0, false) | some n => (n, true)) := by
  have hl : l.length ≤ 1000000 := by have := hR.1; omega
  unfold hauberkref04_Size.f
  by_cases hk : knownB l t = true
  · refine Ev.bind (ev_Known l hl _ _ _) (Ev.pos hk (Ev.bind (Ev.const (ref_Small _ _ _)) ?_))
    show Ev (fun k => if sm t = 0 then _ else _) _
    unfold sizeOf
    rw [if_pos hk]
    by_cases h0 : sm t = 0
    · refine Ev.pos h0 (Ev.succ ?_)
      simp only [hauberkref04_Size.j0]
      rw [if_neg (show ¬ sm t > 0 by omega)]
      by_cases h4 : t.f0 = 4
      · rw [if_pos h4]
        refine Ev.pos (by simpa using h4) ?_
        have := (known_facts hk).2.2.2.2.1 h4
        cases h : fnd l t.f2 with
        | none => rw [h] at this; cases this
        | some s =>
          obtain ⟨f1, f2, f3⟩ := right_fields hR (fnd_mem h)
          refine Ev.bind (ev_Find l t.f2 hl) ?_
          rw [h]
          refine Ev.bind (ev_Places s f3 f2) (Ev.ret ?_)
          show ((layout s.f1).1, decide ((layout s.f1).1 > 0)) = ((layout s.f1).1, true)
          rw [decide_eq_true (by have := layout_facts ⟨f1, f2⟩ f3; omega)]
      · rw [if_neg h4]
        refine Ev.neg (by simpa using h4) (Ev.ret ?_)
        show (sm t, decide (sm t > 0)) = (0, false)
        rw [h0]; rfl
    · refine Ev.neg h0 (Ev.succ ?_)
      simp only [hauberkref04_Size.j0]
      have : sm t > 0 := by rcases sm_range t with e | e | e | e <;> omega
      rw [if_pos this]
      exact Ev.neg (by simp) (Ev.ret (by show (sm t, decide (sm t > 0)) = _; rw [decide_eq_true this]))
  · unfold sizeOf
    rw [if_neg hk]
    exact Ev.bind (ev_Known l hl _ _ _) (Ev.neg hk (Ev.now _))

/-! the cells -/
def ones (fs : List S32) (o : List Int) : List S61 := List.zipWith (fun f a => ⟨a, f.f1⟩) fs o
/-- All of one such. -/
def oneOf (l : List S30) (t : S25) : List S61 := if sm t = 0 then (match fnd l t.f2 with | none => [] | some s => ones s.f1 (layout s.f1).2.2) else [⟨0, t⟩]
def moved (size : Int) (one : List S61) (i : Nat) : List S61 := one.map (fun c => ⟨(i : Int) * size + c.f0, c.f1⟩)
def cellsTo (size : Int) (one : List S61) : Nat → List S61
  | 0 => []
  | n + 1 => cellsTo size one n ++ moved size one n
theorem cellsTo_length (size : Int) (one : List S61) : ∀ n, (cellsTo size one n).length = n * one.length
  | 0 => by simp [cellsTo]
  | n + 1 => by rw [cellsTo, List.length_append, cellsTo_length size one n, moved, List.length_map, Nat.succ_mul]
theorem rd61_at (l : List S61) (i : Nat) (h : i < l.length) : rd_T61 l (i : Int) = l[i] := by
  simp [rd_T61, List.getD_eq_getElem?_getD, List.getElem?_eq_getElem h]
theorem rd_at (l : List Int) (i : Nat) (h : i < l.length) : rd l (i : Int) = l[i] := by
  simp [rd, List.getD_eq_getElem?_getD, List.getElem?_eq_getElem h]
theorem mul_small (i : Nat) (size : Int) (hi : i ≤ 500) (h0 : 0 ≤ size) (h1 : size ≤ 200) : 0 ≤ (i : Int) * size ∧ (i : Int) * size ≤ 100000 := by
  refine ⟨Int.mul_nonneg (by omega) h0, ?_⟩
  have := Int.mul_le_mul (show (i : Int) ≤ 500 by omega) h1 h0 (by omega)
  omega
section
variable (n : Nat) (hn : n ≤ 500) (size : Int) (hs0 : 0 ≤ size) (hs1 : size ≤ 200) (one : List S61) (ho : one.length ≤ 12) (hoff : ∀ c ∈ one, 0 ≤ c.f0 ∧ c.f0 ≤ 1000)
include hn hs0 hs1 ho hoff
theorem ev_Cells_l2 (i : Nat) (hi : i < n) (r : List S61 × Int) (next : Ev (fun k => lay_Cells.l1 k size one (cellsTo size one (i + 1)) (n : Int) ((i + 1 : Nat) : Int)) r) (d : Nat) :
    ∀ j, j + d = one.length → Ev (fun k => lay_Cells.l2 k size one (cellsTo size one i ++ (moved size one i).take j) (i : Int) (n : Int) (i : Int) one (one.length : Int) (j : Int)) r := by
  have hm : (moved size one i).length = one.length := by simp [moved]
  induction d with
  | zero =>
    intro j hj
    refine Ev.succ ?_
    simp only [lay_Cells.l2]
    refine Ev.neg (by omega) ?_
    rw [List.take_of_length_le (by omega), wrap_succ (by omega)]
    exact next
  | succ d ih =>
    intro j hj
    have hlt : j < one.length := by omega
    have hlen : (cellsTo size one i ++ (moved size one i).take j).length ≤ 100000 := by
      rw [List.length_append, cellsTo_length]
      have h1 : i * one.length ≤ 500 * 12 := Nat.mul_le_mul (by omega) ho
      have h2 := List.length_take_le j (moved size one i)
      omega
    obtain ⟨o0, o1⟩ := hoff one[j] (List.getElem_mem hlt)
    obtain ⟨m0, m1⟩ := mul_small i size (by omega) hs0 hs1
    refine Ev.succ ?_
    simp only [lay_Cells.l2]
    refine Ev.pos (by omega) (Ev.pos (by omega) (Ev.pos (by omega) (Ev.pos (by omega) ?_)))
    rw [rd61_at one j hlt, wrap_in (a := (i : Int) * size) (by omega) (by omega), wrap_in (a := (i : Int) * size + one[j].f0) (by omega) (by omega), wrap_succ (by omega)]
    have e : cellsTo size one i ++ (moved size one i).take j ++ [(⟨(i : Int) * size + one[j].f0, ⟨one[j].f1.f0, one[j].f1.f1, one[j].f1.f2⟩⟩ : S61)] = cellsTo size one i ++ (moved size one i).take (j + 1) := by
      rw [List.append_assoc, List.take_succ_eq_append_getElem (by omega)]
      simp [moved]
    rw [e]
    exact ih (j + 1) (by omega)
theorem ev_Cells_l1 (d : Nat) : ∀ i, i + d = n → Ev (fun k => lay_Cells.l1 k size one (cellsTo size one i) (n : Int) (i : Int)) (cellsTo size one n, 0) := by
  induction d with
  | zero =>
    intro i hi
    obtain rfl : i = n := by omega
    refine Ev.succ ?_
    simp only [lay_Cells.l1]
    exact Ev.neg (by omega) (Ev.now _)
  | succ d ih =>
    intro i hi
    refine Ev.succ ?_
    simp only [lay_Cells.l1]
    refine Ev.pos (by omega) ?_
    have := ev_Cells_l2 n hn size hs0 hs1 one ho hoff i (by omega) _ (ih (i + 1) (by omega)) one.length 0 (by omega)
    simpa using this
end
theorem ones_length {fs : List S32} {o : List Int} (h : o.length = fs.length) : (ones fs o).length = fs.length := by simp [ones, h]
theorem ones_at {fs : List S32} {o : List Int} (i : Nat) (h1 : i < fs.length) (h2 : i < o.length) (h3 : i < (ones fs o).length) : (ones fs o)[i] = ⟨o[i], fs[i].f1⟩ := by simp [ones]
theorem ev_Cells_l0 (x2 x8 sz ln : Int) (fs : List S32) (o : List Int) (hfs : fs.length ≤ 12) (hol : o.length = fs.length) (r : List S61 × Int) (next : Ev (fun k => lay_Cells.j2 k x2 x8 (ones fs o)) r) (d : Nat) :
    ∀ i, i + d = fs.length → Ev (fun k => lay_Cells.l0 k x2 x8 ((ones fs o).take i) fs (fs.length : Int) (i : Int) sz ln o) r := by
  have hl := ones_length hol
  induction d with
  | zero =>
    intro i hi
    refine Ev.succ ?_
    simp only [lay_Cells.l0]
    refine Ev.neg (by omega) ?_
    rw [List.take_of_length_le (by omega)]
    exact next
  | succ d ih =>
    intro i hi
    have hlt : i < fs.length := by omega
    have h2 := List.length_take_le i (ones fs o)
    refine Ev.succ ?_
    simp only [lay_Cells.l0]
    refine Ev.pos (by omega) (Ev.pos (by omega) (Ev.pos (by omega) (Ev.pos (by omega) (Ev.pos (by omega) ?_))))
    rw [rd32_at fs i hlt, rd_at o i (by omega), wrap_succ (by omega)]
    have e : (ones fs o).take i ++ [(⟨o[i], ⟨fs[i].f1.f0, fs[i].f1.f1, fs[i].f1.f2⟩⟩ : S61)] = (ones fs o).take (i + 1) := by
      rw [List.take_succ_eq_append_getElem (by omega), ones_at i hlt (by omega)]
    rw [e]
    exact ih (i + 1) (by omega)
theorem layF_offs {l : List S30} : ∀ (fs : List S32) (a ln : Int) (o : List Int), (∀ f ∈ fs, FieldOk l f) → 0 ≤ a → (∀ x ∈ o, 0 ≤ x ∧ x ≤ a) → ∀ x ∈ (layF fs a ln o).2.2, 0 ≤ x ∧ x ≤ (layF fs a ln o).1
  | [], a, ln, o, _, _, ho => ho
  | f :: r, a, ln, o, hf, h0, ho => by
    have hs := field_size (hf f (by simp))
    obtain ⟨u1, u2, _⟩ := up_spec a (sm f.f1) h0 hs
    rw [layF]
    refine layF_offs r _ _ _ (fun g hg => hf g (by simp [hg])) (by omega) (fun x hx => ?_)
    rcases List.mem_append.1 hx with hx | hx
    · have := ho x hx
      omega
    · rw [List.mem_singleton.1 hx]
      omega
theorem oneOf_facts {l : List S30} (hR : Right l) (t : S25) : (oneOf l t).length ≤ 12 ∧ ∀ c ∈ oneOf l t, 0 ≤ c.f0 ∧ c.f0 ≤ 1000 := by
  unfold oneOf
  by_cases h0 : sm t = 0
  · rw [if_pos h0]
    cases h : fnd l t.f2 with
    | none => simp
    | some s =>
      obtain ⟨f1, f2, f3⟩ := right_fields hR (fnd_mem h)
      have hlay := layout_facts ⟨f1, f2⟩ f3
      refine ⟨by rw [ones_length hlay.2.2]; exact f2, fun c hc => ?_⟩
      obtain ⟨i, hi, rfl⟩ := List.mem_iff_getElem.1 hc
      have hi2 : i < s.f1.length := by rw [ones_length hlay.2.2] at hi; exact hi
      rw [ones_at i hi2 (by omega)]
      have hb := layF_facts s.f1 0 1 [] f3 (by omega) (by simp)
      have := layF_offs s.f1 0 1 [] f3 (by omega) (by simp) _ (List.getElem_mem (l := (layout s.f1).2.2) (n := i) (by omega))
      dsimp only
      omega
  · rw [if_neg h0]
    exact ⟨by simp, fun c hc => by rw [List.mem_singleton.1 hc]; simp⟩
theorem ev_Cells {l : List S30} (hR : Right l) (t : S25) (n : Int) : Ev (fun k => lay_Cells.f k l t.f0 t.f1 t.f2 n)
    (if n < 0 ∨ n > 500 then ([], 1) else match sizeOf l t with | none => ([], 14) | some s => (cellsTo s (oneOf l t) n.toNat, 0)) := by
  unfold lay_Cells.f
  by_cases h1 : n < 0
  · rw [if_pos (.inl h1)]
    refine Ev.pos h1 (Ev.succ ?_)
    simp only [lay_Cells.j0]
    exact Ev.pos (by simp) (Ev.now _)
  · refine Ev.neg h1 (Ev.succ ?_)
    simp only [lay_Cells.j0]
    by_cases h2 : n > 500
    · rw [if_pos (.inr h2)]
      exact Ev.pos (by simpa using h2) (Ev.now _)
    · rw [if_neg (by omega)]
      refine Ev.neg (by simpa using h2) (Ev.bind (ev_Size hR t) ?_)
      cases hsz : sizeOf l t with
      | none => exact Ev.neg (by simp) (Ev.now _)
      | some s =>
        obtain ⟨z1, z2⟩ := size_range hR hsz
        obtain ⟨q1, q2⟩ := oneOf_facts hR t
        have hk : knownB l t = true := by
          unfold sizeOf at hsz
          by_cases hk : knownB l t = true
          · exact hk
          · rw [if_neg hk] at hsz; cases hsz
        have fin : Ev (fun k => lay_Cells.j2 k n s (oneOf l t)) (cellsTo s (oneOf l t) n.toNat, 0) := by
          refine Ev.succ ?_
          simp only [lay_Cells.j2]
          have := ev_Cells_l1 n.toNat (by omega) s (by omega) z2 (oneOf l t) q1 q2 n.toNat 0 (by omega)
          rw [show ((n.toNat : Nat) : Int) = n by omega] at this
          exact this
        refine Ev.pos (by simp) (Ev.bind (Ev.const (small_known hk)) ?_)
        by_cases h0 : sm t = 0
        · refine Ev.pos h0 (Ev.bind (ev_Of hR t.f2) ?_)
          have h4 : t.f0 = 4 := by
            unfold sizeOf at hsz
            rw [if_pos hk, if_neg (by omega)] at hsz
            by_cases h4 : t.f0 = 4
            · exact h4
            · rw [if_neg h4] at hsz; cases hsz
          have hsome := (known_facts hk).2.2.2.2.1 h4
          cases h : fnd l t.f2 with
          | none => rw [h] at hsome; cases hsome
          | some st =>
            obtain ⟨j, hj, e1, e2⟩ := go_some t.f2 st l 0 h
            obtain ⟨f1, f2, f3⟩ := right_fields hR (fnd_mem h)
            have hlay := layout_facts ⟨f1, f2⟩ f3
            have hone : oneOf l t = ones st.f1 (layout st.f1).2.2 := by unfold oneOf; rw [if_pos h0, h]
            refine Ev.bind (Ev.const (show lay_find.f l t.f2 = some (j : Int) from by unfold lay_find.f; rw [e2]; simp)) (Ev.pos (by omega) (Ev.pos (by omega) ?_))
            rw [rd30_at l j hj, e1]
            rw [hone] at fin
            have := ev_Cells_l0 n s (layout st.f1).1 (layout st.f1).2.1 st.f1 (layout st.f1).2.2 f2 hlay.2.2 _ fin st.f1.length 0 (by omega)
            rw [hone]
            simpa using this
        · refine Ev.neg h0 ?_
          have hone : oneOf l t = [⟨0, t⟩] := by unfold oneOf; rw [if_neg h0]
          rw [hone] at fin ⊢
          exact fin
end Go.Proofs.Ytgpdopfkkopgjaa.K
