/- The plain laws of layer 4, first part: what the reference's Find, Known and Check answer. Conditions: none. -/
import Derived.Test.YtgpdopfkkopgjaaEvLib
import Derived.Test.YtgpdopfkkopgjaaK13
import Derived.Test.YtgpdopfkkopgjaaK15
namespace Go.Proofs.Ytgpdopfkkopgjaa.K
set_option linter.unusedVariables false
set_option linter.unusedSimpArgs false
open Go.RowKit Go.Proofs.YtgpdopfkkopgjaaW.PrintWords Go.Proofs.Ytgpdopfkkopgjaa.EvLib

theorem rd30_at (l : List S30) (i : Nat) (h : i < l.length) : rd_T30 l (i : Int) = l[i] := by
  simp [rd_T30, List.getD_eq_getElem?_getD, List.getElem?_eq_getElem h]
theorem rd32_at (l : List S32) (i : Nat) (h : i < l.length) : rd_T32 l (i : Int) = l[i] := by
  simp [rd_T32, List.getD_eq_getElem?_getD, List.getElem?_eq_getElem h]
/-- The first struct of a name. -/
def fnd (l : List S30) (a : ByteArray) : Option S30 := l.find? (fun s => s.f0.toList == a.toList)
def fR : Option S30 → ByteArray × (List (S32)) × Int × Bool
  | none => (⟨#[]⟩, [], 0, false)
  | some s => (s.f0, s.f1, s.f2, true)
theorem fR_ok (o : Option S30) : (fR o).2.2.2 = o.isSome := by cases o <;> rfl
theorem ev_Find_l0 (l : List S30) (a : ByteArray) (hl : l.length ≤ 1000000) (d : Nat) : ∀ i : Nat, i + d = l.length → Ev (fun k => hauberkref04_Find.l0 k l a (l.length : Int) (i : Int)) (fR (fnd (l.drop i) a)) := by
  induction d with
  | zero =>
    intro i hi
    refine Ev.succ ?_
    simp only [hauberkref04_Find.l0]
    refine Ev.neg (by omega) ?_
    rw [List.drop_eq_nil_of_le (by omega)]
    exact Ev.now _
  | succ d ih =>
    intro i hi
    have hlt : i < l.length := by omega
    refine Ev.succ ?_
    simp only [hauberkref04_Find.l0]
    refine Ev.pos (by omega) (Ev.pos (by omega) (Ev.pos (by omega) ?_))
    rw [List.drop_eq_getElem_cons hlt, fnd, List.find?_cons, rd30_at l i hlt]
    by_cases h : l[i].f0.toList = a.toList
    · rw [beq_iff_eq.mpr h]
      exact Ev.pos h (Ev.now _)
    · rw [beq_eq_false_iff_ne.mpr h]
      refine Ev.neg h ?_
      rw [wrap_succ (by omega)]
      exact ih (i + 1) (by omega)
theorem ev_Find (l : List S30) (a : ByteArray) (hl : l.length ≤ 1000000) : Ev (fun k => hauberkref04_Find.f k l a) (fR (fnd l a)) := by
  simpa [hauberkref04_Find.f] using ev_Find_l0 l a hl l.length 0 (by omega)
/-- The sizes as the reference tells them. -/
def sm (t : S25) : Int := if t.f1 > 0 then 8 else if t.f0 = 1 then 1 else if t.f0 = 2 then 4 else if t.f0 = 3 then 8 else 0
theorem ref_Small (a b : Int) (c : ByteArray) : hauberkref04_Small.f a b c = some (sm ⟨a, b, c⟩) := by
  unfold hauberkref04_Small.f sm
  dsimp only
  repeat' split
  all_goals rfl
def knownB (l : List S30) (t : S25) : Bool := decide (0 ≤ t.f1) && (decide (t.f1 ≤ 4) && (decide (0 ≤ t.f0) && (decide (t.f0 ≤ 4) && (if t.f0 = 4 then (fnd l t.f2).isSome else t.f2.toList == []))))
theorem ev_Known (l : List S30) (hl : l.length ≤ 1000000) (a b : Int) (c : ByteArray) : Ev (fun k => hauberkref04_Known.f k l a b c) (knownB l ⟨a, b, c⟩) := by
  unfold hauberkref04_Known.f knownB
  dsimp only
  by_cases h1 : b < 0
  · refine Ev.pos h1 (Ev.succ ?_)
    simp only [hauberkref04_Known.j0]
    refine Ev.pos (by simp) (Ev.ret ?_)
    rw [decide_eq_false (by omega)]; rfl
  · refine Ev.neg h1 ?_
    by_cases h2 : b > 4
    · refine Ev.pos h2 (Ev.succ ?_)
      simp only [hauberkref04_Known.j0]
      refine Ev.pos (by simp) (Ev.ret ?_)
      rw [decide_eq_true (by omega), decide_eq_false (by omega)]; rfl
    · refine Ev.neg h2 ?_
      by_cases h3 : a < 0
      · refine Ev.pos h3 (Ev.succ ?_)
        simp only [hauberkref04_Known.j0]
        refine Ev.pos (by simp) (Ev.ret ?_)
        rw [decide_eq_true (by omega), decide_eq_true (by omega), decide_eq_false (by omega)]; rfl
      · refine Ev.neg h3 (Ev.succ ?_)
        simp only [hauberkref04_Known.j0]
        rw [decide_eq_true (show 0 ≤ b by omega), decide_eq_true (show b ≤ 4 by omega), decide_eq_true (show 0 ≤ a by omega)]
        by_cases h4 : a > 4
        · refine Ev.pos (by simpa using h4) (Ev.ret ?_)
          rw [decide_eq_false (by omega)]; rfl
        · refine Ev.neg (by simpa using h4) ?_
          rw [decide_eq_true (show a ≤ 4 by omega)]
          by_cases h5 : a = 4
          · refine Ev.pos h5 (Ev.bind (ev_Find l c hl) (Ev.ret ?_))
            rw [fR_ok, if_pos h5]; rfl
          · refine Ev.neg h5 (Ev.ret ?_)
            rw [if_neg h5]; rfl

/-- What a right struct's field is. -/
def FieldOk (l : List S30) (f : S32) : Prop := knownB l f.f1 = true ∧ sm f.f1 ≠ 0 ∧ f.f1.f0 ≠ 0
def StructOk (l : List S30) (i : Nat) (s : S30) : Prop :=
  fnd (l.take i) s.f0 = none ∧ 1 ≤ s.f1.length ∧ s.f1.length ≤ 12 ∧ ∀ m (hm : m < s.f1.length), FieldOk l s.f1[m] ∧ ∀ j (hj : j < m), s.f1[j].f0.toList ≠ s.f1[m].f0.toList
def Right (l : List S30) : Prop := l.length ≤ 20 ∧ ∀ i (hi : i < l.length), StructOk l i l[i]
section
variable (l : List S30) (hl : l.length ≤ 20)
include hl
omit hl in
theorem bad {g : Nat → Option (Int × Int)} {Q : Prop} (a : Int × Int) (hne : a.2 ≠ 0) (h : Ev g a) : ∃ r, Ev g r ∧ (r.2 = 0 → Q) := ⟨a, h, fun e => absurd e hne⟩
/-- One struct's fields, from the m-th on. -/
theorem ev_Check_l1 (i : Nat) (hi : i < l.length) (h0 : fnd (l.take i) l[i].f0 = none) (hf1 : 1 ≤ l[i].f1.length) (hf2 : l[i].f1.length ≤ 12)
    (next : ∃ r : Int × Int, Ev (fun k => hauberkref04_Check.l0 k l (l.length : Int) ((i + 1 : Nat) : Int)) r ∧ (r.2 = 0 → ∀ i', i < i' → ∀ (hi' : i' < l.length), StructOk l i' l[i'])) (d : Nat) :
    ∀ m, m + d = l[i].f1.length → (∀ m' (hm : m' < m) (hm2 : m' < l[i].f1.length), FieldOk l l[i].f1[m'] ∧ ∀ j (hj : j < m'), l[i].f1[j].f0.toList ≠ l[i].f1[m'].f0.toList) →
      ∃ r : Int × Int, Ev (fun k => hauberkref04_Check.l1 k l (l.length : Int) (i : Int) (l[i].f1.length : Int) (m : Int) l[i].f0 l[i].f1 l[i].f2) r ∧ (r.2 = 0 → ∀ i', i ≤ i' → ∀ (hi' : i' < l.length), StructOk l i' l[i']) := by
  induction d with
  | zero =>
    intro m hm hok
    obtain ⟨r, hr, hp⟩ := next
    refine ⟨r, Ev.succ ?_, fun h i' h1 h2 => ?_⟩
    · simp only [hauberkref04_Check.l1]
      refine Ev.neg (by omega) ?_
      rw [wrap_succ (by omega)]
      exact hr
    · by_cases e : i' = i
      · subst e
        exact ⟨h0, hf1, hf2, fun m' hm' => hok m' (by omega) hm'⟩
      · exact hp h i' (by omega) h2
  | succ d ih =>
    intro m hm hok
    have hlt : m < l[i].f1.length := by omega
    have inner : ∀ e j, j + e = m → (∀ j' (_ : j' < j) (hj2 : j' < l[i].f1.length), l[i].f1[j'].f0.toList ≠ l[i].f1[m].f0.toList) →
        ∃ r : Int × Int, Ev (fun k => hauberkref04_Check.l2 k l (m : Int) (j : Int) (l.length : Int) (i : Int) (l[i].f1.length : Int) (m : Int) l[i].f0 l[i].f1 l[i].f2 l[i].f1[m].f0 l[i].f1[m].f1.f0 l[i].f1[m].f1.f1 l[i].f1[m].f1.f2 l[i].f1[m].f2) r ∧
          (r.2 = 0 → ∀ i', i ≤ i' → ∀ (hi' : i' < l.length), StructOk l i' l[i']) := by
      intro e
      induction e with
      | zero =>
        intro j hj hne
        obtain rfl : j = m := by omega
        have tail : ∀ b : Bool, (b = false → knownB l l[i].f1[j].f1 = true → True) → ∃ r : Int × Int, Ev (fun k => hauberkref04_Check.j4 k l (l.length : Int) (i : Int) (l[i].f1.length : Int) (j : Int) b l[i].f0 l[i].f1 l[i].f2 l[i].f1[j].f0 l[i].f1[j].f1.f0 l[i].f1[j].f1.f1 l[i].f1[j].f1.f2 l[i].f1[j].f2) r ∧
            (r.2 = 0 → ∀ i', i ≤ i' → ∀ (hi' : i' < l.length), StructOk l i' l[i']) := by
          intro b _
          cases b with
          | true =>
            refine bad (l[i].f1[j].f2, 13) (by simp) (Ev.succ ?_)
            simp only [hauberkref04_Check.j4]
            exact Ev.pos (by simp) (Ev.now _)
          | false =>
            by_cases hk : knownB l l[i].f1[j].f1 = true
            · by_cases hs : sm l[i].f1[j].f1 = 0
              · refine bad (l[i].f1[j].f2, 14) (by simp) (Ev.succ ?_)
                simp only [hauberkref04_Check.j4]
                exact Ev.neg (by simp) (Ev.bind (ev_Known l (by omega) _ _ _) (Ev.pos hk (Ev.bind (Ev.const (ref_Small _ _ _)) (Ev.pos hs (Ev.now _)))))
              · by_cases hb : l[i].f1[j].f1.f0 = 0
                · refine bad (l[i].f1[j].f2, 14) (by simp) (Ev.succ ?_)
                  simp only [hauberkref04_Check.j4]
                  exact Ev.neg (by simp) (Ev.bind (ev_Known l (by omega) _ _ _) (Ev.pos hk (Ev.bind (Ev.const (ref_Small _ _ _)) (Ev.neg hs (Ev.pos hb (Ev.now _))))))
                · obtain ⟨r, hr, hp⟩ := ih (j + 1) (by omega) (fun m' h1 h2 => by
                    by_cases e : m' = j
                    · subst e
                      exact ⟨⟨hk, hs, hb⟩, fun j' hj' => hne j' hj' (by omega)⟩
                    · exact hok m' (by omega) h2)
                  refine ⟨r, Ev.succ ?_, hp⟩
                  simp only [hauberkref04_Check.j4]
                  refine Ev.neg (by simp) (Ev.bind (ev_Known l (by omega) _ _ _) (Ev.pos hk (Ev.bind (Ev.const (ref_Small _ _ _)) (Ev.neg hs (Ev.neg hb ?_)))))
                  rw [wrap_succ (by omega)]
                  exact hr
            · refine bad (l[i].f1[j].f2, 14) (by simp) (Ev.succ ?_)
              simp only [hauberkref04_Check.j4]
              exact Ev.neg (by simp) (Ev.bind (ev_Known l (by omega) _ _ _) (Ev.neg hk (Ev.now _)))
        by_cases h4 : l[i].f1[j].f1.f0 = 4
        · obtain ⟨r, hr, hp⟩ := tail (!(fR (fnd l l[i].f1[j].f1.f2)).2.2.2) (fun _ _ => trivial)
          refine ⟨r, Ev.succ ?_, hp⟩
          simp only [hauberkref04_Check.l2]
          exact Ev.neg (by omega) (Ev.bind (ev_Find l _ (by omega)) (Ev.pos h4 hr))
        · obtain ⟨r, hr, hp⟩ := tail false (fun _ _ => trivial)
          refine ⟨r, Ev.succ ?_, hp⟩
          simp only [hauberkref04_Check.l2]
          exact Ev.neg (by omega) (Ev.bind (ev_Find l _ (by omega)) (Ev.neg h4 hr))
      | succ e ihe =>
        intro j hj hne
        have hjl : j < l[i].f1.length := by omega
        by_cases hq : l[i].f1[j].f0.toList = l[i].f1[m].f0.toList
        · refine bad (l[i].f1[m].f2, 13) (by simp) (Ev.succ ?_)
          simp only [hauberkref04_Check.l2]
          refine Ev.pos (by omega) (Ev.pos (by omega) (Ev.pos (by omega) ?_))
          rw [rd32_at _ j hjl]
          exact Ev.pos hq (Ev.now _)
        · obtain ⟨r, hr, hp⟩ := ihe (j + 1) (by omega) (fun j' h1 h2 => by
            by_cases e : j' = j
            · subst e; exact hq
            · exact hne j' (by omega) h2)
          refine ⟨r, Ev.succ ?_, hp⟩
          simp only [hauberkref04_Check.l2]
          refine Ev.pos (by omega) (Ev.pos (by omega) (Ev.pos (by omega) ?_))
          rw [rd32_at _ j hjl]
          refine Ev.neg hq ?_
          rw [wrap_succ (by omega)]
          exact hr
    obtain ⟨r, hr, hp⟩ := inner m 0 (by omega) (fun j' h => absurd h (by omega))
    refine ⟨r, Ev.succ ?_, hp⟩
    simp only [hauberkref04_Check.l1]
    refine Ev.pos (by omega) (Ev.pos (by omega) (Ev.pos (by omega) ?_))
    rw [rd32_at _ m hlt]
    exact hr
theorem ev_Check_l0 (d : Nat) : ∀ i, i + d = l.length → ∃ r : Int × Int, Ev (fun k => hauberkref04_Check.l0 k l (l.length : Int) (i : Int)) r ∧ (r.2 = 0 → ∀ i', i ≤ i' → ∀ (hi' : i' < l.length), StructOk l i' l[i']) := by
  induction d with
  | zero =>
    intro i hi
    refine ⟨(0, 0), Ev.succ ?_, fun _ i' h1 h2 => absurd h2 (by omega)⟩
    simp only [hauberkref04_Check.l0]
    exact Ev.neg (by omega) (Ev.now _)
  | succ d ih =>
    intro i hi
    have hlt : i < l.length := by omega
    have htl : (l.take i).length ≤ 1000000 := by simp; omega
    by_cases h0 : fnd (l.take i) l[i].f0 = none
    · by_cases h1 : 1 ≤ l[i].f1.length ∧ l[i].f1.length ≤ 12
      · obtain ⟨r, hr, hp⟩ := ev_Check_l1 l hl i hlt h0 h1.1 h1.2 (ih (i + 1) (by omega)) l[i].f1.length 0 (by omega) (fun m' h => absurd h (by omega))
        refine ⟨r, Ev.succ ?_, hp⟩
        simp only [hauberkref04_Check.l0]
        refine Ev.pos (by omega) (Ev.pos (by omega) (Ev.pos (by omega) (Ev.pos (by omega) ?_)))
        rw [rd30_at l i hlt, Int.toNat_natCast]
        refine Ev.bind (ev_Find _ _ htl) (Ev.neg (by rw [h0]; simp [fR]) (Ev.neg (by omega) (Ev.succ ?_)))
        simp only [hauberkref04_Check.j1]
        exact Ev.neg (by simp; omega) hr
      · refine bad (l[i].f2, 3) (by simp) (Ev.succ ?_)
        simp only [hauberkref04_Check.l0]
        refine Ev.pos (by omega) (Ev.pos (by omega) (Ev.pos (by omega) (Ev.pos (by omega) ?_)))
        rw [rd30_at l i hlt, Int.toNat_natCast]
        refine Ev.bind (ev_Find _ _ htl) (Ev.neg (by rw [h0]; simp [fR]) ?_)
        by_cases h2 : l[i].f1.length = 0
        · refine Ev.pos (by omega) (Ev.succ ?_)
          simp only [hauberkref04_Check.j1]
          exact Ev.pos (by simp) (Ev.now (l[i].f2, 3))
        · refine Ev.neg (by omega) (Ev.succ ?_)
          simp only [hauberkref04_Check.j1]
          exact Ev.pos (by simp; omega) (Ev.now (l[i].f2, 3))
    · refine bad (l[i].f2, 13) (by simp) (Ev.succ ?_)
      simp only [hauberkref04_Check.l0]
      refine Ev.pos (by omega) (Ev.pos (by omega) (Ev.pos (by omega) (Ev.pos (by omega) ?_)))
      rw [rd30_at l i hlt, Int.toNat_natCast]
      refine Ev.bind (ev_Find _ _ htl) (Ev.pos ?_ (Ev.now _))
      rw [fR_ok]
      cases h : fnd (l.take i) l[i].f0 with
      | none => exact absurd h h0
      | some _ => rfl
end
theorem ev_Check (l : List S30) : ∃ r : Int × Int, Ev (fun k => hauberkref04_Check.f k l) r ∧ (r.2 = 0 → Right l) := by
  by_cases hl : l.length ≤ 20
  · obtain ⟨r, hr, hp⟩ := ev_Check_l0 l hl l.length 0 (by omega)
    refine ⟨r, ?_, fun h => ⟨hl, fun i hi => hp h i (by omega) hi⟩⟩
    unfold hauberkref04_Check.f
    exact Ev.neg (by omega) hr
  · refine ⟨((rd_T30 l 20).f2, 3), ?_, fun h => by simp at h⟩
    unfold hauberkref04_Check.f
    exact Ev.pos (by omega) (Ev.pos (by omega) (Ev.now _))
theorem ev_Few_l0 (l : List S30) (hl : l.length ≤ 1000000) (d : Nat) : ∀ i : Nat, i + d = l.length → ∃ b, Ev (fun k => hauberklaw04_Few.l0 k l (l.length : Int) (i : Int)) b := by
  induction d with
  | zero =>
    intro i hi
    refine ⟨true, Ev.succ ?_⟩
    simp only [hauberklaw04_Few.l0]
    exact Ev.neg (by omega) (Ev.now _)
  | succ d ih =>
    intro i hi
    obtain ⟨b, hb⟩ := ih (i + 1) (by omega)
    by_cases h1 : ((rd_T30 l (i : Int)).f1.length : Int) > 30
    · refine ⟨false, Ev.succ ?_⟩
      simp only [hauberklaw04_Few.l0]
      exact Ev.pos (by omega) (Ev.pos (by omega) (Ev.pos (by omega) (Ev.pos h1 (Ev.now _))))
    · by_cases h2 : ((rd_T30 l (i : Int)).f0.size : Int) > 100
      · refine ⟨false, Ev.succ ?_⟩
        simp only [hauberklaw04_Few.l0]
        exact Ev.pos (by omega) (Ev.pos (by omega) (Ev.pos (by omega) (Ev.neg h1 (Ev.pos h2 (Ev.now _)))))
      · refine ⟨b, Ev.succ ?_⟩
        simp only [hauberklaw04_Few.l0]
        refine Ev.pos (by omega) (Ev.pos (by omega) (Ev.pos (by omega) (Ev.neg h1 (Ev.neg h2 ?_))))
        rw [wrap_succ (by omega)]
        exact hb
theorem ev_right (l : List S30) : ∃ b, Ev (fun k => hauberklaw04_right.f k l) b ∧ (b = true → Right l) := by
  unfold hauberklaw04_right.f
  have hfew : ∃ b, Ev (fun k => hauberklaw04_Few.f k l) b := by
    unfold hauberklaw04_Few.f
    by_cases h : (l.length : Int) > 40
    · exact ⟨_, Ev.pos h (Ev.now _)⟩
    · obtain ⟨b, hb⟩ := ev_Few_l0 l (by omega) l.length 0 (by omega)
      exact ⟨b, Ev.neg h hb⟩
  obtain ⟨b, hb⟩ := hfew
  cases b with
  | false => exact ⟨false, Ev.bind hb (Ev.neg (by simp) (Ev.now _)), fun h => by cases h⟩
  | true =>
    obtain ⟨r, hr, hp⟩ := ev_Check l
    refine ⟨r.2 == 0, Ev.bind hb (Ev.pos rfl (Ev.bind hr (Ev.now _))), fun h => hp (by simpa using h)⟩
end Go.Proofs.Ytgpdopfkkopgjaa.K
