/- The plain laws that LayPlaces asks for: a struct found by its name, its places, a field. Conditions: none. -/
import Derived.Test.YtgpdopfkkopgjaaPure2
import Derived.Test.YtgpdopfkkopgjaaK18
import Derived.Test.YtgpdopfkkopgjaaK9
namespace Go.Proofs.Ytgpdopfkkopgjaa.K
set_option linter.unusedVariables false
set_option linter.unusedSimpArgs false
open Go.RowKit Go.Proofs.YtgpdopfkkopgjaaW.PrintWords Go.Proofs.YtgpdopfkkopgjaaW.PrintMore Go.Proofs.Ytgpdopfkkopgjaa.EvLib

theorem go_none (a : ByteArray) : ∀ (l : List S30) (i : Int), fnd l a = none → lay_find.go a l i = -1
  | [], _, _ => rfl
  | s :: r, i, h => by
    rw [fnd, List.find?_cons] at h
    by_cases e : s.f0.toList = a.toList
    · rw [beq_iff_eq.mpr e] at h; cases h
    · rw [beq_eq_false_iff_ne.mpr e] at h
      rw [lay_find.go, if_neg e]
      exact go_none a r _ h
theorem go_some (a : ByteArray) (s : S30) : ∀ (l : List S30) (i : Int), fnd l a = some s → ∃ j, ∃ h : j < l.length, l[j] = s ∧ lay_find.go a l i = i + j
  | [], _, h => by cases h
  | x :: r, i, h => by
    rw [fnd, List.find?_cons] at h
    by_cases e : x.f0.toList = a.toList
    · rw [beq_iff_eq.mpr e] at h
      rw [lay_find.go, if_pos e]
      exact ⟨0, by simp, by simpa using h, by simp⟩
    · rw [beq_eq_false_iff_ne.mpr e] at h
      rw [lay_find.go, if_neg e]
      obtain ⟨j, hj, h1, h2⟩ := go_some a s r (i + 1) h
      exact ⟨j + 1, by simp; omega, by simpa using h1, by rw [h2]; simp; omega⟩
theorem fnd_mem {l : List S30} {a : ByteArray} {s : S30} (h : fnd l a = some s) : s ∈ l := List.mem_of_find?_eq_some h
theorem right_fields {l : List S30} (hR : Right l) {s : S30} (hs : s ∈ l) : 1 ≤ s.f1.length ∧ s.f1.length ≤ 12 ∧ ∀ f ∈ s.f1, FieldOk l f := by
  obtain ⟨i, hi, rfl⟩ := List.mem_iff_getElem.1 hs
  obtain ⟨_, h1, h2, h3⟩ := hR.2 i hi
  refine ⟨h1, h2, fun f hf => ?_⟩
  obtain ⟨m, hm, rfl⟩ := List.mem_iff_getElem.1 hf
  exact (h3 m hm).1
theorem layout_facts {l : List S30} {fs : List S32} (hn : 1 ≤ fs.length ∧ fs.length ≤ 12) (hok : ∀ f ∈ fs, FieldOk l f) :
    1 ≤ (layout fs).1 ∧ (layout fs).1 ≤ 200 ∧ (layout fs).2.2.length = fs.length := by
  obtain ⟨h1, h2, h3, h4⟩ := layF_facts fs 0 1 [] hok (by omega) (by simp)
  obtain ⟨u1, u2, _⟩ := up_spec (layF fs 0 1 []).1 (layF fs 0 1 []).2.1 h1 h3
  refine ⟨?_, by unfold layout; dsimp only; omega, by unfold layout; dsimp only; simpa using h4⟩
  unfold layout
  dsimp only
  obtain ⟨f, r, rfl⟩ : ∃ f r, fs = f :: r := by
    cases fs with
    | nil => simp at hn
    | cons f r => exact ⟨f, r, rfl⟩
  have hs := field_size (hok f (by simp))
  obtain ⟨v1, _, _⟩ := up_spec 0 (sm f.f1) (by omega) hs
  have := layF_facts r (upI 0 (sm f.f1) + sm f.f1) (mx 1 (sm f.f1)) ([] ++ [upI 0 (sm f.f1)]) (fun g hg => hok g (by simp [hg])) (by omega) (mx_size _ _ (by simp) hs)
  rw [layF] at u1 ⊢
  omega
theorem ev_Of {l : List S30} (hR : Right l) (a : ByteArray) : Ev (fun k => lay_Of.f k l a) (match fnd l a with | none => (0, 0, [], 13) | some s => ((layout s.f1).1, (layout s.f1).2.1, (layout s.f1).2.2, 0)) := by
  unfold lay_Of.f
  cases h : fnd l a with
  | none => exact Ev.bind (Ev.const (show lay_find.f l a = some (-1) from by unfold lay_find.f; rw [go_none a l 0 h])) (Ev.pos (by omega) (Ev.now _))
  | some s =>
    obtain ⟨j, hj, h1, h2⟩ := go_some a s l 0 h
    obtain ⟨f1, f2, f3⟩ := right_fields hR (fnd_mem h)
    refine Ev.bind (Ev.const (show lay_find.f l a = some (j : Int) from by unfold lay_find.f; rw [h2]; simp)) (Ev.neg (by omega) (Ev.pos (by omega) (Ev.pos (by omega) ?_)))
    rw [rd30_at l j hj, h1]
    exact ev_Of_fields s.f1 f3 f2
theorem rd_at (l : List Int) (i : Nat) (h : i < l.length) : rd l (i : Int) = l[i] := by
  simp [rd, List.getD_eq_getElem?_getD, List.getElem?_eq_getElem h]
/-- A field of a name: its type, where it stands; 13: there is none. -/
def fieldR : List S32 → List Int → ByteArray → Int × Int × ByteArray × Int × Int
  | f :: fs, o :: os, b => if f.f0.toList = b.toList then (f.f1.f0, f.f1.f1, f.f1.f2, o, 0) else fieldR fs os b
  | _, _, _ => (0, 0, ⟨#[]⟩, 0, 13)
theorem ev_Field_l0 (fs : List S32) (os : List Int) (b : ByteArray) (sz ln : Int) (hol : os.length = fs.length) (hn : fs.length ≤ 1000) (d : Nat) :
    ∀ i, i + d = fs.length → Ev (fun k => lay_Field.l0 k b fs (fs.length : Int) (i : Int) sz ln os) (fieldR (fs.drop i) (os.drop i) b) := by
  induction d with
  | zero =>
    intro i hi
    refine Ev.succ ?_
    simp only [lay_Field.l0]
    rw [List.drop_eq_nil_of_le (show fs.length ≤ i by omega)]
    exact Ev.neg (by omega) (Ev.now _)
  | succ d ih =>
    intro i hi
    have hlt : i < fs.length := by omega
    have hlo : i < os.length := by omega
    refine Ev.succ ?_
    simp only [lay_Field.l0]
    rw [rd32_at fs i hlt, rd_at os i hlo, List.drop_eq_getElem_cons hlt, List.drop_eq_getElem_cons hlo, fieldR]
    refine Ev.pos (by omega) (Ev.pos (by omega) (Ev.pos (by omega) ?_))
    by_cases h : fs[i].f0.toList = b.toList
    · rw [if_pos h]
      exact Ev.pos h (Ev.pos (by omega) (Ev.now _))
    · rw [if_neg h, wrap_succ (by omega)]
      exact Ev.neg h (ih (i + 1) (by omega))
theorem ev_Field {l : List S30} (hR : Right l) (a b : ByteArray) : Ev (fun k => lay_Field.f k l a b) (match fnd l a with | none => (0, 0, ⟨#[]⟩, 0, 13) | some s => fieldR s.f1 (layout s.f1).2.2 b) := by
  unfold lay_Field.f
  refine Ev.bind (ev_Of hR a) ?_
  cases h : fnd l a with
  | none => exact Ev.neg (by simp) (Ev.now _)
  | some s =>
    obtain ⟨j, hj, e1, e2⟩ := go_some a s l 0 h
    obtain ⟨f1, f2, f3⟩ := right_fields hR (fnd_mem h)
    have hlay := layout_facts ⟨f1, f2⟩ f3
    refine Ev.pos rfl (Ev.bind (Ev.const (show lay_find.f l a = some (j : Int) from by unfold lay_find.f; rw [e2]; simp)) (Ev.pos (by omega) (Ev.pos (by omega) ?_)))
    rw [rd30_at l j hj, e1]
    simpa using ev_Field_l0 s.f1 (layout s.f1).2.2 b (layout s.f1).1 (layout s.f1).2.1 hlay.2.2 (by omega) s.f1.length 0 (by omega)
theorem ev_awake : Ev (fun k => hauberklaw04_awake.f k) true := by
  refine Ev.of (fun k => hauberklaw04_awake.mono k) (k := 10) ?_
  decide +kernel
end Go.Proofs.Ytgpdopfkkopgjaa.K
