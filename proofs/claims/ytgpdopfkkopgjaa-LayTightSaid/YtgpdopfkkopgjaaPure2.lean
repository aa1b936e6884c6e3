/- The plain laws of layer 4, second part: where the fields of a right struct stand, by the program and by the reference. Conditions: none. -/
import Derived.Test.YtgpdopfkkopgjaaPure1
import Derived.Test.YtgpdopfkkopgjaaK7
import Derived.Test.YtgpdopfkkopgjaaK16
namespace Go.Proofs.Ytgpdopfkkopgjaa.K
set_option linter.unusedVariables false
set_option linter.unusedSimpArgs false
open Go.RowKit Go.Proofs.YtgpdopfkkopgjaaW.PrintWords Go.Proofs.YtgpdopfkkopgjaaW.PrintMore Go.Proofs.Ytgpdopfkkopgjaa.EvLib

theorem known_facts {l : List S30} {t : S25} (h : knownB l t = true) : 0 ≤ t.f1 ∧ t.f1 ≤ 4 ∧ 0 ≤ t.f0 ∧ t.f0 ≤ 4 ∧ (t.f0 = 4 → (fnd l t.f2).isSome = true) ∧ (t.f0 ≠ 4 → t.f2.toList = []) := by
  unfold knownB at h
  simp only [Bool.and_eq_true, decide_eq_true_eq] at h
  obtain ⟨h1, h2, h3, h4, h5⟩ := h
  refine ⟨h1, h2, h3, h4, fun e => ?_, fun e => ?_⟩
  · rw [if_pos e] at h5; exact h5
  · rw [if_neg e] at h5; simpa using h5
/-- The program's sizes are the reference's, of what is a type. -/
theorem small_known {l : List S30} {t : S25} (h : knownB l t = true) : lay_small.f t.f0 t.f1 t.f2 = some (sm t) := by
  obtain ⟨h1, h2, h3, h4, h5, h6⟩ := known_facts h
  unfold lay_small.f sz_of sm
  congr 1
  by_cases hs : t.f1 > 0
  · rw [if_pos hs, if_pos hs]
  · rw [if_neg hs, if_neg hs]
    by_cases hb : t.f0 = 4
    · rw [hb]; simp
    · rw [if_pos ⟨by omega, h6 hb⟩]
theorem sm_range (t : S25) : sm t = 0 ∨ sm t = 1 ∨ sm t = 4 ∨ sm t = 8 := by
  unfold sm
  repeat' split
  all_goals simp
theorem field_size {l : List S30} {f : S32} (h : FieldOk l f) : sm f.f1 = 1 ∨ sm f.f1 = 4 ∨ sm f.f1 = 8 := by
  rcases sm_range f.f1 with e | e
  · exact absurd e h.2.1
  · exact e
def upI (a n : Int) : Int := (a + n - 1) / n * n
theorem up_spec (a n : Int) (h0 : 0 ≤ a) (hn : n = 1 ∨ n = 4 ∨ n = 8) : a ≤ upI a n ∧ upI a n < a + n ∧ upI a n % n = 0 := by
  unfold upI
  rcases hn with rfl | rfl | rfl <;> omega
theorem lay_up_is (a n : Int) (h0 : 0 ≤ a) (h1 : a ≤ 1000000) (hn : n = 1 ∨ n = 4 ∨ n = 8) : lay_up.f a n = some (upI a n) := by
  unfold lay_up.f upI
  rw [if_neg (by omega), wrap_in (a := a + n) (by omega) (by omega), wrap_in (a := a + n - 1) (by omega) (by omega), Int.tdiv_eq_ediv_of_nonneg (by omega)]
  rcases hn with rfl | rfl | rfl
  · rw [wrap_in (a := (a + 1 - 1) / 1) (by omega) (by omega), wrap_in (by omega) (by omega)]
  · rw [wrap_in (a := (a + 4 - 1) / 4) (by omega) (by omega), wrap_in (by omega) (by omega)]
  · rw [wrap_in (a := (a + 8 - 1) / 8) (by omega) (by omega), wrap_in (by omega) (by omega)]
/-- The fields one behind the other: the place behind them, the line, where they stand. -/
def layF : List S32 → Int → Int → List Int → Int × Int × List Int
  | [], a, ln, o => (a, ln, o)
  | f :: r, a, ln, o => layF r (upI a (sm f.f1) + sm f.f1) (mx ln (sm f.f1)) (o ++ [upI a (sm f.f1)])
/-- Size, line, places. -/
def layout (fs : List S32) : Int × Int × List Int := (upI (layF fs 0 1 []).1 (layF fs 0 1 []).2.1, (layF fs 0 1 []).2.1, (layF fs 0 1 []).2.2)
theorem mx_size (a b : Int) (ha : a = 1 ∨ a = 4 ∨ a = 8) (hb : b = 1 ∨ b = 4 ∨ b = 8) : mx a b = 1 ∨ mx a b = 4 ∨ mx a b = 8 := by
  unfold mx; split <;> assumption
theorem mx_one (b : Int) (hb : b = 1 ∨ b = 4 ∨ b = 8) : mx b 1 = b := by unfold mx; split <;> omega
theorem layF_facts {l : List S30} : ∀ (fs : List S32) (a ln : Int) (o : List Int), (∀ f ∈ fs, FieldOk l f) → 0 ≤ a → (ln = 1 ∨ ln = 4 ∨ ln = 8) →
    a ≤ (layF fs a ln o).1 ∧ (layF fs a ln o).1 ≤ a + 16 * fs.length ∧ ((layF fs a ln o).2.1 = 1 ∨ (layF fs a ln o).2.1 = 4 ∨ (layF fs a ln o).2.1 = 8) ∧ (layF fs a ln o).2.2.length = o.length + fs.length
  | [], a, ln, o, _, _, hln => ⟨Int.le_refl _, by simp [layF], hln, by simp [layF]⟩
  | f :: r, a, ln, o, hf, h0, hln => by
    have hs := field_size (hf f (by simp))
    obtain ⟨u1, u2, _⟩ := up_spec a (sm f.f1) h0 hs
    have := layF_facts r (upI a (sm f.f1) + sm f.f1) (mx ln (sm f.f1)) (o ++ [upI a (sm f.f1)]) (fun g hg => hf g (by simp [hg])) (by omega) (mx_size _ _ hln hs)
    simp only [layF, List.length_cons, List.length_append, List.length_nil] at this ⊢
    obtain ⟨t1, t2, t3, t4⟩ := this
    exact ⟨by omega, by rcases hs with e | e | e <;> rw [e] at u2 t1 t2 ⊢ <;> omega, t3, by omega⟩
theorem ev_Of_l0 {l : List S30} (fs : List S32) (hok : ∀ f ∈ fs, FieldOk l f) (hn : fs.length ≤ 12) (d : Nat) : ∀ (i : Nat) (a ln : Int) (o : List Int), i + d = fs.length → 0 ≤ a → a ≤ 16 * i → (ln = 1 ∨ ln = 4 ∨ ln = 8) → o.length = i →
    Ev (fun k => lay_Of.l0 k fs (fs.length : Int) (i : Int) a ln o) (upI (layF (fs.drop i) a ln o).1 (layF (fs.drop i) a ln o).2.1, (layF (fs.drop i) a ln o).2.1, (layF (fs.drop i) a ln o).2.2, 0) := by
  induction d with
  | zero =>
    intro i a ln o hi h0 h1 hln _
    refine Ev.succ ?_
    simp only [lay_Of.l0]
    rw [List.drop_eq_nil_of_le (by omega), layF]
    exact Ev.neg (by omega) (Ev.bind (Ev.const (lay_up_is a ln h0 (by omega) hln)) (Ev.now _))
  | succ d ih =>
    intro i a ln o hi h0 h1 hln hol
    have hlt : i < fs.length := by omega
    have hf := hok fs[i] (List.getElem_mem hlt)
    have hs := field_size hf
    obtain ⟨u1, u2, _⟩ := up_spec a (sm fs[i].f1) h0 hs
    refine Ev.succ ?_
    simp only [lay_Of.l0]
    rw [rd32_at fs i hlt, List.drop_eq_getElem_cons hlt, layF]
    refine Ev.pos (by omega) (Ev.pos (by omega) (Ev.pos (by omega) (Ev.bind (Ev.const (small_known hf.1)) ?_)))
    rw [mx_one _ hs]
    refine Ev.bind (Ev.const (lay_up_is a _ h0 (by omega) hs)) (Ev.pos (by omega) ?_)
    rw [wrap_succ (by omega), wrap_in (a := upI a (sm fs[i].f1) + sm fs[i].f1) (by omega) (by omega)]
    exact ih (i + 1) _ _ _ (by omega) (by omega) (by omega) (mx_size _ _ hln hs) (by simp [hol])
theorem ev_Of_fields {l : List S30} (fs : List S32) (hok : ∀ f ∈ fs, FieldOk l f) (hn : fs.length ≤ 12) : Ev (fun k => lay_Of.l0 k fs (fs.length : Int) 0 0 1 []) ((layout fs).1, (layout fs).2.1, (layout fs).2.2, 0) := by
  simpa [layout] using ev_Of_l0 fs hok hn fs.length 0 0 1 [] (by omega) (by omega) (by omega) (by simp) rfl

/-! the reference's places -/
theorem tmod_zero (a n : Int) (h0 : 0 ≤ a) : (Int.tmod a n = 0) = (a % n = 0) := by rw [Int.tmod_eq_emod_of_nonneg h0]
theorem up_fix (a n : Int) (h0 : 0 ≤ a) (hn : n = 1 ∨ n = 4 ∨ n = 8) (hz : a % n = 0) : upI a n = a := by
  unfold upI
  rcases hn with rfl | rfl | rfl <;> omega
theorem up_next (a n : Int) (h0 : 0 ≤ a) (hn : n = 1 ∨ n = 4 ∨ n = 8) (hz : ¬ a % n = 0) : upI (a + 1) n = upI a n ∧ a + 1 ≤ upI a n := by
  unfold upI
  rcases hn with rfl | rfl | rfl <;> omega
theorem ev_Places_l2 (o : List Int) (ln : Int) (hln : ln = 1 ∨ ln = 4 ∨ ln = 8) (d : Nat) : ∀ a : Int, 0 ≤ a → a ≤ 1000000 → upI a ln - a ≤ d → Ev (fun k => hauberkref04_Places.l2 k o a ln) (o, upI a ln, ln) := by
  induction d with
  | zero =>
    intro a h0 h1 hd
    obtain ⟨u1, u2, u3⟩ := up_spec a ln h0 hln
    have e : upI a ln = a := by omega
    refine Ev.succ ?_
    simp only [hauberkref04_Places.l2]
    refine Ev.neg (by omega) (Ev.pos (by rw [tmod_zero a ln h0, ← e]; exact u3) (Ev.ret (by rw [e])))
  | succ d ih =>
    intro a h0 h1 hd
    refine Ev.succ ?_
    simp only [hauberkref04_Places.l2]
    refine Ev.neg (by omega) ?_
    by_cases hz : a % ln = 0
    · exact Ev.pos (by rw [tmod_zero a ln h0]; exact hz) (Ev.ret (by rw [up_fix a ln h0 hln hz]))
    · obtain ⟨n1, n2⟩ := up_next a ln h0 hln hz
      obtain ⟨u1, u2, u3⟩ := up_spec a ln h0 hln
      refine Ev.neg (by rw [tmod_zero a ln h0]; exact hz) ?_
      rw [wrap_in (by omega) (by omega), ← n1]
      by_cases hb : a + 1 ≤ 1000000
      · exact ih (a + 1) (by omega) hb (by omega)
      · have : a = 1000000 := by omega
        subst this
        rcases hln with rfl | rfl | rfl <;> exact absurd (by decide) hz
theorem ev_Places_l0 {l : List S30} (nm : ByteArray) (at' : Int) (fs : List S32) (hok : ∀ f ∈ fs, FieldOk l f) (hn : fs.length ≤ 12) (d : Nat) : ∀ (i : Nat) (a ln : Int) (o : List Int), i + d = fs.length → 0 ≤ a → a ≤ 16 * i → (ln = 1 ∨ ln = 4 ∨ ln = 8) → o.length = i →
    Ev (fun k => hauberkref04_Places.l0 k o a ln (fs.length : Int) (i : Int) nm fs at') ((layF (fs.drop i) a ln o).2.2, upI (layF (fs.drop i) a ln o).1 (layF (fs.drop i) a ln o).2.1, (layF (fs.drop i) a ln o).2.1) := by
  induction d with
  | zero =>
    intro i a ln o hi h0 h1 hln _
    refine Ev.succ ?_
    simp only [hauberkref04_Places.l0]
    rw [List.drop_eq_nil_of_le (by omega), layF]
    obtain ⟨u1, u2, u3⟩ := up_spec a ln h0 hln
    exact Ev.neg (by omega) (ev_Places_l2 o ln hln 8 a h0 (by omega) (by omega))
  | succ d ih =>
    intro i a ln o hi h0 h1 hln hol
    have hlt : i < fs.length := by omega
    have hf := hok fs[i] (List.getElem_mem hlt)
    have hs := field_size hf
    have inner : ∀ (e : Nat) (b : Int), 0 ≤ b → a ≤ b → b ≤ a + 8 → upI b (sm fs[i].f1) = upI a (sm fs[i].f1) → upI b (sm fs[i].f1) - b ≤ e →
        Ev (fun k => hauberkref04_Places.l1 k o b ln (sm fs[i].f1) (fs.length : Int) (i : Int) nm fs at') ((layF (fs.drop i) a ln o).2.2, upI (layF (fs.drop i) a ln o).1 (layF (fs.drop i) a ln o).2.1, (layF (fs.drop i) a ln o).2.1) := by
      have fin : ∀ b : Int, 0 ≤ b → b ≤ a + 8 → b = upI a (sm fs[i].f1) → Ev (fun k => if o.length < 17592186044416 then ((some (o ++ [b] : List Int)).bind fun y => (if sm fs[i].f1 > ln then (hauberkref04_Places.l0 k y (wrap64 (b + sm fs[i].f1)) (sm fs[i].f1) (fs.length : Int) (wrap64 ((i : Int) + 1)) nm fs at') else (hauberkref04_Places.l0 k y (wrap64 (b + sm fs[i].f1)) ln (fs.length : Int) (wrap64 ((i : Int) + 1)) nm fs at'))) else none)
          ((layF (fs.drop i) a ln o).2.2, upI (layF (fs.drop i) a ln o).1 (layF (fs.drop i) a ln o).2.1, (layF (fs.drop i) a ln o).2.1) := by
        intro b h0b hb8 hb
        obtain ⟨u1, u2, u3⟩ := up_spec a (sm fs[i].f1) h0 hs
        refine Ev.pos (by omega) (Ev.bind (Ev.now _) ?_)
        rw [wrap_succ (by omega), wrap_in (a := b + sm fs[i].f1) (by omega) (by omega), List.drop_eq_getElem_cons hlt, layF, ← hb]
        have hnext := ih (i + 1) (b + sm fs[i].f1) (mx ln (sm fs[i].f1)) (o ++ [b]) (by omega) (by omega) (by omega) (mx_size _ _ hln hs) (by simp [hol])
        by_cases hg : sm fs[i].f1 > ln
        · refine Ev.pos hg ?_
          rw [show mx ln (sm fs[i].f1) = sm fs[i].f1 from by unfold mx; rw [if_pos hg]] at hnext ⊢
          exact hnext
        · refine Ev.neg hg ?_
          rw [show mx ln (sm fs[i].f1) = ln from by unfold mx; rw [if_neg hg]] at hnext ⊢
          exact hnext
      intro e
      induction e with
      | zero =>
        intro b h0b hab hb8 hub hd
        obtain ⟨u1, u2, u3⟩ := up_spec b (sm fs[i].f1) h0b hs
        have hb : b = upI b (sm fs[i].f1) := by omega
        refine Ev.succ ?_
        simp only [hauberkref04_Places.l1]
        refine Ev.neg (by omega) (Ev.pos (by rw [tmod_zero _ _ h0b]; rw [← hb] at u3; exact u3) (fin b h0b hb8 (by omega)))
      | succ e ihe =>
        intro b h0b hab hb8 hub hd
        refine Ev.succ ?_
        simp only [hauberkref04_Places.l1]
        refine Ev.neg (by omega) ?_
        by_cases hz : b % sm fs[i].f1 = 0
        · exact Ev.pos (by rw [tmod_zero _ _ h0b]; exact hz) (fin b h0b hb8 (by rw [← hub, up_fix b _ h0b hs hz]))
        · obtain ⟨n1, n2⟩ := up_next b _ h0b hs hz
          obtain ⟨u1, u2, u3⟩ := up_spec a (sm fs[i].f1) h0 hs
          refine Ev.neg (by rw [tmod_zero _ _ h0b]; exact hz) ?_
          rw [wrap_in (by omega) (by omega)]
          exact ihe (b + 1) (by omega) (by omega) (by omega) (by rw [n1]; exact hub) (by omega)
    obtain ⟨u1, u2, u3⟩ := up_spec a (sm fs[i].f1) h0 hs
    have hin := inner 8 a h0 (Int.le_refl _) (by omega) rfl (by omega)
    refine Ev.succ ?_
    simp only [hauberkref04_Places.l0]
    rw [rd32_at fs i hlt]
    refine Ev.pos (by omega) (Ev.pos (by omega) (Ev.pos (by omega) (Ev.bind (Ev.const (ref_Small _ _ _)) (Ev.neg (by show ¬ sm fs[i].f1 < 1; omega) (Ev.succ ?_)))))
    simp only [hauberkref04_Places.j1]
    exact hin
theorem ev_Places {l : List S30} (s : S30) (hok : ∀ f ∈ s.f1, FieldOk l f) (hn : s.f1.length ≤ 12) : Ev (fun k => hauberkref04_Places.f k s.f0 s.f1 s.f2) ((layout s.f1).2.2, (layout s.f1).1, (layout s.f1).2.1) := by
  simpa [layout, hauberkref04_Places.f] using ev_Places_l0 s.f0 s.f2 s.f1 hok hn s.f1.length 0 0 1 [] (by omega) (by omega) (by omega) (by simp) rfl
end Go.Proofs.Ytgpdopfkkopgjaa.K
