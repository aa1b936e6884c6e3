/- The plain law of LayFields: of every list of structs the law's function answers true. Conditions: none. -/
import Derived.Test.YtgpdopfkkopgjaaPureRow
import Derived.Test.YtgpdopfkkopgjaaK18
import Derived.Test.YtgpdopfkkopgjaaK23
namespace Go.Proofs.Ytgpdopfkkopgjaa.K
set_option linter.unusedVariables false
set_option linter.unusedSimpArgs false
open Go.RowKit Go.Proofs.YtgpdopfkkopgjaaW.PrintWords Go.Proofs.YtgpdopfkkopgjaaW.PrintMore Go.Proofs.Ytgpdopfkkopgjaa.EvLib

/-- A field of a name: its type, where it stands; 13: there is none. -/
def fieldR : List S32 → List Int → ByteArray → Int × Int × ByteArray × Int × Int
  | f :: fs, o :: os, b => if f.f0.toList = b.toList then (f.f1.f0, f.f1.f1, f.f1.f2, o, 0) else fieldR fs os b
  | _, _, _ => (0, 0, ⟨#[]⟩, 0, 13)
theorem ev_Field_l0 (fs : List S32) (os : List Int) (b : ByteArray) (sz ln : Int) (hol : os.length = fs.length) (hn : fs.length ≤ 1000) (d : Nat) :
    ∀ i, i + d = fs.length → Ev (fun k => lay_Field.l0 k b fs (fs.length : Int) (i : Int) sz ln os) (fieldR (fs.drop i) (os.drop i) b) := by
  induction d with
  | zero =>
    intro i hi
    refine Ev.succ ?_
    simp only [lay_Field.l0]
    rw [List.drop_eq_nil_of_le (show fs.length ≤ i by omega)]
    exact Ev.neg (by omega) (Ev.now _)
  | succ d ih =>
    intro i hi
    have hlt : i < fs.length := by omega
    have hlo : i < os.length := by omega
    refine Ev.succ ?_
    simp only [lay_Field.l0]
    rw [rd32_at fs i hlt, rd_at os i hlo, List.drop_eq_getElem_cons hlt, List.drop_eq_getElem_cons hlo, fieldR]
    refine Ev.pos (by omega) (Ev.pos (by omega) (Ev.pos (by omega) ?_))
    by_cases h : fs[i].f0.toList = b.toList
    · rw [if_pos h]
      exact Ev.pos h (Ev.pos (by omega) (Ev.now _))
    · rw [if_neg h, wrap_succ (by omega)]
      exact Ev.neg h (ih (i + 1) (by omega))
theorem ev_Field {l : List S30} (hR : Right l) (a b : ByteArray) : Ev (fun k => lay_Field.f k l a b) (match fnd l a with | none => (0, 0, ⟨#[]⟩, 0, 13) | some s => fieldR s.f1 (layout s.f1).2.2 b) := by
  unfold lay_Field.f
  refine Ev.bind (ev_Of hR a) ?_
  cases h : fnd l a with
  | none => exact Ev.neg (by simp) (Ev.now _)
  | some s =>
    obtain ⟨j, hj, e1, e2⟩ := go_some a s l 0 h
    obtain ⟨f1, f2, f3⟩ := right_fields hR (fnd_mem h)
    have hlay := layout_facts ⟨f1, f2⟩ f3
    refine Ev.pos rfl (Ev.bind (Ev.const (show lay_find.f l a = some (j : Int) from by unfold lay_find.f; rw [e2]; simp)) (Ev.pos (by omega) (Ev.pos (by omega) ?_)))
    rw [rd30_at l j hj, e1]
    simpa using ev_Field_l0 s.f1 (layout s.f1).2.2 b (layout s.f1).1 (layout s.f1).2.1 hlay.2.2 (by omega) s.f1.length 0 (by omega)
/-- The first struct of a right struct's name is it. -/
theorem fnd_self {l : List S30} (hR : Right l) (i : Nat) (hi : i < l.length) : fnd l l[i].f0 = some l[i] := by
  have h0 := (hR.2 i hi).1
  have e : l.take i ++ l[i] :: l.drop (i + 1) = l := by rw [← List.drop_eq_getElem_cons hi, List.take_append_drop]
  have h1 : fnd (l.take i ++ l[i] :: l.drop (i + 1)) l[i].f0 = some l[i] := by
    unfold fnd at h0 ⊢
    rw [List.find?_append, h0, List.find?_cons, beq_iff_eq.mpr rfl]
    rfl
  rw [e] at h1
  exact h1
theorem fieldR_at (fs : List S32) (os : List Int) (hol : os.length = fs.length) (m : Nat) (hm : m < fs.length) (hd : ∀ j (hj : j < m), fs[j].f0.toList ≠ fs[m].f0.toList) (d : Nat) :
    ∀ i, i + d = m → fieldR (fs.drop i) (os.drop i) fs[m].f0 = (fs[m].f1.f0, fs[m].f1.f1, fs[m].f1.f2, os[m], 0) := by
  induction d with
  | zero =>
    intro i hi
    obtain rfl : i = m := by omega
    rw [List.drop_eq_getElem_cons hm, List.drop_eq_getElem_cons (show i < os.length by omega), fieldR, if_pos rfl]
  | succ d ih =>
    intro i hi
    have hlt : i < fs.length := by omega
    rw [List.drop_eq_getElem_cons hlt, List.drop_eq_getElem_cons (show i < os.length by omega), fieldR, if_neg (hd i (by omega))]
    exact ih (i + 1) (by omega)
theorem row_next {l : List S30} {most : Int} : ∀ {cs : List S61} {e e' : Int}, Row l most cs e e' → ∀ i (hi : i < cs.length), ∃ k, sizeOf l cs[i].f1 = some k ∧ (∀ (h : i + 1 < cs.length), cs[i].f0 + k ≤ cs[i + 1].f0) ∧ (¬ i + 1 < cs.length → cs[i].f0 + k ≤ e')
  | [], _, _, _, i, hi => absurd hi (by simp)
  | c :: r, e, e', ⟨k, hk, _, _, _, _, h⟩, 0, _ => by
    refine ⟨k, hk, fun h1 => ?_, fun h1 => ?_⟩
    · cases r with
      | nil => simp at h1
      | cons c2 r2 =>
        obtain ⟨_, _, _, h3, _⟩ := h
        exact h3
    · cases r with
      | nil => exact h
      | cons c2 r2 => simp at h1
  | c :: r, e, e', ⟨_, _, _, _, _, _, h⟩, i + 1, hi => by
    obtain ⟨k, hk, h1, h2⟩ := row_next h i (by simpa using hi)
    exact ⟨k, by simpa using hk, fun hh => by simpa using h1 (by simpa using hh), fun hh => by simpa using h2 (by simpa using hh)⟩
/-- Each field ends ahead of the next one, or within the struct. -/
theorem fields_apart {l : List S30} {fs : List S32} (hf1 : 1 ≤ fs.length ∧ fs.length ≤ 12) (hok : ∀ f ∈ fs, FieldOk l f) (m : Nat) (hm : m < fs.length) (hmo : m < (layout fs).2.2.length) :
    (∀ h : m + 1 < (layout fs).2.2.length, (layout fs).2.2[m] + sm fs[m].f1 ≤ (layout fs).2.2[m + 1]) ∧ (¬ m + 1 < (layout fs).2.2.length → (layout fs).2.2[m] + sm fs[m].f1 ≤ (layout fs).1) ∧ 0 ≤ (layout fs).2.2[m] ∧ (layout fs).2.2[m] ≤ 1000 := by
  obtain ⟨q1, q2, q3, q4⟩ := layF_facts fs 0 1 [] hok (by omega) (by simp)
  obtain ⟨v1, v2, v3⟩ := up_spec (layF fs 0 1 []).1 (layF fs 0 1 []).2.1 q1 q3
  have hrow := row_fields (l := l) 0 1000000 _ q3 (Int.zero_emod _) fs 0 1 hok (by omega) (by simp) (Int.le_refl _) (by omega)
  have hlay := layout_facts hf1 hok
  rw [show (layF fs 0 1 []).2.2 = (layout fs).2.2 from rfl] at hrow
  have hlen : ((ones fs (layout fs).2.2).map (fun c => (⟨0 + c.f0, c.f1⟩ : S61))).length = fs.length := by rw [List.length_map, ones_length hlay.2.2]
  have hat : ∀ (i : Nat) (h : i < fs.length) (h2 : i < (layout fs).2.2.length) (h3 : i < ((ones fs (layout fs).2.2).map (fun c => (⟨0 + c.f0, c.f1⟩ : S61))).length), ((ones fs (layout fs).2.2).map (fun c => (⟨0 + c.f0, c.f1⟩ : S61)))[i] = ⟨(layout fs).2.2[i], fs[i].f1⟩ := by
    intro i h h2 h3
    rw [List.getElem_map, ones_at i h h2 (by rw [ones_length hlay.2.2]; exact h)]
    simp
  obtain ⟨k, hk, n1, n2⟩ := row_next hrow m (by rw [hlen]; exact hm)
  rw [hat m hm hmo] at hk n1 n2
  have hks : k = sm fs[m].f1 := by
    rw [(sizeOf_field (hok fs[m] (List.getElem_mem hm))).1] at hk
    exact (Option.some.inj hk).symm
  subst hks
  have hb := layF_offs fs 0 1 [] hok (by omega) (by simp) _ (List.getElem_mem (l := (layout fs).2.2) hmo)
  refine ⟨fun h => ?_, fun h => ?_, hb.1, by omega⟩
  · have := n1 (by rw [hlen, ← hlay.2.2]; exact h)
    rw [hat (m + 1) (by rw [← hlay.2.2]; exact h) h] at this
    exact this
  · have := n2 (by rw [hlen, ← hlay.2.2]; exact h)
    have e : (layout fs).1 = upI (layF fs 0 1 []).1 (layF fs 0 1 []).2.1 := rfl
    rw [e]
    dsimp only at this
    omega
section
variable {l : List S30} (hR : Right l)
include hR
theorem ev_LF_l1 (i : Nat) (hi : i < l.length) (next : Ev (fun k => hauberklaw04_LayFields.l0 k l l (l.length : Int) ((i + 1 : Nat) : Int)) true) (d : Nat) :
    ∀ m, m + d = l[i].f1.length → Ev (fun k => hauberklaw04_LayFields.l1 k l l (l.length : Int) (i : Int) l[i].f1 (l[i].f1.length : Int) (m : Int) l[i].f0 l[i].f1 l[i].f2 (layout l[i].f1).1 (layout l[i].f1).2.1 (layout l[i].f1).2.2) true := by
  obtain ⟨f1, f2, f3⟩ := right_fields hR (List.getElem_mem hi)
  have hlay := layout_facts ⟨f1, f2⟩ f3
  induction d with
  | zero =>
    intro m hm
    refine Ev.succ ?_
    simp only [hauberklaw04_LayFields.l1]
    refine Ev.neg (by omega) ?_
    rw [wrap_succ (by have := hR.1; omega)]
    exact next
  | succ d ih =>
    intro m hm
    have hlt : m < l[i].f1.length := by omega
    have hmo : m < (layout l[i].f1).2.2.length := by omega
    have hok := ((hR.2 i hi).2.2.2 m hlt)
    have hsz := sizeOf_field hok.1
    obtain ⟨a1, a2, a3, a4⟩ := fields_apart ⟨f1, f2⟩ f3 m hlt hmo
    have hs := field_size hok.1
    have hF : Ev (fun k => lay_Field.f k l l[i].f0 l[i].f1[m].f0) (l[i].f1[m].f1.f0, l[i].f1[m].f1.f1, l[i].f1[m].f1.f2, (layout l[i].f1).2.2[m], 0) := by
      have := ev_Field hR l[i].f0 l[i].f1[m].f0
      rw [fnd_self hR i hi] at this
      refine Ev.eq this ?_
      have := fieldR_at l[i].f1 (layout l[i].f1).2.2 hlay.2.2 m hlt hok.2 m 0 (by omega)
      simpa using this
    have hS := ev_Size hR l[i].f1[m].f1
    rw [hsz.1] at hS
    have hnext := ih (m + 1) (by omega)
    refine Ev.succ ?_
    simp only [hauberklaw04_LayFields.l1]
    rw [rd32_at _ m hlt, wrap_succ (by omega), rd_at _ m hmo]
    refine Ev.pos (by omega) (Ev.pos (by omega) (Ev.pos (by omega) (Ev.bind hF (Ev.bind hS ?_))))
    by_cases hn : m + 1 < (layout l[i].f1).2.2.length
    · rw [rd_at _ (m + 1) hn]
      refine Ev.pos (by omega) (Ev.pos (by omega) (Ev.pos rfl (Ev.pos rfl (Ev.neg (by simp) (Ev.pos (by omega) (Ev.pos rfl ?_))))))
      refine Ev.neg ?_ hnext
      dsimp only
      rw [wrap_in (by omega) (by omega)]
      have := a1 hn
      omega
    · refine Ev.neg (by omega) (Ev.pos rfl (Ev.pos rfl (Ev.neg (by simp) (Ev.pos (by omega) (Ev.pos rfl ?_)))))
      refine Ev.neg ?_ hnext
      dsimp only
      rw [wrap_in (by omega) (by omega)]
      have := a2 hn
      omega
theorem ev_LF_l0 (d : Nat) : ∀ i, i + d = l.length → Ev (fun k => hauberklaw04_LayFields.l0 k l l (l.length : Int) (i : Int)) true := by
  induction d with
  | zero =>
    intro i hi
    refine Ev.succ ?_
    simp only [hauberklaw04_LayFields.l0]
    exact Ev.neg (by omega) (Ev.now _)
  | succ d ih =>
    intro i hi
    have hlt : i < l.length := by omega
    obtain ⟨f1, f2, f3⟩ := right_fields hR (List.getElem_mem hlt)
    have hlay := layout_facts ⟨f1, f2⟩ f3
    have hO := ev_Of hR l[i].f0
    rw [fnd_self hR i hlt] at hO
    refine Ev.succ ?_
    simp only [hauberklaw04_LayFields.l0]
    rw [rd30_at l i hlt]
    refine Ev.pos (by omega) (Ev.pos (by omega) (Ev.pos (by omega) (Ev.bind hO (Ev.pos rfl (Ev.succ ?_)))))
    simp only [hauberklaw04_LayFields.j2]
    refine Ev.neg (by simp [hlay.2.2]) ?_
    exact ev_LF_l1 hR i hlt (ih (i + 1) (by omega)) l[i].f1.length 0 (by omega)
end
theorem fields_true (l : List S30) : ∃ k, hauberklaw04_LayFields.f k l = some true := by
  refine Ev.rounds (g := fun k => hauberklaw04_LayFields.f k l) ?_
  unfold hauberklaw04_LayFields.f
  refine Ev.bind ev_awake (Ev.pos rfl ?_)
  obtain ⟨r, hr, hp⟩ := ev_right l
  refine Ev.bind hr (Ev.succ ?_)
  simp only [hauberklaw04_LayFields.j0]
  cases r with
  | false => exact Ev.pos rfl (Ev.bind ev_awake (Ev.now _))
  | true => exact Ev.neg (by simp) (ev_LF_l0 (hp rfl) l.length 0 (by omega))
end Go.Proofs.Ytgpdopfkkopgjaa.K
