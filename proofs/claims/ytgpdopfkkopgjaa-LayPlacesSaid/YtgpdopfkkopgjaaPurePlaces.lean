/- The plain law of LayPlaces: of every list of structs, name and field the law's function answers true. Conditions: none. -/
import Derived.Test.YtgpdopfkkopgjaaPureP
import Derived.Test.YtgpdopfkkopgjaaK19
import Derived.Test.YtgpdopfkkopgjaaK20
namespace Go.Proofs.Ytgpdopfkkopgjaa.K
set_option linter.unusedVariables false
set_option linter.unusedSimpArgs false
set_option linter.unusedSectionVars false
open Go.RowKit Go.Proofs.YtgpdopfkkopgjaaW.PrintWords Go.Proofs.YtgpdopfkkopgjaaW.PrintMore Go.Proofs.Ytgpdopfkkopgjaa.EvLib

/-- The program's answer, as the reference gives it. -/
def asRef (r : Int × Int × ByteArray × Int × Int) : Int × Int × ByteArray × Int × Bool := (r.1, r.2.1, r.2.2.1, r.2.2.2.1, r.2.2.2.2 == 0)
theorem ev_FieldR_l0 (nm : ByteArray) (at' : Int) (fs : List S32) (os : List Int) (b : ByteArray) (hol : os.length = fs.length) (hn : fs.length ≤ 1000) (d : Nat) :
    ∀ i, i + d = fs.length → Ev (fun k => hauberkref04_Field.l0 k b os (fs.length : Int) (i : Int) nm fs at') (asRef (fieldR (fs.drop i) (os.drop i) b)) := by
  induction d with
  | zero =>
    intro i hi
    refine Ev.succ ?_
    simp only [hauberkref04_Field.l0]
    rw [List.drop_eq_nil_of_le (show fs.length ≤ i by omega)]
    exact Ev.neg (by omega) (Ev.now _)
  | succ d ih =>
    intro i hi
    have hlt : i < fs.length := by omega
    have hlo : i < os.length := by omega
    refine Ev.succ ?_
    simp only [hauberkref04_Field.l0]
    rw [rd32_at fs i hlt, rd_at os i hlo, List.drop_eq_getElem_cons hlt, List.drop_eq_getElem_cons hlo, fieldR]
    refine Ev.pos (by omega) (Ev.pos (by omega) (Ev.pos (by omega) ?_))
    by_cases h : fs[i].f0.toList = b.toList
    · rw [if_pos h]
      exact Ev.pos h (Ev.pos (by omega) (Ev.now _))
    · rw [if_neg h, wrap_succ (by omega)]
      exact Ev.neg h (ih (i + 1) (by omega))
def fldOf (l : List S30) (a b : ByteArray) : Int × Int × ByteArray × Int × Int := match fnd l a with | none => (0, 0, ⟨#[]⟩, 0, 13) | some s => fieldR s.f1 (layout s.f1).2.2 b
theorem fieldR_code (b : ByteArray) : ∀ (fs : List S32) (os : List Int), (fieldR fs os b).2.2.2.2 = 0 ∨ (fieldR fs os b).2.2.2.2 = 13
  | f :: fs, o :: os => by
    unfold fieldR
    split
    · exact .inl rfl
    · exact fieldR_code b fs os
  | [], _ => by simp [fieldR]
  | _ :: _, [] => by simp [fieldR]
theorem fldOf_code (l : List S30) (a b : ByteArray) : (fldOf l a b).2.2.2.2 = 0 ∨ (fldOf l a b).2.2.2.2 = 13 := by
  unfold fldOf
  split
  · exact .inr rfl
  · exact fieldR_code b _ _
section
variable {l : List S30} (hR : Right l) (a b : ByteArray)
include hR
theorem ev_FieldP : Ev (fun k => lay_Field.f k l a b) (fldOf l a b) := ev_Field hR a b
theorem ev_FieldR : Ev (fun k => hauberkref04_Field.f k l a b) (asRef (fldOf l a b)) := by
  unfold hauberkref04_Field.f
  refine Ev.bind (ev_Find l a (by have := hR.1; omega)) ?_
  unfold fldOf
  cases h : fnd l a with
  | none => exact Ev.neg (by simp [fR]) (Ev.now _)
  | some s =>
    obtain ⟨f1, f2, f3⟩ := right_fields hR (fnd_mem h)
    have hlay := layout_facts ⟨f1, f2⟩ f3
    refine Ev.pos rfl (Ev.bind (ev_Places s f3 f2) ?_)
    simpa [fR] using ev_FieldR_l0 s.f0 s.f2 s.f1 (layout s.f1).2.2 b hlay.2.2 (by omega) s.f1.length 0 (by omega)
/-- The law's end: both answers of Field are one. -/
theorem ev_end : Ev (fun k => (lay_Field.f k l a b).bind fun bt233 => ((hauberkref04_Field.f k l a b).bind fun bt239 => (if ((bt233.2.2.2.2 == 0) == bt239.2.2.2.2) = true then (if (bt233.1 == bt239.1 && (bt233.2.1 == bt239.2.1 && (bt233.2.2.1.toList == bt239.2.2.1.toList))) = true then (if bt233.2.2.2.1 = bt239.2.2.2.1 then (if bt239.2.2.2.2 = true then (some true) else (some (bt233.2.2.2.2 == 13))) else (some false)) else (some false)) else (some false)))) true := by
  refine Ev.bind (ev_FieldP hR a b) (Ev.bind (ev_FieldR hR a b) ?_)
  refine Ev.pos (by simp [asRef]) (Ev.pos (by simp [asRef]) (Ev.pos rfl ?_))
  rcases fldOf_code l a b with h | h
  · exact Ev.pos (by simp [asRef, h]) (Ev.now _)
  · exact Ev.neg (by simp [asRef, h]) (Ev.ret (by simp [h]))
theorem ev_LP_l0 (o : List Int) (s1 s2 : Int) (hn : o.length ≤ 1000) (d : Nat) : ∀ (i : Nat) (xs : List Int), i + d = o.length → xs.length = o.length → (∀ j, i ≤ j → ∀ (h1 : j < xs.length) (h2 : j < o.length), xs[j] = o[j]) →
    Ev (fun k => hauberklaw04_LayPlaces.l0 k l a b o (o.length : Int) (i : Int) s1 s2 xs) true := by
  induction d with
  | zero =>
    intro i xs hi hx he
    refine Ev.succ ?_
    simp only [hauberklaw04_LayPlaces.l0]
    exact Ev.neg (by omega) (ev_end hR a b)
  | succ d ih =>
    intro i xs hi hx he
    have h1 : i < xs.length := by omega
    have h2 : i < o.length := by omega
    refine Ev.succ ?_
    simp only [hauberklaw04_LayPlaces.l0]
    rw [rd_at xs i h1, rd_at o i h2, wrap_succ (by omega)]
    refine Ev.pos (by omega) (Ev.pos (by omega) (Ev.pos (by omega) (Ev.pos (by omega) (Ev.pos (he i (Nat.le_refl _) h1 h2) ?_))))
    refine ih (i + 1) _ (by omega) (by simp [hx]) (fun j hj j1 j2 => ?_)
    rw [List.getElem_set]
    rw [if_neg (by simp; omega)]
    exact he j (by omega) (by simpa using j1) j2
theorem ev_LP : Ev (fun k => hauberklaw04_LayPlaces.j0 k l a b false) true := by
  refine Ev.succ ?_
  simp only [hauberklaw04_LayPlaces.j0]
  refine Ev.neg (by simp) (Ev.bind (ev_Of hR a) (Ev.bind (ev_Find l a (by have := hR.1; omega)) ?_))
  cases h : fnd l a with
  | none =>
    refine Ev.neg (by simp [fR]) (Ev.neg (by simp [fR]) (Ev.succ ?_))
    simp only [hauberklaw04_LayPlaces.j1, fR]
    exact Ev.neg (by simp) (Ev.neg (by simp) (ev_end hR a b))
  | some s =>
    obtain ⟨f1, f2, f3⟩ := right_fields hR (fnd_mem h)
    have hlay := layout_facts ⟨f1, f2⟩ f3
    refine Ev.neg (by simp [fR]) (Ev.pos rfl (Ev.succ ?_))
    simp only [hauberklaw04_LayPlaces.j1, fR]
    refine Ev.neg (by simp) (Ev.pos trivial (Ev.bind (ev_Places s f3 f2) (Ev.pos rfl (Ev.pos rfl (Ev.succ ?_)))))
    simp only [hauberklaw04_LayPlaces.j2]
    refine Ev.neg (by simp) ?_
    exact ev_LP_l0 hR a b _ _ _ (by rw [hlay.2.2]; omega) (layout s.f1).2.2.length 0 _ (by omega) rfl (fun j _ _ _ => rfl)
end
theorem places_true (l : List S30) (a b : ByteArray) : ∃ k, hauberklaw04_LayPlaces.f k l a b = some true := by
  refine Ev.rounds (g := fun k => hauberklaw04_LayPlaces.f k l a b) ?_
  unfold hauberklaw04_LayPlaces.f
  refine Ev.bind ev_awake (Ev.pos rfl ?_)
  obtain ⟨r, hr, hp⟩ := ev_right l
  refine Ev.bind hr ?_
  cases r with
  | false =>
    refine Ev.succ ?_
    simp only [hauberklaw04_LayPlaces.j0]
    exact Ev.pos rfl (Ev.bind ev_awake (Ev.now _))
  | true => exact ev_LP (hp rfl) a b
end Go.Proofs.Ytgpdopfkkopgjaa.K
