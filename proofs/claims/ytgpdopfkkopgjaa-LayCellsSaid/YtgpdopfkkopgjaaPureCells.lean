/- The plain law of LayCells: the program's cells are the reference's, of every list of structs, type and number. Conditions: none. -/
import Derived.Test.YtgpdopfkkopgjaaPureRow
import Derived.Test.YtgpdopfkkopgjaaK27
namespace Go.Proofs.Ytgpdopfkkopgjaa.K
set_option linter.unusedVariables false
set_option linter.unusedSimpArgs false
set_option linter.unusedSectionVars false
open Go.RowKit Go.Proofs.YtgpdopfkkopgjaaW.PrintWords Go.Proofs.YtgpdopfkkopgjaaW.PrintMore Go.Proofs.Ytgpdopfkkopgjaa.EvLib

def toR (c : S61) : S60 := ⟨c.f0, c.f1⟩
section
variable (n : Nat) (hn : n ≤ 500) (size : Int) (hs0 : 0 ≤ size) (hs1 : size ≤ 200) (t : S25) (one : List S61) (ho : one.length ≤ 12) (hoff : ∀ c ∈ one, 0 ≤ c.f0 ∧ c.f0 ≤ 1000)
include hn hs0 hs1 ho hoff
theorem cells_len (i : Nat) (hi : i ≤ n) (j : Nat) : (cellsTo size one i ++ (moved size one i).take j).length ≤ 100000 := by
  have hm : (moved size one i).length = one.length := by simp [moved]
  rw [List.length_append, cellsTo_length]
  have h1 : i * one.length ≤ 500 * 12 := Nat.mul_le_mul (by omega) ho
  have h2 : ((moved size one i).take j).length ≤ (moved size one i).length := List.length_take_le' j (moved size one i)
  omega
/-- The reference's cells where the type is no struct. -/
theorem ev_CellsR_small (hsm : sm t > 0) (hone : one = [⟨0, t⟩]) (o : List Int) (sn : ByteArray) (sf : List S32) (sa : Int) (d : Nat) :
    ∀ i, i + d = n → Ev (fun k => hauberkref04_Cells.l0 k (n : Int) size ((cellsTo size one i).map toR) o (i : Int) t.f0 t.f1 t.f2 sn sf sa) ((cellsTo size one n).map toR, 0) := by
  induction d with
  | zero =>
    intro i hi
    obtain rfl : i = n := by omega
    refine Ev.succ ?_
    simp only [hauberkref04_Cells.l0]
    exact Ev.neg (by omega) (Ev.now _)
  | succ d ih =>
    intro i hi
    obtain ⟨m0, m1⟩ := mul_small i size (by omega) hs0 hs1
    have hlen := cells_len n hn size hs0 hs1 one ho hoff i (by omega) 0
    rw [List.take_zero, List.append_nil] at hlen
    refine Ev.succ ?_
    simp only [hauberkref04_Cells.l0]
    refine Ev.pos (by omega) (Ev.bind (Ev.const (ref_Small _ _ _)) (Ev.pos hsm (Ev.pos (by rw [List.length_map]; omega) ?_)))
    rw [wrap_in (a := (i : Int) * size) (by omega) (by omega), wrap_succ (by omega)]
    have e : (cellsTo size one i).map toR ++ [(⟨(i : Int) * size, ⟨t.f0, t.f1, t.f2⟩⟩ : S60)] = (cellsTo size one (i + 1)).map toR := by
      rw [cellsTo, List.map_append, hone]
      simp [moved, toR]
    rw [e]
    exact ih (i + 1) (by omega)
theorem ev_CellsR_struct (hsm : sm t = 0) (fs : List S32) (o : List Int) (hol : o.length = fs.length) (hone : one = ones fs o) (sn : ByteArray) (sa : Int) (d : Nat) :
    ∀ i, i + d = n → Ev (fun k => hauberkref04_Cells.l0 k (n : Int) size ((cellsTo size one i).map toR) o (i : Int) t.f0 t.f1 t.f2 sn fs sa) ((cellsTo size one n).map toR, 0) := by
  have hol2 : one.length = fs.length := by rw [hone, ones_length hol]
  induction d with
  | zero =>
    intro i hi
    obtain rfl : i = n := by omega
    refine Ev.succ ?_
    simp only [hauberkref04_Cells.l0]
    exact Ev.neg (by omega) (Ev.now _)
  | succ d ih =>
    intro i hi
    obtain ⟨m0, m1⟩ := mul_small i size (by omega) hs0 hs1
    have hm : (moved size one i).length = one.length := by simp [moved]
    have inner : ∀ (e j : Nat), j + e = o.length → Ev (fun k => hauberkref04_Cells.l1 k (n : Int) size ((cellsTo size one i ++ (moved size one i).take j).map toR) o (i : Int) (o.length : Int) (j : Int) t.f0 t.f1 t.f2 sn fs sa) ((cellsTo size one n).map toR, 0) := by
      intro e
      induction e with
      | zero =>
        intro j hj
        refine Ev.succ ?_
        simp only [hauberkref04_Cells.l1]
        refine Ev.neg (by omega) ?_
        rw [List.take_of_length_le (by omega), wrap_succ (by omega)]
        exact ih (i + 1) (by omega)
      | succ e ihe =>
        intro j hj
        have hjo : j < o.length := by omega
        have hjf : j < fs.length := by omega
        have hj1 : j < one.length := by omega
        have hlen := cells_len n hn size hs0 hs1 one ho hoff i (by omega) j
        have hoj : one[j] = ⟨o[j], fs[j].f1⟩ := by subst hone; exact ones_at j hjf hjo hj1
        have hb := hoff one[j] (List.getElem_mem hj1)
        rw [hoj] at hb
        dsimp only at hb
        refine Ev.succ ?_
        simp only [hauberkref04_Cells.l1]
        refine Ev.pos (by omega) (Ev.pos (by omega) (Ev.pos (by omega) (Ev.pos (by omega) (Ev.pos (by rw [List.length_map]; omega) ?_))))
        rw [rd32_at fs j hjf, rd_at o j hjo, wrap_in (a := (i : Int) * size) (by omega) (by omega), wrap_in (a := (i : Int) * size + o[j]) (by omega) (by omega), wrap_succ (by omega)]
        have e1 : (cellsTo size one i ++ (moved size one i).take j).map toR ++ [(⟨(i : Int) * size + o[j], ⟨fs[j].f1.f0, fs[j].f1.f1, fs[j].f1.f2⟩⟩ : S60)] = (cellsTo size one i ++ (moved size one i).take (j + 1)).map toR := by
          rw [List.take_succ_eq_append_getElem (by omega), ← List.append_assoc, List.map_append (l₁ := cellsTo size one i ++ _)]
          congr 1
          simp [moved, toR, hoj]
        rw [e1]
        exact ihe (j + 1) (by omega)
    have := inner o.length 0 (by omega)
    rw [List.take_zero, List.append_nil] at this
    refine Ev.succ ?_
    simp only [hauberkref04_Cells.l0]
    exact Ev.pos (by omega) (Ev.bind (Ev.const (ref_Small _ _ _)) (Ev.neg (by show ¬ sm t > 0; omega) this))
end
theorem ev_CellsR {l : List S30} (hR : Right l) (t : S25) (n : Int) : Ev (fun k => hauberkref04_Cells.f k l t.f0 t.f1 t.f2 n)
    (if n < 0 ∨ n > 500 then ([], 1) else match sizeOf l t with | none => ([], 14) | some s => ((cellsTo s (oneOf l t) n.toNat).map toR, 0)) := by
  have hl : l.length ≤ 1000000 := by have := hR.1; omega
  unfold hauberkref04_Cells.f
  by_cases h1 : n < 0
  · rw [if_pos (.inl h1)]
    refine Ev.pos h1 (Ev.succ ?_)
    simp only [hauberkref04_Cells.j0]
    exact Ev.pos (by simp) (Ev.now _)
  · refine Ev.neg h1 (Ev.succ ?_)
    simp only [hauberkref04_Cells.j0]
    by_cases h2 : n > 500
    · rw [if_pos (.inr h2)]
      exact Ev.pos (by simpa using h2) (Ev.now _)
    · rw [if_neg (by omega)]
      refine Ev.neg (by simpa using h2) (Ev.bind (ev_SizeR hR t) ?_)
      cases hsz : sizeOf l t with
      | none => exact Ev.neg (by simp) (Ev.now _)
      | some s =>
        obtain ⟨z1, z2⟩ := size_range hR hsz
        obtain ⟨q1, q2⟩ := oneOf_facts hR t
        have hN : ((n.toNat : Nat) : Int) = n := by omega
        refine Ev.pos rfl (Ev.bind (ev_Find l t.f2 hl) ?_)
        have hsz' := hsz
        unfold sizeOf at hsz'
        by_cases hk : knownB l t = true
        · rw [if_pos hk] at hsz'
          by_cases h0 : sm t > 0
          · have hone : oneOf l t = [⟨0, t⟩] := by unfold oneOf; rw [if_neg (by omega)]
            cases h : fnd l t.f2 with
            | none =>
              have hp : Ev (fun k => hauberkref04_Places.f k ⟨#[]⟩ [] 0) _ := ev_Places (l := l) ⟨⟨#[]⟩, [], 0⟩ (by simp) (by simp)
              refine Ev.bind hp ?_
              have := ev_CellsR_small n.toNat (by omega) s (by omega) z2 t (oneOf l t) q1 q2 h0 hone (layout []).2.2 ⟨#[]⟩ [] 0 n.toNat 0 (by omega)
              rw [hN] at this
              exact this
            | some st =>
              obtain ⟨f1, f2, f3⟩ := right_fields hR (fnd_mem h)
              refine Ev.bind (ev_Places st f3 f2) ?_
              have := ev_CellsR_small n.toNat (by omega) s (by omega) z2 t (oneOf l t) q1 q2 h0 hone (layout st.f1).2.2 st.f0 st.f1 st.f2 n.toNat 0 (by omega)
              rw [hN] at this
              exact this
          · have h00 : sm t = 0 := by rcases sm_range t with e | e | e | e <;> omega
            rw [if_neg h0] at hsz'
            by_cases h4 : t.f0 = 4
            · rw [if_pos h4] at hsz'
              obtain ⟨st, h, _⟩ := Option.map_eq_some_iff.1 hsz'
              rw [h]
              obtain ⟨f1, f2, f3⟩ := right_fields hR (fnd_mem h)
              have hlay := layout_facts ⟨f1, f2⟩ f3
              have hone : oneOf l t = ones st.f1 (layout st.f1).2.2 := by unfold oneOf; rw [if_pos h00, h]
              refine Ev.bind (ev_Places st f3 f2) ?_
              have := ev_CellsR_struct n.toNat (by omega) s (by omega) z2 t (oneOf l t) q1 q2 h00 st.f1 (layout st.f1).2.2 hlay.2.2 hone st.f0 st.f2 n.toNat 0 (by omega)
              rw [hN] at this
              exact this
            · rw [if_neg h4] at hsz'; cases hsz'
        · rw [if_neg hk] at hsz'; cases hsz'
theorem rd60_at (l : List S60) (i : Nat) (h : i < l.length) : rd_T60 l (i : Int) = l[i] := by
  simp [rd_T60, List.getD_eq_getElem?_getD, List.getElem?_eq_getElem h]
theorem ev_LC_l0 (cs : List S61) (hlen : cs.length ≤ 100000) (d : Nat) : ∀ i, i + d = cs.length → Ev (fun k => hauberklaw04_LayCells.l0 k cs (cs.map toR) (cs.length : Int) (i : Int)) true := by
  induction d with
  | zero =>
    intro i hi
    refine Ev.succ ?_
    simp only [hauberklaw04_LayCells.l0]
    exact Ev.neg (by omega) (Ev.now _)
  | succ d ih =>
    intro i hi
    have hlt : i < cs.length := by omega
    refine Ev.succ ?_
    simp only [hauberklaw04_LayCells.l0]
    refine Ev.pos (by omega) (Ev.pos (by omega) (Ev.pos (by omega) (Ev.pos (by rw [List.length_map]; omega) ?_)))
    rw [rd61_at cs i hlt, rd60_at (cs.map toR) i (by rw [List.length_map]; omega), List.getElem_map, wrap_succ (by omega)]
    exact Ev.neg (by simp [toR]) (ih (i + 1) (by omega))
theorem cells_true (l : List S30) (a b : Int) (c : ByteArray) (n : Int) : ∃ k, hauberklaw04_LayCells.f k l a b c n = some true := by
  refine Ev.rounds (g := fun k => hauberklaw04_LayCells.f k l a b c n) ?_
  unfold hauberklaw04_LayCells.f
  refine Ev.bind ev_awake (Ev.pos rfl ?_)
  obtain ⟨r, hr, hp⟩ := ev_right l
  refine Ev.bind hr (Ev.succ ?_)
  simp only [hauberklaw04_LayCells.j0]
  cases r with
  | false => exact Ev.pos rfl (Ev.bind ev_awake (Ev.now _))
  | true =>
    have hR := hp rfl
    refine Ev.neg (by simp) (Ev.bind (ev_Cells hR ⟨a, b, c⟩ n) (Ev.bind (ev_CellsR hR ⟨a, b, c⟩ n) ?_))
    have fin : ∀ (cs : List S61) (e : Int), cs.length ≤ 100000 → Ev (fun k => if e = e then (hauberklaw04_LayCells.j1 k cs (cs.map toR) ((cs.length : Int) != ((cs.map toR).length : Int))) else (hauberklaw04_LayCells.j1 k cs (cs.map toR) true)) true := by
      intro cs e hcs
      refine Ev.pos rfl (Ev.succ ?_)
      simp only [hauberklaw04_LayCells.j1]
      exact Ev.neg (by simp) (ev_LC_l0 cs hcs cs.length 0 (by omega))
    by_cases hn : n < 0 ∨ n > 500
    · rw [if_pos hn, if_pos hn]
      exact fin [] 1 (by simp)
    · rw [if_neg hn, if_neg hn]
      cases hsz : sizeOf l ⟨a, b, c⟩ with
      | none => exact fin [] 14 (by simp)
      | some s =>
        obtain ⟨q1, _⟩ := oneOf_facts hR ⟨a, b, c⟩
        refine fin _ 0 ?_
        rw [cellsTo_length]
        have := Nat.mul_le_mul (show n.toNat ≤ 500 by omega) q1
        omega
end Go.Proofs.Ytgpdopfkkopgjaa.K
