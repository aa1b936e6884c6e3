/- The plain laws of layer 4, fourth part: cells stand one behind the other, each at a multiple of its size. Conditions: none. -/
import Derived.Test.YtgpdopfkkopgjaaPure3
import Derived.Test.YtgpdopfkkopgjaaK9
namespace Go.Proofs.Ytgpdopfkkopgjaa.K
set_option linter.unusedVariables false
set_option linter.unusedSimpArgs false
open Go.RowKit Go.Proofs.YtgpdopfkkopgjaaW.PrintWords Go.Proofs.YtgpdopfkkopgjaaW.PrintMore Go.Proofs.Ytgpdopfkkopgjaa.EvLib

theorem ev_awake : Ev (fun k => hauberklaw04_awake.f k) true := by
  refine Ev.of (fun k => hauberklaw04_awake.mono k) (k := 10) ?_
  decide +kernel
/-- Cells one behind the other, from an end on: the end behind them, if each stands right within 'most'. -/
def Row (l : List S30) (most : Int) : List S61 → Int → Int → Prop
  | [], e, e' => e ≤ e'
  | c :: r, e, e' => ∃ k, sizeOf l c.f1 = some k ∧ (c.f1.f1 = 0 → c.f1.f0 ≠ 4) ∧ e ≤ c.f0 ∧ c.f0 % k = 0 ∧ c.f0 + k ≤ most ∧ Row l most r (c.f0 + k) e'
theorem Row.le {l : List S30} {hR : Right l} {most : Int} : ∀ {cs : List S61} {e e' : Int}, Row l most cs e e' → e ≤ e'
  | [], _, _, h => h
  | c :: r, e, e', ⟨k, hk, _, h1, _, _, h⟩ => by
    have := size_range hR hk
    have := Row.le (hR := hR) h
    omega
theorem Row.weaken {l : List S30} {most : Int} : ∀ {cs : List S61} {e0 e e' e1 : Int}, Row l most cs e e' → e0 ≤ e → e' ≤ e1 → Row l most cs e0 e1
  | [], _, _, _, _, h, h0, h1 => Int.le_trans h0 (Int.le_trans h h1)
  | c :: r, _, _, _, _, ⟨k, hk, h2, h3, h4, h5, h⟩, h0, h1 => ⟨k, hk, h2, by omega, h4, h5, Row.weaken h (Int.le_refl _) h1⟩
theorem Row.append {l : List S30} {most : Int} : ∀ {cs ds : List S61} {e e1 e2 : Int}, Row l most cs e e1 → Row l most ds e1 e2 → Row l most (cs ++ ds) e e2
  | [], _, _, _, _, h, h' => Row.weaken h' h (Int.le_refl _)
  | c :: r, _, _, _, _, ⟨k, hk, h2, h3, h4, h5, h⟩, h' => ⟨k, hk, h2, h3, h4, h5, Row.append h h'⟩
theorem sizeOf_field {l : List S30} {f : S32} (h : FieldOk l f) : sizeOf l f.f1 = some (sm f.f1) ∧ (f.f1.f1 = 0 → f.f1.f0 ≠ 4) := by
  have hs := field_size h
  refine ⟨by unfold sizeOf; rw [if_pos h.1, if_pos (by omega)], fun e1 e2 => h.2.1 ?_⟩
  unfold sm
  rw [if_neg (by omega), if_neg (by omega), if_neg (by omega), if_neg (by omega)]
/-- The fields of a struct, moved by a multiple of its size. -/
theorem mod_add (b x n : Int) (hn : n = 1 ∨ n = 4 ∨ n = 8) (hb : b % n = 0) (hx : x % n = 0) : (b + x) % n = 0 := by
  rcases hn with rfl | rfl | rfl <;> omega
def Div (n m : Int) : Prop := (n = 1 ∨ n = 4 ∨ n = 8) ∧ (m = 1 ∨ m = 4 ∨ m = 8) ∧ n ≤ m
theorem div_mod (b n m : Int) (h : Div n m) (hb : b % m = 0) : b % n = 0 := by
  obtain ⟨h1, h2, h3⟩ := h
  rcases h1 with rfl | rfl | rfl <;> rcases h2 with rfl | rfl | rfl <;> omega
theorem layF_ge {l : List S30} : ∀ (fs : List S32) (a ln : Int) (o : List Int), (∀ f ∈ fs, FieldOk l f) → (ln = 1 ∨ ln = 4 ∨ ln = 8) → ln ≤ (layF fs a ln o).2.1
  | [], _, _, _, _, _ => Int.le_refl _
  | f :: r, a, ln, o, hf, hln => by
    have hs := field_size (hf f (by simp))
    have := layF_ge r (upI a (sm f.f1) + sm f.f1) (mx ln (sm f.f1)) (o ++ [upI a (sm f.f1)]) (fun g hg => hf g (by simp [hg])) (mx_size _ _ hln hs)
    rw [layF]
    have : ln ≤ mx ln (sm f.f1) := by unfold mx; split <;> omega
    omega
theorem layF_app : ∀ (fs : List S32) (a ln : Int) (o : List Int), (layF fs a ln o).1 = (layF fs a ln []).1 ∧ (layF fs a ln o).2.1 = (layF fs a ln []).2.1 ∧ (layF fs a ln o).2.2 = o ++ (layF fs a ln []).2.2
  | [], _, _, o => ⟨rfl, rfl, by simp [layF]⟩
  | f :: r, a, ln, o => by
    obtain ⟨a1, a2, a3⟩ := layF_app r (upI a (sm f.f1) + sm f.f1) (mx ln (sm f.f1)) (o ++ [upI a (sm f.f1)])
    obtain ⟨b1, b2, b3⟩ := layF_app r (upI a (sm f.f1) + sm f.f1) (mx ln (sm f.f1)) ([] ++ [upI a (sm f.f1)])
    rw [layF, layF]
    exact ⟨by rw [a1, b1], by rw [a2, b2], by rw [a3, b3]; simp⟩
theorem row_fields {l : List S30} (b most line : Int) (hline : line = 1 ∨ line = 4 ∨ line = 8) (hb : b % line = 0) : ∀ (fs : List S32) (a ln : Int), (∀ f ∈ fs, FieldOk l f) → 0 ≤ a → (ln = 1 ∨ ln = 4 ∨ ln = 8) → (layF fs a ln []).2.1 ≤ line → b + (layF fs a ln []).1 ≤ most →
    Row l most ((ones fs (layF fs a ln []).2.2).map (fun c => ⟨b + c.f0, c.f1⟩)) (b + a) (b + (layF fs a ln []).1)
  | [], a, ln, _, _, _, _, _ => by simp [ones, layF, Row]
  | f :: r, a, ln, hf, h0, hln, hli, hm => by
    have hs := field_size (hf f (by simp))
    obtain ⟨u1, u2, u3⟩ := up_spec a (sm f.f1) h0 hs
    obtain ⟨b1, b2, b3⟩ := layF_app r (upI a (sm f.f1) + sm f.f1) (mx ln (sm f.f1)) ([] ++ [upI a (sm f.f1)])
    have hrest : ∀ g ∈ r, FieldOk l g := fun g hg => hf g (by simp [hg])
    have hmx := mx_size ln (sm f.f1) hln hs
    have hge := layF_ge r (upI a (sm f.f1) + sm f.f1) (mx ln (sm f.f1)) [] hrest hmx
    have hfa := layF_facts r (upI a (sm f.f1) + sm f.f1) (mx ln (sm f.f1)) [] hrest (by omega) hmx
    rw [layF] at hli hm ⊢
    rw [b1] at hm ⊢
    rw [b2] at hli
    rw [b3]
    obtain ⟨z1, z2⟩ := sizeOf_field (hf f (by simp))
    have hmx1 : sm f.f1 ≤ mx ln (sm f.f1) := by unfold mx; split <;> omega
    have hdv : Div (sm f.f1) line := ⟨hs, hline, by omega⟩
    refine ⟨sm f.f1, z1, z2, by dsimp only; omega, mod_add _ _ _ hs (div_mod b _ _ hdv hb) u3, by dsimp only; omega, ?_⟩
    have := row_fields b most line hline hb r (upI a (sm f.f1) + sm f.f1) (mx ln (sm f.f1)) hrest (by omega) hmx hli hm
    rw [show b + (upI a (sm f.f1) + sm f.f1) = b + upI a (sm f.f1) + sm f.f1 by omega] at this
    exact this
theorem mod_mul (i s m : Int) (hm : m = 1 ∨ m = 4 ∨ m = 8) (h : s % m = 0) : (i * s) % m = 0 := by
  rw [Int.mul_emod, h, Int.mul_zero, Int.zero_emod]
/-- All cells: n of them, one behind the other. -/
theorem row_cells {l : List S30} (hR : Right l) (t : S25) (size : Int) (hsz : sizeOf l t = some size) (n : Nat) : ∀ i, i ≤ n → Row l ((n : Int) * size) (cellsTo size (oneOf l t) i) 0 ((i : Int) * size)
  | 0, _ => by simp [cellsTo, Row]
  | i + 1, hi => by
    have ih := row_cells hR t size hsz n i (by omega)
    obtain ⟨s1, s2⟩ := size_range hR hsz
    have hmost : (i : Int) * size + size ≤ (n : Int) * size := by
      have := Int.mul_le_mul_of_nonneg_right (show ((i : Int) + 1) ≤ (n : Int) by omega) (show 0 ≤ size by omega)
      rw [Int.add_mul, Int.one_mul] at this
      exact this
    rw [cellsTo]
    refine Row.append ih ?_
    rw [show (((i + 1 : Nat) : Int)) * size = (i : Int) * size + size by rw [Int.natCast_add, Int.add_mul]; simp]
    have hsz' := hsz
    unfold sizeOf at hsz'
    by_cases hk : knownB l t = true
    · rw [if_pos hk] at hsz'
      unfold oneOf moved
      by_cases h0 : sm t = 0
      · rw [if_neg (by omega)] at hsz'
        rw [if_pos h0]
        by_cases h4 : t.f0 = 4
        · rw [if_pos h4] at hsz'
          obtain ⟨s, hs, hs2⟩ := Option.map_eq_some_iff.1 hsz'
          rw [hs]
          obtain ⟨f1, f2, f3⟩ := right_fields hR (fnd_mem hs)
          obtain ⟨q1, q2, q3, _⟩ := layF_facts s.f1 0 1 [] f3 (by omega) (by simp)
          obtain ⟨v1, v2, v3⟩ := up_spec (layF s.f1 0 1 []).1 (layF s.f1 0 1 []).2.1 q1 q3
          have hs3 : upI (layF s.f1 0 1 []).1 (layF s.f1 0 1 []).2.1 = size := hs2
          rw [hs3] at v1 v2 v3
          have := row_fields (l := l) ((i : Int) * size) ((n : Int) * size) _ q3 (mod_mul _ _ _ q3 v3) s.f1 0 1 f3 (by omega) (by simp) (Int.le_refl _) (by omega)
          exact Row.weaken this (by omega) (by omega)
        · rw [if_neg h4] at hsz'; cases hsz'
      · rw [if_neg h0]
        have hpos : sm t > 0 := by rcases sm_range t with e | e | e | e <;> omega
        rw [if_pos hpos] at hsz'
        obtain rfl := Option.some.inj hsz'
        have hs : sm t = 1 ∨ sm t = 4 ∨ sm t = 8 := by rcases sm_range t with e | e | e | e <;> omega
        simp only [List.map_cons, List.map_nil]
        refine ⟨sm t, hsz, fun e1 e2 => h0 ?_, by dsimp only; omega, ?_, by dsimp only; omega, by show (i : Int) * sm t + 0 + sm t ≤ _; omega⟩
        · unfold sm
          dsimp only at e1 e2
          rw [if_neg (by omega), if_neg (by omega), if_neg (by omega), if_neg (by omega)]
        · dsimp only
          rw [Int.add_zero]
          exact Int.mul_emod_left _ _
    · rw [if_neg hk] at hsz'; cases hsz'
theorem row_drop {l : List S30} {most : Int} : ∀ {cs : List S61} {e e' : Int}, Row l most cs e e' → ∀ i (hi : i < cs.length), ∃ e1, Row l most (cs.drop i) e1 e'
  | [], _, _, _, i, hi => absurd hi (by simp)
  | c :: r, e, e', h, 0, _ => ⟨e, h⟩
  | c :: r, e, e', ⟨_, _, _, _, _, _, h⟩, i + 1, hi => by
    rw [List.drop_succ_cons]
    exact row_drop h i (by simpa using hi)
end Go.Proofs.Ytgpdopfkkopgjaa.K
