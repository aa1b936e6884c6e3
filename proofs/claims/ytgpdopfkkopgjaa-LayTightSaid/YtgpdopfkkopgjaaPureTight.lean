/- The plain law of LayTight: fields of one byte, four or eight, one behind the other: what the struct's size is, above and below. Conditions: none. -/
import Derived.Test.YtgpdopfkkopgjaaPure2
namespace Go.Proofs.Ytgpdopfkkopgjaa.K
set_option linter.unusedVariables false
set_option linter.unusedSimpArgs false
open Go.RowKit Go.Proofs.YtgpdopfkkopgjaaW.PrintWords Go.Proofs.YtgpdopfkkopgjaaW.PrintMore Go.Proofs.Ytgpdopfkkopgjaa.EvLib

/-- The size of a kind (a byte), the type of it. -/
def tgS (k : Int) : Int := if k % 4 = 0 then 1 else if k % 4 = 1 then 4 else 8
def tgT (k : Int) : S25 := if k % 4 = 0 then ⟨1, 0, ⟨#[]⟩⟩ else if k % 4 = 1 then ⟨2, 0, ⟨#[]⟩⟩ else if k % 4 = 2 then ⟨3, 0, ⟨#[]⟩⟩ else ⟨1, 1, ⟨#[]⟩⟩
def tgF (i : Int) (k : Int) : S32 := ⟨strOfNums [97 + i], tgT k, 0⟩
/-- The fields of the kinds from place i on. -/
def tgL : Nat → List Int → List S32
  | _, [] => []
  | i, k :: r => tgF i k :: tgL (i + 1) r
theorem tgS_is (k : Int) : tgS k = 1 ∨ tgS k = 4 ∨ tgS k = 8 := by
  unfold tgS
  split
  · simp
  · split <;> simp
theorem sm_tgT (k : Int) : sm (tgT k) = tgS k := by
  unfold tgT tgS sm
  repeat' split
  all_goals simp_all
theorem tg_ok (l : List S30) (i k : Int) : FieldOk l (tgF i k) := by
  refine ⟨?_, ?_, ?_⟩
  · show knownB l (tgT k) = true
    unfold tgT knownB
    repeat' split
    all_goals simp_all
    all_goals rfl
  · show sm (tgT k) ≠ 0
    rw [sm_tgT]; have := tgS_is k; omega
  · show (tgT k).f0 ≠ 0
    unfold tgT
    repeat' split
    all_goals simp
theorem tgL_length : ∀ (ks : List Int) (i : Nat), (tgL i ks).length = ks.length
  | [], _ => rfl
  | k :: r, i => by simp [tgL, tgL_length r]
theorem tgL_ok (l : List S30) : ∀ (ks : List Int) (i : Nat), ∀ f ∈ tgL i ks, FieldOk l f
  | [], _, f, h => by cases h
  | k :: r, i, f, h => by
    rw [tgL, List.mem_cons] at h
    rcases h with rfl | h
    · exact tg_ok l _ k
    · exact tgL_ok l r (i + 1) f h
theorem tgL_snoc : ∀ (ks : List Int) (i : Nat) (k : Int), tgL i (ks ++ [k]) = tgL i ks ++ [tgF ((i + ks.length : Nat) : Int) k]
  | [], i, k => by simp [tgL]
  | a :: r, i, k => by
    rw [List.cons_append, tgL, tgL, tgL_snoc r (i + 1) k, List.cons_append, List.length_cons]
    rw [show i + 1 + r.length = i + (r.length + 1) by omega]
/-- The sum of the fields' sizes; the widest, from one on. -/
def fSum (fs : List S32) : Int := (fs.map fun f => sm f.f1).sum
def fMax : List S32 → Int → Int
  | [], m => m
  | f :: r, m => fMax r (mx m (sm f.f1))
theorem mx_le (a b c : Int) : mx a b ≤ c ↔ a ≤ c ∧ b ≤ c := by unfold mx; split <;> omega
theorem fMax_le : ∀ (fs : List S32) (m c : Int), fMax fs m ≤ c ↔ m ≤ c ∧ ∀ f ∈ fs, sm f.f1 ≤ c
  | [], m, c => by simp [fMax]
  | f :: r, m, c => by rw [fMax, fMax_le r, mx_le]; simp [and_assoc]
theorem fMax_reverse (fs : List S32) (m : Int) : fMax fs.reverse m = fMax fs m := by
  have h : ∀ c, fMax fs.reverse m ≤ c ↔ fMax fs m ≤ c := fun c => by rw [fMax_le, fMax_le]; simp
  have h1 := (h (fMax fs m)).2 (Int.le_refl _)
  have h2 := (h (fMax fs.reverse m)).1 (Int.le_refl _)
  omega
theorem fSum_append (a b : List S32) : fSum (a ++ b) = fSum a + fSum b := by simp [fSum, List.sum_append]
theorem fSum_cons (f : S32) (r : List S32) : fSum (f :: r) = sm f.f1 + fSum r := by simp [fSum]
theorem fSum_reverse : ∀ fs : List S32, fSum fs.reverse = fSum fs
  | [] => rfl
  | f :: r => by rw [List.reverse_cons, fSum_append, fSum_reverse r, fSum_cons, fSum_cons]; simp [fSum]; omega
def fsz (fs : List S32) : Prop := ∀ f ∈ fs, sm f.f1 = 1 ∨ sm f.f1 = 4 ∨ sm f.f1 = 8
theorem layF_line : ∀ (fs : List S32) (a ln : Int) (o : List Int), (layF fs a ln o).2.1 = fMax fs ln
  | [], _, _, _ => rfl
  | f :: r, a, ln, o => by rw [layF, fMax]; exact layF_line r _ _ _
theorem layF_low : ∀ (fs : List S32) (a ln : Int) (o : List Int), fsz fs → 0 ≤ a → a + fSum fs ≤ (layF fs a ln o).1
  | [], a, ln, o, _, _ => by simp [layF, fSum]
  | f :: r, a, ln, o, h, h0 => by
    have hs := h f (by simp)
    obtain ⟨u1, u2, _⟩ := up_spec a (sm f.f1) h0 hs
    have := layF_low r (upI a (sm f.f1) + sm f.f1) (mx ln (sm f.f1)) (o ++ [upI a (sm f.f1)]) (fun g hg => h g (by simp [hg])) (by omega)
    rw [layF, fSum_cons]
    omega
theorem layF_high (W : Int) : ∀ (fs : List S32) (a ln : Int) (o : List Int), fsz fs → (∀ f ∈ fs, sm f.f1 ≤ W) → 0 ≤ a → (layF fs a ln o).1 ≤ a + fSum fs + (fs.length : Int) * (W - 1)
  | [], a, ln, o, _, _, _ => by simp [layF, fSum]
  | f :: r, a, ln, o, h, hW, h0 => by
    have hs := h f (by simp)
    have hw := hW f (by simp)
    obtain ⟨u1, u2, _⟩ := up_spec a (sm f.f1) h0 hs
    have := layF_high W r (upI a (sm f.f1) + sm f.f1) (mx ln (sm f.f1)) (o ++ [upI a (sm f.f1)]) (fun g hg => h g (by simp [hg])) (fun g hg => hW g (by simp [hg])) (by omega)
    rw [layF, fSum_cons, List.length_cons]
    have e : ((r.length + 1 : Nat) : Int) * (W - 1) = (r.length : Int) * (W - 1) + (W - 1) := by rw [Int.natCast_add, Int.add_mul]; simp
    rw [e]
    omega
theorem layF_same (s : Int) (hs : s = 1 ∨ s = 4 ∨ s = 8) : ∀ (fs : List S32) (a ln : Int) (o : List Int), (∀ f ∈ fs, sm f.f1 = s) → 0 ≤ a → a % s = 0 → (layF fs a ln o).1 = a + fSum fs ∧ (a + fSum fs) % s = 0
  | [], a, ln, o, _, _, hz => by simp [layF, fSum, hz]
  | f :: r, a, ln, o, h, h0, hz => by
    have e := h f (by simp)
    rw [layF, fSum_cons, e, up_fix a s h0 hs hz]
    have := layF_same s hs r (a + s) (mx ln s) (o ++ [a]) (fun g hg => h g (by simp [hg])) (by rcases hs with rfl | rfl | rfl <;> omega) (by rcases hs with rfl | rfl | rfl <;> omega)
    rw [show a + (s + fSum r) = a + s + fSum r by omega]
    exact this
/-- What the law asks of a struct whose widest field has W bytes. -/
theorem layout_tight (fs : List S32) (W : Int) (hz : fsz fs) (hne : fs ≠ []) (hW : fMax fs 1 = W) :
    (layout fs).2.1 = W ∧ (layout fs).1 % W = 0 ∧ fSum fs ≤ (layout fs).1 ∧ (layout fs).1 < fSum fs + W * fs.length ∧ ∀ s, (∀ f ∈ fs, sm f.f1 = s) → (layout fs).1 = fSum fs := by
  cases fs with
  | nil => exact absurd rfl hne
  | cons f r =>
    have hs := hz f (by simp)
    have hle := (fMax_le (f :: r) 1 W).1 (by omega)
    have hW3 : W = 1 ∨ W = 4 ∨ W = 8 := by
      have : ∀ (fs : List S32) (m : Int), fsz fs → (m = 1 ∨ m = 4 ∨ m = 8) → (fMax fs m = 1 ∨ fMax fs m = 4 ∨ fMax fs m = 8) := by
        intro fs
        induction fs with
        | nil => intro m _ h; exact h
        | cons g t ih => intro m h hm; exact ih _ (fun x hx => h x (by simp [hx])) (mx_size _ _ hm (h g (by simp)))
      rw [← hW]; exact this _ _ hz (.inl rfl)
    have hl := layF_low (f :: r) 0 1 [] hz (Int.le_refl _)
    have hh : (layF (f :: r) 0 1 []).1 ≤ fSum (f :: r) + (r.length : Int) * (W - 1) := by
      rw [layF, fSum_cons]
      have e0 : upI 0 (sm f.f1) = 0 := up_fix 0 _ (Int.le_refl _) hs (by simp)
      rw [e0]
      have := layF_high W r (0 + sm f.f1) (mx 1 (sm f.f1)) ([] ++ [0]) (fun g hg => hz g (by simp [hg])) (fun g hg => hle.2 g (by simp [hg])) (by omega)
      omega
    have hln : (layF (f :: r) 0 1 []).2.1 = W := by rw [layF_line]; exact hW
    have h0 : 0 ≤ (layF (f :: r) 0 1 []).1 := by
      have h00 : ∀ fs : List S32, fsz fs → 0 ≤ fSum fs := by
        intro fs
        induction fs with
        | nil => intro _; simp [fSum]
        | cons g t ih => intro h; rw [fSum_cons]; have := ih (fun x hx => h x (by simp [hx])); have := h g (by simp); omega
      have := h00 _ hz
      omega
    obtain ⟨u1, u2, u3⟩ := up_spec (layF (f :: r) 0 1 []).1 W h0 hW3
    have e1 : (layout (f :: r)).1 = upI (layF (f :: r) 0 1 []).1 W := by show upI _ _ = _; rw [hln]
    have e2 : (layout (f :: r)).2.1 = W := hln
    refine ⟨e2, by rw [e1]; exact u3, by rw [e1]; omega, ?_, ?_⟩
    · rw [e1, List.length_cons]
      have e : W * ((r.length + 1 : Nat) : Int) = (r.length : Int) * (W - 1) + (r.length : Int) + W := by
        rw [Int.natCast_add, Int.mul_add, Int.mul_sub, Int.mul_comm W]; simp
      rw [e]
      omega
    · intro s hsame
      have es : sm f.f1 = s := hsame f (by simp)
      have hs' : s = 1 ∨ s = 4 ∨ s = 8 := by rw [← es]; exact hs
      obtain ⟨a1, a2⟩ := layF_same s hs' (f :: r) 0 1 [] hsame (Int.le_refl _) (by simp)
      have eW : W = s := by
        have h1 := hle.2 f (by simp)
        have h2 := (fMax_le (f :: r) 1 s).2 ⟨by omega, fun g hg => by rw [hsame g hg]; exact Int.le_refl _⟩
        omega
      rw [e1, a1, eW, up_fix _ s (by rw [← a1]; exact h0) hs' a2]
      simp
def tgSum (l : List Int) : Int := (l.map tgS).sum
def tgMx (l : List Int) : Int := l.foldl (fun m k => mx m (tgS k)) 0
def tgSame (ks : List Int) (i : Nat) : Bool := (ks.take i).all fun k => tgS k == tgS (rd ks 0)
theorem rd_mem (ks : List Int) (i : Nat) (h : i < ks.length) : rd ks (i : Int) ∈ ks := by
  unfold rd
  rw [Int.toNat_natCast, List.getD_eq_getElem?_getD, List.getElem?_eq_getElem h]
  exact List.getElem_mem h
theorem tgSum_le (l : List Int) : 0 ≤ tgSum l ∧ tgSum l ≤ 8 * l.length := by
  induction l with
  | nil => simp [tgSum]
  | cons k r ih => have := tgS_is k; simp only [tgSum, List.map_cons, List.sum_cons, List.length_cons] at *; omega
theorem take_at (ks : List Int) (i : Nat) (h : i < ks.length) (kk : Int) (hk : rd ks (i : Int) = kk) : ks.take (i + 1) = ks.take i ++ [kk] := by
  rw [List.take_succ_eq_append_getElem h, ← hk]
  unfold rd
  rw [Int.toNat_natCast, List.getD_eq_getElem?_getD, List.getElem?_eq_getElem h]
  rfl
theorem tgSum_snoc (l : List Int) (k : Int) : tgSum (l ++ [k]) = tgSum l + tgS k := by simp [tgSum, List.sum_append]
theorem tgMx_snoc (l : List Int) (k : Int) : tgMx (l ++ [k]) = mx (tgMx l) (tgS k) := by simp [tgMx]
theorem tgSame_snoc (ks : List Int) (i : Nat) (h : i < ks.length) (kk : Int) (hk : rd ks (i : Int) = kk) : tgSame ks (i + 1) = (tgSame ks i && (tgS kk == tgS (rd ks 0))) := by
  unfold tgSame
  rw [take_at ks i h kk hk, List.all_append]
  simp
theorem tgL_at (ks : List Int) (i : Nat) (h : i < ks.length) (kk : Int) (hk : rd ks (i : Int) = kk) : tgL 0 (ks.take (i + 1)) = tgL 0 (ks.take i) ++ [tgF (i : Int) kk] := by
  rw [take_at ks i h kk hk, tgL_snoc]
  rw [List.length_take, Nat.min_eq_left (by omega), Nat.zero_add]
theorem tgL_mem : ∀ (ks : List Int) (i : Nat), ∀ f ∈ tgL i ks, ∃ k ∈ ks, sm f.f1 = tgS k
  | [], _, f, h => by cases h
  | k :: r, i, f, h => by
    rw [tgL, List.mem_cons] at h
    rcases h with rfl | h
    · exact ⟨k, by simp, sm_tgT k⟩
    · obtain ⟨k', h1, h2⟩ := tgL_mem r (i + 1) f h
      exact ⟨k', by simp [h1], h2⟩
theorem tgL_fsz (ks : List Int) (i : Nat) : fsz (tgL i ks) := fun f hf => by
  obtain ⟨k, _, e⟩ := tgL_mem ks i f hf
  rw [e]; exact tgS_is k
theorem fSum_tgL : ∀ (ks : List Int) (i : Nat), fSum (tgL i ks) = tgSum ks
  | [], _ => rfl
  | k :: r, i => by
    rw [tgL, fSum_cons, fSum_tgL r (i + 1)]
    show sm (tgT k) + _ = _
    rw [sm_tgT]
    simp [tgSum]
theorem fMax_tgL : ∀ (ks : List Int) (i : Nat) (m : Int), fMax (tgL i ks) m = ks.foldl (fun m k => mx m (tgS k)) m
  | [], _, _ => rfl
  | k :: r, i, m => by
    rw [tgL, fMax, fMax_tgL r (i + 1), List.foldl_cons]
    show List.foldl _ (mx m (sm (tgT k))) r = _
    rw [sm_tgT]
theorem fMax_tgMx (ks : List Int) (h : ks ≠ []) : fMax (tgL 0 ks) 1 = tgMx ks := by
  cases ks with
  | nil => exact absurd rfl h
  | cons k r =>
    rw [fMax_tgL]
    unfold tgMx
    rw [List.foldl_cons, List.foldl_cons]
    have := tgS_is k
    rw [show mx 1 (tgS k) = mx 0 (tgS k) by unfold mx; split <;> split <;> omega]
theorem same_all (ks : List Int) (h : tgSame ks ks.length = true) (i : Nat) : ∀ f ∈ tgL i ks, sm f.f1 = tgS (rd ks 0) := fun f hf => by
  obtain ⟨k, hk, e⟩ := tgL_mem ks i f hf
  unfold tgSame at h
  rw [List.take_length, List.all_eq_true] at h
  have := h k hk
  rw [e]
  exact eq_of_beq this
def nmA : ByteArray := ⟨#[97]⟩
def nmB : ByteArray := ⟨#[98]⟩
def tgPair (fs gs : List S32) : List S30 := [⟨nmA, fs, 0⟩, ⟨nmB, gs, 0⟩]
theorem find_A (fs gs : List S32) : lay_find.f (tgPair fs gs) nmA = some 0 := by
  unfold lay_find.f tgPair
  rw [lay_find.go, if_pos rfl]
theorem find_B (fs gs : List S32) : lay_find.f (tgPair fs gs) nmB = some 1 := by
  have h : nmA.toList ≠ nmB.toList := by decide +kernel
  unfold lay_find.f tgPair
  rw [lay_find.go, if_neg h, lay_find.go, if_pos rfl]
  rfl
theorem ev_OfA (fs gs : List S32) (hok : ∀ f ∈ fs, FieldOk [] f) (hn : fs.length ≤ 12) : Ev (fun k => lay_Of.f k (tgPair fs gs) nmA) ((layout fs).1, (layout fs).2.1, (layout fs).2.2, 0) := by
  unfold lay_Of.f
  exact Ev.bind (Ev.const (find_A fs gs)) (Ev.neg (by omega) (Ev.pos (by omega) (Ev.pos (by simp [tgPair]) (ev_Of_fields (l := []) fs hok hn))))
theorem ev_OfB (fs gs : List S32) (hok : ∀ f ∈ gs, FieldOk [] f) (hn : gs.length ≤ 12) : Ev (fun k => lay_Of.f k (tgPair fs gs) nmB) ((layout gs).1, (layout gs).2.1, (layout gs).2.2, 0) := by
  unfold lay_Of.f
  exact Ev.bind (Ev.const (find_B fs gs)) (Ev.neg (by omega) (Ev.pos (by omega) (Ev.pos (by simp [tgPair]) (ev_Of_fields (l := []) gs hok hn))))
/-- What the law's walk asks of the two structs. -/
theorem tight_facts (ks : List Int) (h0 : ks.length ≠ 0) (h12 : ¬ 12 < ks.length) : ∃ (K : Nat) (X Y W S : Int) (oX oY : List Int),
    lay_Of.f K (tgPair (tgL 0 ks) (tgL 0 ks).reverse) nmA = some (X, W, oX, 0) ∧ lay_Of.f K (tgPair (tgL 0 ks) (tgL 0 ks).reverse) nmB = some (Y, W, oY, 0) ∧ tgMx ks = W ∧ tgSum ks = S ∧
    X % W = 0 ∧ S ≤ X ∧ S ≤ Y ∧ X < S + W * ks.length ∧ (tgSame ks ks.length = true → X = S ∧ Y = S) ∧ (W = 1 ∨ W = 4 ∨ W = 8) ∧ 0 ≤ S ∧ S ≤ 96 := by
  have hne : ks ≠ [] := fun e => h0 (by rw [e]; rfl)
  have hl : (tgL 0 ks).length = ks.length := tgL_length ks 0
  have hfne : tgL 0 ks ≠ [] := fun e => h0 (by rw [← hl, e]; rfl)
  have hz := tgL_fsz ks 0
  have hzr : fsz (tgL 0 ks).reverse := fun f hf => hz f (by simpa using hf)
  obtain ⟨a1, a2, a3, a4, a5⟩ := layout_tight (tgL 0 ks) (tgMx ks) hz hfne (fMax_tgMx ks hne)
  obtain ⟨b1, b2, b3, b4, b5⟩ := layout_tight (tgL 0 ks).reverse (tgMx ks) hzr (by simpa using hfne) (by rw [fMax_reverse]; exact fMax_tgMx ks hne)
  rw [fSum_tgL] at a3 a4 a5
  rw [fSum_reverse, fSum_tgL] at b3 b4 b5
  obtain ⟨K, hA, hB⟩ := together (fun k => lay_Of.mono _ _ k) (fun k => lay_Of.mono _ _ k) (ev_OfA (tgL 0 ks) (tgL 0 ks).reverse (tgL_ok [] ks 0) (by omega)).rounds (ev_OfB (tgL 0 ks) (tgL 0 ks).reverse (fun f hf => tgL_ok [] ks 0 f (by simpa using hf)) (by simp; omega)).rounds
  rw [a1] at hA
  rw [b1] at hB
  have hW : tgMx ks = 1 ∨ tgMx ks = 4 ∨ tgMx ks = 8 := by
    rw [← a1]
    exact (layF_facts (l := []) (tgL 0 ks) 0 1 [] (tgL_ok [] ks 0) (Int.le_refl _) (.inl rfl)).2.2.1
  obtain ⟨s0, s1⟩ := tgSum_le ks
  exact ⟨K, _, _, _, _, _, _, hA, hB, rfl, rfl, a2, a3, b3, by rw [hl] at a4; exact a4, fun hs => ⟨a5 _ (same_all ks hs 0), b5 _ (fun f hf => same_all ks hs 0 f (by simpa using hf))⟩, hW, s0, by omega⟩
end Go.Proofs.Ytgpdopfkkopgjaa.K
