import Derived.Test.YtjfleaekljapeaaDoorWWords
import Derived.ChangeArms
import Derived.Deep.Slices
import Derived.WalkKit
import Derived.ProofKit
import Derived.ChangeSame
import Derived.SizedLaws
namespace Go.Proofs.YtjfleaekljapeaaDoor.Open
open Go.RowKit Go.Proofs.YtjfleaekljapeaaDoorW.PrintWords Go.ChangeShapes Go.WideShapes Go.Deep

/-- Whatever reads at type t is of the kind d, and good. -/
def Opens (P : Program) (t : TypeId) {α : Type} (d : Kd α) (G : α → Prop) : Prop :=
  ∀ {H : Type} (enc : TypeId × Value → H) (w : World) (base : Nat) (spare : Nat → Bool) (held : Bool) (fuel : Nat) (cs : List Value) (x : DataW H × List MemPlace),
    DataW.trod enc P w base spare held fuel t cs = some x → ∃ y, d.K w y cs ∧ G y

variable {P : Program}
theorem opens_int {t : TypeId} {k : IntKind} (ht : P.underlying t = some (.int k)) : Opens P t (Kd.int k) (fun a => (Lit.int k a).wf = true) := by
  intro H enc w base spare held fuel cs x h
  obtain ⟨n, rfl, rfl, hw⟩ := DataW.trod_int ht h
  exact ⟨n, rfl, hw⟩
theorem opens_bool {t : TypeId} (ht : P.underlying t = some .bool) : Opens P t Kd.bool (fun _ => True) := by
  intro H enc w base spare held fuel cs x h
  obtain ⟨n, rfl, rfl⟩ := DataW.trod_bool ht h
  exact ⟨n, rfl, trivial⟩
theorem opens_string {t : TypeId} (ht : P.underlying t = some .string) : Opens P t Kd.string (fun s => s.size ≤ maxLen) := by
  intro H enc w base spare held fuel cs x h
  obtain ⟨n, rfl, rfl, hw⟩ := DataW.trod_string ht h
  exact ⟨n, rfl, hw⟩
theorem opens_iso {t : TypeId} {α β : Type} {d : Kd α} {G : β → Prop} (f : β → α) (g : α → β) (hfg : ∀ a, f (g a) = a) (h : Opens P t d (fun a => G (g a))) : Opens P t (Kd.iso d f) G := by
  intro H enc w base spare held fuel cs x hx
  obtain ⟨y, hy, hG⟩ := h enc w base spare held fuel cs x hx
  exact ⟨g y, by show d.K w (f (g y)) cs; rw [hfg]; exact hy, hG⟩
theorem Opens.imp {t : TypeId} {α : Type} {d : Kd α} {G G' : α → Prop} (h : Opens P t d G) (hG : ∀ x, G x → G' x) : Opens P t d G' := by
  intro H enc w base spare held fuel cs x hx
  obtain ⟨y, hy, hg⟩ := h enc w base spare held fuel cs x hx
  exact ⟨y, hy, hG y hg⟩

/-- Fields that stand one behind the other. -/
def OpensFs (P : Program) (fs : List Field) (off : Nat) {α : Type} (d : Kd α) (G : α → Prop) : Prop :=
  ∀ {H : Type} (enc : TypeId × Value → H) (w : World) (base : Nat) (spare : Nat → Bool) (held : Bool) (n : Nat) (cs : List Value),
    (∀ f ∈ fs, ∃ x, DataW.trod enc P w base spare held n f.type ((cs.drop f.offset).take (P.cellsOf f.type)) = some (x : DataW H × List MemPlace)) → ∃ y, d.K w y ((cs.drop off).take d.sz) ∧ G y
theorem opensFs_one {f : Field} {off : Nat} {α : Type} {d : Kd α} {G : α → Prop} (ho : f.offset = off) (hs : P.cellsOf f.type = d.sz) (h : Opens P f.type d G) : OpensFs P [f] off d G := by
  intro H enc w base spare held n cs hf
  obtain ⟨x, hx⟩ := hf f (by simp)
  rw [ho, hs] at hx
  exact h enc w base spare held n _ x hx
theorem opensFs_cons {f : Field} {fs : List Field} {off : Nat} {α β : Type} {a : Kd α} {b : Kd β} {G1 : α → Prop} {G2 : β → Prop} (ho : f.offset = off) (hs : P.cellsOf f.type = a.sz) (h : Opens P f.type a G1)
    (hr : OpensFs P fs (off + a.sz) b G2) : OpensFs P (f :: fs) off (Kd.pair a b) (fun p => G1 p.1 ∧ G2 p.2) := by
  intro H enc w base spare held n cs hf
  obtain ⟨x, hx⟩ := hf f (by simp)
  rw [ho, hs] at hx
  obtain ⟨y1, k1, g1⟩ := h enc w base spare held n _ x hx
  obtain ⟨y2, k2, g2⟩ := hr enc w base spare held n cs (fun f' hf' => hf f' (by simp [hf']))
  refine ⟨(y1, y2), ⟨_, _, ?_, k1, k2⟩, g1, g2⟩
  show (cs.drop off).take (a.sz + b.sz) = _
  rw [List.take_add, List.drop_drop]
theorem opens_struct {t : TypeId} {fs : Array Field} {α : Type} {d : Kd α} {G : α → Prop} (ht : P.underlying t = some (.struct fs)) (hs : P.cellsOf t = d.sz) (h : OpensFs P fs.toList 0 d G) : Opens P t d G := by
  intro H enc w base spare held fuel cs x hx
  obtain ⟨xs, n, _, _, hl, hxs, hf⟩ := DataW.trod_struct ht hx
  obtain ⟨y, hy, hG⟩ := h enc w base spare held n cs (fun f hf' => by
    obtain ⟨i, hi, e⟩ := List.mem_iff_getElem.1 hf'
    have hi2 : i < fs.size := by simpa using hi
    have h1 := hf i f (by rw [← e]; simp [hi2])
    exact ⟨xs[i]'(by omega), by rw [h1]; exact List.getElem?_eq_getElem _⟩)
  refine ⟨y, ?_, hG⟩
  rw [← hs, ← hl] at hy
  simpa using hy

theorem some_list {α : Type} {Q : Nat → α → Prop} : ∀ n, (∀ i, i < n → ∃ y, Q i y) → ∃ l : List α, l.length = n ∧ ∀ i y, l[i]? = some y → Q i y
  | 0, _ => ⟨[], rfl, fun i y h => by simp at h⟩
  | n + 1, h => by
    obtain ⟨l, hl, hq⟩ := some_list n (fun i hi => h i (by omega))
    obtain ⟨y, hy⟩ := h n (by omega)
    refine ⟨l ++ [y], by simp [hl], fun i z hz => ?_⟩
    by_cases hi : i < n
    · rw [List.getElem?_append_left (by omega)] at hz
      exact hq i z hz
    · have hi2 : i < (l ++ [y]).length := (List.getElem?_eq_some_iff.1 hz).1
      obtain rfl : i = n := by simp [hl] at hi2; omega
      rw [List.getElem?_append_right (by omega), hl] at hz
      simp at hz
      exact hz ▸ hy
theorem opens_slice {t e : TypeId} {α : Type} {d : Kd α} {G : α → Prop} (ht : P.underlying t = some (.slice e)) (hs : P.cellsOf e = d.sz) (h : Opens P e d G) :
    Opens P t (Kd.slice e d) (fun xs => xs.length ≤ maxLen ∧ ∀ y ∈ xs, G y) := by
  intro H enc w base spare held fuel cs x hx
  rcases open_slice ht hx with ⟨rfl, _⟩ | ⟨a, len, cap, m, n, D, Pl, rfl, hb, hl, hm, hmm, _, hi⟩
  · exact ⟨[], ⟨none, 0, rfl, Nat.le_refl _, rfl, by simp, fun hp => absurd hp (by simp)⟩, by simp⟩
  · have hlm : len ≤ m := by rw [hmm]; split <;> omega
    obtain ⟨xs, hxl, hq⟩ := some_list (Q := fun i y => G y ∧ ∃ c, c.length = d.sz ∧ d.K w y c ∧ ∀ j u, c[j]? = some u → w.cell? (a.add (i * d.sz + j)) = some u) len (fun i hil => by
      obtain ⟨cs', hc, ht'⟩ := hi i (by omega)
      obtain ⟨y, hy, hG⟩ := h enc w base spare held n cs' _ ht'
      rw [hs] at hc
      obtain ⟨_, hcl, hat⟩ := World.cells?_some hc
      refine ⟨y, hG, cs', d.K_len hy, hy, fun j u hu => ?_⟩
      have hj : j < d.sz := by rw [← d.K_len hy]; exact (List.getElem?_eq_some_iff.1 hu).1
      have h1 := hat j hj
      rw [Go.Deep.add_add] at h1
      rw [h1, hu])
    have hmax : len ≤ maxLen := by omega
    refine ⟨xs, ⟨some a, cap, by rw [hxl], by omega, hxl ▸ rfl, by unfold maxLen at hmax; omega, fun hp => ⟨a, rfl, fun j p hj => ?_⟩⟩, by omega, fun y hy => ?_⟩
    · obtain ⟨_, c, h1, h2, h3⟩ := hq j p hj
      exact ⟨c, h1, h2, h3⟩
    · obtain ⟨i, hil, e⟩ := List.mem_iff_getElem.1 hy
      exact (hq i y (by rw [← e]; exact List.getElem?_eq_getElem hil)).1
end Go.Proofs.YtjfleaekljapeaaDoor.Open
namespace Go.Proofs.YtjfleaekljapeaaDoor.Open
open Go.RowKit Go.Proofs.YtjfleaekljapeaaDoorW.PrintWords Go.ChangeShapes Go.WideShapes Go.Deep
/-- No list in it is too long to be. -/
def Fit (P : Program) (t : TypeId) {H : Type} (d : DataW H) : Prop := ∀ n ∈ d.weights P t, n ≤ reachBytes
def OpensZ (P : Program) (t : TypeId) {α : Type} (d : Kd α) (G : α → Prop) : Prop :=
  ∀ {H : Type} (enc : TypeId × Value → H) (w : World) (base : Nat) (spare : Nat → Bool) (held : Bool) (fuel : Nat) (cs : List Value) (x : DataW H × List MemPlace),
    DataW.trod enc P w base spare held fuel t cs = some x → Fit P t x.1 → ∃ y, d.K w y cs ∧ G y
variable {P : Program}
theorem OpensZ.of {t : TypeId} {α : Type} {d : Kd α} {G : α → Prop} (h : Opens P t d G) : OpensZ P t d G := by
  intro H enc w base spare held fuel cs x hx _
  exact h enc w base spare held fuel cs x hx
theorem zopens_iso {t : TypeId} {α β : Type} {d : Kd α} {G : β → Prop} (f : β → α) (g : α → β) (hfg : ∀ a, f (g a) = a) (h : OpensZ P t d (fun a => G (g a))) : OpensZ P t (Kd.iso d f) G := by
  intro H enc w base spare held fuel cs x hx hz
  obtain ⟨y, hy, hG⟩ := h enc w base spare held fuel cs x hx hz
  exact ⟨g y, by show d.K w (f (g y)) cs; rw [hfg]; exact hy, hG⟩
theorem OpensZ.imp {t : TypeId} {α : Type} {d : Kd α} {G G' : α → Prop} (h : OpensZ P t d G) (hG : ∀ x, G x → G' x) : OpensZ P t d G' := by
  intro H enc w base spare held fuel cs x hx hz
  obtain ⟨y, hy, hg⟩ := h enc w base spare held fuel cs x hx hz
  exact ⟨y, hy, hG y hg⟩
def OpensFsZ (P : Program) (fs : List Field) (off : Nat) {α : Type} (d : Kd α) (G : α → Prop) : Prop :=
  ∀ {H : Type} (enc : TypeId × Value → H) (w : World) (base : Nat) (spare : Nat → Bool) (held : Bool) (n : Nat) (cs : List Value),
    (∀ f ∈ fs, ∃ x, DataW.trod enc P w base spare held n f.type ((cs.drop f.offset).take (P.cellsOf f.type)) = some (x : DataW H × List MemPlace) ∧ Fit P f.type x.1) → ∃ y, d.K w y ((cs.drop off).take d.sz) ∧ G y
theorem zopensFs_one {f : Field} {off : Nat} {α : Type} {d : Kd α} {G : α → Prop} (ho : f.offset = off) (hs : P.cellsOf f.type = d.sz) (h : OpensZ P f.type d G) : OpensFsZ P [f] off d G := by
  intro H enc w base spare held n cs hf
  obtain ⟨x, hx, hz⟩ := hf f (by simp)
  rw [ho, hs] at hx
  exact h enc w base spare held n _ x hx hz
theorem zopensFs_cons {f : Field} {fs : List Field} {off : Nat} {α β : Type} {a : Kd α} {b : Kd β} {G1 : α → Prop} {G2 : β → Prop} (ho : f.offset = off) (hs : P.cellsOf f.type = a.sz) (h : OpensZ P f.type a G1)
    (hr : OpensFsZ P fs (off + a.sz) b G2) : OpensFsZ P (f :: fs) off (Kd.pair a b) (fun p => G1 p.1 ∧ G2 p.2) := by
  intro H enc w base spare held n cs hf
  obtain ⟨x, hx, hz⟩ := hf f (by simp)
  rw [ho, hs] at hx
  obtain ⟨y1, k1, g1⟩ := h enc w base spare held n _ x hx hz
  obtain ⟨y2, k2, g2⟩ := hr enc w base spare held n cs (fun f' hf' => hf f' (by simp [hf']))
  refine ⟨(y1, y2), ⟨_, _, ?_, k1, k2⟩, g1, g2⟩
  show (cs.drop off).take (a.sz + b.sz) = _
  rw [List.take_add, List.drop_drop]
theorem zopens_struct {t : TypeId} {fs : Array Field} {α : Type} {d : Kd α} {G : α → Prop} (ht : P.underlying t = some (.struct fs)) (hs : P.cellsOf t = d.sz) (h : OpensFsZ P fs.toList 0 d G) : OpensZ P t d G := by
  intro H enc w base spare held fuel cs x hx hz
  obtain ⟨xs, n, _, ex, hl, hxs, hf⟩ := DataW.trod_struct ht hx
  subst ex
  obtain ⟨y, hy, hG⟩ := h enc w base spare held n cs (fun f hf' => by
    obtain ⟨i, hi, e⟩ := List.mem_iff_getElem.1 hf'
    have hi2 : i < fs.size := by simpa using hi
    have h1 := hf i f (by rw [← e]; simp [hi2])
    refine ⟨xs[i]'(by omega), by rw [h1]; exact List.getElem?_eq_getElem _, fun k hk => hz k ?_⟩
    have e2 : (DataW.agg (xs.map (·.1)) : DataW H).weights P t = DataW.weightsEach P (fs.toList.map (·.type)) (xs.map (·.1)) := by simp [DataW.weights, ht]
    show k ∈ (DataW.agg (xs.map (·.1)) : DataW H).weights P t
    rw [e2]
    refine DataW.weights_mem_each (j := i) (t := f.type) (d := (xs[i]'(by omega)).1) ?_ ?_ k hk
    · rw [List.getElem?_map, List.getElem?_eq_getElem hi, e]; rfl
    · rw [List.getElem?_map, List.getElem?_eq_getElem (by omega)]; rfl)
  refine ⟨y, ?_, hG⟩
  rw [← hs, ← hl] at hy
  simpa using hy
theorem weights_mem_all {H : Type} {e : TypeId} : ∀ {l : List (DataW H)} {d : DataW H}, d ∈ l → ∀ n ∈ d.weights P e, n ∈ DataW.weightsAll P e l
  | a :: l, d, h, n, hn => by
    simp only [DataW.weightsAll, List.mem_append]
    rcases List.mem_cons.1 h with rfl | h
    · exact .inl hn
    · exact .inr (weights_mem_all h n hn)
theorem zopens_slice {t e : TypeId} {b : Nat} {α : Type} {d : Kd α} {G : α → Prop} (ht : P.underlying t = some (.slice e)) (hs : P.cellsOf e = d.sz) (hb : P.bytesOf e = b) (h : OpensZ P e d G) :
    OpensZ P t (Kd.slice e d) (fun xs => xs.length * b ≤ reachBytes ∧ ∀ y ∈ xs, G y) := by
  intro H enc w base spare held fuel cs x hx hz
  rcases open_slice ht hx with ⟨rfl, _⟩ | ⟨a, len, cap, m, n, D, Pl, rfl, hb2, hl, hm, hmm, ex, hi⟩
  · exact ⟨[], ⟨none, 0, rfl, Nat.le_refl _, rfl, by simp, fun hp => absurd hp (by simp)⟩, by simp⟩
  · subst ex
    have hlm : len ≤ m := by rw [hmm]; split <;> omega
    have hw : ∀ k ∈ (len + (m - len)) * b :: (DataW.weightsAll P e ((List.range len).map D) ++ DataW.weightsAll P e ((List.range (m - len)).map fun j => D (len + j))), k ≤ reachBytes := by
      intro k hk
      refine hz k ?_
      simp only [DataW.weights, ht, List.length_map, List.length_range, hb]
      exact hk
    have hlen : len * b ≤ reachBytes := Nat.le_trans (Nat.mul_le_mul_right b (show len ≤ len + (m - len) by omega)) (hw _ List.mem_cons_self)
    have hfit : ∀ i, i < len → Fit P e (D i) := fun i hil k hk => hw k (by
      refine List.mem_cons_of_mem _ (List.mem_append_left _ ?_)
      exact weights_mem_all (List.mem_map.2 ⟨i, List.mem_range.2 hil, rfl⟩) k hk)
    obtain ⟨xs, hxl, hq⟩ := some_list (Q := fun i y => G y ∧ ∃ c, c.length = d.sz ∧ d.K w y c ∧ ∀ j u, c[j]? = some u → w.cell? (a.add (i * d.sz + j)) = some u) len (fun i hil => by
      obtain ⟨cs', hc, ht'⟩ := hi i (by omega)
      obtain ⟨y, hy, hG⟩ := h enc w base spare held n cs' _ ht' (hfit i hil)
      rw [hs] at hc
      obtain ⟨_, hcl, hat⟩ := World.cells?_some hc
      refine ⟨y, hG, cs', d.K_len hy, hy, fun j u hu => ?_⟩
      have hj : j < d.sz := by rw [← d.K_len hy]; exact (List.getElem?_eq_some_iff.1 hu).1
      have h1 := hat j hj
      rw [Go.Deep.add_add] at h1
      rw [h1, hu])
    have hmax : len ≤ maxLen := by omega
    refine ⟨xs, ⟨some a, cap, by rw [hxl], by omega, hxl ▸ rfl, by unfold maxLen at hmax; omega, fun hp => ⟨a, rfl, fun j p hj => ?_⟩⟩, by rw [hxl]; exact hlen, fun y hy => ?_⟩
    · obtain ⟨_, c, h1, h2, h3⟩ := hq j p hj
      exact ⟨c, h1, h2, h3⟩
    · obtain ⟨i, hil, e⟩ := List.mem_iff_getElem.1 hy
      exact (hq i y (by rw [← e]; exact List.getElem?_eq_getElem hil)).1
end Go.Proofs.YtjfleaekljapeaaDoor.Open
