/- How this seat's arguments read: an instruction with its fields. Conditions: none. -/
import Derived.Test.YtkacoffiinggiaaOpen
import Derived.Test.YtkacoffiinggiaaK0
import Derived.OpenShut
namespace Go.Proofs.Ytkacoffiinggiaa.K
open Go.RowKit Go.Proofs.YtkacoffiinggiaaW.PrintWords Go.Proofs.Ytkacoffiinggiaa.Open
theorem opens29 : Opens Try.prog 29 k29 (fun _ => True) :=
  (opens_iso (G := fun _ => True) (fun x : S29 => (x.f0, x.f1, x.f2, x.f3, x.f4)) (fun p => ⟨p.1, p.2.1, p.2.2.1, p.2.2.2.1, p.2.2.2.2⟩) (fun _ => rfl) (Opens.imp (opens_struct Try.underlying29 (by kernel_rfl)
    (opensFs_cons rfl (by kernel_rfl) (opens_int Try.underlying3) (opensFs_cons rfl (by kernel_rfl) (opens_int Try.underlying3) (opensFs_cons rfl (by kernel_rfl) (opens_int Try.underlying3) (opensFs_cons rfl (by kernel_rfl) (opens_int Try.underlying3) (opensFs_one rfl (by kernel_rfl) (opens_int Try.underlying3))))))) (fun _ _ => trivial)))
section
open Go.WideShapes
theorem okWide_arr {P : Program} {w : World} {r : Reach} {base : Nat} {t : TypeId} {v : Value} {n : Nat} {e : TypeId} (ht : P.underlying t = some (.array n e)) (h : Value.okWide P w r base t v) : ∃ cs, v = .agg cs ∧ cs.size = P.cellsOf t := by
  simp only [Value.okWide, ht] at h
  obtain ⟨cs, h1, h2, _⟩ := h
  exact ⟨cs, h1, h2⟩
end
theorem opens_array3 {P : Program} {t e : TypeId} {α : Type} {d : Kd α} {G : α → Prop} (ht : P.underlying t = some (.array 3 e)) (hs : P.cellsOf e = 1) (hc : P.cellsOf t = 3) (h : Opens P e d G) :
    Opens P t (Kd.pair d (Kd.pair d d)) (fun p => G p.1 ∧ G p.2.1 ∧ G p.2.2) := by
  intro H enc w base spare held fuel cs x hx
  obtain ⟨xs, m, _, _, hl, hn, hf⟩ := DataW.trod_array ht hx
  rw [hc] at hl
  obtain ⟨c0, c1, c2, rfl⟩ : ∃ a b c, cs = [a, b, c] := by
    match cs, hl with
    | [a, b, c], _ => exact ⟨a, b, c, rfl⟩
  obtain ⟨x0, x1, x2, rfl⟩ : ∃ a b c, xs = [a, b, c] := by
    match xs, hn with
    | [a, b, c], _ => exact ⟨a, b, c, rfl⟩
  have h0 := hf 0 (by decide)
  have h1 := hf 1 (by decide)
  have h2 := hf 2 (by decide)
  rw [hs] at h0 h1 h2
  obtain ⟨y0, k0, g0⟩ := h enc w base spare held m _ x0 h0
  obtain ⟨y1, k1, g1⟩ := h enc w base spare held m _ x1 h1
  obtain ⟨y2, k2, g2⟩ := h enc w base spare held m _ x2 h2
  exact ⟨(y0, y1, y2), ⟨[c0], [c1, c2], rfl, k0, ⟨[c1], [c2], rfl, k1, k2⟩⟩, g0, g1, g2⟩
structure B22 where
  f0 : Int
  f1 : Int
  f2 : Int
def kB22 : Kd B22 := Kd.iso (Kd.pair (Kd.int .u8) (Kd.pair (Kd.int .u8) (Kd.int .u8))) (fun x : B22 => (x.f0, x.f1, x.f2))
theorem kB22_open {w : World} {x : B22} {cs : List Value} (h : kB22.K w x cs) : cs = [.int .u8 x.f0, .int .u8 x.f1, .int .u8 x.f2] := by
  obtain ⟨_, _, rfl, rfl, _, _, rfl, rfl, rfl⟩ := h
  exact rfl
theorem wf_u8 {a : Int} (h : (Lit.int .u8 a).wf = true) : 0 ≤ a ∧ a < 256 := by
  simp [Lit.wf, IntKind.min, IntKind.max, IntKind.signed, IntKind.bits] at h
  omega
theorem wf_u32 {a : Int} (h : (Lit.int .u32 a).wf = true) : 0 ≤ a ∧ a < 4294967296 := by
  simp [Lit.wf, IntKind.min, IntKind.max, IntKind.signed, IntKind.bits] at h
  omega
theorem opensB22 : Opens Try.prog 22 kB22 (fun x => (0 ≤ x.f0 ∧ x.f0 < 256) ∧ (0 ≤ x.f1 ∧ x.f1 < 256) ∧ (0 ≤ x.f2 ∧ x.f2 < 256)) :=
  opens_iso (fun x : B22 => (x.f0, x.f1, x.f2)) (fun p => ⟨p.1, p.2.1, p.2.2⟩) (fun _ => rfl) (Opens.imp (opens_array3 Try.underlying22 (by kernel_rfl) (by kernel_rfl) (opens_int Try.underlying5)) (fun p h => ⟨wf_u8 h.1, wf_u8 h.2.1, wf_u8 h.2.2⟩))
end Go.Proofs.Ytkacoffiinggiaa.K
