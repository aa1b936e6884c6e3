/- A word is read back as its instruction (plain). Conditions: those of each theorem. -/
import Derived.Test.YtkacoffiinggiaaK12
namespace Go.Proofs.Ytkacoffiinggiaa.K
open Go.RowKit
/-- A word is read back. -/
theorem dec_enc {a0 a1 a2 a3 a4 x : Int} (h : enc_r a0 a1 a2 a3 a4 = (x, 0)) : dec_r x = (a0, a1, a2, a3, a4, 0) ∧ 0 ≤ x ∧ x < 4294967296 := by
  obtain ⟨hh, hf⟩ := (enc_r_iff _ _ _ _ _ _).1 h
  obtain ⟨hm, hn⟩ := has_mem hh
  obtain ⟨hx, _, _, _, _, hd⟩ := fits_dec _ (rows_ok _ hm) _ _ _ _ _ hf
  have hit : Hit (cm_ent a0) x := by
    unfold Hit
    rw [hd, hn]
    exact h
  refine ⟨?_, hx⟩
  unfold dec_r
  cases hc : dec_fi x with
  | none => exact absurd hit (dec_fi_none hc _ hm)
  | some s =>
    obtain ⟨hs, h3⟩ := dec_fi_some hc
    obtain rfl := hit_one hm hs hit h3
    simp only [hd, hn]
theorem dec_f_of {a0 a1 a2 a3 a4 x : Int} (h : enc_r a0 a1 a2 a3 a4 = (x, 0)) : code_Decode.f x = some (a0, a1, a2, a3, a4, 0) := by
  unfold code_Decode.f
  rw [if_pos (dec_enc h).2, (dec_enc h).1]
end Go.Proofs.Ytkacoffiinggiaa.K
