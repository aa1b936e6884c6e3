/- The law CodeWords answers true of every input. Conditions: none. -/
import Derived.Test.YtkacoffiinggiaaK13
import Derived.Test.YtkacoffiinggiaaPureRef
import Derived.Test.YtkacoffiinggiaaPureDec
namespace Go.Proofs.Ytkacoffiinggiaa.K
open Go.RowKit
theorem awake_true : hauberklaw02_awake.f = some true := by decide +kernel
theorem encF_zero {ok : Bool} {sf so s3 s7 lo hi rd rs1 rs2 imm : Int} (h : (encF ok sf so s3 s7 lo hi rd rs1 rs2 imm).2 ≠ 0) : (encF ok sf so s3 s7 lo hi rd rs1 rs2 imm).1 = 0 := by
  unfold encF at h ⊢
  split
  · rfl
  · split
    · rfl
    · split
      · rfl
      · split
        · rfl
        · rename_i h1 h2 h3 h4
          rw [if_neg h1, if_neg h2, if_neg h3, if_neg h4] at h
          exact absurd rfl h
theorem words_true (a0 a1 a2 a3 a4 : Int) : hauberklaw02_CodeWords.f 100 a0 a1 a2 a3 a4 = some true := by
  unfold hauberklaw02_CodeWords.f
  rw [awake_true, ref_enc]
  rcases hp : enc_r a0 a1 a2 a3 a4 with ⟨x, e⟩
  have hc : code_Encode.f a0 a1 a2 a3 a4 = some (x, e) := congrArg some hp
  rw [hc]
  simp only [Option.bind_some, if_true]
  by_cases he : e = 0
  · subst he
    obtain ⟨hd, h0, h1⟩ := dec_enc hp
    have hf : code_Decode.f x = some (a0, a1, a2, a3, a4, 0) := dec_f_of hp
    rw [hf]
    simp
  · have hx : x = 0 := by
      have h2 := encF_zero (ok := en_ok (cm_has a0) (cf_uses (cm_ent a0).form).1 (cf_uses (cm_ent a0).form).2.1 (cf_uses (cm_ent a0).form).2.2 a1 a2 a3 3) (sf := (cm_ent a0).form) (so := (cm_ent a0).op) (s3 := (cm_ent a0).f3) (s7 := (cm_ent a0).f7) (lo := (cf_room (cm_ent a0).form).1) (hi := (cf_room (cm_ent a0).form).2) (rd := a1) (rs1 := a2) (rs2 := a3) (imm := a4)
      have e1 : enc_r a0 a1 a2 a3 a4 = _ := rfl
      unfold enc_r at hp
      rw [hp] at h2
      exact h2 he
    subst hx
    have hf : code_Decode.f 0 = some (dec_r 0) := rfl
    rw [hf]
    simp [he]
end Go.Proofs.Ytkacoffiinggiaa.K
