/- The law CodeReads answers true of every word. Conditions: the word is one (of 32 bits). -/
import Derived.Test.YtkacoffiinggiaaK16
namespace Go.Proofs.Ytkacoffiinggiaa.K
open Go.RowKit
theorem awake_true : hauberklaw02_awake.f = some true := by decide +kernel
theorem reads_true (x : Int) (h0 : 0 ≤ x) (h1 : x < 4294967296) : hauberklaw02_CodeReads.f 0 x = some true := by
  unfold hauberklaw02_CodeReads.f
  rw [awake_true]
  have hd : code_Decode.f x = some (dec_r x) := by unfold code_Decode.f; rw [if_pos ⟨h0, h1⟩]
  have hr : hauberkref02_Decode.f 0 x = some ((dec_r x).1, (dec_r x).2.1, (dec_r x).2.2.1, (dec_r x).2.2.2.1, (dec_r x).2.2.2.2.1, (dec_r x).2.2.2.2.2 == 0) := by unfold hauberkref02_Decode.f; rw [if_pos ⟨h0, h1⟩]
  rw [hd, hr]
  simp only [Option.bind_some, if_true, beq_self_eq_true, Bool.not_true, Bool.or_false, Bool.false_eq_true, if_false, bne_self_eq_false]
  cases hf : dec_fi x with
  | none =>
    have e : dec_r x = (0, 0, 0, 0, 0, 2) := by unfold dec_r; rw [hf]
    rw [e]
    rfl
  | some r =>
    obtain ⟨hm, hh⟩ := dec_fi_some hf
    have e : dec_r x = (r.n, (Dec r.form x).1, (Dec r.form x).2.1, (Dec r.form x).2.2.1, (Dec r.form x).2.2.2, 0) := by unfold dec_r; rw [hf]
    rw [e]
    have he : code_Encode.f r.n (Dec r.form x).1 (Dec r.form x).2.1 (Dec r.form x).2.2.1 (Dec r.form x).2.2.2 = some (x, 0) := congrArg some hh
    simp only [beq_self_eq_true, if_true]
    rw [he]
    simp
end Go.Proofs.Ytkacoffiinggiaa.K
