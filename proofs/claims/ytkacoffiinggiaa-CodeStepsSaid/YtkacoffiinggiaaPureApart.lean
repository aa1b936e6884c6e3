/- The law CodeApart answers true of every input. Conditions: none. -/
import Derived.Test.YtkacoffiinggiaaK8
import Derived.Test.YtkacoffiinggiaaPureEnc
namespace Go.Proofs.Ytkacoffiinggiaa.K
open Go.RowKit
theorem awake_true : hauberklaw02_awake.f = some true := by decide +kernel
theorem apart_true (a0 a1 a2 a3 a4 b0 b1 b2 b3 b4 : Int) : hauberklaw02_CodeApart.f a0 a1 a2 a3 a4 b0 b1 b2 b3 b4 = some true := by
  unfold hauberklaw02_CodeApart.f
  rw [awake_true]
  show (if (enc_r a0 a1 a2 a3 a4).2 = 0 then (if (enc_r b0 b1 b2 b3 b4).2 = 0 then some (((enc_r a0 a1 a2 a3 a4).1 == (enc_r b0 b1 b2 b3 b4).1) == (a0 == b0 && (a1 == b1 && (a2 == b2 && (a3 == b3 && a4 == b4))))) else some true) else some true) = some true
  split
  · split
    · rename_i h1 h2
      have e1 : enc_r a0 a1 a2 a3 a4 = ((enc_r a0 a1 a2 a3 a4).1, 0) := by rw [← h1]
      have e2 : enc_r b0 b1 b2 b3 b4 = ((enc_r b0 b1 b2 b3 b4).1, 0) := by rw [← h2]
      by_cases h : (enc_r a0 a1 a2 a3 a4).1 = (enc_r b0 b1 b2 b3 b4).1
      · rw [← h] at e2
        obtain ⟨rfl, rfl, rfl, rfl, rfl⟩ := enc_apart e1 e2
        simp
      · have hn : (a0 == b0 && (a1 == b1 && (a2 == b2 && (a3 == b3 && a4 == b4)))) = false := by
          rw [Bool.eq_false_iff]
          intro hh
          simp only [Bool.and_eq_true, beq_iff_eq] at hh
          obtain ⟨rfl, rfl, rfl, rfl, rfl⟩ := hh
          exact h rfl
        rw [hn, beq_eq_false_iff_ne.mpr h]
        rfl
    · rfl
  · rfl
end Go.Proofs.Ytkacoffiinggiaa.K
