/- CodeFields answers true of every number and all registers. Conditions: the arguments are bytes. -/
import Derived.Test.YtkacoffiinggiaaFieldsW
import Derived.Test.YtkacoffiinggiaaPureFields
namespace Go.Proofs.Ytkacoffiinggiaa.K
open Go.RowKit
theorem fields_true (op a0 a1 a2 b0 b1 b2 : Int) (w : World) (ho : 0 ≤ op ∧ op < 256) (ha : (0 ≤ a0 ∧ a0 < 256) ∧ (0 ≤ a1 ∧ a1 < 256) ∧ (0 ≤ a2 ∧ a2 < 256)) (hb : (0 ≤ b0 ∧ b0 < 256) ∧ (0 ≤ b1 ∧ b1 < 256) ∧ (0 ≤ b2 ∧ b2 < 256)) :
    Calls Try.prog 3 #[.int .u8 op, .agg #[.int .u8 a0, .int .u8 a1, .int .u8 a2], .agg #[.int .u8 b0, .int .u8 b1, .int .u8 b2]] w fun e w' => e = .returned (.bool true) ∧ Below w.heap.size w w' := by
  have hk : 1 ≤ op % 27 + 1 ∧ op % 27 + 1 ≤ 27 := by omega
  have hr := rows_ok _ (has_mem (rows_R _ hk).1).1
  have r0 : 0 ≤ a0 % 32 ∧ a0 % 32 < 32 := by omega
  have r1 : 0 ≤ a1 % 32 ∧ a1 % 32 < 32 := by omega
  have r2 : 0 ≤ a2 % 32 ∧ a2 % 32 < 32 := by omega
  have q0 : 0 ≤ b0 % 32 ∧ b0 % 32 < 32 := by omega
  have q1 : 0 ≤ b1 % 32 ∧ b1 % 32 < 32 := by omega
  have q2 : 0 ≤ b2 % 32 ∧ b2 % 32 < 32 := by omega
  obtain ⟨f1, f2, f3⟩ := w_field _ hr _ _ _ r0 r1 r2
  exact fields_calls op a0 a1 a2 b0 b1 b2 _ _ w ho ha.1 ha.2.1 ha.2.2 hb.1 hb.2.1 hb.2.2 (congrArg some (enc_R _ _ _ _ hk r0 r1 r2)) (congrArg some (enc_R _ _ _ _ hk q0 q1 q2))
    ((w_masked _ hr _ _ _ r0 r1 r2).trans (w_masked _ hr _ _ _ q0 q1 q2).symm) f1 f2 f3
end Go.Proofs.Ytkacoffiinggiaa.K
