/- The words that CodeFields speaks of: numbers 1 to 27 are of form R, so the registers stand in the word's fields and nothing else changes with them. Conditions: those of each theorem. -/
import Derived.Test.YtkacoffiinggiaaPureEnc
namespace Go.Proofs.Ytkacoffiinggiaa.K
open Go.RowKit
theorem rows_R (k : Int) (h : 1 ≤ k ∧ k ≤ 27) : cm_has k = true ∧ (cm_ent k).form = 82 := by
  have : ∀ n : Fin 27, cm_has ((n : Nat) + 1 : Int) = true ∧ (cm_ent ((n : Nat) + 1 : Int)).form = 82 := by decide +kernel
  have h2 := this ⟨(k - 1).toNat, by omega⟩
  have e : (((k - 1).toNat : Nat) : Int) + 1 = k := by omega
  simp only [e] at h2
  exact h2
theorem enc_R (k a b c : Int) (h : 1 ≤ k ∧ k ≤ 27) (ha : 0 ≤ a ∧ a < 32) (hb : 0 ≤ b ∧ b < 32) (hc : 0 ≤ c ∧ c < 32) : enc_r k a b c 0 = (w_base (cm_ent k) a b c, 0) :=
  (enc_r_iff _ _ _ _ _ _).2 ⟨(rows_R k h).1, ⟨by omega, .inl ⟨(rows_R k h).2, rfl, rfl⟩⟩⟩
/-- What lies in the masked fields is gone. -/
theorem andNot_field (z g K : Int) (hg : BitVec.ofInt 32 g &&& ~~~ BitVec.ofInt 32 K = 0#32) (h0 : 0 ≤ z ∧ z < 4294967296) (hz : bits .or .u32 z g = z + g) : bits .andNot .u32 (z + g) K = bits .andNot .u32 z K := by
  have e : BitVec.ofInt 32 (z + g) = BitVec.ofInt 32 z ||| BitVec.ofInt 32 g := by
    rw [← hz]
    show BitVec.ofInt 32 (IntKind.u32.wrap ((BitVec.ofInt 32 z ||| BitVec.ofInt 32 g).toNat : Int)) = _
    rw [wraps_u32 _ (by omega) (by have := (BitVec.ofInt 32 z ||| BitVec.ofInt 32 g).isLt; omega), BitVec.ofInt_natCast, BitVec.ofNat_toNat]
    simp
  show IntKind.u32.wrap ((BitVec.ofInt 32 (z + g) &&& ~~~ BitVec.ofInt 32 K).toNat : Int) = IntKind.u32.wrap ((BitVec.ofInt 32 z &&& ~~~ BitVec.ofInt 32 K).toNat : Int)
  rw [e]
  have d : (BitVec.ofInt 32 z ||| BitVec.ofInt 32 g) &&& ~~~ BitVec.ofInt 32 K = (BitVec.ofInt 32 z &&& ~~~ BitVec.ofInt 32 K) ||| (BitVec.ofInt 32 g &&& ~~~ BitVec.ofInt 32 K) := by
    ext i hi
    simp only [BitVec.getElem_and, BitVec.getElem_or]
    rw [Bool.and_or_distrib_right]
  rw [d, hg, BitVec.or_zero]
theorem mask7 (a : Int) (h : 0 ≤ a ∧ a < 32) : BitVec.ofInt 32 (a * 128) &&& ~~~ BitVec.ofInt 32 33525632 = 0#32 := by
  have : ∀ n : Fin 32, BitVec.ofInt 32 (((n : Nat) : Int) * 128) &&& ~~~ BitVec.ofInt 32 33525632 = 0#32 := by decide +kernel
  have h2 := this ⟨a.toNat, by omega⟩
  have e : ((a.toNat : Nat) : Int) = a := by omega
  simp only [e] at h2
  exact h2
theorem mask15 (a : Int) (h : 0 ≤ a ∧ a < 32) : BitVec.ofInt 32 (a * 32768) &&& ~~~ BitVec.ofInt 32 33525632 = 0#32 := by
  have : ∀ n : Fin 32, BitVec.ofInt 32 (((n : Nat) : Int) * 32768) &&& ~~~ BitVec.ofInt 32 33525632 = 0#32 := by decide +kernel
  have h2 := this ⟨a.toNat, by omega⟩
  have e : ((a.toNat : Nat) : Int) = a := by omega
  simp only [e] at h2
  exact h2
theorem mask20 (a : Int) (h : 0 ≤ a ∧ a < 32) : BitVec.ofInt 32 (a * 1048576) &&& ~~~ BitVec.ofInt 32 33525632 = 0#32 := by
  have : ∀ n : Fin 32, BitVec.ofInt 32 (((n : Nat) : Int) * 1048576) &&& ~~~ BitVec.ofInt 32 33525632 = 0#32 := by decide +kernel
  have h2 := this ⟨a.toNat, by omega⟩
  have e : ((a.toNat : Nat) : Int) = a := by omega
  simp only [e] at h2
  exact h2
theorem w_masked (e : Ent) (he : RowOk e) (a b c : Int) (ha : 0 ≤ a ∧ a < 32) (hb : 0 ≤ b ∧ b < 32) (hc : 0 ≤ c ∧ c < 32) : bits .andNot .u32 (w_base e a b c) 33525632 = bits .andNot .u32 (e.op + e.f3 * 4096 + e.f7 * 33554432) 33525632 := by
  obtain ⟨ho, h3, h7, _⟩ := he
  unfold w_base
  generalize e.op = o at *
  generalize e.f3 = s3 at *
  generalize e.f7 = s7 at *
  have r3 := u32_or 7 5 (o + s3 * 4096 + s7 * 33554432) a (a * 128) rfl (by omega) (by omega) (by omega) (by omega) (by omega) (by omega)
  have r4 := u32_or 15 5 (o + s3 * 4096 + s7 * 33554432 + a * 128) b (b * 32768) rfl (by omega) (by omega) (by omega) (by omega) (by omega) (by omega)
  have r5 := u32_or 20 5 (o + s3 * 4096 + s7 * 33554432 + a * 128 + b * 32768) c (c * 1048576) rfl (by omega) (by omega) (by omega) (by omega) (by omega) (by omega)
  rw [andNot_field _ _ _ (mask20 c hc) (by omega) r5, andNot_field _ _ _ (mask15 b hb) (by omega) r4, andNot_field _ _ _ (mask7 a ha) (by omega) r3]
theorem w_field (e : Ent) (he : RowOk e) (a b c : Int) (ha : 0 ≤ a ∧ a < 32) (hb : 0 ≤ b ∧ b < 32) (hc : 0 ≤ c ∧ c < 32) : bits .and .u32 (w_base e a b c / 128) 31 = a ∧ bits .and .u32 (w_base e a b c / 32768) 31 = b ∧ bits .and .u32 (w_base e a b c / 1048576) 31 = c := by
  obtain ⟨ho, h3, h7, _⟩ := he
  unfold w_base
  refine ⟨?_, ?_, ?_⟩
  · rw [u32_andm 5 31 (by decide) (by decide) _ (by omega) (by omega)]; omega
  · rw [u32_andm 5 31 (by decide) (by decide) _ (by omega) (by omega)]; omega
  · rw [u32_andm 5 31 (by decide) (by decide) _ (by omega) (by omega)]; omega
end Go.Proofs.Ytkacoffiinggiaa.K
