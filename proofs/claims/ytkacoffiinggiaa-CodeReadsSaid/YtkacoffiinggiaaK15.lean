/- What Go functions of this seat answer: each has a Lean function ('.f') and a contract ('.calls'). Conditions: those of each theorem. Written by a program over the kit's printer; what is marked 'typed by hand' is this session's. -/
import Derived.Test.YtkacoffiinggiaaK0
import Derived.Test.YtkacoffiinggiaaK5
import Derived.Test.YtkacoffiinggiaaK6
import Derived.Test.YtkacoffiinggiaaK8
import Derived.Test.YtkacoffiinggiaaK9
import Derived.Test.YtkacoffiinggiaaK10
import Derived.Test.YtkacoffiinggiaaK11
import Derived.Test.YtkacoffiinggiaaK12
namespace Go.Proofs.Ytkacoffiinggiaa.K
open Go.RowKit Go.Proofs.YtkacoffiinggiaaW.PrintWords Go.Proofs.YtkacoffiinggiaaW.PrintLast Go.Proofs.YtkacoffiinggiaaW.PrintMore
attribute [local go_sem] max2_int min2_int max_two min_two max_three min_three max_four min_four   -- for this text's walks alone
set_option linter.unusedVariables false
set_option linter.unusedSimpArgs false

/-! ### hauberkref02_Decode: function 12 (typed by hand) -/
theorem w64 {n : Int} (h0 : -9223372036854775808 ≤ n) (h1 : n ≤ 9223372036854775807) : wrap64 n = n := by
 unfold wrap64
 omega
theorem encF_two {ok : Bool} {sf so s3 s7 lo hi rd rs1 rs2 imm : Int} (h : ok = false ∨ (lo > hi ∧ imm ≠ 0)) : encF ok sf so s3 s7 lo hi rd rs1 rs2 imm = (0, 2) := by
 unfold encF
 by_cases h1 : ok = false
 ·rw [if_pos h1]
 ·rw [if_neg h1, if_pos (h.resolve_left h1)]
theorem encF_one {ok : Bool} {sf so s3 s7 lo hi rd rs1 rs2 imm : Int} (h0 : ok = true) (h2 : lo > hi → imm = 0) (h : (rd < 0 ∨ rd > 31 ∨ rs1 < 0 ∨ rs1 > 31 ∨ rs2 < 0 ∨ rs2 > 31) ∨ en_far lo hi imm (en_odd sf imm) = true) : encF ok sf so s3 s7 lo hi rd rs1 rs2 imm = (0, 1) := by
 unfold encF
 rw [if_neg (by simp [h0]), if_neg (fun hh => hh.2 (h2 hh.1))]
 split
 ·rfl
 ·rename_i hn
  rw [if_pos (h.resolve_left hn)]
theorem en_ok_false {u0 u1 u2 : Bool} {a b c : Int} (h : (u0 = false ∧ a ≠ 0) ∨ (u1 = false ∧ b ≠ 0) ∨ (u2 = false ∧ c ≠ 0)) : en_ok true u0 u1 u2 a b c 3 = false := by
 rw [Bool.eq_false_iff]
 intro hh
 have := (en_ok_iff u0 u1 u2 a b c).1 hh
 rcases h with ⟨h1, h2⟩ | ⟨h1, h2⟩ | ⟨h1, h2⟩
 ·exact h2 (this.1 h1)
 ·exact h2 (this.2.1 h1)
 ·exact h2 (this.2.2 h1)
theorem en_far_yes {lo hi imm : Int} {odd : Bool} (h : lo ≤ hi) (h2 : imm < lo ∨ imm > hi ∨ odd = true) : en_far lo hi imm odd = true := by
 unfold en_far
 rw [decide_eq_true h]
 rcases h2 with h2 | h2 | h2
 ·rw [decide_eq_true h2]; rfl
 ·rw [decide_eq_true h2]; simp
 ·rw [h2]; simp
theorem en_odd_yes (f imm : Int) (h : f = 66 ∨ f = 74) (h2 : imm % 2 = 1) : en_odd f imm = true := by
 cases hc : en_odd f imm with
 | true => rfl
 | false => have := (en_odd_is f imm h).1 hc; omega
theorem bits_l1 (k : Nat) (x : Int) (hx0 : 0 ≤ x) : ∀ (m : Nat) (x8 x9 : Int), 0 < x8 → x8 * 2 ^ m ≤ 1073741824 → 0 ≤ x9 → x9 + m ≤ 100 → hauberkref02_bits.l1 (k + m + 1) x (x9 + m) x8 x9 = some (x % (x8 * 2 ^ m))
 | 0, x8, x9, h1, h2, h3, h4 => by
  rw [hauberkref02_bits.l1, if_neg (by omega), if_neg (by omega), Int.tmod_eq_emod_of_nonneg hx0]
  simp
 | m + 1, x8, x9, h1, h2, h3, h4 => by
  have hp : (1 : Int) ≤ 2 ^ m := by exact_mod_cast Nat.one_le_two_pow
  have e : x8 * 2 ^ (m + 1) = x8 * 2 * 2 ^ m := by rw [Int.pow_succ, Int.mul_comm (2 ^ m) 2, Int.mul_assoc]
  rw [e] at h2 ⊢
  have hb : x8 * 2 ≤ 1073741824 := by
   have : x8 * 2 * 1 ≤ x8 * 2 * 2 ^ m := Int.mul_le_mul_of_nonneg_left hp (by omega)
   omega
  rw [show k + (m + 1) + 1 = (k + m + 1) + 1 by omega, hauberkref02_bits.l1, if_pos (by omega), w64 (by omega) (by omega), w64 (by omega) (by omega)]
  have := bits_l1 k x hx0 m (x8 * 2) (x9 + 1) (by omega) h2 (by omega) (by omega)
  rw [show x9 + ((m + 1 : Nat) : Int) = x9 + 1 + (m : Int) by omega]
  exact this
theorem bits_l0 (k : Nat) (x2 : Int) : ∀ (m : Nat) (x x7 : Int), 0 ≤ x → x ≤ 4611686018427387904 → 0 ≤ x7 → x7 + m ≤ 100 → hauberkref02_bits.l0 (k + m + 1) x (x7 + m) x2 x7 = hauberkref02_bits.l1 k (x / 2 ^ m) x2 1 0
 | 0, x, x7, h1, h2, h3, h4 => by
  rw [hauberkref02_bits.l0, if_neg (by omega)]
  simp
 | m + 1, x, x7, h1, h2, h3, h4 => by
  rw [show k + (m + 1) + 1 = (k + m + 1) + 1 by omega, hauberkref02_bits.l0, if_pos (by omega), Int.tdiv_eq_ediv_of_nonneg h1, w64 (by omega) (by omega), w64 (by omega) (by omega)]
  have := bits_l0 k x2 m (x / 2) (x7 + 1) (by omega) (by omega) (by omega) (by omega)
  rw [show x7 + ((m + 1 : Nat) : Int) = x7 + 1 + (m : Int) by omega]
  rw [this]
  congr 1
  rw [Int.pow_succ, Int.mul_comm, Int.ediv_ediv_of_nonneg (by decide)]
/-- n of a number's bits, from one on. -/
theorem bits_f (k : Nat) (x : Int) (i n : Nat) (A B : Int) (hA : (2 : Int) ^ i = A) (hB : (2 : Int) ^ n = B) (hi : i ≤ 30) (hn : n ≤ 30) (h0 : -2097152 ≤ x) (h1 : x < 2097152) (h : 70 ≤ k) : hauberkref02_bits.f k x i n = some (x % 2097152 / A % B) := by
 subst hA hB
 have key : ∀ y : Int, 0 ≤ y → y < 4611686018427387904 → hauberkref02_bits.j0 k y i n = some (y / 2 ^ i % 2 ^ n) := fun y hy0 hy1 => by
  obtain ⟨k', rfl⟩ : ∃ k', k = ((k' + n + 1) + i + 1) + 1 := ⟨k - n - i - 3, by omega⟩
  have e1 := bits_l0 (k' + n + 1) n i y 0 hy0 (by omega) (by omega) (by omega)
  have h3 : (2 : Int) ^ n ≤ 2 ^ 30 := by exact_mod_cast Nat.pow_le_pow_right (n := 2) (by decide) hn
  have h4 : (2 : Int) ^ 30 = 1073741824 := by decide
  have e2 := bits_l1 k' (y / 2 ^ i) (Int.ediv_nonneg hy0 (by exact_mod_cast Nat.zero_le _)) n 1 0 (by omega) (by omega) (by omega) (by omega)
  rw [Int.zero_add] at e1 e2
  rw [Int.one_mul] at e2
  show hauberkref02_bits.l0 _ y i n 0 = _
  rw [e1, e2]
 unfold hauberkref02_bits.f
 split
 ·rw [w64 (by omega) (by omega), key _ (by omega) (by omega), show x % 2097152 = x + 2097152 by omega]
 ·rw [key _ (by omega) (by omega), show x % 2097152 = x by omega]

theorem e2_82 (o s3 s7 rd rs1 rs2 imm : Int) (h : imm ≠ 0) : encF (en_ok true true true true rd rs1 rs2 3) 82 o s3 s7 (1) (0) rd rs1 rs2 imm = (0, 2) := by
 refine encF_two ?_
 exact .inr (by omega)
theorem e1_82 (o s3 s7 rd rs1 rs2 imm : Int) (g : imm = 0) (h : rd < 0 ∨ rd > 31 ∨ rs1 < 0 ∨ rs1 > 31 ∨ rs2 < 0 ∨ rs2 > 31) : encF (en_ok true true true true rd rs1 rs2 3) 82 o s3 s7 (1) (0) rd rs1 rs2 imm = (0, 1) := by
 refine encF_one ((en_ok_iff _ _ _ _ _ _).2 ?_) (fun _ => by omega) ?_
 ·simp
 ·by_cases hr : rd < 0 ∨ rd > 31 ∨ rs1 < 0 ∨ rs1 > 31 ∨ rs2 < 0 ∨ rs2 > 31
  ·exact .inl hr
  ·omega
theorem e2_73 (o s3 s7 rd rs1 rs2 imm : Int) (h : rs2 ≠ 0) : encF (en_ok true true true false rd rs1 rs2 3) 73 o s3 s7 (-2048) (2047) rd rs1 rs2 imm = (0, 2) := by
 refine encF_two ?_
 by_cases hu : rs2 ≠ 0
 ·refine .inl (en_ok_false ?_)
  simp
  omega
 ·exact absurd h hu
theorem e1_73 (o s3 s7 rd rs1 rs2 imm : Int) (g : rs2 = 0) (h : rd < 0 ∨ rd > 31 ∨ rs1 < 0 ∨ rs1 > 31 ∨ rs2 < 0 ∨ rs2 > 31 ∨ imm < -2048 ∨ imm > 2047) : encF (en_ok true true true false rd rs1 rs2 3) 73 o s3 s7 (-2048) (2047) rd rs1 rs2 imm = (0, 1) := by
 refine encF_one ((en_ok_iff _ _ _ _ _ _).2 ?_) (fun _ => by omega) ?_
 ·simp
  omega
 ·by_cases hr : rd < 0 ∨ rd > 31 ∨ rs1 < 0 ∨ rs1 > 31 ∨ rs2 < 0 ∨ rs2 > 31
  ·exact .inl hr
  ·refine .inr (en_far_yes (by decide) ?_)
   rcases (by omega : imm < -2048 ∨ imm > 2047) with ho | ho
   ·exact .inl ho
   ·exact .inr (.inl ho)
theorem e2_84 (o s3 s7 rd rs1 rs2 imm : Int) (h : rs2 ≠ 0) : encF (en_ok true true true false rd rs1 rs2 3) 84 o s3 s7 (0) (63) rd rs1 rs2 imm = (0, 2) := by
 refine encF_two ?_
 by_cases hu : rs2 ≠ 0
 ·refine .inl (en_ok_false ?_)
  simp
  omega
 ·exact absurd h hu
theorem e1_84 (o s3 s7 rd rs1 rs2 imm : Int) (g : rs2 = 0) (h : rd < 0 ∨ rd > 31 ∨ rs1 < 0 ∨ rs1 > 31 ∨ rs2 < 0 ∨ rs2 > 31 ∨ imm < 0 ∨ imm > 63) : encF (en_ok true true true false rd rs1 rs2 3) 84 o s3 s7 (0) (63) rd rs1 rs2 imm = (0, 1) := by
 refine encF_one ((en_ok_iff _ _ _ _ _ _).2 ?_) (fun _ => by omega) ?_
 ·simp
  omega
 ·by_cases hr : rd < 0 ∨ rd > 31 ∨ rs1 < 0 ∨ rs1 > 31 ∨ rs2 < 0 ∨ rs2 > 31
  ·exact .inl hr
  ·refine .inr (en_far_yes (by decide) ?_)
   rcases (by omega : imm < 0 ∨ imm > 63) with ho | ho
   ·exact .inl ho
   ·exact .inr (.inl ho)
theorem e2_83 (o s3 s7 rd rs1 rs2 imm : Int) (h : rd ≠ 0) : encF (en_ok true false true true rd rs1 rs2 3) 83 o s3 s7 (-2048) (2047) rd rs1 rs2 imm = (0, 2) := by
 refine encF_two ?_
 by_cases hu : rd ≠ 0
 ·refine .inl (en_ok_false ?_)
  simp
  omega
 ·exact absurd h hu
theorem e1_83 (o s3 s7 rd rs1 rs2 imm : Int) (g : rd = 0) (h : rd < 0 ∨ rd > 31 ∨ rs1 < 0 ∨ rs1 > 31 ∨ rs2 < 0 ∨ rs2 > 31 ∨ imm < -2048 ∨ imm > 2047) : encF (en_ok true false true true rd rs1 rs2 3) 83 o s3 s7 (-2048) (2047) rd rs1 rs2 imm = (0, 1) := by
 refine encF_one ((en_ok_iff _ _ _ _ _ _).2 ?_) (fun _ => by omega) ?_
 ·simp
  omega
 ·by_cases hr : rd < 0 ∨ rd > 31 ∨ rs1 < 0 ∨ rs1 > 31 ∨ rs2 < 0 ∨ rs2 > 31
  ·exact .inl hr
  ·refine .inr (en_far_yes (by decide) ?_)
   rcases (by omega : imm < -2048 ∨ imm > 2047) with ho | ho
   ·exact .inl ho
   ·exact .inr (.inl ho)
theorem e2_66 (o s3 s7 rd rs1 rs2 imm : Int) (h : rd ≠ 0) : encF (en_ok true false true true rd rs1 rs2 3) 66 o s3 s7 (-4096) (4094) rd rs1 rs2 imm = (0, 2) := by
 refine encF_two ?_
 by_cases hu : rd ≠ 0
 ·refine .inl (en_ok_false ?_)
  simp
  omega
 ·exact absurd h hu
theorem e1_66 (o s3 s7 rd rs1 rs2 imm : Int) (g : rd = 0) (h : rd < 0 ∨ rd > 31 ∨ rs1 < 0 ∨ rs1 > 31 ∨ rs2 < 0 ∨ rs2 > 31 ∨ imm < -4096 ∨ imm > 4094 ∨ imm % 2 = 1) : encF (en_ok true false true true rd rs1 rs2 3) 66 o s3 s7 (-4096) (4094) rd rs1 rs2 imm = (0, 1) := by
 refine encF_one ((en_ok_iff _ _ _ _ _ _).2 ?_) (fun _ => by omega) ?_
 ·simp
  omega
 ·by_cases hr : rd < 0 ∨ rd > 31 ∨ rs1 < 0 ∨ rs1 > 31 ∨ rs2 < 0 ∨ rs2 > 31
  ·exact .inl hr
  ·refine .inr (en_far_yes (by decide) ?_)
   by_cases ho : imm < -4096 ∨ imm > 4094
   ·rcases ho with ho | ho
    ·exact .inl ho
    ·exact .inr (.inl ho)
   ·exact .inr (.inr (en_odd_yes _ _ (by decide) (by omega)))
theorem e2_85 (o s3 s7 rd rs1 rs2 imm : Int) (h : rs1 ≠ 0 ∨ rs2 ≠ 0) : encF (en_ok true true false false rd rs1 rs2 3) 85 o s3 s7 (-524288) (524287) rd rs1 rs2 imm = (0, 2) := by
 refine encF_two ?_
 by_cases hu : rs1 ≠ 0 ∨ rs2 ≠ 0
 ·refine .inl (en_ok_false ?_)
  simp
  omega
 ·exact absurd h hu
theorem e1_85 (o s3 s7 rd rs1 rs2 imm : Int) (g : rs1 = 0 ∧ rs2 = 0) (h : rd < 0 ∨ rd > 31 ∨ rs1 < 0 ∨ rs1 > 31 ∨ rs2 < 0 ∨ rs2 > 31 ∨ imm < -524288 ∨ imm > 524287) : encF (en_ok true true false false rd rs1 rs2 3) 85 o s3 s7 (-524288) (524287) rd rs1 rs2 imm = (0, 1) := by
 refine encF_one ((en_ok_iff _ _ _ _ _ _).2 ?_) (fun _ => by omega) ?_
 ·simp
  omega
 ·by_cases hr : rd < 0 ∨ rd > 31 ∨ rs1 < 0 ∨ rs1 > 31 ∨ rs2 < 0 ∨ rs2 > 31
  ·exact .inl hr
  ·refine .inr (en_far_yes (by decide) ?_)
   rcases (by omega : imm < -524288 ∨ imm > 524287) with ho | ho
   ·exact .inl ho
   ·exact .inr (.inl ho)
theorem e2_74 (o s3 s7 rd rs1 rs2 imm : Int) (h : rs1 ≠ 0 ∨ rs2 ≠ 0) : encF (en_ok true true false false rd rs1 rs2 3) 74 o s3 s7 (-1048576) (1048574) rd rs1 rs2 imm = (0, 2) := by
 refine encF_two ?_
 by_cases hu : rs1 ≠ 0 ∨ rs2 ≠ 0
 ·refine .inl (en_ok_false ?_)
  simp
  omega
 ·exact absurd h hu
theorem e1_74 (o s3 s7 rd rs1 rs2 imm : Int) (g : rs1 = 0 ∧ rs2 = 0) (h : rd < 0 ∨ rd > 31 ∨ rs1 < 0 ∨ rs1 > 31 ∨ rs2 < 0 ∨ rs2 > 31 ∨ imm < -1048576 ∨ imm > 1048574 ∨ imm % 2 = 1) : encF (en_ok true true false false rd rs1 rs2 3) 74 o s3 s7 (-1048576) (1048574) rd rs1 rs2 imm = (0, 1) := by
 refine encF_one ((en_ok_iff _ _ _ _ _ _).2 ?_) (fun _ => by omega) ?_
 ·simp
  omega
 ·by_cases hr : rd < 0 ∨ rd > 31 ∨ rs1 < 0 ∨ rs1 > 31 ∨ rs2 < 0 ∨ rs2 > 31
  ·exact .inl hr
  ·refine .inr (en_far_yes (by decide) ?_)
   by_cases ho : imm < -1048576 ∨ imm > 1048574
   ·rcases ho with ho | ho
    ·exact .inl ho
    ·exact .inr (.inl ho)
   ·exact .inr (.inr (en_odd_yes _ _ (by decide) (by omega)))
theorem e2_78 (o s3 s7 rd rs1 rs2 imm : Int) (h : rd ≠ 0 ∨ rs1 ≠ 0 ∨ rs2 ≠ 0 ∨ imm ≠ 0) : encF (en_ok true false false false rd rs1 rs2 3) 78 o s3 s7 (1) (0) rd rs1 rs2 imm = (0, 2) := by
 refine encF_two ?_
 by_cases hu : rd ≠ 0 ∨ rs1 ≠ 0 ∨ rs2 ≠ 0
 ·refine .inl (en_ok_false ?_)
  simp
  omega
 ·exact .inr (by omega)
theorem e1_78 (o s3 s7 rd rs1 rs2 imm : Int) (g : rd = 0 ∧ rs1 = 0 ∧ rs2 = 0 ∧ imm = 0) (h : rd < 0 ∨ rd > 31 ∨ rs1 < 0 ∨ rs1 > 31 ∨ rs2 < 0 ∨ rs2 > 31) : encF (en_ok true false false false rd rs1 rs2 3) 78 o s3 s7 (1) (0) rd rs1 rs2 imm = (0, 1) := by
 refine encF_one ((en_ok_iff _ _ _ _ _ _).2 ?_) (fun _ => by omega) ?_
 ·simp
  omega
 ·by_cases hr : rd < 0 ∨ rd > 31 ∨ rs1 < 0 ∨ rs1 > 31 ∨ rs2 < 0 ∨ rs2 > 31
  ·exact .inl hr
  ·omega
theorem wa_r (a b : Int) : wrap64 (a + wrap64 b) = wrap64 (a + b) := by unfold wrap64; omega
theorem wa_l (a b : Int) : wrap64 (wrap64 a + b) = wrap64 (a + b) := by unfold wrap64; omega
theorem tm2 (x : Int) : (Int.tmod x 2 != 0) = decide (x % 2 = 1) := by
 have h : Int.tmod x 2 = 0 ↔ x % 2 = 0 := by
  rw [← Int.dvd_iff_tmod_eq_zero, ← Int.dvd_iff_emod_eq_zero]
 by_cases h2 : x % 2 = 0
 ·rw [h.2 h2, decide_eq_false (by omega)]; rfl
 ·rw [decide_eq_true (by omega : x % 2 = 1)]
  simp only [bne_iff_ne, ne_eq]
  exact fun hh => h2 (h.1 hh)

theorem ref_j4_82 (m : Nat) (hm : 70 ≤ m) (o s3 s7 op rd rs1 rs2 imm : Int) (he : RowOk ⟨0, 82, o, s3, s7⟩) (hr : 0 ≤ rd ∧ rd < 32 ∧ 0 ≤ rs1 ∧ rs1 < 32 ∧ 0 ≤ rs2 ∧ rs2 < 32) (hi0 : imm = 0) : hauberkref02_Encode.j4 (m + 1) false op rd rs1 rs2 imm 82 o s3 s7 = some (encF (en_ok true true true true rd rs1 rs2 3) 82 o s3 s7 (1) (0) rd rs1 rs2 imm) := by
 obtain ⟨ho, h3, h7, hf⟩ := id he
 simp only at ho h3 h7 hf
 have hx : encF (en_ok true (cf_uses 82).1 (cf_uses 82).2.1 (cf_uses 82).2.2 rd rs1 rs2 3) 82 o s3 s7 (cf_room 82).1 (cf_room 82).2 rd rs1 rs2 imm = (w_base ⟨0, 82, o, s3, s7⟩ rd rs1 rs2, 0) := (enc_iff ⟨0, 82, o, s3, s7⟩ he rd rs1 rs2 imm _).2 ⟨hr, (.inl ⟨rfl, hi0, rfl⟩)⟩
 show _ = some (encF (en_ok true (cf_uses 82).1 (cf_uses 82).2.1 (cf_uses 82).2.2 rd rs1 rs2 3) 82 o s3 s7 (cf_room 82).1 (cf_room 82).2 rd rs1 rs2 imm)
 rw [hx]
 clear hx he
 unfold w_base
 simp only
 rw [hauberkref02_Encode.j4, if_neg (by decide)]
 rw [if_neg (by decide)]
 rw [if_neg (by decide)]
 rw [if_neg (by decide)]
 rw [if_neg (by decide)]
 rw [if_neg (by decide)]
 rw [if_neg (by decide)]
 refine congrArg some (Prod.ext ?_ rfl)
 show _ % 4294967296 = _
 simp only [wa_l, wa_r]
 rw [w64 (by omega) (by omega)]
 omega
set_option maxHeartbeats 2000000 in
theorem ref_82 (m : Nat) (hm : 70 ≤ m) (o s3 s7 op rd rs1 rs2 imm : Int) (he : RowOk ⟨0, 82, o, s3, s7⟩) : hauberkref02_Encode.j0 (m + 5) true true true op rd rs1 rs2 imm 82 o s3 s7 = some (encF (en_ok true true true true rd rs1 rs2 3) 82 o s3 s7 (1) (0) rd rs1 rs2 imm) := by
 have hroom : hauberkref02_Room.f (m + 4) 82 = some (1, 0) := by simp [hauberkref02_Room.f, hauberkref02_Room.j0]
 rw [hauberkref02_Encode.j0, hroom]
 simp only [Option.bind_some]
 rw [if_neg (by decide), if_neg (by decide)]
 have hj : ∀ a b c d e f g h i, hauberkref02_Encode.j4 (m + 1) true a b c d e f g h i = some (0, 1) := fun _ _ _ _ _ _ _ _ _ => by rw [hauberkref02_Encode.j4, if_pos rfl]
 rw [hauberkref02_Encode.j1]
 simp only [hauberkref02_Encode.j2, hauberkref02_Encode.j3, if_true, if_false, Bool.false_eq_true, decide_eq_true_eq, bne_iff_ne, gt_iff_lt, Int.reduceLT, Int.reduceLE, Int.reduceEq, Int.reduceNeg, hj]
 repeat' split
 all_goals first
 | exact (congrArg some (e2_82 o s3 s7 rd rs1 rs2 imm (by omega))).symm
 | exact (congrArg some (e1_82 o s3 s7 rd rs1 rs2 imm (by first | trivial | omega) (by omega))).symm
 | exact ref_j4_82 m hm o s3 s7 op rd rs1 rs2 imm he (by omega) (by omega)
theorem ref_j4_73 (m : Nat) (hm : 70 ≤ m) (o s3 s7 op rd rs1 rs2 imm : Int) (he : RowOk ⟨0, 73, o, s3, s7⟩) (hr : 0 ≤ rd ∧ rd < 32 ∧ 0 ≤ rs1 ∧ rs1 < 32 ∧ 0 ≤ rs2 ∧ rs2 < 32) (h_rs2 : rs2 = 0) (hi0 : -2048 ≤ imm) (hi1 : imm ≤ 2047) : hauberkref02_Encode.j4 (m + 1) false op rd rs1 rs2 imm 73 o s3 s7 = some (encF (en_ok true true true false rd rs1 rs2 3) 73 o s3 s7 (-2048) (2047) rd rs1 rs2 imm) := by
 obtain ⟨ho, h3, h7, hf⟩ := id he
 simp only at ho h3 h7 hf
 have hx : encF (en_ok true (cf_uses 73).1 (cf_uses 73).2.1 (cf_uses 73).2.2 rd rs1 rs2 3) 73 o s3 s7 (cf_room 73).1 (cf_room 73).2 rd rs1 rs2 imm = (w_base ⟨0, 73, o, s3, s7⟩ rd rs1 rs2 + imm % 4096 * 1048576, 0) := (enc_iff ⟨0, 73, o, s3, s7⟩ he rd rs1 rs2 imm _).2 ⟨hr, (.inr (.inl ⟨rfl, h_rs2, hi0, hi1, rfl⟩))⟩
 show _ = some (encF (en_ok true (cf_uses 73).1 (cf_uses 73).2.1 (cf_uses 73).2.2 rd rs1 rs2 3) 73 o s3 s7 (cf_room 73).1 (cf_room 73).2 rd rs1 rs2 imm)
 rw [hx]
 clear hx he
 unfold w_base
 simp only
 have hb0 := bits_f m imm 0 5 1 32 (by decide) (by decide) (by decide) (by decide) (by omega) (by omega) hm
 obtain ⟨p, hp⟩ : ∃ v, imm % 2097152 / 1 % 32 = v := ⟨_, rfl⟩
 have hp0 : 0 ≤ p ∧ p < 32 := by omega
 have hb1 := bits_f m imm 5 7 32 128 (by decide) (by decide) (by decide) (by decide) (by omega) (by omega) hm
 obtain ⟨q, hq⟩ : ∃ v, imm % 2097152 / 32 % 128 = v := ⟨_, rfl⟩
 have hq0 : 0 ≤ q ∧ q < 128 := by omega
 have hrel0 : imm % 4096 = p + 32 * q := by omega
 rw [hp] at hb0
 rw [hq] at hb1
 rw [hrel0]
 clear hp hq hrel0
 rw [hauberkref02_Encode.j4, if_neg (by decide)]
 rw [if_pos rfl]

 rw [show hauberkref02_bits.f m imm 0 5 = some p from hb0]
 simp only [Option.bind_some]
 rw [show hauberkref02_bits.f m imm 5 7 = some q from hb1]
 simp only [Option.bind_some]
 clear hb0 hb1
 refine congrArg some (Prod.ext ?_ rfl)
 show _ % 4294967296 = _
 simp only [wa_l, wa_r]
 rw [w64 (by omega) (by omega)]
 omega
set_option maxHeartbeats 2000000 in
theorem ref_73 (m : Nat) (hm : 70 ≤ m) (o s3 s7 op rd rs1 rs2 imm : Int) (he : RowOk ⟨0, 73, o, s3, s7⟩) : hauberkref02_Encode.j0 (m + 5) true true false op rd rs1 rs2 imm 73 o s3 s7 = some (encF (en_ok true true true false rd rs1 rs2 3) 73 o s3 s7 (-2048) (2047) rd rs1 rs2 imm) := by
 have hroom : hauberkref02_Room.f (m + 4) 73 = some (-2048, 2047) := by simp [hauberkref02_Room.f, hauberkref02_Room.j0]
 rw [hauberkref02_Encode.j0, hroom]
 simp only [Option.bind_some]
 rw [if_neg (by decide), if_neg (by decide)]
 have hj : ∀ a b c d e f g h i, hauberkref02_Encode.j4 (m + 1) true a b c d e f g h i = some (0, 1) := fun _ _ _ _ _ _ _ _ _ => by rw [hauberkref02_Encode.j4, if_pos rfl]
 rw [hauberkref02_Encode.j1]
 simp only [hauberkref02_Encode.j2, hauberkref02_Encode.j3, if_true, if_false, Bool.false_eq_true, decide_eq_true_eq, bne_iff_ne, gt_iff_lt, Int.reduceLT, Int.reduceLE, Int.reduceEq, Int.reduceNeg, hj]
 repeat' split
 all_goals first
 | exact (congrArg some (e2_73 o s3 s7 rd rs1 rs2 imm (by omega))).symm
 | exact (congrArg some (e1_73 o s3 s7 rd rs1 rs2 imm (by first | trivial | omega) (by omega))).symm
 | exact ref_j4_73 m hm o s3 s7 op rd rs1 rs2 imm he (by omega) (by omega) (by omega) (by omega)
theorem ref_j4_84 (m : Nat) (hm : 70 ≤ m) (o s3 s7 op rd rs1 rs2 imm : Int) (he : RowOk ⟨0, 84, o, s3, s7⟩) (hr : 0 ≤ rd ∧ rd < 32 ∧ 0 ≤ rs1 ∧ rs1 < 32 ∧ 0 ≤ rs2 ∧ rs2 < 32) (h_rs2 : rs2 = 0) (hi0 : 0 ≤ imm) (hi1 : imm ≤ 63) : hauberkref02_Encode.j4 (m + 1) false op rd rs1 rs2 imm 84 o s3 s7 = some (encF (en_ok true true true false rd rs1 rs2 3) 84 o s3 s7 (0) (63) rd rs1 rs2 imm) := by
 obtain ⟨ho, h3, h7, hf⟩ := id he
 simp only at ho h3 h7 hf
 have hx : encF (en_ok true (cf_uses 84).1 (cf_uses 84).2.1 (cf_uses 84).2.2 rd rs1 rs2 3) 84 o s3 s7 (cf_room 84).1 (cf_room 84).2 rd rs1 rs2 imm = (w_base ⟨0, 84, o, s3, s7⟩ rd rs1 rs2 + imm * 1048576, 0) := (enc_iff ⟨0, 84, o, s3, s7⟩ he rd rs1 rs2 imm _).2 ⟨hr, (.inr (.inr (.inl ⟨rfl, h_rs2, hi0, hi1, rfl⟩)))⟩
 show _ = some (encF (en_ok true (cf_uses 84).1 (cf_uses 84).2.1 (cf_uses 84).2.2 rd rs1 rs2 3) 84 o s3 s7 (cf_room 84).1 (cf_room 84).2 rd rs1 rs2 imm)
 rw [hx]
 clear hx he
 unfold w_base
 simp only
 rw [hauberkref02_Encode.j4, if_neg (by decide)]
 rw [if_neg (by decide)]
 rw [if_pos rfl]
 refine congrArg some (Prod.ext ?_ rfl)
 show _ % 4294967296 = _
 rw [Int.tmod_eq_emod_of_nonneg hi0, Int.tdiv_eq_ediv_of_nonneg hi0]
 have hw1 : wrap64 (s7 + wrap64 (imm / 32)) = s7 + imm / 32 := by rw [wa_r, w64 (by omega) (by omega)]
 rw [hw1]
 simp only [wa_l, wa_r]
 rw [w64 (by omega) (by omega)]
 omega
set_option maxHeartbeats 2000000 in
theorem ref_84 (m : Nat) (hm : 70 ≤ m) (o s3 s7 op rd rs1 rs2 imm : Int) (he : RowOk ⟨0, 84, o, s3, s7⟩) : hauberkref02_Encode.j0 (m + 5) true true false op rd rs1 rs2 imm 84 o s3 s7 = some (encF (en_ok true true true false rd rs1 rs2 3) 84 o s3 s7 (0) (63) rd rs1 rs2 imm) := by
 have hroom : hauberkref02_Room.f (m + 4) 84 = some (0, 63) := by simp [hauberkref02_Room.f, hauberkref02_Room.j0]
 rw [hauberkref02_Encode.j0, hroom]
 simp only [Option.bind_some]
 rw [if_neg (by decide), if_neg (by decide)]
 have hj : ∀ a b c d e f g h i, hauberkref02_Encode.j4 (m + 1) true a b c d e f g h i = some (0, 1) := fun _ _ _ _ _ _ _ _ _ => by rw [hauberkref02_Encode.j4, if_pos rfl]
 rw [hauberkref02_Encode.j1]
 simp only [hauberkref02_Encode.j2, hauberkref02_Encode.j3, if_true, if_false, Bool.false_eq_true, decide_eq_true_eq, bne_iff_ne, gt_iff_lt, Int.reduceLT, Int.reduceLE, Int.reduceEq, Int.reduceNeg, hj]
 repeat' split
 all_goals first
 | exact (congrArg some (e2_84 o s3 s7 rd rs1 rs2 imm (by omega))).symm
 | exact (congrArg some (e1_84 o s3 s7 rd rs1 rs2 imm (by first | trivial | omega) (by omega))).symm
 | exact ref_j4_84 m hm o s3 s7 op rd rs1 rs2 imm he (by omega) (by omega) (by omega) (by omega)
theorem ref_j4_83 (m : Nat) (hm : 70 ≤ m) (o s3 s7 op rd rs1 rs2 imm : Int) (he : RowOk ⟨0, 83, o, s3, s7⟩) (hr : 0 ≤ rd ∧ rd < 32 ∧ 0 ≤ rs1 ∧ rs1 < 32 ∧ 0 ≤ rs2 ∧ rs2 < 32) (h_rd : rd = 0) (hi0 : -2048 ≤ imm) (hi1 : imm ≤ 2047) : hauberkref02_Encode.j4 (m + 1) false op rd rs1 rs2 imm 83 o s3 s7 = some (encF (en_ok true false true true rd rs1 rs2 3) 83 o s3 s7 (-2048) (2047) rd rs1 rs2 imm) := by
 obtain ⟨ho, h3, h7, hf⟩ := id he
 simp only at ho h3 h7 hf
 have hx : encF (en_ok true (cf_uses 83).1 (cf_uses 83).2.1 (cf_uses 83).2.2 rd rs1 rs2 3) 83 o s3 s7 (cf_room 83).1 (cf_room 83).2 rd rs1 rs2 imm = (w_base ⟨0, 83, o, s3, s7⟩ rd rs1 rs2 + imm % 32 * 128 + imm % 4096 / 32 * 33554432, 0) := (enc_iff ⟨0, 83, o, s3, s7⟩ he rd rs1 rs2 imm _).2 ⟨hr, (.inr (.inr (.inr (.inl ⟨rfl, h_rd, hi0, hi1, rfl⟩))))⟩
 show _ = some (encF (en_ok true (cf_uses 83).1 (cf_uses 83).2.1 (cf_uses 83).2.2 rd rs1 rs2 3) 83 o s3 s7 (cf_room 83).1 (cf_room 83).2 rd rs1 rs2 imm)
 rw [hx]
 clear hx he
 unfold w_base
 simp only
 have hb0 := bits_f m imm 0 5 1 32 (by decide) (by decide) (by decide) (by decide) (by omega) (by omega) hm
 obtain ⟨p, hp⟩ : ∃ v, imm % 2097152 / 1 % 32 = v := ⟨_, rfl⟩
 have hp0 : 0 ≤ p ∧ p < 32 := by omega
 have hb1 := bits_f m imm 5 7 32 128 (by decide) (by decide) (by decide) (by decide) (by omega) (by omega) hm
 obtain ⟨q, hq⟩ : ∃ v, imm % 2097152 / 32 % 128 = v := ⟨_, rfl⟩
 have hq0 : 0 ≤ q ∧ q < 128 := by omega
 have hrel0 : imm % 32 = p := by omega
 have hrel1 : imm % 4096 / 32 = q := by omega
 rw [hp] at hb0
 rw [hq] at hb1
 rw [hrel0, hrel1]
 clear hp hq hrel0 hrel1
 rw [hauberkref02_Encode.j4, if_neg (by decide)]
 rw [if_neg (by decide)]
 rw [if_neg (by decide)]
 rw [if_pos rfl]

 rw [show hauberkref02_bits.f m imm 0 5 = some p from hb0]
 simp only [Option.bind_some]
 rw [show hauberkref02_bits.f m imm 5 7 = some q from hb1]
 simp only [Option.bind_some]
 clear hb0 hb1
 refine congrArg some (Prod.ext ?_ rfl)
 show _ % 4294967296 = _
 simp only [wa_l, wa_r]
 rw [w64 (by omega) (by omega)]
 omega
set_option maxHeartbeats 2000000 in
theorem ref_83 (m : Nat) (hm : 70 ≤ m) (o s3 s7 op rd rs1 rs2 imm : Int) (he : RowOk ⟨0, 83, o, s3, s7⟩) : hauberkref02_Encode.j0 (m + 5) false true true op rd rs1 rs2 imm 83 o s3 s7 = some (encF (en_ok true false true true rd rs1 rs2 3) 83 o s3 s7 (-2048) (2047) rd rs1 rs2 imm) := by
 have hroom : hauberkref02_Room.f (m + 4) 83 = some (-2048, 2047) := by simp [hauberkref02_Room.f, hauberkref02_Room.j0]
 rw [hauberkref02_Encode.j0, hroom]
 simp only [Option.bind_some]
 rw [if_neg (by decide), if_neg (by decide)]
 have hj : ∀ a b c d e f g h i, hauberkref02_Encode.j4 (m + 1) true a b c d e f g h i = some (0, 1) := fun _ _ _ _ _ _ _ _ _ => by rw [hauberkref02_Encode.j4, if_pos rfl]
 rw [hauberkref02_Encode.j1]
 simp only [hauberkref02_Encode.j2, hauberkref02_Encode.j3, if_true, if_false, Bool.false_eq_true, decide_eq_true_eq, bne_iff_ne, gt_iff_lt, Int.reduceLT, Int.reduceLE, Int.reduceEq, Int.reduceNeg, hj]
 repeat' split
 all_goals first
 | exact (congrArg some (e2_83 o s3 s7 rd rs1 rs2 imm (by omega))).symm
 | exact (congrArg some (e1_83 o s3 s7 rd rs1 rs2 imm (by first | trivial | omega) (by omega))).symm
 | exact ref_j4_83 m hm o s3 s7 op rd rs1 rs2 imm he (by omega) (by omega) (by omega) (by omega)
theorem ref_j4_66 (m : Nat) (hm : 70 ≤ m) (o s3 s7 op rd rs1 rs2 imm : Int) (he : RowOk ⟨0, 66, o, s3, s7⟩) (hr : 0 ≤ rd ∧ rd < 32 ∧ 0 ≤ rs1 ∧ rs1 < 32 ∧ 0 ≤ rs2 ∧ rs2 < 32) (h_rd : rd = 0) (hi0 : -4096 ≤ imm) (hi1 : imm ≤ 4094) (hi2 : imm % 2 = 0) : hauberkref02_Encode.j4 (m + 1) false op rd rs1 rs2 imm 66 o s3 s7 = some (encF (en_ok true false true true rd rs1 rs2 3) 66 o s3 s7 (-4096) (4094) rd rs1 rs2 imm) := by
 obtain ⟨ho, h3, h7, hf⟩ := id he
 simp only at ho h3 h7 hf
 have hx : encF (en_ok true (cf_uses 66).1 (cf_uses 66).2.1 (cf_uses 66).2.2 rd rs1 rs2 3) 66 o s3 s7 (cf_room 66).1 (cf_room 66).2 rd rs1 rs2 imm = (w_base ⟨0, 66, o, s3, s7⟩ rd rs1 rs2 + imm % 4096 / 2048 * 128 + imm % 32 / 2 * 256 + imm % 2048 / 32 * 33554432 + imm % 8192 / 4096 * 2147483648, 0) := (enc_iff ⟨0, 66, o, s3, s7⟩ he rd rs1 rs2 imm _).2 ⟨hr, (.inr (.inr (.inr (.inr (.inl ⟨rfl, h_rd, hi0, hi1, hi2, rfl⟩)))))⟩
 show _ = some (encF (en_ok true (cf_uses 66).1 (cf_uses 66).2.1 (cf_uses 66).2.2 rd rs1 rs2 3) 66 o s3 s7 (cf_room 66).1 (cf_room 66).2 rd rs1 rs2 imm)
 rw [hx]
 clear hx he
 unfold w_base
 simp only
 have hb0 := bits_f m imm 11 1 2048 2 (by decide) (by decide) (by decide) (by decide) (by omega) (by omega) hm
 obtain ⟨p, hp⟩ : ∃ v, imm % 2097152 / 2048 % 2 = v := ⟨_, rfl⟩
 have hp0 : 0 ≤ p ∧ p < 2 := by omega
 have hb1 := bits_f m imm 1 4 2 16 (by decide) (by decide) (by decide) (by decide) (by omega) (by omega) hm
 obtain ⟨q, hq⟩ : ∃ v, imm % 2097152 / 2 % 16 = v := ⟨_, rfl⟩
 have hq0 : 0 ≤ q ∧ q < 16 := by omega
 have hb2 := bits_f m imm 5 6 32 64 (by decide) (by decide) (by decide) (by decide) (by omega) (by omega) hm
 obtain ⟨s, hs⟩ : ∃ v, imm % 2097152 / 32 % 64 = v := ⟨_, rfl⟩
 have hs0 : 0 ≤ s ∧ s < 64 := by omega
 have hb3 := bits_f m imm 12 1 4096 2 (by decide) (by decide) (by decide) (by decide) (by omega) (by omega) hm
 obtain ⟨t, ht⟩ : ∃ v, imm % 2097152 / 4096 % 2 = v := ⟨_, rfl⟩
 have ht0 : 0 ≤ t ∧ t < 2 := by omega
 have hrel0 : imm % 4096 / 2048 = p := by omega
 have hrel1 : imm % 32 / 2 = q := by omega
 have hrel2 : imm % 2048 / 32 = s := by omega
 have hrel3 : imm % 8192 / 4096 = t := by omega
 rw [hp] at hb0
 rw [hq] at hb1
 rw [hs] at hb2
 rw [ht] at hb3
 rw [hrel0, hrel1, hrel2, hrel3]
 clear hp hq hs ht hrel0 hrel1 hrel2 hrel3
 rw [hauberkref02_Encode.j4, if_neg (by decide)]
 rw [if_neg (by decide)]
 rw [if_neg (by decide)]
 rw [if_neg (by decide)]
 rw [if_pos rfl]

 rw [show hauberkref02_bits.f m imm 11 1 = some p from hb0]
 simp only [Option.bind_some]
 rw [show hauberkref02_bits.f m imm 1 4 = some q from hb1]
 simp only [Option.bind_some]
 rw [show hauberkref02_bits.f m imm 5 6 = some s from hb2]
 simp only [Option.bind_some]
 rw [show hauberkref02_bits.f m imm 12 1 = some t from hb3]
 simp only [Option.bind_some]
 clear hb0 hb1 hb2 hb3
 refine congrArg some (Prod.ext ?_ rfl)
 show _ % 4294967296 = _
 have hw1 : wrap64 (p + wrap64 (2 * q)) = p + 2 * q := by rw [wa_r, w64 (by omega) (by omega)]
 have hw2 : wrap64 (s + wrap64 (64 * t)) = s + 64 * t := by rw [wa_r, w64 (by omega) (by omega)]
 rw [hw1, hw2]
 simp only [wa_l, wa_r]
 rw [w64 (by omega) (by omega)]
 omega
set_option maxHeartbeats 2000000 in
theorem ref_66 (m : Nat) (hm : 70 ≤ m) (o s3 s7 op rd rs1 rs2 imm : Int) (he : RowOk ⟨0, 66, o, s3, s7⟩) : hauberkref02_Encode.j0 (m + 5) false true true op rd rs1 rs2 imm 66 o s3 s7 = some (encF (en_ok true false true true rd rs1 rs2 3) 66 o s3 s7 (-4096) (4094) rd rs1 rs2 imm) := by
 have hroom : hauberkref02_Room.f (m + 4) 66 = some (-4096, 4094) := by simp [hauberkref02_Room.f, hauberkref02_Room.j0]
 rw [hauberkref02_Encode.j0, hroom]
 simp only [Option.bind_some]
 rw [if_neg (by decide), if_neg (by decide)]
 have hj : ∀ a b c d e f g h i, hauberkref02_Encode.j4 (m + 1) true a b c d e f g h i = some (0, 1) := fun _ _ _ _ _ _ _ _ _ => by rw [hauberkref02_Encode.j4, if_pos rfl]
 rw [hauberkref02_Encode.j1]
 by_cases hodd : imm % 2 = 1
 ·have htm : (Int.tmod imm 2 != 0) = true := by rw [tm2]; exact decide_eq_true hodd
  simp only [hauberkref02_Encode.j2, hauberkref02_Encode.j3, if_true, if_false, Bool.false_eq_true, decide_eq_true_eq, bne_iff_ne, gt_iff_lt, Int.reduceLT, Int.reduceLE, Int.reduceEq, Int.reduceNeg, hj, htm]
  repeat' split
  all_goals first
  | exact (congrArg some (e2_66 o s3 s7 rd rs1 rs2 imm (by omega))).symm
  | exact (congrArg some (e1_66 o s3 s7 rd rs1 rs2 imm (by first | trivial | omega) (by omega))).symm
  | exact ref_j4_66 m hm o s3 s7 op rd rs1 rs2 imm he (by omega) (by omega) (by omega) (by omega) (by omega)
 ·have htm : (Int.tmod imm 2 != 0) = false := by rw [tm2]; exact decide_eq_false hodd
  simp only [hauberkref02_Encode.j2, hauberkref02_Encode.j3, if_true, if_false, Bool.false_eq_true, decide_eq_true_eq, bne_iff_ne, gt_iff_lt, Int.reduceLT, Int.reduceLE, Int.reduceEq, Int.reduceNeg, hj, htm]
  repeat' split
  all_goals first
  | exact (congrArg some (e2_66 o s3 s7 rd rs1 rs2 imm (by omega))).symm
  | exact (congrArg some (e1_66 o s3 s7 rd rs1 rs2 imm (by first | trivial | omega) (by omega))).symm
  | exact ref_j4_66 m hm o s3 s7 op rd rs1 rs2 imm he (by omega) (by omega) (by omega) (by omega) (by omega)
theorem ref_j4_85 (m : Nat) (hm : 70 ≤ m) (o s3 s7 op rd rs1 rs2 imm : Int) (he : RowOk ⟨0, 85, o, s3, s7⟩) (hr : 0 ≤ rd ∧ rd < 32 ∧ 0 ≤ rs1 ∧ rs1 < 32 ∧ 0 ≤ rs2 ∧ rs2 < 32) (h_rs1 : rs1 = 0) (h_rs2 : rs2 = 0) (hi0 : -524288 ≤ imm) (hi1 : imm ≤ 524287) : hauberkref02_Encode.j4 (m + 1) false op rd rs1 rs2 imm 85 o s3 s7 = some (encF (en_ok true true false false rd rs1 rs2 3) 85 o s3 s7 (-524288) (524287) rd rs1 rs2 imm) := by
 obtain ⟨ho, h3, h7, hf⟩ := id he
 simp only at ho h3 h7 hf
 have hx : encF (en_ok true (cf_uses 85).1 (cf_uses 85).2.1 (cf_uses 85).2.2 rd rs1 rs2 3) 85 o s3 s7 (cf_room 85).1 (cf_room 85).2 rd rs1 rs2 imm = (w_base ⟨0, 85, o, s3, s7⟩ rd rs1 rs2 + imm % 1048576 * 4096, 0) := (enc_iff ⟨0, 85, o, s3, s7⟩ he rd rs1 rs2 imm _).2 ⟨hr, (.inr (.inr (.inr (.inr (.inr (.inl ⟨rfl, h_rs1, h_rs2, hi0, hi1, rfl⟩))))))⟩
 show _ = some (encF (en_ok true (cf_uses 85).1 (cf_uses 85).2.1 (cf_uses 85).2.2 rd rs1 rs2 3) 85 o s3 s7 (cf_room 85).1 (cf_room 85).2 rd rs1 rs2 imm)
 rw [hx]
 clear hx he
 unfold w_base
 simp only
 have hb0 := bits_f m imm 0 20 1 1048576 (by decide) (by decide) (by decide) (by decide) (by omega) (by omega) hm
 obtain ⟨p, hp⟩ : ∃ v, imm % 2097152 / 1 % 1048576 = v := ⟨_, rfl⟩
 have hp0 : 0 ≤ p ∧ p < 1048576 := by omega
 have hrel0 : imm % 1048576 = p := by omega
 rw [hp] at hb0
 rw [hrel0]
 clear hp hrel0
 rw [hauberkref02_Encode.j4, if_neg (by decide)]
 rw [if_neg (by decide)]
 rw [if_neg (by decide)]
 rw [if_neg (by decide)]
 rw [if_neg (by decide)]
 rw [if_pos rfl]

 rw [show hauberkref02_bits.f m imm 0 20 = some p from hb0]
 simp only [Option.bind_some]
 clear hb0
 refine congrArg some (Prod.ext ?_ rfl)
 show _ % 4294967296 = _
 simp only [wa_l, wa_r]
 rw [w64 (by omega) (by omega)]
 omega
set_option maxHeartbeats 2000000 in
theorem ref_85 (m : Nat) (hm : 70 ≤ m) (o s3 s7 op rd rs1 rs2 imm : Int) (he : RowOk ⟨0, 85, o, s3, s7⟩) : hauberkref02_Encode.j0 (m + 5) true false false op rd rs1 rs2 imm 85 o s3 s7 = some (encF (en_ok true true false false rd rs1 rs2 3) 85 o s3 s7 (-524288) (524287) rd rs1 rs2 imm) := by
 have hroom : hauberkref02_Room.f (m + 4) 85 = some (-524288, 524287) := by simp [hauberkref02_Room.f, hauberkref02_Room.j0]
 rw [hauberkref02_Encode.j0, hroom]
 simp only [Option.bind_some]
 rw [if_neg (by decide), if_neg (by decide)]
 have hj : ∀ a b c d e f g h i, hauberkref02_Encode.j4 (m + 1) true a b c d e f g h i = some (0, 1) := fun _ _ _ _ _ _ _ _ _ => by rw [hauberkref02_Encode.j4, if_pos rfl]
 rw [hauberkref02_Encode.j1]
 simp only [hauberkref02_Encode.j2, hauberkref02_Encode.j3, if_true, if_false, Bool.false_eq_true, decide_eq_true_eq, bne_iff_ne, gt_iff_lt, Int.reduceLT, Int.reduceLE, Int.reduceEq, Int.reduceNeg, hj]
 repeat' split
 all_goals first
 | exact (congrArg some (e2_85 o s3 s7 rd rs1 rs2 imm (by omega))).symm
 | exact (congrArg some (e1_85 o s3 s7 rd rs1 rs2 imm (by first | trivial | omega) (by omega))).symm
 | exact ref_j4_85 m hm o s3 s7 op rd rs1 rs2 imm he (by omega) (by omega) (by omega) (by omega) (by omega)
theorem ref_j4_74 (m : Nat) (hm : 70 ≤ m) (o s3 s7 op rd rs1 rs2 imm : Int) (he : RowOk ⟨0, 74, o, s3, s7⟩) (hr : 0 ≤ rd ∧ rd < 32 ∧ 0 ≤ rs1 ∧ rs1 < 32 ∧ 0 ≤ rs2 ∧ rs2 < 32) (h_rs1 : rs1 = 0) (h_rs2 : rs2 = 0) (hi0 : -1048576 ≤ imm) (hi1 : imm ≤ 1048574) (hi2 : imm % 2 = 0) : hauberkref02_Encode.j4 (m + 1) false op rd rs1 rs2 imm 74 o s3 s7 = some (encF (en_ok true true false false rd rs1 rs2 3) 74 o s3 s7 (-1048576) (1048574) rd rs1 rs2 imm) := by
 obtain ⟨ho, h3, h7, hf⟩ := id he
 simp only at ho h3 h7 hf
 have hx : encF (en_ok true (cf_uses 74).1 (cf_uses 74).2.1 (cf_uses 74).2.2 rd rs1 rs2 3) 74 o s3 s7 (cf_room 74).1 (cf_room 74).2 rd rs1 rs2 imm = (w_base ⟨0, 74, o, s3, s7⟩ rd rs1 rs2 + imm % 1048576 / 4096 * 4096 + imm % 4096 / 2048 * 1048576 + imm % 2048 / 2 * 2097152 + imm % 2097152 / 1048576 * 2147483648, 0) := (enc_iff ⟨0, 74, o, s3, s7⟩ he rd rs1 rs2 imm _).2 ⟨hr, (.inr (.inr (.inr (.inr (.inr (.inr (.inl ⟨rfl, h_rs1, h_rs2, hi0, hi1, hi2, rfl⟩)))))))⟩
 show _ = some (encF (en_ok true (cf_uses 74).1 (cf_uses 74).2.1 (cf_uses 74).2.2 rd rs1 rs2 3) 74 o s3 s7 (cf_room 74).1 (cf_room 74).2 rd rs1 rs2 imm)
 rw [hx]
 clear hx he
 unfold w_base
 simp only
 have hb0 := bits_f m imm 12 8 4096 256 (by decide) (by decide) (by decide) (by decide) (by omega) (by omega) hm
 obtain ⟨p, hp⟩ : ∃ v, imm % 2097152 / 4096 % 256 = v := ⟨_, rfl⟩
 have hp0 : 0 ≤ p ∧ p < 256 := by omega
 have hb1 := bits_f m imm 11 1 2048 2 (by decide) (by decide) (by decide) (by decide) (by omega) (by omega) hm
 obtain ⟨q, hq⟩ : ∃ v, imm % 2097152 / 2048 % 2 = v := ⟨_, rfl⟩
 have hq0 : 0 ≤ q ∧ q < 2 := by omega
 have hb2 := bits_f m imm 1 10 2 1024 (by decide) (by decide) (by decide) (by decide) (by omega) (by omega) hm
 obtain ⟨s, hs⟩ : ∃ v, imm % 2097152 / 2 % 1024 = v := ⟨_, rfl⟩
 have hs0 : 0 ≤ s ∧ s < 1024 := by omega
 have hb3 := bits_f m imm 20 1 1048576 2 (by decide) (by decide) (by decide) (by decide) (by omega) (by omega) hm
 obtain ⟨t, ht⟩ : ∃ v, imm % 2097152 / 1048576 % 2 = v := ⟨_, rfl⟩
 have ht0 : 0 ≤ t ∧ t < 2 := by omega
 have hrel0 : imm % 1048576 / 4096 = p := by omega
 have hrel1 : imm % 4096 / 2048 = q := by omega
 have hrel2 : imm % 2048 / 2 = s := by omega
 have hrel3 : imm % 2097152 / 1048576 = t := by omega
 rw [hp] at hb0
 rw [hq] at hb1
 rw [hs] at hb2
 rw [ht] at hb3
 rw [hrel0, hrel1, hrel2, hrel3]
 clear hp hq hs ht hrel0 hrel1 hrel2 hrel3
 rw [hauberkref02_Encode.j4, if_neg (by decide)]
 rw [if_neg (by decide)]
 rw [if_neg (by decide)]
 rw [if_neg (by decide)]
 rw [if_neg (by decide)]
 rw [if_neg (by decide)]
 rw [if_pos rfl]

 rw [show hauberkref02_bits.f m imm 12 8 = some p from hb0]
 simp only [Option.bind_some]
 rw [show hauberkref02_bits.f m imm 11 1 = some q from hb1]
 simp only [Option.bind_some]
 rw [show hauberkref02_bits.f m imm 1 10 = some s from hb2]
 simp only [Option.bind_some]
 rw [show hauberkref02_bits.f m imm 20 1 = some t from hb3]
 simp only [Option.bind_some]
 clear hb0 hb1 hb2 hb3
 refine congrArg some (Prod.ext ?_ rfl)
 show _ % 4294967296 = _
 simp only [wa_l, wa_r]
 rw [w64 (by omega) (by omega)]
 omega
set_option maxHeartbeats 2000000 in
theorem ref_74 (m : Nat) (hm : 70 ≤ m) (o s3 s7 op rd rs1 rs2 imm : Int) (he : RowOk ⟨0, 74, o, s3, s7⟩) : hauberkref02_Encode.j0 (m + 5) true false false op rd rs1 rs2 imm 74 o s3 s7 = some (encF (en_ok true true false false rd rs1 rs2 3) 74 o s3 s7 (-1048576) (1048574) rd rs1 rs2 imm) := by
 have hroom : hauberkref02_Room.f (m + 4) 74 = some (-1048576, 1048574) := by simp [hauberkref02_Room.f, hauberkref02_Room.j0]
 rw [hauberkref02_Encode.j0, hroom]
 simp only [Option.bind_some]
 rw [if_neg (by decide), if_neg (by decide)]
 have hj : ∀ a b c d e f g h i, hauberkref02_Encode.j4 (m + 1) true a b c d e f g h i = some (0, 1) := fun _ _ _ _ _ _ _ _ _ => by rw [hauberkref02_Encode.j4, if_pos rfl]
 rw [hauberkref02_Encode.j1]
 by_cases hodd : imm % 2 = 1
 ·have htm : (Int.tmod imm 2 != 0) = true := by rw [tm2]; exact decide_eq_true hodd
  simp only [hauberkref02_Encode.j2, hauberkref02_Encode.j3, if_true, if_false, Bool.false_eq_true, decide_eq_true_eq, bne_iff_ne, gt_iff_lt, Int.reduceLT, Int.reduceLE, Int.reduceEq, Int.reduceNeg, hj, htm]
  repeat' split
  all_goals first
  | exact (congrArg some (e2_74 o s3 s7 rd rs1 rs2 imm (by omega))).symm
  | exact (congrArg some (e1_74 o s3 s7 rd rs1 rs2 imm (by first | trivial | omega) (by omega))).symm
  | exact ref_j4_74 m hm o s3 s7 op rd rs1 rs2 imm he (by omega) (by omega) (by omega) (by omega) (by omega) (by omega)
 ·have htm : (Int.tmod imm 2 != 0) = false := by rw [tm2]; exact decide_eq_false hodd
  simp only [hauberkref02_Encode.j2, hauberkref02_Encode.j3, if_true, if_false, Bool.false_eq_true, decide_eq_true_eq, bne_iff_ne, gt_iff_lt, Int.reduceLT, Int.reduceLE, Int.reduceEq, Int.reduceNeg, hj, htm]
  repeat' split
  all_goals first
  | exact (congrArg some (e2_74 o s3 s7 rd rs1 rs2 imm (by omega))).symm
  | exact (congrArg some (e1_74 o s3 s7 rd rs1 rs2 imm (by first | trivial | omega) (by omega))).symm
  | exact ref_j4_74 m hm o s3 s7 op rd rs1 rs2 imm he (by omega) (by omega) (by omega) (by omega) (by omega) (by omega)
theorem ref_j4_78 (m : Nat) (hm : 70 ≤ m) (o s3 s7 op rd rs1 rs2 imm : Int) (he : RowOk ⟨0, 78, o, s3, s7⟩) (hr : 0 ≤ rd ∧ rd < 32 ∧ 0 ≤ rs1 ∧ rs1 < 32 ∧ 0 ≤ rs2 ∧ rs2 < 32) (h_rd : rd = 0) (h_rs1 : rs1 = 0) (h_rs2 : rs2 = 0) (hi0 : imm = 0) : hauberkref02_Encode.j4 (m + 1) false op rd rs1 rs2 imm 78 o s3 s7 = some (encF (en_ok true false false false rd rs1 rs2 3) 78 o s3 s7 (1) (0) rd rs1 rs2 imm) := by
 obtain ⟨ho, h3, h7, hf⟩ := id he
 simp only at ho h3 h7 hf
 have hx : encF (en_ok true (cf_uses 78).1 (cf_uses 78).2.1 (cf_uses 78).2.2 rd rs1 rs2 3) 78 o s3 s7 (cf_room 78).1 (cf_room 78).2 rd rs1 rs2 imm = (w_base ⟨0, 78, o, s3, s7⟩ rd rs1 rs2, 0) := (enc_iff ⟨0, 78, o, s3, s7⟩ he rd rs1 rs2 imm _).2 ⟨hr, (.inr (.inr (.inr (.inr (.inr (.inr (.inr ⟨rfl, h_rd, h_rs1, h_rs2, hi0, rfl⟩)))))))⟩
 show _ = some (encF (en_ok true (cf_uses 78).1 (cf_uses 78).2.1 (cf_uses 78).2.2 rd rs1 rs2 3) 78 o s3 s7 (cf_room 78).1 (cf_room 78).2 rd rs1 rs2 imm)
 rw [hx]
 clear hx he
 unfold w_base
 simp only
 rw [hauberkref02_Encode.j4, if_neg (by decide)]
 rw [if_neg (by decide)]
 rw [if_neg (by decide)]
 rw [if_neg (by decide)]
 rw [if_neg (by decide)]
 rw [if_neg (by decide)]
 rw [if_neg (by decide)]
 refine congrArg some (Prod.ext ?_ rfl)
 show _ % 4294967296 = _
 simp only [wa_l, wa_r]
 rw [w64 (by omega) (by omega)]
 omega
set_option maxHeartbeats 2000000 in
theorem ref_78 (m : Nat) (hm : 70 ≤ m) (o s3 s7 op rd rs1 rs2 imm : Int) (he : RowOk ⟨0, 78, o, s3, s7⟩) : hauberkref02_Encode.j0 (m + 5) true true false op rd rs1 rs2 imm 78 o s3 s7 = some (encF (en_ok true false false false rd rs1 rs2 3) 78 o s3 s7 (1) (0) rd rs1 rs2 imm) := by
 have hroom : hauberkref02_Room.f (m + 4) 78 = some (1, 0) := by simp [hauberkref02_Room.f, hauberkref02_Room.j0]
 rw [hauberkref02_Encode.j0, hroom]
 simp only [Option.bind_some]
 rw [if_neg (by decide), if_pos trivial]
 have hj : ∀ a b c d e f g h i, hauberkref02_Encode.j4 (m + 1) true a b c d e f g h i = some (0, 1) := fun _ _ _ _ _ _ _ _ _ => by rw [hauberkref02_Encode.j4, if_pos rfl]
 rw [hauberkref02_Encode.j1]
 simp only [hauberkref02_Encode.j2, hauberkref02_Encode.j3, if_true, if_false, Bool.false_eq_true, decide_eq_true_eq, bne_iff_ne, gt_iff_lt, Int.reduceLT, Int.reduceLE, Int.reduceEq, Int.reduceNeg, hj]
 repeat' split
 all_goals first
 | exact (congrArg some (e2_78 o s3 s7 rd rs1 rs2 imm (by omega))).symm
 | exact (congrArg some (e1_78 o s3 s7 rd rs1 rs2 imm (by first | trivial | omega) (by omega))).symm
 | exact ref_j4_78 m hm o s3 s7 op rd rs1 rs2 imm he (by omega) (by omega) (by omega) (by omega) (by omega)
theorem ref_0 (m : Nat) (u0 u1 u2 : Bool) (o s3 s7 op rd rs1 rs2 imm : Int) : hauberkref02_Encode.j0 (m + 5) u0 u1 u2 op rd rs1 rs2 imm 0 o s3 s7 = some (0, 2) := by
 have hroom : hauberkref02_Room.f (m + 4) 0 = some (1, 0) := by simp [hauberkref02_Room.f, hauberkref02_Room.j0]
 rw [hauberkref02_Encode.j0, hroom]
 simp only [Option.bind_some]
 rw [if_pos trivial]
/-- The document's word of any instruction is the code's. -/
theorem ref_enc (op rd rs1 rs2 imm : Int) : hauberkref02_Encode.f 100 op rd rs1 rs2 imm = some (enc_r op rd rs1 rs2 imm) := by
 unfold hauberkref02_Encode.f hauberkref02_Of.f enc_r
 cases hh : cm_has op with
 | false =>
  have he : cm_ent op = ⟨op, 0, 0, 0, 0⟩ := by
   unfold cm_has at hh
   unfold cm_ent
   cases hf : cm_e13.find? (fun e => decide (op = e.n)) with
   | none => rfl
   | some e => rw [hf] at hh; cases hh
  rw [he]
  simp only [Option.bind_some]
  rw [encF_two (.inl (rfl : en_ok false (cf_uses 0).fst (cf_uses 0).snd.fst (cf_uses 0).snd.snd rd rs1 rs2 3 = false))]
  simp only [Int.reduceEq, if_false]
  exact ref_0 95 _ _ _ _ _ _ _ _ _ _ _
 | true =>
  have hr := rows_ok _ (has_mem hh).1
  rcases hc : cm_ent op with ⟨n, f, o, s3, s7⟩
  rw [hc] at hr
  have hr0 : RowOk ⟨0, f, o, s3, s7⟩ := hr
  clear hr hc
  simp only [Option.bind_some]
  have hf := hr0.2.2.2
  simp only at hf
  have hF8 : f = 82 ∨ f = 84 ∨ f = 73 ∨ f = 83 ∨ f = 66 ∨ f = 78 ∨ f = 85 ∨ f = 74 := by omega
  clear hf
  rcases hF8 with rfl | rfl | rfl | rfl | rfl | rfl | rfl | rfl
  ·exact ref_82 95 (by decide) o s3 s7 op rd rs1 rs2 imm hr0
  ·exact ref_84 95 (by decide) o s3 s7 op rd rs1 rs2 imm hr0
  ·exact ref_73 95 (by decide) o s3 s7 op rd rs1 rs2 imm hr0
  ·exact ref_83 95 (by decide) o s3 s7 op rd rs1 rs2 imm hr0
  ·exact ref_66 95 (by decide) o s3 s7 op rd rs1 rs2 imm hr0
  ·exact ref_78 95 (by decide) o s3 s7 op rd rs1 rs2 imm hr0
  ·exact ref_85 95 (by decide) o s3 s7 op rd rs1 rs2 imm hr0
  ·exact ref_74 95 (by decide) o s3 s7 op rd rs1 rs2 imm hr0
theorem sg_4096 (v : Int) (h0 : 0 ≤ v) (h1 : v < 4096) (w : World) : Calls Try.prog 21 #[.int .i64 v, .int .i64 4096] w fun e w' => e = .returned (.int .i64 (sgn 4096 v)) ∧ w' = w := by
 by_cases h : v ≥ 2048
 ·have e : sgn 4096 v = v - 4096 := by unfold sgn; rw [if_pos (by omega)]
  rw [e]
  go_enter Try.func21, Try.ntmps21
  go_wp2
  go_ret
  exact ⟨by first | rfl | (simp; omega), rfl⟩
 ·have e : sgn 4096 v = v := by unfold sgn; rw [if_neg (by omega)]
  rw [e]
  go_enter Try.func21, Try.ntmps21
  go_wp2
  go_ret
  exact ⟨by first | rfl | (simp; omega), rfl⟩
theorem sg_8192 (v : Int) (h0 : 0 ≤ v) (h1 : v < 8192) (w : World) : Calls Try.prog 21 #[.int .i64 v, .int .i64 8192] w fun e w' => e = .returned (.int .i64 (sgn 8192 v)) ∧ w' = w := by
 by_cases h : v ≥ 4096
 ·have e : sgn 8192 v = v - 8192 := by unfold sgn; rw [if_pos (by omega)]
  rw [e]
  go_enter Try.func21, Try.ntmps21
  go_wp2
  go_ret
  exact ⟨by first | rfl | (simp; omega), rfl⟩
 ·have e : sgn 8192 v = v := by unfold sgn; rw [if_neg (by omega)]
  rw [e]
  go_enter Try.func21, Try.ntmps21
  go_wp2
  go_ret
  exact ⟨by first | rfl | (simp; omega), rfl⟩
theorem sg_1048576 (v : Int) (h0 : 0 ≤ v) (h1 : v < 1048576) (w : World) : Calls Try.prog 21 #[.int .i64 v, .int .i64 1048576] w fun e w' => e = .returned (.int .i64 (sgn 1048576 v)) ∧ w' = w := by
 by_cases h : v ≥ 524288
 ·have e : sgn 1048576 v = v - 1048576 := by unfold sgn; rw [if_pos (by omega)]
  rw [e]
  go_enter Try.func21, Try.ntmps21
  go_wp2
  go_ret
  exact ⟨by first | rfl | (simp; omega), rfl⟩
 ·have e : sgn 1048576 v = v := by unfold sgn; rw [if_neg (by omega)]
  rw [e]
  go_enter Try.func21, Try.ntmps21
  go_wp2
  go_ret
  exact ⟨by first | rfl | (simp; omega), rfl⟩
theorem sg_2097152 (v : Int) (h0 : 0 ≤ v) (h1 : v < 2097152) (w : World) : Calls Try.prog 21 #[.int .i64 v, .int .i64 2097152] w fun e w' => e = .returned (.int .i64 (sgn 2097152 v)) ∧ w' = w := by
 by_cases h : v ≥ 1048576
 ·have e : sgn 2097152 v = v - 2097152 := by unfold sgn; rw [if_pos (by omega)]
  rw [e]
  go_enter Try.func21, Try.ntmps21
  go_wp2
  go_ret
  exact ⟨by first | rfl | (simp; omega), rfl⟩
 ·have e : sgn 2097152 v = v := by unfold sgn; rw [if_neg (by omega)]
  rw [e]
  go_enter Try.func21, Try.ntmps21
  go_wp2
  go_ret
  exact ⟨by first | rfl | (simp; omega), rfl⟩
theorem rd_res (tmps : Array Value) (w : World) (g : Nat) (cs : Array Value) (fr : Nat × Nat) (hp : tmps.getD 2 undef = .pointer (some ⟨g, 0, none⟩)) (hg : w.heap[g]? = some (.cells cs 29 fr)) (hi : cs.size = 5) :
  (results Try.f12 tmps).run Try.prog w = .ok (.tuple #[.agg cs, tmps.getD 3 undef]) w := by
 rw [results_cell_tmp (p := 2) (u := 3) (ty := 29) rfl]
 have hs : (Try.prog.info? 29).map (·.size) = some cs.size := by rw [hi]; kernel_rfl
 rw [hp]
 simp [asAddr, run_loadVar_row w g 29 29 cs fr _ hg Try.underlying29 rfl hs, Result.andThen]
theorem rd_has (k : Nat) (h : 1 ≤ k) (h2 : k ≤ 55) : cm_has k = true := by
 have : ∀ n : Fin 56, 1 ≤ n.val → cm_has (n.val : Int) = true := by decide +kernel
 exact this ⟨k, by omega⟩ h
theorem rd_all : ∀ r ∈ cm_e13, 1 ≤ r.n ∧ r.n ≤ 55 := by
 have : (cm_e13.all (fun e => decide (1 ≤ e.n ∧ e.n ≤ 55))) = true := by decide +kernel
 exact fun r hr => of_decide_eq_true (List.all_eq_true.mp this r hr)
theorem rd_no {k : Nat} {x : Int} {f o s3 s7 : Int} (hr : (⟨k, f, o, s3, s7⟩ : Ent) ∈ cm_e13) (h : ∀ r ∈ cm_e13, r.n < (k : Int) → ¬ Hit r x) (hn : ¬ Hit ⟨k, f, o, s3, s7⟩ x) : ∀ r ∈ cm_e13, r.n < ((k + 1 : Nat) : Int) → ¬ Hit r x := fun r hrr hlt => by
 rcases (by omega : r.n < (k : Int) ∨ r.n = k) with h1 | h1
 ·exact h r hrr h1
 ·have : r = ⟨k, f, o, s3, s7⟩ := by rw [← (rows_ent r hrr).2, ← (rows_ent _ hr).2, h1]
  rw [this]
  exact hn

set_option maxHeartbeats 8000000 in
set_option maxRecDepth 100000 in
theorem refdec_calls (x : Int) (hx0 : 0 ≤ x) (hx1 : x < 4294967296) (w : World) : Calls Try.prog 12 #[.int .u32 x] w fun e w' => ((∃ r ∈ cm_e13, Hit r x ∧ e = .returned (.tuple #[.agg #[.int .i64 r.n, .int .i64 (Dec r.form x).1, .int .i64 (Dec r.form x).2.1, .int .i64 (Dec r.form x).2.2.1, .int .i64 (Dec r.form x).2.2.2], .bool true])) ∨ ((∀ r ∈ cm_e13, ¬ Hit r x) ∧ e = .returned (.tuple #[.agg #[.int .i64 0, .int .i64 0, .int .i64 0, .int .i64 0, .int .i64 0], .bool false]))) ∧ Below w.heap.size w w' := by
 have HB := Aside0.mk (Below.refl w.heap.size w)
 have hu29 := Try.underlying29
 have hu62 := Try.underlying62
 go_enter Try.func12, Try.ntmps12
 go_wp2_with (first | ((with_reducible refine gate_dst (N := 2) rfl ?_); (try (refine gate_guard (by rfl) ?_; dsimp only)); refine box_event ?hg (N := 2) ?hd (cs := #[.int .i64 0, .int .i64 0, .int .i64 0, .int .i64 0, .int .i64 0]) (t := 29) ?hr ?_; (case hd => rfl); (case hg => rfl); (case hr => first | (go_simp; done) | (go_simp; rfl)); intro g2 hg w1 hbox hb; have n0_ := Aside0.mk (below_step (by repeat (first | (with_reducible first | exact HB.out | apply below_alloc | apply pw_below_drewN | apply below_drew1) | exact HB.out)) hb); have n1_ := Aside0.mk hbox; have n2_ := Aside0.mk ((by rw [hg]; exact (below_size (by repeat (first | (with_reducible first | exact HB.out | apply below_alloc | apply pw_below_drewN | apply below_drew1) | exact HB.out)))) : w.heap.size ≤ g2); clear HB; have HB := n0_; have BK2 := n1_; have GE2 := n2_; clear n0_ n1_ n2_; clear hb hbox hg; have hc2_0 : w1.cell? ⟨g2, 0, none⟩ = some (.int .i64 0) := (blk_cell BK2.out 0).trans rfl; have hc2_1 : w1.cell? ⟨g2, 1, none⟩ = some (.int .i64 0) := (blk_cell BK2.out 1).trans rfl; have hc2_2 : w1.cell? ⟨g2, 2, none⟩ = some (.int .i64 0) := (blk_cell BK2.out 2).trans rfl; have hc2_3 : w1.cell? ⟨g2, 3, none⟩ = some (.int .i64 0) := (blk_cell BK2.out 3).trans rfl; have hc2_4 : w1.cell? ⟨g2, 4, none⟩ = some (.int .i64 0) := (blk_cell BK2.out 4).trans rfl; have hf2_0 := blk_frozen BK2.out 0; have hf2_1 := blk_frozen BK2.out 1; have hf2_2 := blk_frozen BK2.out 2; have hf2_3 := blk_frozen BK2.out 3; have hf2_4 := blk_frozen BK2.out 4))
 clear hc2_0 hc2_1 hc2_2 hc2_3 hc2_4 hf2_0 hf2_1 hf2_2 hf2_3 hf2_4
 go_loopg [8] 55 (fun gg v8 w' => ∃ k : Nat, 1 ≤ k ∧ k ≤ 56 ∧ 56 - k ≤ gg ∧ v8 = .int .i64 k ∧ Aside0 (w'.heap[g2]? = some (.cells #[.int .i64 0, .int .i64 0, .int .i64 0, .int .i64 0, .int .i64 0] 29 (0, 0))) ∧ Aside0 (Below w.heap.size w w') ∧ Aside0 (∀ r ∈ cm_e13, r.n < (k : Int) → ¬ Hit r x))
 case atStart => exact ⟨1, by omega, by omega, by omega, rfl, BK2, HB, ⟨fun r hr h => absurd h (by have := rd_all r hr; omega)⟩⟩
 case round =>
  clear BK2 HB
  obtain ⟨k, hk1, hk2, hg, rfl, BK2, HB, HNO⟩ := hrel
  by_cases hlt : k ≤ 55
  ·have hltz : (k : Int) ≤ 55 := by omega
   have hmem := has_mem (rd_has k hk1 hlt)
   rcases hent : cm_ent (k : Int) with ⟨n, f, o, s3, s7⟩
   rw [hent] at hmem
   obtain ⟨hrow, hn⟩ := hmem
   simp only at hn
   subst hn
   have HROW := Aside0.mk hrow
   have hF := (rows_ok _ hrow).2.2.2
   simp only at hF
   have hF8 : f = 82 ∨ f = 84 ∨ f = 73 ∨ f = 83 ∨ f = 66 ∨ f = 78 ∨ f = 85 ∨ f = 74 := by omega
   clear hF hrow
   rcases hF8 with rfl | rfl | rfl | rfl | rfl | rfl | rfl | rfl
   ·as_aux_lemma =>
     obtain ⟨imm, himm⟩ : ∃ v : Int, 0 = v := ⟨_, rfl⟩
     have HD := Aside0.mk (by rw [← himm]; rfl : Dec 82 x = (x / 128 % 32, x / 32768 % 32, x / 1048576 % 32, imm))
     have HOF := Aside0.mk (by rw [hauberkref02_Of.f, hent] : hauberkref02_Of.f (k : Int) = some (82, o, s3, s7))
     have HIMM := Aside0.mk himm
     clear himm hent
     go_upto_region 6 with (fail)
     go_cut [9] (fun v9 wc => ∃ g9, v9 = .pointer (some ⟨g9, 0, none⟩) ∧ Aside0 (wc.heap[g9]? = some (.cells #[.int .u8 82, .int .i64 o, .int .i64 s3, .int .i64 s7] 62 (0, 0))) ∧ Aside0 (wc.heap[g2]? = some (.cells #[.int .i64 0, .int .i64 0, .int .i64 0, .int .i64 0, .int .i64 0] 29 (0, 0))) ∧ Aside0 (Below w.heap.size w wc))
     case first =>
      go_wp2_with (first | (go_at_call 18; (with_reducible refine (hauberkref02_Of.calls (k : Int) 82 o s3 s7 _ HOF.out).mono ?_); rintro e w5 ⟨rfl, hb⟩; have n0_ := Aside0.mk (blk_below (by (with_reducible repeat (first | refine blk_drewN ?_ _ | refine blk_drew ?_ | refine blk_alloc ?_ _)); exact BK2.out) hb); have n1_ := Aside0.mk (below_step (by repeat (first | (with_reducible first | exact HB.out | apply below_alloc | apply pw_below_drewN | apply below_drew1 | refine below_set ?_ GE2.out) | exact HB.out)) hb); clear BK2; clear HB; have BK2 := n0_; have HB := n1_; clear n0_ n1_; clear hb))
      go_meet
      case rel => exact ⟨_, rfl, ⟨heap_alloc_new _ _⟩, ⟨blk_al BK2.out _⟩, ⟨HB.out.alloc HB.out.size _⟩⟩
     case rest =>
      clear BK2 HB
      obtain ⟨g9, rfl, BK9, BK2, HB⟩ := hcut
      go_upto_region 7 with (fail)
      go_cut [10] (fun v10 wc => ∃ g6, v10 = .pointer (some ⟨g6, 0, none⟩) ∧ Aside0 (wc.heap[g6]? = some (.cells #[.int .i64 (k : Int), .int .i64 (x / 128 % 32), .int .i64 (x / 32768 % 32), .int .i64 0, .int .i64 0] 29 (0, 0))) ∧ Aside0 (wc.heap[g9]? = some (.cells #[.int .u8 82, .int .i64 o, .int .i64 s3, .int .i64 s7] 62 (0, 0))) ∧ Aside0 (g2 ≠ g6) ∧ Aside0 (w.heap.size ≤ g6) ∧ Aside0 (wc.heap[g2]? = some (.cells #[.int .i64 0, .int .i64 0, .int .i64 0, .int .i64 0, .int .i64 0] 29 (0, 0))) ∧ Aside0 (Below w.heap.size w wc))
      case first =>
       go_wp2
       go_meet
       case rel => exact ⟨_, rfl, ⟨heap_alloc_new _ _⟩, ⟨blk_al BK9.out _⟩, ⟨Nat.ne_of_lt (blk_lt BK2.out)⟩, ⟨HB.out.size⟩, ⟨blk_al BK2.out _⟩, ⟨HB.out.alloc HB.out.size _⟩⟩
      case rest =>
       clear BK9 BK2 HB
       obtain ⟨g6, rfl, BK6, BK9, NB2_6, GE6, BK2, HB⟩ := hcut
       have hc9_0 : wc.cell? ⟨g9, 0, none⟩ = some (.int .u8 82) := (blk_cell BK9.out 0).trans rfl
       have hc9_1 : wc.cell? ⟨g9, 1, none⟩ = some (.int .i64 o) := (blk_cell BK9.out 1).trans rfl
       have hc9_2 : wc.cell? ⟨g9, 2, none⟩ = some (.int .i64 s3) := (blk_cell BK9.out 2).trans rfl
       have hc9_3 : wc.cell? ⟨g9, 3, none⟩ = some (.int .i64 s7) := (blk_cell BK9.out 3).trans rfl
       have hf9_0 := blk_frozen BK9.out 0
       have hf9_1 := blk_frozen BK9.out 1
       have hf9_2 := blk_frozen BK9.out 2
       have hf9_3 := blk_frozen BK9.out 3
       have hc6_0 : wc.cell? ⟨g6, 0, none⟩ = some (.int .i64 (k : Int)) := (blk_cell BK6.out 0).trans rfl
       have hc6_1 : wc.cell? ⟨g6, 1, none⟩ = some (.int .i64 (x / 128 % 32)) := (blk_cell BK6.out 1).trans rfl
       have hc6_2 : wc.cell? ⟨g6, 2, none⟩ = some (.int .i64 (x / 32768 % 32)) := (blk_cell BK6.out 2).trans rfl
       have hc6_3 : wc.cell? ⟨g6, 3, none⟩ = some (.int .i64 0) := (blk_cell BK6.out 3).trans rfl
       have hc6_4 : wc.cell? ⟨g6, 4, none⟩ = some (.int .i64 0) := (blk_cell BK6.out 4).trans rfl
       have hf6_0 := blk_frozen BK6.out 0
       have hf6_1 := blk_frozen BK6.out 1
       have hf6_2 := blk_frozen BK6.out 2
       have hf6_3 := blk_frozen BK6.out 3
       have hf6_4 := blk_frozen BK6.out 4
       go_upto_block 2 with (fail)
       go_cut [] (fun wc => Aside0 (wc.heap[g6]? = some (.cells #[.int .i64 (k : Int), .int .i64 (x / 128 % 32), .int .i64 (x / 32768 % 32), .int .i64 (x / 1048576 % 32), .int .i64 (imm)] 29 (0, 0))) ∧ Aside0 (wc.heap[g2]? = some (.cells #[.int .i64 0, .int .i64 0, .int .i64 0, .int .i64 0, .int .i64 0] 29 (0, 0))) ∧ Aside0 (Below w.heap.size w wc))
       case first =>
        have himm := HIMM.out
        go_wp2
        go_meet
        case rel => exact ⟨⟨by rw [show imm = 0 from HIMM.out.symm]; exact blk_put (cs := #[.int .i64 (k : Int), .int .i64 (x / 128 % 32), .int .i64 (x / 32768 % 32), .int .i64 0, .int .i64 0]) (BK6.out) 3 _ rfl⟩, ⟨by rw [Below.heap_setCell _ _ _ _ NB2_6.out]; exact BK2.out⟩, ⟨(HB.out.setCell GE6.out _)⟩⟩
       case rest =>
        clear BK6 BK9 BK2 HB hc9_0 hc9_1 hc9_2 hc9_3 hf9_0 hf9_1 hf9_2 hf9_3 hc6_0 hc6_1 hc6_2 hc6_3 hc6_4 hf6_0 hf6_1 hf6_2 hf6_3 hf6_4
        obtain ⟨BK6, BK2, HB⟩ := hcut
        have hc6_0 : wc.cell? ⟨g6, 0, none⟩ = some (.int .i64 (k : Int)) := (blk_cell BK6.out 0).trans rfl
        have hc6_1 : wc.cell? ⟨g6, 1, none⟩ = some (.int .i64 (x / 128 % 32)) := (blk_cell BK6.out 1).trans rfl
        have hc6_2 : wc.cell? ⟨g6, 2, none⟩ = some (.int .i64 (x / 32768 % 32)) := (blk_cell BK6.out 2).trans rfl
        have hc6_3 : wc.cell? ⟨g6, 3, none⟩ = some (.int .i64 (x / 1048576 % 32)) := (blk_cell BK6.out 3).trans rfl
        have hc6_4 : wc.cell? ⟨g6, 4, none⟩ = some (.int .i64 (imm)) := (blk_cell BK6.out 4).trans rfl
        have hf6_0 := blk_frozen BK6.out 0
        have hf6_1 := blk_frozen BK6.out 1
        have hf6_2 := blk_frozen BK6.out 2
        have hf6_3 := blk_frozen BK6.out 3
        have hf6_4 := blk_frozen BK6.out 4
        obtain ⟨⟨r0, r1⟩, hen⟩ : ∃ r, enc_r (k : Int) (x / 128 % 32) (x / 32768 % 32) (x / 1048576 % 32) (imm) = r := ⟨_, rfl⟩
        have HEN := Aside0.mk ((ref_enc (k : Int) (x / 128 % 32) (x / 32768 % 32) (x / 1048576 % 32) (imm)).trans (congrArg some hen))
        have HHIT := Aside0.mk (dec_hit ⟨k, 82, o, s3, s7⟩ x HD.out (congrArg some hen))
        clear hen
        by_cases hr1 : r1 = 0
        ·by_cases hr0 : r0 = x
         ·have HH := Aside0.mk (HHIT.out.2 ⟨hr0, hr1⟩)
          go_wp2_with (first | (go_at_call 10; (with_reducible refine (hauberkref02_Encode.calls 100 (k : Int) (x / 128 % 32) (x / 32768 % 32) (x / 1048576 % 32) (imm) r0 r1 _ HEN.out).mono ?_); rintro e w6 ⟨rfl, hb⟩; have n0_ := Aside0.mk (blk_below (by (with_reducible repeat (first | refine blk_drewN ?_ _ | refine blk_drew ?_ | refine blk_alloc ?_ _)); exact BK6.out) hb); have n1_ := Aside0.mk (blk_below (by (with_reducible repeat (first | refine blk_drewN ?_ _ | refine blk_drew ?_ | refine blk_alloc ?_ _)); exact BK2.out) hb); have n2_ := Aside0.mk (below_step (by repeat (first | (with_reducible first | exact HB.out | apply below_alloc | apply pw_below_drewN | apply below_drew1 | refine below_set ?_ GE6.out) | exact HB.out)) hb); clear BK6; clear BK2; clear HB; have BK6 := n0_; have BK2 := n1_; have HB := n2_; clear n0_ n1_ n2_; clear hb; have hc6_0 : w6.cell? ⟨g6, 0, none⟩ = some (.int .i64 (k : Int)) := (blk_cell BK6.out 0).trans rfl; have hc6_1 : w6.cell? ⟨g6, 1, none⟩ = some (.int .i64 (x / 128 % 32)) := (blk_cell BK6.out 1).trans rfl; have hc6_2 : w6.cell? ⟨g6, 2, none⟩ = some (.int .i64 (x / 32768 % 32)) := (blk_cell BK6.out 2).trans rfl; have hc6_3 : w6.cell? ⟨g6, 3, none⟩ = some (.int .i64 (x / 1048576 % 32)) := (blk_cell BK6.out 3).trans rfl; have hc6_4 : w6.cell? ⟨g6, 4, none⟩ = some (.int .i64 (imm)) := (blk_cell BK6.out 4).trans rfl; have hf6_0 := blk_frozen BK6.out 0; have hf6_1 := blk_frozen BK6.out 1; have hf6_2 := blk_frozen BK6.out 2; have hf6_3 := blk_frozen BK6.out 3; have hf6_4 := blk_frozen BK6.out 4; have hc2_0 : w6.cell? ⟨g2, 0, none⟩ = some (.int .i64 0) := (blk_cell BK2.out 0).trans rfl; have hc2_1 : w6.cell? ⟨g2, 1, none⟩ = some (.int .i64 0) := (blk_cell BK2.out 1).trans rfl; have hc2_2 : w6.cell? ⟨g2, 2, none⟩ = some (.int .i64 0) := (blk_cell BK2.out 2).trans rfl; have hc2_3 : w6.cell? ⟨g2, 3, none⟩ = some (.int .i64 0) := (blk_cell BK2.out 3).trans rfl; have hc2_4 : w6.cell? ⟨g2, 4, none⟩ = some (.int .i64 0) := (blk_cell BK2.out 4).trans rfl; have hf2_0 := blk_frozen BK2.out 0; have hf2_1 := blk_frozen BK2.out 1; have hf2_2 := blk_frozen BK2.out 2; have hf2_3 := blk_frozen BK2.out 3; have hf2_4 := blk_frozen BK2.out 4))
          refine bodyPost_ret (rd_res _ _ g2 _ (0, 0) rfl (dec_put5 BK2.out _ _ _ _ _) rfl) rfl ?_
          exact ⟨.inl ⟨⟨k, 82, o, s3, s7⟩, HROW.out, HH.out, by simp only [HD.out]; rfl⟩, ((((HB.out.setCell GE2.out _).setCell GE2.out _).setCell GE2.out _).setCell GE2.out _).setCell GE2.out _⟩
         ·have HNH := Aside0.mk (fun h => by have hh := HHIT.out.1 h; exact hr0 hh.1 : ¬ Hit ⟨k, 82, o, s3, s7⟩ x)
          go_wp2_with (first | (go_at_call 10; (with_reducible refine (hauberkref02_Encode.calls 100 (k : Int) (x / 128 % 32) (x / 32768 % 32) (x / 1048576 % 32) (imm) r0 r1 _ HEN.out).mono ?_); rintro e w6 ⟨rfl, hb⟩; have n0_ := Aside0.mk (blk_below (by (with_reducible repeat (first | refine blk_drewN ?_ _ | refine blk_drew ?_ | refine blk_alloc ?_ _)); exact BK6.out) hb); have n1_ := Aside0.mk (blk_below (by (with_reducible repeat (first | refine blk_drewN ?_ _ | refine blk_drew ?_ | refine blk_alloc ?_ _)); exact BK2.out) hb); have n2_ := Aside0.mk (below_step (by repeat (first | (with_reducible first | exact HB.out | apply below_alloc | apply pw_below_drewN | apply below_drew1 | refine below_set ?_ GE6.out) | exact HB.out)) hb); clear BK6; clear BK2; clear HB; have BK6 := n0_; have BK2 := n1_; have HB := n2_; clear n0_ n1_ n2_; clear hb; have hc6_0 : w6.cell? ⟨g6, 0, none⟩ = some (.int .i64 (k : Int)) := (blk_cell BK6.out 0).trans rfl; have hc6_1 : w6.cell? ⟨g6, 1, none⟩ = some (.int .i64 (x / 128 % 32)) := (blk_cell BK6.out 1).trans rfl; have hc6_2 : w6.cell? ⟨g6, 2, none⟩ = some (.int .i64 (x / 32768 % 32)) := (blk_cell BK6.out 2).trans rfl; have hc6_3 : w6.cell? ⟨g6, 3, none⟩ = some (.int .i64 (x / 1048576 % 32)) := (blk_cell BK6.out 3).trans rfl; have hc6_4 : w6.cell? ⟨g6, 4, none⟩ = some (.int .i64 (imm)) := (blk_cell BK6.out 4).trans rfl; have hf6_0 := blk_frozen BK6.out 0; have hf6_1 := blk_frozen BK6.out 1; have hf6_2 := blk_frozen BK6.out 2; have hf6_3 := blk_frozen BK6.out 3; have hf6_4 := blk_frozen BK6.out 4; have hc2_0 : w6.cell? ⟨g2, 0, none⟩ = some (.int .i64 0) := (blk_cell BK2.out 0).trans rfl; have hc2_1 : w6.cell? ⟨g2, 1, none⟩ = some (.int .i64 0) := (blk_cell BK2.out 1).trans rfl; have hc2_2 : w6.cell? ⟨g2, 2, none⟩ = some (.int .i64 0) := (blk_cell BK2.out 2).trans rfl; have hc2_3 : w6.cell? ⟨g2, 3, none⟩ = some (.int .i64 0) := (blk_cell BK2.out 3).trans rfl; have hc2_4 : w6.cell? ⟨g2, 4, none⟩ = some (.int .i64 0) := (blk_cell BK2.out 4).trans rfl; have hf2_0 := blk_frozen BK2.out 0; have hf2_1 := blk_frozen BK2.out 1; have hf2_2 := blk_frozen BK2.out 2; have hf2_3 := blk_frozen BK2.out 3; have hf2_4 := blk_frozen BK2.out 4))
          go_roundg (55 - k)
          case measure => omega
          case rel => exact ⟨k + 1, by omega, by omega, by omega, by simp, BK2, HB, ⟨rd_no HROW.out HNO.out HNH.out⟩⟩
        ·have HNH := Aside0.mk (fun h => by have hh := HHIT.out.1 h; exact hr1 hh.2 : ¬ Hit ⟨k, 82, o, s3, s7⟩ x)
         go_wp2_with (first | (go_at_call 10; (with_reducible refine (hauberkref02_Encode.calls 100 (k : Int) (x / 128 % 32) (x / 32768 % 32) (x / 1048576 % 32) (imm) r0 r1 _ HEN.out).mono ?_); rintro e w6 ⟨rfl, hb⟩; have n0_ := Aside0.mk (blk_below (by (with_reducible repeat (first | refine blk_drewN ?_ _ | refine blk_drew ?_ | refine blk_alloc ?_ _)); exact BK6.out) hb); have n1_ := Aside0.mk (blk_below (by (with_reducible repeat (first | refine blk_drewN ?_ _ | refine blk_drew ?_ | refine blk_alloc ?_ _)); exact BK2.out) hb); have n2_ := Aside0.mk (below_step (by repeat (first | (with_reducible first | exact HB.out | apply below_alloc | apply pw_below_drewN | apply below_drew1 | refine below_set ?_ GE6.out) | exact HB.out)) hb); clear BK6; clear BK2; clear HB; have BK6 := n0_; have BK2 := n1_; have HB := n2_; clear n0_ n1_ n2_; clear hb; have hc6_0 : w6.cell? ⟨g6, 0, none⟩ = some (.int .i64 (k : Int)) := (blk_cell BK6.out 0).trans rfl; have hc6_1 : w6.cell? ⟨g6, 1, none⟩ = some (.int .i64 (x / 128 % 32)) := (blk_cell BK6.out 1).trans rfl; have hc6_2 : w6.cell? ⟨g6, 2, none⟩ = some (.int .i64 (x / 32768 % 32)) := (blk_cell BK6.out 2).trans rfl; have hc6_3 : w6.cell? ⟨g6, 3, none⟩ = some (.int .i64 (x / 1048576 % 32)) := (blk_cell BK6.out 3).trans rfl; have hc6_4 : w6.cell? ⟨g6, 4, none⟩ = some (.int .i64 (imm)) := (blk_cell BK6.out 4).trans rfl; have hf6_0 := blk_frozen BK6.out 0; have hf6_1 := blk_frozen BK6.out 1; have hf6_2 := blk_frozen BK6.out 2; have hf6_3 := blk_frozen BK6.out 3; have hf6_4 := blk_frozen BK6.out 4; have hc2_0 : w6.cell? ⟨g2, 0, none⟩ = some (.int .i64 0) := (blk_cell BK2.out 0).trans rfl; have hc2_1 : w6.cell? ⟨g2, 1, none⟩ = some (.int .i64 0) := (blk_cell BK2.out 1).trans rfl; have hc2_2 : w6.cell? ⟨g2, 2, none⟩ = some (.int .i64 0) := (blk_cell BK2.out 2).trans rfl; have hc2_3 : w6.cell? ⟨g2, 3, none⟩ = some (.int .i64 0) := (blk_cell BK2.out 3).trans rfl; have hc2_4 : w6.cell? ⟨g2, 4, none⟩ = some (.int .i64 0) := (blk_cell BK2.out 4).trans rfl; have hf2_0 := blk_frozen BK2.out 0; have hf2_1 := blk_frozen BK2.out 1; have hf2_2 := blk_frozen BK2.out 2; have hf2_3 := blk_frozen BK2.out 3; have hf2_4 := blk_frozen BK2.out 4))
         go_roundg (55 - k)
         case measure => omega
         case rel => exact ⟨k + 1, by omega, by omega, by omega, by simp, BK2, HB, ⟨rd_no HROW.out HNO.out HNH.out⟩⟩
   ·as_aux_lemma =>
     obtain ⟨imm, himm⟩ : ∃ v : Int, x / 1048576 % 64 = v := ⟨_, rfl⟩
     have HD := Aside0.mk (by rw [← himm]; rfl : Dec 84 x = (x / 128 % 32, x / 32768 % 32, 0, imm))
     have HOF := Aside0.mk (by rw [hauberkref02_Of.f, hent] : hauberkref02_Of.f (k : Int) = some (84, o, s3, s7))
     have HIMM := Aside0.mk himm
     clear himm hent
     go_upto_region 6 with (fail)
     go_cut [9] (fun v9 wc => ∃ g9, v9 = .pointer (some ⟨g9, 0, none⟩) ∧ Aside0 (wc.heap[g9]? = some (.cells #[.int .u8 84, .int .i64 o, .int .i64 s3, .int .i64 s7] 62 (0, 0))) ∧ Aside0 (wc.heap[g2]? = some (.cells #[.int .i64 0, .int .i64 0, .int .i64 0, .int .i64 0, .int .i64 0] 29 (0, 0))) ∧ Aside0 (Below w.heap.size w wc))
     case first =>
      go_wp2_with (first | (go_at_call 18; (with_reducible refine (hauberkref02_Of.calls (k : Int) 84 o s3 s7 _ HOF.out).mono ?_); rintro e w5 ⟨rfl, hb⟩; have n0_ := Aside0.mk (blk_below (by (with_reducible repeat (first | refine blk_drewN ?_ _ | refine blk_drew ?_ | refine blk_alloc ?_ _)); exact BK2.out) hb); have n1_ := Aside0.mk (below_step (by repeat (first | (with_reducible first | exact HB.out | apply below_alloc | apply pw_below_drewN | apply below_drew1 | refine below_set ?_ GE2.out) | exact HB.out)) hb); clear BK2; clear HB; have BK2 := n0_; have HB := n1_; clear n0_ n1_; clear hb))
      go_meet
      case rel => exact ⟨_, rfl, ⟨heap_alloc_new _ _⟩, ⟨blk_al BK2.out _⟩, ⟨HB.out.alloc HB.out.size _⟩⟩
     case rest =>
      clear BK2 HB
      obtain ⟨g9, rfl, BK9, BK2, HB⟩ := hcut
      go_upto_region 7 with (fail)
      go_cut [10] (fun v10 wc => ∃ g6, v10 = .pointer (some ⟨g6, 0, none⟩) ∧ Aside0 (wc.heap[g6]? = some (.cells #[.int .i64 (k : Int), .int .i64 (x / 128 % 32), .int .i64 (x / 32768 % 32), .int .i64 0, .int .i64 0] 29 (0, 0))) ∧ Aside0 (wc.heap[g9]? = some (.cells #[.int .u8 84, .int .i64 o, .int .i64 s3, .int .i64 s7] 62 (0, 0))) ∧ Aside0 (g2 ≠ g6) ∧ Aside0 (w.heap.size ≤ g6) ∧ Aside0 (wc.heap[g2]? = some (.cells #[.int .i64 0, .int .i64 0, .int .i64 0, .int .i64 0, .int .i64 0] 29 (0, 0))) ∧ Aside0 (Below w.heap.size w wc))
      case first =>
       go_wp2
       go_meet
       case rel => exact ⟨_, rfl, ⟨heap_alloc_new _ _⟩, ⟨blk_al BK9.out _⟩, ⟨Nat.ne_of_lt (blk_lt BK2.out)⟩, ⟨HB.out.size⟩, ⟨blk_al BK2.out _⟩, ⟨HB.out.alloc HB.out.size _⟩⟩
      case rest =>
       clear BK9 BK2 HB
       obtain ⟨g6, rfl, BK6, BK9, NB2_6, GE6, BK2, HB⟩ := hcut
       have hc9_0 : wc.cell? ⟨g9, 0, none⟩ = some (.int .u8 84) := (blk_cell BK9.out 0).trans rfl
       have hc9_1 : wc.cell? ⟨g9, 1, none⟩ = some (.int .i64 o) := (blk_cell BK9.out 1).trans rfl
       have hc9_2 : wc.cell? ⟨g9, 2, none⟩ = some (.int .i64 s3) := (blk_cell BK9.out 2).trans rfl
       have hc9_3 : wc.cell? ⟨g9, 3, none⟩ = some (.int .i64 s7) := (blk_cell BK9.out 3).trans rfl
       have hf9_0 := blk_frozen BK9.out 0
       have hf9_1 := blk_frozen BK9.out 1
       have hf9_2 := blk_frozen BK9.out 2
       have hf9_3 := blk_frozen BK9.out 3
       have hc6_0 : wc.cell? ⟨g6, 0, none⟩ = some (.int .i64 (k : Int)) := (blk_cell BK6.out 0).trans rfl
       have hc6_1 : wc.cell? ⟨g6, 1, none⟩ = some (.int .i64 (x / 128 % 32)) := (blk_cell BK6.out 1).trans rfl
       have hc6_2 : wc.cell? ⟨g6, 2, none⟩ = some (.int .i64 (x / 32768 % 32)) := (blk_cell BK6.out 2).trans rfl
       have hc6_3 : wc.cell? ⟨g6, 3, none⟩ = some (.int .i64 0) := (blk_cell BK6.out 3).trans rfl
       have hc6_4 : wc.cell? ⟨g6, 4, none⟩ = some (.int .i64 0) := (blk_cell BK6.out 4).trans rfl
       have hf6_0 := blk_frozen BK6.out 0
       have hf6_1 := blk_frozen BK6.out 1
       have hf6_2 := blk_frozen BK6.out 2
       have hf6_3 := blk_frozen BK6.out 3
       have hf6_4 := blk_frozen BK6.out 4
       go_upto_block 2 with (fail)
       go_cut [] (fun wc => Aside0 (wc.heap[g6]? = some (.cells #[.int .i64 (k : Int), .int .i64 (x / 128 % 32), .int .i64 (x / 32768 % 32), .int .i64 0, .int .i64 (imm)] 29 (0, 0))) ∧ Aside0 (wc.heap[g2]? = some (.cells #[.int .i64 0, .int .i64 0, .int .i64 0, .int .i64 0, .int .i64 0] 29 (0, 0))) ∧ Aside0 (Below w.heap.size w wc))
       case first =>
        have himm := HIMM.out
        go_wp2
        go_meet
        case rel => exact ⟨⟨blk_put (cs := #[.int .i64 (k : Int), .int .i64 (x / 128 % 32), .int .i64 (x / 32768 % 32), .int .i64 0, .int .i64 0]) (BK6.out) 4 _ rfl⟩, ⟨by rw [Below.heap_setCell _ _ _ _ NB2_6.out]; exact BK2.out⟩, ⟨(HB.out.setCell GE6.out _)⟩⟩
       case rest =>
        clear BK6 BK9 BK2 HB hc9_0 hc9_1 hc9_2 hc9_3 hf9_0 hf9_1 hf9_2 hf9_3 hc6_0 hc6_1 hc6_2 hc6_3 hc6_4 hf6_0 hf6_1 hf6_2 hf6_3 hf6_4
        obtain ⟨BK6, BK2, HB⟩ := hcut
        have hc6_0 : wc.cell? ⟨g6, 0, none⟩ = some (.int .i64 (k : Int)) := (blk_cell BK6.out 0).trans rfl
        have hc6_1 : wc.cell? ⟨g6, 1, none⟩ = some (.int .i64 (x / 128 % 32)) := (blk_cell BK6.out 1).trans rfl
        have hc6_2 : wc.cell? ⟨g6, 2, none⟩ = some (.int .i64 (x / 32768 % 32)) := (blk_cell BK6.out 2).trans rfl
        have hc6_3 : wc.cell? ⟨g6, 3, none⟩ = some (.int .i64 0) := (blk_cell BK6.out 3).trans rfl
        have hc6_4 : wc.cell? ⟨g6, 4, none⟩ = some (.int .i64 (imm)) := (blk_cell BK6.out 4).trans rfl
        have hf6_0 := blk_frozen BK6.out 0
        have hf6_1 := blk_frozen BK6.out 1
        have hf6_2 := blk_frozen BK6.out 2
        have hf6_3 := blk_frozen BK6.out 3
        have hf6_4 := blk_frozen BK6.out 4
        obtain ⟨⟨r0, r1⟩, hen⟩ : ∃ r, enc_r (k : Int) (x / 128 % 32) (x / 32768 % 32) (0) (imm) = r := ⟨_, rfl⟩
        have HEN := Aside0.mk ((ref_enc (k : Int) (x / 128 % 32) (x / 32768 % 32) (0) (imm)).trans (congrArg some hen))
        have HHIT := Aside0.mk (dec_hit ⟨k, 84, o, s3, s7⟩ x HD.out (congrArg some hen))
        clear hen
        by_cases hr1 : r1 = 0
        ·by_cases hr0 : r0 = x
         ·have HH := Aside0.mk (HHIT.out.2 ⟨hr0, hr1⟩)
          go_wp2_with (first | (go_at_call 10; (with_reducible refine (hauberkref02_Encode.calls 100 (k : Int) (x / 128 % 32) (x / 32768 % 32) (0) (imm) r0 r1 _ HEN.out).mono ?_); rintro e w6 ⟨rfl, hb⟩; have n0_ := Aside0.mk (blk_below (by (with_reducible repeat (first | refine blk_drewN ?_ _ | refine blk_drew ?_ | refine blk_alloc ?_ _)); exact BK6.out) hb); have n1_ := Aside0.mk (blk_below (by (with_reducible repeat (first | refine blk_drewN ?_ _ | refine blk_drew ?_ | refine blk_alloc ?_ _)); exact BK2.out) hb); have n2_ := Aside0.mk (below_step (by repeat (first | (with_reducible first | exact HB.out | apply below_alloc | apply pw_below_drewN | apply below_drew1 | refine below_set ?_ GE6.out) | exact HB.out)) hb); clear BK6; clear BK2; clear HB; have BK6 := n0_; have BK2 := n1_; have HB := n2_; clear n0_ n1_ n2_; clear hb; have hc6_0 : w6.cell? ⟨g6, 0, none⟩ = some (.int .i64 (k : Int)) := (blk_cell BK6.out 0).trans rfl; have hc6_1 : w6.cell? ⟨g6, 1, none⟩ = some (.int .i64 (x / 128 % 32)) := (blk_cell BK6.out 1).trans rfl; have hc6_2 : w6.cell? ⟨g6, 2, none⟩ = some (.int .i64 (x / 32768 % 32)) := (blk_cell BK6.out 2).trans rfl; have hc6_3 : w6.cell? ⟨g6, 3, none⟩ = some (.int .i64 0) := (blk_cell BK6.out 3).trans rfl; have hc6_4 : w6.cell? ⟨g6, 4, none⟩ = some (.int .i64 (imm)) := (blk_cell BK6.out 4).trans rfl; have hf6_0 := blk_frozen BK6.out 0; have hf6_1 := blk_frozen BK6.out 1; have hf6_2 := blk_frozen BK6.out 2; have hf6_3 := blk_frozen BK6.out 3; have hf6_4 := blk_frozen BK6.out 4; have hc2_0 : w6.cell? ⟨g2, 0, none⟩ = some (.int .i64 0) := (blk_cell BK2.out 0).trans rfl; have hc2_1 : w6.cell? ⟨g2, 1, none⟩ = some (.int .i64 0) := (blk_cell BK2.out 1).trans rfl; have hc2_2 : w6.cell? ⟨g2, 2, none⟩ = some (.int .i64 0) := (blk_cell BK2.out 2).trans rfl; have hc2_3 : w6.cell? ⟨g2, 3, none⟩ = some (.int .i64 0) := (blk_cell BK2.out 3).trans rfl; have hc2_4 : w6.cell? ⟨g2, 4, none⟩ = some (.int .i64 0) := (blk_cell BK2.out 4).trans rfl; have hf2_0 := blk_frozen BK2.out 0; have hf2_1 := blk_frozen BK2.out 1; have hf2_2 := blk_frozen BK2.out 2; have hf2_3 := blk_frozen BK2.out 3; have hf2_4 := blk_frozen BK2.out 4))
          refine bodyPost_ret (rd_res _ _ g2 _ (0, 0) rfl (dec_put5 BK2.out _ _ _ _ _) rfl) rfl ?_
          exact ⟨.inl ⟨⟨k, 84, o, s3, s7⟩, HROW.out, HH.out, by simp only [HD.out]; rfl⟩, ((((HB.out.setCell GE2.out _).setCell GE2.out _).setCell GE2.out _).setCell GE2.out _).setCell GE2.out _⟩
         ·have HNH := Aside0.mk (fun h => by have hh := HHIT.out.1 h; exact hr0 hh.1 : ¬ Hit ⟨k, 84, o, s3, s7⟩ x)
          go_wp2_with (first | (go_at_call 10; (with_reducible refine (hauberkref02_Encode.calls 100 (k : Int) (x / 128 % 32) (x / 32768 % 32) (0) (imm) r0 r1 _ HEN.out).mono ?_); rintro e w6 ⟨rfl, hb⟩; have n0_ := Aside0.mk (blk_below (by (with_reducible repeat (first | refine blk_drewN ?_ _ | refine blk_drew ?_ | refine blk_alloc ?_ _)); exact BK6.out) hb); have n1_ := Aside0.mk (blk_below (by (with_reducible repeat (first | refine blk_drewN ?_ _ | refine blk_drew ?_ | refine blk_alloc ?_ _)); exact BK2.out) hb); have n2_ := Aside0.mk (below_step (by repeat (first | (with_reducible first | exact HB.out | apply below_alloc | apply pw_below_drewN | apply below_drew1 | refine below_set ?_ GE6.out) | exact HB.out)) hb); clear BK6; clear BK2; clear HB; have BK6 := n0_; have BK2 := n1_; have HB := n2_; clear n0_ n1_ n2_; clear hb; have hc6_0 : w6.cell? ⟨g6, 0, none⟩ = some (.int .i64 (k : Int)) := (blk_cell BK6.out 0).trans rfl; have hc6_1 : w6.cell? ⟨g6, 1, none⟩ = some (.int .i64 (x / 128 % 32)) := (blk_cell BK6.out 1).trans rfl; have hc6_2 : w6.cell? ⟨g6, 2, none⟩ = some (.int .i64 (x / 32768 % 32)) := (blk_cell BK6.out 2).trans rfl; have hc6_3 : w6.cell? ⟨g6, 3, none⟩ = some (.int .i64 0) := (blk_cell BK6.out 3).trans rfl; have hc6_4 : w6.cell? ⟨g6, 4, none⟩ = some (.int .i64 (imm)) := (blk_cell BK6.out 4).trans rfl; have hf6_0 := blk_frozen BK6.out 0; have hf6_1 := blk_frozen BK6.out 1; have hf6_2 := blk_frozen BK6.out 2; have hf6_3 := blk_frozen BK6.out 3; have hf6_4 := blk_frozen BK6.out 4; have hc2_0 : w6.cell? ⟨g2, 0, none⟩ = some (.int .i64 0) := (blk_cell BK2.out 0).trans rfl; have hc2_1 : w6.cell? ⟨g2, 1, none⟩ = some (.int .i64 0) := (blk_cell BK2.out 1).trans rfl; have hc2_2 : w6.cell? ⟨g2, 2, none⟩ = some (.int .i64 0) := (blk_cell BK2.out 2).trans rfl; have hc2_3 : w6.cell? ⟨g2, 3, none⟩ = some (.int .i64 0) := (blk_cell BK2.out 3).trans rfl; have hc2_4 : w6.cell? ⟨g2, 4, none⟩ = some (.int .i64 0) := (blk_cell BK2.out 4).trans rfl; have hf2_0 := blk_frozen BK2.out 0; have hf2_1 := blk_frozen BK2.out 1; have hf2_2 := blk_frozen BK2.out 2; have hf2_3 := blk_frozen BK2.out 3; have hf2_4 := blk_frozen BK2.out 4))
          go_roundg (55 - k)
          case measure => omega
          case rel => exact ⟨k + 1, by omega, by omega, by omega, by simp, BK2, HB, ⟨rd_no HROW.out HNO.out HNH.out⟩⟩
        ·have HNH := Aside0.mk (fun h => by have hh := HHIT.out.1 h; exact hr1 hh.2 : ¬ Hit ⟨k, 84, o, s3, s7⟩ x)
         go_wp2_with (first | (go_at_call 10; (with_reducible refine (hauberkref02_Encode.calls 100 (k : Int) (x / 128 % 32) (x / 32768 % 32) (0) (imm) r0 r1 _ HEN.out).mono ?_); rintro e w6 ⟨rfl, hb⟩; have n0_ := Aside0.mk (blk_below (by (with_reducible repeat (first | refine blk_drewN ?_ _ | refine blk_drew ?_ | refine blk_alloc ?_ _)); exact BK6.out) hb); have n1_ := Aside0.mk (blk_below (by (with_reducible repeat (first | refine blk_drewN ?_ _ | refine blk_drew ?_ | refine blk_alloc ?_ _)); exact BK2.out) hb); have n2_ := Aside0.mk (below_step (by repeat (first | (with_reducible first | exact HB.out | apply below_alloc | apply pw_below_drewN | apply below_drew1 | refine below_set ?_ GE6.out) | exact HB.out)) hb); clear BK6; clear BK2; clear HB; have BK6 := n0_; have BK2 := n1_; have HB := n2_; clear n0_ n1_ n2_; clear hb; have hc6_0 : w6.cell? ⟨g6, 0, none⟩ = some (.int .i64 (k : Int)) := (blk_cell BK6.out 0).trans rfl; have hc6_1 : w6.cell? ⟨g6, 1, none⟩ = some (.int .i64 (x / 128 % 32)) := (blk_cell BK6.out 1).trans rfl; have hc6_2 : w6.cell? ⟨g6, 2, none⟩ = some (.int .i64 (x / 32768 % 32)) := (blk_cell BK6.out 2).trans rfl; have hc6_3 : w6.cell? ⟨g6, 3, none⟩ = some (.int .i64 0) := (blk_cell BK6.out 3).trans rfl; have hc6_4 : w6.cell? ⟨g6, 4, none⟩ = some (.int .i64 (imm)) := (blk_cell BK6.out 4).trans rfl; have hf6_0 := blk_frozen BK6.out 0; have hf6_1 := blk_frozen BK6.out 1; have hf6_2 := blk_frozen BK6.out 2; have hf6_3 := blk_frozen BK6.out 3; have hf6_4 := blk_frozen BK6.out 4; have hc2_0 : w6.cell? ⟨g2, 0, none⟩ = some (.int .i64 0) := (blk_cell BK2.out 0).trans rfl; have hc2_1 : w6.cell? ⟨g2, 1, none⟩ = some (.int .i64 0) := (blk_cell BK2.out 1).trans rfl; have hc2_2 : w6.cell? ⟨g2, 2, none⟩ = some (.int .i64 0) := (blk_cell BK2.out 2).trans rfl; have hc2_3 : w6.cell? ⟨g2, 3, none⟩ = some (.int .i64 0) := (blk_cell BK2.out 3).trans rfl; have hc2_4 : w6.cell? ⟨g2, 4, none⟩ = some (.int .i64 0) := (blk_cell BK2.out 4).trans rfl; have hf2_0 := blk_frozen BK2.out 0; have hf2_1 := blk_frozen BK2.out 1; have hf2_2 := blk_frozen BK2.out 2; have hf2_3 := blk_frozen BK2.out 3; have hf2_4 := blk_frozen BK2.out 4))
         go_roundg (55 - k)
         case measure => omega
         case rel => exact ⟨k + 1, by omega, by omega, by omega, by simp, BK2, HB, ⟨rd_no HROW.out HNO.out HNH.out⟩⟩
   ·as_aux_lemma =>
     obtain ⟨imm, himm⟩ : ∃ v : Int, sgn 4096 (x / 1048576) = v := ⟨_, rfl⟩
     have HD := Aside0.mk (by rw [← himm]; rfl : Dec 73 x = (x / 128 % 32, x / 32768 % 32, 0, imm))
     have HOF := Aside0.mk (by rw [hauberkref02_Of.f, hent] : hauberkref02_Of.f (k : Int) = some (73, o, s3, s7))
     have HIMM := Aside0.mk himm
     clear himm hent
     go_upto_region 6 with (fail)
     go_cut [9] (fun v9 wc => ∃ g9, v9 = .pointer (some ⟨g9, 0, none⟩) ∧ Aside0 (wc.heap[g9]? = some (.cells #[.int .u8 73, .int .i64 o, .int .i64 s3, .int .i64 s7] 62 (0, 0))) ∧ Aside0 (wc.heap[g2]? = some (.cells #[.int .i64 0, .int .i64 0, .int .i64 0, .int .i64 0, .int .i64 0] 29 (0, 0))) ∧ Aside0 (Below w.heap.size w wc))
     case first =>
      go_wp2_with (first | (go_at_call 18; (with_reducible refine (hauberkref02_Of.calls (k : Int) 73 o s3 s7 _ HOF.out).mono ?_); rintro e w5 ⟨rfl, hb⟩; have n0_ := Aside0.mk (blk_below (by (with_reducible repeat (first | refine blk_drewN ?_ _ | refine blk_drew ?_ | refine blk_alloc ?_ _)); exact BK2.out) hb); have n1_ := Aside0.mk (below_step (by repeat (first | (with_reducible first | exact HB.out | apply below_alloc | apply pw_below_drewN | apply below_drew1 | refine below_set ?_ GE2.out) | exact HB.out)) hb); clear BK2; clear HB; have BK2 := n0_; have HB := n1_; clear n0_ n1_; clear hb))
      go_meet
      case rel => exact ⟨_, rfl, ⟨heap_alloc_new _ _⟩, ⟨blk_al BK2.out _⟩, ⟨HB.out.alloc HB.out.size _⟩⟩
     case rest =>
      clear BK2 HB
      obtain ⟨g9, rfl, BK9, BK2, HB⟩ := hcut
      go_upto_region 7 with (fail)
      go_cut [10] (fun v10 wc => ∃ g6, v10 = .pointer (some ⟨g6, 0, none⟩) ∧ Aside0 (wc.heap[g6]? = some (.cells #[.int .i64 (k : Int), .int .i64 (x / 128 % 32), .int .i64 (x / 32768 % 32), .int .i64 0, .int .i64 0] 29 (0, 0))) ∧ Aside0 (wc.heap[g9]? = some (.cells #[.int .u8 73, .int .i64 o, .int .i64 s3, .int .i64 s7] 62 (0, 0))) ∧ Aside0 (g2 ≠ g6) ∧ Aside0 (w.heap.size ≤ g6) ∧ Aside0 (wc.heap[g2]? = some (.cells #[.int .i64 0, .int .i64 0, .int .i64 0, .int .i64 0, .int .i64 0] 29 (0, 0))) ∧ Aside0 (Below w.heap.size w wc))
      case first =>
       go_wp2
       go_meet
       case rel => exact ⟨_, rfl, ⟨heap_alloc_new _ _⟩, ⟨blk_al BK9.out _⟩, ⟨Nat.ne_of_lt (blk_lt BK2.out)⟩, ⟨HB.out.size⟩, ⟨blk_al BK2.out _⟩, ⟨HB.out.alloc HB.out.size _⟩⟩
      case rest =>
       clear BK9 BK2 HB
       obtain ⟨g6, rfl, BK6, BK9, NB2_6, GE6, BK2, HB⟩ := hcut
       have hc9_0 : wc.cell? ⟨g9, 0, none⟩ = some (.int .u8 73) := (blk_cell BK9.out 0).trans rfl
       have hc9_1 : wc.cell? ⟨g9, 1, none⟩ = some (.int .i64 o) := (blk_cell BK9.out 1).trans rfl
       have hc9_2 : wc.cell? ⟨g9, 2, none⟩ = some (.int .i64 s3) := (blk_cell BK9.out 2).trans rfl
       have hc9_3 : wc.cell? ⟨g9, 3, none⟩ = some (.int .i64 s7) := (blk_cell BK9.out 3).trans rfl
       have hf9_0 := blk_frozen BK9.out 0
       have hf9_1 := blk_frozen BK9.out 1
       have hf9_2 := blk_frozen BK9.out 2
       have hf9_3 := blk_frozen BK9.out 3
       have hc6_0 : wc.cell? ⟨g6, 0, none⟩ = some (.int .i64 (k : Int)) := (blk_cell BK6.out 0).trans rfl
       have hc6_1 : wc.cell? ⟨g6, 1, none⟩ = some (.int .i64 (x / 128 % 32)) := (blk_cell BK6.out 1).trans rfl
       have hc6_2 : wc.cell? ⟨g6, 2, none⟩ = some (.int .i64 (x / 32768 % 32)) := (blk_cell BK6.out 2).trans rfl
       have hc6_3 : wc.cell? ⟨g6, 3, none⟩ = some (.int .i64 0) := (blk_cell BK6.out 3).trans rfl
       have hc6_4 : wc.cell? ⟨g6, 4, none⟩ = some (.int .i64 0) := (blk_cell BK6.out 4).trans rfl
       have hf6_0 := blk_frozen BK6.out 0
       have hf6_1 := blk_frozen BK6.out 1
       have hf6_2 := blk_frozen BK6.out 2
       have hf6_3 := blk_frozen BK6.out 3
       have hf6_4 := blk_frozen BK6.out 4
       go_upto_block 2 with (fail)
       go_cut [] (fun wc => Aside0 (wc.heap[g6]? = some (.cells #[.int .i64 (k : Int), .int .i64 (x / 128 % 32), .int .i64 (x / 32768 % 32), .int .i64 0, .int .i64 (imm)] 29 (0, 0))) ∧ Aside0 (wc.heap[g2]? = some (.cells #[.int .i64 0, .int .i64 0, .int .i64 0, .int .i64 0, .int .i64 0] 29 (0, 0))) ∧ Aside0 (Below w.heap.size w wc))
       case first =>
        have HS := Aside0.mk (by first | exact HIMM.out | (rw [← HIMM.out]; congr 1; omega) : sgn 4096 (x / 1048576) = imm)
        go_wp2_with (first | (go_at_call 21; refine (sg_4096 _ (by omega) (by omega) _).mono ?_; rintro e w' ⟨rfl, hw⟩; obtain rfl := hw.symm; clear hw; rw [HS.out]))
        go_meet
        case rel => exact ⟨⟨blk_put (cs := #[.int .i64 (k : Int), .int .i64 (x / 128 % 32), .int .i64 (x / 32768 % 32), .int .i64 0, .int .i64 0]) (BK6.out) 4 _ rfl⟩, ⟨by rw [Below.heap_setCell _ _ _ _ NB2_6.out]; exact BK2.out⟩, ⟨(HB.out.setCell GE6.out _)⟩⟩
       case rest =>
        clear BK6 BK9 BK2 HB hc9_0 hc9_1 hc9_2 hc9_3 hf9_0 hf9_1 hf9_2 hf9_3 hc6_0 hc6_1 hc6_2 hc6_3 hc6_4 hf6_0 hf6_1 hf6_2 hf6_3 hf6_4
        obtain ⟨BK6, BK2, HB⟩ := hcut
        have hc6_0 : wc.cell? ⟨g6, 0, none⟩ = some (.int .i64 (k : Int)) := (blk_cell BK6.out 0).trans rfl
        have hc6_1 : wc.cell? ⟨g6, 1, none⟩ = some (.int .i64 (x / 128 % 32)) := (blk_cell BK6.out 1).trans rfl
        have hc6_2 : wc.cell? ⟨g6, 2, none⟩ = some (.int .i64 (x / 32768 % 32)) := (blk_cell BK6.out 2).trans rfl
        have hc6_3 : wc.cell? ⟨g6, 3, none⟩ = some (.int .i64 0) := (blk_cell BK6.out 3).trans rfl
        have hc6_4 : wc.cell? ⟨g6, 4, none⟩ = some (.int .i64 (imm)) := (blk_cell BK6.out 4).trans rfl
        have hf6_0 := blk_frozen BK6.out 0
        have hf6_1 := blk_frozen BK6.out 1
        have hf6_2 := blk_frozen BK6.out 2
        have hf6_3 := blk_frozen BK6.out 3
        have hf6_4 := blk_frozen BK6.out 4
        obtain ⟨⟨r0, r1⟩, hen⟩ : ∃ r, enc_r (k : Int) (x / 128 % 32) (x / 32768 % 32) (0) (imm) = r := ⟨_, rfl⟩
        have HEN := Aside0.mk ((ref_enc (k : Int) (x / 128 % 32) (x / 32768 % 32) (0) (imm)).trans (congrArg some hen))
        have HHIT := Aside0.mk (dec_hit ⟨k, 73, o, s3, s7⟩ x HD.out (congrArg some hen))
        clear hen
        by_cases hr1 : r1 = 0
        ·by_cases hr0 : r0 = x
         ·have HH := Aside0.mk (HHIT.out.2 ⟨hr0, hr1⟩)
          go_wp2_with (first | (go_at_call 10; (with_reducible refine (hauberkref02_Encode.calls 100 (k : Int) (x / 128 % 32) (x / 32768 % 32) (0) (imm) r0 r1 _ HEN.out).mono ?_); rintro e w6 ⟨rfl, hb⟩; have n0_ := Aside0.mk (blk_below (by (with_reducible repeat (first | refine blk_drewN ?_ _ | refine blk_drew ?_ | refine blk_alloc ?_ _)); exact BK6.out) hb); have n1_ := Aside0.mk (blk_below (by (with_reducible repeat (first | refine blk_drewN ?_ _ | refine blk_drew ?_ | refine blk_alloc ?_ _)); exact BK2.out) hb); have n2_ := Aside0.mk (below_step (by repeat (first | (with_reducible first | exact HB.out | apply below_alloc | apply pw_below_drewN | apply below_drew1 | refine below_set ?_ GE6.out) | exact HB.out)) hb); clear BK6; clear BK2; clear HB; have BK6 := n0_; have BK2 := n1_; have HB := n2_; clear n0_ n1_ n2_; clear hb; have hc6_0 : w6.cell? ⟨g6, 0, none⟩ = some (.int .i64 (k : Int)) := (blk_cell BK6.out 0).trans rfl; have hc6_1 : w6.cell? ⟨g6, 1, none⟩ = some (.int .i64 (x / 128 % 32)) := (blk_cell BK6.out 1).trans rfl; have hc6_2 : w6.cell? ⟨g6, 2, none⟩ = some (.int .i64 (x / 32768 % 32)) := (blk_cell BK6.out 2).trans rfl; have hc6_3 : w6.cell? ⟨g6, 3, none⟩ = some (.int .i64 0) := (blk_cell BK6.out 3).trans rfl; have hc6_4 : w6.cell? ⟨g6, 4, none⟩ = some (.int .i64 (imm)) := (blk_cell BK6.out 4).trans rfl; have hf6_0 := blk_frozen BK6.out 0; have hf6_1 := blk_frozen BK6.out 1; have hf6_2 := blk_frozen BK6.out 2; have hf6_3 := blk_frozen BK6.out 3; have hf6_4 := blk_frozen BK6.out 4; have hc2_0 : w6.cell? ⟨g2, 0, none⟩ = some (.int .i64 0) := (blk_cell BK2.out 0).trans rfl; have hc2_1 : w6.cell? ⟨g2, 1, none⟩ = some (.int .i64 0) := (blk_cell BK2.out 1).trans rfl; have hc2_2 : w6.cell? ⟨g2, 2, none⟩ = some (.int .i64 0) := (blk_cell BK2.out 2).trans rfl; have hc2_3 : w6.cell? ⟨g2, 3, none⟩ = some (.int .i64 0) := (blk_cell BK2.out 3).trans rfl; have hc2_4 : w6.cell? ⟨g2, 4, none⟩ = some (.int .i64 0) := (blk_cell BK2.out 4).trans rfl; have hf2_0 := blk_frozen BK2.out 0; have hf2_1 := blk_frozen BK2.out 1; have hf2_2 := blk_frozen BK2.out 2; have hf2_3 := blk_frozen BK2.out 3; have hf2_4 := blk_frozen BK2.out 4))
          refine bodyPost_ret (rd_res _ _ g2 _ (0, 0) rfl (dec_put5 BK2.out _ _ _ _ _) rfl) rfl ?_
          exact ⟨.inl ⟨⟨k, 73, o, s3, s7⟩, HROW.out, HH.out, by simp only [HD.out]; rfl⟩, ((((HB.out.setCell GE2.out _).setCell GE2.out _).setCell GE2.out _).setCell GE2.out _).setCell GE2.out _⟩
         ·have HNH := Aside0.mk (fun h => by have hh := HHIT.out.1 h; exact hr0 hh.1 : ¬ Hit ⟨k, 73, o, s3, s7⟩ x)
          go_wp2_with (first | (go_at_call 10; (with_reducible refine (hauberkref02_Encode.calls 100 (k : Int) (x / 128 % 32) (x / 32768 % 32) (0) (imm) r0 r1 _ HEN.out).mono ?_); rintro e w6 ⟨rfl, hb⟩; have n0_ := Aside0.mk (blk_below (by (with_reducible repeat (first | refine blk_drewN ?_ _ | refine blk_drew ?_ | refine blk_alloc ?_ _)); exact BK6.out) hb); have n1_ := Aside0.mk (blk_below (by (with_reducible repeat (first | refine blk_drewN ?_ _ | refine blk_drew ?_ | refine blk_alloc ?_ _)); exact BK2.out) hb); have n2_ := Aside0.mk (below_step (by repeat (first | (with_reducible first | exact HB.out | apply below_alloc | apply pw_below_drewN | apply below_drew1 | refine below_set ?_ GE6.out) | exact HB.out)) hb); clear BK6; clear BK2; clear HB; have BK6 := n0_; have BK2 := n1_; have HB := n2_; clear n0_ n1_ n2_; clear hb; have hc6_0 : w6.cell? ⟨g6, 0, none⟩ = some (.int .i64 (k : Int)) := (blk_cell BK6.out 0).trans rfl; have hc6_1 : w6.cell? ⟨g6, 1, none⟩ = some (.int .i64 (x / 128 % 32)) := (blk_cell BK6.out 1).trans rfl; have hc6_2 : w6.cell? ⟨g6, 2, none⟩ = some (.int .i64 (x / 32768 % 32)) := (blk_cell BK6.out 2).trans rfl; have hc6_3 : w6.cell? ⟨g6, 3, none⟩ = some (.int .i64 0) := (blk_cell BK6.out 3).trans rfl; have hc6_4 : w6.cell? ⟨g6, 4, none⟩ = some (.int .i64 (imm)) := (blk_cell BK6.out 4).trans rfl; have hf6_0 := blk_frozen BK6.out 0; have hf6_1 := blk_frozen BK6.out 1; have hf6_2 := blk_frozen BK6.out 2; have hf6_3 := blk_frozen BK6.out 3; have hf6_4 := blk_frozen BK6.out 4; have hc2_0 : w6.cell? ⟨g2, 0, none⟩ = some (.int .i64 0) := (blk_cell BK2.out 0).trans rfl; have hc2_1 : w6.cell? ⟨g2, 1, none⟩ = some (.int .i64 0) := (blk_cell BK2.out 1).trans rfl; have hc2_2 : w6.cell? ⟨g2, 2, none⟩ = some (.int .i64 0) := (blk_cell BK2.out 2).trans rfl; have hc2_3 : w6.cell? ⟨g2, 3, none⟩ = some (.int .i64 0) := (blk_cell BK2.out 3).trans rfl; have hc2_4 : w6.cell? ⟨g2, 4, none⟩ = some (.int .i64 0) := (blk_cell BK2.out 4).trans rfl; have hf2_0 := blk_frozen BK2.out 0; have hf2_1 := blk_frozen BK2.out 1; have hf2_2 := blk_frozen BK2.out 2; have hf2_3 := blk_frozen BK2.out 3; have hf2_4 := blk_frozen BK2.out 4))
          go_roundg (55 - k)
          case measure => omega
          case rel => exact ⟨k + 1, by omega, by omega, by omega, by simp, BK2, HB, ⟨rd_no HROW.out HNO.out HNH.out⟩⟩
        ·have HNH := Aside0.mk (fun h => by have hh := HHIT.out.1 h; exact hr1 hh.2 : ¬ Hit ⟨k, 73, o, s3, s7⟩ x)
         go_wp2_with (first | (go_at_call 10; (with_reducible refine (hauberkref02_Encode.calls 100 (k : Int) (x / 128 % 32) (x / 32768 % 32) (0) (imm) r0 r1 _ HEN.out).mono ?_); rintro e w6 ⟨rfl, hb⟩; have n0_ := Aside0.mk (blk_below (by (with_reducible repeat (first | refine blk_drewN ?_ _ | refine blk_drew ?_ | refine blk_alloc ?_ _)); exact BK6.out) hb); have n1_ := Aside0.mk (blk_below (by (with_reducible repeat (first | refine blk_drewN ?_ _ | refine blk_drew ?_ | refine blk_alloc ?_ _)); exact BK2.out) hb); have n2_ := Aside0.mk (below_step (by repeat (first | (with_reducible first | exact HB.out | apply below_alloc | apply pw_below_drewN | apply below_drew1 | refine below_set ?_ GE6.out) | exact HB.out)) hb); clear BK6; clear BK2; clear HB; have BK6 := n0_; have BK2 := n1_; have HB := n2_; clear n0_ n1_ n2_; clear hb; have hc6_0 : w6.cell? ⟨g6, 0, none⟩ = some (.int .i64 (k : Int)) := (blk_cell BK6.out 0).trans rfl; have hc6_1 : w6.cell? ⟨g6, 1, none⟩ = some (.int .i64 (x / 128 % 32)) := (blk_cell BK6.out 1).trans rfl; have hc6_2 : w6.cell? ⟨g6, 2, none⟩ = some (.int .i64 (x / 32768 % 32)) := (blk_cell BK6.out 2).trans rfl; have hc6_3 : w6.cell? ⟨g6, 3, none⟩ = some (.int .i64 0) := (blk_cell BK6.out 3).trans rfl; have hc6_4 : w6.cell? ⟨g6, 4, none⟩ = some (.int .i64 (imm)) := (blk_cell BK6.out 4).trans rfl; have hf6_0 := blk_frozen BK6.out 0; have hf6_1 := blk_frozen BK6.out 1; have hf6_2 := blk_frozen BK6.out 2; have hf6_3 := blk_frozen BK6.out 3; have hf6_4 := blk_frozen BK6.out 4; have hc2_0 : w6.cell? ⟨g2, 0, none⟩ = some (.int .i64 0) := (blk_cell BK2.out 0).trans rfl; have hc2_1 : w6.cell? ⟨g2, 1, none⟩ = some (.int .i64 0) := (blk_cell BK2.out 1).trans rfl; have hc2_2 : w6.cell? ⟨g2, 2, none⟩ = some (.int .i64 0) := (blk_cell BK2.out 2).trans rfl; have hc2_3 : w6.cell? ⟨g2, 3, none⟩ = some (.int .i64 0) := (blk_cell BK2.out 3).trans rfl; have hc2_4 : w6.cell? ⟨g2, 4, none⟩ = some (.int .i64 0) := (blk_cell BK2.out 4).trans rfl; have hf2_0 := blk_frozen BK2.out 0; have hf2_1 := blk_frozen BK2.out 1; have hf2_2 := blk_frozen BK2.out 2; have hf2_3 := blk_frozen BK2.out 3; have hf2_4 := blk_frozen BK2.out 4))
         go_roundg (55 - k)
         case measure => omega
         case rel => exact ⟨k + 1, by omega, by omega, by omega, by simp, BK2, HB, ⟨rd_no HROW.out HNO.out HNH.out⟩⟩
   ·as_aux_lemma =>
     obtain ⟨imm, himm⟩ : ∃ v : Int, sgn 4096 (x / 128 % 32 + 32 * (x / 33554432)) = v := ⟨_, rfl⟩
     have HD := Aside0.mk (by rw [← himm]; rfl : Dec 83 x = (0, x / 32768 % 32, x / 1048576 % 32, imm))
     have HOF := Aside0.mk (by rw [hauberkref02_Of.f, hent] : hauberkref02_Of.f (k : Int) = some (83, o, s3, s7))
     have HIMM := Aside0.mk himm
     clear himm hent
     go_upto_region 6 with (fail)
     go_cut [9] (fun v9 wc => ∃ g9, v9 = .pointer (some ⟨g9, 0, none⟩) ∧ Aside0 (wc.heap[g9]? = some (.cells #[.int .u8 83, .int .i64 o, .int .i64 s3, .int .i64 s7] 62 (0, 0))) ∧ Aside0 (wc.heap[g2]? = some (.cells #[.int .i64 0, .int .i64 0, .int .i64 0, .int .i64 0, .int .i64 0] 29 (0, 0))) ∧ Aside0 (Below w.heap.size w wc))
     case first =>
      go_wp2_with (first | (go_at_call 18; (with_reducible refine (hauberkref02_Of.calls (k : Int) 83 o s3 s7 _ HOF.out).mono ?_); rintro e w5 ⟨rfl, hb⟩; have n0_ := Aside0.mk (blk_below (by (with_reducible repeat (first | refine blk_drewN ?_ _ | refine blk_drew ?_ | refine blk_alloc ?_ _)); exact BK2.out) hb); have n1_ := Aside0.mk (below_step (by repeat (first | (with_reducible first | exact HB.out | apply below_alloc | apply pw_below_drewN | apply below_drew1 | refine below_set ?_ GE2.out) | exact HB.out)) hb); clear BK2; clear HB; have BK2 := n0_; have HB := n1_; clear n0_ n1_; clear hb))
      go_meet
      case rel => exact ⟨_, rfl, ⟨heap_alloc_new _ _⟩, ⟨blk_al BK2.out _⟩, ⟨HB.out.alloc HB.out.size _⟩⟩
     case rest =>
      clear BK2 HB
      obtain ⟨g9, rfl, BK9, BK2, HB⟩ := hcut
      go_upto_region 7 with (fail)
      go_cut [10] (fun v10 wc => ∃ g6, v10 = .pointer (some ⟨g6, 0, none⟩) ∧ Aside0 (wc.heap[g6]? = some (.cells #[.int .i64 (k : Int), .int .i64 (x / 128 % 32), .int .i64 (x / 32768 % 32), .int .i64 0, .int .i64 0] 29 (0, 0))) ∧ Aside0 (wc.heap[g9]? = some (.cells #[.int .u8 83, .int .i64 o, .int .i64 s3, .int .i64 s7] 62 (0, 0))) ∧ Aside0 (g2 ≠ g6) ∧ Aside0 (w.heap.size ≤ g6) ∧ Aside0 (wc.heap[g2]? = some (.cells #[.int .i64 0, .int .i64 0, .int .i64 0, .int .i64 0, .int .i64 0] 29 (0, 0))) ∧ Aside0 (Below w.heap.size w wc))
      case first =>
       go_wp2
       go_meet
       case rel => exact ⟨_, rfl, ⟨heap_alloc_new _ _⟩, ⟨blk_al BK9.out _⟩, ⟨Nat.ne_of_lt (blk_lt BK2.out)⟩, ⟨HB.out.size⟩, ⟨blk_al BK2.out _⟩, ⟨HB.out.alloc HB.out.size _⟩⟩
      case rest =>
       clear BK9 BK2 HB
       obtain ⟨g6, rfl, BK6, BK9, NB2_6, GE6, BK2, HB⟩ := hcut
       have hc9_0 : wc.cell? ⟨g9, 0, none⟩ = some (.int .u8 83) := (blk_cell BK9.out 0).trans rfl
       have hc9_1 : wc.cell? ⟨g9, 1, none⟩ = some (.int .i64 o) := (blk_cell BK9.out 1).trans rfl
       have hc9_2 : wc.cell? ⟨g9, 2, none⟩ = some (.int .i64 s3) := (blk_cell BK9.out 2).trans rfl
       have hc9_3 : wc.cell? ⟨g9, 3, none⟩ = some (.int .i64 s7) := (blk_cell BK9.out 3).trans rfl
       have hf9_0 := blk_frozen BK9.out 0
       have hf9_1 := blk_frozen BK9.out 1
       have hf9_2 := blk_frozen BK9.out 2
       have hf9_3 := blk_frozen BK9.out 3
       have hc6_0 : wc.cell? ⟨g6, 0, none⟩ = some (.int .i64 (k : Int)) := (blk_cell BK6.out 0).trans rfl
       have hc6_1 : wc.cell? ⟨g6, 1, none⟩ = some (.int .i64 (x / 128 % 32)) := (blk_cell BK6.out 1).trans rfl
       have hc6_2 : wc.cell? ⟨g6, 2, none⟩ = some (.int .i64 (x / 32768 % 32)) := (blk_cell BK6.out 2).trans rfl
       have hc6_3 : wc.cell? ⟨g6, 3, none⟩ = some (.int .i64 0) := (blk_cell BK6.out 3).trans rfl
       have hc6_4 : wc.cell? ⟨g6, 4, none⟩ = some (.int .i64 0) := (blk_cell BK6.out 4).trans rfl
       have hf6_0 := blk_frozen BK6.out 0
       have hf6_1 := blk_frozen BK6.out 1
       have hf6_2 := blk_frozen BK6.out 2
       have hf6_3 := blk_frozen BK6.out 3
       have hf6_4 := blk_frozen BK6.out 4
       go_upto_block 2 with (fail)
       go_cut [] (fun wc => Aside0 (wc.heap[g6]? = some (.cells #[.int .i64 (k : Int), .int .i64 0, .int .i64 (x / 32768 % 32), .int .i64 (x / 1048576 % 32), .int .i64 (imm)] 29 (0, 0))) ∧ Aside0 (wc.heap[g2]? = some (.cells #[.int .i64 0, .int .i64 0, .int .i64 0, .int .i64 0, .int .i64 0] 29 (0, 0))) ∧ Aside0 (Below w.heap.size w wc))
       case first =>
        have HS := Aside0.mk (by first | exact HIMM.out | (rw [← HIMM.out]; congr 1; omega) : sgn 4096 (x / 128 % 32 + 32 * (x / 33554432)) = imm)
        go_wp2_with (first | (go_at_call 21; refine (sg_4096 _ (by omega) (by omega) _).mono ?_; rintro e w' ⟨rfl, hw⟩; obtain rfl := hw.symm; clear hw; rw [HS.out]))
        go_meet
        case rel => exact ⟨⟨blk_put (cs := #[.int .i64 (k : Int), .int .i64 0, .int .i64 (x / 32768 % 32), .int .i64 (x / 1048576 % 32), .int .i64 0]) (blk_put (cs := #[.int .i64 (k : Int), .int .i64 0, .int .i64 (x / 32768 % 32), .int .i64 0, .int .i64 0]) (blk_put (cs := #[.int .i64 (k : Int), .int .i64 0, .int .i64 (x / 32768 % 32), .int .i64 0, .int .i64 0]) (blk_put (cs := #[.int .i64 (k : Int), .int .i64 (x / 128 % 32), .int .i64 (x / 32768 % 32), .int .i64 0, .int .i64 0]) (blk_put (cs := #[.int .i64 (k : Int), .int .i64 (x / 128 % 32), .int .i64 (x / 32768 % 32), .int .i64 0, .int .i64 0]) (BK6.out) 0 _ rfl) 1 _ rfl) 2 _ rfl) 3 _ rfl) 4 _ rfl⟩, ⟨by rw [Below.heap_setCell _ _ _ _ NB2_6.out, Below.heap_setCell _ _ _ _ NB2_6.out, Below.heap_setCell _ _ _ _ NB2_6.out, Below.heap_setCell _ _ _ _ NB2_6.out, Below.heap_setCell _ _ _ _ NB2_6.out]; exact BK2.out⟩, ⟨(((((HB.out.setCell GE6.out _).setCell GE6.out _).setCell GE6.out _).setCell GE6.out _).setCell GE6.out _)⟩⟩
       case rest =>
        clear BK6 BK9 BK2 HB hc9_0 hc9_1 hc9_2 hc9_3 hf9_0 hf9_1 hf9_2 hf9_3 hc6_0 hc6_1 hc6_2 hc6_3 hc6_4 hf6_0 hf6_1 hf6_2 hf6_3 hf6_4
        obtain ⟨BK6, BK2, HB⟩ := hcut
        have hc6_0 : wc.cell? ⟨g6, 0, none⟩ = some (.int .i64 (k : Int)) := (blk_cell BK6.out 0).trans rfl
        have hc6_1 : wc.cell? ⟨g6, 1, none⟩ = some (.int .i64 0) := (blk_cell BK6.out 1).trans rfl
        have hc6_2 : wc.cell? ⟨g6, 2, none⟩ = some (.int .i64 (x / 32768 % 32)) := (blk_cell BK6.out 2).trans rfl
        have hc6_3 : wc.cell? ⟨g6, 3, none⟩ = some (.int .i64 (x / 1048576 % 32)) := (blk_cell BK6.out 3).trans rfl
        have hc6_4 : wc.cell? ⟨g6, 4, none⟩ = some (.int .i64 (imm)) := (blk_cell BK6.out 4).trans rfl
        have hf6_0 := blk_frozen BK6.out 0
        have hf6_1 := blk_frozen BK6.out 1
        have hf6_2 := blk_frozen BK6.out 2
        have hf6_3 := blk_frozen BK6.out 3
        have hf6_4 := blk_frozen BK6.out 4
        obtain ⟨⟨r0, r1⟩, hen⟩ : ∃ r, enc_r (k : Int) (0) (x / 32768 % 32) (x / 1048576 % 32) (imm) = r := ⟨_, rfl⟩
        have HEN := Aside0.mk ((ref_enc (k : Int) (0) (x / 32768 % 32) (x / 1048576 % 32) (imm)).trans (congrArg some hen))
        have HHIT := Aside0.mk (dec_hit ⟨k, 83, o, s3, s7⟩ x HD.out (congrArg some hen))
        clear hen
        by_cases hr1 : r1 = 0
        ·by_cases hr0 : r0 = x
         ·have HH := Aside0.mk (HHIT.out.2 ⟨hr0, hr1⟩)
          go_wp2_with (first | (go_at_call 10; (with_reducible refine (hauberkref02_Encode.calls 100 (k : Int) (0) (x / 32768 % 32) (x / 1048576 % 32) (imm) r0 r1 _ HEN.out).mono ?_); rintro e w6 ⟨rfl, hb⟩; have n0_ := Aside0.mk (blk_below (by (with_reducible repeat (first | refine blk_drewN ?_ _ | refine blk_drew ?_ | refine blk_alloc ?_ _)); exact BK6.out) hb); have n1_ := Aside0.mk (blk_below (by (with_reducible repeat (first | refine blk_drewN ?_ _ | refine blk_drew ?_ | refine blk_alloc ?_ _)); exact BK2.out) hb); have n2_ := Aside0.mk (below_step (by repeat (first | (with_reducible first | exact HB.out | apply below_alloc | apply pw_below_drewN | apply below_drew1 | refine below_set ?_ GE6.out) | exact HB.out)) hb); clear BK6; clear BK2; clear HB; have BK6 := n0_; have BK2 := n1_; have HB := n2_; clear n0_ n1_ n2_; clear hb; have hc6_0 : w6.cell? ⟨g6, 0, none⟩ = some (.int .i64 (k : Int)) := (blk_cell BK6.out 0).trans rfl; have hc6_1 : w6.cell? ⟨g6, 1, none⟩ = some (.int .i64 0) := (blk_cell BK6.out 1).trans rfl; have hc6_2 : w6.cell? ⟨g6, 2, none⟩ = some (.int .i64 (x / 32768 % 32)) := (blk_cell BK6.out 2).trans rfl; have hc6_3 : w6.cell? ⟨g6, 3, none⟩ = some (.int .i64 (x / 1048576 % 32)) := (blk_cell BK6.out 3).trans rfl; have hc6_4 : w6.cell? ⟨g6, 4, none⟩ = some (.int .i64 (imm)) := (blk_cell BK6.out 4).trans rfl; have hf6_0 := blk_frozen BK6.out 0; have hf6_1 := blk_frozen BK6.out 1; have hf6_2 := blk_frozen BK6.out 2; have hf6_3 := blk_frozen BK6.out 3; have hf6_4 := blk_frozen BK6.out 4; have hc2_0 : w6.cell? ⟨g2, 0, none⟩ = some (.int .i64 0) := (blk_cell BK2.out 0).trans rfl; have hc2_1 : w6.cell? ⟨g2, 1, none⟩ = some (.int .i64 0) := (blk_cell BK2.out 1).trans rfl; have hc2_2 : w6.cell? ⟨g2, 2, none⟩ = some (.int .i64 0) := (blk_cell BK2.out 2).trans rfl; have hc2_3 : w6.cell? ⟨g2, 3, none⟩ = some (.int .i64 0) := (blk_cell BK2.out 3).trans rfl; have hc2_4 : w6.cell? ⟨g2, 4, none⟩ = some (.int .i64 0) := (blk_cell BK2.out 4).trans rfl; have hf2_0 := blk_frozen BK2.out 0; have hf2_1 := blk_frozen BK2.out 1; have hf2_2 := blk_frozen BK2.out 2; have hf2_3 := blk_frozen BK2.out 3; have hf2_4 := blk_frozen BK2.out 4))
          refine bodyPost_ret (rd_res _ _ g2 _ (0, 0) rfl (dec_put5 BK2.out _ _ _ _ _) rfl) rfl ?_
          exact ⟨.inl ⟨⟨k, 83, o, s3, s7⟩, HROW.out, HH.out, by simp only [HD.out]; rfl⟩, ((((HB.out.setCell GE2.out _).setCell GE2.out _).setCell GE2.out _).setCell GE2.out _).setCell GE2.out _⟩
         ·have HNH := Aside0.mk (fun h => by have hh := HHIT.out.1 h; exact hr0 hh.1 : ¬ Hit ⟨k, 83, o, s3, s7⟩ x)
          go_wp2_with (first | (go_at_call 10; (with_reducible refine (hauberkref02_Encode.calls 100 (k : Int) (0) (x / 32768 % 32) (x / 1048576 % 32) (imm) r0 r1 _ HEN.out).mono ?_); rintro e w6 ⟨rfl, hb⟩; have n0_ := Aside0.mk (blk_below (by (with_reducible repeat (first | refine blk_drewN ?_ _ | refine blk_drew ?_ | refine blk_alloc ?_ _)); exact BK6.out) hb); have n1_ := Aside0.mk (blk_below (by (with_reducible repeat (first | refine blk_drewN ?_ _ | refine blk_drew ?_ | refine blk_alloc ?_ _)); exact BK2.out) hb); have n2_ := Aside0.mk (below_step (by repeat (first | (with_reducible first | exact HB.out | apply below_alloc | apply pw_below_drewN | apply below_drew1 | refine below_set ?_ GE6.out) | exact HB.out)) hb); clear BK6; clear BK2; clear HB; have BK6 := n0_; have BK2 := n1_; have HB := n2_; clear n0_ n1_ n2_; clear hb; have hc6_0 : w6.cell? ⟨g6, 0, none⟩ = some (.int .i64 (k : Int)) := (blk_cell BK6.out 0).trans rfl; have hc6_1 : w6.cell? ⟨g6, 1, none⟩ = some (.int .i64 0) := (blk_cell BK6.out 1).trans rfl; have hc6_2 : w6.cell? ⟨g6, 2, none⟩ = some (.int .i64 (x / 32768 % 32)) := (blk_cell BK6.out 2).trans rfl; have hc6_3 : w6.cell? ⟨g6, 3, none⟩ = some (.int .i64 (x / 1048576 % 32)) := (blk_cell BK6.out 3).trans rfl; have hc6_4 : w6.cell? ⟨g6, 4, none⟩ = some (.int .i64 (imm)) := (blk_cell BK6.out 4).trans rfl; have hf6_0 := blk_frozen BK6.out 0; have hf6_1 := blk_frozen BK6.out 1; have hf6_2 := blk_frozen BK6.out 2; have hf6_3 := blk_frozen BK6.out 3; have hf6_4 := blk_frozen BK6.out 4; have hc2_0 : w6.cell? ⟨g2, 0, none⟩ = some (.int .i64 0) := (blk_cell BK2.out 0).trans rfl; have hc2_1 : w6.cell? ⟨g2, 1, none⟩ = some (.int .i64 0) := (blk_cell BK2.out 1).trans rfl; have hc2_2 : w6.cell? ⟨g2, 2, none⟩ = some (.int .i64 0) := (blk_cell BK2.out 2).trans rfl; have hc2_3 : w6.cell? ⟨g2, 3, none⟩ = some (.int .i64 0) := (blk_cell BK2.out 3).trans rfl; have hc2_4 : w6.cell? ⟨g2, 4, none⟩ = some (.int .i64 0) := (blk_cell BK2.out 4).trans rfl; have hf2_0 := blk_frozen BK2.out 0; have hf2_1 := blk_frozen BK2.out 1; have hf2_2 := blk_frozen BK2.out 2; have hf2_3 := blk_frozen BK2.out 3; have hf2_4 := blk_frozen BK2.out 4))
          go_roundg (55 - k)
          case measure => omega
          case rel => exact ⟨k + 1, by omega, by omega, by omega, by simp, BK2, HB, ⟨rd_no HROW.out HNO.out HNH.out⟩⟩
        ·have HNH := Aside0.mk (fun h => by have hh := HHIT.out.1 h; exact hr1 hh.2 : ¬ Hit ⟨k, 83, o, s3, s7⟩ x)
         go_wp2_with (first | (go_at_call 10; (with_reducible refine (hauberkref02_Encode.calls 100 (k : Int) (0) (x / 32768 % 32) (x / 1048576 % 32) (imm) r0 r1 _ HEN.out).mono ?_); rintro e w6 ⟨rfl, hb⟩; have n0_ := Aside0.mk (blk_below (by (with_reducible repeat (first | refine blk_drewN ?_ _ | refine blk_drew ?_ | refine blk_alloc ?_ _)); exact BK6.out) hb); have n1_ := Aside0.mk (blk_below (by (with_reducible repeat (first | refine blk_drewN ?_ _ | refine blk_drew ?_ | refine blk_alloc ?_ _)); exact BK2.out) hb); have n2_ := Aside0.mk (below_step (by repeat (first | (with_reducible first | exact HB.out | apply below_alloc | apply pw_below_drewN | apply below_drew1 | refine below_set ?_ GE6.out) | exact HB.out)) hb); clear BK6; clear BK2; clear HB; have BK6 := n0_; have BK2 := n1_; have HB := n2_; clear n0_ n1_ n2_; clear hb; have hc6_0 : w6.cell? ⟨g6, 0, none⟩ = some (.int .i64 (k : Int)) := (blk_cell BK6.out 0).trans rfl; have hc6_1 : w6.cell? ⟨g6, 1, none⟩ = some (.int .i64 0) := (blk_cell BK6.out 1).trans rfl; have hc6_2 : w6.cell? ⟨g6, 2, none⟩ = some (.int .i64 (x / 32768 % 32)) := (blk_cell BK6.out 2).trans rfl; have hc6_3 : w6.cell? ⟨g6, 3, none⟩ = some (.int .i64 (x / 1048576 % 32)) := (blk_cell BK6.out 3).trans rfl; have hc6_4 : w6.cell? ⟨g6, 4, none⟩ = some (.int .i64 (imm)) := (blk_cell BK6.out 4).trans rfl; have hf6_0 := blk_frozen BK6.out 0; have hf6_1 := blk_frozen BK6.out 1; have hf6_2 := blk_frozen BK6.out 2; have hf6_3 := blk_frozen BK6.out 3; have hf6_4 := blk_frozen BK6.out 4; have hc2_0 : w6.cell? ⟨g2, 0, none⟩ = some (.int .i64 0) := (blk_cell BK2.out 0).trans rfl; have hc2_1 : w6.cell? ⟨g2, 1, none⟩ = some (.int .i64 0) := (blk_cell BK2.out 1).trans rfl; have hc2_2 : w6.cell? ⟨g2, 2, none⟩ = some (.int .i64 0) := (blk_cell BK2.out 2).trans rfl; have hc2_3 : w6.cell? ⟨g2, 3, none⟩ = some (.int .i64 0) := (blk_cell BK2.out 3).trans rfl; have hc2_4 : w6.cell? ⟨g2, 4, none⟩ = some (.int .i64 0) := (blk_cell BK2.out 4).trans rfl; have hf2_0 := blk_frozen BK2.out 0; have hf2_1 := blk_frozen BK2.out 1; have hf2_2 := blk_frozen BK2.out 2; have hf2_3 := blk_frozen BK2.out 3; have hf2_4 := blk_frozen BK2.out 4))
         go_roundg (55 - k)
         case measure => omega
         case rel => exact ⟨k + 1, by omega, by omega, by omega, by simp, BK2, HB, ⟨rd_no HROW.out HNO.out HNH.out⟩⟩
   ·as_aux_lemma =>
     obtain ⟨imm, himm⟩ : ∃ v : Int, sgn 8192 (2 * (x / 256 % 16) + 32 * (x / 33554432 % 64) + 2048 * (x / 128 % 2) + 4096 * (x / 2147483648)) = v := ⟨_, rfl⟩
     have HD := Aside0.mk (by rw [← himm]; rfl : Dec 66 x = (0, x / 32768 % 32, x / 1048576 % 32, imm))
     have HOF := Aside0.mk (by rw [hauberkref02_Of.f, hent] : hauberkref02_Of.f (k : Int) = some (66, o, s3, s7))
     have HIMM := Aside0.mk himm
     clear himm hent
     go_upto_region 6 with (fail)
     go_cut [9] (fun v9 wc => ∃ g9, v9 = .pointer (some ⟨g9, 0, none⟩) ∧ Aside0 (wc.heap[g9]? = some (.cells #[.int .u8 66, .int .i64 o, .int .i64 s3, .int .i64 s7] 62 (0, 0))) ∧ Aside0 (wc.heap[g2]? = some (.cells #[.int .i64 0, .int .i64 0, .int .i64 0, .int .i64 0, .int .i64 0] 29 (0, 0))) ∧ Aside0 (Below w.heap.size w wc))
     case first =>
      go_wp2_with (first | (go_at_call 18; (with_reducible refine (hauberkref02_Of.calls (k : Int) 66 o s3 s7 _ HOF.out).mono ?_); rintro e w5 ⟨rfl, hb⟩; have n0_ := Aside0.mk (blk_below (by (with_reducible repeat (first | refine blk_drewN ?_ _ | refine blk_drew ?_ | refine blk_alloc ?_ _)); exact BK2.out) hb); have n1_ := Aside0.mk (below_step (by repeat (first | (with_reducible first | exact HB.out | apply below_alloc | apply pw_below_drewN | apply below_drew1 | refine below_set ?_ GE2.out) | exact HB.out)) hb); clear BK2; clear HB; have BK2 := n0_; have HB := n1_; clear n0_ n1_; clear hb))
      go_meet
      case rel => exact ⟨_, rfl, ⟨heap_alloc_new _ _⟩, ⟨blk_al BK2.out _⟩, ⟨HB.out.alloc HB.out.size _⟩⟩
     case rest =>
      clear BK2 HB
      obtain ⟨g9, rfl, BK9, BK2, HB⟩ := hcut
      go_upto_region 7 with (fail)
      go_cut [10] (fun v10 wc => ∃ g6, v10 = .pointer (some ⟨g6, 0, none⟩) ∧ Aside0 (wc.heap[g6]? = some (.cells #[.int .i64 (k : Int), .int .i64 (x / 128 % 32), .int .i64 (x / 32768 % 32), .int .i64 0, .int .i64 0] 29 (0, 0))) ∧ Aside0 (wc.heap[g9]? = some (.cells #[.int .u8 66, .int .i64 o, .int .i64 s3, .int .i64 s7] 62 (0, 0))) ∧ Aside0 (g2 ≠ g6) ∧ Aside0 (w.heap.size ≤ g6) ∧ Aside0 (wc.heap[g2]? = some (.cells #[.int .i64 0, .int .i64 0, .int .i64 0, .int .i64 0, .int .i64 0] 29 (0, 0))) ∧ Aside0 (Below w.heap.size w wc))
      case first =>
       go_wp2
       go_meet
       case rel => exact ⟨_, rfl, ⟨heap_alloc_new _ _⟩, ⟨blk_al BK9.out _⟩, ⟨Nat.ne_of_lt (blk_lt BK2.out)⟩, ⟨HB.out.size⟩, ⟨blk_al BK2.out _⟩, ⟨HB.out.alloc HB.out.size _⟩⟩
      case rest =>
       clear BK9 BK2 HB
       obtain ⟨g6, rfl, BK6, BK9, NB2_6, GE6, BK2, HB⟩ := hcut
       have hc9_0 : wc.cell? ⟨g9, 0, none⟩ = some (.int .u8 66) := (blk_cell BK9.out 0).trans rfl
       have hc9_1 : wc.cell? ⟨g9, 1, none⟩ = some (.int .i64 o) := (blk_cell BK9.out 1).trans rfl
       have hc9_2 : wc.cell? ⟨g9, 2, none⟩ = some (.int .i64 s3) := (blk_cell BK9.out 2).trans rfl
       have hc9_3 : wc.cell? ⟨g9, 3, none⟩ = some (.int .i64 s7) := (blk_cell BK9.out 3).trans rfl
       have hf9_0 := blk_frozen BK9.out 0
       have hf9_1 := blk_frozen BK9.out 1
       have hf9_2 := blk_frozen BK9.out 2
       have hf9_3 := blk_frozen BK9.out 3
       have hc6_0 : wc.cell? ⟨g6, 0, none⟩ = some (.int .i64 (k : Int)) := (blk_cell BK6.out 0).trans rfl
       have hc6_1 : wc.cell? ⟨g6, 1, none⟩ = some (.int .i64 (x / 128 % 32)) := (blk_cell BK6.out 1).trans rfl
       have hc6_2 : wc.cell? ⟨g6, 2, none⟩ = some (.int .i64 (x / 32768 % 32)) := (blk_cell BK6.out 2).trans rfl
       have hc6_3 : wc.cell? ⟨g6, 3, none⟩ = some (.int .i64 0) := (blk_cell BK6.out 3).trans rfl
       have hc6_4 : wc.cell? ⟨g6, 4, none⟩ = some (.int .i64 0) := (blk_cell BK6.out 4).trans rfl
       have hf6_0 := blk_frozen BK6.out 0
       have hf6_1 := blk_frozen BK6.out 1
       have hf6_2 := blk_frozen BK6.out 2
       have hf6_3 := blk_frozen BK6.out 3
       have hf6_4 := blk_frozen BK6.out 4
       go_upto_block 2 with (fail)
       go_cut [] (fun wc => Aside0 (wc.heap[g6]? = some (.cells #[.int .i64 (k : Int), .int .i64 0, .int .i64 (x / 32768 % 32), .int .i64 (x / 1048576 % 32), .int .i64 (imm)] 29 (0, 0))) ∧ Aside0 (wc.heap[g2]? = some (.cells #[.int .i64 0, .int .i64 0, .int .i64 0, .int .i64 0, .int .i64 0] 29 (0, 0))) ∧ Aside0 (Below w.heap.size w wc))
       case first =>
        have HS := Aside0.mk (by first | exact HIMM.out | (rw [← HIMM.out]; congr 1; omega) : sgn 8192 (x / 128 % 32 / 2 * 2 + 32 * (x / 33554432 % 64) + 2048 * (x / 128 % 2) + 4096 * (x / 2147483648)) = imm)
        go_wp2_with (first | (go_at_call 21; refine (sg_8192 _ (by omega) (by omega) _).mono ?_; rintro e w' ⟨rfl, hw⟩; obtain rfl := hw.symm; clear hw; rw [HS.out]))
        go_meet
        case rel => exact ⟨⟨blk_put (cs := #[.int .i64 (k : Int), .int .i64 0, .int .i64 (x / 32768 % 32), .int .i64 (x / 1048576 % 32), .int .i64 0]) (blk_put (cs := #[.int .i64 (k : Int), .int .i64 0, .int .i64 (x / 32768 % 32), .int .i64 0, .int .i64 0]) (blk_put (cs := #[.int .i64 (k : Int), .int .i64 0, .int .i64 (x / 32768 % 32), .int .i64 0, .int .i64 0]) (blk_put (cs := #[.int .i64 (k : Int), .int .i64 (x / 128 % 32), .int .i64 (x / 32768 % 32), .int .i64 0, .int .i64 0]) (blk_put (cs := #[.int .i64 (k : Int), .int .i64 (x / 128 % 32), .int .i64 (x / 32768 % 32), .int .i64 0, .int .i64 0]) (BK6.out) 0 _ rfl) 1 _ rfl) 2 _ rfl) 3 _ rfl) 4 _ rfl⟩, ⟨by rw [Below.heap_setCell _ _ _ _ NB2_6.out, Below.heap_setCell _ _ _ _ NB2_6.out, Below.heap_setCell _ _ _ _ NB2_6.out, Below.heap_setCell _ _ _ _ NB2_6.out, Below.heap_setCell _ _ _ _ NB2_6.out]; exact BK2.out⟩, ⟨(((((HB.out.setCell GE6.out _).setCell GE6.out _).setCell GE6.out _).setCell GE6.out _).setCell GE6.out _)⟩⟩
       case rest =>
        clear BK6 BK9 BK2 HB hc9_0 hc9_1 hc9_2 hc9_3 hf9_0 hf9_1 hf9_2 hf9_3 hc6_0 hc6_1 hc6_2 hc6_3 hc6_4 hf6_0 hf6_1 hf6_2 hf6_3 hf6_4
        obtain ⟨BK6, BK2, HB⟩ := hcut
        have hc6_0 : wc.cell? ⟨g6, 0, none⟩ = some (.int .i64 (k : Int)) := (blk_cell BK6.out 0).trans rfl
        have hc6_1 : wc.cell? ⟨g6, 1, none⟩ = some (.int .i64 0) := (blk_cell BK6.out 1).trans rfl
        have hc6_2 : wc.cell? ⟨g6, 2, none⟩ = some (.int .i64 (x / 32768 % 32)) := (blk_cell BK6.out 2).trans rfl
        have hc6_3 : wc.cell? ⟨g6, 3, none⟩ = some (.int .i64 (x / 1048576 % 32)) := (blk_cell BK6.out 3).trans rfl
        have hc6_4 : wc.cell? ⟨g6, 4, none⟩ = some (.int .i64 (imm)) := (blk_cell BK6.out 4).trans rfl
        have hf6_0 := blk_frozen BK6.out 0
        have hf6_1 := blk_frozen BK6.out 1
        have hf6_2 := blk_frozen BK6.out 2
        have hf6_3 := blk_frozen BK6.out 3
        have hf6_4 := blk_frozen BK6.out 4
        obtain ⟨⟨r0, r1⟩, hen⟩ : ∃ r, enc_r (k : Int) (0) (x / 32768 % 32) (x / 1048576 % 32) (imm) = r := ⟨_, rfl⟩
        have HEN := Aside0.mk ((ref_enc (k : Int) (0) (x / 32768 % 32) (x / 1048576 % 32) (imm)).trans (congrArg some hen))
        have HHIT := Aside0.mk (dec_hit ⟨k, 66, o, s3, s7⟩ x HD.out (congrArg some hen))
        clear hen
        by_cases hr1 : r1 = 0
        ·by_cases hr0 : r0 = x
         ·have HH := Aside0.mk (HHIT.out.2 ⟨hr0, hr1⟩)
          go_wp2_with (first | (go_at_call 10; (with_reducible refine (hauberkref02_Encode.calls 100 (k : Int) (0) (x / 32768 % 32) (x / 1048576 % 32) (imm) r0 r1 _ HEN.out).mono ?_); rintro e w6 ⟨rfl, hb⟩; have n0_ := Aside0.mk (blk_below (by (with_reducible repeat (first | refine blk_drewN ?_ _ | refine blk_drew ?_ | refine blk_alloc ?_ _)); exact BK6.out) hb); have n1_ := Aside0.mk (blk_below (by (with_reducible repeat (first | refine blk_drewN ?_ _ | refine blk_drew ?_ | refine blk_alloc ?_ _)); exact BK2.out) hb); have n2_ := Aside0.mk (below_step (by repeat (first | (with_reducible first | exact HB.out | apply below_alloc | apply pw_below_drewN | apply below_drew1 | refine below_set ?_ GE6.out) | exact HB.out)) hb); clear BK6; clear BK2; clear HB; have BK6 := n0_; have BK2 := n1_; have HB := n2_; clear n0_ n1_ n2_; clear hb; have hc6_0 : w6.cell? ⟨g6, 0, none⟩ = some (.int .i64 (k : Int)) := (blk_cell BK6.out 0).trans rfl; have hc6_1 : w6.cell? ⟨g6, 1, none⟩ = some (.int .i64 0) := (blk_cell BK6.out 1).trans rfl; have hc6_2 : w6.cell? ⟨g6, 2, none⟩ = some (.int .i64 (x / 32768 % 32)) := (blk_cell BK6.out 2).trans rfl; have hc6_3 : w6.cell? ⟨g6, 3, none⟩ = some (.int .i64 (x / 1048576 % 32)) := (blk_cell BK6.out 3).trans rfl; have hc6_4 : w6.cell? ⟨g6, 4, none⟩ = some (.int .i64 (imm)) := (blk_cell BK6.out 4).trans rfl; have hf6_0 := blk_frozen BK6.out 0; have hf6_1 := blk_frozen BK6.out 1; have hf6_2 := blk_frozen BK6.out 2; have hf6_3 := blk_frozen BK6.out 3; have hf6_4 := blk_frozen BK6.out 4; have hc2_0 : w6.cell? ⟨g2, 0, none⟩ = some (.int .i64 0) := (blk_cell BK2.out 0).trans rfl; have hc2_1 : w6.cell? ⟨g2, 1, none⟩ = some (.int .i64 0) := (blk_cell BK2.out 1).trans rfl; have hc2_2 : w6.cell? ⟨g2, 2, none⟩ = some (.int .i64 0) := (blk_cell BK2.out 2).trans rfl; have hc2_3 : w6.cell? ⟨g2, 3, none⟩ = some (.int .i64 0) := (blk_cell BK2.out 3).trans rfl; have hc2_4 : w6.cell? ⟨g2, 4, none⟩ = some (.int .i64 0) := (blk_cell BK2.out 4).trans rfl; have hf2_0 := blk_frozen BK2.out 0; have hf2_1 := blk_frozen BK2.out 1; have hf2_2 := blk_frozen BK2.out 2; have hf2_3 := blk_frozen BK2.out 3; have hf2_4 := blk_frozen BK2.out 4))
          refine bodyPost_ret (rd_res _ _ g2 _ (0, 0) rfl (dec_put5 BK2.out _ _ _ _ _) rfl) rfl ?_
          exact ⟨.inl ⟨⟨k, 66, o, s3, s7⟩, HROW.out, HH.out, by simp only [HD.out]; rfl⟩, ((((HB.out.setCell GE2.out _).setCell GE2.out _).setCell GE2.out _).setCell GE2.out _).setCell GE2.out _⟩
         ·have HNH := Aside0.mk (fun h => by have hh := HHIT.out.1 h; exact hr0 hh.1 : ¬ Hit ⟨k, 66, o, s3, s7⟩ x)
          go_wp2_with (first | (go_at_call 10; (with_reducible refine (hauberkref02_Encode.calls 100 (k : Int) (0) (x / 32768 % 32) (x / 1048576 % 32) (imm) r0 r1 _ HEN.out).mono ?_); rintro e w6 ⟨rfl, hb⟩; have n0_ := Aside0.mk (blk_below (by (with_reducible repeat (first | refine blk_drewN ?_ _ | refine blk_drew ?_ | refine blk_alloc ?_ _)); exact BK6.out) hb); have n1_ := Aside0.mk (blk_below (by (with_reducible repeat (first | refine blk_drewN ?_ _ | refine blk_drew ?_ | refine blk_alloc ?_ _)); exact BK2.out) hb); have n2_ := Aside0.mk (below_step (by repeat (first | (with_reducible first | exact HB.out | apply below_alloc | apply pw_below_drewN | apply below_drew1 | refine below_set ?_ GE6.out) | exact HB.out)) hb); clear BK6; clear BK2; clear HB; have BK6 := n0_; have BK2 := n1_; have HB := n2_; clear n0_ n1_ n2_; clear hb; have hc6_0 : w6.cell? ⟨g6, 0, none⟩ = some (.int .i64 (k : Int)) := (blk_cell BK6.out 0).trans rfl; have hc6_1 : w6.cell? ⟨g6, 1, none⟩ = some (.int .i64 0) := (blk_cell BK6.out 1).trans rfl; have hc6_2 : w6.cell? ⟨g6, 2, none⟩ = some (.int .i64 (x / 32768 % 32)) := (blk_cell BK6.out 2).trans rfl; have hc6_3 : w6.cell? ⟨g6, 3, none⟩ = some (.int .i64 (x / 1048576 % 32)) := (blk_cell BK6.out 3).trans rfl; have hc6_4 : w6.cell? ⟨g6, 4, none⟩ = some (.int .i64 (imm)) := (blk_cell BK6.out 4).trans rfl; have hf6_0 := blk_frozen BK6.out 0; have hf6_1 := blk_frozen BK6.out 1; have hf6_2 := blk_frozen BK6.out 2; have hf6_3 := blk_frozen BK6.out 3; have hf6_4 := blk_frozen BK6.out 4; have hc2_0 : w6.cell? ⟨g2, 0, none⟩ = some (.int .i64 0) := (blk_cell BK2.out 0).trans rfl; have hc2_1 : w6.cell? ⟨g2, 1, none⟩ = some (.int .i64 0) := (blk_cell BK2.out 1).trans rfl; have hc2_2 : w6.cell? ⟨g2, 2, none⟩ = some (.int .i64 0) := (blk_cell BK2.out 2).trans rfl; have hc2_3 : w6.cell? ⟨g2, 3, none⟩ = some (.int .i64 0) := (blk_cell BK2.out 3).trans rfl; have hc2_4 : w6.cell? ⟨g2, 4, none⟩ = some (.int .i64 0) := (blk_cell BK2.out 4).trans rfl; have hf2_0 := blk_frozen BK2.out 0; have hf2_1 := blk_frozen BK2.out 1; have hf2_2 := blk_frozen BK2.out 2; have hf2_3 := blk_frozen BK2.out 3; have hf2_4 := blk_frozen BK2.out 4))
          go_roundg (55 - k)
          case measure => omega
          case rel => exact ⟨k + 1, by omega, by omega, by omega, by simp, BK2, HB, ⟨rd_no HROW.out HNO.out HNH.out⟩⟩
        ·have HNH := Aside0.mk (fun h => by have hh := HHIT.out.1 h; exact hr1 hh.2 : ¬ Hit ⟨k, 66, o, s3, s7⟩ x)
         go_wp2_with (first | (go_at_call 10; (with_reducible refine (hauberkref02_Encode.calls 100 (k : Int) (0) (x / 32768 % 32) (x / 1048576 % 32) (imm) r0 r1 _ HEN.out).mono ?_); rintro e w6 ⟨rfl, hb⟩; have n0_ := Aside0.mk (blk_below (by (with_reducible repeat (first | refine blk_drewN ?_ _ | refine blk_drew ?_ | refine blk_alloc ?_ _)); exact BK6.out) hb); have n1_ := Aside0.mk (blk_below (by (with_reducible repeat (first | refine blk_drewN ?_ _ | refine blk_drew ?_ | refine blk_alloc ?_ _)); exact BK2.out) hb); have n2_ := Aside0.mk (below_step (by repeat (first | (with_reducible first | exact HB.out | apply below_alloc | apply pw_below_drewN | apply below_drew1 | refine below_set ?_ GE6.out) | exact HB.out)) hb); clear BK6; clear BK2; clear HB; have BK6 := n0_; have BK2 := n1_; have HB := n2_; clear n0_ n1_ n2_; clear hb; have hc6_0 : w6.cell? ⟨g6, 0, none⟩ = some (.int .i64 (k : Int)) := (blk_cell BK6.out 0).trans rfl; have hc6_1 : w6.cell? ⟨g6, 1, none⟩ = some (.int .i64 0) := (blk_cell BK6.out 1).trans rfl; have hc6_2 : w6.cell? ⟨g6, 2, none⟩ = some (.int .i64 (x / 32768 % 32)) := (blk_cell BK6.out 2).trans rfl; have hc6_3 : w6.cell? ⟨g6, 3, none⟩ = some (.int .i64 (x / 1048576 % 32)) := (blk_cell BK6.out 3).trans rfl; have hc6_4 : w6.cell? ⟨g6, 4, none⟩ = some (.int .i64 (imm)) := (blk_cell BK6.out 4).trans rfl; have hf6_0 := blk_frozen BK6.out 0; have hf6_1 := blk_frozen BK6.out 1; have hf6_2 := blk_frozen BK6.out 2; have hf6_3 := blk_frozen BK6.out 3; have hf6_4 := blk_frozen BK6.out 4; have hc2_0 : w6.cell? ⟨g2, 0, none⟩ = some (.int .i64 0) := (blk_cell BK2.out 0).trans rfl; have hc2_1 : w6.cell? ⟨g2, 1, none⟩ = some (.int .i64 0) := (blk_cell BK2.out 1).trans rfl; have hc2_2 : w6.cell? ⟨g2, 2, none⟩ = some (.int .i64 0) := (blk_cell BK2.out 2).trans rfl; have hc2_3 : w6.cell? ⟨g2, 3, none⟩ = some (.int .i64 0) := (blk_cell BK2.out 3).trans rfl; have hc2_4 : w6.cell? ⟨g2, 4, none⟩ = some (.int .i64 0) := (blk_cell BK2.out 4).trans rfl; have hf2_0 := blk_frozen BK2.out 0; have hf2_1 := blk_frozen BK2.out 1; have hf2_2 := blk_frozen BK2.out 2; have hf2_3 := blk_frozen BK2.out 3; have hf2_4 := blk_frozen BK2.out 4))
         go_roundg (55 - k)
         case measure => omega
         case rel => exact ⟨k + 1, by omega, by omega, by omega, by simp, BK2, HB, ⟨rd_no HROW.out HNO.out HNH.out⟩⟩
   ·as_aux_lemma =>
     obtain ⟨imm, himm⟩ : ∃ v : Int, 0 = v := ⟨_, rfl⟩
     have HD := Aside0.mk (by rw [← himm]; rfl : Dec 78 x = (0, 0, 0, imm))
     have HOF := Aside0.mk (by rw [hauberkref02_Of.f, hent] : hauberkref02_Of.f (k : Int) = some (78, o, s3, s7))
     have HIMM := Aside0.mk himm
     clear himm hent
     go_upto_region 6 with (fail)
     go_cut [9] (fun v9 wc => ∃ g9, v9 = .pointer (some ⟨g9, 0, none⟩) ∧ Aside0 (wc.heap[g9]? = some (.cells #[.int .u8 78, .int .i64 o, .int .i64 s3, .int .i64 s7] 62 (0, 0))) ∧ Aside0 (wc.heap[g2]? = some (.cells #[.int .i64 0, .int .i64 0, .int .i64 0, .int .i64 0, .int .i64 0] 29 (0, 0))) ∧ Aside0 (Below w.heap.size w wc))
     case first =>
      go_wp2_with (first | (go_at_call 18; (with_reducible refine (hauberkref02_Of.calls (k : Int) 78 o s3 s7 _ HOF.out).mono ?_); rintro e w5 ⟨rfl, hb⟩; have n0_ := Aside0.mk (blk_below (by (with_reducible repeat (first | refine blk_drewN ?_ _ | refine blk_drew ?_ | refine blk_alloc ?_ _)); exact BK2.out) hb); have n1_ := Aside0.mk (below_step (by repeat (first | (with_reducible first | exact HB.out | apply below_alloc | apply pw_below_drewN | apply below_drew1 | refine below_set ?_ GE2.out) | exact HB.out)) hb); clear BK2; clear HB; have BK2 := n0_; have HB := n1_; clear n0_ n1_; clear hb))
      go_meet
      case rel => exact ⟨_, rfl, ⟨heap_alloc_new _ _⟩, ⟨blk_al BK2.out _⟩, ⟨HB.out.alloc HB.out.size _⟩⟩
     case rest =>
      clear BK2 HB
      obtain ⟨g9, rfl, BK9, BK2, HB⟩ := hcut
      go_upto_region 7 with (fail)
      go_cut [10] (fun v10 wc => ∃ g6, v10 = .pointer (some ⟨g6, 0, none⟩) ∧ Aside0 (wc.heap[g6]? = some (.cells #[.int .i64 (k : Int), .int .i64 (x / 128 % 32), .int .i64 (x / 32768 % 32), .int .i64 0, .int .i64 0] 29 (0, 0))) ∧ Aside0 (wc.heap[g9]? = some (.cells #[.int .u8 78, .int .i64 o, .int .i64 s3, .int .i64 s7] 62 (0, 0))) ∧ Aside0 (g2 ≠ g6) ∧ Aside0 (w.heap.size ≤ g6) ∧ Aside0 (wc.heap[g2]? = some (.cells #[.int .i64 0, .int .i64 0, .int .i64 0, .int .i64 0, .int .i64 0] 29 (0, 0))) ∧ Aside0 (Below w.heap.size w wc))
      case first =>
       go_wp2
       go_meet
       case rel => exact ⟨_, rfl, ⟨heap_alloc_new _ _⟩, ⟨blk_al BK9.out _⟩, ⟨Nat.ne_of_lt (blk_lt BK2.out)⟩, ⟨HB.out.size⟩, ⟨blk_al BK2.out _⟩, ⟨HB.out.alloc HB.out.size _⟩⟩
      case rest =>
       clear BK9 BK2 HB
       obtain ⟨g6, rfl, BK6, BK9, NB2_6, GE6, BK2, HB⟩ := hcut
       have hc9_0 : wc.cell? ⟨g9, 0, none⟩ = some (.int .u8 78) := (blk_cell BK9.out 0).trans rfl
       have hc9_1 : wc.cell? ⟨g9, 1, none⟩ = some (.int .i64 o) := (blk_cell BK9.out 1).trans rfl
       have hc9_2 : wc.cell? ⟨g9, 2, none⟩ = some (.int .i64 s3) := (blk_cell BK9.out 2).trans rfl
       have hc9_3 : wc.cell? ⟨g9, 3, none⟩ = some (.int .i64 s7) := (blk_cell BK9.out 3).trans rfl
       have hf9_0 := blk_frozen BK9.out 0
       have hf9_1 := blk_frozen BK9.out 1
       have hf9_2 := blk_frozen BK9.out 2
       have hf9_3 := blk_frozen BK9.out 3
       have hc6_0 : wc.cell? ⟨g6, 0, none⟩ = some (.int .i64 (k : Int)) := (blk_cell BK6.out 0).trans rfl
       have hc6_1 : wc.cell? ⟨g6, 1, none⟩ = some (.int .i64 (x / 128 % 32)) := (blk_cell BK6.out 1).trans rfl
       have hc6_2 : wc.cell? ⟨g6, 2, none⟩ = some (.int .i64 (x / 32768 % 32)) := (blk_cell BK6.out 2).trans rfl
       have hc6_3 : wc.cell? ⟨g6, 3, none⟩ = some (.int .i64 0) := (blk_cell BK6.out 3).trans rfl
       have hc6_4 : wc.cell? ⟨g6, 4, none⟩ = some (.int .i64 0) := (blk_cell BK6.out 4).trans rfl
       have hf6_0 := blk_frozen BK6.out 0
       have hf6_1 := blk_frozen BK6.out 1
       have hf6_2 := blk_frozen BK6.out 2
       have hf6_3 := blk_frozen BK6.out 3
       have hf6_4 := blk_frozen BK6.out 4
       go_upto_block 2 with (fail)
       go_cut [] (fun wc => Aside0 (wc.heap[g6]? = some (.cells #[.int .i64 (k : Int), .int .i64 0, .int .i64 0, .int .i64 0, .int .i64 (imm)] 29 (0, 0))) ∧ Aside0 (wc.heap[g2]? = some (.cells #[.int .i64 0, .int .i64 0, .int .i64 0, .int .i64 0, .int .i64 0] 29 (0, 0))) ∧ Aside0 (Below w.heap.size w wc))
       case first =>
        have himm := HIMM.out
        go_wp2
        go_meet
        case rel => exact ⟨⟨by rw [show imm = 0 from HIMM.out.symm]; exact blk_put (cs := #[.int .i64 (k : Int), .int .i64 0, .int .i64 0, .int .i64 0, .int .i64 0]) (blk_put (cs := #[.int .i64 (k : Int), .int .i64 0, .int .i64 0, .int .i64 0, .int .i64 0]) (blk_put (cs := #[.int .i64 (k : Int), .int .i64 0, .int .i64 (x / 32768 % 32), .int .i64 0, .int .i64 0]) (blk_put (cs := #[.int .i64 (k : Int), .int .i64 (x / 128 % 32), .int .i64 (x / 32768 % 32), .int .i64 0, .int .i64 0]) (blk_put (cs := #[.int .i64 (k : Int), .int .i64 (x / 128 % 32), .int .i64 (x / 32768 % 32), .int .i64 0, .int .i64 0]) (BK6.out) 0 _ rfl) 1 _ rfl) 2 _ rfl) 3 _ rfl) 4 _ rfl⟩, ⟨by rw [Below.heap_setCell _ _ _ _ NB2_6.out, Below.heap_setCell _ _ _ _ NB2_6.out, Below.heap_setCell _ _ _ _ NB2_6.out, Below.heap_setCell _ _ _ _ NB2_6.out, Below.heap_setCell _ _ _ _ NB2_6.out]; exact BK2.out⟩, ⟨(((((HB.out.setCell GE6.out _).setCell GE6.out _).setCell GE6.out _).setCell GE6.out _).setCell GE6.out _)⟩⟩
       case rest =>
        clear BK6 BK9 BK2 HB hc9_0 hc9_1 hc9_2 hc9_3 hf9_0 hf9_1 hf9_2 hf9_3 hc6_0 hc6_1 hc6_2 hc6_3 hc6_4 hf6_0 hf6_1 hf6_2 hf6_3 hf6_4
        obtain ⟨BK6, BK2, HB⟩ := hcut
        have hc6_0 : wc.cell? ⟨g6, 0, none⟩ = some (.int .i64 (k : Int)) := (blk_cell BK6.out 0).trans rfl
        have hc6_1 : wc.cell? ⟨g6, 1, none⟩ = some (.int .i64 0) := (blk_cell BK6.out 1).trans rfl
        have hc6_2 : wc.cell? ⟨g6, 2, none⟩ = some (.int .i64 0) := (blk_cell BK6.out 2).trans rfl
        have hc6_3 : wc.cell? ⟨g6, 3, none⟩ = some (.int .i64 0) := (blk_cell BK6.out 3).trans rfl
        have hc6_4 : wc.cell? ⟨g6, 4, none⟩ = some (.int .i64 (imm)) := (blk_cell BK6.out 4).trans rfl
        have hf6_0 := blk_frozen BK6.out 0
        have hf6_1 := blk_frozen BK6.out 1
        have hf6_2 := blk_frozen BK6.out 2
        have hf6_3 := blk_frozen BK6.out 3
        have hf6_4 := blk_frozen BK6.out 4
        obtain ⟨⟨r0, r1⟩, hen⟩ : ∃ r, enc_r (k : Int) (0) (0) (0) (imm) = r := ⟨_, rfl⟩
        have HEN := Aside0.mk ((ref_enc (k : Int) (0) (0) (0) (imm)).trans (congrArg some hen))
        have HHIT := Aside0.mk (dec_hit ⟨k, 78, o, s3, s7⟩ x HD.out (congrArg some hen))
        clear hen
        by_cases hr1 : r1 = 0
        ·by_cases hr0 : r0 = x
         ·have HH := Aside0.mk (HHIT.out.2 ⟨hr0, hr1⟩)
          go_wp2_with (first | (go_at_call 10; (with_reducible refine (hauberkref02_Encode.calls 100 (k : Int) (0) (0) (0) (imm) r0 r1 _ HEN.out).mono ?_); rintro e w6 ⟨rfl, hb⟩; have n0_ := Aside0.mk (blk_below (by (with_reducible repeat (first | refine blk_drewN ?_ _ | refine blk_drew ?_ | refine blk_alloc ?_ _)); exact BK6.out) hb); have n1_ := Aside0.mk (blk_below (by (with_reducible repeat (first | refine blk_drewN ?_ _ | refine blk_drew ?_ | refine blk_alloc ?_ _)); exact BK2.out) hb); have n2_ := Aside0.mk (below_step (by repeat (first | (with_reducible first | exact HB.out | apply below_alloc | apply pw_below_drewN | apply below_drew1 | refine below_set ?_ GE6.out) | exact HB.out)) hb); clear BK6; clear BK2; clear HB; have BK6 := n0_; have BK2 := n1_; have HB := n2_; clear n0_ n1_ n2_; clear hb; have hc6_0 : w6.cell? ⟨g6, 0, none⟩ = some (.int .i64 (k : Int)) := (blk_cell BK6.out 0).trans rfl; have hc6_1 : w6.cell? ⟨g6, 1, none⟩ = some (.int .i64 0) := (blk_cell BK6.out 1).trans rfl; have hc6_2 : w6.cell? ⟨g6, 2, none⟩ = some (.int .i64 0) := (blk_cell BK6.out 2).trans rfl; have hc6_3 : w6.cell? ⟨g6, 3, none⟩ = some (.int .i64 0) := (blk_cell BK6.out 3).trans rfl; have hc6_4 : w6.cell? ⟨g6, 4, none⟩ = some (.int .i64 (imm)) := (blk_cell BK6.out 4).trans rfl; have hf6_0 := blk_frozen BK6.out 0; have hf6_1 := blk_frozen BK6.out 1; have hf6_2 := blk_frozen BK6.out 2; have hf6_3 := blk_frozen BK6.out 3; have hf6_4 := blk_frozen BK6.out 4; have hc2_0 : w6.cell? ⟨g2, 0, none⟩ = some (.int .i64 0) := (blk_cell BK2.out 0).trans rfl; have hc2_1 : w6.cell? ⟨g2, 1, none⟩ = some (.int .i64 0) := (blk_cell BK2.out 1).trans rfl; have hc2_2 : w6.cell? ⟨g2, 2, none⟩ = some (.int .i64 0) := (blk_cell BK2.out 2).trans rfl; have hc2_3 : w6.cell? ⟨g2, 3, none⟩ = some (.int .i64 0) := (blk_cell BK2.out 3).trans rfl; have hc2_4 : w6.cell? ⟨g2, 4, none⟩ = some (.int .i64 0) := (blk_cell BK2.out 4).trans rfl; have hf2_0 := blk_frozen BK2.out 0; have hf2_1 := blk_frozen BK2.out 1; have hf2_2 := blk_frozen BK2.out 2; have hf2_3 := blk_frozen BK2.out 3; have hf2_4 := blk_frozen BK2.out 4))
          refine bodyPost_ret (rd_res _ _ g2 _ (0, 0) rfl (dec_put5 BK2.out _ _ _ _ _) rfl) rfl ?_
          exact ⟨.inl ⟨⟨k, 78, o, s3, s7⟩, HROW.out, HH.out, by simp only [HD.out]; rfl⟩, ((((HB.out.setCell GE2.out _).setCell GE2.out _).setCell GE2.out _).setCell GE2.out _).setCell GE2.out _⟩
         ·have HNH := Aside0.mk (fun h => by have hh := HHIT.out.1 h; exact hr0 hh.1 : ¬ Hit ⟨k, 78, o, s3, s7⟩ x)
          go_wp2_with (first | (go_at_call 10; (with_reducible refine (hauberkref02_Encode.calls 100 (k : Int) (0) (0) (0) (imm) r0 r1 _ HEN.out).mono ?_); rintro e w6 ⟨rfl, hb⟩; have n0_ := Aside0.mk (blk_below (by (with_reducible repeat (first | refine blk_drewN ?_ _ | refine blk_drew ?_ | refine blk_alloc ?_ _)); exact BK6.out) hb); have n1_ := Aside0.mk (blk_below (by (with_reducible repeat (first | refine blk_drewN ?_ _ | refine blk_drew ?_ | refine blk_alloc ?_ _)); exact BK2.out) hb); have n2_ := Aside0.mk (below_step (by repeat (first | (with_reducible first | exact HB.out | apply below_alloc | apply pw_below_drewN | apply below_drew1 | refine below_set ?_ GE6.out) | exact HB.out)) hb); clear BK6; clear BK2; clear HB; have BK6 := n0_; have BK2 := n1_; have HB := n2_; clear n0_ n1_ n2_; clear hb; have hc6_0 : w6.cell? ⟨g6, 0, none⟩ = some (.int .i64 (k : Int)) := (blk_cell BK6.out 0).trans rfl; have hc6_1 : w6.cell? ⟨g6, 1, none⟩ = some (.int .i64 0) := (blk_cell BK6.out 1).trans rfl; have hc6_2 : w6.cell? ⟨g6, 2, none⟩ = some (.int .i64 0) := (blk_cell BK6.out 2).trans rfl; have hc6_3 : w6.cell? ⟨g6, 3, none⟩ = some (.int .i64 0) := (blk_cell BK6.out 3).trans rfl; have hc6_4 : w6.cell? ⟨g6, 4, none⟩ = some (.int .i64 (imm)) := (blk_cell BK6.out 4).trans rfl; have hf6_0 := blk_frozen BK6.out 0; have hf6_1 := blk_frozen BK6.out 1; have hf6_2 := blk_frozen BK6.out 2; have hf6_3 := blk_frozen BK6.out 3; have hf6_4 := blk_frozen BK6.out 4; have hc2_0 : w6.cell? ⟨g2, 0, none⟩ = some (.int .i64 0) := (blk_cell BK2.out 0).trans rfl; have hc2_1 : w6.cell? ⟨g2, 1, none⟩ = some (.int .i64 0) := (blk_cell BK2.out 1).trans rfl; have hc2_2 : w6.cell? ⟨g2, 2, none⟩ = some (.int .i64 0) := (blk_cell BK2.out 2).trans rfl; have hc2_3 : w6.cell? ⟨g2, 3, none⟩ = some (.int .i64 0) := (blk_cell BK2.out 3).trans rfl; have hc2_4 : w6.cell? ⟨g2, 4, none⟩ = some (.int .i64 0) := (blk_cell BK2.out 4).trans rfl; have hf2_0 := blk_frozen BK2.out 0; have hf2_1 := blk_frozen BK2.out 1; have hf2_2 := blk_frozen BK2.out 2; have hf2_3 := blk_frozen BK2.out 3; have hf2_4 := blk_frozen BK2.out 4))
          go_roundg (55 - k)
          case measure => omega
          case rel => exact ⟨k + 1, by omega, by omega, by omega, by simp, BK2, HB, ⟨rd_no HROW.out HNO.out HNH.out⟩⟩
        ·have HNH := Aside0.mk (fun h => by have hh := HHIT.out.1 h; exact hr1 hh.2 : ¬ Hit ⟨k, 78, o, s3, s7⟩ x)
         go_wp2_with (first | (go_at_call 10; (with_reducible refine (hauberkref02_Encode.calls 100 (k : Int) (0) (0) (0) (imm) r0 r1 _ HEN.out).mono ?_); rintro e w6 ⟨rfl, hb⟩; have n0_ := Aside0.mk (blk_below (by (with_reducible repeat (first | refine blk_drewN ?_ _ | refine blk_drew ?_ | refine blk_alloc ?_ _)); exact BK6.out) hb); have n1_ := Aside0.mk (blk_below (by (with_reducible repeat (first | refine blk_drewN ?_ _ | refine blk_drew ?_ | refine blk_alloc ?_ _)); exact BK2.out) hb); have n2_ := Aside0.mk (below_step (by repeat (first | (with_reducible first | exact HB.out | apply below_alloc | apply pw_below_drewN | apply below_drew1 | refine below_set ?_ GE6.out) | exact HB.out)) hb); clear BK6; clear BK2; clear HB; have BK6 := n0_; have BK2 := n1_; have HB := n2_; clear n0_ n1_ n2_; clear hb; have hc6_0 : w6.cell? ⟨g6, 0, none⟩ = some (.int .i64 (k : Int)) := (blk_cell BK6.out 0).trans rfl; have hc6_1 : w6.cell? ⟨g6, 1, none⟩ = some (.int .i64 0) := (blk_cell BK6.out 1).trans rfl; have hc6_2 : w6.cell? ⟨g6, 2, none⟩ = some (.int .i64 0) := (blk_cell BK6.out 2).trans rfl; have hc6_3 : w6.cell? ⟨g6, 3, none⟩ = some (.int .i64 0) := (blk_cell BK6.out 3).trans rfl; have hc6_4 : w6.cell? ⟨g6, 4, none⟩ = some (.int .i64 (imm)) := (blk_cell BK6.out 4).trans rfl; have hf6_0 := blk_frozen BK6.out 0; have hf6_1 := blk_frozen BK6.out 1; have hf6_2 := blk_frozen BK6.out 2; have hf6_3 := blk_frozen BK6.out 3; have hf6_4 := blk_frozen BK6.out 4; have hc2_0 : w6.cell? ⟨g2, 0, none⟩ = some (.int .i64 0) := (blk_cell BK2.out 0).trans rfl; have hc2_1 : w6.cell? ⟨g2, 1, none⟩ = some (.int .i64 0) := (blk_cell BK2.out 1).trans rfl; have hc2_2 : w6.cell? ⟨g2, 2, none⟩ = some (.int .i64 0) := (blk_cell BK2.out 2).trans rfl; have hc2_3 : w6.cell? ⟨g2, 3, none⟩ = some (.int .i64 0) := (blk_cell BK2.out 3).trans rfl; have hc2_4 : w6.cell? ⟨g2, 4, none⟩ = some (.int .i64 0) := (blk_cell BK2.out 4).trans rfl; have hf2_0 := blk_frozen BK2.out 0; have hf2_1 := blk_frozen BK2.out 1; have hf2_2 := blk_frozen BK2.out 2; have hf2_3 := blk_frozen BK2.out 3; have hf2_4 := blk_frozen BK2.out 4))
         go_roundg (55 - k)
         case measure => omega
         case rel => exact ⟨k + 1, by omega, by omega, by omega, by simp, BK2, HB, ⟨rd_no HROW.out HNO.out HNH.out⟩⟩
   ·as_aux_lemma =>
     obtain ⟨imm, himm⟩ : ∃ v : Int, sgn 1048576 (x / 4096) = v := ⟨_, rfl⟩
     have HD := Aside0.mk (by rw [← himm]; rfl : Dec 85 x = (x / 128 % 32, 0, 0, imm))
     have HOF := Aside0.mk (by rw [hauberkref02_Of.f, hent] : hauberkref02_Of.f (k : Int) = some (85, o, s3, s7))
     have HIMM := Aside0.mk himm
     clear himm hent
     go_upto_region 6 with (fail)
     go_cut [9] (fun v9 wc => ∃ g9, v9 = .pointer (some ⟨g9, 0, none⟩) ∧ Aside0 (wc.heap[g9]? = some (.cells #[.int .u8 85, .int .i64 o, .int .i64 s3, .int .i64 s7] 62 (0, 0))) ∧ Aside0 (wc.heap[g2]? = some (.cells #[.int .i64 0, .int .i64 0, .int .i64 0, .int .i64 0, .int .i64 0] 29 (0, 0))) ∧ Aside0 (Below w.heap.size w wc))
     case first =>
      go_wp2_with (first | (go_at_call 18; (with_reducible refine (hauberkref02_Of.calls (k : Int) 85 o s3 s7 _ HOF.out).mono ?_); rintro e w5 ⟨rfl, hb⟩; have n0_ := Aside0.mk (blk_below (by (with_reducible repeat (first | refine blk_drewN ?_ _ | refine blk_drew ?_ | refine blk_alloc ?_ _)); exact BK2.out) hb); have n1_ := Aside0.mk (below_step (by repeat (first | (with_reducible first | exact HB.out | apply below_alloc | apply pw_below_drewN | apply below_drew1 | refine below_set ?_ GE2.out) | exact HB.out)) hb); clear BK2; clear HB; have BK2 := n0_; have HB := n1_; clear n0_ n1_; clear hb))
      go_meet
      case rel => exact ⟨_, rfl, ⟨heap_alloc_new _ _⟩, ⟨blk_al BK2.out _⟩, ⟨HB.out.alloc HB.out.size _⟩⟩
     case rest =>
      clear BK2 HB
      obtain ⟨g9, rfl, BK9, BK2, HB⟩ := hcut
      go_upto_region 7 with (fail)
      go_cut [10] (fun v10 wc => ∃ g6, v10 = .pointer (some ⟨g6, 0, none⟩) ∧ Aside0 (wc.heap[g6]? = some (.cells #[.int .i64 (k : Int), .int .i64 (x / 128 % 32), .int .i64 (x / 32768 % 32), .int .i64 0, .int .i64 0] 29 (0, 0))) ∧ Aside0 (wc.heap[g9]? = some (.cells #[.int .u8 85, .int .i64 o, .int .i64 s3, .int .i64 s7] 62 (0, 0))) ∧ Aside0 (g2 ≠ g6) ∧ Aside0 (w.heap.size ≤ g6) ∧ Aside0 (wc.heap[g2]? = some (.cells #[.int .i64 0, .int .i64 0, .int .i64 0, .int .i64 0, .int .i64 0] 29 (0, 0))) ∧ Aside0 (Below w.heap.size w wc))
      case first =>
       go_wp2
       go_meet
       case rel => exact ⟨_, rfl, ⟨heap_alloc_new _ _⟩, ⟨blk_al BK9.out _⟩, ⟨Nat.ne_of_lt (blk_lt BK2.out)⟩, ⟨HB.out.size⟩, ⟨blk_al BK2.out _⟩, ⟨HB.out.alloc HB.out.size _⟩⟩
      case rest =>
       clear BK9 BK2 HB
       obtain ⟨g6, rfl, BK6, BK9, NB2_6, GE6, BK2, HB⟩ := hcut
       have hc9_0 : wc.cell? ⟨g9, 0, none⟩ = some (.int .u8 85) := (blk_cell BK9.out 0).trans rfl
       have hc9_1 : wc.cell? ⟨g9, 1, none⟩ = some (.int .i64 o) := (blk_cell BK9.out 1).trans rfl
       have hc9_2 : wc.cell? ⟨g9, 2, none⟩ = some (.int .i64 s3) := (blk_cell BK9.out 2).trans rfl
       have hc9_3 : wc.cell? ⟨g9, 3, none⟩ = some (.int .i64 s7) := (blk_cell BK9.out 3).trans rfl
       have hf9_0 := blk_frozen BK9.out 0
       have hf9_1 := blk_frozen BK9.out 1
       have hf9_2 := blk_frozen BK9.out 2
       have hf9_3 := blk_frozen BK9.out 3
       have hc6_0 : wc.cell? ⟨g6, 0, none⟩ = some (.int .i64 (k : Int)) := (blk_cell BK6.out 0).trans rfl
       have hc6_1 : wc.cell? ⟨g6, 1, none⟩ = some (.int .i64 (x / 128 % 32)) := (blk_cell BK6.out 1).trans rfl
       have hc6_2 : wc.cell? ⟨g6, 2, none⟩ = some (.int .i64 (x / 32768 % 32)) := (blk_cell BK6.out 2).trans rfl
       have hc6_3 : wc.cell? ⟨g6, 3, none⟩ = some (.int .i64 0) := (blk_cell BK6.out 3).trans rfl
       have hc6_4 : wc.cell? ⟨g6, 4, none⟩ = some (.int .i64 0) := (blk_cell BK6.out 4).trans rfl
       have hf6_0 := blk_frozen BK6.out 0
       have hf6_1 := blk_frozen BK6.out 1
       have hf6_2 := blk_frozen BK6.out 2
       have hf6_3 := blk_frozen BK6.out 3
       have hf6_4 := blk_frozen BK6.out 4
       go_upto_block 2 with (fail)
       go_cut [] (fun wc => Aside0 (wc.heap[g6]? = some (.cells #[.int .i64 (k : Int), .int .i64 (x / 128 % 32), .int .i64 0, .int .i64 0, .int .i64 (imm)] 29 (0, 0))) ∧ Aside0 (wc.heap[g2]? = some (.cells #[.int .i64 0, .int .i64 0, .int .i64 0, .int .i64 0, .int .i64 0] 29 (0, 0))) ∧ Aside0 (Below w.heap.size w wc))
       case first =>
        have HS := Aside0.mk (by first | exact HIMM.out | (rw [← HIMM.out]; congr 1; omega) : sgn 1048576 (x / 4096) = imm)
        go_wp2_with (first | (go_at_call 21; refine (sg_1048576 _ (by omega) (by omega) _).mono ?_; rintro e w' ⟨rfl, hw⟩; obtain rfl := hw.symm; clear hw; rw [HS.out]))
        go_meet
        case rel => exact ⟨⟨blk_put (cs := #[.int .i64 (k : Int), .int .i64 (x / 128 % 32), .int .i64 0, .int .i64 0, .int .i64 0]) (blk_put (cs := #[.int .i64 (k : Int), .int .i64 (x / 128 % 32), .int .i64 0, .int .i64 0, .int .i64 0]) (blk_put (cs := #[.int .i64 (k : Int), .int .i64 (x / 128 % 32), .int .i64 (x / 32768 % 32), .int .i64 0, .int .i64 0]) (blk_put (cs := #[.int .i64 (k : Int), .int .i64 (x / 128 % 32), .int .i64 (x / 32768 % 32), .int .i64 0, .int .i64 0]) (blk_put (cs := #[.int .i64 (k : Int), .int .i64 (x / 128 % 32), .int .i64 (x / 32768 % 32), .int .i64 0, .int .i64 0]) (BK6.out) 0 _ rfl) 1 _ rfl) 2 _ rfl) 3 _ rfl) 4 _ rfl⟩, ⟨by rw [Below.heap_setCell _ _ _ _ NB2_6.out, Below.heap_setCell _ _ _ _ NB2_6.out, Below.heap_setCell _ _ _ _ NB2_6.out, Below.heap_setCell _ _ _ _ NB2_6.out, Below.heap_setCell _ _ _ _ NB2_6.out]; exact BK2.out⟩, ⟨(((((HB.out.setCell GE6.out _).setCell GE6.out _).setCell GE6.out _).setCell GE6.out _).setCell GE6.out _)⟩⟩
       case rest =>
        clear BK6 BK9 BK2 HB hc9_0 hc9_1 hc9_2 hc9_3 hf9_0 hf9_1 hf9_2 hf9_3 hc6_0 hc6_1 hc6_2 hc6_3 hc6_4 hf6_0 hf6_1 hf6_2 hf6_3 hf6_4
        obtain ⟨BK6, BK2, HB⟩ := hcut
        have hc6_0 : wc.cell? ⟨g6, 0, none⟩ = some (.int .i64 (k : Int)) := (blk_cell BK6.out 0).trans rfl
        have hc6_1 : wc.cell? ⟨g6, 1, none⟩ = some (.int .i64 (x / 128 % 32)) := (blk_cell BK6.out 1).trans rfl
        have hc6_2 : wc.cell? ⟨g6, 2, none⟩ = some (.int .i64 0) := (blk_cell BK6.out 2).trans rfl
        have hc6_3 : wc.cell? ⟨g6, 3, none⟩ = some (.int .i64 0) := (blk_cell BK6.out 3).trans rfl
        have hc6_4 : wc.cell? ⟨g6, 4, none⟩ = some (.int .i64 (imm)) := (blk_cell BK6.out 4).trans rfl
        have hf6_0 := blk_frozen BK6.out 0
        have hf6_1 := blk_frozen BK6.out 1
        have hf6_2 := blk_frozen BK6.out 2
        have hf6_3 := blk_frozen BK6.out 3
        have hf6_4 := blk_frozen BK6.out 4
        obtain ⟨⟨r0, r1⟩, hen⟩ : ∃ r, enc_r (k : Int) (x / 128 % 32) (0) (0) (imm) = r := ⟨_, rfl⟩
        have HEN := Aside0.mk ((ref_enc (k : Int) (x / 128 % 32) (0) (0) (imm)).trans (congrArg some hen))
        have HHIT := Aside0.mk (dec_hit ⟨k, 85, o, s3, s7⟩ x HD.out (congrArg some hen))
        clear hen
        by_cases hr1 : r1 = 0
        ·by_cases hr0 : r0 = x
         ·have HH := Aside0.mk (HHIT.out.2 ⟨hr0, hr1⟩)
          go_wp2_with (first | (go_at_call 10; (with_reducible refine (hauberkref02_Encode.calls 100 (k : Int) (x / 128 % 32) (0) (0) (imm) r0 r1 _ HEN.out).mono ?_); rintro e w6 ⟨rfl, hb⟩; have n0_ := Aside0.mk (blk_below (by (with_reducible repeat (first | refine blk_drewN ?_ _ | refine blk_drew ?_ | refine blk_alloc ?_ _)); exact BK6.out) hb); have n1_ := Aside0.mk (blk_below (by (with_reducible repeat (first | refine blk_drewN ?_ _ | refine blk_drew ?_ | refine blk_alloc ?_ _)); exact BK2.out) hb); have n2_ := Aside0.mk (below_step (by repeat (first | (with_reducible first | exact HB.out | apply below_alloc | apply pw_below_drewN | apply below_drew1 | refine below_set ?_ GE6.out) | exact HB.out)) hb); clear BK6; clear BK2; clear HB; have BK6 := n0_; have BK2 := n1_; have HB := n2_; clear n0_ n1_ n2_; clear hb; have hc6_0 : w6.cell? ⟨g6, 0, none⟩ = some (.int .i64 (k : Int)) := (blk_cell BK6.out 0).trans rfl; have hc6_1 : w6.cell? ⟨g6, 1, none⟩ = some (.int .i64 (x / 128 % 32)) := (blk_cell BK6.out 1).trans rfl; have hc6_2 : w6.cell? ⟨g6, 2, none⟩ = some (.int .i64 0) := (blk_cell BK6.out 2).trans rfl; have hc6_3 : w6.cell? ⟨g6, 3, none⟩ = some (.int .i64 0) := (blk_cell BK6.out 3).trans rfl; have hc6_4 : w6.cell? ⟨g6, 4, none⟩ = some (.int .i64 (imm)) := (blk_cell BK6.out 4).trans rfl; have hf6_0 := blk_frozen BK6.out 0; have hf6_1 := blk_frozen BK6.out 1; have hf6_2 := blk_frozen BK6.out 2; have hf6_3 := blk_frozen BK6.out 3; have hf6_4 := blk_frozen BK6.out 4; have hc2_0 : w6.cell? ⟨g2, 0, none⟩ = some (.int .i64 0) := (blk_cell BK2.out 0).trans rfl; have hc2_1 : w6.cell? ⟨g2, 1, none⟩ = some (.int .i64 0) := (blk_cell BK2.out 1).trans rfl; have hc2_2 : w6.cell? ⟨g2, 2, none⟩ = some (.int .i64 0) := (blk_cell BK2.out 2).trans rfl; have hc2_3 : w6.cell? ⟨g2, 3, none⟩ = some (.int .i64 0) := (blk_cell BK2.out 3).trans rfl; have hc2_4 : w6.cell? ⟨g2, 4, none⟩ = some (.int .i64 0) := (blk_cell BK2.out 4).trans rfl; have hf2_0 := blk_frozen BK2.out 0; have hf2_1 := blk_frozen BK2.out 1; have hf2_2 := blk_frozen BK2.out 2; have hf2_3 := blk_frozen BK2.out 3; have hf2_4 := blk_frozen BK2.out 4))
          refine bodyPost_ret (rd_res _ _ g2 _ (0, 0) rfl (dec_put5 BK2.out _ _ _ _ _) rfl) rfl ?_
          exact ⟨.inl ⟨⟨k, 85, o, s3, s7⟩, HROW.out, HH.out, by simp only [HD.out]; rfl⟩, ((((HB.out.setCell GE2.out _).setCell GE2.out _).setCell GE2.out _).setCell GE2.out _).setCell GE2.out _⟩
         ·have HNH := Aside0.mk (fun h => by have hh := HHIT.out.1 h; exact hr0 hh.1 : ¬ Hit ⟨k, 85, o, s3, s7⟩ x)
          go_wp2_with (first | (go_at_call 10; (with_reducible refine (hauberkref02_Encode.calls 100 (k : Int) (x / 128 % 32) (0) (0) (imm) r0 r1 _ HEN.out).mono ?_); rintro e w6 ⟨rfl, hb⟩; have n0_ := Aside0.mk (blk_below (by (with_reducible repeat (first | refine blk_drewN ?_ _ | refine blk_drew ?_ | refine blk_alloc ?_ _)); exact BK6.out) hb); have n1_ := Aside0.mk (blk_below (by (with_reducible repeat (first | refine blk_drewN ?_ _ | refine blk_drew ?_ | refine blk_alloc ?_ _)); exact BK2.out) hb); have n2_ := Aside0.mk (below_step (by repeat (first | (with_reducible first | exact HB.out | apply below_alloc | apply pw_below_drewN | apply below_drew1 | refine below_set ?_ GE6.out) | exact HB.out)) hb); clear BK6; clear BK2; clear HB; have BK6 := n0_; have BK2 := n1_; have HB := n2_; clear n0_ n1_ n2_; clear hb; have hc6_0 : w6.cell? ⟨g6, 0, none⟩ = some (.int .i64 (k : Int)) := (blk_cell BK6.out 0).trans rfl; have hc6_1 : w6.cell? ⟨g6, 1, none⟩ = some (.int .i64 (x / 128 % 32)) := (blk_cell BK6.out 1).trans rfl; have hc6_2 : w6.cell? ⟨g6, 2, none⟩ = some (.int .i64 0) := (blk_cell BK6.out 2).trans rfl; have hc6_3 : w6.cell? ⟨g6, 3, none⟩ = some (.int .i64 0) := (blk_cell BK6.out 3).trans rfl; have hc6_4 : w6.cell? ⟨g6, 4, none⟩ = some (.int .i64 (imm)) := (blk_cell BK6.out 4).trans rfl; have hf6_0 := blk_frozen BK6.out 0; have hf6_1 := blk_frozen BK6.out 1; have hf6_2 := blk_frozen BK6.out 2; have hf6_3 := blk_frozen BK6.out 3; have hf6_4 := blk_frozen BK6.out 4; have hc2_0 : w6.cell? ⟨g2, 0, none⟩ = some (.int .i64 0) := (blk_cell BK2.out 0).trans rfl; have hc2_1 : w6.cell? ⟨g2, 1, none⟩ = some (.int .i64 0) := (blk_cell BK2.out 1).trans rfl; have hc2_2 : w6.cell? ⟨g2, 2, none⟩ = some (.int .i64 0) := (blk_cell BK2.out 2).trans rfl; have hc2_3 : w6.cell? ⟨g2, 3, none⟩ = some (.int .i64 0) := (blk_cell BK2.out 3).trans rfl; have hc2_4 : w6.cell? ⟨g2, 4, none⟩ = some (.int .i64 0) := (blk_cell BK2.out 4).trans rfl; have hf2_0 := blk_frozen BK2.out 0; have hf2_1 := blk_frozen BK2.out 1; have hf2_2 := blk_frozen BK2.out 2; have hf2_3 := blk_frozen BK2.out 3; have hf2_4 := blk_frozen BK2.out 4))
          go_roundg (55 - k)
          case measure => omega
          case rel => exact ⟨k + 1, by omega, by omega, by omega, by simp, BK2, HB, ⟨rd_no HROW.out HNO.out HNH.out⟩⟩
        ·have HNH := Aside0.mk (fun h => by have hh := HHIT.out.1 h; exact hr1 hh.2 : ¬ Hit ⟨k, 85, o, s3, s7⟩ x)
         go_wp2_with (first | (go_at_call 10; (with_reducible refine (hauberkref02_Encode.calls 100 (k : Int) (x / 128 % 32) (0) (0) (imm) r0 r1 _ HEN.out).mono ?_); rintro e w6 ⟨rfl, hb⟩; have n0_ := Aside0.mk (blk_below (by (with_reducible repeat (first | refine blk_drewN ?_ _ | refine blk_drew ?_ | refine blk_alloc ?_ _)); exact BK6.out) hb); have n1_ := Aside0.mk (blk_below (by (with_reducible repeat (first | refine blk_drewN ?_ _ | refine blk_drew ?_ | refine blk_alloc ?_ _)); exact BK2.out) hb); have n2_ := Aside0.mk (below_step (by repeat (first | (with_reducible first | exact HB.out | apply below_alloc | apply pw_below_drewN | apply below_drew1 | refine below_set ?_ GE6.out) | exact HB.out)) hb); clear BK6; clear BK2; clear HB; have BK6 := n0_; have BK2 := n1_; have HB := n2_; clear n0_ n1_ n2_; clear hb; have hc6_0 : w6.cell? ⟨g6, 0, none⟩ = some (.int .i64 (k : Int)) := (blk_cell BK6.out 0).trans rfl; have hc6_1 : w6.cell? ⟨g6, 1, none⟩ = some (.int .i64 (x / 128 % 32)) := (blk_cell BK6.out 1).trans rfl; have hc6_2 : w6.cell? ⟨g6, 2, none⟩ = some (.int .i64 0) := (blk_cell BK6.out 2).trans rfl; have hc6_3 : w6.cell? ⟨g6, 3, none⟩ = some (.int .i64 0) := (blk_cell BK6.out 3).trans rfl; have hc6_4 : w6.cell? ⟨g6, 4, none⟩ = some (.int .i64 (imm)) := (blk_cell BK6.out 4).trans rfl; have hf6_0 := blk_frozen BK6.out 0; have hf6_1 := blk_frozen BK6.out 1; have hf6_2 := blk_frozen BK6.out 2; have hf6_3 := blk_frozen BK6.out 3; have hf6_4 := blk_frozen BK6.out 4; have hc2_0 : w6.cell? ⟨g2, 0, none⟩ = some (.int .i64 0) := (blk_cell BK2.out 0).trans rfl; have hc2_1 : w6.cell? ⟨g2, 1, none⟩ = some (.int .i64 0) := (blk_cell BK2.out 1).trans rfl; have hc2_2 : w6.cell? ⟨g2, 2, none⟩ = some (.int .i64 0) := (blk_cell BK2.out 2).trans rfl; have hc2_3 : w6.cell? ⟨g2, 3, none⟩ = some (.int .i64 0) := (blk_cell BK2.out 3).trans rfl; have hc2_4 : w6.cell? ⟨g2, 4, none⟩ = some (.int .i64 0) := (blk_cell BK2.out 4).trans rfl; have hf2_0 := blk_frozen BK2.out 0; have hf2_1 := blk_frozen BK2.out 1; have hf2_2 := blk_frozen BK2.out 2; have hf2_3 := blk_frozen BK2.out 3; have hf2_4 := blk_frozen BK2.out 4))
         go_roundg (55 - k)
         case measure => omega
         case rel => exact ⟨k + 1, by omega, by omega, by omega, by simp, BK2, HB, ⟨rd_no HROW.out HNO.out HNH.out⟩⟩
   ·as_aux_lemma =>
     obtain ⟨imm, himm⟩ : ∃ v : Int, sgn 2097152 (2 * (x / 2097152 % 1024) + 2048 * (x / 1048576 % 2) + 4096 * (x / 4096 % 256) + 1048576 * (x / 2147483648)) = v := ⟨_, rfl⟩
     have HD := Aside0.mk (by rw [← himm]; rfl : Dec 74 x = (x / 128 % 32, 0, 0, imm))
     have HOF := Aside0.mk (by rw [hauberkref02_Of.f, hent] : hauberkref02_Of.f (k : Int) = some (74, o, s3, s7))
     have HIMM := Aside0.mk himm
     clear himm hent
     go_upto_region 6 with (fail)
     go_cut [9] (fun v9 wc => ∃ g9, v9 = .pointer (some ⟨g9, 0, none⟩) ∧ Aside0 (wc.heap[g9]? = some (.cells #[.int .u8 74, .int .i64 o, .int .i64 s3, .int .i64 s7] 62 (0, 0))) ∧ Aside0 (wc.heap[g2]? = some (.cells #[.int .i64 0, .int .i64 0, .int .i64 0, .int .i64 0, .int .i64 0] 29 (0, 0))) ∧ Aside0 (Below w.heap.size w wc))
     case first =>
      go_wp2_with (first | (go_at_call 18; (with_reducible refine (hauberkref02_Of.calls (k : Int) 74 o s3 s7 _ HOF.out).mono ?_); rintro e w5 ⟨rfl, hb⟩; have n0_ := Aside0.mk (blk_below (by (with_reducible repeat (first | refine blk_drewN ?_ _ | refine blk_drew ?_ | refine blk_alloc ?_ _)); exact BK2.out) hb); have n1_ := Aside0.mk (below_step (by repeat (first | (with_reducible first | exact HB.out | apply below_alloc | apply pw_below_drewN | apply below_drew1 | refine below_set ?_ GE2.out) | exact HB.out)) hb); clear BK2; clear HB; have BK2 := n0_; have HB := n1_; clear n0_ n1_; clear hb))
      go_meet
      case rel => exact ⟨_, rfl, ⟨heap_alloc_new _ _⟩, ⟨blk_al BK2.out _⟩, ⟨HB.out.alloc HB.out.size _⟩⟩
     case rest =>
      clear BK2 HB
      obtain ⟨g9, rfl, BK9, BK2, HB⟩ := hcut
      go_upto_region 7 with (fail)
      go_cut [10] (fun v10 wc => ∃ g6, v10 = .pointer (some ⟨g6, 0, none⟩) ∧ Aside0 (wc.heap[g6]? = some (.cells #[.int .i64 (k : Int), .int .i64 (x / 128 % 32), .int .i64 (x / 32768 % 32), .int .i64 0, .int .i64 0] 29 (0, 0))) ∧ Aside0 (wc.heap[g9]? = some (.cells #[.int .u8 74, .int .i64 o, .int .i64 s3, .int .i64 s7] 62 (0, 0))) ∧ Aside0 (g2 ≠ g6) ∧ Aside0 (w.heap.size ≤ g6) ∧ Aside0 (wc.heap[g2]? = some (.cells #[.int .i64 0, .int .i64 0, .int .i64 0, .int .i64 0, .int .i64 0] 29 (0, 0))) ∧ Aside0 (Below w.heap.size w wc))
      case first =>
       go_wp2
       go_meet
       case rel => exact ⟨_, rfl, ⟨heap_alloc_new _ _⟩, ⟨blk_al BK9.out _⟩, ⟨Nat.ne_of_lt (blk_lt BK2.out)⟩, ⟨HB.out.size⟩, ⟨blk_al BK2.out _⟩, ⟨HB.out.alloc HB.out.size _⟩⟩
      case rest =>
       clear BK9 BK2 HB
       obtain ⟨g6, rfl, BK6, BK9, NB2_6, GE6, BK2, HB⟩ := hcut
       have hc9_0 : wc.cell? ⟨g9, 0, none⟩ = some (.int .u8 74) := (blk_cell BK9.out 0).trans rfl
       have hc9_1 : wc.cell? ⟨g9, 1, none⟩ = some (.int .i64 o) := (blk_cell BK9.out 1).trans rfl
       have hc9_2 : wc.cell? ⟨g9, 2, none⟩ = some (.int .i64 s3) := (blk_cell BK9.out 2).trans rfl
       have hc9_3 : wc.cell? ⟨g9, 3, none⟩ = some (.int .i64 s7) := (blk_cell BK9.out 3).trans rfl
       have hf9_0 := blk_frozen BK9.out 0
       have hf9_1 := blk_frozen BK9.out 1
       have hf9_2 := blk_frozen BK9.out 2
       have hf9_3 := blk_frozen BK9.out 3
       have hc6_0 : wc.cell? ⟨g6, 0, none⟩ = some (.int .i64 (k : Int)) := (blk_cell BK6.out 0).trans rfl
       have hc6_1 : wc.cell? ⟨g6, 1, none⟩ = some (.int .i64 (x / 128 % 32)) := (blk_cell BK6.out 1).trans rfl
       have hc6_2 : wc.cell? ⟨g6, 2, none⟩ = some (.int .i64 (x / 32768 % 32)) := (blk_cell BK6.out 2).trans rfl
       have hc6_3 : wc.cell? ⟨g6, 3, none⟩ = some (.int .i64 0) := (blk_cell BK6.out 3).trans rfl
       have hc6_4 : wc.cell? ⟨g6, 4, none⟩ = some (.int .i64 0) := (blk_cell BK6.out 4).trans rfl
       have hf6_0 := blk_frozen BK6.out 0
       have hf6_1 := blk_frozen BK6.out 1
       have hf6_2 := blk_frozen BK6.out 2
       have hf6_3 := blk_frozen BK6.out 3
       have hf6_4 := blk_frozen BK6.out 4
       go_upto_block 2 with (fail)
       go_cut [] (fun wc => Aside0 (wc.heap[g6]? = some (.cells #[.int .i64 (k : Int), .int .i64 (x / 128 % 32), .int .i64 0, .int .i64 0, .int .i64 (imm)] 29 (0, 0))) ∧ Aside0 (wc.heap[g2]? = some (.cells #[.int .i64 0, .int .i64 0, .int .i64 0, .int .i64 0, .int .i64 0] 29 (0, 0))) ∧ Aside0 (Below w.heap.size w wc))
       case first =>
        have HS := Aside0.mk (by first | exact HIMM.out | (rw [← HIMM.out]; congr 1; omega) : sgn 2097152 (2 * (x / 2097152 % 1024) + 2048 * (x / 1048576 % 2) + 4096 * (x / 4096 % 256) + 1048576 * (x / 2147483648)) = imm)
        go_wp2_with (first | (go_at_call 21; refine (sg_2097152 _ (by omega) (by omega) _).mono ?_; rintro e w' ⟨rfl, hw⟩; obtain rfl := hw.symm; clear hw; rw [HS.out]))
        go_meet
        case rel => exact ⟨⟨blk_put (cs := #[.int .i64 (k : Int), .int .i64 (x / 128 % 32), .int .i64 0, .int .i64 0, .int .i64 0]) (blk_put (cs := #[.int .i64 (k : Int), .int .i64 (x / 128 % 32), .int .i64 0, .int .i64 0, .int .i64 0]) (blk_put (cs := #[.int .i64 (k : Int), .int .i64 (x / 128 % 32), .int .i64 (x / 32768 % 32), .int .i64 0, .int .i64 0]) (blk_put (cs := #[.int .i64 (k : Int), .int .i64 (x / 128 % 32), .int .i64 (x / 32768 % 32), .int .i64 0, .int .i64 0]) (blk_put (cs := #[.int .i64 (k : Int), .int .i64 (x / 128 % 32), .int .i64 (x / 32768 % 32), .int .i64 0, .int .i64 0]) (BK6.out) 0 _ rfl) 1 _ rfl) 2 _ rfl) 3 _ rfl) 4 _ rfl⟩, ⟨by rw [Below.heap_setCell _ _ _ _ NB2_6.out, Below.heap_setCell _ _ _ _ NB2_6.out, Below.heap_setCell _ _ _ _ NB2_6.out, Below.heap_setCell _ _ _ _ NB2_6.out, Below.heap_setCell _ _ _ _ NB2_6.out]; exact BK2.out⟩, ⟨(((((HB.out.setCell GE6.out _).setCell GE6.out _).setCell GE6.out _).setCell GE6.out _).setCell GE6.out _)⟩⟩
       case rest =>
        clear BK6 BK9 BK2 HB hc9_0 hc9_1 hc9_2 hc9_3 hf9_0 hf9_1 hf9_2 hf9_3 hc6_0 hc6_1 hc6_2 hc6_3 hc6_4 hf6_0 hf6_1 hf6_2 hf6_3 hf6_4
        obtain ⟨BK6, BK2, HB⟩ := hcut
        have hc6_0 : wc.cell? ⟨g6, 0, none⟩ = some (.int .i64 (k : Int)) := (blk_cell BK6.out 0).trans rfl
        have hc6_1 : wc.cell? ⟨g6, 1, none⟩ = some (.int .i64 (x / 128 % 32)) := (blk_cell BK6.out 1).trans rfl
        have hc6_2 : wc.cell? ⟨g6, 2, none⟩ = some (.int .i64 0) := (blk_cell BK6.out 2).trans rfl
        have hc6_3 : wc.cell? ⟨g6, 3, none⟩ = some (.int .i64 0) := (blk_cell BK6.out 3).trans rfl
        have hc6_4 : wc.cell? ⟨g6, 4, none⟩ = some (.int .i64 (imm)) := (blk_cell BK6.out 4).trans rfl
        have hf6_0 := blk_frozen BK6.out 0
        have hf6_1 := blk_frozen BK6.out 1
        have hf6_2 := blk_frozen BK6.out 2
        have hf6_3 := blk_frozen BK6.out 3
        have hf6_4 := blk_frozen BK6.out 4
        obtain ⟨⟨r0, r1⟩, hen⟩ : ∃ r, enc_r (k : Int) (x / 128 % 32) (0) (0) (imm) = r := ⟨_, rfl⟩
        have HEN := Aside0.mk ((ref_enc (k : Int) (x / 128 % 32) (0) (0) (imm)).trans (congrArg some hen))
        have HHIT := Aside0.mk (dec_hit ⟨k, 74, o, s3, s7⟩ x HD.out (congrArg some hen))
        clear hen
        by_cases hr1 : r1 = 0
        ·by_cases hr0 : r0 = x
         ·have HH := Aside0.mk (HHIT.out.2 ⟨hr0, hr1⟩)
          go_wp2_with (first | (go_at_call 10; (with_reducible refine (hauberkref02_Encode.calls 100 (k : Int) (x / 128 % 32) (0) (0) (imm) r0 r1 _ HEN.out).mono ?_); rintro e w6 ⟨rfl, hb⟩; have n0_ := Aside0.mk (blk_below (by (with_reducible repeat (first | refine blk_drewN ?_ _ | refine blk_drew ?_ | refine blk_alloc ?_ _)); exact BK6.out) hb); have n1_ := Aside0.mk (blk_below (by (with_reducible repeat (first | refine blk_drewN ?_ _ | refine blk_drew ?_ | refine blk_alloc ?_ _)); exact BK2.out) hb); have n2_ := Aside0.mk (below_step (by repeat (first | (with_reducible first | exact HB.out | apply below_alloc | apply pw_below_drewN | apply below_drew1 | refine below_set ?_ GE6.out) | exact HB.out)) hb); clear BK6; clear BK2; clear HB; have BK6 := n0_; have BK2 := n1_; have HB := n2_; clear n0_ n1_ n2_; clear hb; have hc6_0 : w6.cell? ⟨g6, 0, none⟩ = some (.int .i64 (k : Int)) := (blk_cell BK6.out 0).trans rfl; have hc6_1 : w6.cell? ⟨g6, 1, none⟩ = some (.int .i64 (x / 128 % 32)) := (blk_cell BK6.out 1).trans rfl; have hc6_2 : w6.cell? ⟨g6, 2, none⟩ = some (.int .i64 0) := (blk_cell BK6.out 2).trans rfl; have hc6_3 : w6.cell? ⟨g6, 3, none⟩ = some (.int .i64 0) := (blk_cell BK6.out 3).trans rfl; have hc6_4 : w6.cell? ⟨g6, 4, none⟩ = some (.int .i64 (imm)) := (blk_cell BK6.out 4).trans rfl; have hf6_0 := blk_frozen BK6.out 0; have hf6_1 := blk_frozen BK6.out 1; have hf6_2 := blk_frozen BK6.out 2; have hf6_3 := blk_frozen BK6.out 3; have hf6_4 := blk_frozen BK6.out 4; have hc2_0 : w6.cell? ⟨g2, 0, none⟩ = some (.int .i64 0) := (blk_cell BK2.out 0).trans rfl; have hc2_1 : w6.cell? ⟨g2, 1, none⟩ = some (.int .i64 0) := (blk_cell BK2.out 1).trans rfl; have hc2_2 : w6.cell? ⟨g2, 2, none⟩ = some (.int .i64 0) := (blk_cell BK2.out 2).trans rfl; have hc2_3 : w6.cell? ⟨g2, 3, none⟩ = some (.int .i64 0) := (blk_cell BK2.out 3).trans rfl; have hc2_4 : w6.cell? ⟨g2, 4, none⟩ = some (.int .i64 0) := (blk_cell BK2.out 4).trans rfl; have hf2_0 := blk_frozen BK2.out 0; have hf2_1 := blk_frozen BK2.out 1; have hf2_2 := blk_frozen BK2.out 2; have hf2_3 := blk_frozen BK2.out 3; have hf2_4 := blk_frozen BK2.out 4))
          refine bodyPost_ret (rd_res _ _ g2 _ (0, 0) rfl (dec_put5 BK2.out _ _ _ _ _) rfl) rfl ?_
          exact ⟨.inl ⟨⟨k, 74, o, s3, s7⟩, HROW.out, HH.out, by simp only [HD.out]; rfl⟩, ((((HB.out.setCell GE2.out _).setCell GE2.out _).setCell GE2.out _).setCell GE2.out _).setCell GE2.out _⟩
         ·have HNH := Aside0.mk (fun h => by have hh := HHIT.out.1 h; exact hr0 hh.1 : ¬ Hit ⟨k, 74, o, s3, s7⟩ x)
          go_wp2_with (first | (go_at_call 10; (with_reducible refine (hauberkref02_Encode.calls 100 (k : Int) (x / 128 % 32) (0) (0) (imm) r0 r1 _ HEN.out).mono ?_); rintro e w6 ⟨rfl, hb⟩; have n0_ := Aside0.mk (blk_below (by (with_reducible repeat (first | refine blk_drewN ?_ _ | refine blk_drew ?_ | refine blk_alloc ?_ _)); exact BK6.out) hb); have n1_ := Aside0.mk (blk_below (by (with_reducible repeat (first | refine blk_drewN ?_ _ | refine blk_drew ?_ | refine blk_alloc ?_ _)); exact BK2.out) hb); have n2_ := Aside0.mk (below_step (by repeat (first | (with_reducible first | exact HB.out | apply below_alloc | apply pw_below_drewN | apply below_drew1 | refine below_set ?_ GE6.out) | exact HB.out)) hb); clear BK6; clear BK2; clear HB; have BK6 := n0_; have BK2 := n1_; have HB := n2_; clear n0_ n1_ n2_; clear hb; have hc6_0 : w6.cell? ⟨g6, 0, none⟩ = some (.int .i64 (k : Int)) := (blk_cell BK6.out 0).trans rfl; have hc6_1 : w6.cell? ⟨g6, 1, none⟩ = some (.int .i64 (x / 128 % 32)) := (blk_cell BK6.out 1).trans rfl; have hc6_2 : w6.cell? ⟨g6, 2, none⟩ = some (.int .i64 0) := (blk_cell BK6.out 2).trans rfl; have hc6_3 : w6.cell? ⟨g6, 3, none⟩ = some (.int .i64 0) := (blk_cell BK6.out 3).trans rfl; have hc6_4 : w6.cell? ⟨g6, 4, none⟩ = some (.int .i64 (imm)) := (blk_cell BK6.out 4).trans rfl; have hf6_0 := blk_frozen BK6.out 0; have hf6_1 := blk_frozen BK6.out 1; have hf6_2 := blk_frozen BK6.out 2; have hf6_3 := blk_frozen BK6.out 3; have hf6_4 := blk_frozen BK6.out 4; have hc2_0 : w6.cell? ⟨g2, 0, none⟩ = some (.int .i64 0) := (blk_cell BK2.out 0).trans rfl; have hc2_1 : w6.cell? ⟨g2, 1, none⟩ = some (.int .i64 0) := (blk_cell BK2.out 1).trans rfl; have hc2_2 : w6.cell? ⟨g2, 2, none⟩ = some (.int .i64 0) := (blk_cell BK2.out 2).trans rfl; have hc2_3 : w6.cell? ⟨g2, 3, none⟩ = some (.int .i64 0) := (blk_cell BK2.out 3).trans rfl; have hc2_4 : w6.cell? ⟨g2, 4, none⟩ = some (.int .i64 0) := (blk_cell BK2.out 4).trans rfl; have hf2_0 := blk_frozen BK2.out 0; have hf2_1 := blk_frozen BK2.out 1; have hf2_2 := blk_frozen BK2.out 2; have hf2_3 := blk_frozen BK2.out 3; have hf2_4 := blk_frozen BK2.out 4))
          go_roundg (55 - k)
          case measure => omega
          case rel => exact ⟨k + 1, by omega, by omega, by omega, by simp, BK2, HB, ⟨rd_no HROW.out HNO.out HNH.out⟩⟩
        ·have HNH := Aside0.mk (fun h => by have hh := HHIT.out.1 h; exact hr1 hh.2 : ¬ Hit ⟨k, 74, o, s3, s7⟩ x)
         go_wp2_with (first | (go_at_call 10; (with_reducible refine (hauberkref02_Encode.calls 100 (k : Int) (x / 128 % 32) (0) (0) (imm) r0 r1 _ HEN.out).mono ?_); rintro e w6 ⟨rfl, hb⟩; have n0_ := Aside0.mk (blk_below (by (with_reducible repeat (first | refine blk_drewN ?_ _ | refine blk_drew ?_ | refine blk_alloc ?_ _)); exact BK6.out) hb); have n1_ := Aside0.mk (blk_below (by (with_reducible repeat (first | refine blk_drewN ?_ _ | refine blk_drew ?_ | refine blk_alloc ?_ _)); exact BK2.out) hb); have n2_ := Aside0.mk (below_step (by repeat (first | (with_reducible first | exact HB.out | apply below_alloc | apply pw_below_drewN | apply below_drew1 | refine below_set ?_ GE6.out) | exact HB.out)) hb); clear BK6; clear BK2; clear HB; have BK6 := n0_; have BK2 := n1_; have HB := n2_; clear n0_ n1_ n2_; clear hb; have hc6_0 : w6.cell? ⟨g6, 0, none⟩ = some (.int .i64 (k : Int)) := (blk_cell BK6.out 0).trans rfl; have hc6_1 : w6.cell? ⟨g6, 1, none⟩ = some (.int .i64 (x / 128 % 32)) := (blk_cell BK6.out 1).trans rfl; have hc6_2 : w6.cell? ⟨g6, 2, none⟩ = some (.int .i64 0) := (blk_cell BK6.out 2).trans rfl; have hc6_3 : w6.cell? ⟨g6, 3, none⟩ = some (.int .i64 0) := (blk_cell BK6.out 3).trans rfl; have hc6_4 : w6.cell? ⟨g6, 4, none⟩ = some (.int .i64 (imm)) := (blk_cell BK6.out 4).trans rfl; have hf6_0 := blk_frozen BK6.out 0; have hf6_1 := blk_frozen BK6.out 1; have hf6_2 := blk_frozen BK6.out 2; have hf6_3 := blk_frozen BK6.out 3; have hf6_4 := blk_frozen BK6.out 4; have hc2_0 : w6.cell? ⟨g2, 0, none⟩ = some (.int .i64 0) := (blk_cell BK2.out 0).trans rfl; have hc2_1 : w6.cell? ⟨g2, 1, none⟩ = some (.int .i64 0) := (blk_cell BK2.out 1).trans rfl; have hc2_2 : w6.cell? ⟨g2, 2, none⟩ = some (.int .i64 0) := (blk_cell BK2.out 2).trans rfl; have hc2_3 : w6.cell? ⟨g2, 3, none⟩ = some (.int .i64 0) := (blk_cell BK2.out 3).trans rfl; have hc2_4 : w6.cell? ⟨g2, 4, none⟩ = some (.int .i64 0) := (blk_cell BK2.out 4).trans rfl; have hf2_0 := blk_frozen BK2.out 0; have hf2_1 := blk_frozen BK2.out 1; have hf2_2 := blk_frozen BK2.out 2; have hf2_3 := blk_frozen BK2.out 3; have hf2_4 := blk_frozen BK2.out 4))
         go_roundg (55 - k)
         case measure => omega
         case rel => exact ⟨k + 1, by omega, by omega, by omega, by simp, BK2, HB, ⟨rd_no HROW.out HNO.out HNH.out⟩⟩
  ·have hgt : 55 < (k : Int) := by omega
   have HNO2 := Aside0.mk (fun r hr => HNO.out r hr (by have := rd_all r hr; omega) : ∀ r ∈ cm_e13, ¬ Hit r x)
   have hc2_0 : wr.cell? ⟨g2, 0, none⟩ = some (.int .i64 0) := (blk_cell BK2.out 0).trans rfl
   have hc2_1 : wr.cell? ⟨g2, 1, none⟩ = some (.int .i64 0) := (blk_cell BK2.out 1).trans rfl
   have hc2_2 : wr.cell? ⟨g2, 2, none⟩ = some (.int .i64 0) := (blk_cell BK2.out 2).trans rfl
   have hc2_3 : wr.cell? ⟨g2, 3, none⟩ = some (.int .i64 0) := (blk_cell BK2.out 3).trans rfl
   have hc2_4 : wr.cell? ⟨g2, 4, none⟩ = some (.int .i64 0) := (blk_cell BK2.out 4).trans rfl
   have hf2_0 := blk_frozen BK2.out 0
   have hf2_1 := blk_frozen BK2.out 1
   have hf2_2 := blk_frozen BK2.out 2
   have hf2_3 := blk_frozen BK2.out 3
   have hf2_4 := blk_frozen BK2.out 4
   go_wp2
   refine bodyPost_ret (rd_res _ _ g2 _ (0, 0) rfl (dec_put5 BK2.out _ _ _ _ _) rfl) rfl ?_
   exact ⟨.inr ⟨HNO2.out, rfl⟩, ((((HB.out.setCell GE2.out _).setCell GE2.out _).setCell GE2.out _).setCell GE2.out _).setCell GE2.out _⟩
def hauberkref02_Decode.f (k : Nat) (x : Int) : Option (Int × Int × Int × Int × Int × Bool) := if 0 ≤ x ∧ x < 4294967296 then some ((dec_r x).1, (dec_r x).2.1, (dec_r x).2.2.1, (dec_r x).2.2.2.1, (dec_r x).2.2.2.2.1, (dec_r x).2.2.2.2.2 == 0) else none
theorem hauberkref02_Decode.calls (k : Nat) (x r0 r1 r2 r3 r4 : Int) (r5 : Bool) (w : World) (h : hauberkref02_Decode.f k x = some (r0, r1, r2, r3, r4, r5)) :
  Calls Try.prog 12 #[.int .u32 x] w fun e w' => e = .returned (.tuple #[.agg #[.int .i64 r0, .int .i64 r1, .int .i64 r2, .int .i64 r3, .int .i64 r4], .bool r5]) ∧ Below w.heap.size w w' := by
 unfold hauberkref02_Decode.f at h
 split at h
 ·rename_i hx
  have h' := Option.some.inj h
  refine (refdec_calls x hx.1 hx.2 w).mono ?_
  rintro e w' ⟨h1, h2⟩
  refine ⟨?_, h2⟩
  unfold dec_r at h'
  rcases h1 with ⟨r, hr, hh, rfl⟩ | ⟨hn, rfl⟩
  ·cases hf : dec_fi x with
   | none => exact absurd hh (dec_fi_none hf r hr)
   | some s =>
    obtain ⟨hs, h3⟩ := dec_fi_some hf
    obtain rfl := hit_one hr hs hh h3
    rw [hf] at h'
    simp only [Prod.mk.injEq] at h'
    obtain ⟨rfl, rfl, rfl, rfl, rfl, rfl⟩ := h'
    rfl
  ·cases hf : dec_fi x with
   | none =>
    rw [hf] at h'
    simp only [Prod.mk.injEq] at h'
    obtain ⟨rfl, rfl, rfl, rfl, rfl, rfl⟩ := h'
    rfl
   | some s => exact absurd (dec_fi_some hf).2 (hn s (dec_fi_some hf).1)
 ·cases h

end Go.Proofs.Ytkacoffiinggiaa.K
