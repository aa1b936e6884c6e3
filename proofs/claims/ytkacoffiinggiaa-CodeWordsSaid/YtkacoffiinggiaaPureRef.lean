/- The reference's word of an instruction is the program's (plain). Conditions: those of each theorem. -/
import Derived.Test.YtkacoffiinggiaaK11
import Derived.Test.YtkacoffiinggiaaK12
namespace Go.Proofs.Ytkacoffiinggiaa.K
set_option linter.unusedVariables false
set_option linter.unusedSimpArgs false
open Go.RowKit Go.Proofs.YtkacoffiinggiaaW.PrintWords Go.Proofs.YtkacoffiinggiaaW.PrintLast Go.Proofs.YtkacoffiinggiaaW.PrintMore
theorem w64 {n : Int} (h0 : -9223372036854775808 ≤ n) (h1 : n ≤ 9223372036854775807) : wrap64 n = n := by
  unfold wrap64
  omega
theorem encF_two {ok : Bool} {sf so s3 s7 lo hi rd rs1 rs2 imm : Int} (h : ok = false ∨ (lo > hi ∧ imm ≠ 0)) : encF ok sf so s3 s7 lo hi rd rs1 rs2 imm = (0, 2) := by
  unfold encF
  by_cases h1 : ok = false
  · rw [if_pos h1]
  · rw [if_neg h1, if_pos (h.resolve_left h1)]
theorem encF_one {ok : Bool} {sf so s3 s7 lo hi rd rs1 rs2 imm : Int} (h0 : ok = true) (h2 : lo > hi → imm = 0) (h : (rd < 0 ∨ rd > 31 ∨ rs1 < 0 ∨ rs1 > 31 ∨ rs2 < 0 ∨ rs2 > 31) ∨ en_far lo hi imm (en_odd sf imm) = true) : encF ok sf so s3 s7 lo hi rd rs1 rs2 imm = (0, 1) := by
  unfold encF
  rw [if_neg (by simp [h0]), if_neg (fun hh => hh.2 (h2 hh.1))]
  split
  · rfl
  · rename_i hn
    rw [if_pos (h.resolve_left hn)]
theorem en_ok_false {u0 u1 u2 : Bool} {a b c : Int} (h : (u0 = false ∧ a ≠ 0) ∨ (u1 = false ∧ b ≠ 0) ∨ (u2 = false ∧ c ≠ 0)) : en_ok true u0 u1 u2 a b c 3 = false := by
  rw [Bool.eq_false_iff]
  intro hh
  have := (en_ok_iff u0 u1 u2 a b c).1 hh
  rcases h with ⟨h1, h2⟩ | ⟨h1, h2⟩ | ⟨h1, h2⟩
  · exact h2 (this.1 h1)
  · exact h2 (this.2.1 h1)
  · exact h2 (this.2.2 h1)
theorem en_far_yes {lo hi imm : Int} {odd : Bool} (h : lo ≤ hi) (h2 : imm < lo ∨ imm > hi ∨ odd = true) : en_far lo hi imm odd = true := by
  unfold en_far
  rw [decide_eq_true h]
  rcases h2 with h2 | h2 | h2
  · rw [decide_eq_true h2]; rfl
  · rw [decide_eq_true h2]; simp
  · rw [h2]; simp
theorem en_odd_yes (f imm : Int) (h : f = 66 ∨ f = 74) (h2 : imm % 2 = 1) : en_odd f imm = true := by
  cases hc : en_odd f imm with
  | true => rfl
  | false => have := (en_odd_is f imm h).1 hc; omega
theorem bits_l1 (k : Nat) (x : Int) (hx0 : 0 ≤ x) : ∀ (m : Nat) (x8 x9 : Int), 0 < x8 → x8 * 2 ^ m ≤ 1073741824 → 0 ≤ x9 → x9 + m ≤ 100 → hauberkref02_bits.l1 (k + m + 1) x (x9 + m) x8 x9 = some (x % (x8 * 2 ^ m))
  | 0, x8, x9, h1, h2, h3, h4 => by
    rw [hauberkref02_bits.l1, if_neg (by omega), if_neg (by omega), Int.tmod_eq_emod_of_nonneg hx0]
    simp
  | m + 1, x8, x9, h1, h2, h3, h4 => by
    have hp : (1 : Int) ≤ 2 ^ m := by exact_mod_cast Nat.one_le_two_pow
    have e : x8 * 2 ^ (m + 1) = x8 * 2 * 2 ^ m := by rw [Int.pow_succ, Int.mul_comm (2 ^ m) 2, Int.mul_assoc]
    rw [e] at h2 ⊢
    have hb : x8 * 2 ≤ 1073741824 := by
      have : x8 * 2 * 1 ≤ x8 * 2 * 2 ^ m := Int.mul_le_mul_of_nonneg_left hp (by omega)
      omega
    rw [show k + (m + 1) + 1 = (k + m + 1) + 1 by omega, hauberkref02_bits.l1, if_pos (by omega), w64 (by omega) (by omega), w64 (by omega) (by omega)]
    have := bits_l1 k x hx0 m (x8 * 2) (x9 + 1) (by omega) h2 (by omega) (by omega)
    rw [show x9 + ((m + 1 : Nat) : Int) = x9 + 1 + (m : Int) by omega]
    exact this
theorem bits_l0 (k : Nat) (x2 : Int) : ∀ (m : Nat) (x x7 : Int), 0 ≤ x → x ≤ 4611686018427387904 → 0 ≤ x7 → x7 + m ≤ 100 → hauberkref02_bits.l0 (k + m + 1) x (x7 + m) x2 x7 = hauberkref02_bits.l1 k (x / 2 ^ m) x2 1 0
  | 0, x, x7, h1, h2, h3, h4 => by
    rw [hauberkref02_bits.l0, if_neg (by omega)]
    simp
  | m + 1, x, x7, h1, h2, h3, h4 => by
    rw [show k + (m + 1) + 1 = (k + m + 1) + 1 by omega, hauberkref02_bits.l0, if_pos (by omega), Int.tdiv_eq_ediv_of_nonneg h1, w64 (by omega) (by omega), w64 (by omega) (by omega)]
    have := bits_l0 k x2 m (x / 2) (x7 + 1) (by omega) (by omega) (by omega) (by omega)
    rw [show x7 + ((m + 1 : Nat) : Int) = x7 + 1 + (m : Int) by omega]
    rw [this]
    congr 1
    rw [Int.pow_succ, Int.mul_comm, Int.ediv_ediv_of_nonneg (by decide)]
/-- n of a number's bits, from one on. -/
theorem bits_f (k : Nat) (x : Int) (i n : Nat) (A B : Int) (hA : (2 : Int) ^ i = A) (hB : (2 : Int) ^ n = B) (hi : i ≤ 30) (hn : n ≤ 30) (h0 : -2097152 ≤ x) (h1 : x < 2097152) (h : 70 ≤ k) : hauberkref02_bits.f k x i n = some (x % 2097152 / A % B) := by
  subst hA hB
  have key : ∀ y : Int, 0 ≤ y → y < 4611686018427387904 → hauberkref02_bits.j0 k y i n = some (y / 2 ^ i % 2 ^ n) := fun y hy0 hy1 => by
    obtain ⟨k', rfl⟩ : ∃ k', k = ((k' + n + 1) + i + 1) + 1 := ⟨k - n - i - 3, by omega⟩
    have e1 := bits_l0 (k' + n + 1) n i y 0 hy0 (by omega) (by omega) (by omega)
    have h3 : (2 : Int) ^ n ≤ 2 ^ 30 := by exact_mod_cast Nat.pow_le_pow_right (n := 2) (by decide) hn
    have h4 : (2 : Int) ^ 30 = 1073741824 := by decide
    have e2 := bits_l1 k' (y / 2 ^ i) (Int.ediv_nonneg hy0 (by exact_mod_cast Nat.zero_le _)) n 1 0 (by omega) (by omega) (by omega) (by omega)
    rw [Int.zero_add] at e1 e2
    rw [Int.one_mul] at e2
    show hauberkref02_bits.l0 _ y i n 0 = _
    rw [e1, e2]
  unfold hauberkref02_bits.f
  split
  · rw [w64 (by omega) (by omega), key _ (by omega) (by omega), show x % 2097152 = x + 2097152 by omega]
  · rw [key _ (by omega) (by omega), show x % 2097152 = x by omega]

theorem e2_82 (o s3 s7 rd rs1 rs2 imm : Int) (h : imm ≠ 0) : encF (en_ok true true true true rd rs1 rs2 3) 82 o s3 s7 (1) (0) rd rs1 rs2 imm = (0, 2) := by
  refine encF_two ?_
  exact .inr (by omega)
theorem e1_82 (o s3 s7 rd rs1 rs2 imm : Int) (g : imm = 0) (h : rd < 0 ∨ rd > 31 ∨ rs1 < 0 ∨ rs1 > 31 ∨ rs2 < 0 ∨ rs2 > 31) : encF (en_ok true true true true rd rs1 rs2 3) 82 o s3 s7 (1) (0) rd rs1 rs2 imm = (0, 1) := by
  refine encF_one ((en_ok_iff _ _ _ _ _ _).2 ?_) (fun _ => by omega) ?_
  · simp
  · by_cases hr : rd < 0 ∨ rd > 31 ∨ rs1 < 0 ∨ rs1 > 31 ∨ rs2 < 0 ∨ rs2 > 31
    · exact .inl hr
    · omega
theorem e2_73 (o s3 s7 rd rs1 rs2 imm : Int) (h : rs2 ≠ 0) : encF (en_ok true true true false rd rs1 rs2 3) 73 o s3 s7 (-2048) (2047) rd rs1 rs2 imm = (0, 2) := by
  refine encF_two ?_
  by_cases hu : rs2 ≠ 0
  · refine .inl (en_ok_false ?_)
    simp
    omega
  · exact absurd h hu
theorem e1_73 (o s3 s7 rd rs1 rs2 imm : Int) (g : rs2 = 0) (h : rd < 0 ∨ rd > 31 ∨ rs1 < 0 ∨ rs1 > 31 ∨ rs2 < 0 ∨ rs2 > 31 ∨ imm < -2048 ∨ imm > 2047) : encF (en_ok true true true false rd rs1 rs2 3) 73 o s3 s7 (-2048) (2047) rd rs1 rs2 imm = (0, 1) := by
  refine encF_one ((en_ok_iff _ _ _ _ _ _).2 ?_) (fun _ => by omega) ?_
  · simp
    omega
  · by_cases hr : rd < 0 ∨ rd > 31 ∨ rs1 < 0 ∨ rs1 > 31 ∨ rs2 < 0 ∨ rs2 > 31
    · exact .inl hr
    · refine .inr (en_far_yes (by decide) ?_)
      rcases (by omega : imm < -2048 ∨ imm > 2047) with ho | ho
      · exact .inl ho
      · exact .inr (.inl ho)
theorem e2_84 (o s3 s7 rd rs1 rs2 imm : Int) (h : rs2 ≠ 0) : encF (en_ok true true true false rd rs1 rs2 3) 84 o s3 s7 (0) (63) rd rs1 rs2 imm = (0, 2) := by
  refine encF_two ?_
  by_cases hu : rs2 ≠ 0
  · refine .inl (en_ok_false ?_)
    simp
    omega
  · exact absurd h hu
theorem e1_84 (o s3 s7 rd rs1 rs2 imm : Int) (g : rs2 = 0) (h : rd < 0 ∨ rd > 31 ∨ rs1 < 0 ∨ rs1 > 31 ∨ rs2 < 0 ∨ rs2 > 31 ∨ imm < 0 ∨ imm > 63) : encF (en_ok true true true false rd rs1 rs2 3) 84 o s3 s7 (0) (63) rd rs1 rs2 imm = (0, 1) := by
  refine encF_one ((en_ok_iff _ _ _ _ _ _).2 ?_) (fun _ => by omega) ?_
  · simp
    omega
  · by_cases hr : rd < 0 ∨ rd > 31 ∨ rs1 < 0 ∨ rs1 > 31 ∨ rs2 < 0 ∨ rs2 > 31
    · exact .inl hr
    · refine .inr (en_far_yes (by decide) ?_)
      rcases (by omega : imm < 0 ∨ imm > 63) with ho | ho
      · exact .inl ho
      · exact .inr (.inl ho)
theorem e2_83 (o s3 s7 rd rs1 rs2 imm : Int) (h : rd ≠ 0) : encF (en_ok true false true true rd rs1 rs2 3) 83 o s3 s7 (-2048) (2047) rd rs1 rs2 imm = (0, 2) := by
  refine encF_two ?_
  by_cases hu : rd ≠ 0
  · refine .inl (en_ok_false ?_)
    simp
    omega
  · exact absurd h hu
theorem e1_83 (o s3 s7 rd rs1 rs2 imm : Int) (g : rd = 0) (h : rd < 0 ∨ rd > 31 ∨ rs1 < 0 ∨ rs1 > 31 ∨ rs2 < 0 ∨ rs2 > 31 ∨ imm < -2048 ∨ imm > 2047) : encF (en_ok true false true true rd rs1 rs2 3) 83 o s3 s7 (-2048) (2047) rd rs1 rs2 imm = (0, 1) := by
  refine encF_one ((en_ok_iff _ _ _ _ _ _).2 ?_) (fun _ => by omega) ?_
  · simp
    omega
  · by_cases hr : rd < 0 ∨ rd > 31 ∨ rs1 < 0 ∨ rs1 > 31 ∨ rs2 < 0 ∨ rs2 > 31
    · exact .inl hr
    · refine .inr (en_far_yes (by decide) ?_)
      rcases (by omega : imm < -2048 ∨ imm > 2047) with ho | ho
      · exact .inl ho
      · exact .inr (.inl ho)
theorem e2_66 (o s3 s7 rd rs1 rs2 imm : Int) (h : rd ≠ 0) : encF (en_ok true false true true rd rs1 rs2 3) 66 o s3 s7 (-4096) (4094) rd rs1 rs2 imm = (0, 2) := by
  refine encF_two ?_
  by_cases hu : rd ≠ 0
  · refine .inl (en_ok_false ?_)
    simp
    omega
  · exact absurd h hu
theorem e1_66 (o s3 s7 rd rs1 rs2 imm : Int) (g : rd = 0) (h : rd < 0 ∨ rd > 31 ∨ rs1 < 0 ∨ rs1 > 31 ∨ rs2 < 0 ∨ rs2 > 31 ∨ imm < -4096 ∨ imm > 4094 ∨ imm % 2 = 1) : encF (en_ok true false true true rd rs1 rs2 3) 66 o s3 s7 (-4096) (4094) rd rs1 rs2 imm = (0, 1) := by
  refine encF_one ((en_ok_iff _ _ _ _ _ _).2 ?_) (fun _ => by omega) ?_
  · simp
    omega
  · by_cases hr : rd < 0 ∨ rd > 31 ∨ rs1 < 0 ∨ rs1 > 31 ∨ rs2 < 0 ∨ rs2 > 31
    · exact .inl hr
    · refine .inr (en_far_yes (by decide) ?_)
      by_cases ho : imm < -4096 ∨ imm > 4094
      · rcases ho with ho | ho
        · exact .inl ho
        · exact .inr (.inl ho)
      · exact .inr (.inr (en_odd_yes _ _ (by decide) (by omega)))
theorem e2_85 (o s3 s7 rd rs1 rs2 imm : Int) (h : rs1 ≠ 0 ∨ rs2 ≠ 0) : encF (en_ok true true false false rd rs1 rs2 3) 85 o s3 s7 (-524288) (524287) rd rs1 rs2 imm = (0, 2) := by
  refine encF_two ?_
  by_cases hu : rs1 ≠ 0 ∨ rs2 ≠ 0
  · refine .inl (en_ok_false ?_)
    simp
    omega
  · exact absurd h hu
theorem e1_85 (o s3 s7 rd rs1 rs2 imm : Int) (g : rs1 = 0 ∧ rs2 = 0) (h : rd < 0 ∨ rd > 31 ∨ rs1 < 0 ∨ rs1 > 31 ∨ rs2 < 0 ∨ rs2 > 31 ∨ imm < -524288 ∨ imm > 524287) : encF (en_ok true true false false rd rs1 rs2 3) 85 o s3 s7 (-524288) (524287) rd rs1 rs2 imm = (0, 1) := by
  refine encF_one ((en_ok_iff _ _ _ _ _ _).2 ?_) (fun _ => by omega) ?_
  · simp
    omega
  · by_cases hr : rd < 0 ∨ rd > 31 ∨ rs1 < 0 ∨ rs1 > 31 ∨ rs2 < 0 ∨ rs2 > 31
    · exact .inl hr
    · refine .inr (en_far_yes (by decide) ?_)
      rcases (by omega : imm < -524288 ∨ imm > 524287) with ho | ho
      · exact .inl ho
      · exact .inr (.inl ho)
theorem e2_74 (o s3 s7 rd rs1 rs2 imm : Int) (h : rs1 ≠ 0 ∨ rs2 ≠ 0) : encF (en_ok true true false false rd rs1 rs2 3) 74 o s3 s7 (-1048576) (1048574) rd rs1 rs2 imm = (0, 2) := by
  refine encF_two ?_
  by_cases hu : rs1 ≠ 0 ∨ rs2 ≠ 0
  · refine .inl (en_ok_false ?_)
    simp
    omega
  · exact absurd h hu
theorem e1_74 (o s3 s7 rd rs1 rs2 imm : Int) (g : rs1 = 0 ∧ rs2 = 0) (h : rd < 0 ∨ rd > 31 ∨ rs1 < 0 ∨ rs1 > 31 ∨ rs2 < 0 ∨ rs2 > 31 ∨ imm < -1048576 ∨ imm > 1048574 ∨ imm % 2 = 1) : encF (en_ok true true false false rd rs1 rs2 3) 74 o s3 s7 (-1048576) (1048574) rd rs1 rs2 imm = (0, 1) := by
  refine encF_one ((en_ok_iff _ _ _ _ _ _).2 ?_) (fun _ => by omega) ?_
  · simp
    omega
  · by_cases hr : rd < 0 ∨ rd > 31 ∨ rs1 < 0 ∨ rs1 > 31 ∨ rs2 < 0 ∨ rs2 > 31
    · exact .inl hr
    · refine .inr (en_far_yes (by decide) ?_)
      by_cases ho : imm < -1048576 ∨ imm > 1048574
      · rcases ho with ho | ho
        · exact .inl ho
        · exact .inr (.inl ho)
      · exact .inr (.inr (en_odd_yes _ _ (by decide) (by omega)))
theorem e2_78 (o s3 s7 rd rs1 rs2 imm : Int) (h : rd ≠ 0 ∨ rs1 ≠ 0 ∨ rs2 ≠ 0 ∨ imm ≠ 0) : encF (en_ok true false false false rd rs1 rs2 3) 78 o s3 s7 (1) (0) rd rs1 rs2 imm = (0, 2) := by
  refine encF_two ?_
  by_cases hu : rd ≠ 0 ∨ rs1 ≠ 0 ∨ rs2 ≠ 0
  · refine .inl (en_ok_false ?_)
    simp
    omega
  · exact .inr (by omega)
theorem e1_78 (o s3 s7 rd rs1 rs2 imm : Int) (g : rd = 0 ∧ rs1 = 0 ∧ rs2 = 0 ∧ imm = 0) (h : rd < 0 ∨ rd > 31 ∨ rs1 < 0 ∨ rs1 > 31 ∨ rs2 < 0 ∨ rs2 > 31) : encF (en_ok true false false false rd rs1 rs2 3) 78 o s3 s7 (1) (0) rd rs1 rs2 imm = (0, 1) := by
  refine encF_one ((en_ok_iff _ _ _ _ _ _).2 ?_) (fun _ => by omega) ?_
  · simp
    omega
  · by_cases hr : rd < 0 ∨ rd > 31 ∨ rs1 < 0 ∨ rs1 > 31 ∨ rs2 < 0 ∨ rs2 > 31
    · exact .inl hr
    · omega
theorem wa_r (a b : Int) : wrap64 (a + wrap64 b) = wrap64 (a + b) := by unfold wrap64; omega
theorem wa_l (a b : Int) : wrap64 (wrap64 a + b) = wrap64 (a + b) := by unfold wrap64; omega
theorem tm2 (x : Int) : (Int.tmod x 2 != 0) = decide (x % 2 = 1) := by
  have h : Int.tmod x 2 = 0 ↔ x % 2 = 0 := by
    rw [← Int.dvd_iff_tmod_eq_zero, ← Int.dvd_iff_emod_eq_zero]
  by_cases h2 : x % 2 = 0
  · rw [h.2 h2, decide_eq_false (by omega)]; rfl
  · rw [decide_eq_true (by omega : x % 2 = 1)]
    simp only [bne_iff_ne, ne_eq]
    exact fun hh => h2 (h.1 hh)

theorem ref_j4_82 (m : Nat) (hm : 70 ≤ m) (o s3 s7 op rd rs1 rs2 imm : Int) (he : RowOk ⟨0, 82, o, s3, s7⟩) (hr : 0 ≤ rd ∧ rd < 32 ∧ 0 ≤ rs1 ∧ rs1 < 32 ∧ 0 ≤ rs2 ∧ rs2 < 32) (hi0 : imm = 0) : hauberkref02_Encode.j4 (m + 1) false op rd rs1 rs2 imm 82 o s3 s7 = some (encF (en_ok true true true true rd rs1 rs2 3) 82 o s3 s7 (1) (0) rd rs1 rs2 imm) := by
  obtain ⟨ho, h3, h7, hf⟩ := id he
  simp only at ho h3 h7 hf
  have hx : encF (en_ok true (cf_uses 82).1 (cf_uses 82).2.1 (cf_uses 82).2.2 rd rs1 rs2 3) 82 o s3 s7 (cf_room 82).1 (cf_room 82).2 rd rs1 rs2 imm = (w_base ⟨0, 82, o, s3, s7⟩ rd rs1 rs2, 0) := (enc_iff ⟨0, 82, o, s3, s7⟩ he rd rs1 rs2 imm _).2 ⟨hr, (.inl ⟨rfl, hi0, rfl⟩)⟩
  show _ = some (encF (en_ok true (cf_uses 82).1 (cf_uses 82).2.1 (cf_uses 82).2.2 rd rs1 rs2 3) 82 o s3 s7 (cf_room 82).1 (cf_room 82).2 rd rs1 rs2 imm)
  rw [hx]
  clear hx he
  unfold w_base
  simp only
  rw [hauberkref02_Encode.j4, if_neg (by decide)]
  rw [if_neg (by decide)]
  rw [if_neg (by decide)]
  rw [if_neg (by decide)]
  rw [if_neg (by decide)]
  rw [if_neg (by decide)]
  rw [if_neg (by decide)]
  refine congrArg some (Prod.ext ?_ rfl)
  show _ % 4294967296 = _
  simp only [wa_l, wa_r]
  rw [w64 (by omega) (by omega)]
  omega
set_option maxHeartbeats 2000000 in
theorem ref_82 (m : Nat) (hm : 70 ≤ m) (o s3 s7 op rd rs1 rs2 imm : Int) (he : RowOk ⟨0, 82, o, s3, s7⟩) : hauberkref02_Encode.j0 (m + 5) true true true op rd rs1 rs2 imm 82 o s3 s7 = some (encF (en_ok true true true true rd rs1 rs2 3) 82 o s3 s7 (1) (0) rd rs1 rs2 imm) := by
  have hroom : hauberkref02_Room.f (m + 4) 82 = some (1, 0) := by simp [hauberkref02_Room.f, hauberkref02_Room.j0]
  rw [hauberkref02_Encode.j0, hroom]
  simp only [Option.bind_some]
  rw [if_neg (by decide), if_neg (by decide)]
  have hj : ∀ a b c d e f g h i, hauberkref02_Encode.j4 (m + 1) true a b c d e f g h i = some (0, 1) := fun _ _ _ _ _ _ _ _ _ => by rw [hauberkref02_Encode.j4, if_pos rfl]
  rw [hauberkref02_Encode.j1]
  simp only [hauberkref02_Encode.j2, hauberkref02_Encode.j3, if_true, if_false, Bool.false_eq_true, decide_eq_true_eq, bne_iff_ne, gt_iff_lt, Int.reduceLT, Int.reduceLE, Int.reduceEq, Int.reduceNeg, hj]
  repeat' split
  all_goals first
  | exact (congrArg some (e2_82 o s3 s7 rd rs1 rs2 imm (by omega))).symm
  | exact (congrArg some (e1_82 o s3 s7 rd rs1 rs2 imm (by first | trivial | omega) (by omega))).symm
  | exact ref_j4_82 m hm o s3 s7 op rd rs1 rs2 imm he (by omega) (by omega)
theorem ref_j4_73 (m : Nat) (hm : 70 ≤ m) (o s3 s7 op rd rs1 rs2 imm : Int) (he : RowOk ⟨0, 73, o, s3, s7⟩) (hr : 0 ≤ rd ∧ rd < 32 ∧ 0 ≤ rs1 ∧ rs1 < 32 ∧ 0 ≤ rs2 ∧ rs2 < 32) (h_rs2 : rs2 = 0) (hi0 : -2048 ≤ imm) (hi1 : imm ≤ 2047) : hauberkref02_Encode.j4 (m + 1) false op rd rs1 rs2 imm 73 o s3 s7 = some (encF (en_ok true true true false rd rs1 rs2 3) 73 o s3 s7 (-2048) (2047) rd rs1 rs2 imm) := by
  obtain ⟨ho, h3, h7, hf⟩ := id he
  simp only at ho h3 h7 hf
  have hx : encF (en_ok true (cf_uses 73).1 (cf_uses 73).2.1 (cf_uses 73).2.2 rd rs1 rs2 3) 73 o s3 s7 (cf_room 73).1 (cf_room 73).2 rd rs1 rs2 imm = (w_base ⟨0, 73, o, s3, s7⟩ rd rs1 rs2 + imm % 4096 * 1048576, 0) := (enc_iff ⟨0, 73, o, s3, s7⟩ he rd rs1 rs2 imm _).2 ⟨hr, (.inr (.inl ⟨rfl, h_rs2, hi0, hi1, rfl⟩))⟩
  show _ = some (encF (en_ok true (cf_uses 73).1 (cf_uses 73).2.1 (cf_uses 73).2.2 rd rs1 rs2 3) 73 o s3 s7 (cf_room 73).1 (cf_room 73).2 rd rs1 rs2 imm)
  rw [hx]
  clear hx he
  unfold w_base
  simp only
  have hb0 := bits_f m imm 0 5 1 32 (by decide) (by decide) (by decide) (by decide) (by omega) (by omega) hm
  obtain ⟨p, hp⟩ : ∃ v, imm % 2097152 / 1 % 32 = v := ⟨_, rfl⟩
  have hp0 : 0 ≤ p ∧ p < 32 := by omega
  have hb1 := bits_f m imm 5 7 32 128 (by decide) (by decide) (by decide) (by decide) (by omega) (by omega) hm
  obtain ⟨q, hq⟩ : ∃ v, imm % 2097152 / 32 % 128 = v := ⟨_, rfl⟩
  have hq0 : 0 ≤ q ∧ q < 128 := by omega
  have hrel0 : imm % 4096 = p + 32 * q := by omega
  rw [hp] at hb0
  rw [hq] at hb1
  rw [hrel0]
  clear hp hq hrel0
  rw [hauberkref02_Encode.j4, if_neg (by decide)]
  rw [if_pos rfl]

  rw [show hauberkref02_bits.f m imm 0 5 = some p from hb0]
  simp only [Option.bind_some]
  rw [show hauberkref02_bits.f m imm 5 7 = some q from hb1]
  simp only [Option.bind_some]
  clear hb0 hb1
  refine congrArg some (Prod.ext ?_ rfl)
  show _ % 4294967296 = _
  simp only [wa_l, wa_r]
  rw [w64 (by omega) (by omega)]
  omega
set_option maxHeartbeats 2000000 in
theorem ref_73 (m : Nat) (hm : 70 ≤ m) (o s3 s7 op rd rs1 rs2 imm : Int) (he : RowOk ⟨0, 73, o, s3, s7⟩) : hauberkref02_Encode.j0 (m + 5) true true false op rd rs1 rs2 imm 73 o s3 s7 = some (encF (en_ok true true true false rd rs1 rs2 3) 73 o s3 s7 (-2048) (2047) rd rs1 rs2 imm) := by
  have hroom : hauberkref02_Room.f (m + 4) 73 = some (-2048, 2047) := by simp [hauberkref02_Room.f, hauberkref02_Room.j0]
  rw [hauberkref02_Encode.j0, hroom]
  simp only [Option.bind_some]
  rw [if_neg (by decide), if_neg (by decide)]
  have hj : ∀ a b c d e f g h i, hauberkref02_Encode.j4 (m + 1) true a b c d e f g h i = some (0, 1) := fun _ _ _ _ _ _ _ _ _ => by rw [hauberkref02_Encode.j4, if_pos rfl]
  rw [hauberkref02_Encode.j1]
  simp only [hauberkref02_Encode.j2, hauberkref02_Encode.j3, if_true, if_false, Bool.false_eq_true, decide_eq_true_eq, bne_iff_ne, gt_iff_lt, Int.reduceLT, Int.reduceLE, Int.reduceEq, Int.reduceNeg, hj]
  repeat' split
  all_goals first
  | exact (congrArg some (e2_73 o s3 s7 rd rs1 rs2 imm (by omega))).symm
  | exact (congrArg some (e1_73 o s3 s7 rd rs1 rs2 imm (by first | trivial | omega) (by omega))).symm
  | exact ref_j4_73 m hm o s3 s7 op rd rs1 rs2 imm he (by omega) (by omega) (by omega) (by omega)
theorem ref_j4_84 (m : Nat) (hm : 70 ≤ m) (o s3 s7 op rd rs1 rs2 imm : Int) (he : RowOk ⟨0, 84, o, s3, s7⟩) (hr : 0 ≤ rd ∧ rd < 32 ∧ 0 ≤ rs1 ∧ rs1 < 32 ∧ 0 ≤ rs2 ∧ rs2 < 32) (h_rs2 : rs2 = 0) (hi0 : 0 ≤ imm) (hi1 : imm ≤ 63) : hauberkref02_Encode.j4 (m + 1) false op rd rs1 rs2 imm 84 o s3 s7 = some (encF (en_ok true true true false rd rs1 rs2 3) 84 o s3 s7 (0) (63) rd rs1 rs2 imm) := by
  obtain ⟨ho, h3, h7, hf⟩ := id he
  simp only at ho h3 h7 hf
  have hx : encF (en_ok true (cf_uses 84).1 (cf_uses 84).2.1 (cf_uses 84).2.2 rd rs1 rs2 3) 84 o s3 s7 (cf_room 84).1 (cf_room 84).2 rd rs1 rs2 imm = (w_base ⟨0, 84, o, s3, s7⟩ rd rs1 rs2 + imm * 1048576, 0) := (enc_iff ⟨0, 84, o, s3, s7⟩ he rd rs1 rs2 imm _).2 ⟨hr, (.inr (.inr (.inl ⟨rfl, h_rs2, hi0, hi1, rfl⟩)))⟩
  show _ = some (encF (en_ok true (cf_uses 84).1 (cf_uses 84).2.1 (cf_uses 84).2.2 rd rs1 rs2 3) 84 o s3 s7 (cf_room 84).1 (cf_room 84).2 rd rs1 rs2 imm)
  rw [hx]
  clear hx he
  unfold w_base
  simp only
  rw [hauberkref02_Encode.j4, if_neg (by decide)]
  rw [if_neg (by decide)]
  rw [if_pos rfl]
  refine congrArg some (Prod.ext ?_ rfl)
  show _ % 4294967296 = _
  rw [Int.tmod_eq_emod_of_nonneg hi0, Int.tdiv_eq_ediv_of_nonneg hi0]
  have hw1 : wrap64 (s7 + wrap64 (imm / 32)) = s7 + imm / 32 := by rw [wa_r, w64 (by omega) (by omega)]
  rw [hw1]
  simp only [wa_l, wa_r]
  rw [w64 (by omega) (by omega)]
  omega
set_option maxHeartbeats 2000000 in
theorem ref_84 (m : Nat) (hm : 70 ≤ m) (o s3 s7 op rd rs1 rs2 imm : Int) (he : RowOk ⟨0, 84, o, s3, s7⟩) : hauberkref02_Encode.j0 (m + 5) true true false op rd rs1 rs2 imm 84 o s3 s7 = some (encF (en_ok true true true false rd rs1 rs2 3) 84 o s3 s7 (0) (63) rd rs1 rs2 imm) := by
  have hroom : hauberkref02_Room.f (m + 4) 84 = some (0, 63) := by simp [hauberkref02_Room.f, hauberkref02_Room.j0]
  rw [hauberkref02_Encode.j0, hroom]
  simp only [Option.bind_some]
  rw [if_neg (by decide), if_neg (by decide)]
  have hj : ∀ a b c d e f g h i, hauberkref02_Encode.j4 (m + 1) true a b c d e f g h i = some (0, 1) := fun _ _ _ _ _ _ _ _ _ => by rw [hauberkref02_Encode.j4, if_pos rfl]
  rw [hauberkref02_Encode.j1]
  simp only [hauberkref02_Encode.j2, hauberkref02_Encode.j3, if_true, if_false, Bool.false_eq_true, decide_eq_true_eq, bne_iff_ne, gt_iff_lt, Int.reduceLT, Int.reduceLE, Int.reduceEq, Int.reduceNeg, hj]
  repeat' split
  all_goals first
  | exact (congrArg some (e2_84 o s3 s7 rd rs1 rs2 imm (by omega))).symm
  | exact (congrArg some (e1_84 o s3 s7 rd rs1 rs2 imm (by first | trivial | omega) (by omega))).symm
  | exact ref_j4_84 m hm o s3 s7 op rd rs1 rs2 imm he (by omega) (by omega) (by omega) (by omega)
theorem ref_j4_83 (m : Nat) (hm : 70 ≤ m) (o s3 s7 op rd rs1 rs2 imm : Int) (he : RowOk ⟨0, 83, o, s3, s7⟩) (hr : 0 ≤ rd ∧ rd < 32 ∧ 0 ≤ rs1 ∧ rs1 < 32 ∧ 0 ≤ rs2 ∧ rs2 < 32) (h_rd : rd = 0) (hi0 : -2048 ≤ imm) (hi1 : imm ≤ 2047) : hauberkref02_Encode.j4 (m + 1) false op rd rs1 rs2 imm 83 o s3 s7 = some (encF (en_ok true false true true rd rs1 rs2 3) 83 o s3 s7 (-2048) (2047) rd rs1 rs2 imm) := by
  obtain ⟨ho, h3, h7, hf⟩ := id he
  simp only at ho h3 h7 hf
  have hx : encF (en_ok true (cf_uses 83).1 (cf_uses 83).2.1 (cf_uses 83).2.2 rd rs1 rs2 3) 83 o s3 s7 (cf_room 83).1 (cf_room 83).2 rd rs1 rs2 imm = (w_base ⟨0, 83, o, s3, s7⟩ rd rs1 rs2 + imm % 32 * 128 + imm % 4096 / 32 * 33554432, 0) := (enc_iff ⟨0, 83, o, s3, s7⟩ he rd rs1 rs2 imm _).2 ⟨hr, (.inr (.inr (.inr (.inl ⟨rfl, h_rd, hi0, hi1, rfl⟩))))⟩
  show _ = some (encF (en_ok true (cf_uses 83).1 (cf_uses 83).2.1 (cf_uses 83).2.2 rd rs1 rs2 3) 83 o s3 s7 (cf_room 83).1 (cf_room 83).2 rd rs1 rs2 imm)
  rw [hx]
  clear hx he
  unfold w_base
  simp only
  have hb0 := bits_f m imm 0 5 1 32 (by decide) (by decide) (by decide) (by decide) (by omega) (by omega) hm
  obtain ⟨p, hp⟩ : ∃ v, imm % 2097152 / 1 % 32 = v := ⟨_, rfl⟩
  have hp0 : 0 ≤ p ∧ p < 32 := by omega
  have hb1 := bits_f m imm 5 7 32 128 (by decide) (by decide) (by decide) (by decide) (by omega) (by omega) hm
  obtain ⟨q, hq⟩ : ∃ v, imm % 2097152 / 32 % 128 = v := ⟨_, rfl⟩
  have hq0 : 0 ≤ q ∧ q < 128 := by omega
  have hrel0 : imm % 32 = p := by omega
  have hrel1 : imm % 4096 / 32 = q := by omega
  rw [hp] at hb0
  rw [hq] at hb1
  rw [hrel0, hrel1]
  clear hp hq hrel0 hrel1
  rw [hauberkref02_Encode.j4, if_neg (by decide)]
  rw [if_neg (by decide)]
  rw [if_neg (by decide)]
  rw [if_pos rfl]

  rw [show hauberkref02_bits.f m imm 0 5 = some p from hb0]
  simp only [Option.bind_some]
  rw [show hauberkref02_bits.f m imm 5 7 = some q from hb1]
  simp only [Option.bind_some]
  clear hb0 hb1
  refine congrArg some (Prod.ext ?_ rfl)
  show _ % 4294967296 = _
  simp only [wa_l, wa_r]
  rw [w64 (by omega) (by omega)]
  omega
set_option maxHeartbeats 2000000 in
theorem ref_83 (m : Nat) (hm : 70 ≤ m) (o s3 s7 op rd rs1 rs2 imm : Int) (he : RowOk ⟨0, 83, o, s3, s7⟩) : hauberkref02_Encode.j0 (m + 5) false true true op rd rs1 rs2 imm 83 o s3 s7 = some (encF (en_ok true false true true rd rs1 rs2 3) 83 o s3 s7 (-2048) (2047) rd rs1 rs2 imm) := by
  have hroom : hauberkref02_Room.f (m + 4) 83 = some (-2048, 2047) := by simp [hauberkref02_Room.f, hauberkref02_Room.j0]
  rw [hauberkref02_Encode.j0, hroom]
  simp only [Option.bind_some]
  rw [if_neg (by decide), if_neg (by decide)]
  have hj : ∀ a b c d e f g h i, hauberkref02_Encode.j4 (m + 1) true a b c d e f g h i = some (0, 1) := fun _ _ _ _ _ _ _ _ _ => by rw [hauberkref02_Encode.j4, if_pos rfl]
  rw [hauberkref02_Encode.j1]
  simp only [hauberkref02_Encode.j2, hauberkref02_Encode.j3, if_true, if_false, Bool.false_eq_true, decide_eq_true_eq, bne_iff_ne, gt_iff_lt, Int.reduceLT, Int.reduceLE, Int.reduceEq, Int.reduceNeg, hj]
  repeat' split
  all_goals first
  | exact (congrArg some (e2_83 o s3 s7 rd rs1 rs2 imm (by omega))).symm
  | exact (congrArg some (e1_83 o s3 s7 rd rs1 rs2 imm (by first | trivial | omega) (by omega))).symm
  | exact ref_j4_83 m hm o s3 s7 op rd rs1 rs2 imm he (by omega) (by omega) (by omega) (by omega)
theorem ref_j4_66 (m : Nat) (hm : 70 ≤ m) (o s3 s7 op rd rs1 rs2 imm : Int) (he : RowOk ⟨0, 66, o, s3, s7⟩) (hr : 0 ≤ rd ∧ rd < 32 ∧ 0 ≤ rs1 ∧ rs1 < 32 ∧ 0 ≤ rs2 ∧ rs2 < 32) (h_rd : rd = 0) (hi0 : -4096 ≤ imm) (hi1 : imm ≤ 4094) (hi2 : imm % 2 = 0) : hauberkref02_Encode.j4 (m + 1) false op rd rs1 rs2 imm 66 o s3 s7 = some (encF (en_ok true false true true rd rs1 rs2 3) 66 o s3 s7 (-4096) (4094) rd rs1 rs2 imm) := by
  obtain ⟨ho, h3, h7, hf⟩ := id he
  simp only at ho h3 h7 hf
  have hx : encF (en_ok true (cf_uses 66).1 (cf_uses 66).2.1 (cf_uses 66).2.2 rd rs1 rs2 3) 66 o s3 s7 (cf_room 66).1 (cf_room 66).2 rd rs1 rs2 imm = (w_base ⟨0, 66, o, s3, s7⟩ rd rs1 rs2 + imm % 4096 / 2048 * 128 + imm % 32 / 2 * 256 + imm % 2048 / 32 * 33554432 + imm % 8192 / 4096 * 2147483648, 0) := (enc_iff ⟨0, 66, o, s3, s7⟩ he rd rs1 rs2 imm _).2 ⟨hr, (.inr (.inr (.inr (.inr (.inl ⟨rfl, h_rd, hi0, hi1, hi2, rfl⟩)))))⟩
  show _ = some (encF (en_ok true (cf_uses 66).1 (cf_uses 66).2.1 (cf_uses 66).2.2 rd rs1 rs2 3) 66 o s3 s7 (cf_room 66).1 (cf_room 66).2 rd rs1 rs2 imm)
  rw [hx]
  clear hx he
  unfold w_base
  simp only
  have hb0 := bits_f m imm 11 1 2048 2 (by decide) (by decide) (by decide) (by decide) (by omega) (by omega) hm
  obtain ⟨p, hp⟩ : ∃ v, imm % 2097152 / 2048 % 2 = v := ⟨_, rfl⟩
  have hp0 : 0 ≤ p ∧ p < 2 := by omega
  have hb1 := bits_f m imm 1 4 2 16 (by decide) (by decide) (by decide) (by decide) (by omega) (by omega) hm
  obtain ⟨q, hq⟩ : ∃ v, imm % 2097152 / 2 % 16 = v := ⟨_, rfl⟩
  have hq0 : 0 ≤ q ∧ q < 16 := by omega
  have hb2 := bits_f m imm 5 6 32 64 (by decide) (by decide) (by decide) (by decide) (by omega) (by omega) hm
  obtain ⟨s, hs⟩ : ∃ v, imm % 2097152 / 32 % 64 = v := ⟨_, rfl⟩
  have hs0 : 0 ≤ s ∧ s < 64 := by omega
  have hb3 := bits_f m imm 12 1 4096 2 (by decide) (by decide) (by decide) (by decide) (by omega) (by omega) hm
  obtain ⟨t, ht⟩ : ∃ v, imm % 2097152 / 4096 % 2 = v := ⟨_, rfl⟩
  have ht0 : 0 ≤ t ∧ t < 2 := by omega
  have hrel0 : imm % 4096 / 2048 = p := by omega
  have hrel1 : imm % 32 / 2 = q := by omega
  have hrel2 : imm % 2048 / 32 = s := by omega
  have hrel3 : imm % 8192 / 4096 = t := by omega
  rw [hp] at hb0
  rw [hq] at hb1
  rw [hs] at hb2
  rw [ht] at hb3
  rw [hrel0, hrel1, hrel2, hrel3]
  clear hp hq hs ht hrel0 hrel1 hrel2 hrel3
  rw [hauberkref02_Encode.j4, if_neg (by decide)]
  rw [if_neg (by decide)]
  rw [if_neg (by decide)]
  rw [if_neg (by decide)]
  rw [if_pos rfl]

  rw [show hauberkref02_bits.f m imm 11 1 = some p from hb0]
  simp only [Option.bind_some]
  rw [show hauberkref02_bits.f m imm 1 4 = some q from hb1]
  simp only [Option.bind_some]
  rw [show hauberkref02_bits.f m imm 5 6 = some s from hb2]
  simp only [Option.bind_some]
  rw [show hauberkref02_bits.f m imm 12 1 = some t from hb3]
  simp only [Option.bind_some]
  clear hb0 hb1 hb2 hb3
  refine congrArg some (Prod.ext ?_ rfl)
  show _ % 4294967296 = _
  have hw1 : wrap64 (p + wrap64 (2 * q)) = p + 2 * q := by rw [wa_r, w64 (by omega) (by omega)]
  have hw2 : wrap64 (s + wrap64 (64 * t)) = s + 64 * t := by rw [wa_r, w64 (by omega) (by omega)]
  rw [hw1, hw2]
  simp only [wa_l, wa_r]
  rw [w64 (by omega) (by omega)]
  omega
set_option maxHeartbeats 2000000 in
theorem ref_66 (m : Nat) (hm : 70 ≤ m) (o s3 s7 op rd rs1 rs2 imm : Int) (he : RowOk ⟨0, 66, o, s3, s7⟩) : hauberkref02_Encode.j0 (m + 5) false true true op rd rs1 rs2 imm 66 o s3 s7 = some (encF (en_ok true false true true rd rs1 rs2 3) 66 o s3 s7 (-4096) (4094) rd rs1 rs2 imm) := by
  have hroom : hauberkref02_Room.f (m + 4) 66 = some (-4096, 4094) := by simp [hauberkref02_Room.f, hauberkref02_Room.j0]
  rw [hauberkref02_Encode.j0, hroom]
  simp only [Option.bind_some]
  rw [if_neg (by decide), if_neg (by decide)]
  have hj : ∀ a b c d e f g h i, hauberkref02_Encode.j4 (m + 1) true a b c d e f g h i = some (0, 1) := fun _ _ _ _ _ _ _ _ _ => by rw [hauberkref02_Encode.j4, if_pos rfl]
  rw [hauberkref02_Encode.j1]
  by_cases hodd : imm % 2 = 1
  · have htm : (Int.tmod imm 2 != 0) = true := by rw [tm2]; exact decide_eq_true hodd
    simp only [hauberkref02_Encode.j2, hauberkref02_Encode.j3, if_true, if_false, Bool.false_eq_true, decide_eq_true_eq, bne_iff_ne, gt_iff_lt, Int.reduceLT, Int.reduceLE, Int.reduceEq, Int.reduceNeg, hj, htm]
    repeat' split
    all_goals first
    | exact (congrArg some (e2_66 o s3 s7 rd rs1 rs2 imm (by omega))).symm
    | exact (congrArg some (e1_66 o s3 s7 rd rs1 rs2 imm (by first | trivial | omega) (by omega))).symm
    | exact ref_j4_66 m hm o s3 s7 op rd rs1 rs2 imm he (by omega) (by omega) (by omega) (by omega) (by omega)
  · have htm : (Int.tmod imm 2 != 0) = false := by rw [tm2]; exact decide_eq_false hodd
    simp only [hauberkref02_Encode.j2, hauberkref02_Encode.j3, if_true, if_false, Bool.false_eq_true, decide_eq_true_eq, bne_iff_ne, gt_iff_lt, Int.reduceLT, Int.reduceLE, Int.reduceEq, Int.reduceNeg, hj, htm]
    repeat' split
    all_goals first
    | exact (congrArg some (e2_66 o s3 s7 rd rs1 rs2 imm (by omega))).symm
    | exact (congrArg some (e1_66 o s3 s7 rd rs1 rs2 imm (by first | trivial | omega) (by omega))).symm
    | exact ref_j4_66 m hm o s3 s7 op rd rs1 rs2 imm he (by omega) (by omega) (by omega) (by omega) (by omega)
theorem ref_j4_85 (m : Nat) (hm : 70 ≤ m) (o s3 s7 op rd rs1 rs2 imm : Int) (he : RowOk ⟨0, 85, o, s3, s7⟩) (hr : 0 ≤ rd ∧ rd < 32 ∧ 0 ≤ rs1 ∧ rs1 < 32 ∧ 0 ≤ rs2 ∧ rs2 < 32) (h_rs1 : rs1 = 0) (h_rs2 : rs2 = 0) (hi0 : -524288 ≤ imm) (hi1 : imm ≤ 524287) : hauberkref02_Encode.j4 (m + 1) false op rd rs1 rs2 imm 85 o s3 s7 = some (encF (en_ok true true false false rd rs1 rs2 3) 85 o s3 s7 (-524288) (524287) rd rs1 rs2 imm) := by
  obtain ⟨ho, h3, h7, hf⟩ := id he
  simp only at ho h3 h7 hf
  have hx : encF (en_ok true (cf_uses 85).1 (cf_uses 85).2.1 (cf_uses 85).2.2 rd rs1 rs2 3) 85 o s3 s7 (cf_room 85).1 (cf_room 85).2 rd rs1 rs2 imm = (w_base ⟨0, 85, o, s3, s7⟩ rd rs1 rs2 + imm % 1048576 * 4096, 0) := (enc_iff ⟨0, 85, o, s3, s7⟩ he rd rs1 rs2 imm _).2 ⟨hr, (.inr (.inr (.inr (.inr (.inr (.inl ⟨rfl, h_rs1, h_rs2, hi0, hi1, rfl⟩))))))⟩
  show _ = some (encF (en_ok true (cf_uses 85).1 (cf_uses 85).2.1 (cf_uses 85).2.2 rd rs1 rs2 3) 85 o s3 s7 (cf_room 85).1 (cf_room 85).2 rd rs1 rs2 imm)
  rw [hx]
  clear hx he
  unfold w_base
  simp only
  have hb0 := bits_f m imm 0 20 1 1048576 (by decide) (by decide) (by decide) (by decide) (by omega) (by omega) hm
  obtain ⟨p, hp⟩ : ∃ v, imm % 2097152 / 1 % 1048576 = v := ⟨_, rfl⟩
  have hp0 : 0 ≤ p ∧ p < 1048576 := by omega
  have hrel0 : imm % 1048576 = p := by omega
  rw [hp] at hb0
  rw [hrel0]
  clear hp hrel0
  rw [hauberkref02_Encode.j4, if_neg (by decide)]
  rw [if_neg (by decide)]
  rw [if_neg (by decide)]
  rw [if_neg (by decide)]
  rw [if_neg (by decide)]
  rw [if_pos rfl]

  rw [show hauberkref02_bits.f m imm 0 20 = some p from hb0]
  simp only [Option.bind_some]
  clear hb0
  refine congrArg some (Prod.ext ?_ rfl)
  show _ % 4294967296 = _
  simp only [wa_l, wa_r]
  rw [w64 (by omega) (by omega)]
  omega
set_option maxHeartbeats 2000000 in
theorem ref_85 (m : Nat) (hm : 70 ≤ m) (o s3 s7 op rd rs1 rs2 imm : Int) (he : RowOk ⟨0, 85, o, s3, s7⟩) : hauberkref02_Encode.j0 (m + 5) true false false op rd rs1 rs2 imm 85 o s3 s7 = some (encF (en_ok true true false false rd rs1 rs2 3) 85 o s3 s7 (-524288) (524287) rd rs1 rs2 imm) := by
  have hroom : hauberkref02_Room.f (m + 4) 85 = some (-524288, 524287) := by simp [hauberkref02_Room.f, hauberkref02_Room.j0]
  rw [hauberkref02_Encode.j0, hroom]
  simp only [Option.bind_some]
  rw [if_neg (by decide), if_neg (by decide)]
  have hj : ∀ a b c d e f g h i, hauberkref02_Encode.j4 (m + 1) true a b c d e f g h i = some (0, 1) := fun _ _ _ _ _ _ _ _ _ => by rw [hauberkref02_Encode.j4, if_pos rfl]
  rw [hauberkref02_Encode.j1]
  simp only [hauberkref02_Encode.j2, hauberkref02_Encode.j3, if_true, if_false, Bool.false_eq_true, decide_eq_true_eq, bne_iff_ne, gt_iff_lt, Int.reduceLT, Int.reduceLE, Int.reduceEq, Int.reduceNeg, hj]
  repeat' split
  all_goals first
  | exact (congrArg some (e2_85 o s3 s7 rd rs1 rs2 imm (by omega))).symm
  | exact (congrArg some (e1_85 o s3 s7 rd rs1 rs2 imm (by first | trivial | omega) (by omega))).symm
  | exact ref_j4_85 m hm o s3 s7 op rd rs1 rs2 imm he (by omega) (by omega) (by omega) (by omega) (by omega)
theorem ref_j4_74 (m : Nat) (hm : 70 ≤ m) (o s3 s7 op rd rs1 rs2 imm : Int) (he : RowOk ⟨0, 74, o, s3, s7⟩) (hr : 0 ≤ rd ∧ rd < 32 ∧ 0 ≤ rs1 ∧ rs1 < 32 ∧ 0 ≤ rs2 ∧ rs2 < 32) (h_rs1 : rs1 = 0) (h_rs2 : rs2 = 0) (hi0 : -1048576 ≤ imm) (hi1 : imm ≤ 1048574) (hi2 : imm % 2 = 0) : hauberkref02_Encode.j4 (m + 1) false op rd rs1 rs2 imm 74 o s3 s7 = some (encF (en_ok true true false false rd rs1 rs2 3) 74 o s3 s7 (-1048576) (1048574) rd rs1 rs2 imm) := by
  obtain ⟨ho, h3, h7, hf⟩ := id he
  simp only at ho h3 h7 hf
  have hx : encF (en_ok true (cf_uses 74).1 (cf_uses 74).2.1 (cf_uses 74).2.2 rd rs1 rs2 3) 74 o s3 s7 (cf_room 74).1 (cf_room 74).2 rd rs1 rs2 imm = (w_base ⟨0, 74, o, s3, s7⟩ rd rs1 rs2 + imm % 1048576 / 4096 * 4096 + imm % 4096 / 2048 * 1048576 + imm % 2048 / 2 * 2097152 + imm % 2097152 / 1048576 * 2147483648, 0) := (enc_iff ⟨0, 74, o, s3, s7⟩ he rd rs1 rs2 imm _).2 ⟨hr, (.inr (.inr (.inr (.inr (.inr (.inr (.inl ⟨rfl, h_rs1, h_rs2, hi0, hi1, hi2, rfl⟩)))))))⟩
  show _ = some (encF (en_ok true (cf_uses 74).1 (cf_uses 74).2.1 (cf_uses 74).2.2 rd rs1 rs2 3) 74 o s3 s7 (cf_room 74).1 (cf_room 74).2 rd rs1 rs2 imm)
  rw [hx]
  clear hx he
  unfold w_base
  simp only
  have hb0 := bits_f m imm 12 8 4096 256 (by decide) (by decide) (by decide) (by decide) (by omega) (by omega) hm
  obtain ⟨p, hp⟩ : ∃ v, imm % 2097152 / 4096 % 256 = v := ⟨_, rfl⟩
  have hp0 : 0 ≤ p ∧ p < 256 := by omega
  have hb1 := bits_f m imm 11 1 2048 2 (by decide) (by decide) (by decide) (by decide) (by omega) (by omega) hm
  obtain ⟨q, hq⟩ : ∃ v, imm % 2097152 / 2048 % 2 = v := ⟨_, rfl⟩
  have hq0 : 0 ≤ q ∧ q < 2 := by omega
  have hb2 := bits_f m imm 1 10 2 1024 (by decide) (by decide) (by decide) (by decide) (by omega) (by omega) hm
  obtain ⟨s, hs⟩ : ∃ v, imm % 2097152 / 2 % 1024 = v := ⟨_, rfl⟩
  have hs0 : 0 ≤ s ∧ s < 1024 := by omega
  have hb3 := bits_f m imm 20 1 1048576 2 (by decide) (by decide) (by decide) (by decide) (by omega) (by omega) hm
  obtain ⟨t, ht⟩ : ∃ v, imm % 2097152 / 1048576 % 2 = v := ⟨_, rfl⟩
  have ht0 : 0 ≤ t ∧ t < 2 := by omega
  have hrel0 : imm % 1048576 / 4096 = p := by omega
  have hrel1 : imm % 4096 / 2048 = q := by omega
  have hrel2 : imm % 2048 / 2 = s := by omega
  have hrel3 : imm % 2097152 / 1048576 = t := by omega
  rw [hp] at hb0
  rw [hq] at hb1
  rw [hs] at hb2
  rw [ht] at hb3
  rw [hrel0, hrel1, hrel2, hrel3]
  clear hp hq hs ht hrel0 hrel1 hrel2 hrel3
  rw [hauberkref02_Encode.j4, if_neg (by decide)]
  rw [if_neg (by decide)]
  rw [if_neg (by decide)]
  rw [if_neg (by decide)]
  rw [if_neg (by decide)]
  rw [if_neg (by decide)]
  rw [if_pos rfl]

  rw [show hauberkref02_bits.f m imm 12 8 = some p from hb0]
  simp only [Option.bind_some]
  rw [show hauberkref02_bits.f m imm 11 1 = some q from hb1]
  simp only [Option.bind_some]
  rw [show hauberkref02_bits.f m imm 1 10 = some s from hb2]
  simp only [Option.bind_some]
  rw [show hauberkref02_bits.f m imm 20 1 = some t from hb3]
  simp only [Option.bind_some]
  clear hb0 hb1 hb2 hb3
  refine congrArg some (Prod.ext ?_ rfl)
  show _ % 4294967296 = _
  simp only [wa_l, wa_r]
  rw [w64 (by omega) (by omega)]
  omega
set_option maxHeartbeats 2000000 in
theorem ref_74 (m : Nat) (hm : 70 ≤ m) (o s3 s7 op rd rs1 rs2 imm : Int) (he : RowOk ⟨0, 74, o, s3, s7⟩) : hauberkref02_Encode.j0 (m + 5) true false false op rd rs1 rs2 imm 74 o s3 s7 = some (encF (en_ok true true false false rd rs1 rs2 3) 74 o s3 s7 (-1048576) (1048574) rd rs1 rs2 imm) := by
  have hroom : hauberkref02_Room.f (m + 4) 74 = some (-1048576, 1048574) := by simp [hauberkref02_Room.f, hauberkref02_Room.j0]
  rw [hauberkref02_Encode.j0, hroom]
  simp only [Option.bind_some]
  rw [if_neg (by decide), if_neg (by decide)]
  have hj : ∀ a b c d e f g h i, hauberkref02_Encode.j4 (m + 1) true a b c d e f g h i = some (0, 1) := fun _ _ _ _ _ _ _ _ _ => by rw [hauberkref02_Encode.j4, if_pos rfl]
  rw [hauberkref02_Encode.j1]
  by_cases hodd : imm % 2 = 1
  · have htm : (Int.tmod imm 2 != 0) = true := by rw [tm2]; exact decide_eq_true hodd
    simp only [hauberkref02_Encode.j2, hauberkref02_Encode.j3, if_true, if_false, Bool.false_eq_true, decide_eq_true_eq, bne_iff_ne, gt_iff_lt, Int.reduceLT, Int.reduceLE, Int.reduceEq, Int.reduceNeg, hj, htm]
    repeat' split
    all_goals first
    | exact (congrArg some (e2_74 o s3 s7 rd rs1 rs2 imm (by omega))).symm
    | exact (congrArg some (e1_74 o s3 s7 rd rs1 rs2 imm (by first | trivial | omega) (by omega))).symm
    | exact ref_j4_74 m hm o s3 s7 op rd rs1 rs2 imm he (by omega) (by omega) (by omega) (by omega) (by omega) (by omega)
  · have htm : (Int.tmod imm 2 != 0) = false := by rw [tm2]; exact decide_eq_false hodd
    simp only [hauberkref02_Encode.j2, hauberkref02_Encode.j3, if_true, if_false, Bool.false_eq_true, decide_eq_true_eq, bne_iff_ne, gt_iff_lt, Int.reduceLT, Int.reduceLE, Int.reduceEq, Int.reduceNeg, hj, htm]
    repeat' split
    all_goals first
    | exact (congrArg some (e2_74 o s3 s7 rd rs1 rs2 imm (by omega))).symm
    | exact (congrArg some (e1_74 o s3 s7 rd rs1 rs2 imm (by first | trivial | omega) (by omega))).symm
    | exact ref_j4_74 m hm o s3 s7 op rd rs1 rs2 imm he (by omega) (by omega) (by omega) (by omega) (by omega) (by omega)
theorem ref_j4_78 (m : Nat) (hm : 70 ≤ m) (o s3 s7 op rd rs1 rs2 imm : Int) (he : RowOk ⟨0, 78, o, s3, s7⟩) (hr : 0 ≤ rd ∧ rd < 32 ∧ 0 ≤ rs1 ∧ rs1 < 32 ∧ 0 ≤ rs2 ∧ rs2 < 32) (h_rd : rd = 0) (h_rs1 : rs1 = 0) (h_rs2 : rs2 = 0) (hi0 : imm = 0) : hauberkref02_Encode.j4 (m + 1) false op rd rs1 rs2 imm 78 o s3 s7 = some (encF (en_ok true false false false rd rs1 rs2 3) 78 o s3 s7 (1) (0) rd rs1 rs2 imm) := by
  obtain ⟨ho, h3, h7, hf⟩ := id he
  simp only at ho h3 h7 hf
  have hx : encF (en_ok true (cf_uses 78).1 (cf_uses 78).2.1 (cf_uses 78).2.2 rd rs1 rs2 3) 78 o s3 s7 (cf_room 78).1 (cf_room 78).2 rd rs1 rs2 imm = (w_base ⟨0, 78, o, s3, s7⟩ rd rs1 rs2, 0) := (enc_iff ⟨0, 78, o, s3, s7⟩ he rd rs1 rs2 imm _).2 ⟨hr, (.inr (.inr (.inr (.inr (.inr (.inr (.inr ⟨rfl, h_rd, h_rs1, h_rs2, hi0, rfl⟩)))))))⟩
  show _ = some (encF (en_ok true (cf_uses 78).1 (cf_uses 78).2.1 (cf_uses 78).2.2 rd rs1 rs2 3) 78 o s3 s7 (cf_room 78).1 (cf_room 78).2 rd rs1 rs2 imm)
  rw [hx]
  clear hx he
  unfold w_base
  simp only
  rw [hauberkref02_Encode.j4, if_neg (by decide)]
  rw [if_neg (by decide)]
  rw [if_neg (by decide)]
  rw [if_neg (by decide)]
  rw [if_neg (by decide)]
  rw [if_neg (by decide)]
  rw [if_neg (by decide)]
  refine congrArg some (Prod.ext ?_ rfl)
  show _ % 4294967296 = _
  simp only [wa_l, wa_r]
  rw [w64 (by omega) (by omega)]
  omega
set_option maxHeartbeats 2000000 in
theorem ref_78 (m : Nat) (hm : 70 ≤ m) (o s3 s7 op rd rs1 rs2 imm : Int) (he : RowOk ⟨0, 78, o, s3, s7⟩) : hauberkref02_Encode.j0 (m + 5) true true false op rd rs1 rs2 imm 78 o s3 s7 = some (encF (en_ok true false false false rd rs1 rs2 3) 78 o s3 s7 (1) (0) rd rs1 rs2 imm) := by
  have hroom : hauberkref02_Room.f (m + 4) 78 = some (1, 0) := by simp [hauberkref02_Room.f, hauberkref02_Room.j0]
  rw [hauberkref02_Encode.j0, hroom]
  simp only [Option.bind_some]
  rw [if_neg (by decide), if_pos trivial]
  have hj : ∀ a b c d e f g h i, hauberkref02_Encode.j4 (m + 1) true a b c d e f g h i = some (0, 1) := fun _ _ _ _ _ _ _ _ _ => by rw [hauberkref02_Encode.j4, if_pos rfl]
  rw [hauberkref02_Encode.j1]
  simp only [hauberkref02_Encode.j2, hauberkref02_Encode.j3, if_true, if_false, Bool.false_eq_true, decide_eq_true_eq, bne_iff_ne, gt_iff_lt, Int.reduceLT, Int.reduceLE, Int.reduceEq, Int.reduceNeg, hj]
  repeat' split
  all_goals first
  | exact (congrArg some (e2_78 o s3 s7 rd rs1 rs2 imm (by omega))).symm
  | exact (congrArg some (e1_78 o s3 s7 rd rs1 rs2 imm (by first | trivial | omega) (by omega))).symm
  | exact ref_j4_78 m hm o s3 s7 op rd rs1 rs2 imm he (by omega) (by omega) (by omega) (by omega) (by omega)
theorem ref_0 (m : Nat) (u0 u1 u2 : Bool) (o s3 s7 op rd rs1 rs2 imm : Int) : hauberkref02_Encode.j0 (m + 5) u0 u1 u2 op rd rs1 rs2 imm 0 o s3 s7 = some (0, 2) := by
  have hroom : hauberkref02_Room.f (m + 4) 0 = some (1, 0) := by simp [hauberkref02_Room.f, hauberkref02_Room.j0]
  rw [hauberkref02_Encode.j0, hroom]
  simp only [Option.bind_some]
  rw [if_pos trivial]
/-- The document's word of any instruction is the code's. -/
theorem ref_enc (op rd rs1 rs2 imm : Int) : hauberkref02_Encode.f 100 op rd rs1 rs2 imm = some (enc_r op rd rs1 rs2 imm) := by
  unfold hauberkref02_Encode.f hauberkref02_Of.f enc_r
  cases hh : cm_has op with
  | false =>
    have he : cm_ent op = ⟨op, 0, 0, 0, 0⟩ := by
      unfold cm_has at hh
      unfold cm_ent
      cases hf : cm_e13.find? (fun e => decide (op = e.n)) with
      | none => rfl
      | some e => rw [hf] at hh; cases hh
    rw [he]
    simp only [Option.bind_some]
    rw [encF_two (.inl (rfl : en_ok false (cf_uses 0).fst (cf_uses 0).snd.fst (cf_uses 0).snd.snd rd rs1 rs2 3 = false))]
    simp only [Int.reduceEq, if_false]
    exact ref_0 95 _ _ _ _ _ _ _ _ _ _ _
  | true =>
    have hr := rows_ok _ (has_mem hh).1
    rcases hc : cm_ent op with ⟨n, f, o, s3, s7⟩
    rw [hc] at hr
    have hr0 : RowOk ⟨0, f, o, s3, s7⟩ := hr
    clear hr hc
    simp only [Option.bind_some]
    have hf := hr0.2.2.2
    simp only at hf
    have hF8 : f = 82 ∨ f = 84 ∨ f = 73 ∨ f = 83 ∨ f = 66 ∨ f = 78 ∨ f = 85 ∨ f = 74 := by omega
    clear hf
    rcases hF8 with rfl | rfl | rfl | rfl | rfl | rfl | rfl | rfl
    · exact ref_82 95 (by decide) o s3 s7 op rd rs1 rs2 imm hr0
    · exact ref_84 95 (by decide) o s3 s7 op rd rs1 rs2 imm hr0
    · exact ref_73 95 (by decide) o s3 s7 op rd rs1 rs2 imm hr0
    · exact ref_83 95 (by decide) o s3 s7 op rd rs1 rs2 imm hr0
    · exact ref_66 95 (by decide) o s3 s7 op rd rs1 rs2 imm hr0
    · exact ref_78 95 (by decide) o s3 s7 op rd rs1 rs2 imm hr0
    · exact ref_85 95 (by decide) o s3 s7 op rd rs1 rs2 imm hr0
    · exact ref_74 95 (by decide) o s3 s7 op rd rs1 rs2 imm hr0
end Go.Proofs.Ytkacoffiinggiaa.K
