/- Words of instructions, reckoned: the fields lie apart; what a word of a form tells; two instructions of one word are the same. Conditions: those of each theorem. -/
import Derived.Test.YtkacoffiinggiaaK6
import Derived.Laws.BitsLemmas
namespace Go.Proofs.Ytkacoffiinggiaa.K
open Go.RowKit
/-! a word's fields: 'or' of fields that lie apart is their sum -/
theorem or_field (a b i n : Nat) (hb : b < 2 ^ n) (ha : a / 2 ^ i % 2 ^ n = 0) : a ||| b * 2 ^ i = a + b * 2 ^ i := by
  have h1 : a % 2 ^ i < 2 ^ i := Nat.mod_lt _ (Nat.two_pow_pos i)
  have h2 : a = 2 ^ (i + n) * (a / 2 ^ i / 2 ^ n) + a % 2 ^ i := by
    have e1 := Nat.div_add_mod a (2 ^ i)
    have e2 := Nat.div_add_mod (a / 2 ^ i) (2 ^ n)
    rw [ha, Nat.add_zero] at e2
    rw [Nat.pow_add, Nat.mul_assoc, e2]
    omega
  have hlt : a % 2 ^ i < 2 ^ (i + n) := Nat.lt_of_lt_of_le h1 (Nat.pow_le_pow_right (by decide) (by omega))
  have hm : 2 ^ i * b + a % 2 ^ i < 2 ^ (i + n) := by
    rw [Nat.pow_add]
    have : 2 ^ i * (b + 1) ≤ 2 ^ i * 2 ^ n := Nat.mul_le_mul_left _ hb
    have e : 2 ^ i * (b + 1) = 2 ^ i * b + 2 ^ i := by rw [Nat.mul_add, Nat.mul_one]
    omega
  generalize a / 2 ^ i / 2 ^ n = hi at h2
  generalize a % 2 ^ i = lo at *
  rw [h2, Nat.two_pow_add_eq_or_of_lt hlt, Nat.or_assoc, Nat.mul_comm b, Nat.or_comm lo, ← Nat.two_pow_add_eq_or_of_lt h1, ← Nat.two_pow_add_eq_or_of_lt hm, ← Nat.two_pow_add_eq_or_of_lt hlt]
  omega
theorem wraps_u32 (n : Int) (h₀ : 0 ≤ n) (h₁ : n < 2 ^ 32) : IntKind.u32.wrap n = n := by rw [IntKind.wrap_u32]; omega
theorem u32_or (i n : Nat) (x b c : Int) (hc : c = b * 2 ^ i) (hx0 : 0 ≤ x) (hx1 : x < 4294967296) (hb0 : 0 ≤ b) (hb1 : b < 2 ^ n) (hxb : x / 2 ^ i % 2 ^ n = 0) (h : i + n ≤ 32) : bits .or .u32 x c = x + c := by
  subst hc
  obtain ⟨a, rfl⟩ := Int.eq_ofNat_of_zero_le hx0
  obtain ⟨b, rfl⟩ := Int.eq_ofNat_of_zero_le hb0
  have hb : b < 2 ^ n := by exact_mod_cast hb1
  have ha : a / 2 ^ i % 2 ^ n = 0 := by exact_mod_cast hxb
  have e : ((b : Int) * 2 ^ i) = ((b * 2 ^ i : Nat) : Int) := by simp
  have hlt : b * 2 ^ i < 2 ^ 32 := by
    have h3 : b * 2 ^ i < 2 ^ n * 2 ^ i := Nat.mul_lt_mul_of_pos_right hb (Nat.two_pow_pos i)
    rw [← Nat.pow_add] at h3
    exact Nat.lt_of_lt_of_le h3 (Nat.pow_le_pow_right (by decide) (by omega))
  rw [e, (bits_nat .u32 32 (by decide) wraps_u32 a _ (by omega) hlt).2, or_field a b i n hb ha]
  simp
theorem u32_and (n : Nat) (hn : n ≤ 32) (x : Int) (h0 : 0 ≤ x) (h1 : x < 4294967296) : bits .and .u32 x (2 ^ n - 1) = x % 2 ^ n :=
  bits_mask .u32 32 (by decide) wraps_u32 n hn x h0 h1
theorem u32_andm (n : Nat) (m : Int) (hm : m = 2 ^ n - 1) (hn : n ≤ 32) (x : Int) (h0 : 0 ≤ x) (h1 : x < 4294967296) : bits .and .u32 x m = x % 2 ^ n := by
  rw [hm]; exact u32_and n hn x h0 h1
/-- A word of fields: op, three registers, f3, f7. -/
theorem w_regs (o s3 s7 a b c : Int) (ho : 0 ≤ o ∧ o < 128) (h3 : 0 ≤ s3 ∧ s3 < 8) (h7 : 0 ≤ s7 ∧ s7 < 128) (ha : 0 ≤ a ∧ a < 32) (hb : 0 ≤ b ∧ b < 32) (hc : 0 ≤ c ∧ c < 32) :
    en_w o s3 s7 a b c 3 = o + s3 * 4096 + s7 * 33554432 + a * 128 + b * 32768 + c * 1048576 := by
  have e1 : s3 * 4096 % 4294967296 = s3 * 4096 := by omega
  have e2 : s7 * 33554432 % 4294967296 = s7 * 33554432 := by omega
  have r1 := u32_or 12 3 o s3 (s3 * 4096) rfl (by omega) (by omega) (by omega) (by omega) (by omega) (by omega)
  have r2 := u32_or 25 7 (o + s3 * 4096) s7 (s7 * 33554432) rfl (by omega) (by omega) (by omega) (by omega) (by omega) (by omega)
  have r3 := u32_or 7 5 (o + s3 * 4096 + s7 * 33554432) a (a * 128) rfl (by omega) (by omega) (by omega) (by omega) (by omega) (by omega)
  have r4 := u32_or 15 5 (o + s3 * 4096 + s7 * 33554432 + a * 128) b (b * 32768) rfl (by omega) (by omega) (by omega) (by omega) (by omega) (by omega)
  have r5 := u32_or 20 5 (o + s3 * 4096 + s7 * 33554432 + a * 128 + b * 32768) c (c * 1048576) rfl (by omega) (by omega) (by omega) (by omega) (by omega) (by omega)
  simp only [en_w, en_r, e1, e2, r1, r2, r3, r4, r5]
theorem i64_and1 (x : Int) : bits .and .i64 x 1 = x % 2 := by
  have h1 : (BitVec.ofInt 64 x).toNat &&& (BitVec.ofInt 64 1).toNat = (BitVec.ofInt 64 x).toNat % 2 := by
    have e : (BitVec.ofInt 64 1).toNat = 2 ^ 1 - 1 := by decide
    rw [e, Nat.and_two_pow_sub_one_eq_mod]
  have h2 : (BitVec.ofInt 64 x).toNat = (x % 18446744073709551616).toNat := by
    rw [BitVec.toNat_ofInt]; rfl
  show IntKind.i64.wrap ((BitVec.ofInt 64 x &&& BitVec.ofInt 64 1).toNat : Int) = x % 2
  rw [BitVec.toNat_and, h1, h2, IntKind.wrap_i64]
  omega
theorem p_nil (imm x : Int) : en_p imm [] x = x := rfl
theorem p_step (imm x : Int) (r : List (Int × Int × Int)) (a b c : Int) (n m k : Nat) (ha : a.toNat = n) (hb : b.toNat = m) (hc : c.toNat = k) (P Q R : Int) (hP : (2 : Int) ^ n = P) (hQ : (2 : Int) ^ m = Q) (hR : (2 : Int) ^ k = R) (h : k + m ≤ 32)
    (hx0 : 0 ≤ x) (hx1 : x < 4294967296) (hz : x / R % Q = 0) (v : Int) (hv : imm % 4294967296 / P % Q = v) : en_p imm ((a, b, c) :: r) x = en_p imm r (x + v * R) := by
  subst hP hQ hR ha hb hc
  have hpos : (0 : Int) < 2 ^ a.toNat := Int.pow_pos (by decide)
  have hposb : (0 : Int) < 2 ^ b.toNat := Int.pow_pos (by decide)
  have hposc : (0 : Int) < 2 ^ c.toNat := Int.pow_pos (by decide)
  have h0 : 0 ≤ imm % 4294967296 / 2 ^ a.toNat := Int.ediv_nonneg (by omega) (by omega)
  have h1 : imm % 4294967296 / 2 ^ a.toNat < 4294967296 := by
    have := Int.ediv_le_self (a := imm % 4294967296) (2 ^ a.toNat) (by omega)
    omega
  have hv0 : 0 ≤ v := by rw [← hv]; exact Int.emod_nonneg _ (by omega)
  have hv1 : v < 2 ^ b.toNat := by rw [← hv]; exact Int.emod_lt_of_pos _ hposb
  show en_p imm r _ = _
  rw [u32_and b.toNat (by omega) _ h0 h1, hv]
  have hlt : v * 2 ^ c.toNat < 4294967296 := by
    have h3 : v * 2 ^ c.toNat < 2 ^ b.toNat * 2 ^ c.toNat := Int.mul_lt_mul_of_pos_right hv1 hposc
    have h4 : (2 : Int) ^ b.toNat * 2 ^ c.toNat = 2 ^ (b.toNat + c.toNat) := (Int.pow_add 2 _ _).symm
    have h5 : (2 : Int) ^ (b.toNat + c.toNat) ≤ 2 ^ 32 := by exact_mod_cast Nat.pow_le_pow_right (n := 2) (by decide) (by omega : b.toNat + c.toNat ≤ 32)
    have h6 : (2 : Int) ^ 32 = 4294967296 := by decide
    omega
  have hge : 0 ≤ v * 2 ^ c.toNat := Int.mul_nonneg hv0 (Int.le_of_lt hposc)
  rw [Int.emod_eq_of_lt hge hlt, u32_or c.toNat b.toNat x v _ rfl hx0 hx1 hv0 hv1 hz h]
theorem encF_ok {ok : Bool} {sf so s3 s7 lo hi rd rs1 rs2 imm x : Int} : encF ok sf so s3 s7 lo hi rd rs1 rs2 imm = (x, 0) ↔ ok = true ∧ (lo > hi → imm = 0) ∧ (0 ≤ rd ∧ rd < 32 ∧ 0 ≤ rs1 ∧ rs1 < 32 ∧ 0 ≤ rs2 ∧ rs2 < 32) ∧ en_far lo hi imm (en_odd sf imm) = false ∧ en_p imm (cf_pieces sf) (en_w so s3 s7 rd rs1 rs2 3) = x := by
  unfold encF
  constructor
  · intro h
    split at h
    · cases h
    · split at h
      · cases h
      · split at h
        · cases h
        · split at h
          · cases h
          · rename_i h1 h2 h3 h4
            refine ⟨by simpa using h1, fun h5 => ?_, by omega, by simpa using h4, (Prod.mk.inj h).1⟩
            rcases Int.decEq imm 0 with hn | hn
            · exact absurd ⟨h5, hn⟩ h2
            · exact hn
  · rintro ⟨h1, h2, h3, h4, h5⟩
    rw [if_neg (by simp [h1]), if_neg (fun h => h.2 (h2 h.1)), if_neg (by omega), if_neg (by simp [h4]), h5]
theorem en_far_false {lo hi imm : Int} {odd : Bool} (h : lo ≤ hi) : en_far lo hi imm odd = false ↔ lo ≤ imm ∧ imm ≤ hi ∧ odd = false := by
  unfold en_far
  rw [decide_eq_true h]
  cases odd <;> simp <;> omega
theorem en_far_false' {lo hi imm : Int} {odd : Bool} (h : hi < lo) : en_far lo hi imm odd = false := by
  unfold en_far
  rw [decide_eq_false (by omega)]
  rfl
theorem en_odd_is (f imm : Int) (h : f = 66 ∨ f = 74) : en_odd f imm = false ↔ imm % 2 = 0 := by
  unfold en_odd
  rw [i64_and1]
  rcases h with rfl | rfl <;> simp <;> omega
theorem en_odd_no (f imm : Int) (h1 : f ≠ 66) (h2 : f ≠ 74) : en_odd f imm = false := by
  unfold en_odd
  simp [h1, h2]
def RowOk (e : Ent) : Prop := (0 ≤ e.op ∧ e.op < 128) ∧ (0 ≤ e.f3 ∧ e.f3 < 8) ∧ (0 ≤ e.f7 ∧ e.f7 < 128) ∧ (e.form = 82 ∨ (e.form = 84 ∧ e.f7 % 2 = 0) ∨ (e.f7 = 0 ∧ (e.form = 73 ∨ e.form = 83 ∨ e.form = 66 ∨ e.form = 78 ∨ ((e.form = 85 ∨ e.form = 74) ∧ e.f3 = 0))))
instance (e : Ent) : Decidable (RowOk e) := by unfold RowOk; infer_instance
def w_base (e : Ent) (rd rs1 rs2 : Int) : Int := e.op + e.f3 * 4096 + e.f7 * 33554432 + rd * 128 + rs1 * 32768 + rs2 * 1048576
def Fits (e : Ent) (rd rs1 rs2 imm x : Int) : Prop :=
  (0 ≤ rd ∧ rd < 32 ∧ 0 ≤ rs1 ∧ rs1 < 32 ∧ 0 ≤ rs2 ∧ rs2 < 32) ∧
  ((e.form = 82 ∧ imm = 0 ∧ x = w_base e rd rs1 rs2) ∨
   (e.form = 73 ∧ rs2 = 0 ∧ -2048 ≤ imm ∧ imm ≤ 2047 ∧ x = w_base e rd rs1 rs2 + imm % 4096 * 1048576) ∨
   (e.form = 84 ∧ rs2 = 0 ∧ 0 ≤ imm ∧ imm ≤ 63 ∧ x = w_base e rd rs1 rs2 + imm * 1048576) ∨
   (e.form = 83 ∧ rd = 0 ∧ -2048 ≤ imm ∧ imm ≤ 2047 ∧ x = w_base e rd rs1 rs2 + imm % 32 * 128 + imm % 4096 / 32 * 33554432) ∨
   (e.form = 66 ∧ rd = 0 ∧ -4096 ≤ imm ∧ imm ≤ 4094 ∧ imm % 2 = 0 ∧ x = w_base e rd rs1 rs2 + imm % 4096 / 2048 * 128 + imm % 32 / 2 * 256 + imm % 2048 / 32 * 33554432 + imm % 8192 / 4096 * 2147483648) ∨
   (e.form = 85 ∧ rs1 = 0 ∧ rs2 = 0 ∧ -524288 ≤ imm ∧ imm ≤ 524287 ∧ x = w_base e rd rs1 rs2 + imm % 1048576 * 4096) ∨
   (e.form = 74 ∧ rs1 = 0 ∧ rs2 = 0 ∧ -1048576 ≤ imm ∧ imm ≤ 1048574 ∧ imm % 2 = 0 ∧ x = w_base e rd rs1 rs2 + imm % 1048576 / 4096 * 4096 + imm % 4096 / 2048 * 1048576 + imm % 2048 / 2 * 2097152 + imm % 2097152 / 1048576 * 2147483648) ∨
   (e.form = 78 ∧ rd = 0 ∧ rs1 = 0 ∧ rs2 = 0 ∧ imm = 0 ∧ x = w_base e rd rs1 rs2))
theorem ep_73 (imm x : Int) (h0 : 0 ≤ x) (h1 : x < 4294967296) (hz : x / 1048576 % 4096 = 0) : en_p imm (cf_pieces 73) x = x + imm % 4096 * 1048576 :=
  p_step imm x [] 0 12 20 0 12 20 rfl rfl rfl 1 4096 1048576 (by decide) (by decide) (by decide) (by decide) h0 h1 hz (imm % 4096) (by omega)
theorem ep_84 (imm x : Int) (h0 : 0 ≤ x) (h1 : x < 4294967296) (hz : x / 1048576 % 64 = 0) (hi : 0 ≤ imm ∧ imm ≤ 63) : en_p imm (cf_pieces 84) x = x + imm * 1048576 :=
  p_step imm x [] 0 6 20 0 6 20 rfl rfl rfl 1 64 1048576 (by decide) (by decide) (by decide) (by decide) h0 h1 hz imm (by omega)
theorem ep_85 (imm x : Int) (h0 : 0 ≤ x) (h1 : x < 4294967296) (hz : x / 4096 % 1048576 = 0) : en_p imm (cf_pieces 85) x = x + imm % 1048576 * 4096 :=
  p_step imm x [] 0 20 12 0 20 12 rfl rfl rfl 1 1048576 4096 (by decide) (by decide) (by decide) (by decide) h0 h1 hz (imm % 1048576) (by omega)
theorem ep_83 (imm o s3 b c : Int) (ho : 0 ≤ o ∧ o < 128) (h3 : 0 ≤ s3 ∧ s3 < 8) (hb : 0 ≤ b ∧ b < 32) (hc : 0 ≤ c ∧ c < 32) :
    en_p imm (cf_pieces 83) (o + s3 * 4096 + b * 32768 + c * 1048576) = o + s3 * 4096 + b * 32768 + c * 1048576 + imm % 32 * 128 + imm % 4096 / 32 * 33554432 := by
  obtain ⟨p, hp⟩ : ∃ v, imm % 32 = v := ⟨_, rfl⟩
  have hp0 : 0 ≤ p ∧ p < 32 := by omega
  have hp1 : imm % 4294967296 / 1 % 32 = p := by omega
  obtain ⟨q, hq⟩ : ∃ v, imm % 4096 / 32 = v := ⟨_, rfl⟩
  have hq0 : 0 ≤ q ∧ q < 128 := by omega
  have hq1 : imm % 4294967296 / 32 % 128 = q := by omega
  rw [hp, hq]
  clear hp hq
  exact (p_step imm (o + s3 * 4096 + b * 32768 + c * 1048576) [(5, 7, 25)] 0 5 7 0 5 7 rfl rfl rfl 1 32 128 (by decide) (by decide) (by decide) (by decide) (by clear hp1 hq1; omega) (by clear hp1 hq1; omega) (by clear hp1 hq1; omega) p hp1).trans <|
    (p_step imm (o + s3 * 4096 + b * 32768 + c * 1048576 + p * 128) [] 5 7 25 5 7 25 rfl rfl rfl 32 128 33554432 (by decide) (by decide) (by decide) (by decide) (by clear hp1 hq1; omega) (by clear hp1 hq1; omega) (by clear hp1 hq1; omega) q hq1)
theorem ep_66 (imm o s3 b c : Int) (ho : 0 ≤ o ∧ o < 128) (h3 : 0 ≤ s3 ∧ s3 < 8) (hb : 0 ≤ b ∧ b < 32) (hc : 0 ≤ c ∧ c < 32) :
    en_p imm (cf_pieces 66) (o + s3 * 4096 + b * 32768 + c * 1048576) = o + s3 * 4096 + b * 32768 + c * 1048576 + imm % 4096 / 2048 * 128 + imm % 32 / 2 * 256 + imm % 2048 / 32 * 33554432 + imm % 8192 / 4096 * 2147483648 := by
  obtain ⟨p, hp⟩ : ∃ v, imm % 4096 / 2048 = v := ⟨_, rfl⟩
  have hp0 : 0 ≤ p ∧ p < 2 := by omega
  have hp1 : imm % 4294967296 / 2048 % 2 = p := by omega
  obtain ⟨q, hq⟩ : ∃ v, imm % 32 / 2 = v := ⟨_, rfl⟩
  have hq0 : 0 ≤ q ∧ q < 16 := by omega
  have hq1 : imm % 4294967296 / 2 % 16 = q := by omega
  obtain ⟨r, hr⟩ : ∃ v, imm % 2048 / 32 = v := ⟨_, rfl⟩
  have hr0 : 0 ≤ r ∧ r < 64 := by omega
  have hr1 : imm % 4294967296 / 32 % 64 = r := by omega
  obtain ⟨t, ht⟩ : ∃ v, imm % 8192 / 4096 = v := ⟨_, rfl⟩
  have ht0 : 0 ≤ t ∧ t < 2 := by omega
  have ht1 : imm % 4294967296 / 4096 % 2 = t := by omega
  rw [hp, hq, hr, ht]
  clear hp hq hr ht
  exact (p_step imm (o + s3 * 4096 + b * 32768 + c * 1048576) [(1, 4, 8), (5, 6, 25), (12, 1, 31)] 11 1 7 11 1 7 rfl rfl rfl 2048 2 128 (by decide) (by decide) (by decide) (by decide) (by clear hp1 hq1 hr1 ht1; omega) (by clear hp1 hq1 hr1 ht1; omega) (by clear hp1 hq1 hr1 ht1; omega) p hp1).trans <|
    (p_step imm (o + s3 * 4096 + b * 32768 + c * 1048576 + p * 128) [(5, 6, 25), (12, 1, 31)] 1 4 8 1 4 8 rfl rfl rfl 2 16 256 (by decide) (by decide) (by decide) (by decide) (by clear hp1 hq1 hr1 ht1; omega) (by clear hp1 hq1 hr1 ht1; omega) (by clear hp1 hq1 hr1 ht1; omega) q hq1).trans <|
    (p_step imm (o + s3 * 4096 + b * 32768 + c * 1048576 + p * 128 + q * 256) [(12, 1, 31)] 5 6 25 5 6 25 rfl rfl rfl 32 64 33554432 (by decide) (by decide) (by decide) (by decide) (by clear hp1 hq1 hr1 ht1; omega) (by clear hp1 hq1 hr1 ht1; omega) (by clear hp1 hq1 hr1 ht1; omega) r hr1).trans <|
    (p_step imm (o + s3 * 4096 + b * 32768 + c * 1048576 + p * 128 + q * 256 + r * 33554432) [] 12 1 31 12 1 31 rfl rfl rfl 4096 2 2147483648 (by decide) (by decide) (by decide) (by decide) (by clear hp1 hq1 hr1 ht1; omega) (by clear hp1 hq1 hr1 ht1; omega) (by clear hp1 hq1 hr1 ht1; omega) t ht1)
theorem ep_74 (imm o a : Int) (ho : 0 ≤ o ∧ o < 128) (ha : 0 ≤ a ∧ a < 32) :
    en_p imm (cf_pieces 74) (o + a * 128) = o + a * 128 + imm % 1048576 / 4096 * 4096 + imm % 4096 / 2048 * 1048576 + imm % 2048 / 2 * 2097152 + imm % 2097152 / 1048576 * 2147483648 := by
  obtain ⟨p, hp⟩ : ∃ v, imm % 1048576 / 4096 = v := ⟨_, rfl⟩
  have hp0 : 0 ≤ p ∧ p < 256 := by omega
  have hp1 : imm % 4294967296 / 4096 % 256 = p := by omega
  obtain ⟨q, hq⟩ : ∃ v, imm % 4096 / 2048 = v := ⟨_, rfl⟩
  have hq0 : 0 ≤ q ∧ q < 2 := by omega
  have hq1 : imm % 4294967296 / 2048 % 2 = q := by omega
  obtain ⟨r, hr⟩ : ∃ v, imm % 2048 / 2 = v := ⟨_, rfl⟩
  have hr0 : 0 ≤ r ∧ r < 1024 := by omega
  have hr1 : imm % 4294967296 / 2 % 1024 = r := by omega
  obtain ⟨t, ht⟩ : ∃ v, imm % 2097152 / 1048576 = v := ⟨_, rfl⟩
  have ht0 : 0 ≤ t ∧ t < 2 := by omega
  have ht1 : imm % 4294967296 / 1048576 % 2 = t := by omega
  rw [hp, hq, hr, ht]
  clear hp hq hr ht
  exact (p_step imm (o + a * 128) [(11, 1, 20), (1, 10, 21), (20, 1, 31)] 12 8 12 12 8 12 rfl rfl rfl 4096 256 4096 (by decide) (by decide) (by decide) (by decide) (by clear hp1 hq1 hr1 ht1; omega) (by clear hp1 hq1 hr1 ht1; omega) (by clear hp1 hq1 hr1 ht1; omega) p hp1).trans <|
    (p_step imm (o + a * 128 + p * 4096) [(1, 10, 21), (20, 1, 31)] 11 1 20 11 1 20 rfl rfl rfl 2048 2 1048576 (by decide) (by decide) (by decide) (by decide) (by clear hp1 hq1 hr1 ht1; omega) (by clear hp1 hq1 hr1 ht1; omega) (by clear hp1 hq1 hr1 ht1; omega) q hq1).trans <|
    (p_step imm (o + a * 128 + p * 4096 + q * 1048576) [(20, 1, 31)] 1 10 21 1 10 21 rfl rfl rfl 2 1024 2097152 (by decide) (by decide) (by decide) (by decide) (by clear hp1 hq1 hr1 ht1; omega) (by clear hp1 hq1 hr1 ht1; omega) (by clear hp1 hq1 hr1 ht1; omega) r hr1).trans <|
    (p_step imm (o + a * 128 + p * 4096 + q * 1048576 + r * 2097152) [] 20 1 31 20 1 31 rfl rfl rfl 1048576 2 2147483648 (by decide) (by decide) (by decide) (by decide) (by clear hp1 hq1 hr1 ht1; omega) (by clear hp1 hq1 hr1 ht1; omega) (by clear hp1 hq1 hr1 ht1; omega) t ht1)
theorem en_ok_iff (u0 u1 u2 : Bool) (a b c : Int) : en_ok true u0 u1 u2 a b c 3 = true ↔ (u0 = false → a = 0) ∧ (u1 = false → b = 0) ∧ (u2 = false → c = 0) := by
  cases u0 <;> cases u1 <;> cases u2 <;> simp [en_ok] <;> omega
/-- The word of a row's instruction. -/
theorem enc_iff (e : Ent) (he : RowOk e) (rd rs1 rs2 imm x : Int) :
    encF (en_ok true (cf_uses e.form).1 (cf_uses e.form).2.1 (cf_uses e.form).2.2 rd rs1 rs2 3) e.form e.op e.f3 e.f7 (cf_room e.form).1 (cf_room e.form).2 rd rs1 rs2 imm = (x, 0) ↔ Fits e rd rs1 rs2 imm x := by
  obtain ⟨n, f, o, s3, s7⟩ := e
  obtain ⟨ho, h3, h7, hf⟩ := he
  simp only at ho h3 h7 hf
  simp only [Fits, w_base]
  rw [encF_ok]
  have rg : ∀ {P Q : Prop}, (0 ≤ rd ∧ rd < 32 ∧ 0 ≤ rs1 ∧ rs1 < 32 ∧ 0 ≤ rs2 ∧ rs2 < 32 → (P ↔ Q)) → ((0 ≤ rd ∧ rd < 32 ∧ 0 ≤ rs1 ∧ rs1 < 32 ∧ 0 ≤ rs2 ∧ rs2 < 32) ∧ P ↔ (0 ≤ rd ∧ rd < 32 ∧ 0 ≤ rs1 ∧ rs1 < 32 ∧ 0 ≤ rs2 ∧ rs2 < 32) ∧ Q) := fun h => ⟨fun ⟨a, b⟩ => ⟨a, (h a).1 b⟩, fun ⟨a, b⟩ => ⟨a, (h a).2 b⟩⟩
  have sw : ∀ {A B C D E : Prop}, A ∧ B ∧ C ∧ D ∧ E ↔ C ∧ A ∧ B ∧ D ∧ E := ⟨fun ⟨a, b, c, d⟩ => ⟨c, a, b, d⟩, fun ⟨c, a, b, d⟩ => ⟨a, b, c, d⟩⟩
  rw [sw]
  refine rg (fun ⟨ha0, ha1, hb0, hb1, hc0, hc1⟩ => ?_)
  rw [w_regs o s3 s7 rd rs1 rs2 ho h3 h7 ⟨ha0, ha1⟩ ⟨hb0, hb1⟩ ⟨hc0, hc1⟩]
  rcases hf with rfl | ⟨rfl, hf⟩ | ⟨rfl, rfl | rfl | rfl | rfl | ⟨rfl | rfl, rfl⟩⟩
  · -- R
    simp only [show cf_uses 82 = (true, true, true) from rfl, show cf_room 82 = (1, 0) from rfl, show cf_pieces 82 = [] from rfl, p_nil, en_ok_iff]
    rw [en_far_false' (by decide)]
    constructor
    · rintro ⟨_, h2, _, h4⟩
      exact .inl ⟨(by first | exact trivial | rfl), h2 (by decide), by omega⟩
    · intro h
      have h' : imm = 0 ∧ x = o + s3 * 4096 + s7 * 33554432 + rd * 128 + rs1 * 32768 + rs2 * 1048576 := by
        rcases h with ⟨hh, h⟩ | ⟨hh, h⟩ | ⟨hh, h⟩ | ⟨hh, h⟩ | ⟨hh, h⟩ | ⟨hh, h⟩ | ⟨hh, h⟩ | ⟨hh, h⟩ <;> first | exact hh.elim | exact absurd hh (by decide) | exact h
      clear h
      exact ⟨⟨by simp, by simp, by simp⟩, fun _ => h'.1, rfl, by omega⟩
  · -- T
    simp only [show cf_uses 84 = (true, true, false) from rfl, show cf_room 84 = (0, 63) from rfl, en_ok_iff]
    rw [en_far_false (by decide), en_odd_no 84 imm (by decide) (by decide)]
    constructor
    · rintro ⟨h1, _, h4, h5⟩
      have hc : rs2 = 0 := h1.2.2 (by first | exact trivial | rfl)
      rw [ep_84 _ _ (by omega) (by omega) (by omega) (by omega)] at h5
      exact (.inr (.inr (.inl ⟨(by first | exact trivial | rfl), hc, by omega, by omega, by omega⟩)))
    · intro h
      have h' : rs2 = 0 ∧ 0 ≤ imm ∧ imm ≤ 63 ∧ x = o + s3 * 4096 + s7 * 33554432 + rd * 128 + rs1 * 32768 + rs2 * 1048576 + imm * 1048576 := by
        rcases h with ⟨hh, h⟩ | ⟨hh, h⟩ | ⟨hh, h⟩ | ⟨hh, h⟩ | ⟨hh, h⟩ | ⟨hh, h⟩ | ⟨hh, h⟩ | ⟨hh, h⟩ <;> first | exact hh.elim | exact absurd hh (by decide) | exact h
      refine ⟨⟨by simp, by simp, fun _ => h'.1⟩, by omega, ⟨by omega, by omega, rfl⟩, ?_⟩
      rw [ep_84 _ _ (by omega) (by omega) (by omega) (by omega)]
      omega
  · -- I
    simp only [show cf_uses 73 = (true, true, false) from rfl, show cf_room 73 = (-2048, 2047) from rfl, en_ok_iff]
    rw [en_far_false (by decide), en_odd_no 73 imm (by decide) (by decide)]
    constructor
    · rintro ⟨h1, _, h4, h5⟩
      have hc : rs2 = 0 := h1.2.2 (by first | exact trivial | rfl)
      rw [ep_73 _ _ (by omega) (by omega) (by omega)] at h5
      exact (.inr (.inl ⟨(by first | exact trivial | rfl), hc, by omega, by omega, by omega⟩))
    · intro h
      have h' : rs2 = 0 ∧ -2048 ≤ imm ∧ imm ≤ 2047 ∧ x = o + s3 * 4096 + 0 * 33554432 + rd * 128 + rs1 * 32768 + rs2 * 1048576 + imm % 4096 * 1048576 := by
        rcases h with ⟨hh, h⟩ | ⟨hh, h⟩ | ⟨hh, h⟩ | ⟨hh, h⟩ | ⟨hh, h⟩ | ⟨hh, h⟩ | ⟨hh, h⟩ | ⟨hh, h⟩ <;> first | exact hh.elim | exact absurd hh (by decide) | exact h
      refine ⟨⟨by simp, by simp, fun _ => h'.1⟩, by omega, ⟨by omega, by omega, rfl⟩, ?_⟩
      rw [ep_73 _ _ (by omega) (by omega) (by omega)]
      omega
  · -- S
    simp only [show cf_uses 83 = (false, true, true) from rfl, show cf_room 83 = (-2048, 2047) from rfl, en_ok_iff]
    rw [en_far_false (by decide), en_odd_no 83 imm (by decide) (by decide)]
    constructor
    · rintro ⟨h1, _, h4, h5⟩
      have hc : rd = 0 := h1.1 (by first | exact trivial | rfl)
      rw [show o + s3 * 4096 + 0 * 33554432 + rd * 128 + rs1 * 32768 + rs2 * 1048576 = o + s3 * 4096 + rs1 * 32768 + rs2 * 1048576 by omega, ep_83 _ _ _ _ _ ho h3 ⟨hb0, hb1⟩ ⟨hc0, hc1⟩] at h5
      exact (.inr (.inr (.inr (.inl ⟨(by first | exact trivial | rfl), hc, h4.1, h4.2.1, by omega⟩))))
    · intro h
      have h' : rd = 0 ∧ -2048 ≤ imm ∧ imm ≤ 2047 ∧ x = o + s3 * 4096 + 0 * 33554432 + rd * 128 + rs1 * 32768 + rs2 * 1048576 + imm % 32 * 128 + imm % 4096 / 32 * 33554432 := by
        rcases h with ⟨hh, h⟩ | ⟨hh, h⟩ | ⟨hh, h⟩ | ⟨hh, h⟩ | ⟨hh, h⟩ | ⟨hh, h⟩ | ⟨hh, h⟩ | ⟨hh, h⟩ <;> first | exact hh.elim | exact absurd hh (by decide) | exact h
      refine ⟨⟨fun _ => h'.1, by simp, by simp⟩, by omega, ⟨by omega, by omega, rfl⟩, ?_⟩
      rw [show o + s3 * 4096 + 0 * 33554432 + rd * 128 + rs1 * 32768 + rs2 * 1048576 = o + s3 * 4096 + rs1 * 32768 + rs2 * 1048576 by omega, ep_83 _ _ _ _ _ ho h3 ⟨hb0, hb1⟩ ⟨hc0, hc1⟩]
      omega
  · -- B
    simp only [show cf_uses 66 = (false, true, true) from rfl, show cf_room 66 = (-4096, 4094) from rfl, en_ok_iff]
    rw [en_far_false (by decide), en_odd_is 66 imm (.inl rfl)]
    constructor
    · rintro ⟨h1, _, h4, h5⟩
      have hc : rd = 0 := h1.1 (by first | exact trivial | rfl)
      rw [show o + s3 * 4096 + 0 * 33554432 + rd * 128 + rs1 * 32768 + rs2 * 1048576 = o + s3 * 4096 + rs1 * 32768 + rs2 * 1048576 by omega, ep_66 _ _ _ _ _ ho h3 ⟨hb0, hb1⟩ ⟨hc0, hc1⟩] at h5
      exact (.inr (.inr (.inr (.inr (.inl ⟨(by first | exact trivial | rfl), hc, h4.1, h4.2.1, h4.2.2, by omega⟩)))))
    · intro h
      have h' : rd = 0 ∧ -4096 ≤ imm ∧ imm ≤ 4094 ∧ imm % 2 = 0 ∧ x = o + s3 * 4096 + 0 * 33554432 + rd * 128 + rs1 * 32768 + rs2 * 1048576 + imm % 4096 / 2048 * 128 + imm % 32 / 2 * 256 + imm % 2048 / 32 * 33554432 + imm % 8192 / 4096 * 2147483648 := by
        rcases h with ⟨hh, h⟩ | ⟨hh, h⟩ | ⟨hh, h⟩ | ⟨hh, h⟩ | ⟨hh, h⟩ | ⟨hh, h⟩ | ⟨hh, h⟩ | ⟨hh, h⟩ <;> first | exact hh.elim | exact absurd hh (by decide) | exact h
      refine ⟨⟨fun _ => h'.1, by simp, by simp⟩, by omega, ⟨by omega, by omega, by omega⟩, ?_⟩
      rw [show o + s3 * 4096 + 0 * 33554432 + rd * 128 + rs1 * 32768 + rs2 * 1048576 = o + s3 * 4096 + rs1 * 32768 + rs2 * 1048576 by omega, ep_66 _ _ _ _ _ ho h3 ⟨hb0, hb1⟩ ⟨hc0, hc1⟩]
      omega
  · -- N
    simp only [show cf_uses 78 = (false, false, false) from rfl, show cf_room 78 = (1, 0) from rfl, show cf_pieces 78 = [] from rfl, p_nil, en_ok_iff]
    rw [en_far_false' (by decide)]
    constructor
    · rintro ⟨h1, h2, _, h4⟩
      have k1 := h1.1 (by first | exact trivial | rfl)
      have k2 := h1.2.1 (by first | exact trivial | rfl)
      have k3 := h1.2.2 (by first | exact trivial | rfl)
      have k4 := h2 (by decide)
      exact .inr (.inr (.inr (.inr (.inr (.inr (.inr ⟨(by first | exact trivial | rfl), k1, k2, k3, k4, by omega⟩))))))
    · intro h
      have h' : rd = 0 ∧ rs1 = 0 ∧ rs2 = 0 ∧ imm = 0 ∧ x = o + s3 * 4096 + 0 * 33554432 + rd * 128 + rs1 * 32768 + rs2 * 1048576 := by
        rcases h with ⟨hh, h⟩ | ⟨hh, h⟩ | ⟨hh, h⟩ | ⟨hh, h⟩ | ⟨hh, h⟩ | ⟨hh, h⟩ | ⟨hh, h⟩ | ⟨hh, h⟩ <;> first | exact hh.elim | exact absurd hh (by decide) | exact h
      clear h
      exact ⟨⟨fun _ => by omega, fun _ => by omega, fun _ => by omega⟩, fun _ => by omega, rfl, by omega⟩
  · -- U
    simp only [show cf_uses 85 = (true, false, false) from rfl, show cf_room 85 = (-524288, 524287) from rfl, en_ok_iff]
    rw [en_far_false (by decide), en_odd_no 85 imm (by decide) (by decide)]
    constructor
    · rintro ⟨h1, _, h4, h5⟩
      have hb : rs1 = 0 := h1.2.1 (by first | exact trivial | rfl)
      have hc : rs2 = 0 := h1.2.2 (by first | exact trivial | rfl)
      rw [ep_85 _ _ (by omega) (by omega) (by omega)] at h5
      exact (.inr (.inr (.inr (.inr (.inr (.inl ⟨(by first | exact trivial | rfl), hb, hc, h4.1, h4.2.1, by omega⟩))))))
    · intro h
      have h' : rs1 = 0 ∧ rs2 = 0 ∧ -524288 ≤ imm ∧ imm ≤ 524287 ∧ x = o + 0 * 4096 + 0 * 33554432 + rd * 128 + rs1 * 32768 + rs2 * 1048576 + imm % 1048576 * 4096 := by
        rcases h with ⟨hh, h⟩ | ⟨hh, h⟩ | ⟨hh, h⟩ | ⟨hh, h⟩ | ⟨hh, h⟩ | ⟨hh, h⟩ | ⟨hh, h⟩ | ⟨hh, h⟩ <;> first | exact hh.elim | exact absurd hh (by decide) | exact h
      refine ⟨⟨by simp, fun _ => h'.1, fun _ => h'.2.1⟩, by omega, ⟨by omega, by omega, rfl⟩, ?_⟩
      rw [ep_85 _ _ (by omega) (by omega) (by omega)]
      omega
  · -- J
    simp only [show cf_uses 74 = (true, false, false) from rfl, show cf_room 74 = (-1048576, 1048574) from rfl, en_ok_iff]
    rw [en_far_false (by decide), en_odd_is 74 imm (.inr rfl)]
    constructor
    · rintro ⟨h1, _, h4, h5⟩
      have hb : rs1 = 0 := h1.2.1 (by first | exact trivial | rfl)
      have hc : rs2 = 0 := h1.2.2 (by first | exact trivial | rfl)
      rw [show o + 0 * 4096 + 0 * 33554432 + rd * 128 + rs1 * 32768 + rs2 * 1048576 = o + rd * 128 by omega, ep_74 _ _ _ ho ⟨ha0, ha1⟩] at h5
      exact (.inr (.inr (.inr (.inr (.inr (.inr (.inl ⟨(by first | exact trivial | rfl), hb, hc, h4.1, h4.2.1, h4.2.2, by omega⟩)))))))
    · intro h
      have h' : rs1 = 0 ∧ rs2 = 0 ∧ -1048576 ≤ imm ∧ imm ≤ 1048574 ∧ imm % 2 = 0 ∧ x = o + 0 * 4096 + 0 * 33554432 + rd * 128 + rs1 * 32768 + rs2 * 1048576 + imm % 1048576 / 4096 * 4096 + imm % 4096 / 2048 * 1048576 + imm % 2048 / 2 * 2097152 + imm % 2097152 / 1048576 * 2147483648 := by
        rcases h with ⟨hh, h⟩ | ⟨hh, h⟩ | ⟨hh, h⟩ | ⟨hh, h⟩ | ⟨hh, h⟩ | ⟨hh, h⟩ | ⟨hh, h⟩ | ⟨hh, h⟩ <;> first | exact hh.elim | exact absurd hh (by decide) | exact h
      refine ⟨⟨by simp, fun _ => h'.1, fun _ => h'.2.1⟩, by omega, ⟨by omega, by omega, by omega⟩, ?_⟩
      rw [show o + 0 * 4096 + 0 * 33554432 + rd * 128 + rs1 * 32768 + rs2 * 1048576 = o + rd * 128 by omega, ep_74 _ _ _ ho ⟨ha0, ha1⟩]
      omega
def sgn (n v : Int) : Int := if v ≥ n / 2 then v - n else v
/-- What a word of a form tells: the registers and Imm. -/
def Dec (f x : Int) : Int × Int × Int × Int :=
  if f = 82 then (x / 128 % 32, x / 32768 % 32, x / 1048576 % 32, 0)
  else if f = 73 then (x / 128 % 32, x / 32768 % 32, 0, sgn 4096 (x / 1048576))
  else if f = 84 then (x / 128 % 32, x / 32768 % 32, 0, x / 1048576 % 64)
  else if f = 83 then (0, x / 32768 % 32, x / 1048576 % 32, sgn 4096 (x / 128 % 32 + 32 * (x / 33554432)))
  else if f = 66 then (0, x / 32768 % 32, x / 1048576 % 32, sgn 8192 (2 * (x / 256 % 16) + 32 * (x / 33554432 % 64) + 2048 * (x / 128 % 2) + 4096 * (x / 2147483648)))
  else if f = 85 then (x / 128 % 32, 0, 0, sgn 1048576 (x / 4096))
  else if f = 74 then (x / 128 % 32, 0, 0, sgn 2097152 (2 * (x / 2097152 % 1024) + 2048 * (x / 1048576 % 2) + 4096 * (x / 4096 % 256) + 1048576 * (x / 2147483648)))
  else (0, 0, 0, 0)
theorem sgn_of {n v i : Int} (h : (0 ≤ i ∧ i < n / 2 ∧ v = i) ∨ (i < 0 ∧ n / 2 ≤ v ∧ v = i + n)) : sgn n v = i := by
  unfold sgn
  split <;> omega
/-- A word tells its instruction. -/
theorem fits_dec (e : Ent) (he : RowOk e) (rd rs1 rs2 imm x : Int) (h : Fits e rd rs1 rs2 imm x) :
    (0 ≤ x ∧ x < 4294967296) ∧ x % 128 = e.op ∧ (e.form ≠ 85 → e.form ≠ 74 → x / 4096 % 8 = e.f3) ∧ (e.form = 82 → x / 33554432 = e.f7) ∧ (e.form = 84 → x / 67108864 = e.f7 / 2) ∧ Dec e.form x = (rd, rs1, rs2, imm) := by
  obtain ⟨n, f, o, s3, s7⟩ := e
  obtain ⟨ho, h3, h7, hf⟩ := he
  simp only at ho h3 h7 hf
  simp only [Fits, w_base] at h
  simp only
  obtain ⟨⟨ha0, ha1, hb0, hb1, hc0, hc1⟩, h⟩ := h
  rcases h with ⟨rfl, rfl, h⟩ | ⟨rfl, rfl, hi0, hi1, h⟩ | ⟨rfl, rfl, hi0, hi1, h⟩ | ⟨rfl, rfl, hi0, hi1, h⟩ | ⟨rfl, rfl, hi0, hi1, hi2, h⟩ | ⟨rfl, rfl, rfl, hi0, hi1, h⟩ | ⟨rfl, rfl, rfl, hi0, hi1, hi2, h⟩ | ⟨rfl, rfl, rfl, rfl, rfl, h⟩
  · -- R
    clear hf
    refine ⟨by omega, by omega, fun _ _ => by omega, fun _ => by omega, fun h => absurd h (by decide), ?_⟩
    show (_, _, _, _) = (_, _, _, _)
    rw [show x / 128 % 32 = rd by omega, show x / 32768 % 32 = rs1 by omega, show x / 1048576 % 32 = rs2 by omega]
  · -- I
    have h7' : s7 = 0 := by omega
    subst h7'
    obtain ⟨p, hp⟩ : ∃ v, imm % 4096 = v := ⟨_, rfl⟩
    have hp0 : 0 ≤ p ∧ p < 4096 := by omega
    have hp1 : (0 ≤ imm ∧ imm < 4096 / 2 ∧ p = imm) ∨ (imm < 0 ∧ 4096 / 2 ≤ p ∧ p = imm + 4096) := by omega
    rw [hp] at h
    clear hp hf
    have e1 : x / 1048576 = p := by clear hp1; omega
    refine ⟨by clear hp1; omega, by clear hp1; omega, fun _ _ => by clear hp1; omega, fun h => absurd h (by decide), fun h => absurd h (by decide), ?_⟩
    show (_, _, _, _) = (_, _, _, _)
    rw [show x / 128 % 32 = rd by clear hp1; omega, show x / 32768 % 32 = rs1 by clear hp1; omega, e1, sgn_of hp1]
  · -- T
    have h7' : s7 % 2 = 0 := by omega
    clear hf
    refine ⟨by omega, by omega, fun _ _ => by omega, fun h => absurd h (by decide), fun _ => by omega, ?_⟩
    show (_, _, _, _) = (_, _, _, _)
    rw [show x / 128 % 32 = rd by omega, show x / 32768 % 32 = rs1 by omega, show x / 1048576 % 64 = imm by omega]
  · -- S
    have h7' : s7 = 0 := by omega
    subst h7'
    obtain ⟨p, hp⟩ : ∃ v, imm % 32 = v := ⟨_, rfl⟩
    obtain ⟨q, hq⟩ : ∃ v, imm % 4096 / 32 = v := ⟨_, rfl⟩
    have hp0 : 0 ≤ p ∧ p < 32 := by omega
    have hq0 : 0 ≤ q ∧ q < 128 := by omega
    have hp1 : (0 ≤ imm ∧ imm < 4096 / 2 ∧ p + 32 * q = imm) ∨ (imm < 0 ∧ 4096 / 2 ≤ p + 32 * q ∧ p + 32 * q = imm + 4096) := by omega
    rw [hp, hq] at h
    clear hp hq hf
    have e1 : x / 128 % 32 = p := by clear hp1; omega
    have e2 : x / 33554432 = q := by clear hp1; omega
    refine ⟨by clear hp1; omega, by clear hp1; omega, fun _ _ => by clear hp1; omega, fun h => absurd h (by decide), fun h => absurd h (by decide), ?_⟩
    show (_, _, _, _) = (_, _, _, _)
    rw [show x / 32768 % 32 = rs1 by clear hp1; omega, show x / 1048576 % 32 = rs2 by clear hp1; omega, e1, e2, sgn_of hp1]
  · -- B
    have h7' : s7 = 0 := by omega
    subst h7'
    obtain ⟨p, hp⟩ : ∃ v, imm % 4096 / 2048 = v := ⟨_, rfl⟩
    obtain ⟨q, hq⟩ : ∃ v, imm % 32 / 2 = v := ⟨_, rfl⟩
    obtain ⟨r, hr⟩ : ∃ v, imm % 2048 / 32 = v := ⟨_, rfl⟩
    obtain ⟨t, ht⟩ : ∃ v, imm % 8192 / 4096 = v := ⟨_, rfl⟩
    have hp0 : 0 ≤ p ∧ p < 2 := by omega
    have hq0 : 0 ≤ q ∧ q < 16 := by omega
    have hr0 : 0 ≤ r ∧ r < 64 := by omega
    have ht0 : 0 ≤ t ∧ t < 2 := by omega
    have hp1 : (0 ≤ imm ∧ imm < 8192 / 2 ∧ 2 * q + 32 * r + 2048 * p + 4096 * t = imm) ∨ (imm < 0 ∧ 8192 / 2 ≤ 2 * q + 32 * r + 2048 * p + 4096 * t ∧ 2 * q + 32 * r + 2048 * p + 4096 * t = imm + 8192) := by omega
    rw [hp, hq, hr, ht] at h
    clear hp hq hr ht hf
    have e1 : x / 128 % 2 = p := by clear hp1; omega
    have e2 : x / 256 % 16 = q := by clear hp1; omega
    have e3 : x / 33554432 % 64 = r := by clear hp1; omega
    have e4 : x / 2147483648 = t := by clear hp1; omega
    refine ⟨by clear hp1; omega, by clear hp1; omega, fun _ _ => by clear hp1; omega, fun h => absurd h (by decide), fun h => absurd h (by decide), ?_⟩
    show (_, _, _, _) = (_, _, _, _)
    rw [show x / 32768 % 32 = rs1 by clear hp1; omega, show x / 1048576 % 32 = rs2 by clear hp1; omega, e1, e2, e3, e4, sgn_of hp1]
  · -- U
    have h7' : s7 = 0 ∧ s3 = 0 := by omega
    obtain ⟨rfl, rfl⟩ := h7'
    obtain ⟨p, hp⟩ : ∃ v, imm % 1048576 = v := ⟨_, rfl⟩
    have hp0 : 0 ≤ p ∧ p < 1048576 := by omega
    have hp1 : (0 ≤ imm ∧ imm < 1048576 / 2 ∧ p = imm) ∨ (imm < 0 ∧ 1048576 / 2 ≤ p ∧ p = imm + 1048576) := by omega
    rw [hp] at h
    clear hp hf
    have e1 : x / 4096 = p := by clear hp1; omega
    refine ⟨by clear hp1; omega, by clear hp1; omega, fun h => absurd rfl h, fun h => absurd h (by decide), fun h => absurd h (by decide), ?_⟩
    show (_, _, _, _) = (_, _, _, _)
    rw [show x / 128 % 32 = rd by clear hp1; omega, e1, sgn_of hp1]
  · -- J
    have h7' : s7 = 0 ∧ s3 = 0 := by omega
    obtain ⟨rfl, rfl⟩ := h7'
    obtain ⟨p, hp⟩ : ∃ v, imm % 1048576 / 4096 = v := ⟨_, rfl⟩
    obtain ⟨q, hq⟩ : ∃ v, imm % 4096 / 2048 = v := ⟨_, rfl⟩
    obtain ⟨r, hr⟩ : ∃ v, imm % 2048 / 2 = v := ⟨_, rfl⟩
    obtain ⟨t, ht⟩ : ∃ v, imm % 2097152 / 1048576 = v := ⟨_, rfl⟩
    have hp0 : 0 ≤ p ∧ p < 256 := by omega
    have hq0 : 0 ≤ q ∧ q < 2 := by omega
    have hr0 : 0 ≤ r ∧ r < 1024 := by omega
    have ht0 : 0 ≤ t ∧ t < 2 := by omega
    have hp1 : (0 ≤ imm ∧ imm < 2097152 / 2 ∧ 2 * r + 2048 * q + 4096 * p + 1048576 * t = imm) ∨ (imm < 0 ∧ 2097152 / 2 ≤ 2 * r + 2048 * q + 4096 * p + 1048576 * t ∧ 2 * r + 2048 * q + 4096 * p + 1048576 * t = imm + 2097152) := by omega
    rw [hp, hq, hr, ht] at h
    clear hp hq hr ht hf
    have e1 : x / 4096 % 256 = p := by clear hp1; omega
    have e2 : x / 1048576 % 2 = q := by clear hp1; omega
    have e3 : x / 2097152 % 1024 = r := by clear hp1; omega
    have e4 : x / 2147483648 = t := by clear hp1; omega
    refine ⟨by clear hp1; omega, by clear hp1; omega, fun _ h => absurd rfl h, fun h => absurd h (by decide), fun h => absurd h (by decide), ?_⟩
    show (_, _, _, _) = (_, _, _, _)
    rw [show x / 128 % 32 = rd by clear hp1; omega, e1, e2, e3, e4, sgn_of hp1]
  · -- N
    have h7' : s7 = 0 := by omega
    subst h7'
    exact ⟨by omega, by omega, fun _ _ => by omega, fun h => absurd h (by decide), fun h => absurd h (by decide), rfl⟩
theorem rows_ok : ∀ e ∈ cm_e13, RowOk e := by
  intro e he
  have : (cm_e13.all (fun e => decide (RowOk e))) = true := by decide
  exact of_decide_eq_true (List.all_eq_true.mp this e he)
theorem has_mem {op : Int} (h : cm_has op = true) : cm_ent op ∈ cm_e13 ∧ (cm_ent op).n = op := by
  unfold cm_has at h
  unfold cm_ent
  cases hf : cm_e13.find? (fun e => decide (op = e.n)) with
  | none => rw [hf] at h; cases h
  | some e => exact ⟨List.mem_of_find?_eq_some hf, by have h2 := List.find?_some hf; simp only [decide_eq_true_eq] at h2; exact h2.symm⟩
theorem rows_apart (a b : Ent) (ha : a ∈ cm_e13) (hb : b ∈ cm_e13) : a.op = b.op → ((a.form = 85 ∨ a.form = 74) ∧ a.n = b.n) ∨ ((a.form ≠ 85 ∧ a.form ≠ 74) ∧ (b.form ≠ 85 ∧ b.form ≠ 74) ∧ (a.f3 = b.f3 → a.form = b.form ∧ ((a.form = 82 → a.f7 = b.f7) → (a.form = 84 → a.f7 / 2 = b.f7 / 2) → a.n = b.n))) := by
  have : (cm_e13.all (fun a => cm_e13.all (fun b => !(a.op == b.op) || ((a.form == 85 || a.form == 74) && a.n == b.n) || (!(a.form == 85) && !(a.form == 74) && !(b.form == 85) && !(b.form == 74) && (!(a.f3 == b.f3) || (a.form == b.form && (a.n == b.n || (a.form == 82 && !(a.f7 == b.f7)) || (a.form == 84 && !(a.f7 / 2 == b.f7 / 2))))))))) = true := by decide
  have h := List.all_eq_true.mp (List.all_eq_true.mp this a ha) b hb
  simp only [Bool.or_eq_true, Bool.and_eq_true, Bool.not_eq_true', beq_iff_eq, beq_eq_false_iff_ne] at h
  intro ho
  rcases h with (h | h) | ⟨⟨⟨⟨h1, h2⟩, h3⟩, h4⟩, h5⟩
  · exact absurd ho h
  · exact .inl h
  · refine .inr ⟨⟨h1, h2⟩, ⟨h3, h4⟩, fun hf => ?_⟩
    rcases h5 with h5 | ⟨h5, h6⟩
    · exact absurd hf h5
    · refine ⟨h5, fun h7 h8 => ?_⟩
      rcases h6 with (h6 | ⟨h6, h9⟩) | ⟨h6, h9⟩
      · exact h6
      · exact absurd (h7 h6) h9
      · exact absurd (h8 h6) h9
theorem enc_r_iff (op rd rs1 rs2 imm x : Int) : enc_r op rd rs1 rs2 imm = (x, 0) ↔ cm_has op = true ∧ Fits (cm_ent op) rd rs1 rs2 imm x := by
  unfold enc_r
  cases h : cm_has op with
  | false =>
    rw [encF_ok]
    have : ∀ u0 u1 u2, en_ok false u0 u1 u2 rd rs1 rs2 3 = false := fun _ _ _ => rfl
    simp [this]
  | true =>
    rw [enc_iff _ (rows_ok _ (has_mem h).1)]
    simp
/-- Two instructions of one word are the same. -/
theorem enc_apart {a0 a1 a2 a3 a4 b0 b1 b2 b3 b4 x : Int} (h1 : enc_r a0 a1 a2 a3 a4 = (x, 0)) (h2 : enc_r b0 b1 b2 b3 b4 = (x, 0)) : a0 = b0 ∧ a1 = b1 ∧ a2 = b2 ∧ a3 = b3 ∧ a4 = b4 := by
  obtain ⟨ha, fa⟩ := (enc_r_iff _ _ _ _ _ _).1 h1
  obtain ⟨hb, fb⟩ := (enc_r_iff _ _ _ _ _ _).1 h2
  obtain ⟨ma, na⟩ := has_mem ha
  obtain ⟨mb, nb⟩ := has_mem hb
  obtain ⟨_, p1, p2, p3, p4, p5⟩ := fits_dec _ (rows_ok _ ma) _ _ _ _ _ fa
  obtain ⟨_, q1, q2, q3, q4, q5⟩ := fits_dec _ (rows_ok _ mb) _ _ _ _ _ fb
  have hn : a0 = b0 := by
    rw [← na, ← nb]
    rcases rows_apart _ _ ma mb (p1.symm.trans q1) with ⟨_, h⟩ | ⟨⟨f1, f2⟩, ⟨f3, f4⟩, h⟩
    · exact h
    · obtain ⟨hf, h⟩ := h ((p2 f1 f2).symm.trans (q2 f3 f4))
      exact h (fun e => (p3 e).symm.trans (q3 (hf ▸ e))) (fun e => (p4 e).symm.trans (q4 (hf ▸ e)))
  subst hn
  have := p5.symm.trans q5
  simp only [Prod.mk.injEq] at this
  exact ⟨rfl, this⟩
end Go.Proofs.Ytkacoffiinggiaa.K
