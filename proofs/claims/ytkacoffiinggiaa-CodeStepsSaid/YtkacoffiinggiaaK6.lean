/- What Go functions of this seat answer: each has a Lean function ('.f') and a contract ('.calls'). Conditions: those of each theorem. Written by a program over the kit's printer; what is marked 'typed by hand' is this session's. -/
import Derived.Test.YtkacoffiinggiaaK0
import Derived.Test.YtkacoffiinggiaaK5
namespace Go.Proofs.Ytkacoffiinggiaa.K
open Go.RowKit Go.Proofs.YtkacoffiinggiaaW.PrintWords Go.Proofs.YtkacoffiinggiaaW.PrintLast Go.Proofs.YtkacoffiinggiaaW.PrintMore
attribute [local go_sem] max2_int min2_int max_two min_two max_three min_three max_four min_four   -- for this text's walks alone
set_option linter.unusedVariables false
set_option linter.unusedSimpArgs false

/-! ### code_Encode: function 9 (typed by hand) -/

theorem enc_look (w : World) (r : Nat) (h : w.heap[r]? = some (cm_st cm_e13)) (op : Int) (x : Value) (b : Bool) (hx : ((cm_at op cm_e13 0).map (·.2)).getD (cm_val ⟨op, 0, 0, 0, 0⟩) = x) (hb : (cm_at op cm_e13 0).isSome = b) :
  (Instr.lookup 50 (.map (some r)) (.int .i64 op) true).run Try.prog w = .ok (.tuple #[x, .bool b]) w := by
 have := cm_look w r cm_e13 h op true
 rw [hx, hb] at this
 exact this
theorem enc_s (w w2 : World) (hb : Below (w.alloc (Obj.cells #[.int .u8 0, .int .u32 0, .int .u32 0, .int .u32 0] 48)).drew.heap.size (w.alloc (Obj.cells #[.int .u8 0, .int .u32 0, .int .u32 0, .int .u32 0] 48)).drew w2) :
  w2.heap[w.heap.size]? = some (Obj.cells #[.int .u8 0, .int .u32 0, .int .u32 0, .int .u32 0] 48) := (hb.block _ (by simp)).trans (heap_alloc_new w _)
theorem code_shapes' (w : World) : Calls Try.prog 14 #[] w fun e w' => ∃ g, g = w.heap.size ∧ e = .returned (.map (some g)) ∧ w'.heap[g]? = some (cm_st cm_e13) ∧ Below w.heap.size w w' :=
 (code_shapes w).mono fun e w' ⟨h1, h2, h3⟩ => ⟨_, rfl, h1, h2, h3⟩
theorem enc_way1 {w w1 w2 : World} {g1 : Nat} {o1 : Obj} (HB : Below w.heap.size w w1) (h1 : w1.heap[g1]? = some o1) (hb : Below w1.drew.heap.size w1.drew w2) (o : Obj) :
  (w2.alloc o).heap[g1]? = some o1 ∧ (w2.alloc o).heap[w2.heap.size]? = some o ∧ w.heap.size ≤ w2.heap.size ∧ g1 ≠ w2.heap.size ∧ Below w.heap.size w (w2.alloc o) := by
 have hs : w1.heap.size ≤ w2.heap.size := hb.size
 have hl : g1 < w1.heap.size := blk_lt h1
 have ha : Below w2.heap.size w2 (w2.alloc o) := (Below.refl _ _).alloc (Nat.le_refl _) o
 refine ⟨(ha.block _ (by omega)).trans ((hb.block _ hl).trans h1), heap_alloc_new w2 o, Nat.le_trans HB.size hs, by omega, ?_⟩
 exact (below_step (HB.trans ((Below.refl _ _).drew : Below w.heap.size w1 w1.drew)) hb).alloc (Nat.le_trans HB.size hs) o
theorem enc_way2 {w w1 w2 : World} {g1 : Nat} {o1 : Obj} (HB : Below w.heap.size w w1) (h1 : w1.heap[g1]? = some o1)
  (hb : Below (w1.alloc (Obj.cells #[.int .u8 0, .int .u32 0, .int .u32 0, .int .u32 0] 48)).drew.heap.size (w1.alloc (Obj.cells #[.int .u8 0, .int .u32 0, .int .u32 0, .int .u32 0] 48)).drew w2) (a b c d : Value) :
  ((((w2.setCell ⟨w1.heap.size, 0, none⟩ a).setCell ⟨w1.heap.size, 1, none⟩ b).setCell ⟨w1.heap.size, 2, none⟩ c).setCell ⟨w1.heap.size, 3, none⟩ d).heap[g1]? = some o1 ∧
  ((((w2.setCell ⟨w1.heap.size, 0, none⟩ a).setCell ⟨w1.heap.size, 1, none⟩ b).setCell ⟨w1.heap.size, 2, none⟩ c).setCell ⟨w1.heap.size, 3, none⟩ d).heap[w1.heap.size]? = some (.cells #[a, b, c, d] 48 (0, 0)) ∧
  w.heap.size ≤ w1.heap.size ∧ g1 ≠ w1.heap.size ∧ Below w.heap.size w ((((w2.setCell ⟨w1.heap.size, 0, none⟩ a).setCell ⟨w1.heap.size, 1, none⟩ b).setCell ⟨w1.heap.size, 2, none⟩ c).setCell ⟨w1.heap.size, 3, none⟩ d) := by
 have hl : g1 < w1.heap.size := blk_lt h1
 have hne : g1 ≠ w1.heap.size := by omega
 have ha : Below w1.heap.size w1 (w1.alloc (Obj.cells #[.int .u8 0, .int .u32 0, .int .u32 0, .int .u32 0] 48)).drew := ((Below.refl _ _).alloc (Nat.le_refl _) _).drew
 have h12 : Below w1.heap.size w1 w2 := ha.trans (hb.mono (by simp))
 have hs : w2.heap[w1.heap.size]? = some (.cells #[.int .u8 0, .int .u32 0, .int .u32 0, .int .u32 0] 48 (0, 0)) := enc_s _ _ hb
 have hg : w2.heap[g1]? = some o1 := (h12.block _ hl).trans h1
 have hbw : Below w.heap.size w w2 := below_step HB h12
 refine ⟨?_, ?_, HB.size, hne, (((hbw.setCell HB.size _).setCell HB.size _).setCell HB.size _).setCell HB.size _⟩
 ·rw [Below.heap_setCell _ _ _ _ hne, Below.heap_setCell _ _ _ _ hne, Below.heap_setCell _ _ _ _ hne, Below.heap_setCell _ _ _ _ hne]
  exact hg
 ·exact blk_put (cs := #[a, b, c, .int .u32 0]) (blk_put (cs := #[a, b, .int .u32 0, .int .u32 0]) (blk_put (cs := #[a, .int .u32 0, .int .u32 0, .int .u32 0]) (blk_put (cs := #[.int .u8 0, .int .u32 0, .int .u32 0, .int .u32 0]) hs 0 _ rfl) 1 _ rfl) 2 _ rfl) 3 _ rfl
theorem cf_room_calls' (f : Int) (h : FormOk f) (a b : Int) (e : cf_room f = (a, b)) (w : World) : Calls Try.prog 15 #[.int .u8 f] w fun e w' => e = .returned (.tuple #[.int .i64 a, .int .i64 b]) ∧ w' = w :=
 (cf_room_calls f h w).mono fun e' w' ⟨h1, h2⟩ => ⟨by rw [h1, e], h2⟩
theorem cf_uses_calls' (f : Int) (h : FormOk f) (a b c : Bool) (e : cf_uses f = (a, b, c)) (w : World) : Calls Try.prog 16 #[.int .u8 f] w fun e w' => e = .returned (.agg #[.bool a, .bool b, .bool c]) ∧ Below w.heap.size w w' :=
 (cf_uses_calls f h w).mono fun e' w' ⟨h1, h2⟩ => ⟨by rw [h1, e], h2⟩
def en_ok (s u0 u1 u2 : Bool) (a b c : Int) : Nat → Bool
 | 0 => s
 | 1 => s && (u0 || a == 0)
 | 2 => s && (u0 || a == 0) && (u1 || b == 0)
 | _ => s && (u0 || a == 0) && (u1 || b == 0) && (u2 || c == 0)
def en_u (a b c : Bool) : Nat → Bool
 | 0 => a
 | 1 => b
 | _ => c
def en_r (a b c : Int) : Nat → Int
 | 0 => a
 | 1 => b
 | _ => c
theorem en_ok_step (s u0 u1 u2 : Bool) (a b c : Int) (k : Nat) (h : k < 3) : en_ok s u0 u1 u2 a b c (k + 1) = (en_ok s u0 u1 u2 a b c k && (en_u u0 u1 u2 k || en_r a b c k == 0)) := by
 have : k = 0 ∨ k = 1 ∨ k = 2 := by omega
 rcases this with rfl | rfl | rfl <;> rfl
def en_w (so s3 s7 a b c : Int) : Nat → Int
 | 0 => bits BinOp.or IntKind.u32 (bits BinOp.or IntKind.u32 so (s3 * 4096 % 4294967296)) (s7 * 33554432 % 4294967296)
 | k + 1 => bits BinOp.or IntKind.u32 (en_w so s3 s7 a b c k) (en_r a b c k * en_r 128 32768 1048576 k)
def en_odd (sf imm : Int) : Bool := (sf == 66 || sf == 74) && bits BinOp.and IntKind.i64 imm 1 == 1
def en_far (lo hi imm : Int) (odd : Bool) : Bool := decide (lo ≤ hi) && (decide (imm < lo) || decide (imm > hi) || odd)
def en_p (imm : Int) : List (Int × Int × Int) → Int → Int
 | [], x => x
 | (a, b, c) :: r, x => en_p imm r (bits BinOp.or IntKind.u32 x (bits BinOp.and IntKind.u32 (imm % 4294967296 / 2 ^ a.toNat) (2 ^ b.toNat - 1) * 2 ^ c.toNat % 4294967296))
def encF (ok : Bool) (sf so s3 s7 lo hi rd rs1 rs2 imm : Int) : Int × Int := if ok = false then (0, 2) else if lo > hi ∧ imm ≠ 0 then (0, 2) else if rd < 0 ∨ rd > 31 ∨ rs1 < 0 ∨ rs1 > 31 ∨ rs2 < 0 ∨ rs2 > 31 then (0, 1) else if en_far lo hi imm (en_odd sf imm) = true then (0, 1) else (en_p imm (cf_pieces sf) (en_w so s3 s7 rd rs1 rs2 3), 0)
theorem en_far_in {lo hi imm : Int} {odd : Bool} (h : lo ≤ hi) (h1 : lo ≤ imm) (h2 : imm ≤ hi) : en_far lo hi imm odd = odd := by
 unfold en_far
 rw [decide_eq_true h, decide_eq_false (by omega : ¬ imm < lo), decide_eq_false (by omega : ¬ imm > hi)]
 rfl
theorem en_far_no {lo hi imm : Int} {odd : Bool} (h : hi < lo) : en_far lo hi imm odd = false := by
 unfold en_far
 rw [decide_eq_false (by omega : ¬ lo ≤ hi)]
 rfl
theorem en_doneF (ok : Bool) (sf so s3 s7 lo hi rd rs1 rs2 imm : Int) (h : ok = true) (h2 : ¬ (lo > hi ∧ imm ≠ 0)) (hr : ∀ j, j < 3 → 0 ≤ en_r rd rs1 rs2 j ∧ en_r rd rs1 rs2 j ≤ 31) (h3 : en_far lo hi imm (en_odd sf imm) = false) (x : Int) (hx : x = en_p imm (cf_pieces sf) (en_w so s3 s7 rd rs1 rs2 3)) : encF ok sf so s3 s7 lo hi rd rs1 rs2 imm = (x, 0) := by
 have h0 := hr 0 (by omega)
 have h1 := hr 1 (by omega)
 have h4 := hr 2 (by omega)
 simp only [en_r] at h0 h1 h4
 unfold encF
 rw [if_neg (by simp [h]), if_neg h2, if_neg (by omega), if_neg (by simp [h3]), hx]
theorem blk_al {w : World} {g : Nat} {o : Obj} (h : w.heap[g]? = some o) (o' : Obj) : (w.alloc o').heap[g]? = some o := (((Below.refl w.heap.size w).alloc (Nat.le_refl _) o').block _ (blk_lt h)).trans h
theorem en_farF (ok : Bool) (sf so s3 s7 lo hi rd rs1 rs2 imm : Int) (h : ok = true) (h2 : ¬ (lo > hi ∧ imm ≠ 0)) (hr : en_far lo hi imm (en_odd sf imm) = true) : encF ok sf so s3 s7 lo hi rd rs1 rs2 imm = (0, 1) := by
 unfold encF
 rw [if_neg (by simp [h]), if_neg h2, hr]
 split <;> rfl
theorem en_out (ok : Bool) (sf so s3 s7 lo hi rd rs1 rs2 imm : Int) (h : ok = true) (h2 : ¬ (lo > hi ∧ imm ≠ 0)) (k : Nat) (hk : k < 3) (hr : en_r rd rs1 rs2 k < 0 ∨ en_r rd rs1 rs2 k > 31) : encF ok sf so s3 s7 lo hi rd rs1 rs2 imm = (0, 1) := by
 have hd : rd < 0 ∨ rd > 31 ∨ rs1 < 0 ∨ rs1 > 31 ∨ rs2 < 0 ∨ rs2 > 31 := by
  have : k = 0 ∨ k = 1 ∨ k = 2 := by omega
  rcases this with rfl | rfl | rfl <;> simp only [en_r] at hr <;> omega
 unfold encF
 rw [if_neg (by simp [h]), if_neg h2, if_pos hd]
theorem en_neq (lo hi imm : Int) (h : lo > hi) : (imm != 0) = decide (lo > hi ∧ imm ≠ 0) := by
 by_cases e : imm = 0
 ·rw [decide_eq_false (fun x => x.2 e)]; simp [e]
 ·rw [decide_eq_true ⟨h, e⟩]; simp [e]
theorem en_in_step {a b c : Int} {k : Nat} (h : ∀ j, j < k → 0 ≤ en_r a b c j ∧ en_r a b c j ≤ 31) (h2 : 0 ≤ en_r a b c k ∧ en_r a b c k ≤ 31) (j : Nat) (hj : j < k + 1) : 0 ≤ en_r a b c j ∧ en_r a b c j ≤ 31 := by
 by_cases e : j = k
 ·rw [e]; exact h2
 ·exact h j (by omega)
theorem enc_i54_0 (a b c : Value) (w : World) : (Instr.index 54 (.agg #[a, b, c]) (.int .i64 0)).run Try.prog w = .ok a w := by kernel_rfl
theorem enc_i54_1 (a b c : Value) (w : World) : (Instr.index 54 (.agg #[a, b, c]) (.int .i64 1)).run Try.prog w = .ok b w := by kernel_rfl
theorem enc_i54_2 (a b c : Value) (w : World) : (Instr.index 54 (.agg #[a, b, c]) (.int .i64 2)).run Try.prog w = .ok c w := by kernel_rfl
theorem enc_i53_0 (a b c : Value) (w : World) : (Instr.index 53 (.agg #[a, b, c]) (.int .i64 0)).run Try.prog w = .ok a w := by kernel_rfl
theorem enc_i53_1 (a b c : Value) (w : World) : (Instr.index 53 (.agg #[a, b, c]) (.int .i64 1)).run Try.prog w = .ok b w := by kernel_rfl
theorem enc_i53_2 (a b c : Value) (w : World) : (Instr.index 53 (.agg #[a, b, c]) (.int .i64 2)).run Try.prog w = .ok c w := by kernel_rfl
theorem enc_i56_0 (a b c : Value) (w : World) : (Instr.index 56 (.agg #[a, b, c]) (.int .i64 0)).run Try.prog w = .ok a w := by kernel_rfl
theorem enc_i56_1 (a b c : Value) (w : World) : (Instr.index 56 (.agg #[a, b, c]) (.int .i64 1)).run Try.prog w = .ok b w := by kernel_rfl
theorem enc_i56_2 (a b c : Value) (w : World) : (Instr.index 56 (.agg #[a, b, c]) (.int .i64 2)).run Try.prog w = .ok c w := by kernel_rfl
theorem enc_a53_0 (g : Nat) (w : World) : (Instr.indexAt 53 (.pointer (some ⟨g, 0, none⟩)) (.int .i64 0)).run Try.prog w = .ok (.pointer (some ⟨g, 0, none⟩)) w := by kernel_rfl
theorem enc_a53_1 (g : Nat) (w : World) : (Instr.indexAt 53 (.pointer (some ⟨g, 0, none⟩)) (.int .i64 1)).run Try.prog w = .ok (.pointer (some ⟨g, 1, none⟩)) w := by kernel_rfl
theorem enc_a53_2 (g : Nat) (w : World) : (Instr.indexAt 53 (.pointer (some ⟨g, 0, none⟩)) (.int .i64 2)).run Try.prog w = .ok (.pointer (some ⟨g, 2, none⟩)) w := by kernel_rfl
theorem enc_i54 (a b c : Bool) (k : Nat) (h : k < 3) (w : World) : (Instr.index 54 (.agg #[.bool a, .bool b, .bool c]) (.int .i64 (k : Int))).run Try.prog w = .ok (.bool (en_u a b c k)) w := by
 have : k = 0 ∨ k = 1 ∨ k = 2 := by omega
 rcases this with rfl | rfl | rfl
 ·exact enc_i54_0 _ _ _ w
 ·exact enc_i54_1 _ _ _ w
 ·exact enc_i54_2 _ _ _ w
theorem enc_i53 (a b c : Int) (k : Nat) (h : k < 3) (w : World) : (Instr.index 53 (.agg #[.int .i64 a, .int .i64 b, .int .i64 c]) (.int .i64 (k : Int))).run Try.prog w = .ok (.int .i64 (en_r a b c k)) w := by
 have : k = 0 ∨ k = 1 ∨ k = 2 := by omega
 rcases this with rfl | rfl | rfl
 ·exact enc_i53_0 _ _ _ w
 ·exact enc_i53_1 _ _ _ w
 ·exact enc_i53_2 _ _ _ w
theorem enc_i56  (k : Nat) (h : k < 3) (w : World) : (Instr.index 56 (.agg #[.int .u64 7, .int .u64 15, .int .u64 20]) (.int .i64 (k : Int))).run Try.prog w = .ok (.int .u64 (en_r 7 15 20 k)) w := by
 have : k = 0 ∨ k = 1 ∨ k = 2 := by omega
 rcases this with rfl | rfl | rfl
 ·exact enc_i56_0 _ _ _ w
 ·exact enc_i56_1 _ _ _ w
 ·exact enc_i56_2 _ _ _ w
theorem enc_a53 (g : Nat) (k : Nat) (h : k < 3) (w : World) : (Instr.indexAt 53 (.pointer (some ⟨g, 0, none⟩)) (.int .i64 (k : Int))).run Try.prog w = .ok (.pointer (some ⟨g, k, none⟩)) w := by
 have : k = 0 ∨ k = 1 ∨ k = 2 := by omega
 rcases this with rfl | rfl | rfl
 ·exact enc_a53_0 g w
 ·exact enc_a53_1 g w
 ·exact enc_a53_2 g w
theorem enc_c53 {w : World} {g : Nat} {a b c : Int} (h : w.heap[g]? = some (.cells #[.int .i64 a, .int .i64 b, .int .i64 c] 53 (0, 0))) (k : Nat) (hk : k < 3) : w.cell? ⟨g, k, none⟩ = some (.int .i64 (en_r a b c k)) := by
 have : k = 0 ∨ k = 1 ∨ k = 2 := by omega
 rcases this with rfl | rfl | rfl <;> exact (blk_cell h _).trans rfl
theorem cf_pcall_0 (w : World) : Calls Try.prog 17 #[.int .u8 0] w fun e w' => e = .returned (.slice none 0 0) ∧ Below w.heap.size w w' := by
 go_enter Try.func17, Try.ntmps17
 go_wp2
 go_ret
 exact ⟨rfl, Below.refl _ _⟩
theorem cf_pcall_66 (w : World) : Calls Try.prog 17 #[.int .u8 66] w fun e w' => ∃ g, g = w.heap.size ∧ e = .returned (.slice (some ⟨g, 0, none⟩) 4 4) ∧ w'.heap[g]? = some (.cells #[.int .u64 11, .int .u64 1, .int .u64 7, .int .u64 1, .int .u64 4, .int .u64 8, .int .u64 5, .int .u64 6, .int .u64 25, .int .u64 12, .int .u64 1, .int .u64 31] 60 (0, 0)) ∧ Below w.heap.size w w' := by
 refine (cf_pieces_calls 66 (by simp [FormOk]) w).mono ?_
 rintro e w' ⟨v, rfl, ⟨h, _⟩ | ⟨rfl, rfl⟩⟩
 ·cases h
 ·exact ⟨_, rfl, rfl, heap_alloc_new w _, (Below.refl _ _).alloc (Nat.le_refl _) _⟩
theorem cf_pcall_73 (w : World) : Calls Try.prog 17 #[.int .u8 73] w fun e w' => ∃ g, g = w.heap.size ∧ e = .returned (.slice (some ⟨g, 0, none⟩) 1 1) ∧ w'.heap[g]? = some (.cells #[.int .u64 0, .int .u64 12, .int .u64 20] 60 (0, 0)) ∧ Below w.heap.size w w' := by
 refine (cf_pieces_calls 73 (by simp [FormOk]) w).mono ?_
 rintro e w' ⟨v, rfl, ⟨h, _⟩ | ⟨rfl, rfl⟩⟩
 ·cases h
 ·exact ⟨_, rfl, rfl, heap_alloc_new w _, (Below.refl _ _).alloc (Nat.le_refl _) _⟩
theorem cf_pcall_74 (w : World) : Calls Try.prog 17 #[.int .u8 74] w fun e w' => ∃ g, g = w.heap.size ∧ e = .returned (.slice (some ⟨g, 0, none⟩) 4 4) ∧ w'.heap[g]? = some (.cells #[.int .u64 12, .int .u64 8, .int .u64 12, .int .u64 11, .int .u64 1, .int .u64 20, .int .u64 1, .int .u64 10, .int .u64 21, .int .u64 20, .int .u64 1, .int .u64 31] 60 (0, 0)) ∧ Below w.heap.size w w' := by
 refine (cf_pieces_calls 74 (by simp [FormOk]) w).mono ?_
 rintro e w' ⟨v, rfl, ⟨h, _⟩ | ⟨rfl, rfl⟩⟩
 ·cases h
 ·exact ⟨_, rfl, rfl, heap_alloc_new w _, (Below.refl _ _).alloc (Nat.le_refl _) _⟩
theorem cf_pcall_78 (w : World) : Calls Try.prog 17 #[.int .u8 78] w fun e w' => e = .returned (.slice none 0 0) ∧ Below w.heap.size w w' := by
 go_enter Try.func17, Try.ntmps17
 go_wp2
 go_ret
 exact ⟨rfl, Below.refl _ _⟩
theorem cf_pcall_82 (w : World) : Calls Try.prog 17 #[.int .u8 82] w fun e w' => e = .returned (.slice none 0 0) ∧ Below w.heap.size w w' := by
 go_enter Try.func17, Try.ntmps17
 go_wp2
 go_ret
 exact ⟨rfl, Below.refl _ _⟩
theorem cf_pcall_83 (w : World) : Calls Try.prog 17 #[.int .u8 83] w fun e w' => ∃ g, g = w.heap.size ∧ e = .returned (.slice (some ⟨g, 0, none⟩) 2 2) ∧ w'.heap[g]? = some (.cells #[.int .u64 0, .int .u64 5, .int .u64 7, .int .u64 5, .int .u64 7, .int .u64 25] 60 (0, 0)) ∧ Below w.heap.size w w' := by
 refine (cf_pieces_calls 83 (by simp [FormOk]) w).mono ?_
 rintro e w' ⟨v, rfl, ⟨h, _⟩ | ⟨rfl, rfl⟩⟩
 ·cases h
 ·exact ⟨_, rfl, rfl, heap_alloc_new w _, (Below.refl _ _).alloc (Nat.le_refl _) _⟩
theorem cf_pcall_84 (w : World) : Calls Try.prog 17 #[.int .u8 84] w fun e w' => ∃ g, g = w.heap.size ∧ e = .returned (.slice (some ⟨g, 0, none⟩) 1 1) ∧ w'.heap[g]? = some (.cells #[.int .u64 0, .int .u64 6, .int .u64 20] 60 (0, 0)) ∧ Below w.heap.size w w' := by
 refine (cf_pieces_calls 84 (by simp [FormOk]) w).mono ?_
 rintro e w' ⟨v, rfl, ⟨h, _⟩ | ⟨rfl, rfl⟩⟩
 ·cases h
 ·exact ⟨_, rfl, rfl, heap_alloc_new w _, (Below.refl _ _).alloc (Nat.le_refl _) _⟩
theorem cf_pcall_85 (w : World) : Calls Try.prog 17 #[.int .u8 85] w fun e w' => ∃ g, g = w.heap.size ∧ e = .returned (.slice (some ⟨g, 0, none⟩) 1 1) ∧ w'.heap[g]? = some (.cells #[.int .u64 0, .int .u64 20, .int .u64 12] 60 (0, 0)) ∧ Below w.heap.size w w' := by
 refine (cf_pieces_calls 85 (by simp [FormOk]) w).mono ?_
 rintro e w' ⟨v, rfl, ⟨h, _⟩ | ⟨rfl, rfl⟩⟩
 ·cases h
 ·exact ⟨_, rfl, rfl, heap_alloc_new w _, (Below.refl _ _).alloc (Nat.le_refl _) _⟩
def EncPost (r : Int × Int) (w : World) (e : Ending) (w' : World) : Prop := e = .returned (.tuple #[.int .u32 r.1, .int .i64 r.2]) ∧ Below w.heap.size w w'
set_option maxHeartbeats 8000000 in
set_option maxRecDepth 100000 in
theorem enc_calls (op rd rs1 rs2 imm : Int) (w : World) (sf so s3 s7 : Int) (sb : Bool) (hx : ((cm_at op cm_e13 0).map (·.2)).getD (cm_val ⟨op, 0, 0, 0, 0⟩) = .agg #[.int .u8 sf, .int .u32 so, .int .u32 s3, .int .u32 s7]) (hsb : (cm_at op cm_e13 0).isSome = sb) (hF : FormOk sf) (lo hi : Int) (hRM : cf_room sf = (lo, hi)) (u0 u1 u2 : Bool) (hU : cf_uses sf = (u0, u1, u2)) : Calls Try.prog 9 #[.agg #[.int .i64 op, .int .i64 rd, .int .i64 rs1, .int .i64 rs2, .int .i64 imm]] w (EncPost (encF (en_ok sb u0 u1 u2 rd rs1 rs2 3) sf so s3 s7 lo hi rd rs1 rs2 imm) w) := by
 have HB := Aside0.mk (Below.refl w.heap.size w)
 have HX := Aside0.mk hx
 have HSB := Aside0.mk hsb
 have HF := Aside0.mk hF
 have HRM := Aside0.mk hRM
 have HU := Aside0.mk hU
 clear hx hsb hF hRM hU
 have hu53 := Try.underlying53
 have hu54 := Try.underlying54
 have hu29 := Try.underlying29
 have hu48 := Try.underlying48
 go_enter Try.func9, Try.ntmps9
 go_upto_region 1 with (first | ((with_reducible refine gate_dst (N := 1) rfl ?_); (try (refine gate_guard (by rfl) ?_; dsimp only)); refine box_event ?hg (N := 1) ?hd (cs := #[.int .i64 op, .int .i64 rd, .int .i64 rs1, .int .i64 rs2, .int .i64 imm]) (t := 29) ?hr ?_; (case hd => rfl); (case hg => rfl); (case hr => first | (go_simp; done) | (go_simp; rfl)); intro g1 hg w1 hbox hb; have n0_ := Aside0.mk (below_step (by repeat (first | (with_reducible first | exact HB.out | apply below_alloc | apply pw_below_drewN | apply below_drew1) | exact HB.out)) hb); have n1_ := Aside0.mk hbox; have n2_ := Aside0.mk ((by rw [hg]; exact (below_size (by repeat (first | (with_reducible first | exact HB.out | apply below_alloc | apply pw_below_drewN | apply below_drew1) | exact HB.out)))) : w.heap.size ≤ g1); clear HB; have HB := n0_; have BK1 := n1_; have GE1 := n2_; clear n0_ n1_ n2_; clear hb hbox hg; have hc1_0 : w1.cell? ⟨g1, 0, none⟩ = some (.int .i64 op) := (blk_cell BK1.out 0).trans rfl; have hc1_1 : w1.cell? ⟨g1, 1, none⟩ = some (.int .i64 rd) := (blk_cell BK1.out 1).trans rfl; have hc1_2 : w1.cell? ⟨g1, 2, none⟩ = some (.int .i64 rs1) := (blk_cell BK1.out 2).trans rfl; have hc1_3 : w1.cell? ⟨g1, 3, none⟩ = some (.int .i64 rs2) := (blk_cell BK1.out 3).trans rfl; have hc1_4 : w1.cell? ⟨g1, 4, none⟩ = some (.int .i64 imm) := (blk_cell BK1.out 4).trans rfl; have hf1_0 := blk_frozen BK1.out 0; have hf1_1 := blk_frozen BK1.out 1; have hf1_2 := blk_frozen BK1.out 2; have hf1_3 := blk_frozen BK1.out 3; have hf1_4 := blk_frozen BK1.out 4))
 go_cut [4, 5] (fun v4 v5 wc => ∃ g4 : Nat, v4 = .pointer (some ⟨g4, 0, none⟩) ∧ v5 = .bool sb ∧ Aside0 (wc.heap[g1]? = some (.cells #[.int .i64 op, .int .i64 rd, .int .i64 rs1, .int .i64 rs2, .int .i64 imm] 29 (0, 0))) ∧ Aside0 (wc.heap[g4]? = some (.cells #[.int .u8 sf, .int .u32 so, .int .u32 s3, .int .u32 s7] 48 (0, 0))) ∧ Aside0 (w.heap.size ≤ g4) ∧ Aside0 (g1 ≠ g4) ∧ Aside0 (Below w.heap.size w wc))
 case first =>
  have hnew := World.new_ne w1 ⟨g1, 0, none⟩ hc1_0
  go_region_held3 (fun w' => w'.cell? ⟨g1, 0, none⟩ = some (.int .i64 op)) (go_keep)
   (first | (go_at_call 14; refine (code_shapes' _).mono ?_; rintro e w2 ⟨gm, hgm, rfl, hm, hb⟩; have hlk1 := enc_look w2 gm hm op _ _ HX.out HSB.out; have hlk2 := enc_look w2.drew gm hm op _ _ HX.out HSB.out; have hlk3 := enc_look (w2.alloc (Obj.cells #[.int .u8 0, .int .u32 0, .int .u32 0, .int .u32 0] 48)) gm (((Below.refl _ _).alloc (Nat.le_refl _) _ : Below w2.heap.size w2 (w2.alloc (Obj.cells #[.int .u8 0, .int .u32 0, .int .u32 0, .int .u32 0] 48))).block _ (blk_lt hm) |>.trans hm) op _ _ HX.out HSB.out; have hlk4 := enc_look (w2.drew.alloc (Obj.cells #[.int .u8 0, .int .u32 0, .int .u32 0, .int .u32 0] 48)) gm (((Below.refl _ _).alloc (Nat.le_refl _) _ : Below w2.drew.heap.size w2.drew (w2.drew.alloc (Obj.cells #[.int .u8 0, .int .u32 0, .int .u32 0, .int .u32 0] 48))).block _ (blk_lt hm) |>.trans hm) op _ _ HX.out HSB.out; have hlk5 := enc_look (w2.drew.alloc (Obj.cells #[.int .u8 0, .int .u32 0, .int .u32 0, .int .u32 0] 48)).drew gm (((Below.refl _ _).alloc (Nat.le_refl _) _ : Below w2.drew.heap.size w2.drew (w2.drew.alloc (Obj.cells #[.int .u8 0, .int .u32 0, .int .u32 0, .int .u32 0] 48))).block _ (blk_lt hm) |>.trans hm) op _ _ HX.out HSB.out; clear hm hgm; (try (have hs := enc_s _ _ hb; have hs0 := (blk_cell hs 0).trans rfl; have hs1 := (blk_cell hs 1).trans rfl; have hs2 := (blk_cell hs 2).trans rfl; have hs3 := (blk_cell hs 3).trans rfl; have hsf0 := blk_frozen hs 0; have hsf1 := blk_frozen hs 1; have hsf2 := blk_frozen hs 2; have hsf3 := blk_frozen hs 3; clear hs)); have hmem := hb.cell (p := ⟨g1, 0, none⟩) (World.block_lt_of_cell? _ _ (by assumption))))
  all_goals
   go_wp2
   go_meet
   case rel =>
    first
    | (obtain ⟨q1, q2, q3, q4, q5⟩ := enc_way1 HB.out BK1.out hb (.cells #[.int .u8 sf, .int .u32 so, .int .u32 s3, .int .u32 s7] 48); with_reducible exact ⟨_, rfl, rfl, ⟨q1⟩, ⟨q2⟩, ⟨q3⟩, ⟨q4⟩, ⟨q5⟩⟩)
    | (obtain ⟨q1, q2, q3, q4, q5⟩ := enc_way2 HB.out BK1.out hb (.int .u8 sf) (.int .u32 so) (.int .u32 s3) (.int .u32 s7); with_reducible exact ⟨_, rfl, rfl, ⟨q1⟩, ⟨q2⟩, ⟨q3⟩, ⟨q4⟩, ⟨q5⟩⟩)
 case rest =>
  obtain ⟨g4, rfl, rfl, BK1, BK4, GE4, NB1_4, HB⟩ := hcut
  have NB4_1 := Aside0.mk (Ne.symm NB1_4.out)
  have hc1_0 : wc.cell? ⟨g1, 0, none⟩ = some (.int .i64 op) := (blk_cell BK1.out 0).trans rfl
  have hc1_1 : wc.cell? ⟨g1, 1, none⟩ = some (.int .i64 rd) := (blk_cell BK1.out 1).trans rfl
  have hc1_2 : wc.cell? ⟨g1, 2, none⟩ = some (.int .i64 rs1) := (blk_cell BK1.out 2).trans rfl
  have hc1_3 : wc.cell? ⟨g1, 3, none⟩ = some (.int .i64 rs2) := (blk_cell BK1.out 3).trans rfl
  have hc1_4 : wc.cell? ⟨g1, 4, none⟩ = some (.int .i64 imm) := (blk_cell BK1.out 4).trans rfl
  have hf1_0 := blk_frozen BK1.out 0
  have hf1_1 := blk_frozen BK1.out 1
  have hf1_2 := blk_frozen BK1.out 2
  have hf1_3 := blk_frozen BK1.out 3
  have hf1_4 := blk_frozen BK1.out 4
  have hc4_0 : wc.cell? ⟨g4, 0, none⟩ = some (.int .u8 sf) := (blk_cell BK4.out 0).trans rfl
  have hc4_1 : wc.cell? ⟨g4, 1, none⟩ = some (.int .u32 so) := (blk_cell BK4.out 1).trans rfl
  have hc4_2 : wc.cell? ⟨g4, 2, none⟩ = some (.int .u32 s3) := (blk_cell BK4.out 2).trans rfl
  have hc4_3 : wc.cell? ⟨g4, 3, none⟩ = some (.int .u32 s7) := (blk_cell BK4.out 3).trans rfl
  have hf4_0 := blk_frozen BK4.out 0
  have hf4_1 := blk_frozen BK4.out 1
  have hf4_2 := blk_frozen BK4.out 2
  have hf4_3 := blk_frozen BK4.out 3
  go_wp2_with (first | (go_at_call 15; refine (cf_room_calls' sf HF.out lo hi HRM.out _).mono ?_; rintro e w' ⟨rfl, rfl⟩) | ((with_reducible refine gate_dst (N := 8) rfl ?_); (try (refine gate_guard (by rfl) ?_; dsimp only)); refine box_event ?hg (N := 8) ?hd (cs := #[.int .i64 0, .int .i64 0, .int .i64 0]) (t := 53) ?hr ?_; (case hd => rfl); (case hg => rfl); (case hr => first | (go_simp; done) | (go_simp; rfl)); intro g8 hg w3 hbox hb; have n0_ := Aside0.mk (blk_below (by (with_reducible repeat (first | refine blk_drewN ?_ _ | refine blk_drew ?_ | refine blk_alloc ?_ _)); exact BK1.out) hb); have n1_ := Aside0.mk (blk_below (by (with_reducible repeat (first | refine blk_drewN ?_ _ | refine blk_drew ?_ | refine blk_alloc ?_ _)); exact BK4.out) hb); have n2_ := Aside0.mk (below_step (by repeat (first | (with_reducible first | exact HB.out | apply below_alloc | apply pw_below_drewN | apply below_drew1 | refine below_set ?_ GE1.out | refine below_set ?_ GE4.out) | exact HB.out)) hb); have n3_ := Aside0.mk hbox; have n4_ := Aside0.mk ((by rw [hg]; exact (below_size (by repeat (first | (with_reducible first | exact HB.out | apply below_alloc | apply pw_below_drewN | apply below_drew1 | refine below_set ?_ GE1.out | refine below_set ?_ GE4.out) | exact HB.out)))) : w.heap.size ≤ g8); have n5_ := Aside0.mk ((by rw [hg]; exact Nat.ne_of_lt (blk_lt (by (with_reducible repeat (first | refine blk_drewN ?_ _ | refine blk_drew ?_ | refine blk_alloc ?_ _)); exact BK1.out))) : g1 ≠ g8); have n6_ := Aside0.mk ((by rw [hg]; exact Nat.ne_of_lt (blk_lt (by (with_reducible repeat (first | refine blk_drewN ?_ _ | refine blk_drew ?_ | refine blk_alloc ?_ _)); exact BK4.out))) : g4 ≠ g8); clear BK1; clear BK4; clear HB; have BK1 := n0_; have BK4 := n1_; have HB := n2_; have BK8 := n3_; have GE8 := n4_; have NB1_8 := n5_; have NB4_8 := n6_; clear n0_ n1_ n2_ n3_ n4_ n5_ n6_; clear hb hbox hg; have NB8_1 := Aside0.mk (Ne.symm NB1_8.out); have NB8_4 := Aside0.mk (Ne.symm NB4_8.out); have hc8_0 : w3.cell? ⟨g8, 0, none⟩ = some (.int .i64 0) := (blk_cell BK8.out 0).trans rfl; have hc8_1 : w3.cell? ⟨g8, 1, none⟩ = some (.int .i64 0) := (blk_cell BK8.out 1).trans rfl; have hc8_2 : w3.cell? ⟨g8, 2, none⟩ = some (.int .i64 0) := (blk_cell BK8.out 2).trans rfl; have hf8_0 := blk_frozen BK8.out 0; have hf8_1 := blk_frozen BK8.out 1; have hf8_2 := blk_frozen BK8.out 2; have hc1_0 : w3.cell? ⟨g1, 0, none⟩ = some (.int .i64 op) := (blk_cell BK1.out 0).trans rfl; have hc1_1 : w3.cell? ⟨g1, 1, none⟩ = some (.int .i64 rd) := (blk_cell BK1.out 1).trans rfl; have hc1_2 : w3.cell? ⟨g1, 2, none⟩ = some (.int .i64 rs1) := (blk_cell BK1.out 2).trans rfl; have hc1_3 : w3.cell? ⟨g1, 3, none⟩ = some (.int .i64 rs2) := (blk_cell BK1.out 3).trans rfl; have hc1_4 : w3.cell? ⟨g1, 4, none⟩ = some (.int .i64 imm) := (blk_cell BK1.out 4).trans rfl; have hf1_0 := blk_frozen BK1.out 0; have hf1_1 := blk_frozen BK1.out 1; have hf1_2 := blk_frozen BK1.out 2; have hf1_3 := blk_frozen BK1.out 3; have hf1_4 := blk_frozen BK1.out 4; have hc4_0 : w3.cell? ⟨g4, 0, none⟩ = some (.int .u8 sf) := (blk_cell BK4.out 0).trans rfl; have hc4_1 : w3.cell? ⟨g4, 1, none⟩ = some (.int .u32 so) := (blk_cell BK4.out 1).trans rfl; have hc4_2 : w3.cell? ⟨g4, 2, none⟩ = some (.int .u32 s3) := (blk_cell BK4.out 2).trans rfl; have hc4_3 : w3.cell? ⟨g4, 3, none⟩ = some (.int .u32 s7) := (blk_cell BK4.out 3).trans rfl; have hf4_0 := blk_frozen BK4.out 0; have hf4_1 := blk_frozen BK4.out 1; have hf4_2 := blk_frozen BK4.out 2; have hf4_3 := blk_frozen BK4.out 3; have hnb8_1 := NB8_1.out; have hnb8_4 := NB8_4.out; have hnb1_8 := NB1_8.out; have hnb4_8 := NB4_8.out) | (go_at_call 16; refine (cf_uses_calls' sf HF.out u0 u1 u2 HU.out _).mono ?_; rintro e w4 ⟨rfl, hb⟩; have n0_ := Aside0.mk (blk_below (g := g1) (o := .cells #[.int .i64 op, .int .i64 rd, .int .i64 rs1, .int .i64 rs2, .int .i64 imm] 29 (0, 0)) (by (with_reducible repeat (first | refine blk_drewN ?_ _ | refine blk_drew ?_ | refine blk_alloc ?_ _)); refine blk_far ?_ NB1_8.out _; (with_reducible repeat (first | refine blk_drewN ?_ _ | refine blk_drew ?_ | refine blk_alloc ?_ _)); refine blk_far ?_ NB1_8.out _; (with_reducible repeat (first | refine blk_drewN ?_ _ | refine blk_drew ?_ | refine blk_alloc ?_ _)); refine blk_far ?_ NB1_8.out _; (with_reducible repeat (first | refine blk_drewN ?_ _ | refine blk_drew ?_ | refine blk_alloc ?_ _)); exact BK1.out) hb); have n1_ := Aside0.mk (blk_below (g := g4) (o := .cells #[.int .u8 sf, .int .u32 so, .int .u32 s3, .int .u32 s7] 48 (0, 0)) (by (with_reducible repeat (first | refine blk_drewN ?_ _ | refine blk_drew ?_ | refine blk_alloc ?_ _)); refine blk_far ?_ NB4_8.out _; (with_reducible repeat (first | refine blk_drewN ?_ _ | refine blk_drew ?_ | refine blk_alloc ?_ _)); refine blk_far ?_ NB4_8.out _; (with_reducible repeat (first | refine blk_drewN ?_ _ | refine blk_drew ?_ | refine blk_alloc ?_ _)); refine blk_far ?_ NB4_8.out _; (with_reducible repeat (first | refine blk_drewN ?_ _ | refine blk_drew ?_ | refine blk_alloc ?_ _)); exact BK4.out) hb); have n2_ := Aside0.mk (blk_below (g := g8) (o := .cells #[.int .i64 rd, .int .i64 rs1, .int .i64 rs2] 53 (0, 0)) (by (with_reducible repeat (first | refine blk_drewN ?_ _ | refine blk_drew ?_ | refine blk_alloc ?_ _)); refine blk_put (cs := #[.int .i64 rd, .int .i64 rs1, .int .i64 0]) ?_ 2 _ rfl; (with_reducible repeat (first | refine blk_drewN ?_ _ | refine blk_drew ?_ | refine blk_alloc ?_ _)); refine blk_put (cs := #[.int .i64 rd, .int .i64 0, .int .i64 0]) ?_ 1 _ rfl; (with_reducible repeat (first | refine blk_drewN ?_ _ | refine blk_drew ?_ | refine blk_alloc ?_ _)); refine blk_put (cs := #[.int .i64 0, .int .i64 0, .int .i64 0]) ?_ 0 _ rfl; (with_reducible repeat (first | refine blk_drewN ?_ _ | refine blk_drew ?_ | refine blk_alloc ?_ _)); exact BK8.out) hb); have n3_ := Aside0.mk (below_step (by repeat (first | (with_reducible first | exact HB.out | apply below_alloc | apply pw_below_drewN | apply below_drew1 | refine below_set ?_ GE8.out) | exact HB.out)) hb); clear BK1; clear BK4; clear BK8; clear HB; have BK1 := n0_; have BK4 := n1_; have BK8 := n2_; have HB := n3_; clear n0_ n1_ n2_ n3_; clear hb; have hc1_0 : w4.cell? ⟨g1, 0, none⟩ = some (.int .i64 op) := (blk_cell BK1.out 0).trans rfl; have hc1_1 : w4.cell? ⟨g1, 1, none⟩ = some (.int .i64 rd) := (blk_cell BK1.out 1).trans rfl; have hc1_2 : w4.cell? ⟨g1, 2, none⟩ = some (.int .i64 rs1) := (blk_cell BK1.out 2).trans rfl; have hc1_3 : w4.cell? ⟨g1, 3, none⟩ = some (.int .i64 rs2) := (blk_cell BK1.out 3).trans rfl; have hc1_4 : w4.cell? ⟨g1, 4, none⟩ = some (.int .i64 imm) := (blk_cell BK1.out 4).trans rfl; have hf1_0 := blk_frozen BK1.out 0; have hf1_1 := blk_frozen BK1.out 1; have hf1_2 := blk_frozen BK1.out 2; have hf1_3 := blk_frozen BK1.out 3; have hf1_4 := blk_frozen BK1.out 4; have hc4_0 : w4.cell? ⟨g4, 0, none⟩ = some (.int .u8 sf) := (blk_cell BK4.out 0).trans rfl; have hc4_1 : w4.cell? ⟨g4, 1, none⟩ = some (.int .u32 so) := (blk_cell BK4.out 1).trans rfl; have hc4_2 : w4.cell? ⟨g4, 2, none⟩ = some (.int .u32 s3) := (blk_cell BK4.out 2).trans rfl; have hc4_3 : w4.cell? ⟨g4, 3, none⟩ = some (.int .u32 s7) := (blk_cell BK4.out 3).trans rfl; have hf4_0 := blk_frozen BK4.out 0; have hf4_1 := blk_frozen BK4.out 1; have hf4_2 := blk_frozen BK4.out 2; have hf4_3 := blk_frozen BK4.out 3; have hc8_0 : w4.cell? ⟨g8, 0, none⟩ = some (.int .i64 rd) := (blk_cell BK8.out 0).trans rfl; have hc8_1 : w4.cell? ⟨g8, 1, none⟩ = some (.int .i64 rs1) := (blk_cell BK8.out 1).trans rfl; have hc8_2 : w4.cell? ⟨g8, 2, none⟩ = some (.int .i64 rs2) := (blk_cell BK8.out 2).trans rfl; have hf8_0 := blk_frozen BK8.out 0; have hf8_1 := blk_frozen BK8.out 1; have hf8_2 := blk_frozen BK8.out 2))
  go_loopg [5, 40] 3 (fun gg v5 v40 w' => ∃ k : Nat, k ≤ 3 ∧ 3 - k ≤ gg ∧ v40 = .int .i64 k ∧ v5 = .bool (en_ok sb u0 u1 u2 rd rs1 rs2 k) ∧ Aside0 (w' = w4))
  case atStart => exact ⟨0, by omega, by omega, rfl, rfl, ⟨rfl⟩⟩
  case round =>
   obtain ⟨k, hk, hg, rfl, rfl, HW⟩ := hrel
   obtain rfl := HW.out
   clear HW
   by_cases hlt : k < 3
   ·have hltz : (k : Int) < 3 := by omega
    obtain ⟨b, hb⟩ : ∃ b, en_ok sb u0 u1 u2 rd rs1 rs2 k = b := ⟨_, rfl⟩
    have HE := Aside0.mk hb
    obtain ⟨u, hu⟩ : ∃ u, en_u u0 u1 u2 k = u := ⟨_, rfl⟩
    have HEU := Aside0.mk hu
    obtain ⟨r, hr⟩ : ∃ r, en_r rd rs1 rs2 k = r := ⟨_, rfl⟩
    have HER := Aside0.mk hr
    have e0 := enc_i54 u0 u1 u2 k hlt
    have e1 := enc_a53 g8 k hlt
    have e2 := enc_c53 BK8.out k hlt
    have e3 := blk_frozen BK8.out k
    rw [hu] at e0
    rw [hr] at e2
    rw [hb]
    clear hb hu hr
    --D
    cases b
    ·go_wp2
     go_roundg (3 - (k + 1))
     case measure => omega
     case rel => exact ⟨k + 1, by omega, by omega, rfl, by rw [en_ok_step _ _ _ _ _ _ _ _ hlt, HE.out]; rfl, ⟨rfl⟩⟩
    ·cases u
     ·go_wp2
      go_roundg (3 - (k + 1))
      case measure => omega
      case rel => exact ⟨k + 1, by omega, by omega, rfl, by rw [en_ok_step _ _ _ _ _ _ _ _ hlt, HE.out, HEU.out, HER.out]; simp, ⟨rfl⟩⟩
     ·go_wp2
      go_roundg (3 - (k + 1))
      case measure => omega
      case rel => exact ⟨k + 1, by omega, by omega, rfl, by rw [en_ok_step _ _ _ _ _ _ _ _ hlt, HE.out, HEU.out]; simp, ⟨rfl⟩⟩
    --E
   ·have : k = 3 := by omega
    subst this
    obtain ⟨b, hb⟩ : ∃ b, en_ok sb u0 u1 u2 rd rs1 rs2 3 = b := ⟨_, rfl⟩
    have HE := Aside0.mk hb
    rw [hb]
    clear hb
    cases b
    ·go_wp2
     go_ret2
     exact ⟨by simp only [encF, HE.out]; rfl, HB.out⟩
    ·go_upto_region 9 with (fail)
     go_cut [66] (fun v66 wc => ∃ c : Bool, v66 = .bool c ∧ Aside0 (wc = wr) ∧ Aside0 (c = decide (lo > hi ∧ imm ≠ 0)))
     case first =>
      --D
      by_cases hlh : lo > hi
      ·have HD := Aside0.mk (en_neq lo hi imm hlh)
       go_wp2
       go_meet
       case rel => exact ⟨_, rfl, ⟨rfl⟩, ⟨HD.out⟩⟩
      ·have HD := Aside0.mk (decide_eq_false (fun h => hlh h.1) : decide (lo > hi ∧ imm ≠ 0) = false)
       go_wp2
       go_meet
       case rel => exact ⟨_, rfl, ⟨rfl⟩, ⟨HD.out.symm⟩⟩
      --E
     case rest =>
      obtain ⟨c, rfl, HW, HLH⟩ := hcut
      obtain rfl := HW.out
      clear HW
      cases c
      ·go_wp2
       go_loopg [11, 81] 3 (fun gg v11 v81 w' => ∃ k : Nat, k ≤ 3 ∧ 3 - k ≤ gg ∧ v81 = .int .i64 k ∧ v11 = .int .u32 (en_w so s3 s7 rd rs1 rs2 k) ∧ Aside0 (w' = wc) ∧ Aside0 (∀ j, j < k → 0 ≤ en_r rd rs1 rs2 j ∧ en_r rd rs1 rs2 j ≤ 31))
       case atStart => exact ⟨0, by omega, by omega, rfl, rfl, ⟨rfl⟩, ⟨fun j h => by omega⟩⟩
       case round =>
        obtain ⟨k, hk, hg, rfl, rfl, HW, HRG⟩ := hrel
        obtain rfl := HW.out
        clear HW
        by_cases hlt : k < 3
        ·have hltz : (k : Int) < 3 := by omega
         obtain ⟨x, hx⟩ : ∃ x, en_w so s3 s7 rd rs1 rs2 k = x := ⟨_, rfl⟩
         have HEX := Aside0.mk hx
         obtain ⟨r, hr⟩ : ∃ r, en_r rd rs1 rs2 k = r := ⟨_, rfl⟩
         have HER := Aside0.mk hr
         have e0 := enc_i53 rd rs1 rs2 k hlt
         rw [hr] at e0
         rw [hx]
         clear hx hr
         --D
         by_cases hr1 : r < 0
         ·go_wp2
          go_ret2
          exact ⟨(en_out _ _ _ _ _ _ _ _ _ _ _ HE.out (of_decide_eq_false HLH.out.symm) k hlt (by rw [HER.out]; omega)).symm ▸ rfl, HB.out⟩
         ·by_cases hr2 : r > 31
          ·go_wp2
           go_ret2
           exact ⟨(en_out _ _ _ _ _ _ _ _ _ _ _ HE.out (of_decide_eq_false HLH.out.symm) k hlt (by rw [HER.out]; omega)).symm ▸ rfl, HB.out⟩
          ·have hr3 : 0 ≤ r := by omega
           have hr4 : r ≤ 31 := by omega
           have hr5 : r % 4294967296 = r := by omega
           clear e0
           have hk3 : k = 0 ∨ k = 1 ∨ k = 2 := by omega
           rcases hk3 with rfl | rfl | rfl
           ·have e0 : ∀ w, _ := fun w => (enc_i53_0 (.int .i64 rd) (.int .i64 rs1) (.int .i64 rs2) w).trans (congrArg (fun v => Result.ok v w) (congrArg (Value.int .i64) HER.out : _ = Value.int .i64 r))
            have e1 := enc_i56_0
            go_wp2
            go_roundg 2
            case measure => omega
            case rel => exact ⟨1, by omega, by omega, rfl, by show _ = Value.int .u32 (en_w so s3 s7 rd rs1 rs2 (0 + 1)); rw [en_w, HEX.out, HER.out]; rfl, ⟨rfl⟩, ⟨en_in_step HRG.out (by rw [HER.out]; exact ⟨hr3, hr4⟩)⟩⟩
           ·have e0 : ∀ w, _ := fun w => (enc_i53_1 (.int .i64 rd) (.int .i64 rs1) (.int .i64 rs2) w).trans (congrArg (fun v => Result.ok v w) (congrArg (Value.int .i64) HER.out : _ = Value.int .i64 r))
            have e1 := enc_i56_1
            go_wp2
            go_roundg 1
            case measure => omega
            case rel => exact ⟨2, by omega, by omega, rfl, by show _ = Value.int .u32 (en_w so s3 s7 rd rs1 rs2 (1 + 1)); rw [en_w, HEX.out, HER.out]; rfl, ⟨rfl⟩, ⟨en_in_step HRG.out (by rw [HER.out]; exact ⟨hr3, hr4⟩)⟩⟩
           ·have e0 : ∀ w, _ := fun w => (enc_i53_2 (.int .i64 rd) (.int .i64 rs1) (.int .i64 rs2) w).trans (congrArg (fun v => Result.ok v w) (congrArg (Value.int .i64) HER.out : _ = Value.int .i64 r))
            have e1 := enc_i56_2
            go_wp2
            go_roundg 0
            case measure => omega
            case rel => exact ⟨3, by omega, by omega, rfl, by show _ = Value.int .u32 (en_w so s3 s7 rd rs1 rs2 (2 + 1)); rw [en_w, HEX.out, HER.out]; rfl, ⟨rfl⟩, ⟨en_in_step HRG.out (by rw [HER.out]; exact ⟨hr3, hr4⟩)⟩⟩
         --E
        ·have : k = 3 := by omega
         subst this
         obtain ⟨x, hx⟩ : ∃ x, en_w so s3 s7 rd rs1 rs2 3 = x := ⟨_, rfl⟩
         have HEX := Aside0.mk hx
         rw [hx]
         clear hx
         go_upto_region 19 with (fail)
         go_cut [14] (fun v14 wd => v14 = .bool (en_odd sf imm) ∧ Aside0 (wd = wr))
         case first =>
          --D
          by_cases h66 : sf = 66
          ·have HD := Aside0.mk h66
           go_wp2
           go_meet
           case rel => exact ⟨by rw [en_odd, HD.out]; rfl, ⟨rfl⟩⟩
          ·by_cases h74 : sf = 74
           ·have HD := Aside0.mk h74
            go_wp2
            go_meet
            case rel => exact ⟨by rw [en_odd, HD.out]; rfl, ⟨rfl⟩⟩
           ·have HD := Aside0.mk (And.intro h66 h74)
            go_wp2
            go_meet
            case rel => exact ⟨by simp [en_odd, HD.out.1, HD.out.2], ⟨rfl⟩⟩
          --E
         case rest =>
          obtain ⟨rfl, HW⟩ := hcut
          obtain rfl := HW.out
          clear HW
          obtain ⟨odd, hodd⟩ : ∃ b, en_odd sf imm = b := ⟨_, rfl⟩
          have HODD := Aside0.mk hodd
          rw [hodd]
          clear hodd
          go_upto_region 20 with (fail)
          go_cut [131] (fun v131 we => v131 = .bool (en_far lo hi imm odd) ∧ Aside0 (we = wc))
          case first =>
           --D
           by_cases hlh : lo ≤ hi
           ·by_cases him : imm < lo
            ·have HD := Aside0.mk (And.intro hlh him)
             go_wp2
             go_meet
             case rel => exact ⟨by simp [en_far, HD.out.1, HD.out.2], ⟨rfl⟩⟩
            ·by_cases him2 : imm > hi
             ·have HD := Aside0.mk (And.intro hlh him2)
              go_wp2
              go_meet
              case rel => exact ⟨by simp [en_far, HD.out.1, HD.out.2], ⟨rfl⟩⟩
             ·have HD := Aside0.mk (And.intro hlh (And.intro him him2))
              go_wp2
              go_meet
              case rel => exact ⟨by rw [en_far_in HD.out.1 (by have := HD.out; omega) (by have := HD.out; omega)], ⟨rfl⟩⟩
           ·have HD := Aside0.mk hlh
            go_wp2
            go_meet
            case rel => exact ⟨by rw [en_far_no (by have := HD.out; omega)], ⟨rfl⟩⟩
           --E
          case rest =>
           obtain ⟨rfl, HW⟩ := hcut
           obtain rfl := HW.out
           clear HW
           obtain ⟨far, hfar⟩ : ∃ b, en_far lo hi imm odd = b := ⟨_, rfl⟩
           have HFAR := Aside0.mk hfar
           rw [hfar]
           clear hfar
           cases far
           ·rcases HF.out with rfl | rfl | rfl | rfl | rfl | rfl | rfl | rfl | rfl
            ·go_wp2_with (first | (go_at_call 17; refine (cf_pcall_0 _).mono ?_; rintro e w5 ⟨rfl, hb⟩; have n0_ := Aside0.mk (blk_below (by (with_reducible repeat (first | refine blk_drewN ?_ _ | refine blk_drew ?_ | refine blk_alloc ?_ _)); exact BK1.out) hb); have n1_ := Aside0.mk (below_step (by repeat (first | (with_reducible first | exact HB.out | apply below_alloc | apply pw_below_drewN | apply below_drew1) | exact HB.out)) hb); clear BK1; clear HB; have BK1 := n0_; have HB := n1_; clear n0_ n1_; clear hb))
             go_loopg [11, 136] 0 (fun gg v11 v136 w' => v136 = .int .i64 0 ∧ v11 = .int .u32 x ∧ Aside0 (w' = w5))
             case atStart => exact ⟨rfl, rfl, ⟨rfl⟩⟩
             case round =>
              obtain ⟨rfl, rfl, HW⟩ := hrel
              obtain rfl := HW.out
              clear HW
              go_wp2
              go_ret2
              exact ⟨(en_doneF _ _ _ _ _ _ _ _ _ _ _ HE.out (of_decide_eq_false HLH.out.symm) HRG.out (HODD.out ▸ HFAR.out) _ (congrArg (en_p imm (cf_pieces 0)) HEX.out.symm)) ▸ rfl, HB.out⟩
            ·go_wp2_with (first | (go_at_call 17; refine (cf_pcall_66 _).mono ?_; rintro e w5 ⟨g5, hg5, rfl, hk5, hb⟩; have n0_ := Aside0.mk (blk_below (by (with_reducible repeat (first | refine blk_drewN ?_ _ | refine blk_drew ?_ | refine blk_alloc ?_ _)); exact BK1.out) hb); have n1_ := Aside0.mk (below_step (by repeat (first | (with_reducible first | exact HB.out | apply below_alloc | apply pw_below_drewN | apply below_drew1) | exact HB.out)) hb); have n2_ := Aside0.mk hk5; have n3_ := Aside0.mk ((by rw [hg5]; exact Nat.ne_of_lt (blk_lt (by (with_reducible repeat (first | refine blk_drewN ?_ _ | refine blk_drew ?_ | refine blk_alloc ?_ _)); exact BK1.out))) : g1 ≠ g5); clear BK1; clear HB; have BK1 := n0_; have HB := n1_; have BK5 := n2_; have NB1_5 := n3_; clear n0_ n1_ n2_ n3_; clear hb hk5 hg5))
             go_loopg [11, 136] 4 (fun gg v11 v136 w' => ∃ k : Nat, k ≤ 4 ∧ 4 - k ≤ gg ∧ v136 = .int .i64 k ∧ v11 = .int .u32 (en_p imm ([(11, 1, 7), (1, 4, 8), (5, 6, 25), (12, 1, 31)].take k) x) ∧ Aside0 (w'.heap[g1]? = some (.cells #[.int .i64 op, .int .i64 rd, .int .i64 rs1, .int .i64 rs2, .int .i64 imm] 29 (0, 0))) ∧ Aside0 (w'.heap[g5]? = some (.cells #[.int .u64 11, .int .u64 1, .int .u64 7, .int .u64 1, .int .u64 4, .int .u64 8, .int .u64 5, .int .u64 6, .int .u64 25, .int .u64 12, .int .u64 1, .int .u64 31] 60 (0, 0))) ∧ Aside0 (Below w.heap.size w w'))
             case atStart => exact ⟨0, by omega, by omega, rfl, rfl, BK1, BK5, HB⟩
             case round =>
              clear BK1 BK5 HB
              obtain ⟨k, hk, hg, rfl, rfl, BK1, BK5, HB⟩ := hrel
              have hk3 : k = 0 ∨ k = 1 ∨ k = 2 ∨ k = 3 ∨ k = 4 := by omega
              rcases hk3 with rfl | rfl | rfl | rfl | rfl
              ·obtain ⟨y, hy⟩ : ∃ y, en_p imm ([(11, 1, 7), (1, 4, 8), (5, 6, 25), (12, 1, 31)].take 0) x = y := ⟨_, rfl⟩
               have HY := Aside0.mk hy
               rw [hy]
               clear hy
               have hc1 : wr.cell? ⟨g1, 4, none⟩ = some (.int .i64 imm) := (blk_cell BK1.out 4).trans rfl
               have hf1 := blk_frozen BK1.out 4
               have hc1a : ∀ o, (wr.alloc o).cell? ⟨g1, 4, none⟩ = some (.int .i64 imm) := fun o => (blk_cell (blk_al BK1.out o) 4).trans rfl
               have hf1a : ∀ o, (wr.alloc o).frozen? ⟨g1, 4, none⟩ = false := fun o => blk_frozen (blk_al BK1.out o) 4
               have hc5_0 : wr.cell? ⟨g5, 0, none⟩ = some (.int .u64 11) := (blk_cell BK5.out 0).trans rfl
               have hf5_0 := blk_frozen BK5.out 0
               have hc5_1 : wr.cell? ⟨g5, 1, none⟩ = some (.int .u64 1) := (blk_cell BK5.out 1).trans rfl
               have hf5_1 := blk_frozen BK5.out 1
               have hc5_2 : wr.cell? ⟨g5, 2, none⟩ = some (.int .u64 7) := (blk_cell BK5.out 2).trans rfl
               have hf5_2 := blk_frozen BK5.out 2
               go_wp2
               go_roundg 3
               case measure => omega
               case rel => exact ⟨1, by omega, by omega, rfl, by rw [← HY.out]; simp [en_p], ⟨blk_al BK1.out _⟩, ⟨blk_al BK5.out _⟩, ⟨HB.out.alloc HB.out.size _⟩⟩
              ·obtain ⟨y, hy⟩ : ∃ y, en_p imm ([(11, 1, 7), (1, 4, 8), (5, 6, 25), (12, 1, 31)].take 1) x = y := ⟨_, rfl⟩
               have HY := Aside0.mk hy
               rw [hy]
               clear hy
               have hc1 : wr.cell? ⟨g1, 4, none⟩ = some (.int .i64 imm) := (blk_cell BK1.out 4).trans rfl
               have hf1 := blk_frozen BK1.out 4
               have hc1a : ∀ o, (wr.alloc o).cell? ⟨g1, 4, none⟩ = some (.int .i64 imm) := fun o => (blk_cell (blk_al BK1.out o) 4).trans rfl
               have hf1a : ∀ o, (wr.alloc o).frozen? ⟨g1, 4, none⟩ = false := fun o => blk_frozen (blk_al BK1.out o) 4
               have hc5_0 : wr.cell? ⟨g5, 3, none⟩ = some (.int .u64 1) := (blk_cell BK5.out 3).trans rfl
               have hf5_0 := blk_frozen BK5.out 3
               have hc5_1 : wr.cell? ⟨g5, 4, none⟩ = some (.int .u64 4) := (blk_cell BK5.out 4).trans rfl
               have hf5_1 := blk_frozen BK5.out 4
               have hc5_2 : wr.cell? ⟨g5, 5, none⟩ = some (.int .u64 8) := (blk_cell BK5.out 5).trans rfl
               have hf5_2 := blk_frozen BK5.out 5
               go_wp2
               go_roundg 2
               case measure => omega
               case rel => exact ⟨2, by omega, by omega, rfl, by rw [← HY.out]; simp [en_p], ⟨blk_al BK1.out _⟩, ⟨blk_al BK5.out _⟩, ⟨HB.out.alloc HB.out.size _⟩⟩
              ·obtain ⟨y, hy⟩ : ∃ y, en_p imm ([(11, 1, 7), (1, 4, 8), (5, 6, 25), (12, 1, 31)].take 2) x = y := ⟨_, rfl⟩
               have HY := Aside0.mk hy
               rw [hy]
               clear hy
               have hc1 : wr.cell? ⟨g1, 4, none⟩ = some (.int .i64 imm) := (blk_cell BK1.out 4).trans rfl
               have hf1 := blk_frozen BK1.out 4
               have hc1a : ∀ o, (wr.alloc o).cell? ⟨g1, 4, none⟩ = some (.int .i64 imm) := fun o => (blk_cell (blk_al BK1.out o) 4).trans rfl
               have hf1a : ∀ o, (wr.alloc o).frozen? ⟨g1, 4, none⟩ = false := fun o => blk_frozen (blk_al BK1.out o) 4
               have hc5_0 : wr.cell? ⟨g5, 6, none⟩ = some (.int .u64 5) := (blk_cell BK5.out 6).trans rfl
               have hf5_0 := blk_frozen BK5.out 6
               have hc5_1 : wr.cell? ⟨g5, 7, none⟩ = some (.int .u64 6) := (blk_cell BK5.out 7).trans rfl
               have hf5_1 := blk_frozen BK5.out 7
               have hc5_2 : wr.cell? ⟨g5, 8, none⟩ = some (.int .u64 25) := (blk_cell BK5.out 8).trans rfl
               have hf5_2 := blk_frozen BK5.out 8
               go_wp2
               go_roundg 1
               case measure => omega
               case rel => exact ⟨3, by omega, by omega, rfl, by rw [← HY.out]; simp [en_p], ⟨blk_al BK1.out _⟩, ⟨blk_al BK5.out _⟩, ⟨HB.out.alloc HB.out.size _⟩⟩
              ·obtain ⟨y, hy⟩ : ∃ y, en_p imm ([(11, 1, 7), (1, 4, 8), (5, 6, 25), (12, 1, 31)].take 3) x = y := ⟨_, rfl⟩
               have HY := Aside0.mk hy
               rw [hy]
               clear hy
               have hc1 : wr.cell? ⟨g1, 4, none⟩ = some (.int .i64 imm) := (blk_cell BK1.out 4).trans rfl
               have hf1 := blk_frozen BK1.out 4
               have hc1a : ∀ o, (wr.alloc o).cell? ⟨g1, 4, none⟩ = some (.int .i64 imm) := fun o => (blk_cell (blk_al BK1.out o) 4).trans rfl
               have hf1a : ∀ o, (wr.alloc o).frozen? ⟨g1, 4, none⟩ = false := fun o => blk_frozen (blk_al BK1.out o) 4
               have hc5_0 : wr.cell? ⟨g5, 9, none⟩ = some (.int .u64 12) := (blk_cell BK5.out 9).trans rfl
               have hf5_0 := blk_frozen BK5.out 9
               have hc5_1 : wr.cell? ⟨g5, 10, none⟩ = some (.int .u64 1) := (blk_cell BK5.out 10).trans rfl
               have hf5_1 := blk_frozen BK5.out 10
               have hc5_2 : wr.cell? ⟨g5, 11, none⟩ = some (.int .u64 31) := (blk_cell BK5.out 11).trans rfl
               have hf5_2 := blk_frozen BK5.out 11
               go_wp2
               go_roundg 0
               case measure => omega
               case rel => exact ⟨4, by omega, by omega, rfl, by rw [← HY.out]; simp [en_p], ⟨blk_al BK1.out _⟩, ⟨blk_al BK5.out _⟩, ⟨HB.out.alloc HB.out.size _⟩⟩
              ·obtain ⟨y, hy⟩ : ∃ y, en_p imm ([(11, 1, 7), (1, 4, 8), (5, 6, 25), (12, 1, 31)].take 4) x = y := ⟨_, rfl⟩
               have HY := Aside0.mk hy
               rw [hy]
               clear hy
               go_wp2
               go_ret2
               exact ⟨(en_doneF _ _ _ _ _ _ _ _ _ _ _ HE.out (of_decide_eq_false HLH.out.symm) HRG.out (HODD.out ▸ HFAR.out) _ (HY.out.symm.trans (congrArg (en_p imm (cf_pieces 66)) HEX.out.symm))) ▸ rfl, HB.out⟩
            ·go_wp2_with (first | (go_at_call 17; refine (cf_pcall_73 _).mono ?_; rintro e w5 ⟨g5, hg5, rfl, hk5, hb⟩; have n0_ := Aside0.mk (blk_below (by (with_reducible repeat (first | refine blk_drewN ?_ _ | refine blk_drew ?_ | refine blk_alloc ?_ _)); exact BK1.out) hb); have n1_ := Aside0.mk (below_step (by repeat (first | (with_reducible first | exact HB.out | apply below_alloc | apply pw_below_drewN | apply below_drew1) | exact HB.out)) hb); have n2_ := Aside0.mk hk5; have n3_ := Aside0.mk ((by rw [hg5]; exact Nat.ne_of_lt (blk_lt (by (with_reducible repeat (first | refine blk_drewN ?_ _ | refine blk_drew ?_ | refine blk_alloc ?_ _)); exact BK1.out))) : g1 ≠ g5); clear BK1; clear HB; have BK1 := n0_; have HB := n1_; have BK5 := n2_; have NB1_5 := n3_; clear n0_ n1_ n2_ n3_; clear hb hk5 hg5))
             go_loopg [11, 136] 1 (fun gg v11 v136 w' => ∃ k : Nat, k ≤ 1 ∧ 1 - k ≤ gg ∧ v136 = .int .i64 k ∧ v11 = .int .u32 (en_p imm ([(0, 12, 20)].take k) x) ∧ Aside0 (w'.heap[g1]? = some (.cells #[.int .i64 op, .int .i64 rd, .int .i64 rs1, .int .i64 rs2, .int .i64 imm] 29 (0, 0))) ∧ Aside0 (w'.heap[g5]? = some (.cells #[.int .u64 0, .int .u64 12, .int .u64 20] 60 (0, 0))) ∧ Aside0 (Below w.heap.size w w'))
             case atStart => exact ⟨0, by omega, by omega, rfl, rfl, BK1, BK5, HB⟩
             case round =>
              clear BK1 BK5 HB
              obtain ⟨k, hk, hg, rfl, rfl, BK1, BK5, HB⟩ := hrel
              have hk3 : k = 0 ∨ k = 1 := by omega
              rcases hk3 with rfl | rfl
              ·obtain ⟨y, hy⟩ : ∃ y, en_p imm ([(0, 12, 20)].take 0) x = y := ⟨_, rfl⟩
               have HY := Aside0.mk hy
               rw [hy]
               clear hy
               have hc1 : wr.cell? ⟨g1, 4, none⟩ = some (.int .i64 imm) := (blk_cell BK1.out 4).trans rfl
               have hf1 := blk_frozen BK1.out 4
               have hc1a : ∀ o, (wr.alloc o).cell? ⟨g1, 4, none⟩ = some (.int .i64 imm) := fun o => (blk_cell (blk_al BK1.out o) 4).trans rfl
               have hf1a : ∀ o, (wr.alloc o).frozen? ⟨g1, 4, none⟩ = false := fun o => blk_frozen (blk_al BK1.out o) 4
               have hc5_0 : wr.cell? ⟨g5, 0, none⟩ = some (.int .u64 0) := (blk_cell BK5.out 0).trans rfl
               have hf5_0 := blk_frozen BK5.out 0
               have hc5_1 : wr.cell? ⟨g5, 1, none⟩ = some (.int .u64 12) := (blk_cell BK5.out 1).trans rfl
               have hf5_1 := blk_frozen BK5.out 1
               have hc5_2 : wr.cell? ⟨g5, 2, none⟩ = some (.int .u64 20) := (blk_cell BK5.out 2).trans rfl
               have hf5_2 := blk_frozen BK5.out 2
               go_wp2
               go_roundg 0
               case measure => omega
               case rel => exact ⟨1, by omega, by omega, rfl, by rw [← HY.out]; simp [en_p], ⟨blk_al BK1.out _⟩, ⟨blk_al BK5.out _⟩, ⟨HB.out.alloc HB.out.size _⟩⟩
              ·obtain ⟨y, hy⟩ : ∃ y, en_p imm ([(0, 12, 20)].take 1) x = y := ⟨_, rfl⟩
               have HY := Aside0.mk hy
               rw [hy]
               clear hy
               go_wp2
               go_ret2
               exact ⟨(en_doneF _ _ _ _ _ _ _ _ _ _ _ HE.out (of_decide_eq_false HLH.out.symm) HRG.out (HODD.out ▸ HFAR.out) _ (HY.out.symm.trans (congrArg (en_p imm (cf_pieces 73)) HEX.out.symm))) ▸ rfl, HB.out⟩
            ·go_wp2_with (first | (go_at_call 17; refine (cf_pcall_74 _).mono ?_; rintro e w5 ⟨g5, hg5, rfl, hk5, hb⟩; have n0_ := Aside0.mk (blk_below (by (with_reducible repeat (first | refine blk_drewN ?_ _ | refine blk_drew ?_ | refine blk_alloc ?_ _)); exact BK1.out) hb); have n1_ := Aside0.mk (below_step (by repeat (first | (with_reducible first | exact HB.out | apply below_alloc | apply pw_below_drewN | apply below_drew1) | exact HB.out)) hb); have n2_ := Aside0.mk hk5; have n3_ := Aside0.mk ((by rw [hg5]; exact Nat.ne_of_lt (blk_lt (by (with_reducible repeat (first | refine blk_drewN ?_ _ | refine blk_drew ?_ | refine blk_alloc ?_ _)); exact BK1.out))) : g1 ≠ g5); clear BK1; clear HB; have BK1 := n0_; have HB := n1_; have BK5 := n2_; have NB1_5 := n3_; clear n0_ n1_ n2_ n3_; clear hb hk5 hg5))
             go_loopg [11, 136] 4 (fun gg v11 v136 w' => ∃ k : Nat, k ≤ 4 ∧ 4 - k ≤ gg ∧ v136 = .int .i64 k ∧ v11 = .int .u32 (en_p imm ([(12, 8, 12), (11, 1, 20), (1, 10, 21), (20, 1, 31)].take k) x) ∧ Aside0 (w'.heap[g1]? = some (.cells #[.int .i64 op, .int .i64 rd, .int .i64 rs1, .int .i64 rs2, .int .i64 imm] 29 (0, 0))) ∧ Aside0 (w'.heap[g5]? = some (.cells #[.int .u64 12, .int .u64 8, .int .u64 12, .int .u64 11, .int .u64 1, .int .u64 20, .int .u64 1, .int .u64 10, .int .u64 21, .int .u64 20, .int .u64 1, .int .u64 31] 60 (0, 0))) ∧ Aside0 (Below w.heap.size w w'))
             case atStart => exact ⟨0, by omega, by omega, rfl, rfl, BK1, BK5, HB⟩
             case round =>
              clear BK1 BK5 HB
              obtain ⟨k, hk, hg, rfl, rfl, BK1, BK5, HB⟩ := hrel
              have hk3 : k = 0 ∨ k = 1 ∨ k = 2 ∨ k = 3 ∨ k = 4 := by omega
              rcases hk3 with rfl | rfl | rfl | rfl | rfl
              ·obtain ⟨y, hy⟩ : ∃ y, en_p imm ([(12, 8, 12), (11, 1, 20), (1, 10, 21), (20, 1, 31)].take 0) x = y := ⟨_, rfl⟩
               have HY := Aside0.mk hy
               rw [hy]
               clear hy
               have hc1 : wr.cell? ⟨g1, 4, none⟩ = some (.int .i64 imm) := (blk_cell BK1.out 4).trans rfl
               have hf1 := blk_frozen BK1.out 4
               have hc1a : ∀ o, (wr.alloc o).cell? ⟨g1, 4, none⟩ = some (.int .i64 imm) := fun o => (blk_cell (blk_al BK1.out o) 4).trans rfl
               have hf1a : ∀ o, (wr.alloc o).frozen? ⟨g1, 4, none⟩ = false := fun o => blk_frozen (blk_al BK1.out o) 4
               have hc5_0 : wr.cell? ⟨g5, 0, none⟩ = some (.int .u64 12) := (blk_cell BK5.out 0).trans rfl
               have hf5_0 := blk_frozen BK5.out 0
               have hc5_1 : wr.cell? ⟨g5, 1, none⟩ = some (.int .u64 8) := (blk_cell BK5.out 1).trans rfl
               have hf5_1 := blk_frozen BK5.out 1
               have hc5_2 : wr.cell? ⟨g5, 2, none⟩ = some (.int .u64 12) := (blk_cell BK5.out 2).trans rfl
               have hf5_2 := blk_frozen BK5.out 2
               go_wp2
               go_roundg 3
               case measure => omega
               case rel => exact ⟨1, by omega, by omega, rfl, by rw [← HY.out]; simp [en_p], ⟨blk_al BK1.out _⟩, ⟨blk_al BK5.out _⟩, ⟨HB.out.alloc HB.out.size _⟩⟩
              ·obtain ⟨y, hy⟩ : ∃ y, en_p imm ([(12, 8, 12), (11, 1, 20), (1, 10, 21), (20, 1, 31)].take 1) x = y := ⟨_, rfl⟩
               have HY := Aside0.mk hy
               rw [hy]
               clear hy
               have hc1 : wr.cell? ⟨g1, 4, none⟩ = some (.int .i64 imm) := (blk_cell BK1.out 4).trans rfl
               have hf1 := blk_frozen BK1.out 4
               have hc1a : ∀ o, (wr.alloc o).cell? ⟨g1, 4, none⟩ = some (.int .i64 imm) := fun o => (blk_cell (blk_al BK1.out o) 4).trans rfl
               have hf1a : ∀ o, (wr.alloc o).frozen? ⟨g1, 4, none⟩ = false := fun o => blk_frozen (blk_al BK1.out o) 4
               have hc5_0 : wr.cell? ⟨g5, 3, none⟩ = some (.int .u64 11) := (blk_cell BK5.out 3).trans rfl
               have hf5_0 := blk_frozen BK5.out 3
               have hc5_1 : wr.cell? ⟨g5, 4, none⟩ = some (.int .u64 1) := (blk_cell BK5.out 4).trans rfl
               have hf5_1 := blk_frozen BK5.out 4
               have hc5_2 : wr.cell? ⟨g5, 5, none⟩ = some (.int .u64 20) := (blk_cell BK5.out 5).trans rfl
               have hf5_2 := blk_frozen BK5.out 5
               go_wp2
               go_roundg 2
               case measure => omega
               case rel => exact ⟨2, by omega, by omega, rfl, by rw [← HY.out]; simp [en_p], ⟨blk_al BK1.out _⟩, ⟨blk_al BK5.out _⟩, ⟨HB.out.alloc HB.out.size _⟩⟩
              ·obtain ⟨y, hy⟩ : ∃ y, en_p imm ([(12, 8, 12), (11, 1, 20), (1, 10, 21), (20, 1, 31)].take 2) x = y := ⟨_, rfl⟩
               have HY := Aside0.mk hy
               rw [hy]
               clear hy
               have hc1 : wr.cell? ⟨g1, 4, none⟩ = some (.int .i64 imm) := (blk_cell BK1.out 4).trans rfl
               have hf1 := blk_frozen BK1.out 4
               have hc1a : ∀ o, (wr.alloc o).cell? ⟨g1, 4, none⟩ = some (.int .i64 imm) := fun o => (blk_cell (blk_al BK1.out o) 4).trans rfl
               have hf1a : ∀ o, (wr.alloc o).frozen? ⟨g1, 4, none⟩ = false := fun o => blk_frozen (blk_al BK1.out o) 4
               have hc5_0 : wr.cell? ⟨g5, 6, none⟩ = some (.int .u64 1) := (blk_cell BK5.out 6).trans rfl
               have hf5_0 := blk_frozen BK5.out 6
               have hc5_1 : wr.cell? ⟨g5, 7, none⟩ = some (.int .u64 10) := (blk_cell BK5.out 7).trans rfl
               have hf5_1 := blk_frozen BK5.out 7
               have hc5_2 : wr.cell? ⟨g5, 8, none⟩ = some (.int .u64 21) := (blk_cell BK5.out 8).trans rfl
               have hf5_2 := blk_frozen BK5.out 8
               go_wp2
               go_roundg 1
               case measure => omega
               case rel => exact ⟨3, by omega, by omega, rfl, by rw [← HY.out]; simp [en_p], ⟨blk_al BK1.out _⟩, ⟨blk_al BK5.out _⟩, ⟨HB.out.alloc HB.out.size _⟩⟩
              ·obtain ⟨y, hy⟩ : ∃ y, en_p imm ([(12, 8, 12), (11, 1, 20), (1, 10, 21), (20, 1, 31)].take 3) x = y := ⟨_, rfl⟩
               have HY := Aside0.mk hy
               rw [hy]
               clear hy
               have hc1 : wr.cell? ⟨g1, 4, none⟩ = some (.int .i64 imm) := (blk_cell BK1.out 4).trans rfl
               have hf1 := blk_frozen BK1.out 4
               have hc1a : ∀ o, (wr.alloc o).cell? ⟨g1, 4, none⟩ = some (.int .i64 imm) := fun o => (blk_cell (blk_al BK1.out o) 4).trans rfl
               have hf1a : ∀ o, (wr.alloc o).frozen? ⟨g1, 4, none⟩ = false := fun o => blk_frozen (blk_al BK1.out o) 4
               have hc5_0 : wr.cell? ⟨g5, 9, none⟩ = some (.int .u64 20) := (blk_cell BK5.out 9).trans rfl
               have hf5_0 := blk_frozen BK5.out 9
               have hc5_1 : wr.cell? ⟨g5, 10, none⟩ = some (.int .u64 1) := (blk_cell BK5.out 10).trans rfl
               have hf5_1 := blk_frozen BK5.out 10
               have hc5_2 : wr.cell? ⟨g5, 11, none⟩ = some (.int .u64 31) := (blk_cell BK5.out 11).trans rfl
               have hf5_2 := blk_frozen BK5.out 11
               go_wp2
               go_roundg 0
               case measure => omega
               case rel => exact ⟨4, by omega, by omega, rfl, by rw [← HY.out]; simp [en_p], ⟨blk_al BK1.out _⟩, ⟨blk_al BK5.out _⟩, ⟨HB.out.alloc HB.out.size _⟩⟩
              ·obtain ⟨y, hy⟩ : ∃ y, en_p imm ([(12, 8, 12), (11, 1, 20), (1, 10, 21), (20, 1, 31)].take 4) x = y := ⟨_, rfl⟩
               have HY := Aside0.mk hy
               rw [hy]
               clear hy
               go_wp2
               go_ret2
               exact ⟨(en_doneF _ _ _ _ _ _ _ _ _ _ _ HE.out (of_decide_eq_false HLH.out.symm) HRG.out (HODD.out ▸ HFAR.out) _ (HY.out.symm.trans (congrArg (en_p imm (cf_pieces 74)) HEX.out.symm))) ▸ rfl, HB.out⟩
            ·go_wp2_with (first | (go_at_call 17; refine (cf_pcall_78 _).mono ?_; rintro e w5 ⟨rfl, hb⟩; have n0_ := Aside0.mk (blk_below (by (with_reducible repeat (first | refine blk_drewN ?_ _ | refine blk_drew ?_ | refine blk_alloc ?_ _)); exact BK1.out) hb); have n1_ := Aside0.mk (below_step (by repeat (first | (with_reducible first | exact HB.out | apply below_alloc | apply pw_below_drewN | apply below_drew1) | exact HB.out)) hb); clear BK1; clear HB; have BK1 := n0_; have HB := n1_; clear n0_ n1_; clear hb))
             go_loopg [11, 136] 0 (fun gg v11 v136 w' => v136 = .int .i64 0 ∧ v11 = .int .u32 x ∧ Aside0 (w' = w5))
             case atStart => exact ⟨rfl, rfl, ⟨rfl⟩⟩
             case round =>
              obtain ⟨rfl, rfl, HW⟩ := hrel
              obtain rfl := HW.out
              clear HW
              go_wp2
              go_ret2
              exact ⟨(en_doneF _ _ _ _ _ _ _ _ _ _ _ HE.out (of_decide_eq_false HLH.out.symm) HRG.out (HODD.out ▸ HFAR.out) _ (congrArg (en_p imm (cf_pieces 78)) HEX.out.symm)) ▸ rfl, HB.out⟩
            ·go_wp2_with (first | (go_at_call 17; refine (cf_pcall_82 _).mono ?_; rintro e w5 ⟨rfl, hb⟩; have n0_ := Aside0.mk (blk_below (by (with_reducible repeat (first | refine blk_drewN ?_ _ | refine blk_drew ?_ | refine blk_alloc ?_ _)); exact BK1.out) hb); have n1_ := Aside0.mk (below_step (by repeat (first | (with_reducible first | exact HB.out | apply below_alloc | apply pw_below_drewN | apply below_drew1) | exact HB.out)) hb); clear BK1; clear HB; have BK1 := n0_; have HB := n1_; clear n0_ n1_; clear hb))
             go_loopg [11, 136] 0 (fun gg v11 v136 w' => v136 = .int .i64 0 ∧ v11 = .int .u32 x ∧ Aside0 (w' = w5))
             case atStart => exact ⟨rfl, rfl, ⟨rfl⟩⟩
             case round =>
              obtain ⟨rfl, rfl, HW⟩ := hrel
              obtain rfl := HW.out
              clear HW
              go_wp2
              go_ret2
              exact ⟨(en_doneF _ _ _ _ _ _ _ _ _ _ _ HE.out (of_decide_eq_false HLH.out.symm) HRG.out (HODD.out ▸ HFAR.out) _ (congrArg (en_p imm (cf_pieces 82)) HEX.out.symm)) ▸ rfl, HB.out⟩
            ·go_wp2_with (first | (go_at_call 17; refine (cf_pcall_83 _).mono ?_; rintro e w5 ⟨g5, hg5, rfl, hk5, hb⟩; have n0_ := Aside0.mk (blk_below (by (with_reducible repeat (first | refine blk_drewN ?_ _ | refine blk_drew ?_ | refine blk_alloc ?_ _)); exact BK1.out) hb); have n1_ := Aside0.mk (below_step (by repeat (first | (with_reducible first | exact HB.out | apply below_alloc | apply pw_below_drewN | apply below_drew1) | exact HB.out)) hb); have n2_ := Aside0.mk hk5; have n3_ := Aside0.mk ((by rw [hg5]; exact Nat.ne_of_lt (blk_lt (by (with_reducible repeat (first | refine blk_drewN ?_ _ | refine blk_drew ?_ | refine blk_alloc ?_ _)); exact BK1.out))) : g1 ≠ g5); clear BK1; clear HB; have BK1 := n0_; have HB := n1_; have BK5 := n2_; have NB1_5 := n3_; clear n0_ n1_ n2_ n3_; clear hb hk5 hg5))
             go_loopg [11, 136] 2 (fun gg v11 v136 w' => ∃ k : Nat, k ≤ 2 ∧ 2 - k ≤ gg ∧ v136 = .int .i64 k ∧ v11 = .int .u32 (en_p imm ([(0, 5, 7), (5, 7, 25)].take k) x) ∧ Aside0 (w'.heap[g1]? = some (.cells #[.int .i64 op, .int .i64 rd, .int .i64 rs1, .int .i64 rs2, .int .i64 imm] 29 (0, 0))) ∧ Aside0 (w'.heap[g5]? = some (.cells #[.int .u64 0, .int .u64 5, .int .u64 7, .int .u64 5, .int .u64 7, .int .u64 25] 60 (0, 0))) ∧ Aside0 (Below w.heap.size w w'))
             case atStart => exact ⟨0, by omega, by omega, rfl, rfl, BK1, BK5, HB⟩
             case round =>
              clear BK1 BK5 HB
              obtain ⟨k, hk, hg, rfl, rfl, BK1, BK5, HB⟩ := hrel
              have hk3 : k = 0 ∨ k = 1 ∨ k = 2 := by omega
              rcases hk3 with rfl | rfl | rfl
              ·obtain ⟨y, hy⟩ : ∃ y, en_p imm ([(0, 5, 7), (5, 7, 25)].take 0) x = y := ⟨_, rfl⟩
               have HY := Aside0.mk hy
               rw [hy]
               clear hy
               have hc1 : wr.cell? ⟨g1, 4, none⟩ = some (.int .i64 imm) := (blk_cell BK1.out 4).trans rfl
               have hf1 := blk_frozen BK1.out 4
               have hc1a : ∀ o, (wr.alloc o).cell? ⟨g1, 4, none⟩ = some (.int .i64 imm) := fun o => (blk_cell (blk_al BK1.out o) 4).trans rfl
               have hf1a : ∀ o, (wr.alloc o).frozen? ⟨g1, 4, none⟩ = false := fun o => blk_frozen (blk_al BK1.out o) 4
               have hc5_0 : wr.cell? ⟨g5, 0, none⟩ = some (.int .u64 0) := (blk_cell BK5.out 0).trans rfl
               have hf5_0 := blk_frozen BK5.out 0
               have hc5_1 : wr.cell? ⟨g5, 1, none⟩ = some (.int .u64 5) := (blk_cell BK5.out 1).trans rfl
               have hf5_1 := blk_frozen BK5.out 1
               have hc5_2 : wr.cell? ⟨g5, 2, none⟩ = some (.int .u64 7) := (blk_cell BK5.out 2).trans rfl
               have hf5_2 := blk_frozen BK5.out 2
               go_wp2
               go_roundg 1
               case measure => omega
               case rel => exact ⟨1, by omega, by omega, rfl, by rw [← HY.out]; simp [en_p], ⟨blk_al BK1.out _⟩, ⟨blk_al BK5.out _⟩, ⟨HB.out.alloc HB.out.size _⟩⟩
              ·obtain ⟨y, hy⟩ : ∃ y, en_p imm ([(0, 5, 7), (5, 7, 25)].take 1) x = y := ⟨_, rfl⟩
               have HY := Aside0.mk hy
               rw [hy]
               clear hy
               have hc1 : wr.cell? ⟨g1, 4, none⟩ = some (.int .i64 imm) := (blk_cell BK1.out 4).trans rfl
               have hf1 := blk_frozen BK1.out 4
               have hc1a : ∀ o, (wr.alloc o).cell? ⟨g1, 4, none⟩ = some (.int .i64 imm) := fun o => (blk_cell (blk_al BK1.out o) 4).trans rfl
               have hf1a : ∀ o, (wr.alloc o).frozen? ⟨g1, 4, none⟩ = false := fun o => blk_frozen (blk_al BK1.out o) 4
               have hc5_0 : wr.cell? ⟨g5, 3, none⟩ = some (.int .u64 5) := (blk_cell BK5.out 3).trans rfl
               have hf5_0 := blk_frozen BK5.out 3
               have hc5_1 : wr.cell? ⟨g5, 4, none⟩ = some (.int .u64 7) := (blk_cell BK5.out 4).trans rfl
               have hf5_1 := blk_frozen BK5.out 4
               have hc5_2 : wr.cell? ⟨g5, 5, none⟩ = some (.int .u64 25) := (blk_cell BK5.out 5).trans rfl
               have hf5_2 := blk_frozen BK5.out 5
               go_wp2
               go_roundg 0
               case measure => omega
               case rel => exact ⟨2, by omega, by omega, rfl, by rw [← HY.out]; simp [en_p], ⟨blk_al BK1.out _⟩, ⟨blk_al BK5.out _⟩, ⟨HB.out.alloc HB.out.size _⟩⟩
              ·obtain ⟨y, hy⟩ : ∃ y, en_p imm ([(0, 5, 7), (5, 7, 25)].take 2) x = y := ⟨_, rfl⟩
               have HY := Aside0.mk hy
               rw [hy]
               clear hy
               go_wp2
               go_ret2
               exact ⟨(en_doneF _ _ _ _ _ _ _ _ _ _ _ HE.out (of_decide_eq_false HLH.out.symm) HRG.out (HODD.out ▸ HFAR.out) _ (HY.out.symm.trans (congrArg (en_p imm (cf_pieces 83)) HEX.out.symm))) ▸ rfl, HB.out⟩
            ·go_wp2_with (first | (go_at_call 17; refine (cf_pcall_84 _).mono ?_; rintro e w5 ⟨g5, hg5, rfl, hk5, hb⟩; have n0_ := Aside0.mk (blk_below (by (with_reducible repeat (first | refine blk_drewN ?_ _ | refine blk_drew ?_ | refine blk_alloc ?_ _)); exact BK1.out) hb); have n1_ := Aside0.mk (below_step (by repeat (first | (with_reducible first | exact HB.out | apply below_alloc | apply pw_below_drewN | apply below_drew1) | exact HB.out)) hb); have n2_ := Aside0.mk hk5; have n3_ := Aside0.mk ((by rw [hg5]; exact Nat.ne_of_lt (blk_lt (by (with_reducible repeat (first | refine blk_drewN ?_ _ | refine blk_drew ?_ | refine blk_alloc ?_ _)); exact BK1.out))) : g1 ≠ g5); clear BK1; clear HB; have BK1 := n0_; have HB := n1_; have BK5 := n2_; have NB1_5 := n3_; clear n0_ n1_ n2_ n3_; clear hb hk5 hg5))
             go_loopg [11, 136] 1 (fun gg v11 v136 w' => ∃ k : Nat, k ≤ 1 ∧ 1 - k ≤ gg ∧ v136 = .int .i64 k ∧ v11 = .int .u32 (en_p imm ([(0, 6, 20)].take k) x) ∧ Aside0 (w'.heap[g1]? = some (.cells #[.int .i64 op, .int .i64 rd, .int .i64 rs1, .int .i64 rs2, .int .i64 imm] 29 (0, 0))) ∧ Aside0 (w'.heap[g5]? = some (.cells #[.int .u64 0, .int .u64 6, .int .u64 20] 60 (0, 0))) ∧ Aside0 (Below w.heap.size w w'))
             case atStart => exact ⟨0, by omega, by omega, rfl, rfl, BK1, BK5, HB⟩
             case round =>
              clear BK1 BK5 HB
              obtain ⟨k, hk, hg, rfl, rfl, BK1, BK5, HB⟩ := hrel
              have hk3 : k = 0 ∨ k = 1 := by omega
              rcases hk3 with rfl | rfl
              ·obtain ⟨y, hy⟩ : ∃ y, en_p imm ([(0, 6, 20)].take 0) x = y := ⟨_, rfl⟩
               have HY := Aside0.mk hy
               rw [hy]
               clear hy
               have hc1 : wr.cell? ⟨g1, 4, none⟩ = some (.int .i64 imm) := (blk_cell BK1.out 4).trans rfl
               have hf1 := blk_frozen BK1.out 4
               have hc1a : ∀ o, (wr.alloc o).cell? ⟨g1, 4, none⟩ = some (.int .i64 imm) := fun o => (blk_cell (blk_al BK1.out o) 4).trans rfl
               have hf1a : ∀ o, (wr.alloc o).frozen? ⟨g1, 4, none⟩ = false := fun o => blk_frozen (blk_al BK1.out o) 4
               have hc5_0 : wr.cell? ⟨g5, 0, none⟩ = some (.int .u64 0) := (blk_cell BK5.out 0).trans rfl
               have hf5_0 := blk_frozen BK5.out 0
               have hc5_1 : wr.cell? ⟨g5, 1, none⟩ = some (.int .u64 6) := (blk_cell BK5.out 1).trans rfl
               have hf5_1 := blk_frozen BK5.out 1
               have hc5_2 : wr.cell? ⟨g5, 2, none⟩ = some (.int .u64 20) := (blk_cell BK5.out 2).trans rfl
               have hf5_2 := blk_frozen BK5.out 2
               go_wp2
               go_roundg 0
               case measure => omega
               case rel => exact ⟨1, by omega, by omega, rfl, by rw [← HY.out]; simp [en_p], ⟨blk_al BK1.out _⟩, ⟨blk_al BK5.out _⟩, ⟨HB.out.alloc HB.out.size _⟩⟩
              ·obtain ⟨y, hy⟩ : ∃ y, en_p imm ([(0, 6, 20)].take 1) x = y := ⟨_, rfl⟩
               have HY := Aside0.mk hy
               rw [hy]
               clear hy
               go_wp2
               go_ret2
               exact ⟨(en_doneF _ _ _ _ _ _ _ _ _ _ _ HE.out (of_decide_eq_false HLH.out.symm) HRG.out (HODD.out ▸ HFAR.out) _ (HY.out.symm.trans (congrArg (en_p imm (cf_pieces 84)) HEX.out.symm))) ▸ rfl, HB.out⟩
            ·go_wp2_with (first | (go_at_call 17; refine (cf_pcall_85 _).mono ?_; rintro e w5 ⟨g5, hg5, rfl, hk5, hb⟩; have n0_ := Aside0.mk (blk_below (by (with_reducible repeat (first | refine blk_drewN ?_ _ | refine blk_drew ?_ | refine blk_alloc ?_ _)); exact BK1.out) hb); have n1_ := Aside0.mk (below_step (by repeat (first | (with_reducible first | exact HB.out | apply below_alloc | apply pw_below_drewN | apply below_drew1) | exact HB.out)) hb); have n2_ := Aside0.mk hk5; have n3_ := Aside0.mk ((by rw [hg5]; exact Nat.ne_of_lt (blk_lt (by (with_reducible repeat (first | refine blk_drewN ?_ _ | refine blk_drew ?_ | refine blk_alloc ?_ _)); exact BK1.out))) : g1 ≠ g5); clear BK1; clear HB; have BK1 := n0_; have HB := n1_; have BK5 := n2_; have NB1_5 := n3_; clear n0_ n1_ n2_ n3_; clear hb hk5 hg5))
             go_loopg [11, 136] 1 (fun gg v11 v136 w' => ∃ k : Nat, k ≤ 1 ∧ 1 - k ≤ gg ∧ v136 = .int .i64 k ∧ v11 = .int .u32 (en_p imm ([(0, 20, 12)].take k) x) ∧ Aside0 (w'.heap[g1]? = some (.cells #[.int .i64 op, .int .i64 rd, .int .i64 rs1, .int .i64 rs2, .int .i64 imm] 29 (0, 0))) ∧ Aside0 (w'.heap[g5]? = some (.cells #[.int .u64 0, .int .u64 20, .int .u64 12] 60 (0, 0))) ∧ Aside0 (Below w.heap.size w w'))
             case atStart => exact ⟨0, by omega, by omega, rfl, rfl, BK1, BK5, HB⟩
             case round =>
              clear BK1 BK5 HB
              obtain ⟨k, hk, hg, rfl, rfl, BK1, BK5, HB⟩ := hrel
              have hk3 : k = 0 ∨ k = 1 := by omega
              rcases hk3 with rfl | rfl
              ·obtain ⟨y, hy⟩ : ∃ y, en_p imm ([(0, 20, 12)].take 0) x = y := ⟨_, rfl⟩
               have HY := Aside0.mk hy
               rw [hy]
               clear hy
               have hc1 : wr.cell? ⟨g1, 4, none⟩ = some (.int .i64 imm) := (blk_cell BK1.out 4).trans rfl
               have hf1 := blk_frozen BK1.out 4
               have hc1a : ∀ o, (wr.alloc o).cell? ⟨g1, 4, none⟩ = some (.int .i64 imm) := fun o => (blk_cell (blk_al BK1.out o) 4).trans rfl
               have hf1a : ∀ o, (wr.alloc o).frozen? ⟨g1, 4, none⟩ = false := fun o => blk_frozen (blk_al BK1.out o) 4
               have hc5_0 : wr.cell? ⟨g5, 0, none⟩ = some (.int .u64 0) := (blk_cell BK5.out 0).trans rfl
               have hf5_0 := blk_frozen BK5.out 0
               have hc5_1 : wr.cell? ⟨g5, 1, none⟩ = some (.int .u64 20) := (blk_cell BK5.out 1).trans rfl
               have hf5_1 := blk_frozen BK5.out 1
               have hc5_2 : wr.cell? ⟨g5, 2, none⟩ = some (.int .u64 12) := (blk_cell BK5.out 2).trans rfl
               have hf5_2 := blk_frozen BK5.out 2
               go_wp2
               go_roundg 0
               case measure => omega
               case rel => exact ⟨1, by omega, by omega, rfl, by rw [← HY.out]; simp [en_p], ⟨blk_al BK1.out _⟩, ⟨blk_al BK5.out _⟩, ⟨HB.out.alloc HB.out.size _⟩⟩
              ·obtain ⟨y, hy⟩ : ∃ y, en_p imm ([(0, 20, 12)].take 1) x = y := ⟨_, rfl⟩
               have HY := Aside0.mk hy
               rw [hy]
               clear hy
               go_wp2
               go_ret2
               exact ⟨(en_doneF _ _ _ _ _ _ _ _ _ _ _ HE.out (of_decide_eq_false HLH.out.symm) HRG.out (HODD.out ▸ HFAR.out) _ (HY.out.symm.trans (congrArg (en_p imm (cf_pieces 85)) HEX.out.symm))) ▸ rfl, HB.out⟩
           ·go_wp2
            go_ret2
            exact ⟨(en_farF _ _ _ _ _ _ _ _ _ _ _ HE.out (of_decide_eq_false HLH.out.symm) (HODD.out ▸ HFAR.out)).symm ▸ rfl, HB.out⟩
      ·go_wp2
       go_ret2
       exact ⟨by simp only [encF, HE.out]; simp [of_decide_eq_true HLH.out.symm], HB.out⟩
def cm_ent (op : Int) : Ent := (cm_e13.find? (fun e => decide (op = e.n))).getD ⟨op, 0, 0, 0, 0⟩
def cm_has (op : Int) : Bool := (cm_e13.find? (fun e => decide (op = e.n))).isSome
theorem cm_at_find (op : Int) : ∀ (l : List Ent) (i : Nat), ((cm_at op l i).map (·.2)).getD (cm_val ⟨op, 0, 0, 0, 0⟩) = cm_val ((l.find? (fun e => decide (op = e.n))).getD ⟨op, 0, 0, 0, 0⟩) ∧ (cm_at op l i).isSome = (l.find? (fun e => decide (op = e.n))).isSome
 | [], _ => ⟨rfl, rfl⟩
 | e :: r, i => by
  by_cases h : op = e.n
  ·simp [cm_at, h]
  ·simp only [cm_at, if_neg h, List.find?_cons, decide_eq_false h]
   exact cm_at_find op r (i + 1)
theorem cm_forms : ∀ e ∈ cm_e13, FormOk e.form := by
 intro e he
 have : (cm_e13.all (fun e => decide (e.form = 0 ∨ e.form = 66 ∨ e.form = 73 ∨ e.form = 74 ∨ e.form = 78 ∨ e.form = 82 ∨ e.form = 83 ∨ e.form = 84 ∨ e.form = 85))) = true := by decide
 unfold FormOk
 exact of_decide_eq_true (List.all_eq_true.mp this e he)
theorem cm_ent_ok (op : Int) : FormOk (cm_ent op).form := by
 unfold cm_ent
 cases h : cm_e13.find? (fun e => decide (op = e.n)) with
 | none => exact .inl rfl
 | some e => exact cm_forms e (List.mem_of_find?_eq_some h)
def enc_r (op rd rs1 rs2 imm : Int) : Int × Int := encF (en_ok (cm_has op) (cf_uses (cm_ent op).form).1 (cf_uses (cm_ent op).form).2.1 (cf_uses (cm_ent op).form).2.2 rd rs1 rs2 3) (cm_ent op).form (cm_ent op).op (cm_ent op).f3 (cm_ent op).f7 (cf_room (cm_ent op).form).1 (cf_room (cm_ent op).form).2 rd rs1 rs2 imm
def code_Encode.f (op rd rs1 rs2 imm : Int) : Option (Int × Int) := some (enc_r op rd rs1 rs2 imm)
theorem code_Encode.calls (op rd rs1 rs2 imm r0 r1 : Int) (w : World) (h : code_Encode.f op rd rs1 rs2 imm = some (r0, r1)) :
  Calls Try.prog 9 #[.agg #[.int .i64 op, .int .i64 rd, .int .i64 rs1, .int .i64 rs2, .int .i64 imm]] w fun e w' => e = .returned (.tuple #[.int .u32 r0, .int .i64 r1]) ∧ Below w.heap.size w w' := by
 have h' := Option.some.inj h
 refine (enc_calls op rd rs1 rs2 imm w _ _ _ _ _ (cm_at_find op cm_e13 0).1 (cm_at_find op cm_e13 0).2 (cm_ent_ok op) _ _ rfl _ _ _ rfl).mono ?_
 rintro e w' ⟨h1, h2⟩
 refine ⟨h1.trans ?_, h2⟩
 show Ending.returned (.tuple #[.int .u32 (enc_r op rd rs1 rs2 imm).1, .int .i64 (enc_r op rd rs1 rs2 imm).2]) = _
 rw [h']

end Go.Proofs.Ytkacoffiinggiaa.K
