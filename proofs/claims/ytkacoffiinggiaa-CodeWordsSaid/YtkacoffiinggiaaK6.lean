/- What Go functions of this seat answer: each has a Lean function ('.f') and a contract ('.calls'). Conditions: those of each theorem. Written by a program over the kit's printer; what is marked 'typed by hand' is this session's. -/
import Derived.Test.YtkacoffiinggiaaK0
import Derived.Test.YtkacoffiinggiaaK5
namespace Go.Proofs.Ytkacoffiinggiaa.K
open Go.RowKit Go.Proofs.YtkacoffiinggiaaW.PrintWords Go.Proofs.YtkacoffiinggiaaW.PrintLast Go.Proofs.YtkacoffiinggiaaW.PrintMore
attribute [local go_sem] max2_int min2_int max_two min_two max_three min_three max_four min_four   -- for this text's walks alone
set_option linter.unusedVariables false
set_option linter.unusedSimpArgs false

/-! ### code_Encode: function 9 (typed by hand) -/

theorem enc_look (w : World) (r : Nat) (h : w.heap[r]? = some (cm_st cm_e13)) (op : Int) (x : Value) (b : Bool) (hx : ((cm_at op cm_e13 0).map (·.2)).getD (cm_val ⟨op, 0, 0, 0, 0⟩) = x) (hb : (cm_at op cm_e13 0).isSome = b) :
    (Instr.lookup 50 (.map (some r)) (.int .i64 op) true).run Try.prog w = .ok (.tuple #[x, .bool b]) w := by
  have := cm_look w r cm_e13 h op true
  rw [hx, hb] at this
  exact this
theorem enc_s (w w2 : World) (hb : Below (w.alloc (Obj.cells #[.int .u8 0, .int .u32 0, .int .u32 0, .int .u32 0] 48)).drew.heap.size (w.alloc (Obj.cells #[.int .u8 0, .int .u32 0, .int .u32 0, .int .u32 0] 48)).drew w2) :
    w2.heap[w.heap.size]? = some (Obj.cells #[.int .u8 0, .int .u32 0, .int .u32 0, .int .u32 0] 48) := (hb.block _ (by simp)).trans (heap_alloc_new w _)
theorem code_shapes' (w : World) : Calls Try.prog 14 #[] w fun e w' => ∃ g, g = w.heap.size ∧ e = .returned (.map (some g)) ∧ w'.heap[g]? = some (cm_st cm_e13) ∧ Below w.heap.size w w' :=
  (code_shapes w).mono fun e w' ⟨h1, h2, h3⟩ => ⟨_, rfl, h1, h2, h3⟩
theorem enc_way1 {w w1 w2 : World} {g1 : Nat} {o1 : Obj} (HB : Below w.heap.size w w1) (h1 : w1.heap[g1]? = some o1) (hb : Below w1.drew.heap.size w1.drew w2) (o : Obj) :
    (w2.alloc o).heap[g1]? = some o1 ∧ (w2.alloc o).heap[w2.heap.size]? = some o ∧ w.heap.size ≤ w2.heap.size ∧ g1 ≠ w2.heap.size ∧ Below w.heap.size w (w2.alloc o) := by
  have hs : w1.heap.size ≤ w2.heap.size := hb.size
  have hl : g1 < w1.heap.size := blk_lt h1
  have ha : Below w2.heap.size w2 (w2.alloc o) := (Below.refl _ _).alloc (Nat.le_refl _) o
  refine ⟨(ha.block _ (by omega)).trans ((hb.block _ hl).trans h1), heap_alloc_new w2 o, Nat.le_trans HB.size hs, by omega, ?_⟩
  exact (below_step (HB.trans ((Below.refl _ _).drew : Below w.heap.size w1 w1.drew)) hb).alloc (Nat.le_trans HB.size hs) o
theorem enc_way2 {w w1 w2 : World} {g1 : Nat} {o1 : Obj} (HB : Below w.heap.size w w1) (h1 : w1.heap[g1]? = some o1)
    (hb : Below (w1.alloc (Obj.cells #[.int .u8 0, .int .u32 0, .int .u32 0, .int .u32 0] 48)).drew.heap.size (w1.alloc (Obj.cells #[.int .u8 0, .int .u32 0, .int .u32 0, .int .u32 0] 48)).drew w2) (a b c d : Value) :
    ((((w2.setCell ⟨w1.heap.size, 0, none⟩ a).setCell ⟨w1.heap.size, 1, none⟩ b).setCell ⟨w1.heap.size, 2, none⟩ c).setCell ⟨w1.heap.size, 3, none⟩ d).heap[g1]? = some o1 ∧
    ((((w2.setCell ⟨w1.heap.size, 0, none⟩ a).setCell ⟨w1.heap.size, 1, none⟩ b).setCell ⟨w1.heap.size, 2, none⟩ c).setCell ⟨w1.heap.size, 3, none⟩ d).heap[w1.heap.size]? = some (.cells #[a, b, c, d] 48 (0, 0)) ∧
    w.heap.size ≤ w1.heap.size ∧ g1 ≠ w1.heap.size ∧ Below w.heap.size w ((((w2.setCell ⟨w1.heap.size, 0, none⟩ a).setCell ⟨w1.heap.size, 1, none⟩ b).setCell ⟨w1.heap.size, 2, none⟩ c).setCell ⟨w1.heap.size, 3, none⟩ d) := by
  have hl : g1 < w1.heap.size := blk_lt h1
  have hne : g1 ≠ w1.heap.size := by omega
  have ha : Below w1.heap.size w1 (w1.alloc (Obj.cells #[.int .u8 0, .int .u32 0, .int .u32 0, .int .u32 0] 48)).drew := ((Below.refl _ _).alloc (Nat.le_refl _) _).drew
  have h12 : Below w1.heap.size w1 w2 := ha.trans (hb.mono (by simp))
  have hs : w2.heap[w1.heap.size]? = some (.cells #[.int .u8 0, .int .u32 0, .int .u32 0, .int .u32 0] 48 (0, 0)) := enc_s _ _ hb
  have hg : w2.heap[g1]? = some o1 := (h12.block _ hl).trans h1
  have hbw : Below w.heap.size w w2 := below_step HB h12
  refine ⟨?_, ?_, HB.size, hne, (((hbw.setCell HB.size _).setCell HB.size _).setCell HB.size _).setCell HB.size _⟩
  · rw [Below.heap_setCell _ _ _ _ hne, Below.heap_setCell _ _ _ _ hne, Below.heap_setCell _ _ _ _ hne, Below.heap_setCell _ _ _ _ hne]
    exact hg
  · exact blk_put (cs := #[a, b, c, .int .u32 0]) (blk_put (cs := #[a, b, .int .u32 0, .int .u32 0]) (blk_put (cs := #[a, .int .u32 0, .int .u32 0, .int .u32 0]) (blk_put (cs := #[.int .u8 0, .int .u32 0, .int .u32 0, .int .u32 0]) hs 0 _ rfl) 1 _ rfl) 2 _ rfl) 3 _ rfl
theorem cf_room_calls' (f : Int) (h : FormOk f) (a b : Int) (e : cf_room f = (a, b)) (w : World) : Calls Try.prog 15 #[.int .u8 f] w fun e w' => e = .returned (.tuple #[.int .i64 a, .int .i64 b]) ∧ w' = w :=
  (cf_room_calls f h w).mono fun e' w' ⟨h1, h2⟩ => ⟨by rw [h1, e], h2⟩
theorem cf_uses_calls' (f : Int) (h : FormOk f) (a b c : Bool) (e : cf_uses f = (a, b, c)) (w : World) : Calls Try.prog 16 #[.int .u8 f] w fun e w' => e = .returned (.agg #[.bool a, .bool b, .bool c]) ∧ Below w.heap.size w w' :=
  (cf_uses_calls f h w).mono fun e' w' ⟨h1, h2⟩ => ⟨by rw [h1, e], h2⟩
def en_ok (s u0 u1 u2 : Bool) (a b c : Int) : Nat → Bool
  | 0 => s
  | 1 => s && (u0 || a == 0)
  | 2 => s && (u0 || a == 0) && (u1 || b == 0)
  | _ => s && (u0 || a == 0) && (u1 || b == 0) && (u2 || c == 0)
def en_u (a b c : Bool) : Nat → Bool
  | 0 => a
  | 1 => b
  | _ => c
def en_r (a b c : Int) : Nat → Int
  | 0 => a
  | 1 => b
  | _ => c
theorem en_ok_step (s u0 u1 u2 : Bool) (a b c : Int) (k : Nat) (h : k < 3) : en_ok s u0 u1 u2 a b c (k + 1) = (en_ok s u0 u1 u2 a b c k && (en_u u0 u1 u2 k || en_r a b c k == 0)) := by
  have : k = 0 ∨ k = 1 ∨ k = 2 := by omega
  rcases this with rfl | rfl | rfl <;> rfl
def en_w (so s3 s7 a b c : Int) : Nat → Int
  | 0 => bits BinOp.or IntKind.u32 (bits BinOp.or IntKind.u32 so (s3 * 4096 % 4294967296)) (s7 * 33554432 % 4294967296)
  | k + 1 => bits BinOp.or IntKind.u32 (en_w so s3 s7 a b c k) (en_r a b c k * en_r 128 32768 1048576 k)
def en_odd (sf imm : Int) : Bool := (sf == 66 || sf == 74) && bits BinOp.and IntKind.i64 imm 1 == 1
def en_far (lo hi imm : Int) (odd : Bool) : Bool := decide (lo ≤ hi) && (decide (imm < lo) || decide (imm > hi) || odd)
def en_p (imm : Int) : List (Int × Int × Int) → Int → Int
  | [], x => x
  | (a, b, c) :: r, x => en_p imm r (bits BinOp.or IntKind.u32 x (bits BinOp.and IntKind.u32 (imm % 4294967296 / 2 ^ a.toNat) (2 ^ b.toNat - 1) * 2 ^ c.toNat % 4294967296))
def encF (ok : Bool) (sf so s3 s7 lo hi rd rs1 rs2 imm : Int) : Int × Int := if ok = false then (0, 2) else if lo > hi ∧ imm ≠ 0 then (0, 2) else if rd < 0 ∨ rd > 31 ∨ rs1 < 0 ∨ rs1 > 31 ∨ rs2 < 0 ∨ rs2 > 31 then (0, 1) else if en_far lo hi imm (en_odd sf imm) = true then (0, 1) else (en_p imm (cf_pieces sf) (en_w so s3 s7 rd rs1 rs2 3), 0)
theorem en_far_in {lo hi imm : Int} {odd : Bool} (h : lo ≤ hi) (h1 : lo ≤ imm) (h2 : imm ≤ hi) : en_far lo hi imm odd = odd := by
  unfold en_far
  rw [decide_eq_true h, decide_eq_false (by omega : ¬ imm < lo), decide_eq_false (by omega : ¬ imm > hi)]
  rfl
theorem en_far_no {lo hi imm : Int} {odd : Bool} (h : hi < lo) : en_far lo hi imm odd = false := by
  unfold en_far
  rw [decide_eq_false (by omega : ¬ lo ≤ hi)]
  rfl
theorem en_doneF (ok : Bool) (sf so s3 s7 lo hi rd rs1 rs2 imm : Int) (h : ok = true) (h2 : ¬ (lo > hi ∧ imm ≠ 0)) (hr : ∀ j, j < 3 → 0 ≤ en_r rd rs1 rs2 j ∧ en_r rd rs1 rs2 j ≤ 31) (h3 : en_far lo hi imm (en_odd sf imm) = false) (x : Int) (hx : x = en_p imm (cf_pieces sf) (en_w so s3 s7 rd rs1 rs2 3)) : encF ok sf so s3 s7 lo hi rd rs1 rs2 imm = (x, 0) := by
  have h0 := hr 0 (by omega)
  have h1 := hr 1 (by omega)
  have h4 := hr 2 (by omega)
  simp only [en_r] at h0 h1 h4
  unfold encF
  rw [if_neg (by simp [h]), if_neg h2, if_neg (by omega), if_neg (by simp [h3]), hx]
theorem blk_al {w : World} {g : Nat} {o : Obj} (h : w.heap[g]? = some o) (o' : Obj) : (w.alloc o').heap[g]? = some o := (((Below.refl w.heap.size w).alloc (Nat.le_refl _) o').block _ (blk_lt h)).trans h
theorem en_farF (ok : Bool) (sf so s3 s7 lo hi rd rs1 rs2 imm : Int) (h : ok = true) (h2 : ¬ (lo > hi ∧ imm ≠ 0)) (hr : en_far lo hi imm (en_odd sf imm) = true) : encF ok sf so s3 s7 lo hi rd rs1 rs2 imm = (0, 1) := by
  unfold encF
  rw [if_neg (by simp [h]), if_neg h2, hr]
  split <;> rfl
theorem en_out (ok : Bool) (sf so s3 s7 lo hi rd rs1 rs2 imm : Int) (h : ok = true) (h2 : ¬ (lo > hi ∧ imm ≠ 0)) (k : Nat) (hk : k < 3) (hr : en_r rd rs1 rs2 k < 0 ∨ en_r rd rs1 rs2 k > 31) : encF ok sf so s3 s7 lo hi rd rs1 rs2 imm = (0, 1) := by
  have hd : rd < 0 ∨ rd > 31 ∨ rs1 < 0 ∨ rs1 > 31 ∨ rs2 < 0 ∨ rs2 > 31 := by
    have : k = 0 ∨ k = 1 ∨ k = 2 := by omega
    rcases this with rfl | rfl | rfl <;> simp only [en_r] at hr <;> omega
  unfold encF
  rw [if_neg (by simp [h]), if_neg h2, if_pos hd]
theorem en_neq (lo hi imm : Int) (h : lo > hi) : (imm != 0) = decide (lo > hi ∧ imm ≠ 0) := by
  by_cases e : imm = 0
  · rw [decide_eq_false (fun x => x.2 e)]; simp [e]
  · rw [decide_eq_true ⟨h, e⟩]; simp [e]
theorem en_in_step {a b c : Int} {k : Nat} (h : ∀ j, j < k → 0 ≤ en_r a b c j ∧ en_r a b c j ≤ 31) (h2 : 0 ≤ en_r a b c k ∧ en_r a b c k ≤ 31) (j : Nat) (hj : j < k + 1) : 0 ≤ en_r a b c j ∧ en_r a b c j ≤ 31 := by
  by_cases e : j = k
  · rw [e]; exact h2
  · exact h j (by omega)
theorem enc_i54_0 (a b c : Value) (w : World) : (Instr.index 54 (.agg #[a, b, c]) (.int .i64 0)).run Try.prog w = .ok a w := by kernel_rfl
theorem enc_i54_1 (a b c : Value) (w : World) : (Instr.index 54 (.agg #[a, b, c]) (.int .i64 1)).run Try.prog w = .ok b w := by kernel_rfl
theorem enc_i54_2 (a b c : Value) (w : World) : (Instr.index 54 (.agg #[a, b, c]) (.int .i64 2)).run Try.prog w = .ok c w := by kernel_rfl
theorem enc_i53_0 (a b c : Value) (w : World) : (Instr.index 53 (.agg #[a, b, c]) (.int .i64 0)).run Try.prog w = .ok a w := by kernel_rfl
theorem enc_i53_1 (a b c : Value) (w : World) : (Instr.index 53 (.agg #[a, b, c]) (.int .i64 1)).run Try.prog w = .ok b w := by kernel_rfl
theorem enc_i53_2 (a b c : Value) (w : World) : (Instr.index 53 (.agg #[a, b, c]) (.int .i64 2)).run Try.prog w = .ok c w := by kernel_rfl
theorem enc_i56_0 (a b c : Value) (w : World) : (Instr.index 56 (.agg #[a, b, c]) (.int .i64 0)).run Try.prog w = .ok a w := by kernel_rfl
theorem enc_i56_1 (a b c : Value) (w : World) : (Instr.index 56 (.agg #[a, b, c]) (.int .i64 1)).run Try.prog w = .ok b w := by kernel_rfl
theorem enc_i56_2 (a b c : Value) (w : World) : (Instr.index 56 (.agg #[a, b, c]) (.int .i64 2)).run Try.prog w = .ok c w := by kernel_rfl
theorem enc_a53_0 (g : Nat) (w : World) : (Instr.indexAt 53 (.pointer (some ⟨g, 0, none⟩)) (.int .i64 0)).run Try.prog w = .ok (.pointer (some ⟨g, 0, none⟩)) w := by kernel_rfl
theorem enc_a53_1 (g : Nat) (w : World) : (Instr.indexAt 53 (.pointer (some ⟨g, 0, none⟩)) (.int .i64 1)).run Try.prog w = .ok (.pointer (some ⟨g, 1, none⟩)) w := by kernel_rfl
theorem enc_a53_2 (g : Nat) (w : World) : (Instr.indexAt 53 (.pointer (some ⟨g, 0, none⟩)) (.int .i64 2)).run Try.prog w = .ok (.pointer (some ⟨g, 2, none⟩)) w := by kernel_rfl
theorem enc_i54 (a b c : Bool) (k : Nat) (h : k < 3) (w : World) : (Instr.index 54 (.agg #[.bool a, .bool b, .bool c]) (.int .i64 (k : Int))).run Try.prog w = .ok (.bool (en_u a b c k)) w := by
  have : k = 0 ∨ k = 1 ∨ k = 2 := by omega
  rcases this with rfl | rfl | rfl
  · exact enc_i54_0 _ _ _ w
  · exact enc_i54_1 _ _ _ w
  · exact enc_i54_2 _ _ _ w
theorem enc_i53 (a b c : Int) (k : Nat) (h : k < 3) (w : World) : (Instr.index 53 (.agg #[.int .i64 a, .int .i64 b, .int .i64 c]) (.int .i64 (k : Int))).run Try.prog w = .ok (.int .i64 (en_r a b c k)) w := by
  have : k = 0 ∨ k = 1 ∨ k = 2 := by omega
  rcases this with rfl | rfl | rfl
  · exact enc_i53_0 _ _ _ w
  · exact enc_i53_1 _ _ _ w
  · exact enc_i53_2 _ _ _ w
theorem enc_i56  (k : Nat) (h : k < 3) (w : World) : (Instr.index 56 (.agg #[.int .u64 7, .int .u64 15, .int .u64 20]) (.int .i64 (k : Int))).run Try.prog w = .ok (.int .u64 (en_r 7 15 20 k)) w := by
  have : k = 0 ∨ k = 1 ∨ k = 2 := by omega
  rcases this with rfl | rfl | rfl
  · exact enc_i56_0 _ _ _ w
  · exact enc_i56_1 _ _ _ w
  · exact enc_i56_2 _ _ _ w
theorem enc_a53 (g : Nat) (k : Nat) (h : k < 3) (w : World) : (Instr.indexAt 53 (.pointer (some ⟨g, 0, none⟩)) (.int .i64 (k : Int))).run Try.prog w = .ok (.pointer (some ⟨g, k, none⟩)) w := by
  have : k = 0 ∨ k = 1 ∨ k = 2 := by omega
  rcases this with rfl | rfl | rfl
  · exact enc_a53_0 g w
  · exact enc_a53_1 g w
  · exact enc_a53_2 g w
theorem enc_c53 {w : World} {g : Nat} {a b c : Int} (h : w.heap[g]? = some (.cells #[.int .i64 a, .int .i64 b, .int .i64 c] 53 (0, 0))) (k : Nat) (hk : k < 3) : w.cell? ⟨g, k, none⟩ = some (.int .i64 (en_r a b c k)) := by
  have : k = 0 ∨ k = 1 ∨ k = 2 := by omega
  rcases this with rfl | rfl | rfl <;> exact (blk_cell h _).trans rfl
theorem cf_pcall_0 (w : World) : Calls Try.prog 17 #[.int .u8 0] w fun e w' => e = .returned (.slice none 0 0) ∧ Below w.heap.size w w' := by
  go_enter Try.func17, Try.ntmps17
  go_wp2
  go_ret
  exact ⟨rfl, Below.refl _ _⟩
theorem cf_pcall_66 (w : World) : Calls Try.prog 17 #[.int .u8 66] w fun e w' => ∃ g, g = w.heap.size ∧ e = .returned (.slice (some ⟨g, 0, none⟩) 4 4) ∧ w'.heap[g]? = some (.cells #[.int .u64 11, .int .u64 1, .int .u64 7, .int .u64 1, .int .u64 4, .int .u64 8, .int .u64 5, .int .u64 6, .int .u64 25, .int .u64 12, .int .u64 1, .int .u64 31] 60 (0, 0)) ∧ Below w.heap.size w w' := by
  refine (cf_pieces_calls 66 (by simp [FormOk]) w).mono ?_
  rintro e w' ⟨v, rfl, ⟨h, _⟩ | ⟨rfl, rfl⟩⟩
  · cases h
  · exact ⟨_, rfl, rfl, heap_alloc_new w _, (Below.refl _ _).alloc (Nat.le_refl _) _⟩
theorem cf_pcall_73 (w : World) : Calls Try.prog 17 #[.int .u8 73] w fun e w' => ∃ g, g = w.heap.size ∧ e = .returned (.slice (some ⟨g, 0, none⟩) 1 1) ∧ w'.heap[g]? = some (.cells #[.int .u64 0, .int .u64 12, .int .u64 20] 60 (0, 0)) ∧ Below w.heap.size w w' := by
  refine (cf_pieces_calls 73 (by simp [FormOk]) w).mono ?_
  rintro e w' ⟨v, rfl, ⟨h, _⟩ | ⟨rfl, rfl⟩⟩
  · cases h
  · exact ⟨_, rfl, rfl, heap_alloc_new w _, (Below.refl _ _).alloc (Nat.le_refl _) _⟩
theorem cf_pcall_74 (w : World) : Calls Try.prog 17 #[.int .u8 74] w fun e w' => ∃ g, g = w.heap.size ∧ e = .returned (.slice (some ⟨g, 0, none⟩) 4 4) ∧ w'.heap[g]? = some (.cells #[.int .u64 12, .int .u64 8, .int .u64 12, .int .u64 11, .int .u64 1, .int .u64 20, .int .u64 1, .int .u64 10, .int .u64 21, .int .u64 20, .int .u64 1, .int .u64 31] 60 (0, 0)) ∧ Below w.heap.size w w' := by
  refine (cf_pieces_calls 74 (by simp [FormOk]) w).mono ?_
  rintro e w' ⟨v, rfl, ⟨h, _⟩ | ⟨rfl, rfl⟩⟩
  · cases h
  · exact ⟨_, rfl, rfl, heap_alloc_new w _, (Below.refl _ _).alloc (Nat.le_refl _) _⟩
theorem cf_pcall_78 (w : World) : Calls Try.prog 17 #[.int .u8 78] w fun e w' => e = .returned (.slice none 0 0) ∧ Below w.heap.size w w' := by
  go_enter Try.func17, Try.ntmps17
  go_wp2
  go_ret
  exact ⟨rfl, Below.refl _ _⟩
theorem cf_pcall_82 (w : World) : Calls Try.prog 17 #[.int .u8 82] w fun e w' => e = .returned (.slice none 0 0) ∧ Below w.heap.size w w' := by
  go_enter Try.func17, Try.ntmps17
  go_wp2
  go_ret
  exact ⟨rfl, Below.refl _ _⟩
theorem cf_pcall_83 (w : World) : Calls Try.prog 17 #[.int .u8 83] w fun e w' => ∃ g, g = w.heap.size ∧ e = .returned (.slice (some ⟨g, 0, none⟩) 2 2) ∧ w'.heap[g]? = some (.cells #[.int .u64 0, .int .u64 5, .int .u64 7, .int .u64 5, .int .u64 7, .int .u64 25] 60 (0, 0)) ∧ Below w.heap.size w w' := by
  refine (cf_pieces_calls 83 (by simp [FormOk]) w).mono ?_
  rintro e w' ⟨v, rfl, ⟨h, _⟩ | ⟨rfl, rfl⟩⟩
  · cases h
  · exact ⟨_, rfl, rfl, heap_alloc_new w _, (Below.refl _ _).alloc (Nat.le_refl _) _⟩
theorem cf_pcall_84 (w : World) : Calls Try.prog 17 #[.int .u8 84] w fun e w' => ∃ g, g = w.heap.size ∧ e = .returned (.slice (some ⟨g, 0, none⟩) 1 1) ∧ w'.heap[g]? = some (.cells #[.int .u64 0, .int .u64 6, .int .u64 20] 60 (0, 0)) ∧ Below w.heap.size w w' := by
  refine (cf_pieces_calls 84 (by simp [FormOk]) w).mono ?_
  rintro e w' ⟨v, rfl, ⟨h, _⟩ | ⟨rfl, rfl⟩⟩
  · cases h
  · exact ⟨_, rfl, rfl, heap_alloc_new w _, (Below.refl _ _).alloc (Nat.le_refl _) _⟩
theorem cf_pcall_85 (w : World) : Calls Try.prog 17 #[.int .u8 85] w fun e w' => ∃ g, g = w.heap.size ∧ e = .returned (.slice (some ⟨g, 0, none⟩) 1 1) ∧ w'.heap[g]? = some (.cells #[.int .u64 0, .int .u64 20, .int .u64 12] 60 (0, 0)) ∧ Below w.heap.size w w' := by
  refine (cf_pieces_calls 85 (by simp [FormOk]) w).mono ?_
  rintro e w' ⟨v, rfl, ⟨h, _⟩ | ⟨rfl, rfl⟩⟩
  · cases h
  · exact ⟨_, rfl, rfl, heap_alloc_new w _, (Below.refl _ _).alloc (Nat.le_refl _) _⟩
def EncPost (r : Int × Int) (w : World) (e : Ending) (w' : World) : Prop := e = .returned (.tuple #[.int .u32 r.1, .int .i64 r.2]) ∧ Below w.heap.size w w'
set_option maxHeartbeats 8000000 in
set_option maxRecDepth 100000 in
theorem enc_calls (op rd rs1 rs2 imm : Int) (w : World) (sf so s3 s7 : Int) (sb : Bool) (hx : ((cm_at op cm_e13 0).map (·.2)).getD (cm_val ⟨op, 0, 0, 0, 0⟩) = .agg #[.int .u8 sf, .int .u32 so, .int .u32 s3, .int .u32 s7]) (hsb : (cm_at op cm_e13 0).isSome = sb) (hF : FormOk sf) (lo hi : Int) (hRM : cf_room sf = (lo, hi)) (u0 u1 u2 : Bool) (hU : cf_uses sf = (u0, u1, u2)) : Calls Try.prog 9 #[.agg #[.int .i64 op, .int .i64 rd, .int .i64 rs1, .int .i64 rs2, .int .i64 imm]] w (EncPost (encF (en_ok sb u0 u1 u2 rd rs1 rs2 3) sf so s3 s7 lo hi rd rs1 rs2 imm) w) := by
  have HB := Aside0.mk (Below.refl w.heap.size w)
  have HX := Aside0.mk hx
  have HSB := Aside0.mk hsb
  have HF := Aside0.mk hF
  have HRM := Aside0.mk hRM
  have HU := Aside0.mk hU
  clear hx hsb hF hRM hU
  have hu53 := Try.underlying53
  have hu54 := Try.underlying54
  have hu29 := Try.underlying29
  have hu48 := Try.underlying48
  go_enter Try.func9, Try.ntmps9
  go_upto_region 1 with (first | ((with_reducible refine gate_dst (N := 1) rfl ?_); (try (refine gate_guard (by rfl) ?_; dsimp only)); refine box_event ?hg (N := 1) ?hd (cs := #[.int .i64 op, .int .i64 rd, .int .i64 rs1, .int .i64 rs2, .int .i64 imm]) (t := 29) ?hr ?_; (case hd => rfl); (case hg => rfl); (case hr => first | (go_simp; done) | (go_simp; rfl)); intro g1 hg w1 hbox hb; have n0_ := Aside0.mk (below_step (by repeat (first | (with_reducible first | exact HB.out | apply below_alloc | apply pw_below_drewN | apply below_drew1) | exact HB.out)) hb); have n1_ := Aside0.mk hbox; have n2_ := Aside0.mk ((by rw [hg]; exact (below_size (by repeat (first | (with_reducible first | exact HB.out | apply below_alloc | apply pw_below_drewN | apply below_drew1) | exact HB.out)))) : w.heap.size ≤ g1); clear HB; have HB := n0_; have BK1 := n1_; have GE1 := n2_; clear n0_ n1_ n2_; clear hb hbox hg; have hc1_0 : w1.cell? ⟨g1, 0, none⟩ = some (.int .i64 op) := (blk_cell BK1.out 0).trans rfl; have hc1_1 : w1.cell? ⟨g1, 1, none⟩ = some (.int .i64 rd) := (blk_cell BK1.out 1).trans rfl; have hc1_2 : w1.cell? ⟨g1, 2, none⟩ = some (.int .i64 rs1) := (blk_cell BK1.out 2).trans rfl; have hc1_3 : w1.cell? ⟨g1, 3, none⟩ = some (.int .i64 rs2) := (blk_cell BK1.out 3).trans rfl; have hc1_4 : w1.cell? ⟨g1, 4, none⟩ = some (.int .i64 imm) := (blk_cell BK1.out 4).trans rfl; have hf1_0 := blk_frozen BK1.out 0; have hf1_1 := blk_frozen BK1.out 1; have hf1_2 := blk_frozen BK1.out 2; have hf1_3 := blk_frozen BK1.out 3; have hf1_4 := blk_frozen BK1.out 4))
  go_cut [4, 5] (fun v4 v5 wc => ∃ g4 : Nat, v4 = .pointer (some ⟨g4, 0, none⟩) ∧ v5 = .bool sb ∧ Aside0 (wc.heap[g1]? = some (.cells #[.int .i64 op, .int .i64 rd, .int .i64 rs1, .int .i64 rs2, .int .i64 imm] 29 (0, 0))) ∧ Aside0 (wc.heap[g4]? = some (.cells #[.int .u8 sf, .int .u32 so, .int .u32 s3, .int .u32 s7] 48 (0, 0))) ∧ Aside0 (w.heap.size ≤ g4) ∧ Aside0 (g1 ≠ g4) ∧ Aside0 (Below w.heap.size w wc))
  case first =>
    have hnew := World.new_ne w1 ⟨g1, 0, none⟩ hc1_0
    go_region_held3 (fun w' => w'.cell? ⟨g1, 0, none⟩ = some (.int .i64 op)) (go_keep)
      (first | (go_at_call 14; refine (code_shapes' _).mono ?_; rintro e w2 ⟨gm, hgm, rfl, hm, hb⟩; have hlk1 := enc_look w2 gm hm op _ _ HX.out HSB.out; have hlk2 := enc_look w2.drew gm hm op _ _ HX.out HSB.out; have hlk3 := enc_look (w2.alloc (Obj.cells #[.int .u8 0, .int .u32 0, .int .u32 0, .int .u32 0] 48)) gm (((Below.refl _ _).alloc (Nat.le_refl _) _ : Below w2.heap.size w2 (w2.alloc (Obj.cells #[.int .u8 0, .int .u32 0, .int .u32 0, .int .u32 0] 48))).block _ (blk_lt hm) |>.trans hm) op _ _ HX.out HSB.out; have hlk4 := enc_look (w2.drew.alloc (Obj.cells #[.int .u8 0, .int .u32 0, .int .u32 0, .int .u32 0] 48)) gm (((Below.refl _ _).alloc (Nat.le_refl _) _ : Below w2.drew.heap.size w2.drew (w2.drew.alloc (Obj.cells #[.int .u8 0, .int .u32 0, .int .u32 0, .int .u32 0] 48))).block _ (blk_lt hm) |>.trans hm) op _ _ HX.out HSB.out; have hlk5 := enc_look (w2.drew.alloc (Obj.cells #[.int .u8 0, .int .u32 0, .int .u32 0, .int .u32 0] 48)).drew gm (((Below.refl _ _).alloc (Nat.le_refl _) _ : Below w2.drew.heap.size w2.drew (w2.drew.alloc (Obj.cells #[.int .u8 0, .int .u32 0, .int .u32 0, .int .u32 0] 48))).block _ (blk_lt hm) |>.trans hm) op _ _ HX.out HSB.out; clear hm hgm; (try (have hs := enc_s _ _ hb; have hs0 := (blk_cell hs 0).trans rfl; have hs1 := (blk_cell hs 1).trans rfl; have hs2 := (blk_cell hs 2).trans rfl; have hs3 := (blk_cell hs 3).trans rfl; have hsf0 := blk_frozen hs 0; have hsf1 := blk_frozen hs 1; have hsf2 := blk_frozen hs 2; have hsf3 := blk_frozen hs 3; clear hs)); have hmem := hb.cell (p := ⟨g1, 0, none⟩) (World.block_lt_of_cell? _ _ (by assumption))))
    all_goals
      go_wp2
      go_meet
      case rel =>
        first
        | (obtain ⟨q1, q2, q3, q4, q5⟩ := enc_way1 HB.out BK1.out hb (.cells #[.int .u8 sf, .int .u32 so, .int .u32 s3, .int .u32 s7] 48); with_reducible exact ⟨_, rfl, rfl, ⟨q1⟩, ⟨q2⟩, ⟨q3⟩, ⟨q4⟩, ⟨q5⟩⟩)
        | (obtain ⟨q1, q2, q3, q4, q5⟩ := enc_way2 HB.out BK1.out hb (.int .u8 sf) (.int .u32 so) (.int .u32 s3) (.int .u32 s7); with_reducible exact ⟨_, rfl, rfl, ⟨q1⟩, ⟨q2⟩, ⟨q3⟩, ⟨q4⟩, ⟨q5⟩⟩)
  case rest =>
    obtain ⟨g4, rfl, rfl, BK1, BK4, GE4, NB1_4, HB⟩ := hcut
    have NB4_1 := Aside0.mk (Ne.symm NB1_4.out)
    have hc1_0 : wc.cell? ⟨g1, 0, none⟩ = some (.int .i64 op) := (blk_cell BK1.out 0).trans rfl
    have hc1_1 : wc.cell? ⟨g1, 1, none⟩ = some (.int .i64 rd) := (blk_cell BK1.out 1).trans rfl
    have hc1_2 : wc.cell? ⟨g1, 2, none⟩ = some (.int .i64 rs1) := (blk_cell BK1.out 2).trans rfl
    have hc1_3 : wc.cell? ⟨g1, 3, none⟩ = some (.int .i64 rs2) := (blk_cell BK1.out 3).trans rfl
    have hc1_4 : wc.cell? ⟨g1, 4, none⟩ = some (.int .i64 imm) := (blk_cell BK1.out 4).trans rfl
    have hf1_0 := blk_frozen BK1.out 0
    have hf1_1 := blk_frozen BK1.out 1
    have hf1_2 := blk_frozen BK1.out 2
    have hf1_3 := blk_frozen BK1.out 3
    have hf1_4 := blk_frozen BK1.out 4
    have hc4_0 : wc.cell? ⟨g4, 0, none⟩ = some (.int .u8 sf) := (blk_cell BK4.out 0).trans rfl
    have hc4_1 : wc.cell? ⟨g4, 1, none⟩ = some (.int .u32 so) := (blk_cell BK4.out 1).trans rfl
    have hc4_2 : wc.cell? ⟨g4, 2, none⟩ = some (.int .u32 s3) := (blk_cell BK4.out 2).trans rfl
    have hc4_3 : wc.cell? ⟨g4, 3, none⟩ = some (.int .u32 s7) := (blk_cell BK4.out 3).trans rfl
    have hf4_0 := blk_frozen BK4.out 0
    have hf4_1 := blk_frozen BK4.out 1
    have hf4_2 := blk_frozen BK4.out 2
    have hf4_3 := blk_frozen BK4.out 3
    go_wp2_with (first | (go_at_call 15; refine (cf_room_calls' sf HF.out lo hi HRM.out _).mono ?_; rintro e w' ⟨rfl, rfl⟩) | ((with_reducible refine gate_dst (N := 8) rfl ?_); (try (refine gate_guard (by rfl) ?_; dsimp only)); refine box_event ?hg (N := 8) ?hd (cs := #[.int .i64 0, .int .i64 0, .int .i64 0]) (t := 53) ?hr ?_; (case hd => rfl); (case hg => rfl); (case hr => first | (go_simp; done) | (go_simp; rfl)); intro g8 hg w3 hbox hb; have n0_ := Aside0.mk (blk_below (by (with_reducible repeat (first | refine blk_drewN ?_ _ | refine blk_drew ?_ | refine blk_alloc ?_ _)); exact BK1.out) hb); have n1_ := Aside0.mk (blk_below (by (with_reducible repeat (first | refine blk_drewN ?_ _ | refine blk_drew ?_ | refine blk_alloc ?_ _)); exact BK4.out) hb); have n2_ := Aside0.mk (below_step (by repeat (first | (with_reducible first | exact HB.out | apply below_alloc | apply pw_below_drewN | apply below_drew1 | refine below_set ?_ GE1.out | refine below_set ?_ GE4.out) | exact HB.out)) hb); have n3_ := Aside0.mk hbox; have n4_ := Aside0.mk ((by rw [hg]; exact (below_size (by repeat (first | (with_reducible first | exact HB.out | apply below_alloc | apply pw_below_drewN | apply below_drew1 | refine below_set ?_ GE1.out | refine below_set ?_ GE4.out) | exact HB.out)))) : w.heap.size ≤ g8); have n5_ := Aside0.mk ((by rw [hg]; exact Nat.ne_of_lt (blk_lt (by (with_reducible repeat (first | refine blk_drewN ?_ _ | refine blk_drew ?_ | refine blk_alloc ?_ _)); exact BK1.out))) : g1 ≠ g8); have n6_ := Aside0.mk ((by rw [hg]; exact Nat.ne_of_lt (blk_lt (by (with_reducible repeat (first | refine blk_drewN ?_ _ | refine blk_drew ?_ | refine blk_alloc ?_ _)); exact BK4.out))) : g4 ≠ g8); clear BK1; clear BK4; clear HB; have BK1 := n0_; have BK4 := n1_; have HB := n2_; have BK8 := n3_; have GE8 := n4_; have NB1_8 := n5_; have NB4_8 := n6_; clear n0_ n1_ n2_ n3_ n4_ n5_ n6_; clear hb hbox hg; have NB8_1 := Aside0.mk (Ne.symm NB1_8.out); have NB8_4 := Aside0.mk (Ne.symm NB4_8.out); have hc8_0 : w3.cell? ⟨g8, 0, none⟩ = some (.int .i64 0) := (blk_cell BK8.out 0).trans rfl; have hc8_1 : w3.cell? ⟨g8, 1, none⟩ = some (.int .i64 0) := (blk_cell BK8.out 1).trans rfl; have hc8_2 : w3.cell? ⟨g8, 2, none⟩ = some (.int .i64 0) := (blk_cell BK8.out 2).trans rfl; have hf8_0 := blk_frozen BK8.out 0; have hf8_1 := blk_frozen BK8.out 1; have hf8_2 := blk_frozen BK8.out 2; have hc1_0 : w3.cell? ⟨g1, 0, none⟩ = some (.int .i64 op) := (blk_cell BK1.out 0).trans rfl; have hc1_1 : w3.cell? ⟨g1, 1, none⟩ = some (.int .i64 rd) := (blk_cell BK1.out 1).trans rfl; have hc1_2 : w3.cell? ⟨g1, 2, none⟩ = some (.int .i64 rs1) := (blk_cell BK1.out 2).trans rfl; have hc1_3 : w3.cell? ⟨g1, 3, none⟩ = some (.int .i64 rs2) := (blk_cell BK1.out 3).trans rfl; have hc1_4 : w3.cell? ⟨g1, 4, none⟩ = some (.int .i64 imm) := (blk_cell BK1.out 4).trans rfl; have hf1_0 := blk_frozen BK1.out 0; have hf1_1 := blk_frozen BK1.out 1; have hf1_2 := blk_frozen BK1.out 2; have hf1_3 := blk_frozen BK1.out 3; have hf1_4 := blk_frozen BK1.out 4; have hc4_0 : w3.cell? ⟨g4, 0, none⟩ = some (.int .u8 sf) := (blk_cell BK4.out 0).trans rfl; have hc4_1 : w3.cell? ⟨g4, 1, none⟩ = some (.int .u32 so) := (blk_cell BK4.out 1).trans rfl; have hc4_2 : w3.cell? ⟨g4, 2, none⟩ = some (.int .u32 s3) := (blk_cell BK4.out 2).trans rfl; have hc4_3 : w3.cell? ⟨g4, 3, none⟩ = some (.int .u32 s7) := (blk_cell BK4.out 3).trans rfl; have hf4_0 := blk_frozen BK4.out 0; have hf4_1 := blk_frozen BK4.out 1; have hf4_2 := blk_frozen BK4.out 2; have hf4_3 := blk_frozen BK4.out 3; have hnb8_1 := NB8_1.out; have hnb8_4 := NB8_4.out; have hnb1_8 := NB1_8.out; have hnb4_8 := NB4_8.out) | (go_at_call 16; refine (cf_uses_calls' sf HF.out u0 u1 u2 HU.out _).mono ?_; rintro e w4 ⟨rfl, hb⟩; have n0_ := Aside0.mk (blk_below (g := g1) (o := .cells #[.int .i64 op, .int .i64 rd, .int .i64 rs1, .int .i64 rs2, .int .i64 imm] 29 (0, 0)) (by (with_reducible repeat (first | refine blk_drewN ?_ _ | refine blk_drew ?_ | refine blk_alloc ?_ _)); refine blk_far ?_ NB1_8.out _; (with_reducible repeat (first | refine blk_drewN ?_ _ | refine blk_drew ?_ | refine blk_alloc ?_ _)); refine blk_far ?_ NB1_8.out _; (with_reducible repeat (first | refine blk_drewN ?_ _ | refine blk_drew ?_ | refine blk_alloc ?_ _)); refine blk_far ?_ NB1_8.out _; (with_reducible repeat (first | refine blk_drewN ?_ _ | refine blk_drew ?_ | refine blk_alloc ?_ _)); exact BK1.out) hb); have n1_ := Aside0.mk (blk_below (g := g4) (o := .cells #[.int .u8 sf, .int .u32 so, .int .u32 s3, .int .u32 s7] 48 (0, 0)) (by (with_reducible repeat (first | refine blk_drewN ?_ _ | refine blk_drew ?_ | refine blk_alloc ?_ _)); refine blk_far ?_ NB4_8.out _; (with_reducible repeat (first | refine blk_drewN ?_ _ | refine blk_drew ?_ | refine blk_alloc ?_ _)); refine blk_far ?_ NB4_8.out _; (with_reducible repeat (first | refine blk_drewN ?_ _ | refine blk_drew ?_ | refine blk_alloc ?_ _)); refine blk_far ?_ NB4_8.out _; (with_reducible repeat (first | refine blk_drewN ?_ _ | refine blk_drew ?_ | refine blk_alloc ?_ _)); exact BK4.out) hb); have n2_ := Aside0.mk (blk_below (g := g8) (o := .cells #[.int .i64 rd, .int .i64 rs1, .int .i64 rs2] 53 (0, 0)) (by (with_reducible repeat (first | refine blk_drewN ?_ _ | refine blk_drew ?_ | refine blk_alloc ?_ _)); refine blk_put (cs := #[.int .i64 rd, .int .i64 rs1, .int .i64 0]) ?_ 2 _ rfl; (with_reducible repeat (first | refine blk_drewN ?_ _ | refine blk_drew ?_ | refine blk_alloc ?_ _)); refine blk_put (cs := #[.int .i64 rd, .int .i64 0, .int .i64 0]) ?_ 1 _ rfl; (with_reducible repeat (first | refine blk_drewN ?_ _ | refine blk_drew ?_ | refine blk_alloc ?_ _)); refine blk_put (cs := #[.int .i64 0, .int .i64 0, .int .i64 0]) ?_ 0 _ rfl; (with_reducible repeat (first | refine blk_drewN ?_ _ | refine blk_drew ?_ | refine blk_alloc ?_ _)); exact BK8.out) hb); have n3_ := Aside0.mk (below_step (by repeat (first | (with_reducible first | exact HB.out | apply below_alloc | apply pw_below_drewN | apply below_drew1 | refine below_set ?_ GE8.out) | exact HB.out)) hb); clear BK1; clear BK4; clear BK8; clear HB; have BK1 := n0_; have BK4 := n1_; have BK8 := n2_; have HB := n3_; clear n0_ n1_ n2_ n3_; clear hb; have hc1_0 : w4.cell? ⟨g1, 0, none⟩ = some (.int .i64 op) := (blk_cell BK1.out 0).trans rfl; have hc1_1 : w4.cell? ⟨g1, 1, none⟩ = some (.int .i64 rd) := (blk_cell BK1.out 1).trans rfl; have hc1_2 : w4.cell? ⟨g1, 2, none⟩ = some (.int .i64 rs1) := (blk_cell BK1.out 2).trans rfl; have hc1_3 : w4.cell? ⟨g1, 3, none⟩ = some (.int .i64 rs2) := (blk_cell BK1.out 3).trans rfl; have hc1_4 : w4.cell? ⟨g1, 4, none⟩ = some (.int .i64 imm) := (blk_cell BK1.out 4).trans rfl; have hf1_0 := blk_frozen BK1.out 0; have hf1_1 := blk_frozen BK1.out 1; have hf1_2 := blk_frozen BK1.out 2; have hf1_3 := blk_frozen BK1.out 3; have hf1_4 := blk_frozen BK1.out 4; have hc4_0 : w4.cell? ⟨g4, 0, none⟩ = some (.int .u8 sf) := (blk_cell BK4.out 0).trans rfl; have hc4_1 : w4.cell? ⟨g4, 1, none⟩ = some (.int .u32 so) := (blk_cell BK4.out 1).trans rfl; have hc4_2 : w4.cell? ⟨g4, 2, none⟩ = some (.int .u32 s3) := (blk_cell BK4.out 2).trans rfl; have hc4_3 : w4.cell? ⟨g4, 3, none⟩ = some (.int .u32 s7) := (blk_cell BK4.out 3).trans rfl; have hf4_0 := blk_frozen BK4.out 0; have hf4_1 := blk_frozen BK4.out 1; have hf4_2 := blk_frozen BK4.out 2; have hf4_3 := blk_frozen BK4.out 3; have hc8_0 : w4.cell? ⟨g8, 0, none⟩ = some (.int .i64 rd) := (blk_cell BK8.out 0).trans rfl; have hc8_1 : w4.cell? ⟨g8, 1, none⟩ = some (.int .i64 rs1) := (blk_cell BK8.out 1).trans rfl; have hc8_2 : w4.cell? ⟨g8, 2, none⟩ = some (.int .i64 rs2) := (blk_cell BK8.out 2).trans rfl; have hf8_0 := blk_frozen BK8.out 0; have hf8_1 := blk_frozen BK8.out 1; have hf8_2 := blk_frozen BK8.out 2))
    go_loopg [5, 40] 3 (fun gg v5 v40 w' => ∃ k : Nat, k ≤ 3 ∧ 3 - k ≤ gg ∧ v40 = .int .i64 k ∧ v5 = .bool (en_ok sb u0 u1 u2 rd rs1 rs2 k) ∧ Aside0 (w' = w4))
    case atStart => exact ⟨0, by omega, by omega, rfl, rfl, ⟨rfl⟩⟩
    case round =>
      obtain ⟨k, hk, hg, rfl, rfl, HW⟩ := hrel
      obtain rfl := HW.out
      clear HW
      by_cases hlt : k < 3
      · have hltz : (k : Int) < 3 := by omega
        obtain ⟨b, hb⟩ : ∃ b, en_ok sb u0 u1 u2 rd rs1 rs2 k = b := ⟨_, rfl⟩
        have HE := Aside0.mk hb
        obtain ⟨u, hu⟩ : ∃ u, en_u u0 u1 u2 k = u := ⟨_, rfl⟩
        have HEU := Aside0.mk hu
        obtain ⟨r, hr⟩ : ∃ r, en_r rd rs1 rs2 k = r := ⟨_, rfl⟩
        have HER := Aside0.mk hr
        have e0 := enc_i54 u0 u1 u2 k hlt
        have e1 := enc_a53 g8 k hlt
        have e2 := enc_c53 BK8.out k hlt
        have e3 := blk_frozen BK8.out k
        rw [hu] at e0
        rw [hr] at e2
        rw [hb]
        clear hb hu hr
        --D
        cases b
        · go_wp2
          go_roundg (3 - (k + 1))
          case measure => omega
          case rel => exact ⟨k + 1, by omega, by omega, rfl, by rw [en_ok_step _ _ _ _ _ _ _ _ hlt, HE.out]; rfl, ⟨rfl⟩⟩
        · cases u
          · go_wp2
            go_roundg (3 - (k + 1))
            case measure => omega
            case rel => exact ⟨k + 1, by omega, by omega, rfl, by rw [en_ok_step _ _ _ _ _ _ _ _ hlt, HE.out, HEU.out, HER.out]; simp, ⟨rfl⟩⟩
          · go_wp2
            go_roundg (3 - (k + 1))
            case measure => omega
            case rel => exact ⟨k + 1, by omega, by omega, rfl, by rw [en_ok_step _ _ _ _ _ _ _ _ hlt, HE.out, HEU.out]; simp, ⟨rfl⟩⟩
        --E
      · have : k = 3 := by omega
        subst this
        obtain ⟨b, hb⟩ : ∃ b, en_ok sb u0 u1 u2 rd rs1 rs2 3 = b := ⟨_, rfl⟩
        have HE := Aside0.mk hb
        rw [hb]
        clear hb
        cases b
        · go_wp2
          go_ret2
          exact ⟨by simp only [encF, HE.out]; rfl, HB.out⟩
        · go_upto_region 9 with (fail)
          go_cut [66] (fun v66 wc => ∃ c : Bool, v66 = .bool c ∧ Aside0 (wc = wr) ∧ Aside0 (c = decide (lo > hi ∧ imm ≠ 0)))
          case first =>
            --D
            by_cases hlh : lo > hi
            · have HD := Aside0.mk (en_neq lo hi imm hlh)
              go_wp2
              go_meet
              case rel => exact ⟨_, rfl, ⟨rfl⟩, ⟨HD.out⟩⟩
            · have HD := Aside0.mk (decide_eq_false (fun h => hlh h.1) : decide (lo > hi ∧ imm ≠ 0) = false)
              go_wp2
              go_meet
              case rel => exact ⟨_, rfl, ⟨rfl⟩, ⟨HD.out.symm⟩⟩
            --E
          case rest =>
            obtain ⟨c, rfl, HW, HLH⟩ := hcut
            obtain rfl := HW.out
            clear HW
            cases c
            · go_wp2
              go_loopg [11, 81] 3 (fun gg v11 v81 w' => ∃ k : Nat, k ≤ 3 ∧ 3 - k ≤ gg ∧ v81 = .int .i64 k ∧ v11 = .int .u32 (en_w so s3 s7 rd rs1 rs2 k) ∧ Aside0 (w' = wc) ∧ Aside0 (∀ j, j < k → 0 ≤ en_r rd rs1 rs2 j ∧ en_r rd rs1 rs2 j ≤ 31))
              case atStart => exact ⟨0, by omega, by omega, rfl, rfl, ⟨rfl⟩, ⟨fun j h => by omega⟩⟩
              case round =>
                obtain ⟨k, hk, hg, rfl, rfl, HW, HRG⟩ := hrel
                obtain rfl := HW.out
                clear HW
                by_cases hlt : k < 3
                · have hltz : (k : Int) < 3 := by omega
                  obtain ⟨x, hx⟩ : ∃ x, en_w so s3 s7 rd rs1 rs2 k = x := ⟨_, rfl⟩
                  have HEX := Aside0.mk hx
                  obtain ⟨r, hr⟩ : ∃ r, en_r rd rs1 rs2 k = r := ⟨_, rfl⟩
                  have HER := Aside0.mk hr
                  have e0 := enc_i53 rd rs1 rs2 k hlt
                  rw [hr] at e0
                  rw [hx]
                  clear hx hr
                  --D
                  by_cases hr1 : r < 0
                  · go_wp2
                    go_ret2
                    exact ⟨(en_out _ _ _ _ _ _ _ _ _ _ _ HE.out (of_decide_eq_false HLH.out.symm) k hlt (by rw [HER.out]; omega)).symm ▸ rfl, HB.out⟩
                  · by_cases hr2 : r > 31
                    · go_wp2
                      go_ret2
                      exact ⟨(en_out _ _ _ _ _ _ _ _ _ _ _ HE.out (of_decide_eq_false HLH.out.symm) k hlt (by rw [HER.out]; omega)).symm ▸ rfl, HB.out⟩
                    · have hr3 : 0 ≤ r := by omega
                      have hr4 : r ≤ 31 := by omega
                      have hr5 : r % 4294967296 = r := by omega
                      clear e0
                      have hk3 : k = 0 ∨ k = 1 ∨ k = 2 := by omega
                      rcases hk3 with rfl | rfl | rfl
                      · have e0 : ∀ w, _ := fun w => (enc_i53_0 (.int .i64 rd) (.int .i64 rs1) (.int .i64 rs2) w).trans (congrArg (fun v => Result.ok v w) (congrArg (Value.int .i64) HER.out : _ = Value.int .i64 r))
                        have e1 := enc_i56_0
                        go_wp2
                        go_roundg 2
                        case measure => omega
                        case rel => exact ⟨1, by omega, by omega, rfl, by show _ = Value.int .u32 (en_w so s3 s7 rd rs1 rs2 (0 + 1)); rw [en_w, HEX.out, HER.out]; rfl, ⟨rfl⟩, ⟨en_in_step HRG.out (by rw [HER.out]; exact ⟨hr3, hr4⟩)⟩⟩
                      · have e0 : ∀ w, _ := fun w => (enc_i53_1 (.int .i64 rd) (.int .i64 rs1) (.int .i64 rs2) w).trans (congrArg (fun v => Result.ok v w) (congrArg (Value.int .i64) HER.out : _ = Value.int .i64 r))
                        have e1 := enc_i56_1
                        go_wp2
                        go_roundg 1
                        case measure => omega
                        case rel => exact ⟨2, by omega, by omega, rfl, by show _ = Value.int .u32 (en_w so s3 s7 rd rs1 rs2 (1 + 1)); rw [en_w, HEX.out, HER.out]; rfl, ⟨rfl⟩, ⟨en_in_step HRG.out (by rw [HER.out]; exact ⟨hr3, hr4⟩)⟩⟩
                      · have e0 : ∀ w, _ := fun w => (enc_i53_2 (.int .i64 rd) (.int .i64 rs1) (.int .i64 rs2) w).trans (congrArg (fun v => Result.ok v w) (congrArg (Value.int .i64) HER.out : _ = Value.int .i64 r))
                        have e1 := enc_i56_2
                        go_wp2
                        go_roundg 0
                        case measure => omega
                        case rel => exact ⟨3, by omega, by omega, rfl, by show _ = Value.int .u32 (en_w so s3 s7 rd rs1 rs2 (2 + 1)); rw [en_w, HEX.out, HER.out]; rfl, ⟨rfl⟩, ⟨en_in_step HRG.out (by rw [HER.out]; exact ⟨hr3, hr4⟩)⟩⟩
                  --E
                · have : k = 3 := by omega
                  subst this
                  obtain ⟨x, hx⟩ : ∃ x, en_w so s3 s7 rd rs1 rs2 3 = x := ⟨_, rfl⟩
                  have HEX := Aside0.mk hx
                  rw [hx]
                  clear hx
                  go_upto_region 19 with (fail)
                  go_cut [14] (fun v14 wd => v14 = .bool (en_odd sf imm) ∧ Aside0 (wd = wr))
                  case first =>
                    --D
                    by_cases h66 : sf = 66
                    · have HD := Aside0.mk h66
                      go_wp2
                      go_meet
                      case rel => exact ⟨by rw [en_odd, HD.out]; rfl, ⟨rfl⟩⟩
                    · by_cases h74 : sf = 74
                      · have HD := Aside0.mk h74
                        go_wp2
                        go_meet
                        case rel => exact ⟨by rw [en_odd, HD.out]; rfl, ⟨rfl⟩⟩
                      · have HD := Aside0.mk (And.intro h66 h74)
                        go_wp2
                        go_meet
                        case rel => exact ⟨by simp [en_odd, HD.out.1, HD.out.2], ⟨rfl⟩⟩
                    --E
                  case rest =>
                    obtain ⟨rfl, HW⟩ := hcut
                    obtain rfl := HW.out
                    clear HW
                    obtain ⟨odd, hodd⟩ : ∃ b, en_odd sf imm = b := ⟨_, rfl⟩
                    have HODD := Aside0.mk hodd
                    rw [hodd]
                    clear hodd
                    go_upto_region 20 with (fail)
                    go_cut [131] (fun v131 we => v131 = .bool (en_far lo hi imm odd) ∧ Aside0 (we = wc))
                    case first =>
                      --D
                      by_cases hlh : lo ≤ hi
                      · by_cases him : imm < lo
                        · have HD := Aside0.mk (And.intro hlh him)
                          go_wp2
                          go_meet
                          case rel => exact ⟨by simp [en_far, HD.out.1, HD.out.2], ⟨rfl⟩⟩
                        · by_cases him2 : imm > hi
                          · have HD := Aside0.mk (And.intro hlh him2)
                            go_wp2
                            go_meet
                            case rel => exact ⟨by simp [en_far, HD.out.1, HD.out.2], ⟨rfl⟩⟩
                          · have HD := Aside0.mk (And.intro hlh (And.intro him him2))
                            go_wp2
                            go_meet
                            case rel => exact ⟨by rw [en_far_in HD.out.1 (by have := HD.out; omega) (by have := HD.out; omega)], ⟨rfl⟩⟩
                      · have HD := Aside0.mk hlh
                        go_wp2
                        go_meet
                        case rel => exact ⟨by rw [en_far_no (by have := HD.out; omega)], ⟨rfl⟩⟩
                      --E
                    case rest =>
                      obtain ⟨rfl, HW⟩ := hcut
                      obtain rfl := HW.out
                      clear HW
                      obtain ⟨far, hfar⟩ : ∃ b, en_far lo hi imm odd = b := ⟨_, rfl⟩
                      have HFAR := Aside0.mk hfar
                      rw [hfar]
                      clear hfar
                      cases far
                      · rcases HF.out with rfl | rfl | rfl | rfl | rfl | rfl | rfl | rfl | rfl
                        · go_wp2_with (first | (go_at_call 17; refine (cf_pcall_0 _).mono ?_; rintro e w5 ⟨rfl, hb⟩; have n0_ := Aside0.mk (blk_below (by (with_reducible repeat (first | refine blk_drewN ?_ _ | refine blk_drew ?_ | refine blk_alloc ?_ _)); exact BK1.out) hb); have n1_ := Aside0.mk (below_step (by repeat (first | (with_reducible first | exact HB.out | apply below_alloc | apply pw_below_drewN | apply below_drew1) | exact HB.out)) hb); clear BK1; clear HB; have BK1 := n0_; have HB := n1_; clear n0_ n1_; clear hb))
                          go_loopg [11, 136] 0 (fun gg v11 v136 w' => v136 = .int .i64 0 ∧ v11 = .int .u32 x ∧ Aside0 (w' = w5))
                          case atStart => exact ⟨rfl, rfl, ⟨rfl⟩⟩
                          case round =>
                            obtain ⟨rfl, rfl, HW⟩ := hrel
                            obtain rfl := HW.out
                            clear HW
                            go_wp2
                            go_ret2
                            exact ⟨(en_doneF _ _ _ _ _ _ _ _ _ _ _ HE.out (of_decide_eq_false HLH.out.symm) HRG.out (HODD.out ▸ HFAR.out) _ (congrArg (en_p imm (cf_pieces 0)) HEX.out.symm)) ▸ rfl, HB.out⟩
                        · go_wp2_with (first | (go_at_call 17; refine (cf_pcall_66 _).mono ?_; rintro e w5 ⟨g5, hg5, rfl, hk5, hb⟩; have n0_ := Aside0.mk (blk_below (by (with_reducible repeat (first | refine blk_drewN ?_ _ | refine blk_drew ?_ | refine blk_alloc ?_ _)); exact BK1.out) hb); have n1_ := Aside0.mk (below_step (by repeat (first | (with_reducible first | exact HB.out | apply below_alloc | apply pw_below_drewN | apply below_drew1) | exact HB.out)) hb); have n2_ := Aside0.mk hk5; have n3_ := Aside0.mk ((by rw [hg5]; exact Nat.ne_of_lt (blk_lt (by (with_reducible repeat (first | refine blk_drewN ?_ _ | refine blk_drew ?_ | refine blk_alloc ?_ _)); exact BK1.out))) : g1 ≠ g5); clear BK1; clear HB; have BK1 := n0_; have HB := n1_; have BK5 := n2_; have NB1_5 := n3_; clear n0_ n1_ n2_ n3_; clear hb hk5 hg5))
                          go_loopg [11, 136] 4 (fun gg v11 v136 w' => ∃ k : Nat, k ≤ 4 ∧ 4 - k ≤ gg ∧ v136 = .int .i64 k ∧ v11 = .int .u32 (en_p imm ([(11, 1, 7), (1, 4, 8), (5, 6, 25), (12, 1, 31)].take k) x) ∧ Aside0 (w'.heap[g1]? = some (.cells #[.int .i64 op, .int .i64 rd, .int .i64 rs1, .int .i64 rs2, .int .i64 imm] 29 (0, 0))) ∧ Aside0 (w'.heap[g5]? = some (.cells #[.int .u64 11, .int .u64 1, .int .u64 7, .int .u64 1, .int .u64 4, .int .u64 8, .int .u64 5, .int .u64 6, .int .u64 25, .int .u64 12, .int .u64 1, .int .u64 31] 60 (0, 0))) ∧ Aside0 (Below w.heap.size w w'))
                          case atStart => exact ⟨0, by omega, by omega, rfl, rfl, BK1, BK5, HB⟩
                          case round =>
                            clear BK1 BK5 HB
                            obtain ⟨k, hk, hg, rfl, rfl, BK1, BK5, HB⟩ := hrel
                            have hk3 : k = 0 ∨ k = 1 ∨ k = 2 ∨ k = 3 ∨ k = 4 := by omega
                            rcases hk3 with rfl | rfl | rfl | rfl | rfl
                            · obtain ⟨y, hy⟩ : ∃ y, en_p imm ([(11, 1, 7), (1, 4, 8), (5, 6, 25), (12, 1, 31)].take 0) x = y := ⟨_, rfl⟩
                              have HY := Aside0.mk hy
                              rw [hy]
                              clear hy
                              have hc1 : wr.cell? ⟨g1, 4, none⟩ = some (.int .i64 imm) := (blk_cell BK1.out 4).trans rfl
                              have hf1 := blk_frozen BK1.out 4
                              have hc1a : ∀ o, (wr.alloc o).cell? ⟨g1, 4, none⟩ = some (.int .i64 imm) := fun o => (blk_cell (blk_al BK1.out o) 4).trans rfl
                              have hf1a : ∀ o, (wr.alloc o).frozen? ⟨g1, 4, none⟩ = false := fun o => blk_frozen (blk_al BK1.out o) 4
                              have hc5_0 : wr.cell? ⟨g5, 0, none⟩ = some (.int .u64 11) := (blk_cell BK5.out 0).trans rfl
                              have hf5_0 := blk_frozen BK5.out 0
                              have hc5_1 : wr.cell? ⟨g5, 1, none⟩ = some (.int .u64 1) := (blk_cell BK5.out 1).trans rfl
                              have hf5_1 := blk_frozen BK5.out 1
                              have hc5_2 : wr.cell? ⟨g5, 2, none⟩ = some (.int .u64 7) := (blk_cell BK5.out 2).trans rfl
                              have hf5_2 := blk_frozen BK5.out 2
                              go_wp2
                              go_roundg 3
                              case measure => omega
                              case rel => exact ⟨1, by omega, by omega, rfl, by rw [← HY.out]; simp [en_p], ⟨blk_al BK1.out _⟩, ⟨blk_al BK5.out _⟩, ⟨HB.out.alloc HB.out.size _⟩⟩
                            · obtain ⟨y, hy⟩ : ∃ y, en_p imm ([(11, 1, 7), (1, 4, 8), (5, 6, 25), (12, 1, 31)].take 1) x = y := ⟨_, rfl⟩
                              have HY := Aside0.mk hy
                              rw [hy]
                              clear hy
                              have hc1 : wr.cell? ⟨g1, 4, none⟩ = some (.int .i64 imm) := (blk_cell BK1.out 4).trans rfl
                              have hf1 := blk_frozen BK1.out 4
                              have hc1a : ∀ o, (wr.alloc o).cell? ⟨g1, 4, none⟩ = some (.int .i64 imm) := fun o => (blk_cell (blk_al BK1.out o) 4).trans rfl
                              have hf1a : ∀ o, (wr.alloc o).frozen? ⟨g1, 4, none⟩ = false := fun o => blk_frozen (blk_al BK1.out o) 4
                              have hc5_0 : wr.cell? ⟨g5, 3, none⟩ = some (.int .u64 1) := (blk_cell BK5.out 3).trans rfl
                              have hf5_0 := blk_frozen BK5.out 3
                              have hc5_1 : wr.cell? ⟨g5, 4, none⟩ = some (.int .u64 4) := (blk_cell BK5.out 4).trans rfl
                              have hf5_1 := blk_frozen BK5.out 4
                              have hc5_2 : wr.cell? ⟨g5, 5, none⟩ = some (.int .u64 8) := (blk_cell BK5.out 5).trans rfl
                              have hf5_2 := blk_frozen BK5.out 5
                              go_wp2
                              go_roundg 2
                              case measure => omega
                              case rel => exact ⟨2, by omega, by omega, rfl, by rw [← HY.out]; simp [en_p], ⟨blk_al BK1.out _⟩, ⟨blk_al BK5.out _⟩, ⟨HB.out.alloc HB.out.size _⟩⟩
                            · obtain ⟨y, hy⟩ : ∃ y, en_p imm ([(11, 1, 7), (1, 4, 8), (5, 6, 25), (12, 1, 31)].take 2) x = y := ⟨_, rfl⟩
                              have HY := Aside0.mk hy
                              rw [hy]
                              clear hy
                              have hc1 : wr.cell? ⟨g1, 4, none⟩ = some (.int .i64 imm) := (blk_cell BK1.out 4).trans rfl
                              have hf1 := blk_frozen BK1.out 4
                              have hc1a : ∀ o, (wr.alloc o).cell? ⟨g1, 4, none⟩ = some (.int .i64 imm) := fun o => (blk_cell (blk_al BK1.out o) 4).trans rfl
                              have hf1a : ∀ o, (wr.alloc o).frozen? ⟨g1, 4, none⟩ = false := fun o => blk_frozen (blk_al BK1.out o) 4
                              have hc5_0 : wr.cell? ⟨g5, 6, none⟩ = some (.int .u64 5) := (blk_cell BK5.out 6).trans rfl
                              have hf5_0 := blk_frozen BK5.out 6
                              have hc5_1 : wr.cell? ⟨g5, 7, none⟩ = some (.int .u64 6) := (blk_cell BK5.out 7).trans rfl
                              have hf5_1 := blk_frozen BK5.out 7
                              have hc5_2 : wr.cell? ⟨g5, 8, none⟩ = some (.int .u64 25) := (blk_cell BK5.out 8).trans rfl
                              have hf5_2 := blk_frozen BK5.out 8
                              go_wp2
                              go_roundg 1
                              case measure => omega
                              case rel => exact ⟨3, by omega, by omega, rfl, by rw [← HY.out]; simp [en_p], ⟨blk_al BK1.out _⟩, ⟨blk_al BK5.out _⟩, ⟨HB.out.alloc HB.out.size _⟩⟩
                            · obtain ⟨y, hy⟩ : ∃ y, en_p imm ([(11, 1, 7), (1, 4, 8), (5, 6, 25), (12, 1, 31)].take 3) x = y := ⟨_, rfl⟩
                              have HY := Aside0.mk hy
                              rw [hy]
                              clear hy
                              have hc1 : wr.cell? ⟨g1, 4, none⟩ = some (.int .i64 imm) := (blk_cell BK1.out 4).trans rfl
                              have hf1 := blk_frozen BK1.out 4
                              have hc1a : ∀ o, (wr.alloc o).cell? ⟨g1, 4, none⟩ = some (.int .i64 imm) := fun o => (blk_cell (blk_al BK1.out o) 4).trans rfl
                              have hf1a : ∀ o, (wr.alloc o).frozen? ⟨g1, 4, none⟩ = false := fun o => blk_frozen (blk_al BK1.out o) 4
                              have hc5_0 : wr.cell? ⟨g5, 9, none⟩ = some (.int .u64 12) := (blk_cell BK5.out 9).trans rfl
                              have hf5_0 := blk_frozen BK5.out 9
                              have hc5_1 : wr.cell? ⟨g5, 10, none⟩ = some (.int .u64 1) := (blk_cell BK5.out 10).trans rfl
                              have hf5_1 := blk_frozen BK5.out 10
                              have hc5_2 : wr.cell? ⟨g5, 11, none⟩ = some (.int .u64 31) := (blk_cell BK5.out 11).trans rfl
                              have hf5_2 := blk_frozen BK5.out 11
                              go_wp2
                              go_roundg 0
                              case measure => omega
                              case rel => exact ⟨4, by omega, by omega, rfl, by rw [← HY.out]; simp [en_p], ⟨blk_al BK1.out _⟩, ⟨blk_al BK5.out _⟩, ⟨HB.out.alloc HB.out.size _⟩⟩
                            · obtain ⟨y, hy⟩ : ∃ y, en_p imm ([(11, 1, 7), (1, 4, 8), (5, 6, 25), (12, 1, 31)].take 4) x = y := ⟨_, rfl⟩
                              have HY := Aside0.mk hy
                              rw [hy]
                              clear hy
                              go_wp2
                              go_ret2
                              exact ⟨(en_doneF _ _ _ _ _ _ _ _ _ _ _ HE.out (of_decide_eq_false HLH.out.symm) HRG.out (HODD.out ▸ HFAR.out) _ (HY.out.symm.trans (congrArg (en_p imm (cf_pieces 66)) HEX.out.symm))) ▸ rfl, HB.out⟩
                        · go_wp2_with (first | (go_at_call 17; refine (cf_pcall_73 _).mono ?_; rintro e w5 ⟨g5, hg5, rfl, hk5, hb⟩; have n0_ := Aside0.mk (blk_below (by (with_reducible repeat (first | refine blk_drewN ?_ _ | refine blk_drew ?_ | refine blk_alloc ?_ _)); exact BK1.out) hb); have n1_ := Aside0.mk (below_step (by repeat (first | (with_reducible first | exact HB.out | apply below_alloc | apply pw_below_drewN | apply below_drew1) | exact HB.out)) hb); have n2_ := Aside0.mk hk5; have n3_ := Aside0.mk ((by rw [hg5]; exact Nat.ne_of_lt (blk_lt (by (with_reducible repeat (first | refine blk_drewN ?_ _ | refine blk_drew ?_ | refine blk_alloc ?_ _)); exact BK1.out))) : g1 ≠ g5); clear BK1; clear HB; have BK1 := n0_; have HB := n1_; have BK5 := n2_; have NB1_5 := n3_; clear n0_ n1_ n2_ n3_; clear hb hk5 hg5))
                          go_loopg [11, 136] 1 (fun gg v11 v136 w' => ∃ k : Nat, k ≤ 1 ∧ 1 - k ≤ gg ∧ v136 = .int .i64 k ∧ v11 = .int .u32 (en_p imm ([(0, 12, 20)].take k) x) ∧ Aside0 (w'.heap[g1]? = some (.cells #[.int .i64 op, .int .i64 rd, .int .i64 rs1, .int .i64 rs2, .int .i64 imm] 29 (0, 0))) ∧ Aside0 (w'.heap[g5]? = some (.cells #[.int .u64 0, .int .u64 12, .int .u64 20] 60 (0, 0))) ∧ Aside0 (Below w.heap.size w w'))
                          case atStart => exact ⟨0, by omega, by omega, rfl, rfl, BK1, BK5, HB⟩
                          case round =>
                            clear BK1 BK5 HB
                            obtain ⟨k, hk, hg, rfl, rfl, BK1, BK5, HB⟩ := hrel
                            have hk3 : k = 0 ∨ k = 1 := by omega
                            rcases hk3 with rfl | rfl
                            · obtain ⟨y, hy⟩ : ∃ y, en_p imm ([(0, 12, 20)].take 0) x = y := ⟨_, rfl⟩
                              have HY := Aside0.mk hy
                              rw [hy]
                              clear hy
                              have hc1 : wr.cell? ⟨g1, 4, none⟩ = some (.int .i64 imm) := (blk_cell BK1.out 4).trans rfl
                              have hf1 := blk_frozen BK1.out 4
                              have hc1a : ∀ o, (wr.alloc o).cell? ⟨g1, 4, none⟩ = some (.int .i64 imm) := fun o => (blk_cell (blk_al BK1.out o) 4).trans rfl
                              have hf1a : ∀ o, (wr.alloc o).frozen? ⟨g1, 4, none⟩ = false := fun o => blk_frozen (blk_al BK1.out o) 4
                              have hc5_0 : wr.cell? ⟨g5, 0, none⟩ = some (.int .u64 0) := (blk_cell BK5.out 0).trans rfl
                              have hf5_0 := blk_frozen BK5.out 0
                              have hc5_1 : wr.cell? ⟨g5, 1, none⟩ = some (.int .u64 12) := (blk_cell BK5.out 1).trans rfl
                              have hf5_1 := blk_frozen BK5.out 1
                              have hc5_2 : wr.cell? ⟨g5, 2, none⟩ = some (.int .u64 20) := (blk_cell BK5.out 2).trans rfl
                              have hf5_2 := blk_frozen BK5.out 2
                              go_wp2
                              go_roundg 0
                              case measure => omega
                              case rel => exact ⟨1, by omega, by omega, rfl, by rw [← HY.out]; simp [en_p], ⟨blk_al BK1.out _⟩, ⟨blk_al BK5.out _⟩, ⟨HB.out.alloc HB.out.size _⟩⟩
                            · obtain ⟨y, hy⟩ : ∃ y, en_p imm ([(0, 12, 20)].take 1) x = y := ⟨_, rfl⟩
                              have HY := Aside0.mk hy
                              rw [hy]
                              clear hy
                              go_wp2
                              go_ret2
                              exact ⟨(en_doneF _ _ _ _ _ _ _ _ _ _ _ HE.out (of_decide_eq_false HLH.out.symm) HRG.out (HODD.out ▸ HFAR.out) _ (HY.out.symm.trans (congrArg (en_p imm (cf_pieces 73)) HEX.out.symm))) ▸ rfl, HB.out⟩
                        · go_wp2_with (first | (go_at_call 17; refine (cf_pcall_74 _).mono ?_; rintro e w5 ⟨g5, hg5, rfl, hk5, hb⟩; have n0_ := Aside0.mk (blk_below (by (with_reducible repeat (first | refine blk_drewN ?_ _ | refine blk_drew ?_ | refine blk_alloc ?_ _)); exact BK1.out) hb); have n1_ := Aside0.mk (below_step (by repeat (first | (with_reducible first | exact HB.out | apply below_alloc | apply pw_below_drewN | apply below_drew1) | exact HB.out)) hb); have n2_ := Aside0.mk hk5; have n3_ := Aside0.mk ((by rw [hg5]; exact Nat.ne_of_lt (blk_lt (by (with_reducible repeat (first | refine blk_drewN ?_ _ | refine blk_drew ?_ | refine blk_alloc ?_ _)); exact BK1.out))) : g1 ≠ g5); clear BK1; clear HB; have BK1 := n0_; have HB := n1_; have BK5 := n2_; have NB1_5 := n3_; clear n0_ n1_ n2_ n3_; clear hb hk5 hg5))
                          go_loopg [11, 136] 4 (fun gg v11 v136 w' => ∃ k : Nat, k ≤ 4 ∧ 4 - k ≤ gg ∧ v136 = .int .i64 k ∧ v11 = .int .u32 (en_p imm ([(12, 8, 12), (11, 1, 20), (1, 10, 21), (20, 1, 31)].take k) x) ∧ Aside0 (w'.heap[g1]? = some (.cells #[.int .i64 op, .int .i64 rd, .int .i64 rs1, .int .i64 rs2, .int .i64 imm] 29 (0, 0))) ∧ Aside0 (w'.heap[g5]? = some (.cells #[.int .u64 12, .int .u64 8, .int .u64 12, .int .u64 11, .int .u64 1, .int .u64 20, .int .u64 1, .int .u64 10, .int .u64 21, .int .u64 20, .int .u64 1, .int .u64 31] 60 (0, 0))) ∧ Aside0 (Below w.heap.size w w'))
                          case atStart => exact ⟨0, by omega, by omega, rfl, rfl, BK1, BK5, HB⟩
                          case round =>
                            clear BK1 BK5 HB
                            obtain ⟨k, hk, hg, rfl, rfl, BK1, BK5, HB⟩ := hrel
                            have hk3 : k = 0 ∨ k = 1 ∨ k = 2 ∨ k = 3 ∨ k = 4 := by omega
                            rcases hk3 with rfl | rfl | rfl | rfl | rfl
                            · obtain ⟨y, hy⟩ : ∃ y, en_p imm ([(12, 8, 12), (11, 1, 20), (1, 10, 21), (20, 1, 31)].take 0) x = y := ⟨_, rfl⟩
                              have HY := Aside0.mk hy
                              rw [hy]
                              clear hy
                              have hc1 : wr.cell? ⟨g1, 4, none⟩ = some (.int .i64 imm) := (blk_cell BK1.out 4).trans rfl
                              have hf1 := blk_frozen BK1.out 4
                              have hc1a : ∀ o, (wr.alloc o).cell? ⟨g1, 4, none⟩ = some (.int .i64 imm) := fun o => (blk_cell (blk_al BK1.out o) 4).trans rfl
                              have hf1a : ∀ o, (wr.alloc o).frozen? ⟨g1, 4, none⟩ = false := fun o => blk_frozen (blk_al BK1.out o) 4
                              have hc5_0 : wr.cell? ⟨g5, 0, none⟩ = some (.int .u64 12) := (blk_cell BK5.out 0).trans rfl
                              have hf5_0 := blk_frozen BK5.out 0
                              have hc5_1 : wr.cell? ⟨g5, 1, none⟩ = some (.int .u64 8) := (blk_cell BK5.out 1).trans rfl
                              have hf5_1 := blk_frozen BK5.out 1
                              have hc5_2 : wr.cell? ⟨g5, 2, none⟩ = some (.int .u64 12) := (blk_cell BK5.out 2).trans rfl
                              have hf5_2 := blk_frozen BK5.out 2
                              go_wp2
                              go_roundg 3
                              case measure => omega
                              case rel => exact ⟨1, by omega, by omega, rfl, by rw [← HY.out]; simp [en_p], ⟨blk_al BK1.out _⟩, ⟨blk_al BK5.out _⟩, ⟨HB.out.alloc HB.out.size _⟩⟩
                            · obtain ⟨y, hy⟩ : ∃ y, en_p imm ([(12, 8, 12), (11, 1, 20), (1, 10, 21), (20, 1, 31)].take 1) x = y := ⟨_, rfl⟩
                              have HY := Aside0.mk hy
                              rw [hy]
                              clear hy
                              have hc1 : wr.cell? ⟨g1, 4, none⟩ = some (.int .i64 imm) := (blk_cell BK1.out 4).trans rfl
                              have hf1 := blk_frozen BK1.out 4
                              have hc1a : ∀ o, (wr.alloc o).cell? ⟨g1, 4, none⟩ = some (.int .i64 imm) := fun o => (blk_cell (blk_al BK1.out o) 4).trans rfl
                              have hf1a : ∀ o, (wr.alloc o).frozen? ⟨g1, 4, none⟩ = false := fun o => blk_frozen (blk_al BK1.out o) 4
                              have hc5_0 : wr.cell? ⟨g5, 3, none⟩ = some (.int .u64 11) := (blk_cell BK5.out 3).trans rfl
                              have hf5_0 := blk_frozen BK5.out 3
                              have hc5_1 : wr.cell? ⟨g5, 4, none⟩ = some (.int .u64 1) := (blk_cell BK5.out 4).trans rfl
                              have hf5_1 := blk_frozen BK5.out 4
                              have hc5_2 : wr.cell? ⟨g5, 5, none⟩ = some (.int .u64 20) := (blk_cell BK5.out 5).trans rfl
                              have hf5_2 := blk_frozen BK5.out 5
                              go_wp2
                              go_roundg 2
                              case measure => omega
                              case rel => exact ⟨2, by omega, by omega, rfl, by rw [← HY.out]; simp [en_p], ⟨blk_al BK1.out _⟩, ⟨blk_al BK5.out _⟩, ⟨HB.out.alloc HB.out.size _⟩⟩
                            · obtain ⟨y, hy⟩ : ∃ y, en_p imm ([(12, 8, 12), (11, 1, 20), (1, 10, 21), (20, 1, 31)].take 2) x = y := ⟨_, rfl⟩
                              have HY := Aside0.mk hy
                              rw [hy]
                              clear hy
                              have hc1 : wr.cell? ⟨g1, 4, none⟩ = some (.int .i64 imm) := (blk_cell BK1.out 4).trans rfl
                              have hf1 := blk_frozen BK1.out 4
                              have hc1a : ∀ o, (wr.alloc o).cell? ⟨g1, 4, none⟩ = some (.int .i64 imm) := fun o => (blk_cell (blk_al BK1.out o) 4).trans rfl
                              have hf1a : ∀ o, (wr.alloc o).frozen? ⟨g1, 4, none⟩ = false := fun o => blk_frozen (blk_al BK1.out o) 4
                              have hc5_0 : wr.cell? ⟨g5, 6, none⟩ = some (.int .u64 1) := (blk_cell BK5.out 6).trans rfl
                              have hf5_0 := blk_frozen BK5.out 6
                              have hc5_1 : wr.cell? ⟨g5, 7, none⟩ = some (.int .u64 10) := (blk_cell BK5.out 7).trans rfl
                              have hf5_1 := blk_frozen BK5.out 7
                              have hc5_2 : wr.cell? ⟨g5, 8, none⟩ = some (.int .u64 21) := (blk_cell BK5.out 8).trans rfl
                              have hf5_2 := blk_frozen BK5.out 8
                              go_wp2
                              go_roundg 1
                              case measure => omega
                              case rel => exact ⟨3, by omega, by omega, rfl, by rw [← HY.out]; simp [en_p], ⟨blk_al BK1.out _⟩, ⟨blk_al BK5.out _⟩, ⟨HB.out.alloc HB.out.size _⟩⟩
                            · obtain ⟨y, hy⟩ : ∃ y, en_p imm ([(12, 8, 12), (11, 1, 20), (1, 10, 21), (20, 1, 31)].take 3) x = y := ⟨_, rfl⟩
                              have HY := Aside0.mk hy
                              rw [hy]
                              clear hy
                              have hc1 : wr.cell? ⟨g1, 4, none⟩ = some (.int .i64 imm) := (blk_cell BK1.out 4).trans rfl
                              have hf1 := blk_frozen BK1.out 4
                              have hc1a : ∀ o, (wr.alloc o).cell? ⟨g1, 4, none⟩ = some (.int .i64 imm) := fun o => (blk_cell (blk_al BK1.out o) 4).trans rfl
                              have hf1a : ∀ o, (wr.alloc o).frozen? ⟨g1, 4, none⟩ = false := fun o => blk_frozen (blk_al BK1.out o) 4
                              have hc5_0 : wr.cell? ⟨g5, 9, none⟩ = some (.int .u64 20) := (blk_cell BK5.out 9).trans rfl
                              have hf5_0 := blk_frozen BK5.out 9
                              have hc5_1 : wr.cell? ⟨g5, 10, none⟩ = some (.int .u64 1) := (blk_cell BK5.out 10).trans rfl
                              have hf5_1 := blk_frozen BK5.out 10
                              have hc5_2 : wr.cell? ⟨g5, 11, none⟩ = some (.int .u64 31) := (blk_cell BK5.out 11).trans rfl
                              have hf5_2 := blk_frozen BK5.out 11
                              go_wp2
                              go_roundg 0
                              case measure => omega
                              case rel => exact ⟨4, by omega, by omega, rfl, by rw [← HY.out]; simp [en_p], ⟨blk_al BK1.out _⟩, ⟨blk_al BK5.out _⟩, ⟨HB.out.alloc HB.out.size _⟩⟩
                            · obtain ⟨y, hy⟩ : ∃ y, en_p imm ([(12, 8, 12), (11, 1, 20), (1, 10, 21), (20, 1, 31)].take 4) x = y := ⟨_, rfl⟩
                              have HY := Aside0.mk hy
                              rw [hy]
                              clear hy
                              go_wp2
                              go_ret2
                              exact ⟨(en_doneF _ _ _ _ _ _ _ _ _ _ _ HE.out (of_decide_eq_false HLH.out.symm) HRG.out (HODD.out ▸ HFAR.out) _ (HY.out.symm.trans (congrArg (en_p imm (cf_pieces 74)) HEX.out.symm))) ▸ rfl, HB.out⟩
                        · go_wp2_with (first | (go_at_call 17; refine (cf_pcall_78 _).mono ?_; rintro e w5 ⟨rfl, hb⟩; have n0_ := Aside0.mk (blk_below (by (with_reducible repeat (first | refine blk_drewN ?_ _ | refine blk_drew ?_ | refine blk_alloc ?_ _)); exact BK1.out) hb); have n1_ := Aside0.mk (below_step (by repeat (first | (with_reducible first | exact HB.out | apply below_alloc | apply pw_below_drewN | apply below_drew1) | exact HB.out)) hb); clear BK1; clear HB; have BK1 := n0_; have HB := n1_; clear n0_ n1_; clear hb))
                          go_loopg [11, 136] 0 (fun gg v11 v136 w' => v136 = .int .i64 0 ∧ v11 = .int .u32 x ∧ Aside0 (w' = w5))
                          case atStart => exact ⟨rfl, rfl, ⟨rfl⟩⟩
                          case round =>
                            obtain ⟨rfl, rfl, HW⟩ := hrel
                            obtain rfl := HW.out
                            clear HW
                            go_wp2
                            go_ret2
                            exact ⟨(en_doneF _ _ _ _ _ _ _ _ _ _ _ HE.out (of_decide_eq_false HLH.out.symm) HRG.out (HODD.out ▸ HFAR.out) _ (congrArg (en_p imm (cf_pieces 78)) HEX.out.symm)) ▸ rfl, HB.out⟩
                        · go_wp2_with (first | (go_at_call 17; refine (cf_pcall_82 _).mono ?_; rintro e w5 ⟨rfl, hb⟩; have n0_ := Aside0.mk (blk_below (by (with_reducible repeat (first | refine blk_drewN ?_ _ | refine blk_drew ?_ | refine blk_alloc ?_ _)); exact BK1.out) hb); have n1_ := Aside0.mk (below_step (by repeat (first | (with_reducible first | exact HB.out | apply below_alloc | apply pw_below_drewN | apply below_drew1) | exact HB.out)) hb); clear BK1; clear HB; have BK1 := n0_; have HB := n1_; clear n0_ n1_; clear hb))
                          go_loopg [11, 136] 0 (fun gg v11 v136 w' => v136 = .int .i64 0 ∧ v11 = .int .u32 x ∧ Aside0 (w' = w5))
                          case atStart => exact ⟨rfl, rfl, ⟨rfl⟩⟩
                          case round =>
                            obtain ⟨rfl, rfl, HW⟩ := hrel
                            obtain rfl := HW.out
                            clear HW
                            go_wp2
                            go_ret2
                            exact ⟨(en_doneF _ _ _ _ _ _ _ _ _ _ _ HE.out (of_decide_eq_false HLH.out.symm) HRG.out (HODD.out ▸ HFAR.out) _ (congrArg (en_p imm (cf_pieces 82)) HEX.out.symm)) ▸ rfl, HB.out⟩
                        · go_wp2_with (first | (go_at_call 17; refine (cf_pcall_83 _).mono ?_; rintro e w5 ⟨g5, hg5, rfl, hk5, hb⟩; have n0_ := Aside0.mk (blk_below (by (with_reducible repeat (first | refine blk_drewN ?_ _ | refine blk_drew ?_ | refine blk_alloc ?_ _)); exact BK1.out) hb); have n1_ := Aside0.mk (below_step (by repeat (first | (with_reducible first | exact HB.out | apply below_alloc | apply pw_below_drewN | apply below_drew1) | exact HB.out)) hb); have n2_ := Aside0.mk hk5; have n3_ := Aside0.mk ((by rw [hg5]; exact Nat.ne_of_lt (blk_lt (by (with_reducible repeat (first | refine blk_drewN ?_ _ | refine blk_drew ?_ | refine blk_alloc ?_ _)); exact BK1.out))) : g1 ≠ g5); clear BK1; clear HB; have BK1 := n0_; have HB := n1_; have BK5 := n2_; have NB1_5 := n3_; clear n0_ n1_ n2_ n3_; clear hb hk5 hg5))
                          go_loopg [11, 136] 2 (fun gg v11 v136 w' => ∃ k : Nat, k ≤ 2 ∧ 2 - k ≤ gg ∧ v136 = .int .i64 k ∧ v11 = .int .u32 (en_p imm ([(0, 5, 7), (5, 7, 25)].take k) x) ∧ Aside0 (w'.heap[g1]? = some (.cells #[.int .i64 op, .int .i64 rd, .int .i64 rs1, .int .i64 rs2, .int .i64 imm] 29 (0, 0))) ∧ Aside0 (w'.heap[g5]? = some (.cells #[.int .u64 0, .int .u64 5, .int .u64 7, .int .u64 5, .int .u64 7, .int .u64 25] 60 (0, 0))) ∧ Aside0 (Below w.heap.size w w'))
                          case atStart => exact ⟨0, by omega, by omega, rfl, rfl, BK1, BK5, HB⟩
                          case round =>
                            clear BK1 BK5 HB
                            obtain ⟨k, hk, hg, rfl, rfl, BK1, BK5, HB⟩ := hrel
                            have hk3 : k = 0 ∨ k = 1 ∨ k = 2 := by omega
                            rcases hk3 with rfl | rfl | rfl
                            · obtain ⟨y, hy⟩ : ∃ y, en_p imm ([(0, 5, 7), (5, 7, 25)].take 0) x = y := ⟨_, rfl⟩
                              have HY := Aside0.mk hy
                              rw [hy]
                              clear hy
                              have hc1 : wr.cell? ⟨g1, 4, none⟩ = some (.int .i64 imm) := (blk_cell BK1.out 4).trans rfl
                              have hf1 := blk_frozen BK1.out 4
                              have hc1a : ∀ o, (wr.alloc o).cell? ⟨g1, 4, none⟩ = some (.int .i64 imm) := fun o => (blk_cell (blk_al BK1.out o) 4).trans rfl
                              have hf1a : ∀ o, (wr.alloc o).frozen? ⟨g1, 4, none⟩ = false := fun o => blk_frozen (blk_al BK1.out o) 4
                              have hc5_0 : wr.cell? ⟨g5, 0, none⟩ = some (.int .u64 0) := (blk_cell BK5.out 0).trans rfl
                              have hf5_0 := blk_frozen BK5.out 0
                              have hc5_1 : wr.cell? ⟨g5, 1, none⟩ = some (.int .u64 5) := (blk_cell BK5.out 1).trans rfl
                              have hf5_1 := blk_frozen BK5.out 1
                              have hc5_2 : wr.cell? ⟨g5, 2, none⟩ = some (.int .u64 7) := (blk_cell BK5.out 2).trans rfl
                              have hf5_2 := blk_frozen BK5.out 2
                              go_wp2
                              go_roundg 1
                              case measure => omega
                              case rel => exact ⟨1, by omega, by omega, rfl, by rw [← HY.out]; simp [en_p], ⟨blk_al BK1.out _⟩, ⟨blk_al BK5.out _⟩, ⟨HB.out.alloc HB.out.size _⟩⟩
                            · obtain ⟨y, hy⟩ : ∃ y, en_p imm ([(0, 5, 7), (5, 7, 25)].take 1) x = y := ⟨_, rfl⟩
                              have HY := Aside0.mk hy
                              rw [hy]
                              clear hy
                              have hc1 : wr.cell? ⟨g1, 4, none⟩ = some (.int .i64 imm) := (blk_cell BK1.out 4).trans rfl
                              have hf1 := blk_frozen BK1.out 4
                              have hc1a : ∀ o, (wr.alloc o).cell? ⟨g1, 4, none⟩ = some (.int .i64 imm) := fun o => (blk_cell (blk_al BK1.out o) 4).trans rfl
                              have hf1a : ∀ o, (wr.alloc o).frozen? ⟨g1, 4, none⟩ = false := fun o => blk_frozen (blk_al BK1.out o) 4
                              have hc5_0 : wr.cell? ⟨g5, 3, none⟩ = some (.int .u64 5) := (blk_cell BK5.out 3).trans rfl
                              have hf5_0 := blk_frozen BK5.out 3
                              have hc5_1 : wr.cell? ⟨g5, 4, none⟩ = some (.int .u64 7) := (blk_cell BK5.out 4).trans rfl
                              have hf5_1 := blk_frozen BK5.out 4
                              have hc5_2 : wr.cell? ⟨g5, 5, none⟩ = some (.int .u64 25) := (blk_cell BK5.out 5).trans rfl
                              have hf5_2 := blk_frozen BK5.out 5
                              go_wp2
                              go_roundg 0
                              case measure => omega
                              case rel => exact ⟨2, by omega, by omega, rfl, by rw [← HY.out]; simp [en_p], ⟨blk_al BK1.out _⟩, ⟨blk_al BK5.out _⟩, ⟨HB.out.alloc HB.out.size _⟩⟩
                            · obtain ⟨y, hy⟩ : ∃ y, en_p imm ([(0, 5, 7), (5, 7, 25)].take 2) x = y := ⟨_, rfl⟩
                              have HY := Aside0.mk hy
                              rw [hy]
                              clear hy
                              go_wp2
                              go_ret2
                              exact ⟨(en_doneF _ _ _ _ _ _ _ _ _ _ _ HE.out (of_decide_eq_false HLH.out.symm) HRG.out (HODD.out ▸ HFAR.out) _ (HY.out.symm.trans (congrArg (en_p imm (cf_pieces 83)) HEX.out.symm))) ▸ rfl, HB.out⟩
                        · go_wp2_with (first | (go_at_call 17; refine (cf_pcall_84 _).mono ?_; rintro e w5 ⟨g5, hg5, rfl, hk5, hb⟩; have n0_ := Aside0.mk (blk_below (by (with_reducible repeat (first | refine blk_drewN ?_ _ | refine blk_drew ?_ | refine blk_alloc ?_ _)); exact BK1.out) hb); have n1_ := Aside0.mk (below_step (by repeat (first | (with_reducible first | exact HB.out | apply below_alloc | apply pw_below_drewN | apply below_drew1) | exact HB.out)) hb); have n2_ := Aside0.mk hk5; have n3_ := Aside0.mk ((by rw [hg5]; exact Nat.ne_of_lt (blk_lt (by (with_reducible repeat (first | refine blk_drewN ?_ _ | refine blk_drew ?_ | refine blk_alloc ?_ _)); exact BK1.out))) : g1 ≠ g5); clear BK1; clear HB; have BK1 := n0_; have HB := n1_; have BK5 := n2_; have NB1_5 := n3_; clear n0_ n1_ n2_ n3_; clear hb hk5 hg5))
                          go_loopg [11, 136] 1 (fun gg v11 v136 w' => ∃ k : Nat, k ≤ 1 ∧ 1 - k ≤ gg ∧ v136 = .int .i64 k ∧ v11 = .int .u32 (en_p imm ([(0, 6, 20)].take k) x) ∧ Aside0 (w'.heap[g1]? = some (.cells #[.int .i64 op, .int .i64 rd, .int .i64 rs1, .int .i64 rs2, .int .i64 imm] 29 (0, 0))) ∧ Aside0 (w'.heap[g5]? = some (.cells #[.int .u64 0, .int .u64 6, .int .u64 20] 60 (0, 0))) ∧ Aside0 (Below w.heap.size w w'))
                          case atStart => exact ⟨0, by omega, by omega, rfl, rfl, BK1, BK5, HB⟩
                          case round =>
                            clear BK1 BK5 HB
                            obtain ⟨k, hk, hg, rfl, rfl, BK1, BK5, HB⟩ := hrel
                            have hk3 : k = 0 ∨ k = 1 := by omega
                            rcases hk3 with rfl | rfl
                            · obtain ⟨y, hy⟩ : ∃ y, en_p imm ([(0, 6, 20)].take 0) x = y := ⟨_, rfl⟩
                              have HY := Aside0.mk hy
                              rw [hy]
                              clear hy
                              have hc1 : wr.cell? ⟨g1, 4, none⟩ = some (.int .i64 imm) := (blk_cell BK1.out 4).trans rfl
                              have hf1 := blk_frozen BK1.out 4
                              have hc1a : ∀ o, (wr.alloc o).cell? ⟨g1, 4, none⟩ = some (.int .i64 imm) := fun o => (blk_cell (blk_al BK1.out o) 4).trans rfl
                              have hf1a : ∀ o, (wr.alloc o).frozen? ⟨g1, 4, none⟩ = false := fun o => blk_frozen (blk_al BK1.out o) 4
                              have hc5_0 : wr.cell? ⟨g5, 0, none⟩ = some (.int .u64 0) := (blk_cell BK5.out 0).trans rfl
                              have hf5_0 := blk_frozen BK5.out 0
                              have hc5_1 : wr.cell? ⟨g5, 1, none⟩ = some (.int .u64 6) := (blk_cell BK5.out 1).trans rfl
                              have hf5_1 := blk_frozen BK5.out 1
                              have hc5_2 : wr.cell? ⟨g5, 2, none⟩ = some (.int .u64 20) := (blk_cell BK5.out 2).trans rfl
                              have hf5_2 := blk_frozen BK5.out 2
                              go_wp2
                              go_roundg 0
                              case measure => omega
                              case rel => exact ⟨1, by omega, by omega, rfl, by rw [← HY.out]; simp [en_p], ⟨blk_al BK1.out _⟩, ⟨blk_al BK5.out _⟩, ⟨HB.out.alloc HB.out.size _⟩⟩
                            · obtain ⟨y, hy⟩ : ∃ y, en_p imm ([(0, 6, 20)].take 1) x = y := ⟨_, rfl⟩
                              have HY := Aside0.mk hy
                              rw [hy]
                              clear hy
                              go_wp2
                              go_ret2
                              exact ⟨(en_doneF _ _ _ _ _ _ _ _ _ _ _ HE.out (of_decide_eq_false HLH.out.symm) HRG.out (HODD.out ▸ HFAR.out) _ (HY.out.symm.trans (congrArg (en_p imm (cf_pieces 84)) HEX.out.symm))) ▸ rfl, HB.out⟩
                        · go_wp2_with (first | (go_at_call 17; refine (cf_pcall_85 _).mono ?_; rintro e w5 ⟨g5, hg5, rfl, hk5, hb⟩; have n0_ := Aside0.mk (blk_below (by (with_reducible repeat (first | refine blk_drewN ?_ _ | refine blk_drew ?_ | refine blk_alloc ?_ _)); exact BK1.out) hb); have n1_ := Aside0.mk (below_step (by repeat (first | (with_reducible first | exact HB.out | apply below_alloc | apply pw_below_drewN | apply below_drew1) | exact HB.out)) hb); have n2_ := Aside0.mk hk5; have n3_ := Aside0.mk ((by rw [hg5]; exact Nat.ne_of_lt (blk_lt (by (with_reducible repeat (first | refine blk_drewN ?_ _ | refine blk_drew ?_ | refine blk_alloc ?_ _)); exact BK1.out))) : g1 ≠ g5); clear BK1; clear HB; have BK1 := n0_; have HB := n1_; have BK5 := n2_; have NB1_5 := n3_; clear n0_ n1_ n2_ n3_; clear hb hk5 hg5))
                          go_loopg [11, 136] 1 (fun gg v11 v136 w' => ∃ k : Nat, k ≤ 1 ∧ 1 - k ≤ gg ∧ v136 = .int .i64 k ∧ v11 = .int .u32 (en_p imm ([(0, 20, 12)].take k) x) ∧ Aside0 (w'.heap[g1]? = some (.cells #[.int .i64 op, .int .i64 rd, .int .i64 rs1, .int .i64 rs2, .int .i64 imm] 29 (0, 0))) ∧ Aside0 (w'.heap[g5]? = some (.cells #[.int .u64 0, .int .u64 20, .int .u64 12] 60 (0, 0))) ∧ Aside0 (Below w.heap.size w w'))
                          case atStart => exact ⟨0, by omega, by omega, rfl, rfl, BK1, BK5, HB⟩
                          case round =>
                            clear BK1 BK5 HB
                            obtain ⟨k, hk, hg, rfl, rfl, BK1, BK5, HB⟩ := hrel
                            have hk3 : k = 0 ∨ k = 1 := by omega
                            rcases hk3 with rfl | rfl
                            · obtain ⟨y, hy⟩ : ∃ y, en_p imm ([(0, 20, 12)].take 0) x = y := ⟨_, rfl⟩
                              have HY := Aside0.mk hy
                              rw [hy]
                              clear hy
                              have hc1 : wr.cell? ⟨g1, 4, none⟩ = some (.int .i64 imm) := (blk_cell BK1.out 4).trans rfl
                              have hf1 := blk_frozen BK1.out 4
                              have hc1a : ∀ o, (wr.alloc o).cell? ⟨g1, 4, none⟩ = some (.int .i64 imm) := fun o => (blk_cell (blk_al BK1.out o) 4).trans rfl
                              have hf1a : ∀ o, (wr.alloc o).frozen? ⟨g1, 4, none⟩ = false := fun o => blk_frozen (blk_al BK1.out o) 4
                              have hc5_0 : wr.cell? ⟨g5, 0, none⟩ = some (.int .u64 0) := (blk_cell BK5.out 0).trans rfl
                              have hf5_0 := blk_frozen BK5.out 0
                              have hc5_1 : wr.cell? ⟨g5, 1, none⟩ = some (.int .u64 20) := (blk_cell BK5.out 1).trans rfl
                              have hf5_1 := blk_frozen BK5.out 1
                              have hc5_2 : wr.cell? ⟨g5, 2, none⟩ = some (.int .u64 12) := (blk_cell BK5.out 2).trans rfl
                              have hf5_2 := blk_frozen BK5.out 2
                              go_wp2
                              go_roundg 0
                              case measure => omega
                              case rel => exact ⟨1, by omega, by omega, rfl, by rw [← HY.out]; simp [en_p], ⟨blk_al BK1.out _⟩, ⟨blk_al BK5.out _⟩, ⟨HB.out.alloc HB.out.size _⟩⟩
                            · obtain ⟨y, hy⟩ : ∃ y, en_p imm ([(0, 20, 12)].take 1) x = y := ⟨_, rfl⟩
                              have HY := Aside0.mk hy
                              rw [hy]
                              clear hy
                              go_wp2
                              go_ret2
                              exact ⟨(en_doneF _ _ _ _ _ _ _ _ _ _ _ HE.out (of_decide_eq_false HLH.out.symm) HRG.out (HODD.out ▸ HFAR.out) _ (HY.out.symm.trans (congrArg (en_p imm (cf_pieces 85)) HEX.out.symm))) ▸ rfl, HB.out⟩
                      · go_wp2
                        go_ret2
                        exact ⟨(en_farF _ _ _ _ _ _ _ _ _ _ _ HE.out (of_decide_eq_false HLH.out.symm) (HODD.out ▸ HFAR.out)).symm ▸ rfl, HB.out⟩
            · go_wp2
              go_ret2
              exact ⟨by simp only [encF, HE.out]; simp [of_decide_eq_true HLH.out.symm], HB.out⟩
def cm_ent (op : Int) : Ent := (cm_e13.find? (fun e => decide (op = e.n))).getD ⟨op, 0, 0, 0, 0⟩
def cm_has (op : Int) : Bool := (cm_e13.find? (fun e => decide (op = e.n))).isSome
theorem cm_at_find (op : Int) : ∀ (l : List Ent) (i : Nat), ((cm_at op l i).map (·.2)).getD (cm_val ⟨op, 0, 0, 0, 0⟩) = cm_val ((l.find? (fun e => decide (op = e.n))).getD ⟨op, 0, 0, 0, 0⟩) ∧ (cm_at op l i).isSome = (l.find? (fun e => decide (op = e.n))).isSome
  | [], _ => ⟨rfl, rfl⟩
  | e :: r, i => by
    by_cases h : op = e.n
    · simp [cm_at, h]
    · simp only [cm_at, if_neg h, List.find?_cons, decide_eq_false h]
      exact cm_at_find op r (i + 1)
theorem cm_forms : ∀ e ∈ cm_e13, FormOk e.form := by
  intro e he
  have : (cm_e13.all (fun e => decide (e.form = 0 ∨ e.form = 66 ∨ e.form = 73 ∨ e.form = 74 ∨ e.form = 78 ∨ e.form = 82 ∨ e.form = 83 ∨ e.form = 84 ∨ e.form = 85))) = true := by decide
  unfold FormOk
  exact of_decide_eq_true (List.all_eq_true.mp this e he)
theorem cm_ent_ok (op : Int) : FormOk (cm_ent op).form := by
  unfold cm_ent
  cases h : cm_e13.find? (fun e => decide (op = e.n)) with
  | none => exact .inl rfl
  | some e => exact cm_forms e (List.mem_of_find?_eq_some h)
def enc_r (op rd rs1 rs2 imm : Int) : Int × Int := encF (en_ok (cm_has op) (cf_uses (cm_ent op).form).1 (cf_uses (cm_ent op).form).2.1 (cf_uses (cm_ent op).form).2.2 rd rs1 rs2 3) (cm_ent op).form (cm_ent op).op (cm_ent op).f3 (cm_ent op).f7 (cf_room (cm_ent op).form).1 (cf_room (cm_ent op).form).2 rd rs1 rs2 imm
def code_Encode.f (op rd rs1 rs2 imm : Int) : Option (Int × Int) := some (enc_r op rd rs1 rs2 imm)
theorem code_Encode.calls (op rd rs1 rs2 imm r0 r1 : Int) (w : World) (h : code_Encode.f op rd rs1 rs2 imm = some (r0, r1)) :
    Calls Try.prog 9 #[.agg #[.int .i64 op, .int .i64 rd, .int .i64 rs1, .int .i64 rs2, .int .i64 imm]] w fun e w' => e = .returned (.tuple #[.int .u32 r0, .int .i64 r1]) ∧ Below w.heap.size w w' := by
  have h' := Option.some.inj h
  refine (enc_calls op rd rs1 rs2 imm w _ _ _ _ _ (cm_at_find op cm_e13 0).1 (cm_at_find op cm_e13 0).2 (cm_ent_ok op) _ _ rfl _ _ _ rfl).mono ?_
  rintro e w' ⟨h1, h2⟩
  refine ⟨h1.trans ?_, h2⟩
  show Ending.returned (.tuple #[.int .u32 (enc_r op rd rs1 rs2 imm).1, .int .i64 (enc_r op rd rs1 rs2 imm).2]) = _
  rw [h']
/-! a word's fields: 'or' of fields that lie apart is their sum -/
theorem or_field (a b i n : Nat) (hb : b < 2 ^ n) (ha : a / 2 ^ i % 2 ^ n = 0) : a ||| b * 2 ^ i = a + b * 2 ^ i := by
  have h1 : a % 2 ^ i < 2 ^ i := Nat.mod_lt _ (Nat.two_pow_pos i)
  have h2 : a = 2 ^ (i + n) * (a / 2 ^ i / 2 ^ n) + a % 2 ^ i := by
    have e1 := Nat.div_add_mod a (2 ^ i)
    have e2 := Nat.div_add_mod (a / 2 ^ i) (2 ^ n)
    rw [ha, Nat.add_zero] at e2
    rw [Nat.pow_add, Nat.mul_assoc, e2]
    omega
  have hlt : a % 2 ^ i < 2 ^ (i + n) := Nat.lt_of_lt_of_le h1 (Nat.pow_le_pow_right (by decide) (by omega))
  have hm : 2 ^ i * b + a % 2 ^ i < 2 ^ (i + n) := by
    rw [Nat.pow_add]
    have : 2 ^ i * (b + 1) ≤ 2 ^ i * 2 ^ n := Nat.mul_le_mul_left _ hb
    have e : 2 ^ i * (b + 1) = 2 ^ i * b + 2 ^ i := by rw [Nat.mul_add, Nat.mul_one]
    omega
  generalize a / 2 ^ i / 2 ^ n = hi at h2
  generalize a % 2 ^ i = lo at *
  rw [h2, Nat.two_pow_add_eq_or_of_lt hlt, Nat.or_assoc, Nat.mul_comm b, Nat.or_comm lo, ← Nat.two_pow_add_eq_or_of_lt h1, ← Nat.two_pow_add_eq_or_of_lt hm, ← Nat.two_pow_add_eq_or_of_lt hlt]
  omega
theorem wraps_u32 (n : Int) (h₀ : 0 ≤ n) (h₁ : n < 2 ^ 32) : IntKind.u32.wrap n = n := by rw [IntKind.wrap_u32]; omega
theorem u32_or (i n : Nat) (x b c : Int) (hc : c = b * 2 ^ i) (hx0 : 0 ≤ x) (hx1 : x < 4294967296) (hb0 : 0 ≤ b) (hb1 : b < 2 ^ n) (hxb : x / 2 ^ i % 2 ^ n = 0) (h : i + n ≤ 32) : bits .or .u32 x c = x + c := by
  subst hc
  obtain ⟨a, rfl⟩ := Int.eq_ofNat_of_zero_le hx0
  obtain ⟨b, rfl⟩ := Int.eq_ofNat_of_zero_le hb0
  have hb : b < 2 ^ n := by exact_mod_cast hb1
  have ha : a / 2 ^ i % 2 ^ n = 0 := by exact_mod_cast hxb
  have e : ((b : Int) * 2 ^ i) = ((b * 2 ^ i : Nat) : Int) := by simp
  have hlt : b * 2 ^ i < 2 ^ 32 := by
    have h3 : b * 2 ^ i < 2 ^ n * 2 ^ i := Nat.mul_lt_mul_of_pos_right hb (Nat.two_pow_pos i)
    rw [← Nat.pow_add] at h3
    exact Nat.lt_of_lt_of_le h3 (Nat.pow_le_pow_right (by decide) (by omega))
  rw [e, (bits_nat .u32 32 (by decide) wraps_u32 a _ (by omega) hlt).2, or_field a b i n hb ha]
  simp
theorem u32_and (n : Nat) (hn : n ≤ 32) (x : Int) (h0 : 0 ≤ x) (h1 : x < 4294967296) : bits .and .u32 x (2 ^ n - 1) = x % 2 ^ n :=
  bits_mask .u32 32 (by decide) wraps_u32 n hn x h0 h1
theorem u32_andm (n : Nat) (m : Int) (hm : m = 2 ^ n - 1) (hn : n ≤ 32) (x : Int) (h0 : 0 ≤ x) (h1 : x < 4294967296) : bits .and .u32 x m = x % 2 ^ n := by
  rw [hm]; exact u32_and n hn x h0 h1
/-- A word of fields: op, three registers, f3, f7. -/
theorem w_regs (o s3 s7 a b c : Int) (ho : 0 ≤ o ∧ o < 128) (h3 : 0 ≤ s3 ∧ s3 < 8) (h7 : 0 ≤ s7 ∧ s7 < 128) (ha : 0 ≤ a ∧ a < 32) (hb : 0 ≤ b ∧ b < 32) (hc : 0 ≤ c ∧ c < 32) :
    en_w o s3 s7 a b c 3 = o + s3 * 4096 + s7 * 33554432 + a * 128 + b * 32768 + c * 1048576 := by
  have e1 : s3 * 4096 % 4294967296 = s3 * 4096 := by omega
  have e2 : s7 * 33554432 % 4294967296 = s7 * 33554432 := by omega
  have r1 := u32_or 12 3 o s3 (s3 * 4096) rfl (by omega) (by omega) (by omega) (by omega) (by omega) (by omega)
  have r2 := u32_or 25 7 (o + s3 * 4096) s7 (s7 * 33554432) rfl (by omega) (by omega) (by omega) (by omega) (by omega) (by omega)
  have r3 := u32_or 7 5 (o + s3 * 4096 + s7 * 33554432) a (a * 128) rfl (by omega) (by omega) (by omega) (by omega) (by omega) (by omega)
  have r4 := u32_or 15 5 (o + s3 * 4096 + s7 * 33554432 + a * 128) b (b * 32768) rfl (by omega) (by omega) (by omega) (by omega) (by omega) (by omega)
  have r5 := u32_or 20 5 (o + s3 * 4096 + s7 * 33554432 + a * 128 + b * 32768) c (c * 1048576) rfl (by omega) (by omega) (by omega) (by omega) (by omega) (by omega)
  simp only [en_w, en_r, e1, e2, r1, r2, r3, r4, r5]
theorem i64_and1 (x : Int) : bits .and .i64 x 1 = x % 2 := by
  have h1 : (BitVec.ofInt 64 x).toNat &&& (BitVec.ofInt 64 1).toNat = (BitVec.ofInt 64 x).toNat % 2 := by
    have e : (BitVec.ofInt 64 1).toNat = 2 ^ 1 - 1 := by decide
    rw [e, Nat.and_two_pow_sub_one_eq_mod]
  have h2 : (BitVec.ofInt 64 x).toNat = (x % 18446744073709551616).toNat := by
    rw [BitVec.toNat_ofInt]; rfl
  show IntKind.i64.wrap ((BitVec.ofInt 64 x &&& BitVec.ofInt 64 1).toNat : Int) = x % 2
  rw [BitVec.toNat_and, h1, h2, IntKind.wrap_i64]
  omega
theorem p_nil (imm x : Int) : en_p imm [] x = x := rfl
theorem p_step (imm x : Int) (r : List (Int × Int × Int)) (a b c : Int) (n m k : Nat) (ha : a.toNat = n) (hb : b.toNat = m) (hc : c.toNat = k) (P Q R : Int) (hP : (2 : Int) ^ n = P) (hQ : (2 : Int) ^ m = Q) (hR : (2 : Int) ^ k = R) (h : k + m ≤ 32)
    (hx0 : 0 ≤ x) (hx1 : x < 4294967296) (hz : x / R % Q = 0) (v : Int) (hv : imm % 4294967296 / P % Q = v) : en_p imm ((a, b, c) :: r) x = en_p imm r (x + v * R) := by
  subst hP hQ hR ha hb hc
  have hpos : (0 : Int) < 2 ^ a.toNat := Int.pow_pos (by decide)
  have hposb : (0 : Int) < 2 ^ b.toNat := Int.pow_pos (by decide)
  have hposc : (0 : Int) < 2 ^ c.toNat := Int.pow_pos (by decide)
  have h0 : 0 ≤ imm % 4294967296 / 2 ^ a.toNat := Int.ediv_nonneg (by omega) (by omega)
  have h1 : imm % 4294967296 / 2 ^ a.toNat < 4294967296 := by
    have := Int.ediv_le_self (a := imm % 4294967296) (2 ^ a.toNat) (by omega)
    omega
  have hv0 : 0 ≤ v := by rw [← hv]; exact Int.emod_nonneg _ (by omega)
  have hv1 : v < 2 ^ b.toNat := by rw [← hv]; exact Int.emod_lt_of_pos _ hposb
  show en_p imm r _ = _
  rw [u32_and b.toNat (by omega) _ h0 h1, hv]
  have hlt : v * 2 ^ c.toNat < 4294967296 := by
    have h3 : v * 2 ^ c.toNat < 2 ^ b.toNat * 2 ^ c.toNat := Int.mul_lt_mul_of_pos_right hv1 hposc
    have h4 : (2 : Int) ^ b.toNat * 2 ^ c.toNat = 2 ^ (b.toNat + c.toNat) := (Int.pow_add 2 _ _).symm
    have h5 : (2 : Int) ^ (b.toNat + c.toNat) ≤ 2 ^ 32 := by exact_mod_cast Nat.pow_le_pow_right (n := 2) (by decide) (by omega : b.toNat + c.toNat ≤ 32)
    have h6 : (2 : Int) ^ 32 = 4294967296 := by decide
    omega
  have hge : 0 ≤ v * 2 ^ c.toNat := Int.mul_nonneg hv0 (Int.le_of_lt hposc)
  rw [Int.emod_eq_of_lt hge hlt, u32_or c.toNat b.toNat x v _ rfl hx0 hx1 hv0 hv1 hz h]
theorem encF_ok {ok : Bool} {sf so s3 s7 lo hi rd rs1 rs2 imm x : Int} : encF ok sf so s3 s7 lo hi rd rs1 rs2 imm = (x, 0) ↔ ok = true ∧ (lo > hi → imm = 0) ∧ (0 ≤ rd ∧ rd < 32 ∧ 0 ≤ rs1 ∧ rs1 < 32 ∧ 0 ≤ rs2 ∧ rs2 < 32) ∧ en_far lo hi imm (en_odd sf imm) = false ∧ en_p imm (cf_pieces sf) (en_w so s3 s7 rd rs1 rs2 3) = x := by
  unfold encF
  constructor
  · intro h
    split at h
    · cases h
    · split at h
      · cases h
      · split at h
        · cases h
        · split at h
          · cases h
          · rename_i h1 h2 h3 h4
            refine ⟨by simpa using h1, fun h5 => ?_, by omega, by simpa using h4, (Prod.mk.inj h).1⟩
            rcases Int.decEq imm 0 with hn | hn
            · exact absurd ⟨h5, hn⟩ h2
            · exact hn
  · rintro ⟨h1, h2, h3, h4, h5⟩
    rw [if_neg (by simp [h1]), if_neg (fun h => h.2 (h2 h.1)), if_neg (by omega), if_neg (by simp [h4]), h5]
theorem en_far_false {lo hi imm : Int} {odd : Bool} (h : lo ≤ hi) : en_far lo hi imm odd = false ↔ lo ≤ imm ∧ imm ≤ hi ∧ odd = false := by
  unfold en_far
  rw [decide_eq_true h]
  cases odd <;> simp <;> omega
theorem en_far_false' {lo hi imm : Int} {odd : Bool} (h : hi < lo) : en_far lo hi imm odd = false := by
  unfold en_far
  rw [decide_eq_false (by omega)]
  rfl
theorem en_odd_is (f imm : Int) (h : f = 66 ∨ f = 74) : en_odd f imm = false ↔ imm % 2 = 0 := by
  unfold en_odd
  rw [i64_and1]
  rcases h with rfl | rfl <;> simp <;> omega
theorem en_odd_no (f imm : Int) (h1 : f ≠ 66) (h2 : f ≠ 74) : en_odd f imm = false := by
  unfold en_odd
  simp [h1, h2]
def RowOk (e : Ent) : Prop := (0 ≤ e.op ∧ e.op < 128) ∧ (0 ≤ e.f3 ∧ e.f3 < 8) ∧ (0 ≤ e.f7 ∧ e.f7 < 128) ∧ (e.form = 82 ∨ (e.form = 84 ∧ e.f7 % 2 = 0) ∨ (e.f7 = 0 ∧ (e.form = 73 ∨ e.form = 83 ∨ e.form = 66 ∨ e.form = 78 ∨ ((e.form = 85 ∨ e.form = 74) ∧ e.f3 = 0))))
instance (e : Ent) : Decidable (RowOk e) := by unfold RowOk; infer_instance
def w_base (e : Ent) (rd rs1 rs2 : Int) : Int := e.op + e.f3 * 4096 + e.f7 * 33554432 + rd * 128 + rs1 * 32768 + rs2 * 1048576
def Fits (e : Ent) (rd rs1 rs2 imm x : Int) : Prop :=
  (0 ≤ rd ∧ rd < 32 ∧ 0 ≤ rs1 ∧ rs1 < 32 ∧ 0 ≤ rs2 ∧ rs2 < 32) ∧
  ((e.form = 82 ∧ imm = 0 ∧ x = w_base e rd rs1 rs2) ∨
   (e.form = 73 ∧ rs2 = 0 ∧ -2048 ≤ imm ∧ imm ≤ 2047 ∧ x = w_base e rd rs1 rs2 + imm % 4096 * 1048576) ∨
   (e.form = 84 ∧ rs2 = 0 ∧ 0 ≤ imm ∧ imm ≤ 63 ∧ x = w_base e rd rs1 rs2 + imm * 1048576) ∨
   (e.form = 83 ∧ rd = 0 ∧ -2048 ≤ imm ∧ imm ≤ 2047 ∧ x = w_base e rd rs1 rs2 + imm % 32 * 128 + imm % 4096 / 32 * 33554432) ∨
   (e.form = 66 ∧ rd = 0 ∧ -4096 ≤ imm ∧ imm ≤ 4094 ∧ imm % 2 = 0 ∧ x = w_base e rd rs1 rs2 + imm % 4096 / 2048 * 128 + imm % 32 / 2 * 256 + imm % 2048 / 32 * 33554432 + imm % 8192 / 4096 * 2147483648) ∨
   (e.form = 85 ∧ rs1 = 0 ∧ rs2 = 0 ∧ -524288 ≤ imm ∧ imm ≤ 524287 ∧ x = w_base e rd rs1 rs2 + imm % 1048576 * 4096) ∨
   (e.form = 74 ∧ rs1 = 0 ∧ rs2 = 0 ∧ -1048576 ≤ imm ∧ imm ≤ 1048574 ∧ imm % 2 = 0 ∧ x = w_base e rd rs1 rs2 + imm % 1048576 / 4096 * 4096 + imm % 4096 / 2048 * 1048576 + imm % 2048 / 2 * 2097152 + imm % 2097152 / 1048576 * 2147483648) ∨
   (e.form = 78 ∧ rd = 0 ∧ rs1 = 0 ∧ rs2 = 0 ∧ imm = 0 ∧ x = w_base e rd rs1 rs2))
theorem ep_73 (imm x : Int) (h0 : 0 ≤ x) (h1 : x < 4294967296) (hz : x / 1048576 % 4096 = 0) : en_p imm (cf_pieces 73) x = x + imm % 4096 * 1048576 :=
  p_step imm x [] 0 12 20 0 12 20 rfl rfl rfl 1 4096 1048576 (by decide) (by decide) (by decide) (by decide) h0 h1 hz (imm % 4096) (by omega)
theorem ep_84 (imm x : Int) (h0 : 0 ≤ x) (h1 : x < 4294967296) (hz : x / 1048576 % 64 = 0) (hi : 0 ≤ imm ∧ imm ≤ 63) : en_p imm (cf_pieces 84) x = x + imm * 1048576 :=
  p_step imm x [] 0 6 20 0 6 20 rfl rfl rfl 1 64 1048576 (by decide) (by decide) (by decide) (by decide) h0 h1 hz imm (by omega)
theorem ep_85 (imm x : Int) (h0 : 0 ≤ x) (h1 : x < 4294967296) (hz : x / 4096 % 1048576 = 0) : en_p imm (cf_pieces 85) x = x + imm % 1048576 * 4096 :=
  p_step imm x [] 0 20 12 0 20 12 rfl rfl rfl 1 1048576 4096 (by decide) (by decide) (by decide) (by decide) h0 h1 hz (imm % 1048576) (by omega)
theorem ep_83 (imm o s3 b c : Int) (ho : 0 ≤ o ∧ o < 128) (h3 : 0 ≤ s3 ∧ s3 < 8) (hb : 0 ≤ b ∧ b < 32) (hc : 0 ≤ c ∧ c < 32) :
    en_p imm (cf_pieces 83) (o + s3 * 4096 + b * 32768 + c * 1048576) = o + s3 * 4096 + b * 32768 + c * 1048576 + imm % 32 * 128 + imm % 4096 / 32 * 33554432 := by
  obtain ⟨p, hp⟩ : ∃ v, imm % 32 = v := ⟨_, rfl⟩
  have hp0 : 0 ≤ p ∧ p < 32 := by omega
  have hp1 : imm % 4294967296 / 1 % 32 = p := by omega
  obtain ⟨q, hq⟩ : ∃ v, imm % 4096 / 32 = v := ⟨_, rfl⟩
  have hq0 : 0 ≤ q ∧ q < 128 := by omega
  have hq1 : imm % 4294967296 / 32 % 128 = q := by omega
  rw [hp, hq]
  clear hp hq
  exact (p_step imm (o + s3 * 4096 + b * 32768 + c * 1048576) [(5, 7, 25)] 0 5 7 0 5 7 rfl rfl rfl 1 32 128 (by decide) (by decide) (by decide) (by decide) (by clear hp1 hq1; omega) (by clear hp1 hq1; omega) (by clear hp1 hq1; omega) p hp1).trans <|
    (p_step imm (o + s3 * 4096 + b * 32768 + c * 1048576 + p * 128) [] 5 7 25 5 7 25 rfl rfl rfl 32 128 33554432 (by decide) (by decide) (by decide) (by decide) (by clear hp1 hq1; omega) (by clear hp1 hq1; omega) (by clear hp1 hq1; omega) q hq1)
theorem ep_66 (imm o s3 b c : Int) (ho : 0 ≤ o ∧ o < 128) (h3 : 0 ≤ s3 ∧ s3 < 8) (hb : 0 ≤ b ∧ b < 32) (hc : 0 ≤ c ∧ c < 32) :
    en_p imm (cf_pieces 66) (o + s3 * 4096 + b * 32768 + c * 1048576) = o + s3 * 4096 + b * 32768 + c * 1048576 + imm % 4096 / 2048 * 128 + imm % 32 / 2 * 256 + imm % 2048 / 32 * 33554432 + imm % 8192 / 4096 * 2147483648 := by
  obtain ⟨p, hp⟩ : ∃ v, imm % 4096 / 2048 = v := ⟨_, rfl⟩
  have hp0 : 0 ≤ p ∧ p < 2 := by omega
  have hp1 : imm % 4294967296 / 2048 % 2 = p := by omega
  obtain ⟨q, hq⟩ : ∃ v, imm % 32 / 2 = v := ⟨_, rfl⟩
  have hq0 : 0 ≤ q ∧ q < 16 := by omega
  have hq1 : imm % 4294967296 / 2 % 16 = q := by omega
  obtain ⟨r, hr⟩ : ∃ v, imm % 2048 / 32 = v := ⟨_, rfl⟩
  have hr0 : 0 ≤ r ∧ r < 64 := by omega
  have hr1 : imm % 4294967296 / 32 % 64 = r := by omega
  obtain ⟨t, ht⟩ : ∃ v, imm % 8192 / 4096 = v := ⟨_, rfl⟩
  have ht0 : 0 ≤ t ∧ t < 2 := by omega
  have ht1 : imm % 4294967296 / 4096 % 2 = t := by omega
  rw [hp, hq, hr, ht]
  clear hp hq hr ht
  exact (p_step imm (o + s3 * 4096 + b * 32768 + c * 1048576) [(1, 4, 8), (5, 6, 25), (12, 1, 31)] 11 1 7 11 1 7 rfl rfl rfl 2048 2 128 (by decide) (by decide) (by decide) (by decide) (by clear hp1 hq1 hr1 ht1; omega) (by clear hp1 hq1 hr1 ht1; omega) (by clear hp1 hq1 hr1 ht1; omega) p hp1).trans <|
    (p_step imm (o + s3 * 4096 + b * 32768 + c * 1048576 + p * 128) [(5, 6, 25), (12, 1, 31)] 1 4 8 1 4 8 rfl rfl rfl 2 16 256 (by decide) (by decide) (by decide) (by decide) (by clear hp1 hq1 hr1 ht1; omega) (by clear hp1 hq1 hr1 ht1; omega) (by clear hp1 hq1 hr1 ht1; omega) q hq1).trans <|
    (p_step imm (o + s3 * 4096 + b * 32768 + c * 1048576 + p * 128 + q * 256) [(12, 1, 31)] 5 6 25 5 6 25 rfl rfl rfl 32 64 33554432 (by decide) (by decide) (by decide) (by decide) (by clear hp1 hq1 hr1 ht1; omega) (by clear hp1 hq1 hr1 ht1; omega) (by clear hp1 hq1 hr1 ht1; omega) r hr1).trans <|
    (p_step imm (o + s3 * 4096 + b * 32768 + c * 1048576 + p * 128 + q * 256 + r * 33554432) [] 12 1 31 12 1 31 rfl rfl rfl 4096 2 2147483648 (by decide) (by decide) (by decide) (by decide) (by clear hp1 hq1 hr1 ht1; omega) (by clear hp1 hq1 hr1 ht1; omega) (by clear hp1 hq1 hr1 ht1; omega) t ht1)
theorem ep_74 (imm o a : Int) (ho : 0 ≤ o ∧ o < 128) (ha : 0 ≤ a ∧ a < 32) :
    en_p imm (cf_pieces 74) (o + a * 128) = o + a * 128 + imm % 1048576 / 4096 * 4096 + imm % 4096 / 2048 * 1048576 + imm % 2048 / 2 * 2097152 + imm % 2097152 / 1048576 * 2147483648 := by
  obtain ⟨p, hp⟩ : ∃ v, imm % 1048576 / 4096 = v := ⟨_, rfl⟩
  have hp0 : 0 ≤ p ∧ p < 256 := by omega
  have hp1 : imm % 4294967296 / 4096 % 256 = p := by omega
  obtain ⟨q, hq⟩ : ∃ v, imm % 4096 / 2048 = v := ⟨_, rfl⟩
  have hq0 : 0 ≤ q ∧ q < 2 := by omega
  have hq1 : imm % 4294967296 / 2048 % 2 = q := by omega
  obtain ⟨r, hr⟩ : ∃ v, imm % 2048 / 2 = v := ⟨_, rfl⟩
  have hr0 : 0 ≤ r ∧ r < 1024 := by omega
  have hr1 : imm % 4294967296 / 2 % 1024 = r := by omega
  obtain ⟨t, ht⟩ : ∃ v, imm % 2097152 / 1048576 = v := ⟨_, rfl⟩
  have ht0 : 0 ≤ t ∧ t < 2 := by omega
  have ht1 : imm % 4294967296 / 1048576 % 2 = t := by omega
  rw [hp, hq, hr, ht]
  clear hp hq hr ht
  exact (p_step imm (o + a * 128) [(11, 1, 20), (1, 10, 21), (20, 1, 31)] 12 8 12 12 8 12 rfl rfl rfl 4096 256 4096 (by decide) (by decide) (by decide) (by decide) (by clear hp1 hq1 hr1 ht1; omega) (by clear hp1 hq1 hr1 ht1; omega) (by clear hp1 hq1 hr1 ht1; omega) p hp1).trans <|
    (p_step imm (o + a * 128 + p * 4096) [(1, 10, 21), (20, 1, 31)] 11 1 20 11 1 20 rfl rfl rfl 2048 2 1048576 (by decide) (by decide) (by decide) (by decide) (by clear hp1 hq1 hr1 ht1; omega) (by clear hp1 hq1 hr1 ht1; omega) (by clear hp1 hq1 hr1 ht1; omega) q hq1).trans <|
    (p_step imm (o + a * 128 + p * 4096 + q * 1048576) [(20, 1, 31)] 1 10 21 1 10 21 rfl rfl rfl 2 1024 2097152 (by decide) (by decide) (by decide) (by decide) (by clear hp1 hq1 hr1 ht1; omega) (by clear hp1 hq1 hr1 ht1; omega) (by clear hp1 hq1 hr1 ht1; omega) r hr1).trans <|
    (p_step imm (o + a * 128 + p * 4096 + q * 1048576 + r * 2097152) [] 20 1 31 20 1 31 rfl rfl rfl 1048576 2 2147483648 (by decide) (by decide) (by decide) (by decide) (by clear hp1 hq1 hr1 ht1; omega) (by clear hp1 hq1 hr1 ht1; omega) (by clear hp1 hq1 hr1 ht1; omega) t ht1)
theorem en_ok_iff (u0 u1 u2 : Bool) (a b c : Int) : en_ok true u0 u1 u2 a b c 3 = true ↔ (u0 = false → a = 0) ∧ (u1 = false → b = 0) ∧ (u2 = false → c = 0) := by
  cases u0 <;> cases u1 <;> cases u2 <;> simp [en_ok] <;> omega
/-- The word of a row's instruction. -/
theorem enc_iff (e : Ent) (he : RowOk e) (rd rs1 rs2 imm x : Int) :
    encF (en_ok true (cf_uses e.form).1 (cf_uses e.form).2.1 (cf_uses e.form).2.2 rd rs1 rs2 3) e.form e.op e.f3 e.f7 (cf_room e.form).1 (cf_room e.form).2 rd rs1 rs2 imm = (x, 0) ↔ Fits e rd rs1 rs2 imm x := by
  obtain ⟨n, f, o, s3, s7⟩ := e
  obtain ⟨ho, h3, h7, hf⟩ := he
  simp only at ho h3 h7 hf
  simp only [Fits, w_base]
  rw [encF_ok]
  have rg : ∀ {P Q : Prop}, (0 ≤ rd ∧ rd < 32 ∧ 0 ≤ rs1 ∧ rs1 < 32 ∧ 0 ≤ rs2 ∧ rs2 < 32 → (P ↔ Q)) → ((0 ≤ rd ∧ rd < 32 ∧ 0 ≤ rs1 ∧ rs1 < 32 ∧ 0 ≤ rs2 ∧ rs2 < 32) ∧ P ↔ (0 ≤ rd ∧ rd < 32 ∧ 0 ≤ rs1 ∧ rs1 < 32 ∧ 0 ≤ rs2 ∧ rs2 < 32) ∧ Q) := fun h => ⟨fun ⟨a, b⟩ => ⟨a, (h a).1 b⟩, fun ⟨a, b⟩ => ⟨a, (h a).2 b⟩⟩
  have sw : ∀ {A B C D E : Prop}, A ∧ B ∧ C ∧ D ∧ E ↔ C ∧ A ∧ B ∧ D ∧ E := ⟨fun ⟨a, b, c, d⟩ => ⟨c, a, b, d⟩, fun ⟨c, a, b, d⟩ => ⟨a, b, c, d⟩⟩
  rw [sw]
  refine rg (fun ⟨ha0, ha1, hb0, hb1, hc0, hc1⟩ => ?_)
  rw [w_regs o s3 s7 rd rs1 rs2 ho h3 h7 ⟨ha0, ha1⟩ ⟨hb0, hb1⟩ ⟨hc0, hc1⟩]
  rcases hf with rfl | ⟨rfl, hf⟩ | ⟨rfl, rfl | rfl | rfl | rfl | ⟨rfl | rfl, rfl⟩⟩
  · -- R
    simp only [show cf_uses 82 = (true, true, true) from rfl, show cf_room 82 = (1, 0) from rfl, show cf_pieces 82 = [] from rfl, p_nil, en_ok_iff]
    rw [en_far_false' (by decide)]
    constructor
    · rintro ⟨_, h2, _, h4⟩
      exact .inl ⟨(by first | exact trivial | rfl), h2 (by decide), by omega⟩
    · intro h
      have h' : imm = 0 ∧ x = o + s3 * 4096 + s7 * 33554432 + rd * 128 + rs1 * 32768 + rs2 * 1048576 := by
        rcases h with ⟨hh, h⟩ | ⟨hh, h⟩ | ⟨hh, h⟩ | ⟨hh, h⟩ | ⟨hh, h⟩ | ⟨hh, h⟩ | ⟨hh, h⟩ | ⟨hh, h⟩ <;> first | exact hh.elim | exact absurd hh (by decide) | exact h
      clear h
      exact ⟨⟨by simp, by simp, by simp⟩, fun _ => h'.1, rfl, by omega⟩
  · -- T
    simp only [show cf_uses 84 = (true, true, false) from rfl, show cf_room 84 = (0, 63) from rfl, en_ok_iff]
    rw [en_far_false (by decide), en_odd_no 84 imm (by decide) (by decide)]
    constructor
    · rintro ⟨h1, _, h4, h5⟩
      have hc : rs2 = 0 := h1.2.2 (by first | exact trivial | rfl)
      rw [ep_84 _ _ (by omega) (by omega) (by omega) (by omega)] at h5
      exact (.inr (.inr (.inl ⟨(by first | exact trivial | rfl), hc, by omega, by omega, by omega⟩)))
    · intro h
      have h' : rs2 = 0 ∧ 0 ≤ imm ∧ imm ≤ 63 ∧ x = o + s3 * 4096 + s7 * 33554432 + rd * 128 + rs1 * 32768 + rs2 * 1048576 + imm * 1048576 := by
        rcases h with ⟨hh, h⟩ | ⟨hh, h⟩ | ⟨hh, h⟩ | ⟨hh, h⟩ | ⟨hh, h⟩ | ⟨hh, h⟩ | ⟨hh, h⟩ | ⟨hh, h⟩ <;> first | exact hh.elim | exact absurd hh (by decide) | exact h
      refine ⟨⟨by simp, by simp, fun _ => h'.1⟩, by omega, ⟨by omega, by omega, rfl⟩, ?_⟩
      rw [ep_84 _ _ (by omega) (by omega) (by omega) (by omega)]
      omega
  · -- I
    simp only [show cf_uses 73 = (true, true, false) from rfl, show cf_room 73 = (-2048, 2047) from rfl, en_ok_iff]
    rw [en_far_false (by decide), en_odd_no 73 imm (by decide) (by decide)]
    constructor
    · rintro ⟨h1, _, h4, h5⟩
      have hc : rs2 = 0 := h1.2.2 (by first | exact trivial | rfl)
      rw [ep_73 _ _ (by omega) (by omega) (by omega)] at h5
      exact (.inr (.inl ⟨(by first | exact trivial | rfl), hc, by omega, by omega, by omega⟩))
    · intro h
      have h' : rs2 = 0 ∧ -2048 ≤ imm ∧ imm ≤ 2047 ∧ x = o + s3 * 4096 + 0 * 33554432 + rd * 128 + rs1 * 32768 + rs2 * 1048576 + imm % 4096 * 1048576 := by
        rcases h with ⟨hh, h⟩ | ⟨hh, h⟩ | ⟨hh, h⟩ | ⟨hh, h⟩ | ⟨hh, h⟩ | ⟨hh, h⟩ | ⟨hh, h⟩ | ⟨hh, h⟩ <;> first | exact hh.elim | exact absurd hh (by decide) | exact h
      refine ⟨⟨by simp, by simp, fun _ => h'.1⟩, by omega, ⟨by omega, by omega, rfl⟩, ?_⟩
      rw [ep_73 _ _ (by omega) (by omega) (by omega)]
      omega
  · -- S
    simp only [show cf_uses 83 = (false, true, true) from rfl, show cf_room 83 = (-2048, 2047) from rfl, en_ok_iff]
    rw [en_far_false (by decide), en_odd_no 83 imm (by decide) (by decide)]
    constructor
    · rintro ⟨h1, _, h4, h5⟩
      have hc : rd = 0 := h1.1 (by first | exact trivial | rfl)
      rw [show o + s3 * 4096 + 0 * 33554432 + rd * 128 + rs1 * 32768 + rs2 * 1048576 = o + s3 * 4096 + rs1 * 32768 + rs2 * 1048576 by omega, ep_83 _ _ _ _ _ ho h3 ⟨hb0, hb1⟩ ⟨hc0, hc1⟩] at h5
      exact (.inr (.inr (.inr (.inl ⟨(by first | exact trivial | rfl), hc, h4.1, h4.2.1, by omega⟩))))
    · intro h
      have h' : rd = 0 ∧ -2048 ≤ imm ∧ imm ≤ 2047 ∧ x = o + s3 * 4096 + 0 * 33554432 + rd * 128 + rs1 * 32768 + rs2 * 1048576 + imm % 32 * 128 + imm % 4096 / 32 * 33554432 := by
        rcases h with ⟨hh, h⟩ | ⟨hh, h⟩ | ⟨hh, h⟩ | ⟨hh, h⟩ | ⟨hh, h⟩ | ⟨hh, h⟩ | ⟨hh, h⟩ | ⟨hh, h⟩ <;> first | exact hh.elim | exact absurd hh (by decide) | exact h
      refine ⟨⟨fun _ => h'.1, by simp, by simp⟩, by omega, ⟨by omega, by omega, rfl⟩, ?_⟩
      rw [show o + s3 * 4096 + 0 * 33554432 + rd * 128 + rs1 * 32768 + rs2 * 1048576 = o + s3 * 4096 + rs1 * 32768 + rs2 * 1048576 by omega, ep_83 _ _ _ _ _ ho h3 ⟨hb0, hb1⟩ ⟨hc0, hc1⟩]
      omega
  · -- B
    simp only [show cf_uses 66 = (false, true, true) from rfl, show cf_room 66 = (-4096, 4094) from rfl, en_ok_iff]
    rw [en_far_false (by decide), en_odd_is 66 imm (.inl rfl)]
    constructor
    · rintro ⟨h1, _, h4, h5⟩
      have hc : rd = 0 := h1.1 (by first | exact trivial | rfl)
      rw [show o + s3 * 4096 + 0 * 33554432 + rd * 128 + rs1 * 32768 + rs2 * 1048576 = o + s3 * 4096 + rs1 * 32768 + rs2 * 1048576 by omega, ep_66 _ _ _ _ _ ho h3 ⟨hb0, hb1⟩ ⟨hc0, hc1⟩] at h5
      exact (.inr (.inr (.inr (.inr (.inl ⟨(by first | exact trivial | rfl), hc, h4.1, h4.2.1, h4.2.2, by omega⟩)))))
    · intro h
      have h' : rd = 0 ∧ -4096 ≤ imm ∧ imm ≤ 4094 ∧ imm % 2 = 0 ∧ x = o + s3 * 4096 + 0 * 33554432 + rd * 128 + rs1 * 32768 + rs2 * 1048576 + imm % 4096 / 2048 * 128 + imm % 32 / 2 * 256 + imm % 2048 / 32 * 33554432 + imm % 8192 / 4096 * 2147483648 := by
        rcases h with ⟨hh, h⟩ | ⟨hh, h⟩ | ⟨hh, h⟩ | ⟨hh, h⟩ | ⟨hh, h⟩ | ⟨hh, h⟩ | ⟨hh, h⟩ | ⟨hh, h⟩ <;> first | exact hh.elim | exact absurd hh (by decide) | exact h
      refine ⟨⟨fun _ => h'.1, by simp, by simp⟩, by omega, ⟨by omega, by omega, by omega⟩, ?_⟩
      rw [show o + s3 * 4096 + 0 * 33554432 + rd * 128 + rs1 * 32768 + rs2 * 1048576 = o + s3 * 4096 + rs1 * 32768 + rs2 * 1048576 by omega, ep_66 _ _ _ _ _ ho h3 ⟨hb0, hb1⟩ ⟨hc0, hc1⟩]
      omega
  · -- N
    simp only [show cf_uses 78 = (false, false, false) from rfl, show cf_room 78 = (1, 0) from rfl, show cf_pieces 78 = [] from rfl, p_nil, en_ok_iff]
    rw [en_far_false' (by decide)]
    constructor
    · rintro ⟨h1, h2, _, h4⟩
      have k1 := h1.1 (by first | exact trivial | rfl)
      have k2 := h1.2.1 (by first | exact trivial | rfl)
      have k3 := h1.2.2 (by first | exact trivial | rfl)
      have k4 := h2 (by decide)
      exact .inr (.inr (.inr (.inr (.inr (.inr (.inr ⟨(by first | exact trivial | rfl), k1, k2, k3, k4, by omega⟩))))))
    · intro h
      have h' : rd = 0 ∧ rs1 = 0 ∧ rs2 = 0 ∧ imm = 0 ∧ x = o + s3 * 4096 + 0 * 33554432 + rd * 128 + rs1 * 32768 + rs2 * 1048576 := by
        rcases h with ⟨hh, h⟩ | ⟨hh, h⟩ | ⟨hh, h⟩ | ⟨hh, h⟩ | ⟨hh, h⟩ | ⟨hh, h⟩ | ⟨hh, h⟩ | ⟨hh, h⟩ <;> first | exact hh.elim | exact absurd hh (by decide) | exact h
      clear h
      exact ⟨⟨fun _ => by omega, fun _ => by omega, fun _ => by omega⟩, fun _ => by omega, rfl, by omega⟩
  · -- U
    simp only [show cf_uses 85 = (true, false, false) from rfl, show cf_room 85 = (-524288, 524287) from rfl, en_ok_iff]
    rw [en_far_false (by decide), en_odd_no 85 imm (by decide) (by decide)]
    constructor
    · rintro ⟨h1, _, h4, h5⟩
      have hb : rs1 = 0 := h1.2.1 (by first | exact trivial | rfl)
      have hc : rs2 = 0 := h1.2.2 (by first | exact trivial | rfl)
      rw [ep_85 _ _ (by omega) (by omega) (by omega)] at h5
      exact (.inr (.inr (.inr (.inr (.inr (.inl ⟨(by first | exact trivial | rfl), hb, hc, h4.1, h4.2.1, by omega⟩))))))
    · intro h
      have h' : rs1 = 0 ∧ rs2 = 0 ∧ -524288 ≤ imm ∧ imm ≤ 524287 ∧ x = o + 0 * 4096 + 0 * 33554432 + rd * 128 + rs1 * 32768 + rs2 * 1048576 + imm % 1048576 * 4096 := by
        rcases h with ⟨hh, h⟩ | ⟨hh, h⟩ | ⟨hh, h⟩ | ⟨hh, h⟩ | ⟨hh, h⟩ | ⟨hh, h⟩ | ⟨hh, h⟩ | ⟨hh, h⟩ <;> first | exact hh.elim | exact absurd hh (by decide) | exact h
      refine ⟨⟨by simp, fun _ => h'.1, fun _ => h'.2.1⟩, by omega, ⟨by omega, by omega, rfl⟩, ?_⟩
      rw [ep_85 _ _ (by omega) (by omega) (by omega)]
      omega
  · -- J
    simp only [show cf_uses 74 = (true, false, false) from rfl, show cf_room 74 = (-1048576, 1048574) from rfl, en_ok_iff]
    rw [en_far_false (by decide), en_odd_is 74 imm (.inr rfl)]
    constructor
    · rintro ⟨h1, _, h4, h5⟩
      have hb : rs1 = 0 := h1.2.1 (by first | exact trivial | rfl)
      have hc : rs2 = 0 := h1.2.2 (by first | exact trivial | rfl)
      rw [show o + 0 * 4096 + 0 * 33554432 + rd * 128 + rs1 * 32768 + rs2 * 1048576 = o + rd * 128 by omega, ep_74 _ _ _ ho ⟨ha0, ha1⟩] at h5
      exact (.inr (.inr (.inr (.inr (.inr (.inr (.inl ⟨(by first | exact trivial | rfl), hb, hc, h4.1, h4.2.1, h4.2.2, by omega⟩)))))))
    · intro h
      have h' : rs1 = 0 ∧ rs2 = 0 ∧ -1048576 ≤ imm ∧ imm ≤ 1048574 ∧ imm % 2 = 0 ∧ x = o + 0 * 4096 + 0 * 33554432 + rd * 128 + rs1 * 32768 + rs2 * 1048576 + imm % 1048576 / 4096 * 4096 + imm % 4096 / 2048 * 1048576 + imm % 2048 / 2 * 2097152 + imm % 2097152 / 1048576 * 2147483648 := by
        rcases h with ⟨hh, h⟩ | ⟨hh, h⟩ | ⟨hh, h⟩ | ⟨hh, h⟩ | ⟨hh, h⟩ | ⟨hh, h⟩ | ⟨hh, h⟩ | ⟨hh, h⟩ <;> first | exact hh.elim | exact absurd hh (by decide) | exact h
      refine ⟨⟨by simp, fun _ => h'.1, fun _ => h'.2.1⟩, by omega, ⟨by omega, by omega, by omega⟩, ?_⟩
      rw [show o + 0 * 4096 + 0 * 33554432 + rd * 128 + rs1 * 32768 + rs2 * 1048576 = o + rd * 128 by omega, ep_74 _ _ _ ho ⟨ha0, ha1⟩]
      omega
def sgn (n v : Int) : Int := if v ≥ n / 2 then v - n else v
/-- What a word of a form tells: the registers and Imm. -/
def Dec (f x : Int) : Int × Int × Int × Int :=
  if f = 82 then (x / 128 % 32, x / 32768 % 32, x / 1048576 % 32, 0)
  else if f = 73 then (x / 128 % 32, x / 32768 % 32, 0, sgn 4096 (x / 1048576))
  else if f = 84 then (x / 128 % 32, x / 32768 % 32, 0, x / 1048576 % 64)
  else if f = 83 then (0, x / 32768 % 32, x / 1048576 % 32, sgn 4096 (x / 128 % 32 + 32 * (x / 33554432)))
  else if f = 66 then (0, x / 32768 % 32, x / 1048576 % 32, sgn 8192 (2 * (x / 256 % 16) + 32 * (x / 33554432 % 64) + 2048 * (x / 128 % 2) + 4096 * (x / 2147483648)))
  else if f = 85 then (x / 128 % 32, 0, 0, sgn 1048576 (x / 4096))
  else if f = 74 then (x / 128 % 32, 0, 0, sgn 2097152 (2 * (x / 2097152 % 1024) + 2048 * (x / 1048576 % 2) + 4096 * (x / 4096 % 256) + 1048576 * (x / 2147483648)))
  else (0, 0, 0, 0)
theorem sgn_of {n v i : Int} (h : (0 ≤ i ∧ i < n / 2 ∧ v = i) ∨ (i < 0 ∧ n / 2 ≤ v ∧ v = i + n)) : sgn n v = i := by
  unfold sgn
  split <;> omega
/-- A word tells its instruction. -/
theorem fits_dec (e : Ent) (he : RowOk e) (rd rs1 rs2 imm x : Int) (h : Fits e rd rs1 rs2 imm x) :
    (0 ≤ x ∧ x < 4294967296) ∧ x % 128 = e.op ∧ (e.form ≠ 85 → e.form ≠ 74 → x / 4096 % 8 = e.f3) ∧ (e.form = 82 → x / 33554432 = e.f7) ∧ (e.form = 84 → x / 67108864 = e.f7 / 2) ∧ Dec e.form x = (rd, rs1, rs2, imm) := by
  obtain ⟨n, f, o, s3, s7⟩ := e
  obtain ⟨ho, h3, h7, hf⟩ := he
  simp only at ho h3 h7 hf
  simp only [Fits, w_base] at h
  simp only
  obtain ⟨⟨ha0, ha1, hb0, hb1, hc0, hc1⟩, h⟩ := h
  rcases h with ⟨rfl, rfl, h⟩ | ⟨rfl, rfl, hi0, hi1, h⟩ | ⟨rfl, rfl, hi0, hi1, h⟩ | ⟨rfl, rfl, hi0, hi1, h⟩ | ⟨rfl, rfl, hi0, hi1, hi2, h⟩ | ⟨rfl, rfl, rfl, hi0, hi1, h⟩ | ⟨rfl, rfl, rfl, hi0, hi1, hi2, h⟩ | ⟨rfl, rfl, rfl, rfl, rfl, h⟩
  · -- R
    clear hf
    refine ⟨by omega, by omega, fun _ _ => by omega, fun _ => by omega, fun h => absurd h (by decide), ?_⟩
    show (_, _, _, _) = (_, _, _, _)
    rw [show x / 128 % 32 = rd by omega, show x / 32768 % 32 = rs1 by omega, show x / 1048576 % 32 = rs2 by omega]
  · -- I
    have h7' : s7 = 0 := by omega
    subst h7'
    obtain ⟨p, hp⟩ : ∃ v, imm % 4096 = v := ⟨_, rfl⟩
    have hp0 : 0 ≤ p ∧ p < 4096 := by omega
    have hp1 : (0 ≤ imm ∧ imm < 4096 / 2 ∧ p = imm) ∨ (imm < 0 ∧ 4096 / 2 ≤ p ∧ p = imm + 4096) := by omega
    rw [hp] at h
    clear hp hf
    have e1 : x / 1048576 = p := by clear hp1; omega
    refine ⟨by clear hp1; omega, by clear hp1; omega, fun _ _ => by clear hp1; omega, fun h => absurd h (by decide), fun h => absurd h (by decide), ?_⟩
    show (_, _, _, _) = (_, _, _, _)
    rw [show x / 128 % 32 = rd by clear hp1; omega, show x / 32768 % 32 = rs1 by clear hp1; omega, e1, sgn_of hp1]
  · -- T
    have h7' : s7 % 2 = 0 := by omega
    clear hf
    refine ⟨by omega, by omega, fun _ _ => by omega, fun h => absurd h (by decide), fun _ => by omega, ?_⟩
    show (_, _, _, _) = (_, _, _, _)
    rw [show x / 128 % 32 = rd by omega, show x / 32768 % 32 = rs1 by omega, show x / 1048576 % 64 = imm by omega]
  · -- S
    have h7' : s7 = 0 := by omega
    subst h7'
    obtain ⟨p, hp⟩ : ∃ v, imm % 32 = v := ⟨_, rfl⟩
    obtain ⟨q, hq⟩ : ∃ v, imm % 4096 / 32 = v := ⟨_, rfl⟩
    have hp0 : 0 ≤ p ∧ p < 32 := by omega
    have hq0 : 0 ≤ q ∧ q < 128 := by omega
    have hp1 : (0 ≤ imm ∧ imm < 4096 / 2 ∧ p + 32 * q = imm) ∨ (imm < 0 ∧ 4096 / 2 ≤ p + 32 * q ∧ p + 32 * q = imm + 4096) := by omega
    rw [hp, hq] at h
    clear hp hq hf
    have e1 : x / 128 % 32 = p := by clear hp1; omega
    have e2 : x / 33554432 = q := by clear hp1; omega
    refine ⟨by clear hp1; omega, by clear hp1; omega, fun _ _ => by clear hp1; omega, fun h => absurd h (by decide), fun h => absurd h (by decide), ?_⟩
    show (_, _, _, _) = (_, _, _, _)
    rw [show x / 32768 % 32 = rs1 by clear hp1; omega, show x / 1048576 % 32 = rs2 by clear hp1; omega, e1, e2, sgn_of hp1]
  · -- B
    have h7' : s7 = 0 := by omega
    subst h7'
    obtain ⟨p, hp⟩ : ∃ v, imm % 4096 / 2048 = v := ⟨_, rfl⟩
    obtain ⟨q, hq⟩ : ∃ v, imm % 32 / 2 = v := ⟨_, rfl⟩
    obtain ⟨r, hr⟩ : ∃ v, imm % 2048 / 32 = v := ⟨_, rfl⟩
    obtain ⟨t, ht⟩ : ∃ v, imm % 8192 / 4096 = v := ⟨_, rfl⟩
    have hp0 : 0 ≤ p ∧ p < 2 := by omega
    have hq0 : 0 ≤ q ∧ q < 16 := by omega
    have hr0 : 0 ≤ r ∧ r < 64 := by omega
    have ht0 : 0 ≤ t ∧ t < 2 := by omega
    have hp1 : (0 ≤ imm ∧ imm < 8192 / 2 ∧ 2 * q + 32 * r + 2048 * p + 4096 * t = imm) ∨ (imm < 0 ∧ 8192 / 2 ≤ 2 * q + 32 * r + 2048 * p + 4096 * t ∧ 2 * q + 32 * r + 2048 * p + 4096 * t = imm + 8192) := by omega
    rw [hp, hq, hr, ht] at h
    clear hp hq hr ht hf
    have e1 : x / 128 % 2 = p := by clear hp1; omega
    have e2 : x / 256 % 16 = q := by clear hp1; omega
    have e3 : x / 33554432 % 64 = r := by clear hp1; omega
    have e4 : x / 2147483648 = t := by clear hp1; omega
    refine ⟨by clear hp1; omega, by clear hp1; omega, fun _ _ => by clear hp1; omega, fun h => absurd h (by decide), fun h => absurd h (by decide), ?_⟩
    show (_, _, _, _) = (_, _, _, _)
    rw [show x / 32768 % 32 = rs1 by clear hp1; omega, show x / 1048576 % 32 = rs2 by clear hp1; omega, e1, e2, e3, e4, sgn_of hp1]
  · -- U
    have h7' : s7 = 0 ∧ s3 = 0 := by omega
    obtain ⟨rfl, rfl⟩ := h7'
    obtain ⟨p, hp⟩ : ∃ v, imm % 1048576 = v := ⟨_, rfl⟩
    have hp0 : 0 ≤ p ∧ p < 1048576 := by omega
    have hp1 : (0 ≤ imm ∧ imm < 1048576 / 2 ∧ p = imm) ∨ (imm < 0 ∧ 1048576 / 2 ≤ p ∧ p = imm + 1048576) := by omega
    rw [hp] at h
    clear hp hf
    have e1 : x / 4096 = p := by clear hp1; omega
    refine ⟨by clear hp1; omega, by clear hp1; omega, fun h => absurd rfl h, fun h => absurd h (by decide), fun h => absurd h (by decide), ?_⟩
    show (_, _, _, _) = (_, _, _, _)
    rw [show x / 128 % 32 = rd by clear hp1; omega, e1, sgn_of hp1]
  · -- J
    have h7' : s7 = 0 ∧ s3 = 0 := by omega
    obtain ⟨rfl, rfl⟩ := h7'
    obtain ⟨p, hp⟩ : ∃ v, imm % 1048576 / 4096 = v := ⟨_, rfl⟩
    obtain ⟨q, hq⟩ : ∃ v, imm % 4096 / 2048 = v := ⟨_, rfl⟩
    obtain ⟨r, hr⟩ : ∃ v, imm % 2048 / 2 = v := ⟨_, rfl⟩
    obtain ⟨t, ht⟩ : ∃ v, imm % 2097152 / 1048576 = v := ⟨_, rfl⟩
    have hp0 : 0 ≤ p ∧ p < 256 := by omega
    have hq0 : 0 ≤ q ∧ q < 2 := by omega
    have hr0 : 0 ≤ r ∧ r < 1024 := by omega
    have ht0 : 0 ≤ t ∧ t < 2 := by omega
    have hp1 : (0 ≤ imm ∧ imm < 2097152 / 2 ∧ 2 * r + 2048 * q + 4096 * p + 1048576 * t = imm) ∨ (imm < 0 ∧ 2097152 / 2 ≤ 2 * r + 2048 * q + 4096 * p + 1048576 * t ∧ 2 * r + 2048 * q + 4096 * p + 1048576 * t = imm + 2097152) := by omega
    rw [hp, hq, hr, ht] at h
    clear hp hq hr ht hf
    have e1 : x / 4096 % 256 = p := by clear hp1; omega
    have e2 : x / 1048576 % 2 = q := by clear hp1; omega
    have e3 : x / 2097152 % 1024 = r := by clear hp1; omega
    have e4 : x / 2147483648 = t := by clear hp1; omega
    refine ⟨by clear hp1; omega, by clear hp1; omega, fun _ h => absurd rfl h, fun h => absurd h (by decide), fun h => absurd h (by decide), ?_⟩
    show (_, _, _, _) = (_, _, _, _)
    rw [show x / 128 % 32 = rd by clear hp1; omega, e1, e2, e3, e4, sgn_of hp1]
  · -- N
    have h7' : s7 = 0 := by omega
    subst h7'
    exact ⟨by omega, by omega, fun _ _ => by omega, fun h => absurd h (by decide), fun h => absurd h (by decide), rfl⟩
theorem rows_ok : ∀ e ∈ cm_e13, RowOk e := by
  intro e he
  have : (cm_e13.all (fun e => decide (RowOk e))) = true := by decide
  exact of_decide_eq_true (List.all_eq_true.mp this e he)
theorem has_mem {op : Int} (h : cm_has op = true) : cm_ent op ∈ cm_e13 ∧ (cm_ent op).n = op := by
  unfold cm_has at h
  unfold cm_ent
  cases hf : cm_e13.find? (fun e => decide (op = e.n)) with
  | none => rw [hf] at h; cases h
  | some e => exact ⟨List.mem_of_find?_eq_some hf, by have h2 := List.find?_some hf; simp only [decide_eq_true_eq] at h2; exact h2.symm⟩
theorem rows_apart (a b : Ent) (ha : a ∈ cm_e13) (hb : b ∈ cm_e13) : a.op = b.op → ((a.form = 85 ∨ a.form = 74) ∧ a.n = b.n) ∨ ((a.form ≠ 85 ∧ a.form ≠ 74) ∧ (b.form ≠ 85 ∧ b.form ≠ 74) ∧ (a.f3 = b.f3 → a.form = b.form ∧ ((a.form = 82 → a.f7 = b.f7) → (a.form = 84 → a.f7 / 2 = b.f7 / 2) → a.n = b.n))) := by
  have : (cm_e13.all (fun a => cm_e13.all (fun b => !(a.op == b.op) || ((a.form == 85 || a.form == 74) && a.n == b.n) || (!(a.form == 85) && !(a.form == 74) && !(b.form == 85) && !(b.form == 74) && (!(a.f3 == b.f3) || (a.form == b.form && (a.n == b.n || (a.form == 82 && !(a.f7 == b.f7)) || (a.form == 84 && !(a.f7 / 2 == b.f7 / 2))))))))) = true := by decide
  have h := List.all_eq_true.mp (List.all_eq_true.mp this a ha) b hb
  simp only [Bool.or_eq_true, Bool.and_eq_true, Bool.not_eq_true', beq_iff_eq, beq_eq_false_iff_ne] at h
  intro ho
  rcases h with (h | h) | ⟨⟨⟨⟨h1, h2⟩, h3⟩, h4⟩, h5⟩
  · exact absurd ho h
  · exact .inl h
  · refine .inr ⟨⟨h1, h2⟩, ⟨h3, h4⟩, fun hf => ?_⟩
    rcases h5 with h5 | ⟨h5, h6⟩
    · exact absurd hf h5
    · refine ⟨h5, fun h7 h8 => ?_⟩
      rcases h6 with (h6 | ⟨h6, h9⟩) | ⟨h6, h9⟩
      · exact h6
      · exact absurd (h7 h6) h9
      · exact absurd (h8 h6) h9
theorem enc_r_iff (op rd rs1 rs2 imm x : Int) : enc_r op rd rs1 rs2 imm = (x, 0) ↔ cm_has op = true ∧ Fits (cm_ent op) rd rs1 rs2 imm x := by
  unfold enc_r
  cases h : cm_has op with
  | false =>
    rw [encF_ok]
    have : ∀ u0 u1 u2, en_ok false u0 u1 u2 rd rs1 rs2 3 = false := fun _ _ _ => rfl
    simp [this]
  | true =>
    rw [enc_iff _ (rows_ok _ (has_mem h).1)]
    simp
/-- Two instructions of one word are the same. -/
theorem enc_apart {a0 a1 a2 a3 a4 b0 b1 b2 b3 b4 x : Int} (h1 : enc_r a0 a1 a2 a3 a4 = (x, 0)) (h2 : enc_r b0 b1 b2 b3 b4 = (x, 0)) : a0 = b0 ∧ a1 = b1 ∧ a2 = b2 ∧ a3 = b3 ∧ a4 = b4 := by
  obtain ⟨ha, fa⟩ := (enc_r_iff _ _ _ _ _ _).1 h1
  obtain ⟨hb, fb⟩ := (enc_r_iff _ _ _ _ _ _).1 h2
  obtain ⟨ma, na⟩ := has_mem ha
  obtain ⟨mb, nb⟩ := has_mem hb
  obtain ⟨_, p1, p2, p3, p4, p5⟩ := fits_dec _ (rows_ok _ ma) _ _ _ _ _ fa
  obtain ⟨_, q1, q2, q3, q4, q5⟩ := fits_dec _ (rows_ok _ mb) _ _ _ _ _ fb
  have hn : a0 = b0 := by
    rw [← na, ← nb]
    rcases rows_apart _ _ ma mb (p1.symm.trans q1) with ⟨_, h⟩ | ⟨⟨f1, f2⟩, ⟨f3, f4⟩, h⟩
    · exact h
    · obtain ⟨hf, h⟩ := h ((p2 f1 f2).symm.trans (q2 f3 f4))
      exact h (fun e => (p3 e).symm.trans (q3 (hf ▸ e))) (fun e => (p4 e).symm.trans (q4 (hf ▸ e)))
  subst hn
  have := p5.symm.trans q5
  simp only [Prod.mk.injEq] at this
  exact ⟨rfl, this⟩

end Go.Proofs.Ytkacoffiinggiaa.K
