/- What Go functions of this seat answer: each has a Lean function ('.f') and a contract ('.calls'). Conditions: those of each theorem. Written by a program over the kit's printer; what is marked 'typed by hand' is this session's. -/
import Derived.Test.YtkacoffiinggiaaK0
import Derived.Test.YtkacoffiinggiaaK5
import Derived.Test.YtkacoffiinggiaaK6
namespace Go.Proofs.Ytkacoffiinggiaa.K
open Go.RowKit Go.Proofs.YtkacoffiinggiaaW.PrintWords Go.Proofs.YtkacoffiinggiaaW.PrintLast Go.Proofs.YtkacoffiinggiaaW.PrintMore
attribute [local go_sem] max2_int min2_int max_two min_two max_three min_three max_four min_four   -- for this text's walks alone
set_option linter.unusedVariables false
set_option linter.unusedSimpArgs false

/-! ### code_Decode: function 11 (typed by hand) -/

def cm_es : Array MapEntry := (cm_ents cm_e13 0).toArray
def cm_clk : Nat := cm_e13.length
def entRow (e : MapEntry) : Ent := match e.key, e.val with
 | .int _ n, .agg ⟨[.int _ f, .int _ o, .int _ a, .int _ b]⟩ => ⟨n, f, o, a, b⟩
 | _, _ => ⟨0, 0, 0, 0, 0⟩
theorem cm_ents_mem : ∀ (l : List Ent) (s : Nat) (e : MapEntry), e ∈ cm_ents l s → ∃ r ∈ l, e.key = .int .i64 r.n ∧ e.val = cm_val r ∧ s ≤ e.born ∧ e.born < s + l.length
 | [], _, e, h => by cases h
 | a :: r, s, e, h => by
  rcases List.mem_cons.1 h with rfl | h
  ·exact ⟨a, by simp, rfl, rfl, Nat.le_refl _, by simp⟩
  ·obtain ⟨q, hq, h1, h2, h3, h4⟩ := cm_ents_mem r (s + 1) e h
   exact ⟨q, by simp [hq], h1, h2, by omega, by simp only [List.length_cons]; omega⟩
theorem cm_ents_of : ∀ (l : List Ent) (s : Nat) (r : Ent), r ∈ l → ∃ e ∈ cm_ents l s, entRow e = r
 | [], _, _, h => by cases h
 | a :: l, s, r, h => by
  rcases List.mem_cons.1 h with rfl | h
  ·exact ⟨_, List.mem_cons_self .., rfl⟩
  ·obtain ⟨e, he, h2⟩ := cm_ents_of l (s + 1) r h
   exact ⟨e, List.mem_cons_of_mem _ he, h2⟩
theorem cm_ents_nodup : ∀ (l : List Ent) (s : Nat), ((cm_ents l s).map (·.born)).Nodup
 | [], _ => List.nodup_nil
 | a :: l, s => by
  show ((cm_ents (a :: l) s).map (·.born)).Nodup
  simp only [cm_ents, List.map_cons]
  refine List.nodup_cons.2 ⟨fun h => ?_, cm_ents_nodup l (s + 1)⟩
  obtain ⟨e, he, hb⟩ := List.mem_map.1 h
  obtain ⟨_, _, _, _, h3, _⟩ := cm_ents_mem l (s + 1) e he
  have hb' : e.born = s := hb
  omega
theorem cm_hold : ∀ e ∈ cm_es.toList, e.born < cm_clk := fun e he => by
 obtain ⟨_, _, _, _, _, h⟩ := cm_ents_mem cm_e13 0 e he
 simpa [cm_clk] using h
theorem cm_nodup : (cm_es.toList.map (·.born)).Nodup := cm_ents_nodup cm_e13 0
theorem cm_left0 : (leftOf cm_es #[]).size ≤ 55 := by decide +kernel
/-- This row's instruction has the word. -/
def Hit (e : Ent) (x : Int) : Prop := enc_r e.n (Dec e.form x).1 (Dec e.form x).2.1 (Dec e.form x).2.2.1 (Dec e.form x).2.2.2 = (x, 0)
theorem dec_step {w w1 : World} {r : Nat} {o0 : Obj} (hw : w1 = w ∨ w1 = w.drew) (hr : w.heap[r]? = some o0) (o : Obj) :
  (ChangeMaps.setBlock w1 r o).heap[r]? = some o ∧ (∀ j, j ≠ r → (ChangeMaps.setBlock w1 r o).heap[j]? = w.heap[j]?) ∧ (∀ b w0, b ≤ r → Below b w0 w → Below b w0 (ChangeMaps.setBlock w1 r o)) := by
 have hl : r < w.heap.size := blk_lt hr
 have key : ∀ b w0, b ≤ r → Below b w0 w1 → Below b w0 (ChangeMaps.setBlock w1 r o) := fun b w0 hb h =>
  ⟨h.os, h.tape, h.output, by show _ ≤ (w1.heap.setIfInBounds r o).size; rw [Array.size_setIfInBounds]; exact h.size, fun k hk => by
   show (w1.heap.setIfInBounds r o)[k]? = _
   rw [Array.getElem?_setIfInBounds_ne (by omega)]
   exact h.block k hk⟩
 have hh : w1.heap = w.heap := by rcases hw with rfl | rfl <;> rfl
 refine ⟨?_, ?_, ?_⟩
 ·show (w1.heap.setIfInBounds r o)[r]? = _
  rw [hh, Array.getElem?_setIfInBounds_self_of_lt hl]
 ·intro j hj
  show (w1.heap.setIfInBounds r o)[j]? = _
  rw [hh, Array.getElem?_setIfInBounds_ne (by omega)]
 ·intro b w0 hb h
  refine key b w0 hb ?_
  rcases hw with rfl | rfl
  ·exact h
  ·exact h.trans ((Below.refl _ _).drew)
theorem dec_res (tmps : Array Value) (w : World) (g : Nat) (cs : Array Value) (fr : Nat × Nat) (hp : tmps.getD 2 undef = .pointer (some ⟨g, 0, none⟩)) (hg : w.heap[g]? = some (.cells cs 29 fr)) (hi : cs.size = 5) :
  (results Try.f11 tmps).run Try.prog w = .ok (.tuple #[.agg cs, tmps.getD 3 undef]) w := by
 rw [results_cell_tmp (p := 2) (u := 3) (ty := 29) rfl]
 have hs : (Try.prog.info? 29).map (·.size) = some cs.size := by rw [hi]; kernel_rfl
 rw [hp]
 simp [asAddr, run_loadVar_row w g 29 29 cs fr _ hg Try.underlying29 rfl hs, Result.andThen]
theorem dec_i66_0 (a b c : Value) (w : World) : (Instr.index 66 (.agg #[a, b, c]) (.int .i64 0)).run Try.prog w = .ok a w := by kernel_rfl
theorem dec_i66_1 (a b c : Value) (w : World) : (Instr.index 66 (.agg #[a, b, c]) (.int .i64 1)).run Try.prog w = .ok b w := by kernel_rfl
theorem dec_i66_2 (a b c : Value) (w : World) : (Instr.index 66 (.agg #[a, b, c]) (.int .i64 2)).run Try.prog w = .ok c w := by kernel_rfl
theorem dec_put5 {w : World} {g : Nat} {a0 a1 a2 a3 a4 : Value} (h : w.heap[g]? = some (.cells #[a0, a1, a2, a3, a4] 29 (0, 0))) (b0 b1 b2 b3 b4 : Value) :
  (((((w.setCell ⟨g, 0, none⟩ b0).setCell ⟨g, 1, none⟩ b1).setCell ⟨g, 2, none⟩ b2).setCell ⟨g, 3, none⟩ b3).setCell ⟨g, 4, none⟩ b4).heap[g]? = some (.cells #[b0, b1, b2, b3, b4] 29 (0, 0)) :=
 blk_put (cs := #[b0, b1, b2, b3, a4]) (blk_put (cs := #[b0, b1, b2, a3, a4]) (blk_put (cs := #[b0, b1, a2, a3, a4]) (blk_put (cs := #[b0, a1, a2, a3, a4]) (blk_put (cs := #[a0, a1, a2, a3, a4]) h 0 _ rfl) 1 _ rfl) 2 _ rfl) 3 _ rfl) 4 _ rfl
theorem rows_ent (r : Ent) (h : r ∈ cm_e13) : cm_has r.n = true ∧ cm_ent r.n = r := by
 have : (cm_e13.all (fun r => cm_has r.n && (decide ((cm_ent r.n).n = r.n) && (decide ((cm_ent r.n).form = r.form) && (decide ((cm_ent r.n).op = r.op) && (decide ((cm_ent r.n).f3 = r.f3) && decide ((cm_ent r.n).f7 = r.f7))))))) = true := by decide +kernel
 have h2 := List.all_eq_true.mp this r h
 simp only [Bool.and_eq_true, decide_eq_true_eq] at h2
 obtain ⟨h3, h4, h5, h6, h7, h8⟩ := h2
 refine ⟨h3, ?_⟩
 cases hc : cm_ent r.n
 cases r
 simp_all
theorem hit_op (r : Ent) (h : r ∈ cm_e13) (x : Int) (hh : Hit r x) : r.op = x % 128 := by
 obtain ⟨_, hf⟩ := (enc_r_iff _ _ _ _ _ _).1 hh
 rw [(rows_ent r h).2] at hf
 exact (fits_dec r (rows_ok r h) _ _ _ _ _ hf).2.1.symm
theorem dec_no {seen : Array Nat} {e : MapEntry} {x : Int} (h : ∀ e ∈ cm_es.toList, seen.contains e.born = true → ¬ Hit (entRow e) x) (he : e ∈ (leftOf cm_es seen).toList) (hn : ¬ Hit (entRow e) x) :
  ∀ y ∈ cm_es.toList, (seen.push e.born).contains y.born = true → ¬ Hit (entRow y) x := fun y hy hc => by
 rw [contains_push] at hc
 rcases Bool.or_eq_true _ _ ▸ hc with h1 | h1
 ·exact h y hy h1
 ·have : y = e := born_inj cm_nodup hy (mem_left he).1 (beq_iff_eq.1 h1)
  rw [this]
  exact hn
theorem dec_hit (r : Ent) (x : Int) {a b c d r0 r1 : Int} (hd : Dec r.form x = (a, b, c, d)) (he : code_Encode.f r.n a b c d = some (r0, r1)) : Hit r x ↔ r0 = x ∧ r1 = 0 := by
 unfold Hit
 rw [hd]
 have h := Option.some.inj he
 show enc_r r.n a b c d = (x, 0) ↔ _
 rw [h]
 simp
theorem i64_or (i n : Nat) (x b c : Int) (hc : c = b * 2 ^ i) (hx0 : 0 ≤ x) (hx1 : x < 4294967296) (hb0 : 0 ≤ b) (hb1 : b < 2 ^ n) (hxb : x / 2 ^ i % 2 ^ n = 0) (h : i + n ≤ 32) : bits .or .i64 x c = x + c := by
 subst hc
 obtain ⟨a, rfl⟩ := Int.eq_ofNat_of_zero_le hx0
 obtain ⟨b, rfl⟩ := Int.eq_ofNat_of_zero_le hb0
 have hb : b < 2 ^ n := by exact_mod_cast hb1
 have ha : a / 2 ^ i % 2 ^ n = 0 := by exact_mod_cast hxb
 have e : ((b : Int) * 2 ^ i) = ((b * 2 ^ i : Nat) : Int) := by simp
 have hlt : b * 2 ^ i < 2 ^ 32 := by
  have h3 : b * 2 ^ i < 2 ^ n * 2 ^ i := Nat.mul_lt_mul_of_pos_right hb (Nat.two_pow_pos i)
  rw [← Nat.pow_add] at h3
  exact Nat.lt_of_lt_of_le h3 (Nat.pow_le_pow_right (by decide) (by omega))
 rw [e, (bits_nat .i64 32 (by decide) (fun n h0 h1 => by rw [IntKind.wrap_i64]; omega) a _ (by omega) hlt).2, or_field a b i n hb ha]
 simp
theorem dec_73_in (x : Int) (hx0 : 0 ≤ x) (hx1 : x < 4294967296) {p : Int} (hp : x / 1048576 % 4096 = p) (hle : p ≤ 2047) : Dec 73 x = (x / 128 % 32, x / 32768 % 32, 0, p) := by
 have e : sgn 4096 (x / 1048576) = p := by
  have h : x / 1048576 = p := by omega
  rw [h]
  clear h
  unfold sgn
  split <;> omega
 show (_, _, _, _) = (_, _, _, _)
 rw [e]
theorem dec_73_out (x : Int) (hx0 : 0 ≤ x) (hx1 : x < 4294967296) {p : Int} (hp : x / 1048576 % 4096 = p) (hle : 2047 < p) : Dec 73 x = (x / 128 % 32, x / 32768 % 32, 0, p + -4096) := by
 have e : sgn 4096 (x / 1048576) = p + -4096 := by
  have h : x / 1048576 = p := by omega
  rw [h]
  clear h
  unfold sgn
  split <;> omega
 show (_, _, _, _) = (_, _, _, _)
 rw [e]
theorem dec_83_in (x : Int) (hx0 : 0 ≤ x) (hx1 : x < 4294967296) {p q : Int} (hp : x / 128 % 32 = p) (hq : x / 33554432 % 128 = q) (hle : p + q * 32 ≤ 2047) : Dec 83 x = (0, x / 32768 % 32, x / 1048576 % 32, p + q * 32) := by
 have e : sgn 4096 (x / 128 % 32 + 32 * (x / 33554432)) = p + q * 32 := by
  have h : x / 128 % 32 + 32 * (x / 33554432) = p + q * 32 := by omega
  rw [h]
  clear h
  unfold sgn
  split <;> omega
 show (_, _, _, _) = (_, _, _, _)
 rw [e]
theorem dec_83_out (x : Int) (hx0 : 0 ≤ x) (hx1 : x < 4294967296) {p q : Int} (hp : x / 128 % 32 = p) (hq : x / 33554432 % 128 = q) (hle : 2047 < p + q * 32) : Dec 83 x = (0, x / 32768 % 32, x / 1048576 % 32, p + q * 32 + -4096) := by
 have e : sgn 4096 (x / 128 % 32 + 32 * (x / 33554432)) = p + q * 32 + -4096 := by
  have h : x / 128 % 32 + 32 * (x / 33554432) = p + q * 32 := by omega
  rw [h]
  clear h
  unfold sgn
  split <;> omega
 show (_, _, _, _) = (_, _, _, _)
 rw [e]
theorem dec_66_in (x : Int) (hx0 : 0 ≤ x) (hx1 : x < 4294967296) {p q s t : Int} (hp : x / 128 % 2 = p) (hq : x / 256 % 16 = q) (hs : x / 33554432 % 64 = s) (ht : x / 2147483648 % 2 = t) (hle : p * 2048 + q * 2 + s * 32 + t * 4096 ≤ 4094) : Dec 66 x = (0, x / 32768 % 32, x / 1048576 % 32, p * 2048 + q * 2 + s * 32 + t * 4096) := by
 have hle2 : p * 2048 + q * 2 + s * 32 + t * 4096 < 4096 := by omega
 have e : sgn 8192 (2 * (x / 256 % 16) + 32 * (x / 33554432 % 64) + 2048 * (x / 128 % 2) + 4096 * (x / 2147483648)) = p * 2048 + q * 2 + s * 32 + t * 4096 := by
  have h : 2 * (x / 256 % 16) + 32 * (x / 33554432 % 64) + 2048 * (x / 128 % 2) + 4096 * (x / 2147483648) = p * 2048 + q * 2 + s * 32 + t * 4096 := by omega
  rw [h]
  clear h
  unfold sgn
  split <;> omega
 show (_, _, _, _) = (_, _, _, _)
 rw [e]
theorem dec_66_out (x : Int) (hx0 : 0 ≤ x) (hx1 : x < 4294967296) {p q s t : Int} (hp : x / 128 % 2 = p) (hq : x / 256 % 16 = q) (hs : x / 33554432 % 64 = s) (ht : x / 2147483648 % 2 = t) (hle : 4094 < p * 2048 + q * 2 + s * 32 + t * 4096) : Dec 66 x = (0, x / 32768 % 32, x / 1048576 % 32, p * 2048 + q * 2 + s * 32 + t * 4096 + -8192) := by
 have e : sgn 8192 (2 * (x / 256 % 16) + 32 * (x / 33554432 % 64) + 2048 * (x / 128 % 2) + 4096 * (x / 2147483648)) = p * 2048 + q * 2 + s * 32 + t * 4096 + -8192 := by
  have h : 2 * (x / 256 % 16) + 32 * (x / 33554432 % 64) + 2048 * (x / 128 % 2) + 4096 * (x / 2147483648) = p * 2048 + q * 2 + s * 32 + t * 4096 := by omega
  rw [h]
  clear h
  unfold sgn
  split <;> omega
 show (_, _, _, _) = (_, _, _, _)
 rw [e]
theorem dec_85_in (x : Int) (hx0 : 0 ≤ x) (hx1 : x < 4294967296) {p : Int} (hp : x / 4096 % 1048576 = p) (hle : p ≤ 524287) : Dec 85 x = (x / 128 % 32, 0, 0, p) := by
 have e : sgn 1048576 (x / 4096) = p := by
  have h : x / 4096 = p := by omega
  rw [h]
  clear h
  unfold sgn
  split <;> omega
 show (_, _, _, _) = (_, _, _, _)
 rw [e]
theorem dec_85_out (x : Int) (hx0 : 0 ≤ x) (hx1 : x < 4294967296) {p : Int} (hp : x / 4096 % 1048576 = p) (hle : 524287 < p) : Dec 85 x = (x / 128 % 32, 0, 0, p + -1048576) := by
 have e : sgn 1048576 (x / 4096) = p + -1048576 := by
  have h : x / 4096 = p := by omega
  rw [h]
  clear h
  unfold sgn
  split <;> omega
 show (_, _, _, _) = (_, _, _, _)
 rw [e]
theorem dec_74_in (x : Int) (hx0 : 0 ≤ x) (hx1 : x < 4294967296) {p q s t : Int} (hp : x / 4096 % 256 = p) (hq : x / 1048576 % 2 = q) (hs : x / 2097152 % 1024 = s) (ht : x / 2147483648 % 2 = t) (hle : p * 4096 + q * 2048 + s * 2 + t * 1048576 ≤ 1048574) : Dec 74 x = (x / 128 % 32, 0, 0, p * 4096 + q * 2048 + s * 2 + t * 1048576) := by
 have hle2 : p * 4096 + q * 2048 + s * 2 + t * 1048576 < 1048576 := by omega
 have e : sgn 2097152 (2 * (x / 2097152 % 1024) + 2048 * (x / 1048576 % 2) + 4096 * (x / 4096 % 256) + 1048576 * (x / 2147483648)) = p * 4096 + q * 2048 + s * 2 + t * 1048576 := by
  have h : 2 * (x / 2097152 % 1024) + 2048 * (x / 1048576 % 2) + 4096 * (x / 4096 % 256) + 1048576 * (x / 2147483648) = p * 4096 + q * 2048 + s * 2 + t * 1048576 := by omega
  rw [h]
  clear h
  unfold sgn
  split <;> omega
 show (_, _, _, _) = (_, _, _, _)
 rw [e]
theorem dec_74_out (x : Int) (hx0 : 0 ≤ x) (hx1 : x < 4294967296) {p q s t : Int} (hp : x / 4096 % 256 = p) (hq : x / 1048576 % 2 = q) (hs : x / 2097152 % 1024 = s) (ht : x / 2147483648 % 2 = t) (hle : 1048574 < p * 4096 + q * 2048 + s * 2 + t * 1048576) : Dec 74 x = (x / 128 % 32, 0, 0, p * 4096 + q * 2048 + s * 2 + t * 1048576 + -2097152) := by
 have e : sgn 2097152 (2 * (x / 2097152 % 1024) + 2048 * (x / 1048576 % 2) + 4096 * (x / 4096 % 256) + 1048576 * (x / 2147483648)) = p * 4096 + q * 2048 + s * 2 + t * 1048576 + -2097152 := by
  have h : 2 * (x / 2097152 % 1024) + 2048 * (x / 1048576 % 2) + 4096 * (x / 4096 % 256) + 1048576 * (x / 2147483648) = p * 4096 + q * 2048 + s * 2 + t * 1048576 := by omega
  rw [h]
  clear h
  unfold sgn
  split <;> omega
 show (_, _, _, _) = (_, _, _, _)
 rw [e]

set_option maxHeartbeats 8000000 in
set_option maxRecDepth 100000 in
theorem dec_calls (x : Int) (hx0 : 0 ≤ x) (hx1 : x < 4294967296) (w : World) : Calls Try.prog 11 #[.int .u32 x] w fun e w' => ((∃ r ∈ cm_e13, Hit r x ∧ e = .returned (.tuple #[.agg #[.int .i64 r.n, .int .i64 (Dec r.form x).1, .int .i64 (Dec r.form x).2.1, .int .i64 (Dec r.form x).2.2.1, .int .i64 (Dec r.form x).2.2.2], .int .i64 0])) ∨ ((∀ r ∈ cm_e13, ¬ Hit r x) ∧ e = .returned (.tuple #[.agg #[.int .i64 0, .int .i64 0, .int .i64 0, .int .i64 0, .int .i64 0], .int .i64 2]))) ∧ Below w.heap.size w w' := by
 have HB := Aside0.mk (Below.refl w.heap.size w)
 have hu29 := Try.underlying29
 have hu48 := Try.underlying48
 have hu54 := Try.underlying54
 have eand : bits BinOp.and IntKind.u32 x 127 = x % 128 := u32_andm 7 127 (by decide) (by decide) x hx0 hx1
 go_enter Try.func11, Try.ntmps11
 go_wp2_with (first | ((with_reducible refine gate_dst (N := 2) rfl ?_); (try (refine gate_guard (by rfl) ?_; dsimp only)); refine box_event ?hg (N := 2) ?hd (cs := #[.int .i64 0, .int .i64 0, .int .i64 0, .int .i64 0, .int .i64 0]) (t := 29) ?hr ?_; (case hd => rfl); (case hg => rfl); (case hr => first | (go_simp; done) | (go_simp; rfl)); intro g2 hg w1 hbox hb; have n0_ := Aside0.mk (below_step (by repeat (first | (with_reducible first | exact HB.out | apply below_alloc | apply pw_below_drewN | apply below_drew1) | exact HB.out)) hb); have n1_ := Aside0.mk hbox; have n2_ := Aside0.mk ((by rw [hg]; exact (below_size (by repeat (first | (with_reducible first | exact HB.out | apply below_alloc | apply pw_below_drewN | apply below_drew1) | exact HB.out)))) : w.heap.size ≤ g2); clear HB; have HB := n0_; have BK2 := n1_; have GE2 := n2_; clear n0_ n1_ n2_; clear hb hbox hg; have hc2_0 : w1.cell? ⟨g2, 0, none⟩ = some (.int .i64 0) := (blk_cell BK2.out 0).trans rfl; have hc2_1 : w1.cell? ⟨g2, 1, none⟩ = some (.int .i64 0) := (blk_cell BK2.out 1).trans rfl; have hc2_2 : w1.cell? ⟨g2, 2, none⟩ = some (.int .i64 0) := (blk_cell BK2.out 2).trans rfl; have hc2_3 : w1.cell? ⟨g2, 3, none⟩ = some (.int .i64 0) := (blk_cell BK2.out 3).trans rfl; have hc2_4 : w1.cell? ⟨g2, 4, none⟩ = some (.int .i64 0) := (blk_cell BK2.out 4).trans rfl; have hf2_0 := blk_frozen BK2.out 0; have hf2_1 := blk_frozen BK2.out 1; have hf2_2 := blk_frozen BK2.out 2; have hf2_3 := blk_frozen BK2.out 3; have hf2_4 := blk_frozen BK2.out 4) | (go_at_call 14; refine (code_shapes' _).mono ?_; rintro e w2 ⟨gm, hgm, rfl, hm, hb⟩; have hrg := run_range_map (P := Try.prog) w2 50 _ _ gm cm_es cm_clk Try.underlying50 hm; obtain ⟨gr, hgr⟩ : ∃ g, w2.heap.size = g := ⟨_, rfl⟩; rw [hgr] at hrg; have HGR := Aside0.mk hgr; clear hgr; have n0_ := Aside0.mk (blk_below (by (with_reducible repeat (first | refine blk_drewN ?_ _ | refine blk_drew ?_ | refine blk_alloc ?_ _)); exact BK2.out) hb); have n1_ := Aside0.mk (below_step (by repeat (first | (with_reducible first | exact HB.out | apply below_alloc | apply pw_below_drewN | apply below_drew1 | refine below_set ?_ GE2.out) | exact HB.out)) hb); have n2_ := Aside0.mk hm; have n3_ := Aside0.mk ((by rw [hgm]; exact Nat.ne_of_lt (blk_lt (by (with_reducible repeat (first | refine blk_drewN ?_ _ | refine blk_drew ?_ | refine blk_alloc ?_ _)); exact BK2.out))) : g2 ≠ gm); clear BK2; clear HB; have BK2 := n0_; have HB := n1_; have BKm := n2_; have NB2_m := n3_; clear n0_ n1_ n2_ n3_; clear hb hm hgm))
 have NEr_m := Aside0.mk ((by rw [← HGR.out]; exact (Nat.ne_of_lt (blk_lt BKm.out)).symm) : gr ≠ gm)
 have NEr_2 := Aside0.mk ((by rw [← HGR.out]; exact (Nat.ne_of_lt (blk_lt BK2.out)).symm) : gr ≠ g2)
 have GEr := Aside0.mk ((by rw [← HGR.out]; exact HB.out.size) : w.heap.size ≤ gr)
 go_loopg [] 55 (fun gg w' => ∃ seen c0, (leftOf cm_es seen).size ≤ gg ∧ Aside0 (cm_clk ≤ c0) ∧ Aside0 (w'.heap[gr]? = some (.mapIter (some gm) cm_clk seen c0)) ∧ Aside0 (w'.heap[gm]? = some (.map cm_es cm_clk)) ∧ Aside0 (w'.heap[g2]? = some (.cells #[.int .i64 0, .int .i64 0, .int .i64 0, .int .i64 0, .int .i64 0] 29 (0, 0))) ∧ Aside0 (Below w.heap.size w w') ∧ Aside0 (∀ e ∈ cm_es.toList, seen.contains e.born = true → ¬ Hit (entRow e) x))
 case atStart =>
  refine ⟨#[], cm_clk, cm_left0, ⟨Nat.le_refl _⟩, ⟨?_⟩, ⟨blk_al BKm.out _⟩, ⟨blk_al BK2.out _⟩, ⟨HB.out.alloc HB.out.size _⟩, ⟨fun e _ h => by simp at h⟩⟩
  rw [← HGR.out]
  exact heap_alloc_new w2 _
 case round =>
  clear BKm BK2 HB hrg
  obtain ⟨seen, c0, hg, HC0, BKr, BKm, BK2, HB, HNO⟩ := hrel
  have NE := Aside0.mk (And.intro NEr_m.out NEr_2.out)
  have law := run_next_at (P := Try.prog) wr 0 gr gm cm_clk c0 seen cm_es cm_clk BKr.out BKm.out cm_hold HC0.out
  rcases law with ⟨h0, hrun⟩ | ⟨e, he, w1', hw1, hrun⟩
  ·have hnx : ∀ ty, (Instr.next (.pointer (some ⟨gr, 0, none⟩)) false ty).run Try.prog wr = _ := fun _ => hrun
   have hNO : ∀ r ∈ cm_e13, ¬ Hit r x := fun r hr => by
    obtain ⟨e, he, h⟩ := cm_ents_of cm_e13 0 r hr
    have := HNO.out e (by simpa [cm_es] using he) (all_seen cm_es seen h0 e (by simpa [cm_es] using he))
    rwa [h] at this
   have HNO2 := Aside0.mk hNO
   clear hNO
   have hc2_0 : wr.cell? ⟨g2, 0, none⟩ = some (.int .i64 0) := (blk_cell BK2.out 0).trans rfl
   have hc2_1 : wr.cell? ⟨g2, 1, none⟩ = some (.int .i64 0) := (blk_cell BK2.out 1).trans rfl
   have hc2_2 : wr.cell? ⟨g2, 2, none⟩ = some (.int .i64 0) := (blk_cell BK2.out 2).trans rfl
   have hc2_3 : wr.cell? ⟨g2, 3, none⟩ = some (.int .i64 0) := (blk_cell BK2.out 3).trans rfl
   have hc2_4 : wr.cell? ⟨g2, 4, none⟩ = some (.int .i64 0) := (blk_cell BK2.out 4).trans rfl
   have hf2_0 := blk_frozen BK2.out 0
   have hf2_1 := blk_frozen BK2.out 1
   have hf2_2 := blk_frozen BK2.out 2
   have hf2_3 := blk_frozen BK2.out 3
   have hf2_4 := blk_frozen BK2.out 4
   go_wp2
   refine bodyPost_ret (dec_res _ _ g2 _ (0, 0) rfl (dec_put5 BK2.out _ _ _ _ _) rfl) rfl ?_
   exact ⟨.inr ⟨HNO2.out, rfl⟩, ((((HB.out.setCell GE2.out _).setCell GE2.out _).setCell GE2.out _).setCell GE2.out _).setCell GE2.out _⟩
  ·obtain ⟨row, hrow, hkey, hval, _⟩ := cm_ents_mem cm_e13 0 e (by simpa [cm_es] using (mem_left he).1)
   have hent : entRow e = row := by simp only [entRow, hkey, hval, cm_val]
   rw [hkey, hval] at hrun
   obtain ⟨k1, k2, k3⟩ := dec_step hw1 BKr.out (.mapIter (some gm) cm_clk (seen.push e.born) cm_clk)
   obtain ⟨wn, hwn⟩ : ∃ w', ChangeMaps.setBlock w1' gr (.mapIter (some gm) cm_clk (seen.push e.born) cm_clk) = w' := ⟨_, rfl⟩
   rw [hwn] at hrun k1 k2 k3
   have bk2 := (k2 g2 NEr_2.out.symm).trans BK2.out
   have bkm := (k2 gm NEr_m.out.symm).trans BKm.out
   have hb := k3 _ _ GEr.out HB.out
   clear hwn hw1 k2 k3 BK2 BKm BKr HB
   have BKr := Aside0.mk k1
   have BKm := Aside0.mk bkm
   have BK2 := Aside0.mk bk2
   have HB := Aside0.mk hb
   clear k1 bkm bk2 hb
   have hen := run_entry_at (P := Try.prog) wn gr gm cm_clk seen cm_es cm_clk e BKr.out BKm.out (mem_left he).1 cm_nodup
   rw [hkey, hval] at hen
   have hnx : ∀ ty, (Instr.next (.pointer (some ⟨gr, 0, none⟩)) false ty).run Try.prog wr = _ := fun _ => hrun
   have HROW := Aside0.mk hrow
   have HENT := Aside0.mk hent
   have HE := Aside0.mk he
   have HSH := Aside0.mk (left_shrinks cm_es seen e he)
   obtain ⟨n, f, o, s3, s7⟩ := row
   simp only [cm_val] at hen hrun hval
   clear hrow hent he hkey hval
   go_upto_region 3 with (fail)
   go_cut [4, 5] (fun v4 v5 wc => v4 = .int .i64 n ∧ ∃ g5, v5 = .pointer (some ⟨g5, 0, none⟩) ∧ Aside0 (wc.heap[g5]? = some (.cells #[.int .u8 f, .int .u32 o, .int .u32 s3, .int .u32 s7] 48 (0, 0))) ∧ Aside0 (wc.heap[gr]? = some (.mapIter (some gm) cm_clk (seen.push e.born) cm_clk)) ∧ Aside0 (wc.heap[gm]? = some (.map cm_es cm_clk)) ∧ Aside0 (wc.heap[g2]? = some (.cells #[.int .i64 0, .int .i64 0, .int .i64 0, .int .i64 0, .int .i64 0] 29 (0, 0))) ∧ Aside0 (Below w.heap.size w wc))
   case first =>
    go_wp2
    go_meet
    case rel => exact ⟨rfl, _, rfl, ⟨heap_alloc_new wn _⟩, ⟨blk_al BKr.out _⟩, ⟨blk_al BKm.out _⟩, ⟨blk_al BK2.out _⟩, ⟨HB.out.alloc HB.out.size _⟩⟩
   case rest =>
    clear BKr BKm BK2 HB hen hnx hrun
    obtain ⟨rfl, g5, rfl, BK5, BKr, BKm, BK2, HB⟩ := hcut
    have hc5_0 : wc.cell? ⟨g5, 0, none⟩ = some (.int .u8 f) := (blk_cell BK5.out 0).trans rfl
    have hc5_1 : wc.cell? ⟨g5, 1, none⟩ = some (.int .u32 o) := (blk_cell BK5.out 1).trans rfl
    have hc5_2 : wc.cell? ⟨g5, 2, none⟩ = some (.int .u32 s3) := (blk_cell BK5.out 2).trans rfl
    have hc5_3 : wc.cell? ⟨g5, 3, none⟩ = some (.int .u32 s7) := (blk_cell BK5.out 3).trans rfl
    have hf5_0 := blk_frozen BK5.out 0
    have hf5_1 := blk_frozen BK5.out 1
    have hf5_2 := blk_frozen BK5.out 2
    have hf5_3 := blk_frozen BK5.out 3
    by_cases hox : o = x % 128
    ·have HOX := Aside0.mk hox
     have e7 : bits BinOp.and IntKind.u32 (x / 128) 31 = x / 128 % 32 := u32_andm 5 31 (by decide) (by decide) _ (by omega) (by omega)
     have e15 : bits BinOp.and IntKind.u32 (x / 32768) 31 = x / 32768 % 32 := u32_andm 5 31 (by decide) (by decide) _ (by omega) (by omega)
     have e20 : bits BinOp.and IntKind.u32 (x / 1048576) 31 = x / 1048576 % 32 := u32_andm 5 31 (by decide) (by decide) _ (by omega) (by omega)
     have hF := (rows_ok _ HROW.out).2.2.2
     simp only at hF
     have hF8 : f = 82 ∨ f = 84 ∨ f = 73 ∨ f = 83 ∨ f = 66 ∨ f = 78 ∨ f = 85 ∨ f = 74 := by omega
     clear hF
     rcases hF8 with rfl | rfl | rfl | rfl | rfl | rfl | rfl | rfl
     ·as_aux_lemma =>
       go_upto_region 5 with (fail)
       go_cut [6] (fun v6 wc => ∃ g6, v6 = .pointer (some ⟨g6, 0, none⟩) ∧ Aside0 (wc.heap[g6]? = some (.cells #[.int .i64 n, .int .i64 0, .int .i64 0, .int .i64 0, .int .i64 0] 29 (0, 0))) ∧ Aside0 (g5 ≠ g6) ∧ Aside0 (gr ≠ g6) ∧ Aside0 (gm ≠ g6) ∧ Aside0 (g2 ≠ g6) ∧ Aside0 (w.heap.size ≤ g6) ∧ Aside0 (wc.heap[g5]? = some (.cells #[.int .u8 82, .int .u32 o, .int .u32 s3, .int .u32 s7] 48 (0, 0))) ∧ Aside0 (wc.heap[gr]? = some (.mapIter (some gm) cm_clk (seen.push e.born) cm_clk)) ∧ Aside0 (wc.heap[gm]? = some (.map cm_es cm_clk)) ∧ Aside0 (wc.heap[g2]? = some (.cells #[.int .i64 0, .int .i64 0, .int .i64 0, .int .i64 0, .int .i64 0] 29 (0, 0))) ∧ Aside0 (Below w.heap.size w wc))
       case first =>
        go_wp2
        go_meet
        case rel => exact ⟨_, rfl, ⟨heap_alloc_new _ _⟩, ⟨Nat.ne_of_lt (blk_lt BK5.out)⟩, ⟨Nat.ne_of_lt (blk_lt BKr.out)⟩, ⟨Nat.ne_of_lt (blk_lt BKm.out)⟩, ⟨Nat.ne_of_lt (blk_lt BK2.out)⟩, ⟨HB.out.size⟩, ⟨blk_al BK5.out _⟩, ⟨blk_al BKr.out _⟩, ⟨blk_al BKm.out _⟩, ⟨blk_al BK2.out _⟩, ⟨HB.out.alloc HB.out.size _⟩⟩
       case rest =>
        clear BK5 BKr BKm BK2 HB hc5_0 hc5_1 hc5_2 hc5_3 hf5_0 hf5_1 hf5_2 hf5_3
        obtain ⟨g6, rfl, BK6, NB5_6, NBr_6, NBm_6, NB2_6, GE6, BK5, BKr, BKm, BK2, HB⟩ := hcut
        have hc5_0 : wc.cell? ⟨g5, 0, none⟩ = some (.int .u8 82) := (blk_cell BK5.out 0).trans rfl
        have hc5_1 : wc.cell? ⟨g5, 1, none⟩ = some (.int .u32 o) := (blk_cell BK5.out 1).trans rfl
        have hc5_2 : wc.cell? ⟨g5, 2, none⟩ = some (.int .u32 s3) := (blk_cell BK5.out 2).trans rfl
        have hc5_3 : wc.cell? ⟨g5, 3, none⟩ = some (.int .u32 s7) := (blk_cell BK5.out 3).trans rfl
        have hf5_0 := blk_frozen BK5.out 0
        have hf5_1 := blk_frozen BK5.out 1
        have hf5_2 := blk_frozen BK5.out 2
        have hf5_3 := blk_frozen BK5.out 3
        go_upto_region 6 with (fail)
        go_cut [7] (fun v7 wc => ∃ g7, v7 = .pointer (some ⟨g7, 0, none⟩) ∧ Aside0 (wc.heap[g7]? = some (.cells #[.bool true, .bool true, .bool true] 54 (0, 0))) ∧ Aside0 (g6 ≠ g7) ∧ Aside0 (wc.heap[g6]? = some (.cells #[.int .i64 n, .int .i64 0, .int .i64 0, .int .i64 0, .int .i64 0] 29 (0, 0))) ∧ Aside0 (wc.heap[g5]? = some (.cells #[.int .u8 82, .int .u32 o, .int .u32 s3, .int .u32 s7] 48 (0, 0))) ∧ Aside0 (wc.heap[gr]? = some (.mapIter (some gm) cm_clk (seen.push e.born) cm_clk)) ∧ Aside0 (wc.heap[gm]? = some (.map cm_es cm_clk)) ∧ Aside0 (wc.heap[g2]? = some (.cells #[.int .i64 0, .int .i64 0, .int .i64 0, .int .i64 0, .int .i64 0] 29 (0, 0))) ∧ Aside0 (Below w.heap.size w wc))
        case first =>
         go_wp2_with (first | (go_at_call 16; refine (cf_uses_calls' 82 (by simp [FormOk]) true true true rfl _).mono ?_; rintro e w5 ⟨rfl, hb⟩; have n0_ := Aside0.mk (blk_below BK5.out hb); have n1_ := Aside0.mk (blk_below BK6.out hb); have n2_ := Aside0.mk (blk_below BKr.out hb); have n3_ := Aside0.mk (blk_below BKm.out hb); have n4_ := Aside0.mk (blk_below BK2.out hb); have n5_ := Aside0.mk (below_step HB.out hb); clear BK5; clear BK6; clear BKr; clear BKm; clear BK2; clear HB; have BK5 := n0_; have BK6 := n1_; have BKr := n2_; have BKm := n3_; have BK2 := n4_; have HB := n5_; clear n0_ n1_ n2_ n3_ n4_ n5_; clear hb))
         go_meet
         case rel => exact ⟨_, rfl, ⟨heap_alloc_new _ _⟩, ⟨Nat.ne_of_lt (blk_lt BK6.out)⟩, ⟨blk_al BK6.out _⟩, ⟨blk_al BK5.out _⟩, ⟨blk_al BKr.out _⟩, ⟨blk_al BKm.out _⟩, ⟨blk_al BK2.out _⟩, ⟨HB.out.alloc HB.out.size _⟩⟩
        case rest =>
         clear BK6 BK5 BKr BKm BK2 HB hc5_0 hc5_1 hc5_2 hc5_3 hf5_0 hf5_1 hf5_2 hf5_3
         obtain ⟨g7, rfl, BK7, NB6_7, BK6, BK5, BKr, BKm, BK2, HB⟩ := hcut
         have hc7_0 : wc.cell? ⟨g7, 0, none⟩ = some (.bool true) := (blk_cell BK7.out 0).trans rfl
         have hc7_1 : wc.cell? ⟨g7, 1, none⟩ = some (.bool true) := (blk_cell BK7.out 1).trans rfl
         have hc7_2 : wc.cell? ⟨g7, 2, none⟩ = some (.bool true) := (blk_cell BK7.out 2).trans rfl
         have hf7_0 := blk_frozen BK7.out 0
         have hf7_1 := blk_frozen BK7.out 1
         have hf7_2 := blk_frozen BK7.out 2
         go_upto_block 2 with (fail)
         go_cut [] (fun wc => Aside0 (wc.heap[g6]? = some (.cells #[.int .i64 n, .int .i64 (x / 128 % 32), .int .i64 (x / 32768 % 32), .int .i64 (x / 1048576 % 32), .int .i64 0] 29 (0, 0))) ∧ Aside0 (wc.heap[g5]? = some (.cells #[.int .u8 82, .int .u32 o, .int .u32 s3, .int .u32 s7] 48 (0, 0))) ∧ Aside0 (wc.heap[gr]? = some (.mapIter (some gm) cm_clk (seen.push e.born) cm_clk)) ∧ Aside0 (wc.heap[gm]? = some (.map cm_es cm_clk)) ∧ Aside0 (wc.heap[g2]? = some (.cells #[.int .i64 0, .int .i64 0, .int .i64 0, .int .i64 0, .int .i64 0] 29 (0, 0))) ∧ Aside0 (Below w.heap.size w wc))
         case first =>
          have hc6_0 : wc.cell? ⟨g6, 0, none⟩ = some (.int .i64 n) := (blk_cell BK6.out 0).trans rfl
          have hc6_1 : wc.cell? ⟨g6, 1, none⟩ = some (.int .i64 0) := (blk_cell BK6.out 1).trans rfl
          have hc6_2 : wc.cell? ⟨g6, 2, none⟩ = some (.int .i64 0) := (blk_cell BK6.out 2).trans rfl
          have hc6_3 : wc.cell? ⟨g6, 3, none⟩ = some (.int .i64 0) := (blk_cell BK6.out 3).trans rfl
          have hc6_4 : wc.cell? ⟨g6, 4, none⟩ = some (.int .i64 0) := (blk_cell BK6.out 4).trans rfl
          have hf6_0 := blk_frozen BK6.out 0
          have hf6_1 := blk_frozen BK6.out 1
          have hf6_2 := blk_frozen BK6.out 2
          have hf6_3 := blk_frozen BK6.out 3
          have hf6_4 := blk_frozen BK6.out 4
          have hnb6 := NB6_7.out
          have hnb7 := NB6_7.out.symm
          go_wp2
          have i0 := dec_i66_0
          have j0 := enc_i56_0
          have i1 := dec_i66_1
          have j1 := enc_i56_1
          have i2 := dec_i66_2
          have j2 := enc_i56_2
          refine wp_loop_rounds 4 ?_
          rw [rounds_succ]
          go_wp2
          rw [rounds_succ]
          go_wp2
          rw [rounds_succ]
          go_wp2
          rw [rounds_succ]
          go_wp2
          go_meet
          case rel => exact ⟨⟨blk_put (cs := #[.int .i64 n, .int .i64 (x / 128 % 32), .int .i64 (x / 32768 % 32), .int .i64 0, .int .i64 0]) (blk_put (cs := #[.int .i64 n, .int .i64 (x / 128 % 32), .int .i64 0, .int .i64 0, .int .i64 0]) (blk_put (cs := #[.int .i64 n, .int .i64 0, .int .i64 0, .int .i64 0, .int .i64 0]) (BK6.out) 1 _ rfl) 2 _ rfl) 3 _ rfl⟩, ⟨by rw [Below.heap_setCell _ _ _ _ NB5_6.out, Below.heap_setCell _ _ _ _ NB5_6.out, Below.heap_setCell _ _ _ _ NB5_6.out]; exact BK5.out⟩, ⟨by rw [Below.heap_setCell _ _ _ _ NBr_6.out, Below.heap_setCell _ _ _ _ NBr_6.out, Below.heap_setCell _ _ _ _ NBr_6.out]; exact BKr.out⟩, ⟨by rw [Below.heap_setCell _ _ _ _ NBm_6.out, Below.heap_setCell _ _ _ _ NBm_6.out, Below.heap_setCell _ _ _ _ NBm_6.out]; exact BKm.out⟩, ⟨by rw [Below.heap_setCell _ _ _ _ NB2_6.out, Below.heap_setCell _ _ _ _ NB2_6.out, Below.heap_setCell _ _ _ _ NB2_6.out]; exact BK2.out⟩, ⟨(((HB.out.setCell GE6.out _).setCell GE6.out _).setCell GE6.out _)⟩⟩
         case rest =>
          clear BK7 BK6 BK5 BKr BKm BK2 HB hc7_0 hc7_1 hc7_2 hf7_0 hf7_1 hf7_2
          obtain ⟨BK6, BK5, BKr, BKm, BK2, HB⟩ := hcut
          have hc5_0 : wc.cell? ⟨g5, 0, none⟩ = some (.int .u8 82) := (blk_cell BK5.out 0).trans rfl
          have hc5_1 : wc.cell? ⟨g5, 1, none⟩ = some (.int .u32 o) := (blk_cell BK5.out 1).trans rfl
          have hc5_2 : wc.cell? ⟨g5, 2, none⟩ = some (.int .u32 s3) := (blk_cell BK5.out 2).trans rfl
          have hc5_3 : wc.cell? ⟨g5, 3, none⟩ = some (.int .u32 s7) := (blk_cell BK5.out 3).trans rfl
          have hf5_0 := blk_frozen BK5.out 0
          have hf5_1 := blk_frozen BK5.out 1
          have hf5_2 := blk_frozen BK5.out 2
          have hf5_3 := blk_frozen BK5.out 3
          clear e7 e15 e20 eand
          go_upto_block 4 with (first | (go_at_call 17; refine (cf_pcall_82 _).mono ?_; rintro e w5 ⟨rfl, hb⟩; have n0_ := Aside0.mk (blk_below BK5.out hb); have n1_ := Aside0.mk (blk_below BK6.out hb); have n2_ := Aside0.mk (blk_below BKr.out hb); have n3_ := Aside0.mk (blk_below BKm.out hb); have n4_ := Aside0.mk (blk_below BK2.out hb); have n5_ := Aside0.mk (below_step HB.out hb); clear BK5; clear BK6; clear BKr; clear BKm; clear BK2; clear HB; have BK5 := n0_; have BK6 := n1_; have BKr := n2_; have BKm := n3_; have BK2 := n4_; have HB := n5_; clear n0_ n1_ n2_ n3_ n4_ n5_; clear hb))
          go_cut [] (fun wc => Aside0 (wc.heap[g6]? = some (.cells #[.int .i64 n, .int .i64 (x / 128 % 32), .int .i64 (x / 32768 % 32), .int .i64 (x / 1048576 % 32), .int .i64 0] 29 (0, 0))) ∧ Aside0 (wc.heap[g5]? = some (.cells #[.int .u8 82, .int .u32 o, .int .u32 s3, .int .u32 s7] 48 (0, 0))) ∧ Aside0 (wc.heap[gr]? = some (.mapIter (some gm) cm_clk (seen.push e.born) cm_clk)) ∧ Aside0 (wc.heap[gm]? = some (.map cm_es cm_clk)) ∧ Aside0 (wc.heap[g2]? = some (.cells #[.int .i64 0, .int .i64 0, .int .i64 0, .int .i64 0, .int .i64 0] 29 (0, 0))) ∧ Aside0 (Below w.heap.size w wc))
          case first =>
           clear hc5_0 hc5_1 hc5_2 hc5_3 hf5_0 hf5_1 hf5_2 hf5_3
           go_wp2
           refine wp_loop_rounds 1 ?_
           rw [rounds_succ]
           go_wp2
           go_meet
           case rel => exact ⟨BK6, BK5, BKr, BKm, BK2, HB⟩
          case rest =>
           clear BK6 BK5 BKr BKm BK2 HB hc5_0 hc5_1 hc5_2 hc5_3 hf5_0 hf5_1 hf5_2 hf5_3
           obtain ⟨BK6, BK5, BKr, BKm, BK2, HB⟩ := hcut
           have hc5_0 : wc.cell? ⟨g5, 0, none⟩ = some (.int .u8 82) := (blk_cell BK5.out 0).trans rfl
           have hc5_1 : wc.cell? ⟨g5, 1, none⟩ = some (.int .u32 o) := (blk_cell BK5.out 1).trans rfl
           have hc5_2 : wc.cell? ⟨g5, 2, none⟩ = some (.int .u32 s3) := (blk_cell BK5.out 2).trans rfl
           have hc5_3 : wc.cell? ⟨g5, 3, none⟩ = some (.int .u32 s7) := (blk_cell BK5.out 3).trans rfl
           have hf5_0 := blk_frozen BK5.out 0
           have hf5_1 := blk_frozen BK5.out 1
           have hf5_2 := blk_frozen BK5.out 2
           have hf5_3 := blk_frozen BK5.out 3
           have hc6_0 : wc.cell? ⟨g6, 0, none⟩ = some (.int .i64 n) := (blk_cell BK6.out 0).trans rfl
           have hc6_1 : wc.cell? ⟨g6, 1, none⟩ = some (.int .i64 (x / 128 % 32)) := (blk_cell BK6.out 1).trans rfl
           have hc6_2 : wc.cell? ⟨g6, 2, none⟩ = some (.int .i64 (x / 32768 % 32)) := (blk_cell BK6.out 2).trans rfl
           have hc6_3 : wc.cell? ⟨g6, 3, none⟩ = some (.int .i64 (x / 1048576 % 32)) := (blk_cell BK6.out 3).trans rfl
           have hc6_4 : wc.cell? ⟨g6, 4, none⟩ = some (.int .i64 0) := (blk_cell BK6.out 4).trans rfl
           have hf6_0 := blk_frozen BK6.out 0
           have hf6_1 := blk_frozen BK6.out 1
           have hf6_2 := blk_frozen BK6.out 2
           have hf6_3 := blk_frozen BK6.out 3
           have hf6_4 := blk_frozen BK6.out 4
           clear hc5_1 hc5_2 hc5_3 hf5_1 hf5_2 hf5_3
           have HD := Aside0.mk (rfl : Dec 82 x = (x / 128 % 32, x / 32768 % 32, x / 1048576 % 32, 0))
           obtain ⟨⟨r0, r1⟩, hen⟩ : ∃ r, code_Encode.f n (x / 128 % 32) (x / 32768 % 32) (x / 1048576 % 32) (0) = some r := ⟨_, rfl⟩
           have HEN := Aside0.mk hen
           clear hen
           have HHIT := Aside0.mk (dec_hit ⟨n, 82, o, s3, s7⟩ x HD.out HEN.out)
           by_cases hr1 : r1 = 0
           ·by_cases hr0 : r0 = x
            ·have HH := Aside0.mk (HHIT.out.2 ⟨hr0, hr1⟩)
             go_wp2_with (first | (go_at_call 15; refine (cf_room_calls' 82 (by simp [FormOk]) (1) (0) rfl _).mono ?_; rintro e w' ⟨rfl, hw⟩; obtain rfl := hw.symm) | (go_at_call 9; (with_reducible refine (code_Encode.calls n (x / 128 % 32) (x / 32768 % 32) (x / 1048576 % 32) (0) r0 r1 _ HEN.out).mono ?_); rintro e w6 ⟨rfl, hb⟩; have n0_ := Aside0.mk (blk_below BK6.out hb); have n1_ := Aside0.mk (blk_below BKr.out hb); have n2_ := Aside0.mk (blk_below BKm.out hb); have n3_ := Aside0.mk (blk_below BK2.out hb); have n4_ := Aside0.mk (below_step HB.out hb); clear BK6; clear BKr; clear BKm; clear BK2; clear HB; have BK6 := n0_; have BKr := n1_; have BKm := n2_; have BK2 := n3_; have HB := n4_; clear n0_ n1_ n2_ n3_ n4_; clear hb; have hc6_0 : w6.cell? ⟨g6, 0, none⟩ = some (.int .i64 n) := (blk_cell BK6.out 0).trans rfl; have hc6_1 : w6.cell? ⟨g6, 1, none⟩ = some (.int .i64 (x / 128 % 32)) := (blk_cell BK6.out 1).trans rfl; have hc6_2 : w6.cell? ⟨g6, 2, none⟩ = some (.int .i64 (x / 32768 % 32)) := (blk_cell BK6.out 2).trans rfl; have hc6_3 : w6.cell? ⟨g6, 3, none⟩ = some (.int .i64 (x / 1048576 % 32)) := (blk_cell BK6.out 3).trans rfl; have hc6_4 : w6.cell? ⟨g6, 4, none⟩ = some (.int .i64 0) := (blk_cell BK6.out 4).trans rfl; have hf6_0 := blk_frozen BK6.out 0; have hf6_1 := blk_frozen BK6.out 1; have hf6_2 := blk_frozen BK6.out 2; have hf6_3 := blk_frozen BK6.out 3; have hf6_4 := blk_frozen BK6.out 4; have hc2_0 : w6.cell? ⟨g2, 0, none⟩ = some (.int .i64 0) := (blk_cell BK2.out 0).trans rfl; have hc2_1 : w6.cell? ⟨g2, 1, none⟩ = some (.int .i64 0) := (blk_cell BK2.out 1).trans rfl; have hc2_2 : w6.cell? ⟨g2, 2, none⟩ = some (.int .i64 0) := (blk_cell BK2.out 2).trans rfl; have hc2_3 : w6.cell? ⟨g2, 3, none⟩ = some (.int .i64 0) := (blk_cell BK2.out 3).trans rfl; have hc2_4 : w6.cell? ⟨g2, 4, none⟩ = some (.int .i64 0) := (blk_cell BK2.out 4).trans rfl; have hf2_0 := blk_frozen BK2.out 0; have hf2_1 := blk_frozen BK2.out 1; have hf2_2 := blk_frozen BK2.out 2; have hf2_3 := blk_frozen BK2.out 3; have hf2_4 := blk_frozen BK2.out 4))
             refine bodyPost_ret (dec_res _ _ g2 _ (0, 0) rfl (dec_put5 BK2.out _ _ _ _ _) rfl) rfl ?_
             exact ⟨.inl ⟨⟨n, 82, o, s3, s7⟩, HROW.out, HH.out, by simp only [HD.out]; rfl⟩, ((((HB.out.setCell GE2.out _).setCell GE2.out _).setCell GE2.out _).setCell GE2.out _).setCell GE2.out _⟩
            ·have HNH := Aside0.mk (fun h => by have hh := HHIT.out.1 h; exact hr0 hh.1 : ¬ Hit ⟨n, 82, o, s3, s7⟩ x)
             go_wp2_with (first | (go_at_call 15; refine (cf_room_calls' 82 (by simp [FormOk]) (1) (0) rfl _).mono ?_; rintro e w' ⟨rfl, hw⟩; obtain rfl := hw.symm) | (go_at_call 9; (with_reducible refine (code_Encode.calls n (x / 128 % 32) (x / 32768 % 32) (x / 1048576 % 32) (0) r0 r1 _ HEN.out).mono ?_); rintro e w6 ⟨rfl, hb⟩; have n0_ := Aside0.mk (blk_below BK6.out hb); have n1_ := Aside0.mk (blk_below BKr.out hb); have n2_ := Aside0.mk (blk_below BKm.out hb); have n3_ := Aside0.mk (blk_below BK2.out hb); have n4_ := Aside0.mk (below_step HB.out hb); clear BK6; clear BKr; clear BKm; clear BK2; clear HB; have BK6 := n0_; have BKr := n1_; have BKm := n2_; have BK2 := n3_; have HB := n4_; clear n0_ n1_ n2_ n3_ n4_; clear hb; have hc6_0 : w6.cell? ⟨g6, 0, none⟩ = some (.int .i64 n) := (blk_cell BK6.out 0).trans rfl; have hc6_1 : w6.cell? ⟨g6, 1, none⟩ = some (.int .i64 (x / 128 % 32)) := (blk_cell BK6.out 1).trans rfl; have hc6_2 : w6.cell? ⟨g6, 2, none⟩ = some (.int .i64 (x / 32768 % 32)) := (blk_cell BK6.out 2).trans rfl; have hc6_3 : w6.cell? ⟨g6, 3, none⟩ = some (.int .i64 (x / 1048576 % 32)) := (blk_cell BK6.out 3).trans rfl; have hc6_4 : w6.cell? ⟨g6, 4, none⟩ = some (.int .i64 0) := (blk_cell BK6.out 4).trans rfl; have hf6_0 := blk_frozen BK6.out 0; have hf6_1 := blk_frozen BK6.out 1; have hf6_2 := blk_frozen BK6.out 2; have hf6_3 := blk_frozen BK6.out 3; have hf6_4 := blk_frozen BK6.out 4; have hc2_0 : w6.cell? ⟨g2, 0, none⟩ = some (.int .i64 0) := (blk_cell BK2.out 0).trans rfl; have hc2_1 : w6.cell? ⟨g2, 1, none⟩ = some (.int .i64 0) := (blk_cell BK2.out 1).trans rfl; have hc2_2 : w6.cell? ⟨g2, 2, none⟩ = some (.int .i64 0) := (blk_cell BK2.out 2).trans rfl; have hc2_3 : w6.cell? ⟨g2, 3, none⟩ = some (.int .i64 0) := (blk_cell BK2.out 3).trans rfl; have hc2_4 : w6.cell? ⟨g2, 4, none⟩ = some (.int .i64 0) := (blk_cell BK2.out 4).trans rfl; have hf2_0 := blk_frozen BK2.out 0; have hf2_1 := blk_frozen BK2.out 1; have hf2_2 := blk_frozen BK2.out 2; have hf2_3 := blk_frozen BK2.out 3; have hf2_4 := blk_frozen BK2.out 4))
             go_roundg (leftOf cm_es (seen.push e.born)).size
             case measure => exact Nat.lt_of_lt_of_le HSH.out hg
             case rel => exact ⟨seen.push e.born, cm_clk, Nat.le_refl _, ⟨Nat.le_refl _⟩, BKr, BKm, BK2, HB, ⟨dec_no HNO.out HE.out (by rw [HENT.out]; exact HNH.out)⟩⟩
           ·have HNH := Aside0.mk (fun h => by have hh := HHIT.out.1 h; exact hr1 hh.2 : ¬ Hit ⟨n, 82, o, s3, s7⟩ x)
            go_wp2_with (first | (go_at_call 15; refine (cf_room_calls' 82 (by simp [FormOk]) (1) (0) rfl _).mono ?_; rintro e w' ⟨rfl, hw⟩; obtain rfl := hw.symm) | (go_at_call 9; (with_reducible refine (code_Encode.calls n (x / 128 % 32) (x / 32768 % 32) (x / 1048576 % 32) (0) r0 r1 _ HEN.out).mono ?_); rintro e w6 ⟨rfl, hb⟩; have n0_ := Aside0.mk (blk_below BK6.out hb); have n1_ := Aside0.mk (blk_below BKr.out hb); have n2_ := Aside0.mk (blk_below BKm.out hb); have n3_ := Aside0.mk (blk_below BK2.out hb); have n4_ := Aside0.mk (below_step HB.out hb); clear BK6; clear BKr; clear BKm; clear BK2; clear HB; have BK6 := n0_; have BKr := n1_; have BKm := n2_; have BK2 := n3_; have HB := n4_; clear n0_ n1_ n2_ n3_ n4_; clear hb; have hc6_0 : w6.cell? ⟨g6, 0, none⟩ = some (.int .i64 n) := (blk_cell BK6.out 0).trans rfl; have hc6_1 : w6.cell? ⟨g6, 1, none⟩ = some (.int .i64 (x / 128 % 32)) := (blk_cell BK6.out 1).trans rfl; have hc6_2 : w6.cell? ⟨g6, 2, none⟩ = some (.int .i64 (x / 32768 % 32)) := (blk_cell BK6.out 2).trans rfl; have hc6_3 : w6.cell? ⟨g6, 3, none⟩ = some (.int .i64 (x / 1048576 % 32)) := (blk_cell BK6.out 3).trans rfl; have hc6_4 : w6.cell? ⟨g6, 4, none⟩ = some (.int .i64 0) := (blk_cell BK6.out 4).trans rfl; have hf6_0 := blk_frozen BK6.out 0; have hf6_1 := blk_frozen BK6.out 1; have hf6_2 := blk_frozen BK6.out 2; have hf6_3 := blk_frozen BK6.out 3; have hf6_4 := blk_frozen BK6.out 4; have hc2_0 : w6.cell? ⟨g2, 0, none⟩ = some (.int .i64 0) := (blk_cell BK2.out 0).trans rfl; have hc2_1 : w6.cell? ⟨g2, 1, none⟩ = some (.int .i64 0) := (blk_cell BK2.out 1).trans rfl; have hc2_2 : w6.cell? ⟨g2, 2, none⟩ = some (.int .i64 0) := (blk_cell BK2.out 2).trans rfl; have hc2_3 : w6.cell? ⟨g2, 3, none⟩ = some (.int .i64 0) := (blk_cell BK2.out 3).trans rfl; have hc2_4 : w6.cell? ⟨g2, 4, none⟩ = some (.int .i64 0) := (blk_cell BK2.out 4).trans rfl; have hf2_0 := blk_frozen BK2.out 0; have hf2_1 := blk_frozen BK2.out 1; have hf2_2 := blk_frozen BK2.out 2; have hf2_3 := blk_frozen BK2.out 3; have hf2_4 := blk_frozen BK2.out 4))
            go_roundg (leftOf cm_es (seen.push e.born)).size
            case measure => exact Nat.lt_of_lt_of_le HSH.out hg
            case rel => exact ⟨seen.push e.born, cm_clk, Nat.le_refl _, ⟨Nat.le_refl _⟩, BKr, BKm, BK2, HB, ⟨dec_no HNO.out HE.out (by rw [HENT.out]; exact HNH.out)⟩⟩
     ·as_aux_lemma =>
       go_upto_region 5 with (fail)
       go_cut [6] (fun v6 wc => ∃ g6, v6 = .pointer (some ⟨g6, 0, none⟩) ∧ Aside0 (wc.heap[g6]? = some (.cells #[.int .i64 n, .int .i64 0, .int .i64 0, .int .i64 0, .int .i64 0] 29 (0, 0))) ∧ Aside0 (g5 ≠ g6) ∧ Aside0 (gr ≠ g6) ∧ Aside0 (gm ≠ g6) ∧ Aside0 (g2 ≠ g6) ∧ Aside0 (w.heap.size ≤ g6) ∧ Aside0 (wc.heap[g5]? = some (.cells #[.int .u8 84, .int .u32 o, .int .u32 s3, .int .u32 s7] 48 (0, 0))) ∧ Aside0 (wc.heap[gr]? = some (.mapIter (some gm) cm_clk (seen.push e.born) cm_clk)) ∧ Aside0 (wc.heap[gm]? = some (.map cm_es cm_clk)) ∧ Aside0 (wc.heap[g2]? = some (.cells #[.int .i64 0, .int .i64 0, .int .i64 0, .int .i64 0, .int .i64 0] 29 (0, 0))) ∧ Aside0 (Below w.heap.size w wc))
       case first =>
        go_wp2
        go_meet
        case rel => exact ⟨_, rfl, ⟨heap_alloc_new _ _⟩, ⟨Nat.ne_of_lt (blk_lt BK5.out)⟩, ⟨Nat.ne_of_lt (blk_lt BKr.out)⟩, ⟨Nat.ne_of_lt (blk_lt BKm.out)⟩, ⟨Nat.ne_of_lt (blk_lt BK2.out)⟩, ⟨HB.out.size⟩, ⟨blk_al BK5.out _⟩, ⟨blk_al BKr.out _⟩, ⟨blk_al BKm.out _⟩, ⟨blk_al BK2.out _⟩, ⟨HB.out.alloc HB.out.size _⟩⟩
       case rest =>
        clear BK5 BKr BKm BK2 HB hc5_0 hc5_1 hc5_2 hc5_3 hf5_0 hf5_1 hf5_2 hf5_3
        obtain ⟨g6, rfl, BK6, NB5_6, NBr_6, NBm_6, NB2_6, GE6, BK5, BKr, BKm, BK2, HB⟩ := hcut
        have hc5_0 : wc.cell? ⟨g5, 0, none⟩ = some (.int .u8 84) := (blk_cell BK5.out 0).trans rfl
        have hc5_1 : wc.cell? ⟨g5, 1, none⟩ = some (.int .u32 o) := (blk_cell BK5.out 1).trans rfl
        have hc5_2 : wc.cell? ⟨g5, 2, none⟩ = some (.int .u32 s3) := (blk_cell BK5.out 2).trans rfl
        have hc5_3 : wc.cell? ⟨g5, 3, none⟩ = some (.int .u32 s7) := (blk_cell BK5.out 3).trans rfl
        have hf5_0 := blk_frozen BK5.out 0
        have hf5_1 := blk_frozen BK5.out 1
        have hf5_2 := blk_frozen BK5.out 2
        have hf5_3 := blk_frozen BK5.out 3
        go_upto_region 6 with (fail)
        go_cut [7] (fun v7 wc => ∃ g7, v7 = .pointer (some ⟨g7, 0, none⟩) ∧ Aside0 (wc.heap[g7]? = some (.cells #[.bool true, .bool true, .bool false] 54 (0, 0))) ∧ Aside0 (g6 ≠ g7) ∧ Aside0 (wc.heap[g6]? = some (.cells #[.int .i64 n, .int .i64 0, .int .i64 0, .int .i64 0, .int .i64 0] 29 (0, 0))) ∧ Aside0 (wc.heap[g5]? = some (.cells #[.int .u8 84, .int .u32 o, .int .u32 s3, .int .u32 s7] 48 (0, 0))) ∧ Aside0 (wc.heap[gr]? = some (.mapIter (some gm) cm_clk (seen.push e.born) cm_clk)) ∧ Aside0 (wc.heap[gm]? = some (.map cm_es cm_clk)) ∧ Aside0 (wc.heap[g2]? = some (.cells #[.int .i64 0, .int .i64 0, .int .i64 0, .int .i64 0, .int .i64 0] 29 (0, 0))) ∧ Aside0 (Below w.heap.size w wc))
        case first =>
         go_wp2_with (first | (go_at_call 16; refine (cf_uses_calls' 84 (by simp [FormOk]) true true false rfl _).mono ?_; rintro e w5 ⟨rfl, hb⟩; have n0_ := Aside0.mk (blk_below BK5.out hb); have n1_ := Aside0.mk (blk_below BK6.out hb); have n2_ := Aside0.mk (blk_below BKr.out hb); have n3_ := Aside0.mk (blk_below BKm.out hb); have n4_ := Aside0.mk (blk_below BK2.out hb); have n5_ := Aside0.mk (below_step HB.out hb); clear BK5; clear BK6; clear BKr; clear BKm; clear BK2; clear HB; have BK5 := n0_; have BK6 := n1_; have BKr := n2_; have BKm := n3_; have BK2 := n4_; have HB := n5_; clear n0_ n1_ n2_ n3_ n4_ n5_; clear hb))
         go_meet
         case rel => exact ⟨_, rfl, ⟨heap_alloc_new _ _⟩, ⟨Nat.ne_of_lt (blk_lt BK6.out)⟩, ⟨blk_al BK6.out _⟩, ⟨blk_al BK5.out _⟩, ⟨blk_al BKr.out _⟩, ⟨blk_al BKm.out _⟩, ⟨blk_al BK2.out _⟩, ⟨HB.out.alloc HB.out.size _⟩⟩
        case rest =>
         clear BK6 BK5 BKr BKm BK2 HB hc5_0 hc5_1 hc5_2 hc5_3 hf5_0 hf5_1 hf5_2 hf5_3
         obtain ⟨g7, rfl, BK7, NB6_7, BK6, BK5, BKr, BKm, BK2, HB⟩ := hcut
         have hc7_0 : wc.cell? ⟨g7, 0, none⟩ = some (.bool true) := (blk_cell BK7.out 0).trans rfl
         have hc7_1 : wc.cell? ⟨g7, 1, none⟩ = some (.bool true) := (blk_cell BK7.out 1).trans rfl
         have hc7_2 : wc.cell? ⟨g7, 2, none⟩ = some (.bool false) := (blk_cell BK7.out 2).trans rfl
         have hf7_0 := blk_frozen BK7.out 0
         have hf7_1 := blk_frozen BK7.out 1
         have hf7_2 := blk_frozen BK7.out 2
         go_upto_block 2 with (fail)
         go_cut [] (fun wc => Aside0 (wc.heap[g6]? = some (.cells #[.int .i64 n, .int .i64 (x / 128 % 32), .int .i64 (x / 32768 % 32), .int .i64 0, .int .i64 0] 29 (0, 0))) ∧ Aside0 (wc.heap[g5]? = some (.cells #[.int .u8 84, .int .u32 o, .int .u32 s3, .int .u32 s7] 48 (0, 0))) ∧ Aside0 (wc.heap[gr]? = some (.mapIter (some gm) cm_clk (seen.push e.born) cm_clk)) ∧ Aside0 (wc.heap[gm]? = some (.map cm_es cm_clk)) ∧ Aside0 (wc.heap[g2]? = some (.cells #[.int .i64 0, .int .i64 0, .int .i64 0, .int .i64 0, .int .i64 0] 29 (0, 0))) ∧ Aside0 (Below w.heap.size w wc))
         case first =>
          have hc6_0 : wc.cell? ⟨g6, 0, none⟩ = some (.int .i64 n) := (blk_cell BK6.out 0).trans rfl
          have hc6_1 : wc.cell? ⟨g6, 1, none⟩ = some (.int .i64 0) := (blk_cell BK6.out 1).trans rfl
          have hc6_2 : wc.cell? ⟨g6, 2, none⟩ = some (.int .i64 0) := (blk_cell BK6.out 2).trans rfl
          have hc6_3 : wc.cell? ⟨g6, 3, none⟩ = some (.int .i64 0) := (blk_cell BK6.out 3).trans rfl
          have hc6_4 : wc.cell? ⟨g6, 4, none⟩ = some (.int .i64 0) := (blk_cell BK6.out 4).trans rfl
          have hf6_0 := blk_frozen BK6.out 0
          have hf6_1 := blk_frozen BK6.out 1
          have hf6_2 := blk_frozen BK6.out 2
          have hf6_3 := blk_frozen BK6.out 3
          have hf6_4 := blk_frozen BK6.out 4
          have hnb6 := NB6_7.out
          have hnb7 := NB6_7.out.symm
          go_wp2
          have i0 := dec_i66_0
          have j0 := enc_i56_0
          have i1 := dec_i66_1
          have j1 := enc_i56_1
          have i2 := dec_i66_2
          have j2 := enc_i56_2
          refine wp_loop_rounds 4 ?_
          rw [rounds_succ]
          go_wp2
          rw [rounds_succ]
          go_wp2
          rw [rounds_succ]
          go_wp2
          rw [rounds_succ]
          go_wp2
          go_meet
          case rel => exact ⟨⟨blk_put (cs := #[.int .i64 n, .int .i64 (x / 128 % 32), .int .i64 0, .int .i64 0, .int .i64 0]) (blk_put (cs := #[.int .i64 n, .int .i64 0, .int .i64 0, .int .i64 0, .int .i64 0]) (BK6.out) 1 _ rfl) 2 _ rfl⟩, ⟨by rw [Below.heap_setCell _ _ _ _ NB5_6.out, Below.heap_setCell _ _ _ _ NB5_6.out]; exact BK5.out⟩, ⟨by rw [Below.heap_setCell _ _ _ _ NBr_6.out, Below.heap_setCell _ _ _ _ NBr_6.out]; exact BKr.out⟩, ⟨by rw [Below.heap_setCell _ _ _ _ NBm_6.out, Below.heap_setCell _ _ _ _ NBm_6.out]; exact BKm.out⟩, ⟨by rw [Below.heap_setCell _ _ _ _ NB2_6.out, Below.heap_setCell _ _ _ _ NB2_6.out]; exact BK2.out⟩, ⟨((HB.out.setCell GE6.out _).setCell GE6.out _)⟩⟩
         case rest =>
          clear BK7 BK6 BK5 BKr BKm BK2 HB hc7_0 hc7_1 hc7_2 hf7_0 hf7_1 hf7_2
          obtain ⟨BK6, BK5, BKr, BKm, BK2, HB⟩ := hcut
          have hc5_0 : wc.cell? ⟨g5, 0, none⟩ = some (.int .u8 84) := (blk_cell BK5.out 0).trans rfl
          have hc5_1 : wc.cell? ⟨g5, 1, none⟩ = some (.int .u32 o) := (blk_cell BK5.out 1).trans rfl
          have hc5_2 : wc.cell? ⟨g5, 2, none⟩ = some (.int .u32 s3) := (blk_cell BK5.out 2).trans rfl
          have hc5_3 : wc.cell? ⟨g5, 3, none⟩ = some (.int .u32 s7) := (blk_cell BK5.out 3).trans rfl
          have hf5_0 := blk_frozen BK5.out 0
          have hf5_1 := blk_frozen BK5.out 1
          have hf5_2 := blk_frozen BK5.out 2
          have hf5_3 := blk_frozen BK5.out 3
          obtain ⟨p, hp⟩ : ∃ v, x / 1048576 % 64 = v := ⟨_, rfl⟩
          have Hp := Aside0.mk hp
          have hp0 : 0 ≤ p := by omega
          have hp1 : p < 64 := by omega
          have em0 : bits BinOp.and IntKind.u32 (x / 1048576) 63 = p := (u32_andm 6 63 (by decide) (by decide) _ (by omega) (by omega)).trans hp
          clear hp
          clear e7 e15 e20 eand
          go_upto_block 4 with (first | (go_at_call 17; refine (cf_pcall_84 _).mono ?_; rintro e w5 ⟨g9, hg9, rfl, hk9, hb⟩; have n0_ := Aside0.mk (blk_below BK5.out hb); have n1_ := Aside0.mk (blk_below BK6.out hb); have n2_ := Aside0.mk (blk_below BKr.out hb); have n3_ := Aside0.mk (blk_below BKm.out hb); have n4_ := Aside0.mk (blk_below BK2.out hb); have n5_ := Aside0.mk (below_step HB.out hb); have n6_ := Aside0.mk hk9; have n7_ := Aside0.mk ((by rw [hg9]; exact Nat.ne_of_lt (blk_lt BK6.out)) : g6 ≠ g9); clear BK5; clear BK6; clear BKr; clear BKm; clear BK2; clear HB; have BK5 := n0_; have BK6 := n1_; have BKr := n2_; have BKm := n3_; have BK2 := n4_; have HB := n5_; have BK9 := n6_; have NB6_9 := n7_; clear n0_ n1_ n2_ n3_ n4_ n5_ n6_ n7_; clear hb hk9 hg9))
          go_cut [] (fun wc => Aside0 (wc.heap[g6]? = some (.cells #[.int .i64 n, .int .i64 (x / 128 % 32), .int .i64 (x / 32768 % 32), .int .i64 0, .int .i64 (p)] 29 (0, 0))) ∧ Aside0 (wc.heap[g5]? = some (.cells #[.int .u8 84, .int .u32 o, .int .u32 s3, .int .u32 s7] 48 (0, 0))) ∧ Aside0 (wc.heap[gr]? = some (.mapIter (some gm) cm_clk (seen.push e.born) cm_clk)) ∧ Aside0 (wc.heap[gm]? = some (.map cm_es cm_clk)) ∧ Aside0 (wc.heap[g2]? = some (.cells #[.int .i64 0, .int .i64 0, .int .i64 0, .int .i64 0, .int .i64 0] 29 (0, 0))) ∧ Aside0 (Below w.heap.size w wc))
          case first =>
           clear hc5_0 hc5_1 hc5_2 hc5_3 hf5_0 hf5_1 hf5_2 hf5_3
           go_wp2
           go_loopg [61] 1 (fun gg v61 w' => ∃ k : Nat, k ≤ 1 ∧ 1 - k ≤ gg ∧ v61 = .int .i64 k ∧ Aside0 (w'.heap[g6]? = some (.cells #[.int .i64 n, .int .i64 (x / 128 % 32), .int .i64 (x / 32768 % 32), .int .i64 0, .int .i64 (([0, p] : List Int).getD k 0)] 29 (0, 0))) ∧ Aside0 (w'.heap[g9]? = some (.cells #[.int .u64 0, .int .u64 6, .int .u64 20] 60 (0, 0))) ∧ Aside0 (w'.heap[g5]? = some (.cells #[.int .u8 84, .int .u32 o, .int .u32 s3, .int .u32 s7] 48 (0, 0))) ∧ Aside0 (w'.heap[gr]? = some (.mapIter (some gm) cm_clk (seen.push e.born) cm_clk)) ∧ Aside0 (w'.heap[gm]? = some (.map cm_es cm_clk)) ∧ Aside0 (w'.heap[g2]? = some (.cells #[.int .i64 0, .int .i64 0, .int .i64 0, .int .i64 0, .int .i64 0] 29 (0, 0))) ∧ Aside0 (Below w.heap.size w w'))
           case atStart => exact ⟨0, by omega, by omega, rfl, BK6, BK9, BK5, BKr, BKm, BK2, HB⟩
           case round =>
            clear BK6 BK9 BK5 BKr BKm BK2 HB
            obtain ⟨k, hk, hg, rfl, BK6, BK9, BK5, BKr, BKm, BK2, HB⟩ := hrel
            have hk3 : k = 0 ∨ k = 1 := by omega
            rcases hk3 with rfl | rfl
            ·have hc6_4 : wr.cell? ⟨g6, 4, none⟩ = some (.int .i64 (0)) := (blk_cell BK6.out 4).trans rfl
             have hf6_4 := blk_frozen BK6.out 4
             have hc6a : ∀ o, (wr.alloc o).cell? ⟨g6, 4, none⟩ = some (.int .i64 (0)) := fun o => (blk_cell (blk_al BK6.out o) 4).trans rfl
             have hf6a : ∀ o, (wr.alloc o).frozen? ⟨g6, 4, none⟩ = false := fun o => blk_frozen (blk_al BK6.out o) 4
             have hc9_0 : wr.cell? ⟨g9, 0, none⟩ = some (.int .u64 0) := (blk_cell BK9.out 0).trans rfl
             have hf9_0 := blk_frozen BK9.out 0
             have hc9_1 : wr.cell? ⟨g9, 1, none⟩ = some (.int .u64 6) := (blk_cell BK9.out 1).trans rfl
             have hf9_1 := blk_frozen BK9.out 1
             have hc9_2 : wr.cell? ⟨g9, 2, none⟩ = some (.int .u64 20) := (blk_cell BK9.out 2).trans rfl
             have hf9_2 := blk_frozen BK9.out 2
             have eor : bits BinOp.or IntKind.i64 (0) (p) = p := (i64_or 0 6 0 p (p) (by omega) (by omega) (by omega) (by omega) (by omega) (by omega) (by omega)).trans (by omega)
             go_wp2
             go_roundg 0
             case measure => omega
             case rel => exact ⟨1, by omega, by omega, rfl, ⟨blk_put (cs := #[.int .i64 n, .int .i64 (x / 128 % 32), .int .i64 (x / 32768 % 32), .int .i64 0, .int .i64 0]) (blk_al BK6.out _) 4 _ rfl⟩, ⟨(Below.heap_setCell _ _ _ _ NB6_9.out.symm).trans (blk_al BK9.out _)⟩, ⟨(Below.heap_setCell _ _ _ _ NB5_6.out).trans (blk_al BK5.out _)⟩, ⟨(Below.heap_setCell _ _ _ _ NBr_6.out).trans (blk_al BKr.out _)⟩, ⟨(Below.heap_setCell _ _ _ _ NBm_6.out).trans (blk_al BKm.out _)⟩, ⟨(Below.heap_setCell _ _ _ _ NB2_6.out).trans (blk_al BK2.out _)⟩, ⟨(HB.out.alloc HB.out.size _).setCell GE6.out _⟩⟩
            ·go_wp2
             go_meet
             case rel => exact ⟨BK6, BK5, BKr, BKm, BK2, HB⟩
          case rest =>
           clear BK9 NB6_9
           clear BK6 BK5 BKr BKm BK2 HB hc5_0 hc5_1 hc5_2 hc5_3 hf5_0 hf5_1 hf5_2 hf5_3
           obtain ⟨BK6, BK5, BKr, BKm, BK2, HB⟩ := hcut
           have hc5_0 : wc.cell? ⟨g5, 0, none⟩ = some (.int .u8 84) := (blk_cell BK5.out 0).trans rfl
           have hc5_1 : wc.cell? ⟨g5, 1, none⟩ = some (.int .u32 o) := (blk_cell BK5.out 1).trans rfl
           have hc5_2 : wc.cell? ⟨g5, 2, none⟩ = some (.int .u32 s3) := (blk_cell BK5.out 2).trans rfl
           have hc5_3 : wc.cell? ⟨g5, 3, none⟩ = some (.int .u32 s7) := (blk_cell BK5.out 3).trans rfl
           have hf5_0 := blk_frozen BK5.out 0
           have hf5_1 := blk_frozen BK5.out 1
           have hf5_2 := blk_frozen BK5.out 2
           have hf5_3 := blk_frozen BK5.out 3
           have hc6_0 : wc.cell? ⟨g6, 0, none⟩ = some (.int .i64 n) := (blk_cell BK6.out 0).trans rfl
           have hc6_1 : wc.cell? ⟨g6, 1, none⟩ = some (.int .i64 (x / 128 % 32)) := (blk_cell BK6.out 1).trans rfl
           have hc6_2 : wc.cell? ⟨g6, 2, none⟩ = some (.int .i64 (x / 32768 % 32)) := (blk_cell BK6.out 2).trans rfl
           have hc6_3 : wc.cell? ⟨g6, 3, none⟩ = some (.int .i64 0) := (blk_cell BK6.out 3).trans rfl
           have hc6_4 : wc.cell? ⟨g6, 4, none⟩ = some (.int .i64 (p)) := (blk_cell BK6.out 4).trans rfl
           have hf6_0 := blk_frozen BK6.out 0
           have hf6_1 := blk_frozen BK6.out 1
           have hf6_2 := blk_frozen BK6.out 2
           have hf6_3 := blk_frozen BK6.out 3
           have hf6_4 := blk_frozen BK6.out 4
           clear hc5_1 hc5_2 hc5_3 hf5_1 hf5_2 hf5_3
           have HD := Aside0.mk (by show (_, _, _, x / 1048576 % 64) = _; rw [Hp.out] : Dec 84 x = (x / 128 % 32, x / 32768 % 32, 0, p))
           obtain ⟨⟨r0, r1⟩, hen⟩ : ∃ r, code_Encode.f n (x / 128 % 32) (x / 32768 % 32) (0) (p) = some r := ⟨_, rfl⟩
           have HEN := Aside0.mk hen
           clear hen
           have HHIT := Aside0.mk (dec_hit ⟨n, 84, o, s3, s7⟩ x HD.out HEN.out)
           by_cases hr1 : r1 = 0
           ·by_cases hr0 : r0 = x
            ·have HH := Aside0.mk (HHIT.out.2 ⟨hr0, hr1⟩)
             go_wp2_with (first | (go_at_call 15; refine (cf_room_calls' 84 (by simp [FormOk]) (0) (63) rfl _).mono ?_; rintro e w' ⟨rfl, hw⟩; obtain rfl := hw.symm) | (go_at_call 9; (with_reducible refine (code_Encode.calls n (x / 128 % 32) (x / 32768 % 32) (0) (p) r0 r1 _ HEN.out).mono ?_); rintro e w6 ⟨rfl, hb⟩; have n0_ := Aside0.mk (blk_below BK6.out hb); have n1_ := Aside0.mk (blk_below BKr.out hb); have n2_ := Aside0.mk (blk_below BKm.out hb); have n3_ := Aside0.mk (blk_below BK2.out hb); have n4_ := Aside0.mk (below_step HB.out hb); clear BK6; clear BKr; clear BKm; clear BK2; clear HB; have BK6 := n0_; have BKr := n1_; have BKm := n2_; have BK2 := n3_; have HB := n4_; clear n0_ n1_ n2_ n3_ n4_; clear hb; have hc6_0 : w6.cell? ⟨g6, 0, none⟩ = some (.int .i64 n) := (blk_cell BK6.out 0).trans rfl; have hc6_1 : w6.cell? ⟨g6, 1, none⟩ = some (.int .i64 (x / 128 % 32)) := (blk_cell BK6.out 1).trans rfl; have hc6_2 : w6.cell? ⟨g6, 2, none⟩ = some (.int .i64 (x / 32768 % 32)) := (blk_cell BK6.out 2).trans rfl; have hc6_3 : w6.cell? ⟨g6, 3, none⟩ = some (.int .i64 0) := (blk_cell BK6.out 3).trans rfl; have hc6_4 : w6.cell? ⟨g6, 4, none⟩ = some (.int .i64 (p)) := (blk_cell BK6.out 4).trans rfl; have hf6_0 := blk_frozen BK6.out 0; have hf6_1 := blk_frozen BK6.out 1; have hf6_2 := blk_frozen BK6.out 2; have hf6_3 := blk_frozen BK6.out 3; have hf6_4 := blk_frozen BK6.out 4; have hc2_0 : w6.cell? ⟨g2, 0, none⟩ = some (.int .i64 0) := (blk_cell BK2.out 0).trans rfl; have hc2_1 : w6.cell? ⟨g2, 1, none⟩ = some (.int .i64 0) := (blk_cell BK2.out 1).trans rfl; have hc2_2 : w6.cell? ⟨g2, 2, none⟩ = some (.int .i64 0) := (blk_cell BK2.out 2).trans rfl; have hc2_3 : w6.cell? ⟨g2, 3, none⟩ = some (.int .i64 0) := (blk_cell BK2.out 3).trans rfl; have hc2_4 : w6.cell? ⟨g2, 4, none⟩ = some (.int .i64 0) := (blk_cell BK2.out 4).trans rfl; have hf2_0 := blk_frozen BK2.out 0; have hf2_1 := blk_frozen BK2.out 1; have hf2_2 := blk_frozen BK2.out 2; have hf2_3 := blk_frozen BK2.out 3; have hf2_4 := blk_frozen BK2.out 4))
             refine bodyPost_ret (dec_res _ _ g2 _ (0, 0) rfl (dec_put5 BK2.out _ _ _ _ _) rfl) rfl ?_
             exact ⟨.inl ⟨⟨n, 84, o, s3, s7⟩, HROW.out, HH.out, by simp only [HD.out]; rfl⟩, ((((HB.out.setCell GE2.out _).setCell GE2.out _).setCell GE2.out _).setCell GE2.out _).setCell GE2.out _⟩
            ·have HNH := Aside0.mk (fun h => by have hh := HHIT.out.1 h; exact hr0 hh.1 : ¬ Hit ⟨n, 84, o, s3, s7⟩ x)
             go_wp2_with (first | (go_at_call 15; refine (cf_room_calls' 84 (by simp [FormOk]) (0) (63) rfl _).mono ?_; rintro e w' ⟨rfl, hw⟩; obtain rfl := hw.symm) | (go_at_call 9; (with_reducible refine (code_Encode.calls n (x / 128 % 32) (x / 32768 % 32) (0) (p) r0 r1 _ HEN.out).mono ?_); rintro e w6 ⟨rfl, hb⟩; have n0_ := Aside0.mk (blk_below BK6.out hb); have n1_ := Aside0.mk (blk_below BKr.out hb); have n2_ := Aside0.mk (blk_below BKm.out hb); have n3_ := Aside0.mk (blk_below BK2.out hb); have n4_ := Aside0.mk (below_step HB.out hb); clear BK6; clear BKr; clear BKm; clear BK2; clear HB; have BK6 := n0_; have BKr := n1_; have BKm := n2_; have BK2 := n3_; have HB := n4_; clear n0_ n1_ n2_ n3_ n4_; clear hb; have hc6_0 : w6.cell? ⟨g6, 0, none⟩ = some (.int .i64 n) := (blk_cell BK6.out 0).trans rfl; have hc6_1 : w6.cell? ⟨g6, 1, none⟩ = some (.int .i64 (x / 128 % 32)) := (blk_cell BK6.out 1).trans rfl; have hc6_2 : w6.cell? ⟨g6, 2, none⟩ = some (.int .i64 (x / 32768 % 32)) := (blk_cell BK6.out 2).trans rfl; have hc6_3 : w6.cell? ⟨g6, 3, none⟩ = some (.int .i64 0) := (blk_cell BK6.out 3).trans rfl; have hc6_4 : w6.cell? ⟨g6, 4, none⟩ = some (.int .i64 (p)) := (blk_cell BK6.out 4).trans rfl; have hf6_0 := blk_frozen BK6.out 0; have hf6_1 := blk_frozen BK6.out 1; have hf6_2 := blk_frozen BK6.out 2; have hf6_3 := blk_frozen BK6.out 3; have hf6_4 := blk_frozen BK6.out 4; have hc2_0 : w6.cell? ⟨g2, 0, none⟩ = some (.int .i64 0) := (blk_cell BK2.out 0).trans rfl; have hc2_1 : w6.cell? ⟨g2, 1, none⟩ = some (.int .i64 0) := (blk_cell BK2.out 1).trans rfl; have hc2_2 : w6.cell? ⟨g2, 2, none⟩ = some (.int .i64 0) := (blk_cell BK2.out 2).trans rfl; have hc2_3 : w6.cell? ⟨g2, 3, none⟩ = some (.int .i64 0) := (blk_cell BK2.out 3).trans rfl; have hc2_4 : w6.cell? ⟨g2, 4, none⟩ = some (.int .i64 0) := (blk_cell BK2.out 4).trans rfl; have hf2_0 := blk_frozen BK2.out 0; have hf2_1 := blk_frozen BK2.out 1; have hf2_2 := blk_frozen BK2.out 2; have hf2_3 := blk_frozen BK2.out 3; have hf2_4 := blk_frozen BK2.out 4))
             go_roundg (leftOf cm_es (seen.push e.born)).size
             case measure => exact Nat.lt_of_lt_of_le HSH.out hg
             case rel => exact ⟨seen.push e.born, cm_clk, Nat.le_refl _, ⟨Nat.le_refl _⟩, BKr, BKm, BK2, HB, ⟨dec_no HNO.out HE.out (by rw [HENT.out]; exact HNH.out)⟩⟩
           ·have HNH := Aside0.mk (fun h => by have hh := HHIT.out.1 h; exact hr1 hh.2 : ¬ Hit ⟨n, 84, o, s3, s7⟩ x)
            go_wp2_with (first | (go_at_call 15; refine (cf_room_calls' 84 (by simp [FormOk]) (0) (63) rfl _).mono ?_; rintro e w' ⟨rfl, hw⟩; obtain rfl := hw.symm) | (go_at_call 9; (with_reducible refine (code_Encode.calls n (x / 128 % 32) (x / 32768 % 32) (0) (p) r0 r1 _ HEN.out).mono ?_); rintro e w6 ⟨rfl, hb⟩; have n0_ := Aside0.mk (blk_below BK6.out hb); have n1_ := Aside0.mk (blk_below BKr.out hb); have n2_ := Aside0.mk (blk_below BKm.out hb); have n3_ := Aside0.mk (blk_below BK2.out hb); have n4_ := Aside0.mk (below_step HB.out hb); clear BK6; clear BKr; clear BKm; clear BK2; clear HB; have BK6 := n0_; have BKr := n1_; have BKm := n2_; have BK2 := n3_; have HB := n4_; clear n0_ n1_ n2_ n3_ n4_; clear hb; have hc6_0 : w6.cell? ⟨g6, 0, none⟩ = some (.int .i64 n) := (blk_cell BK6.out 0).trans rfl; have hc6_1 : w6.cell? ⟨g6, 1, none⟩ = some (.int .i64 (x / 128 % 32)) := (blk_cell BK6.out 1).trans rfl; have hc6_2 : w6.cell? ⟨g6, 2, none⟩ = some (.int .i64 (x / 32768 % 32)) := (blk_cell BK6.out 2).trans rfl; have hc6_3 : w6.cell? ⟨g6, 3, none⟩ = some (.int .i64 0) := (blk_cell BK6.out 3).trans rfl; have hc6_4 : w6.cell? ⟨g6, 4, none⟩ = some (.int .i64 (p)) := (blk_cell BK6.out 4).trans rfl; have hf6_0 := blk_frozen BK6.out 0; have hf6_1 := blk_frozen BK6.out 1; have hf6_2 := blk_frozen BK6.out 2; have hf6_3 := blk_frozen BK6.out 3; have hf6_4 := blk_frozen BK6.out 4; have hc2_0 : w6.cell? ⟨g2, 0, none⟩ = some (.int .i64 0) := (blk_cell BK2.out 0).trans rfl; have hc2_1 : w6.cell? ⟨g2, 1, none⟩ = some (.int .i64 0) := (blk_cell BK2.out 1).trans rfl; have hc2_2 : w6.cell? ⟨g2, 2, none⟩ = some (.int .i64 0) := (blk_cell BK2.out 2).trans rfl; have hc2_3 : w6.cell? ⟨g2, 3, none⟩ = some (.int .i64 0) := (blk_cell BK2.out 3).trans rfl; have hc2_4 : w6.cell? ⟨g2, 4, none⟩ = some (.int .i64 0) := (blk_cell BK2.out 4).trans rfl; have hf2_0 := blk_frozen BK2.out 0; have hf2_1 := blk_frozen BK2.out 1; have hf2_2 := blk_frozen BK2.out 2; have hf2_3 := blk_frozen BK2.out 3; have hf2_4 := blk_frozen BK2.out 4))
            go_roundg (leftOf cm_es (seen.push e.born)).size
            case measure => exact Nat.lt_of_lt_of_le HSH.out hg
            case rel => exact ⟨seen.push e.born, cm_clk, Nat.le_refl _, ⟨Nat.le_refl _⟩, BKr, BKm, BK2, HB, ⟨dec_no HNO.out HE.out (by rw [HENT.out]; exact HNH.out)⟩⟩
     ·as_aux_lemma =>
       go_upto_region 5 with (fail)
       go_cut [6] (fun v6 wc => ∃ g6, v6 = .pointer (some ⟨g6, 0, none⟩) ∧ Aside0 (wc.heap[g6]? = some (.cells #[.int .i64 n, .int .i64 0, .int .i64 0, .int .i64 0, .int .i64 0] 29 (0, 0))) ∧ Aside0 (g5 ≠ g6) ∧ Aside0 (gr ≠ g6) ∧ Aside0 (gm ≠ g6) ∧ Aside0 (g2 ≠ g6) ∧ Aside0 (w.heap.size ≤ g6) ∧ Aside0 (wc.heap[g5]? = some (.cells #[.int .u8 73, .int .u32 o, .int .u32 s3, .int .u32 s7] 48 (0, 0))) ∧ Aside0 (wc.heap[gr]? = some (.mapIter (some gm) cm_clk (seen.push e.born) cm_clk)) ∧ Aside0 (wc.heap[gm]? = some (.map cm_es cm_clk)) ∧ Aside0 (wc.heap[g2]? = some (.cells #[.int .i64 0, .int .i64 0, .int .i64 0, .int .i64 0, .int .i64 0] 29 (0, 0))) ∧ Aside0 (Below w.heap.size w wc))
       case first =>
        go_wp2
        go_meet
        case rel => exact ⟨_, rfl, ⟨heap_alloc_new _ _⟩, ⟨Nat.ne_of_lt (blk_lt BK5.out)⟩, ⟨Nat.ne_of_lt (blk_lt BKr.out)⟩, ⟨Nat.ne_of_lt (blk_lt BKm.out)⟩, ⟨Nat.ne_of_lt (blk_lt BK2.out)⟩, ⟨HB.out.size⟩, ⟨blk_al BK5.out _⟩, ⟨blk_al BKr.out _⟩, ⟨blk_al BKm.out _⟩, ⟨blk_al BK2.out _⟩, ⟨HB.out.alloc HB.out.size _⟩⟩
       case rest =>
        clear BK5 BKr BKm BK2 HB hc5_0 hc5_1 hc5_2 hc5_3 hf5_0 hf5_1 hf5_2 hf5_3
        obtain ⟨g6, rfl, BK6, NB5_6, NBr_6, NBm_6, NB2_6, GE6, BK5, BKr, BKm, BK2, HB⟩ := hcut
        have hc5_0 : wc.cell? ⟨g5, 0, none⟩ = some (.int .u8 73) := (blk_cell BK5.out 0).trans rfl
        have hc5_1 : wc.cell? ⟨g5, 1, none⟩ = some (.int .u32 o) := (blk_cell BK5.out 1).trans rfl
        have hc5_2 : wc.cell? ⟨g5, 2, none⟩ = some (.int .u32 s3) := (blk_cell BK5.out 2).trans rfl
        have hc5_3 : wc.cell? ⟨g5, 3, none⟩ = some (.int .u32 s7) := (blk_cell BK5.out 3).trans rfl
        have hf5_0 := blk_frozen BK5.out 0
        have hf5_1 := blk_frozen BK5.out 1
        have hf5_2 := blk_frozen BK5.out 2
        have hf5_3 := blk_frozen BK5.out 3
        go_upto_region 6 with (fail)
        go_cut [7] (fun v7 wc => ∃ g7, v7 = .pointer (some ⟨g7, 0, none⟩) ∧ Aside0 (wc.heap[g7]? = some (.cells #[.bool true, .bool true, .bool false] 54 (0, 0))) ∧ Aside0 (g6 ≠ g7) ∧ Aside0 (wc.heap[g6]? = some (.cells #[.int .i64 n, .int .i64 0, .int .i64 0, .int .i64 0, .int .i64 0] 29 (0, 0))) ∧ Aside0 (wc.heap[g5]? = some (.cells #[.int .u8 73, .int .u32 o, .int .u32 s3, .int .u32 s7] 48 (0, 0))) ∧ Aside0 (wc.heap[gr]? = some (.mapIter (some gm) cm_clk (seen.push e.born) cm_clk)) ∧ Aside0 (wc.heap[gm]? = some (.map cm_es cm_clk)) ∧ Aside0 (wc.heap[g2]? = some (.cells #[.int .i64 0, .int .i64 0, .int .i64 0, .int .i64 0, .int .i64 0] 29 (0, 0))) ∧ Aside0 (Below w.heap.size w wc))
        case first =>
         go_wp2_with (first | (go_at_call 16; refine (cf_uses_calls' 73 (by simp [FormOk]) true true false rfl _).mono ?_; rintro e w5 ⟨rfl, hb⟩; have n0_ := Aside0.mk (blk_below BK5.out hb); have n1_ := Aside0.mk (blk_below BK6.out hb); have n2_ := Aside0.mk (blk_below BKr.out hb); have n3_ := Aside0.mk (blk_below BKm.out hb); have n4_ := Aside0.mk (blk_below BK2.out hb); have n5_ := Aside0.mk (below_step HB.out hb); clear BK5; clear BK6; clear BKr; clear BKm; clear BK2; clear HB; have BK5 := n0_; have BK6 := n1_; have BKr := n2_; have BKm := n3_; have BK2 := n4_; have HB := n5_; clear n0_ n1_ n2_ n3_ n4_ n5_; clear hb))
         go_meet
         case rel => exact ⟨_, rfl, ⟨heap_alloc_new _ _⟩, ⟨Nat.ne_of_lt (blk_lt BK6.out)⟩, ⟨blk_al BK6.out _⟩, ⟨blk_al BK5.out _⟩, ⟨blk_al BKr.out _⟩, ⟨blk_al BKm.out _⟩, ⟨blk_al BK2.out _⟩, ⟨HB.out.alloc HB.out.size _⟩⟩
        case rest =>
         clear BK6 BK5 BKr BKm BK2 HB hc5_0 hc5_1 hc5_2 hc5_3 hf5_0 hf5_1 hf5_2 hf5_3
         obtain ⟨g7, rfl, BK7, NB6_7, BK6, BK5, BKr, BKm, BK2, HB⟩ := hcut
         have hc7_0 : wc.cell? ⟨g7, 0, none⟩ = some (.bool true) := (blk_cell BK7.out 0).trans rfl
         have hc7_1 : wc.cell? ⟨g7, 1, none⟩ = some (.bool true) := (blk_cell BK7.out 1).trans rfl
         have hc7_2 : wc.cell? ⟨g7, 2, none⟩ = some (.bool false) := (blk_cell BK7.out 2).trans rfl
         have hf7_0 := blk_frozen BK7.out 0
         have hf7_1 := blk_frozen BK7.out 1
         have hf7_2 := blk_frozen BK7.out 2
         go_upto_block 2 with (fail)
         go_cut [] (fun wc => Aside0 (wc.heap[g6]? = some (.cells #[.int .i64 n, .int .i64 (x / 128 % 32), .int .i64 (x / 32768 % 32), .int .i64 0, .int .i64 0] 29 (0, 0))) ∧ Aside0 (wc.heap[g5]? = some (.cells #[.int .u8 73, .int .u32 o, .int .u32 s3, .int .u32 s7] 48 (0, 0))) ∧ Aside0 (wc.heap[gr]? = some (.mapIter (some gm) cm_clk (seen.push e.born) cm_clk)) ∧ Aside0 (wc.heap[gm]? = some (.map cm_es cm_clk)) ∧ Aside0 (wc.heap[g2]? = some (.cells #[.int .i64 0, .int .i64 0, .int .i64 0, .int .i64 0, .int .i64 0] 29 (0, 0))) ∧ Aside0 (Below w.heap.size w wc))
         case first =>
          have hc6_0 : wc.cell? ⟨g6, 0, none⟩ = some (.int .i64 n) := (blk_cell BK6.out 0).trans rfl
          have hc6_1 : wc.cell? ⟨g6, 1, none⟩ = some (.int .i64 0) := (blk_cell BK6.out 1).trans rfl
          have hc6_2 : wc.cell? ⟨g6, 2, none⟩ = some (.int .i64 0) := (blk_cell BK6.out 2).trans rfl
          have hc6_3 : wc.cell? ⟨g6, 3, none⟩ = some (.int .i64 0) := (blk_cell BK6.out 3).trans rfl
          have hc6_4 : wc.cell? ⟨g6, 4, none⟩ = some (.int .i64 0) := (blk_cell BK6.out 4).trans rfl
          have hf6_0 := blk_frozen BK6.out 0
          have hf6_1 := blk_frozen BK6.out 1
          have hf6_2 := blk_frozen BK6.out 2
          have hf6_3 := blk_frozen BK6.out 3
          have hf6_4 := blk_frozen BK6.out 4
          have hnb6 := NB6_7.out
          have hnb7 := NB6_7.out.symm
          go_wp2
          have i0 := dec_i66_0
          have j0 := enc_i56_0
          have i1 := dec_i66_1
          have j1 := enc_i56_1
          have i2 := dec_i66_2
          have j2 := enc_i56_2
          refine wp_loop_rounds 4 ?_
          rw [rounds_succ]
          go_wp2
          rw [rounds_succ]
          go_wp2
          rw [rounds_succ]
          go_wp2
          rw [rounds_succ]
          go_wp2
          go_meet
          case rel => exact ⟨⟨blk_put (cs := #[.int .i64 n, .int .i64 (x / 128 % 32), .int .i64 0, .int .i64 0, .int .i64 0]) (blk_put (cs := #[.int .i64 n, .int .i64 0, .int .i64 0, .int .i64 0, .int .i64 0]) (BK6.out) 1 _ rfl) 2 _ rfl⟩, ⟨by rw [Below.heap_setCell _ _ _ _ NB5_6.out, Below.heap_setCell _ _ _ _ NB5_6.out]; exact BK5.out⟩, ⟨by rw [Below.heap_setCell _ _ _ _ NBr_6.out, Below.heap_setCell _ _ _ _ NBr_6.out]; exact BKr.out⟩, ⟨by rw [Below.heap_setCell _ _ _ _ NBm_6.out, Below.heap_setCell _ _ _ _ NBm_6.out]; exact BKm.out⟩, ⟨by rw [Below.heap_setCell _ _ _ _ NB2_6.out, Below.heap_setCell _ _ _ _ NB2_6.out]; exact BK2.out⟩, ⟨((HB.out.setCell GE6.out _).setCell GE6.out _)⟩⟩
         case rest =>
          clear BK7 BK6 BK5 BKr BKm BK2 HB hc7_0 hc7_1 hc7_2 hf7_0 hf7_1 hf7_2
          obtain ⟨BK6, BK5, BKr, BKm, BK2, HB⟩ := hcut
          have hc5_0 : wc.cell? ⟨g5, 0, none⟩ = some (.int .u8 73) := (blk_cell BK5.out 0).trans rfl
          have hc5_1 : wc.cell? ⟨g5, 1, none⟩ = some (.int .u32 o) := (blk_cell BK5.out 1).trans rfl
          have hc5_2 : wc.cell? ⟨g5, 2, none⟩ = some (.int .u32 s3) := (blk_cell BK5.out 2).trans rfl
          have hc5_3 : wc.cell? ⟨g5, 3, none⟩ = some (.int .u32 s7) := (blk_cell BK5.out 3).trans rfl
          have hf5_0 := blk_frozen BK5.out 0
          have hf5_1 := blk_frozen BK5.out 1
          have hf5_2 := blk_frozen BK5.out 2
          have hf5_3 := blk_frozen BK5.out 3
          obtain ⟨p, hp⟩ : ∃ v, x / 1048576 % 4096 = v := ⟨_, rfl⟩
          have Hp := Aside0.mk hp
          have hp0 : 0 ≤ p := by omega
          have hp1 : p < 4096 := by omega
          have em0 : bits BinOp.and IntKind.u32 (x / 1048576) 4095 = p := (u32_andm 12 4095 (by decide) (by decide) _ (by omega) (by omega)).trans hp
          clear hp
          clear e7 e15 e20 eand
          go_upto_block 4 with (first | (go_at_call 17; refine (cf_pcall_73 _).mono ?_; rintro e w5 ⟨g9, hg9, rfl, hk9, hb⟩; have n0_ := Aside0.mk (blk_below BK5.out hb); have n1_ := Aside0.mk (blk_below BK6.out hb); have n2_ := Aside0.mk (blk_below BKr.out hb); have n3_ := Aside0.mk (blk_below BKm.out hb); have n4_ := Aside0.mk (blk_below BK2.out hb); have n5_ := Aside0.mk (below_step HB.out hb); have n6_ := Aside0.mk hk9; have n7_ := Aside0.mk ((by rw [hg9]; exact Nat.ne_of_lt (blk_lt BK6.out)) : g6 ≠ g9); clear BK5; clear BK6; clear BKr; clear BKm; clear BK2; clear HB; have BK5 := n0_; have BK6 := n1_; have BKr := n2_; have BKm := n3_; have BK2 := n4_; have HB := n5_; have BK9 := n6_; have NB6_9 := n7_; clear n0_ n1_ n2_ n3_ n4_ n5_ n6_ n7_; clear hb hk9 hg9))
          go_cut [] (fun wc => Aside0 (wc.heap[g6]? = some (.cells #[.int .i64 n, .int .i64 (x / 128 % 32), .int .i64 (x / 32768 % 32), .int .i64 0, .int .i64 (p)] 29 (0, 0))) ∧ Aside0 (wc.heap[g5]? = some (.cells #[.int .u8 73, .int .u32 o, .int .u32 s3, .int .u32 s7] 48 (0, 0))) ∧ Aside0 (wc.heap[gr]? = some (.mapIter (some gm) cm_clk (seen.push e.born) cm_clk)) ∧ Aside0 (wc.heap[gm]? = some (.map cm_es cm_clk)) ∧ Aside0 (wc.heap[g2]? = some (.cells #[.int .i64 0, .int .i64 0, .int .i64 0, .int .i64 0, .int .i64 0] 29 (0, 0))) ∧ Aside0 (Below w.heap.size w wc))
          case first =>
           clear hc5_0 hc5_1 hc5_2 hc5_3 hf5_0 hf5_1 hf5_2 hf5_3
           go_wp2
           go_loopg [61] 1 (fun gg v61 w' => ∃ k : Nat, k ≤ 1 ∧ 1 - k ≤ gg ∧ v61 = .int .i64 k ∧ Aside0 (w'.heap[g6]? = some (.cells #[.int .i64 n, .int .i64 (x / 128 % 32), .int .i64 (x / 32768 % 32), .int .i64 0, .int .i64 (([0, p] : List Int).getD k 0)] 29 (0, 0))) ∧ Aside0 (w'.heap[g9]? = some (.cells #[.int .u64 0, .int .u64 12, .int .u64 20] 60 (0, 0))) ∧ Aside0 (w'.heap[g5]? = some (.cells #[.int .u8 73, .int .u32 o, .int .u32 s3, .int .u32 s7] 48 (0, 0))) ∧ Aside0 (w'.heap[gr]? = some (.mapIter (some gm) cm_clk (seen.push e.born) cm_clk)) ∧ Aside0 (w'.heap[gm]? = some (.map cm_es cm_clk)) ∧ Aside0 (w'.heap[g2]? = some (.cells #[.int .i64 0, .int .i64 0, .int .i64 0, .int .i64 0, .int .i64 0] 29 (0, 0))) ∧ Aside0 (Below w.heap.size w w'))
           case atStart => exact ⟨0, by omega, by omega, rfl, BK6, BK9, BK5, BKr, BKm, BK2, HB⟩
           case round =>
            clear BK6 BK9 BK5 BKr BKm BK2 HB
            obtain ⟨k, hk, hg, rfl, BK6, BK9, BK5, BKr, BKm, BK2, HB⟩ := hrel
            have hk3 : k = 0 ∨ k = 1 := by omega
            rcases hk3 with rfl | rfl
            ·have hc6_4 : wr.cell? ⟨g6, 4, none⟩ = some (.int .i64 (0)) := (blk_cell BK6.out 4).trans rfl
             have hf6_4 := blk_frozen BK6.out 4
             have hc6a : ∀ o, (wr.alloc o).cell? ⟨g6, 4, none⟩ = some (.int .i64 (0)) := fun o => (blk_cell (blk_al BK6.out o) 4).trans rfl
             have hf6a : ∀ o, (wr.alloc o).frozen? ⟨g6, 4, none⟩ = false := fun o => blk_frozen (blk_al BK6.out o) 4
             have hc9_0 : wr.cell? ⟨g9, 0, none⟩ = some (.int .u64 0) := (blk_cell BK9.out 0).trans rfl
             have hf9_0 := blk_frozen BK9.out 0
             have hc9_1 : wr.cell? ⟨g9, 1, none⟩ = some (.int .u64 12) := (blk_cell BK9.out 1).trans rfl
             have hf9_1 := blk_frozen BK9.out 1
             have hc9_2 : wr.cell? ⟨g9, 2, none⟩ = some (.int .u64 20) := (blk_cell BK9.out 2).trans rfl
             have hf9_2 := blk_frozen BK9.out 2
             have eor : bits BinOp.or IntKind.i64 (0) (p) = p := (i64_or 0 12 0 p (p) (by omega) (by omega) (by omega) (by omega) (by omega) (by omega) (by omega)).trans (by omega)
             go_wp2
             go_roundg 0
             case measure => omega
             case rel => exact ⟨1, by omega, by omega, rfl, ⟨blk_put (cs := #[.int .i64 n, .int .i64 (x / 128 % 32), .int .i64 (x / 32768 % 32), .int .i64 0, .int .i64 0]) (blk_al BK6.out _) 4 _ rfl⟩, ⟨(Below.heap_setCell _ _ _ _ NB6_9.out.symm).trans (blk_al BK9.out _)⟩, ⟨(Below.heap_setCell _ _ _ _ NB5_6.out).trans (blk_al BK5.out _)⟩, ⟨(Below.heap_setCell _ _ _ _ NBr_6.out).trans (blk_al BKr.out _)⟩, ⟨(Below.heap_setCell _ _ _ _ NBm_6.out).trans (blk_al BKm.out _)⟩, ⟨(Below.heap_setCell _ _ _ _ NB2_6.out).trans (blk_al BK2.out _)⟩, ⟨(HB.out.alloc HB.out.size _).setCell GE6.out _⟩⟩
            ·go_wp2
             go_meet
             case rel => exact ⟨BK6, BK5, BKr, BKm, BK2, HB⟩
          case rest =>
           clear BK9 NB6_9
           clear BK6 BK5 BKr BKm BK2 HB hc5_0 hc5_1 hc5_2 hc5_3 hf5_0 hf5_1 hf5_2 hf5_3
           obtain ⟨BK6, BK5, BKr, BKm, BK2, HB⟩ := hcut
           have hc5_0 : wc.cell? ⟨g5, 0, none⟩ = some (.int .u8 73) := (blk_cell BK5.out 0).trans rfl
           have hc5_1 : wc.cell? ⟨g5, 1, none⟩ = some (.int .u32 o) := (blk_cell BK5.out 1).trans rfl
           have hc5_2 : wc.cell? ⟨g5, 2, none⟩ = some (.int .u32 s3) := (blk_cell BK5.out 2).trans rfl
           have hc5_3 : wc.cell? ⟨g5, 3, none⟩ = some (.int .u32 s7) := (blk_cell BK5.out 3).trans rfl
           have hf5_0 := blk_frozen BK5.out 0
           have hf5_1 := blk_frozen BK5.out 1
           have hf5_2 := blk_frozen BK5.out 2
           have hf5_3 := blk_frozen BK5.out 3
           have hc6_0 : wc.cell? ⟨g6, 0, none⟩ = some (.int .i64 n) := (blk_cell BK6.out 0).trans rfl
           have hc6_1 : wc.cell? ⟨g6, 1, none⟩ = some (.int .i64 (x / 128 % 32)) := (blk_cell BK6.out 1).trans rfl
           have hc6_2 : wc.cell? ⟨g6, 2, none⟩ = some (.int .i64 (x / 32768 % 32)) := (blk_cell BK6.out 2).trans rfl
           have hc6_3 : wc.cell? ⟨g6, 3, none⟩ = some (.int .i64 0) := (blk_cell BK6.out 3).trans rfl
           have hc6_4 : wc.cell? ⟨g6, 4, none⟩ = some (.int .i64 (p)) := (blk_cell BK6.out 4).trans rfl
           have hf6_0 := blk_frozen BK6.out 0
           have hf6_1 := blk_frozen BK6.out 1
           have hf6_2 := blk_frozen BK6.out 2
           have hf6_3 := blk_frozen BK6.out 3
           have hf6_4 := blk_frozen BK6.out 4
           clear hc5_1 hc5_2 hc5_3 hf5_1 hf5_2 hf5_3
           by_cases him : p > 2047
           ·have hle : 2047 < p := by omega
            go_upto_region 22 with (first | (go_at_call 15; refine (cf_room_calls' 73 (by simp [FormOk]) (-2048) (2047) rfl _).mono ?_; rintro e w' ⟨rfl, hw⟩; obtain rfl := hw.symm))
            obtain ⟨wd, hwd⟩ : ∃ wd, wc.setCell ⟨g6, 4, none⟩ (.int .i64 (p + -4096)) = wd := ⟨_, rfl⟩
            have k6 : (wc.setCell ⟨g6, 4, none⟩ (.int .i64 (p + -4096))).heap[g6]? = some (.cells #[.int .i64 n, .int .i64 (x / 128 % 32), .int .i64 (x / 32768 % 32), .int .i64 0, .int .i64 (p + -4096)] 29 (0, 0)) := blk_put (cs := #[.int .i64 n, .int .i64 (x / 128 % 32), .int .i64 (x / 32768 % 32), .int .i64 0, .int .i64 (p)]) BK6.out 4 _ rfl
            have k5 := (Below.heap_setCell wc ⟨g6, 4, none⟩ (.int .i64 (p + -4096)) _ NB5_6.out).trans BK5.out
            have kr := (Below.heap_setCell wc ⟨g6, 4, none⟩ (.int .i64 (p + -4096)) _ NBr_6.out).trans BKr.out
            have km := (Below.heap_setCell wc ⟨g6, 4, none⟩ (.int .i64 (p + -4096)) _ NBm_6.out).trans BKm.out
            have k2 := (Below.heap_setCell wc ⟨g6, 4, none⟩ (.int .i64 (p + -4096)) _ NB2_6.out).trans BK2.out
            have kb := HB.out.setCell (p := ⟨g6, 4, none⟩) GE6.out (.int .i64 (p + -4096))
            rw [hwd] at k6 k5 kr km k2 kb
            rw [hwd]
            clear hwd BK6 BK5 BKr BKm BK2 HB
            have BK6 := Aside0.mk k6
            have BK5 := Aside0.mk k5
            have BKr := Aside0.mk kr
            have BKm := Aside0.mk km
            have BK2 := Aside0.mk k2
            have HB := Aside0.mk kb
            clear k6 k5 kr km k2 kb
            have hc6_0 : wd.cell? ⟨g6, 0, none⟩ = some (.int .i64 n) := (blk_cell BK6.out 0).trans rfl
            have hc6_1 : wd.cell? ⟨g6, 1, none⟩ = some (.int .i64 (x / 128 % 32)) := (blk_cell BK6.out 1).trans rfl
            have hc6_2 : wd.cell? ⟨g6, 2, none⟩ = some (.int .i64 (x / 32768 % 32)) := (blk_cell BK6.out 2).trans rfl
            have hc6_3 : wd.cell? ⟨g6, 3, none⟩ = some (.int .i64 0) := (blk_cell BK6.out 3).trans rfl
            have hc6_4 : wd.cell? ⟨g6, 4, none⟩ = some (.int .i64 (p + -4096)) := (blk_cell BK6.out 4).trans rfl
            have hf6_0 := blk_frozen BK6.out 0
            have hf6_1 := blk_frozen BK6.out 1
            have hf6_2 := blk_frozen BK6.out 2
            have hf6_3 := blk_frozen BK6.out 3
            have hf6_4 := blk_frozen BK6.out 4
            have HD := Aside0.mk (dec_73_out x hx0 hx1 Hp.out hle : Dec 73 x = (x / 128 % 32, x / 32768 % 32, 0, p + -4096))
            obtain ⟨⟨r0, r1⟩, hen⟩ : ∃ r, code_Encode.f n (x / 128 % 32) (x / 32768 % 32) (0) (p + -4096) = some r := ⟨_, rfl⟩
            have HEN := Aside0.mk hen
            clear hen
            have HHIT := Aside0.mk (dec_hit ⟨n, 73, o, s3, s7⟩ x HD.out HEN.out)
            by_cases hr1 : r1 = 0
            ·by_cases hr0 : r0 = x
             ·have HH := Aside0.mk (HHIT.out.2 ⟨hr0, hr1⟩)
              go_wp2_with (first | (go_at_call 15; refine (cf_room_calls' 73 (by simp [FormOk]) (-2048) (2047) rfl _).mono ?_; rintro e w' ⟨rfl, hw⟩; obtain rfl := hw.symm) | (go_at_call 9; (with_reducible refine (code_Encode.calls n (x / 128 % 32) (x / 32768 % 32) (0) (p + -4096) r0 r1 _ HEN.out).mono ?_); rintro e w6 ⟨rfl, hb⟩; have n0_ := Aside0.mk (blk_below BK6.out hb); have n1_ := Aside0.mk (blk_below BKr.out hb); have n2_ := Aside0.mk (blk_below BKm.out hb); have n3_ := Aside0.mk (blk_below BK2.out hb); have n4_ := Aside0.mk (below_step HB.out hb); clear BK6; clear BKr; clear BKm; clear BK2; clear HB; have BK6 := n0_; have BKr := n1_; have BKm := n2_; have BK2 := n3_; have HB := n4_; clear n0_ n1_ n2_ n3_ n4_; clear hb; have hc6_0 : w6.cell? ⟨g6, 0, none⟩ = some (.int .i64 n) := (blk_cell BK6.out 0).trans rfl; have hc6_1 : w6.cell? ⟨g6, 1, none⟩ = some (.int .i64 (x / 128 % 32)) := (blk_cell BK6.out 1).trans rfl; have hc6_2 : w6.cell? ⟨g6, 2, none⟩ = some (.int .i64 (x / 32768 % 32)) := (blk_cell BK6.out 2).trans rfl; have hc6_3 : w6.cell? ⟨g6, 3, none⟩ = some (.int .i64 0) := (blk_cell BK6.out 3).trans rfl; have hc6_4 : w6.cell? ⟨g6, 4, none⟩ = some (.int .i64 (p + -4096)) := (blk_cell BK6.out 4).trans rfl; have hf6_0 := blk_frozen BK6.out 0; have hf6_1 := blk_frozen BK6.out 1; have hf6_2 := blk_frozen BK6.out 2; have hf6_3 := blk_frozen BK6.out 3; have hf6_4 := blk_frozen BK6.out 4; have hc2_0 : w6.cell? ⟨g2, 0, none⟩ = some (.int .i64 0) := (blk_cell BK2.out 0).trans rfl; have hc2_1 : w6.cell? ⟨g2, 1, none⟩ = some (.int .i64 0) := (blk_cell BK2.out 1).trans rfl; have hc2_2 : w6.cell? ⟨g2, 2, none⟩ = some (.int .i64 0) := (blk_cell BK2.out 2).trans rfl; have hc2_3 : w6.cell? ⟨g2, 3, none⟩ = some (.int .i64 0) := (blk_cell BK2.out 3).trans rfl; have hc2_4 : w6.cell? ⟨g2, 4, none⟩ = some (.int .i64 0) := (blk_cell BK2.out 4).trans rfl; have hf2_0 := blk_frozen BK2.out 0; have hf2_1 := blk_frozen BK2.out 1; have hf2_2 := blk_frozen BK2.out 2; have hf2_3 := blk_frozen BK2.out 3; have hf2_4 := blk_frozen BK2.out 4))
              refine bodyPost_ret (dec_res _ _ g2 _ (0, 0) rfl (dec_put5 BK2.out _ _ _ _ _) rfl) rfl ?_
              exact ⟨.inl ⟨⟨n, 73, o, s3, s7⟩, HROW.out, HH.out, by simp only [HD.out]; rfl⟩, ((((HB.out.setCell GE2.out _).setCell GE2.out _).setCell GE2.out _).setCell GE2.out _).setCell GE2.out _⟩
             ·have HNH := Aside0.mk (fun h => by have hh := HHIT.out.1 h; exact hr0 hh.1 : ¬ Hit ⟨n, 73, o, s3, s7⟩ x)
              go_wp2_with (first | (go_at_call 15; refine (cf_room_calls' 73 (by simp [FormOk]) (-2048) (2047) rfl _).mono ?_; rintro e w' ⟨rfl, hw⟩; obtain rfl := hw.symm) | (go_at_call 9; (with_reducible refine (code_Encode.calls n (x / 128 % 32) (x / 32768 % 32) (0) (p + -4096) r0 r1 _ HEN.out).mono ?_); rintro e w6 ⟨rfl, hb⟩; have n0_ := Aside0.mk (blk_below BK6.out hb); have n1_ := Aside0.mk (blk_below BKr.out hb); have n2_ := Aside0.mk (blk_below BKm.out hb); have n3_ := Aside0.mk (blk_below BK2.out hb); have n4_ := Aside0.mk (below_step HB.out hb); clear BK6; clear BKr; clear BKm; clear BK2; clear HB; have BK6 := n0_; have BKr := n1_; have BKm := n2_; have BK2 := n3_; have HB := n4_; clear n0_ n1_ n2_ n3_ n4_; clear hb; have hc6_0 : w6.cell? ⟨g6, 0, none⟩ = some (.int .i64 n) := (blk_cell BK6.out 0).trans rfl; have hc6_1 : w6.cell? ⟨g6, 1, none⟩ = some (.int .i64 (x / 128 % 32)) := (blk_cell BK6.out 1).trans rfl; have hc6_2 : w6.cell? ⟨g6, 2, none⟩ = some (.int .i64 (x / 32768 % 32)) := (blk_cell BK6.out 2).trans rfl; have hc6_3 : w6.cell? ⟨g6, 3, none⟩ = some (.int .i64 0) := (blk_cell BK6.out 3).trans rfl; have hc6_4 : w6.cell? ⟨g6, 4, none⟩ = some (.int .i64 (p + -4096)) := (blk_cell BK6.out 4).trans rfl; have hf6_0 := blk_frozen BK6.out 0; have hf6_1 := blk_frozen BK6.out 1; have hf6_2 := blk_frozen BK6.out 2; have hf6_3 := blk_frozen BK6.out 3; have hf6_4 := blk_frozen BK6.out 4; have hc2_0 : w6.cell? ⟨g2, 0, none⟩ = some (.int .i64 0) := (blk_cell BK2.out 0).trans rfl; have hc2_1 : w6.cell? ⟨g2, 1, none⟩ = some (.int .i64 0) := (blk_cell BK2.out 1).trans rfl; have hc2_2 : w6.cell? ⟨g2, 2, none⟩ = some (.int .i64 0) := (blk_cell BK2.out 2).trans rfl; have hc2_3 : w6.cell? ⟨g2, 3, none⟩ = some (.int .i64 0) := (blk_cell BK2.out 3).trans rfl; have hc2_4 : w6.cell? ⟨g2, 4, none⟩ = some (.int .i64 0) := (blk_cell BK2.out 4).trans rfl; have hf2_0 := blk_frozen BK2.out 0; have hf2_1 := blk_frozen BK2.out 1; have hf2_2 := blk_frozen BK2.out 2; have hf2_3 := blk_frozen BK2.out 3; have hf2_4 := blk_frozen BK2.out 4))
              go_roundg (leftOf cm_es (seen.push e.born)).size
              case measure => exact Nat.lt_of_lt_of_le HSH.out hg
              case rel => exact ⟨seen.push e.born, cm_clk, Nat.le_refl _, ⟨Nat.le_refl _⟩, BKr, BKm, BK2, HB, ⟨dec_no HNO.out HE.out (by rw [HENT.out]; exact HNH.out)⟩⟩
            ·have HNH := Aside0.mk (fun h => by have hh := HHIT.out.1 h; exact hr1 hh.2 : ¬ Hit ⟨n, 73, o, s3, s7⟩ x)
             go_wp2_with (first | (go_at_call 15; refine (cf_room_calls' 73 (by simp [FormOk]) (-2048) (2047) rfl _).mono ?_; rintro e w' ⟨rfl, hw⟩; obtain rfl := hw.symm) | (go_at_call 9; (with_reducible refine (code_Encode.calls n (x / 128 % 32) (x / 32768 % 32) (0) (p + -4096) r0 r1 _ HEN.out).mono ?_); rintro e w6 ⟨rfl, hb⟩; have n0_ := Aside0.mk (blk_below BK6.out hb); have n1_ := Aside0.mk (blk_below BKr.out hb); have n2_ := Aside0.mk (blk_below BKm.out hb); have n3_ := Aside0.mk (blk_below BK2.out hb); have n4_ := Aside0.mk (below_step HB.out hb); clear BK6; clear BKr; clear BKm; clear BK2; clear HB; have BK6 := n0_; have BKr := n1_; have BKm := n2_; have BK2 := n3_; have HB := n4_; clear n0_ n1_ n2_ n3_ n4_; clear hb; have hc6_0 : w6.cell? ⟨g6, 0, none⟩ = some (.int .i64 n) := (blk_cell BK6.out 0).trans rfl; have hc6_1 : w6.cell? ⟨g6, 1, none⟩ = some (.int .i64 (x / 128 % 32)) := (blk_cell BK6.out 1).trans rfl; have hc6_2 : w6.cell? ⟨g6, 2, none⟩ = some (.int .i64 (x / 32768 % 32)) := (blk_cell BK6.out 2).trans rfl; have hc6_3 : w6.cell? ⟨g6, 3, none⟩ = some (.int .i64 0) := (blk_cell BK6.out 3).trans rfl; have hc6_4 : w6.cell? ⟨g6, 4, none⟩ = some (.int .i64 (p + -4096)) := (blk_cell BK6.out 4).trans rfl; have hf6_0 := blk_frozen BK6.out 0; have hf6_1 := blk_frozen BK6.out 1; have hf6_2 := blk_frozen BK6.out 2; have hf6_3 := blk_frozen BK6.out 3; have hf6_4 := blk_frozen BK6.out 4; have hc2_0 : w6.cell? ⟨g2, 0, none⟩ = some (.int .i64 0) := (blk_cell BK2.out 0).trans rfl; have hc2_1 : w6.cell? ⟨g2, 1, none⟩ = some (.int .i64 0) := (blk_cell BK2.out 1).trans rfl; have hc2_2 : w6.cell? ⟨g2, 2, none⟩ = some (.int .i64 0) := (blk_cell BK2.out 2).trans rfl; have hc2_3 : w6.cell? ⟨g2, 3, none⟩ = some (.int .i64 0) := (blk_cell BK2.out 3).trans rfl; have hc2_4 : w6.cell? ⟨g2, 4, none⟩ = some (.int .i64 0) := (blk_cell BK2.out 4).trans rfl; have hf2_0 := blk_frozen BK2.out 0; have hf2_1 := blk_frozen BK2.out 1; have hf2_2 := blk_frozen BK2.out 2; have hf2_3 := blk_frozen BK2.out 3; have hf2_4 := blk_frozen BK2.out 4))
             go_roundg (leftOf cm_es (seen.push e.born)).size
             case measure => exact Nat.lt_of_lt_of_le HSH.out hg
             case rel => exact ⟨seen.push e.born, cm_clk, Nat.le_refl _, ⟨Nat.le_refl _⟩, BKr, BKm, BK2, HB, ⟨dec_no HNO.out HE.out (by rw [HENT.out]; exact HNH.out)⟩⟩
           ·have hle : p ≤ 2047 := by omega
            have hnl : ¬ 2047 < p := by omega
            have HD := Aside0.mk (dec_73_in x hx0 hx1 Hp.out hle : Dec 73 x = (x / 128 % 32, x / 32768 % 32, 0, p))
            obtain ⟨⟨r0, r1⟩, hen⟩ : ∃ r, code_Encode.f n (x / 128 % 32) (x / 32768 % 32) (0) (p) = some r := ⟨_, rfl⟩
            have HEN := Aside0.mk hen
            clear hen
            have HHIT := Aside0.mk (dec_hit ⟨n, 73, o, s3, s7⟩ x HD.out HEN.out)
            by_cases hr1 : r1 = 0
            ·by_cases hr0 : r0 = x
             ·have HH := Aside0.mk (HHIT.out.2 ⟨hr0, hr1⟩)
              go_wp2_with (first | (go_at_call 15; refine (cf_room_calls' 73 (by simp [FormOk]) (-2048) (2047) rfl _).mono ?_; rintro e w' ⟨rfl, hw⟩; obtain rfl := hw.symm) | (go_at_call 9; (with_reducible refine (code_Encode.calls n (x / 128 % 32) (x / 32768 % 32) (0) (p) r0 r1 _ HEN.out).mono ?_); rintro e w6 ⟨rfl, hb⟩; have n0_ := Aside0.mk (blk_below BK6.out hb); have n1_ := Aside0.mk (blk_below BKr.out hb); have n2_ := Aside0.mk (blk_below BKm.out hb); have n3_ := Aside0.mk (blk_below BK2.out hb); have n4_ := Aside0.mk (below_step HB.out hb); clear BK6; clear BKr; clear BKm; clear BK2; clear HB; have BK6 := n0_; have BKr := n1_; have BKm := n2_; have BK2 := n3_; have HB := n4_; clear n0_ n1_ n2_ n3_ n4_; clear hb; have hc6_0 : w6.cell? ⟨g6, 0, none⟩ = some (.int .i64 n) := (blk_cell BK6.out 0).trans rfl; have hc6_1 : w6.cell? ⟨g6, 1, none⟩ = some (.int .i64 (x / 128 % 32)) := (blk_cell BK6.out 1).trans rfl; have hc6_2 : w6.cell? ⟨g6, 2, none⟩ = some (.int .i64 (x / 32768 % 32)) := (blk_cell BK6.out 2).trans rfl; have hc6_3 : w6.cell? ⟨g6, 3, none⟩ = some (.int .i64 0) := (blk_cell BK6.out 3).trans rfl; have hc6_4 : w6.cell? ⟨g6, 4, none⟩ = some (.int .i64 (p)) := (blk_cell BK6.out 4).trans rfl; have hf6_0 := blk_frozen BK6.out 0; have hf6_1 := blk_frozen BK6.out 1; have hf6_2 := blk_frozen BK6.out 2; have hf6_3 := blk_frozen BK6.out 3; have hf6_4 := blk_frozen BK6.out 4; have hc2_0 : w6.cell? ⟨g2, 0, none⟩ = some (.int .i64 0) := (blk_cell BK2.out 0).trans rfl; have hc2_1 : w6.cell? ⟨g2, 1, none⟩ = some (.int .i64 0) := (blk_cell BK2.out 1).trans rfl; have hc2_2 : w6.cell? ⟨g2, 2, none⟩ = some (.int .i64 0) := (blk_cell BK2.out 2).trans rfl; have hc2_3 : w6.cell? ⟨g2, 3, none⟩ = some (.int .i64 0) := (blk_cell BK2.out 3).trans rfl; have hc2_4 : w6.cell? ⟨g2, 4, none⟩ = some (.int .i64 0) := (blk_cell BK2.out 4).trans rfl; have hf2_0 := blk_frozen BK2.out 0; have hf2_1 := blk_frozen BK2.out 1; have hf2_2 := blk_frozen BK2.out 2; have hf2_3 := blk_frozen BK2.out 3; have hf2_4 := blk_frozen BK2.out 4))
              refine bodyPost_ret (dec_res _ _ g2 _ (0, 0) rfl (dec_put5 BK2.out _ _ _ _ _) rfl) rfl ?_
              exact ⟨.inl ⟨⟨n, 73, o, s3, s7⟩, HROW.out, HH.out, by simp only [HD.out]; rfl⟩, ((((HB.out.setCell GE2.out _).setCell GE2.out _).setCell GE2.out _).setCell GE2.out _).setCell GE2.out _⟩
             ·have HNH := Aside0.mk (fun h => by have hh := HHIT.out.1 h; exact hr0 hh.1 : ¬ Hit ⟨n, 73, o, s3, s7⟩ x)
              go_wp2_with (first | (go_at_call 15; refine (cf_room_calls' 73 (by simp [FormOk]) (-2048) (2047) rfl _).mono ?_; rintro e w' ⟨rfl, hw⟩; obtain rfl := hw.symm) | (go_at_call 9; (with_reducible refine (code_Encode.calls n (x / 128 % 32) (x / 32768 % 32) (0) (p) r0 r1 _ HEN.out).mono ?_); rintro e w6 ⟨rfl, hb⟩; have n0_ := Aside0.mk (blk_below BK6.out hb); have n1_ := Aside0.mk (blk_below BKr.out hb); have n2_ := Aside0.mk (blk_below BKm.out hb); have n3_ := Aside0.mk (blk_below BK2.out hb); have n4_ := Aside0.mk (below_step HB.out hb); clear BK6; clear BKr; clear BKm; clear BK2; clear HB; have BK6 := n0_; have BKr := n1_; have BKm := n2_; have BK2 := n3_; have HB := n4_; clear n0_ n1_ n2_ n3_ n4_; clear hb; have hc6_0 : w6.cell? ⟨g6, 0, none⟩ = some (.int .i64 n) := (blk_cell BK6.out 0).trans rfl; have hc6_1 : w6.cell? ⟨g6, 1, none⟩ = some (.int .i64 (x / 128 % 32)) := (blk_cell BK6.out 1).trans rfl; have hc6_2 : w6.cell? ⟨g6, 2, none⟩ = some (.int .i64 (x / 32768 % 32)) := (blk_cell BK6.out 2).trans rfl; have hc6_3 : w6.cell? ⟨g6, 3, none⟩ = some (.int .i64 0) := (blk_cell BK6.out 3).trans rfl; have hc6_4 : w6.cell? ⟨g6, 4, none⟩ = some (.int .i64 (p)) := (blk_cell BK6.out 4).trans rfl; have hf6_0 := blk_frozen BK6.out 0; have hf6_1 := blk_frozen BK6.out 1; have hf6_2 := blk_frozen BK6.out 2; have hf6_3 := blk_frozen BK6.out 3; have hf6_4 := blk_frozen BK6.out 4; have hc2_0 : w6.cell? ⟨g2, 0, none⟩ = some (.int .i64 0) := (blk_cell BK2.out 0).trans rfl; have hc2_1 : w6.cell? ⟨g2, 1, none⟩ = some (.int .i64 0) := (blk_cell BK2.out 1).trans rfl; have hc2_2 : w6.cell? ⟨g2, 2, none⟩ = some (.int .i64 0) := (blk_cell BK2.out 2).trans rfl; have hc2_3 : w6.cell? ⟨g2, 3, none⟩ = some (.int .i64 0) := (blk_cell BK2.out 3).trans rfl; have hc2_4 : w6.cell? ⟨g2, 4, none⟩ = some (.int .i64 0) := (blk_cell BK2.out 4).trans rfl; have hf2_0 := blk_frozen BK2.out 0; have hf2_1 := blk_frozen BK2.out 1; have hf2_2 := blk_frozen BK2.out 2; have hf2_3 := blk_frozen BK2.out 3; have hf2_4 := blk_frozen BK2.out 4))
              go_roundg (leftOf cm_es (seen.push e.born)).size
              case measure => exact Nat.lt_of_lt_of_le HSH.out hg
              case rel => exact ⟨seen.push e.born, cm_clk, Nat.le_refl _, ⟨Nat.le_refl _⟩, BKr, BKm, BK2, HB, ⟨dec_no HNO.out HE.out (by rw [HENT.out]; exact HNH.out)⟩⟩
            ·have HNH := Aside0.mk (fun h => by have hh := HHIT.out.1 h; exact hr1 hh.2 : ¬ Hit ⟨n, 73, o, s3, s7⟩ x)
             go_wp2_with (first | (go_at_call 15; refine (cf_room_calls' 73 (by simp [FormOk]) (-2048) (2047) rfl _).mono ?_; rintro e w' ⟨rfl, hw⟩; obtain rfl := hw.symm) | (go_at_call 9; (with_reducible refine (code_Encode.calls n (x / 128 % 32) (x / 32768 % 32) (0) (p) r0 r1 _ HEN.out).mono ?_); rintro e w6 ⟨rfl, hb⟩; have n0_ := Aside0.mk (blk_below BK6.out hb); have n1_ := Aside0.mk (blk_below BKr.out hb); have n2_ := Aside0.mk (blk_below BKm.out hb); have n3_ := Aside0.mk (blk_below BK2.out hb); have n4_ := Aside0.mk (below_step HB.out hb); clear BK6; clear BKr; clear BKm; clear BK2; clear HB; have BK6 := n0_; have BKr := n1_; have BKm := n2_; have BK2 := n3_; have HB := n4_; clear n0_ n1_ n2_ n3_ n4_; clear hb; have hc6_0 : w6.cell? ⟨g6, 0, none⟩ = some (.int .i64 n) := (blk_cell BK6.out 0).trans rfl; have hc6_1 : w6.cell? ⟨g6, 1, none⟩ = some (.int .i64 (x / 128 % 32)) := (blk_cell BK6.out 1).trans rfl; have hc6_2 : w6.cell? ⟨g6, 2, none⟩ = some (.int .i64 (x / 32768 % 32)) := (blk_cell BK6.out 2).trans rfl; have hc6_3 : w6.cell? ⟨g6, 3, none⟩ = some (.int .i64 0) := (blk_cell BK6.out 3).trans rfl; have hc6_4 : w6.cell? ⟨g6, 4, none⟩ = some (.int .i64 (p)) := (blk_cell BK6.out 4).trans rfl; have hf6_0 := blk_frozen BK6.out 0; have hf6_1 := blk_frozen BK6.out 1; have hf6_2 := blk_frozen BK6.out 2; have hf6_3 := blk_frozen BK6.out 3; have hf6_4 := blk_frozen BK6.out 4; have hc2_0 : w6.cell? ⟨g2, 0, none⟩ = some (.int .i64 0) := (blk_cell BK2.out 0).trans rfl; have hc2_1 : w6.cell? ⟨g2, 1, none⟩ = some (.int .i64 0) := (blk_cell BK2.out 1).trans rfl; have hc2_2 : w6.cell? ⟨g2, 2, none⟩ = some (.int .i64 0) := (blk_cell BK2.out 2).trans rfl; have hc2_3 : w6.cell? ⟨g2, 3, none⟩ = some (.int .i64 0) := (blk_cell BK2.out 3).trans rfl; have hc2_4 : w6.cell? ⟨g2, 4, none⟩ = some (.int .i64 0) := (blk_cell BK2.out 4).trans rfl; have hf2_0 := blk_frozen BK2.out 0; have hf2_1 := blk_frozen BK2.out 1; have hf2_2 := blk_frozen BK2.out 2; have hf2_3 := blk_frozen BK2.out 3; have hf2_4 := blk_frozen BK2.out 4))
             go_roundg (leftOf cm_es (seen.push e.born)).size
             case measure => exact Nat.lt_of_lt_of_le HSH.out hg
             case rel => exact ⟨seen.push e.born, cm_clk, Nat.le_refl _, ⟨Nat.le_refl _⟩, BKr, BKm, BK2, HB, ⟨dec_no HNO.out HE.out (by rw [HENT.out]; exact HNH.out)⟩⟩
     ·as_aux_lemma =>
       go_upto_region 5 with (fail)
       go_cut [6] (fun v6 wc => ∃ g6, v6 = .pointer (some ⟨g6, 0, none⟩) ∧ Aside0 (wc.heap[g6]? = some (.cells #[.int .i64 n, .int .i64 0, .int .i64 0, .int .i64 0, .int .i64 0] 29 (0, 0))) ∧ Aside0 (g5 ≠ g6) ∧ Aside0 (gr ≠ g6) ∧ Aside0 (gm ≠ g6) ∧ Aside0 (g2 ≠ g6) ∧ Aside0 (w.heap.size ≤ g6) ∧ Aside0 (wc.heap[g5]? = some (.cells #[.int .u8 83, .int .u32 o, .int .u32 s3, .int .u32 s7] 48 (0, 0))) ∧ Aside0 (wc.heap[gr]? = some (.mapIter (some gm) cm_clk (seen.push e.born) cm_clk)) ∧ Aside0 (wc.heap[gm]? = some (.map cm_es cm_clk)) ∧ Aside0 (wc.heap[g2]? = some (.cells #[.int .i64 0, .int .i64 0, .int .i64 0, .int .i64 0, .int .i64 0] 29 (0, 0))) ∧ Aside0 (Below w.heap.size w wc))
       case first =>
        go_wp2
        go_meet
        case rel => exact ⟨_, rfl, ⟨heap_alloc_new _ _⟩, ⟨Nat.ne_of_lt (blk_lt BK5.out)⟩, ⟨Nat.ne_of_lt (blk_lt BKr.out)⟩, ⟨Nat.ne_of_lt (blk_lt BKm.out)⟩, ⟨Nat.ne_of_lt (blk_lt BK2.out)⟩, ⟨HB.out.size⟩, ⟨blk_al BK5.out _⟩, ⟨blk_al BKr.out _⟩, ⟨blk_al BKm.out _⟩, ⟨blk_al BK2.out _⟩, ⟨HB.out.alloc HB.out.size _⟩⟩
       case rest =>
        clear BK5 BKr BKm BK2 HB hc5_0 hc5_1 hc5_2 hc5_3 hf5_0 hf5_1 hf5_2 hf5_3
        obtain ⟨g6, rfl, BK6, NB5_6, NBr_6, NBm_6, NB2_6, GE6, BK5, BKr, BKm, BK2, HB⟩ := hcut
        have hc5_0 : wc.cell? ⟨g5, 0, none⟩ = some (.int .u8 83) := (blk_cell BK5.out 0).trans rfl
        have hc5_1 : wc.cell? ⟨g5, 1, none⟩ = some (.int .u32 o) := (blk_cell BK5.out 1).trans rfl
        have hc5_2 : wc.cell? ⟨g5, 2, none⟩ = some (.int .u32 s3) := (blk_cell BK5.out 2).trans rfl
        have hc5_3 : wc.cell? ⟨g5, 3, none⟩ = some (.int .u32 s7) := (blk_cell BK5.out 3).trans rfl
        have hf5_0 := blk_frozen BK5.out 0
        have hf5_1 := blk_frozen BK5.out 1
        have hf5_2 := blk_frozen BK5.out 2
        have hf5_3 := blk_frozen BK5.out 3
        go_upto_region 6 with (fail)
        go_cut [7] (fun v7 wc => ∃ g7, v7 = .pointer (some ⟨g7, 0, none⟩) ∧ Aside0 (wc.heap[g7]? = some (.cells #[.bool false, .bool true, .bool true] 54 (0, 0))) ∧ Aside0 (g6 ≠ g7) ∧ Aside0 (wc.heap[g6]? = some (.cells #[.int .i64 n, .int .i64 0, .int .i64 0, .int .i64 0, .int .i64 0] 29 (0, 0))) ∧ Aside0 (wc.heap[g5]? = some (.cells #[.int .u8 83, .int .u32 o, .int .u32 s3, .int .u32 s7] 48 (0, 0))) ∧ Aside0 (wc.heap[gr]? = some (.mapIter (some gm) cm_clk (seen.push e.born) cm_clk)) ∧ Aside0 (wc.heap[gm]? = some (.map cm_es cm_clk)) ∧ Aside0 (wc.heap[g2]? = some (.cells #[.int .i64 0, .int .i64 0, .int .i64 0, .int .i64 0, .int .i64 0] 29 (0, 0))) ∧ Aside0 (Below w.heap.size w wc))
        case first =>
         go_wp2_with (first | (go_at_call 16; refine (cf_uses_calls' 83 (by simp [FormOk]) false true true rfl _).mono ?_; rintro e w5 ⟨rfl, hb⟩; have n0_ := Aside0.mk (blk_below BK5.out hb); have n1_ := Aside0.mk (blk_below BK6.out hb); have n2_ := Aside0.mk (blk_below BKr.out hb); have n3_ := Aside0.mk (blk_below BKm.out hb); have n4_ := Aside0.mk (blk_below BK2.out hb); have n5_ := Aside0.mk (below_step HB.out hb); clear BK5; clear BK6; clear BKr; clear BKm; clear BK2; clear HB; have BK5 := n0_; have BK6 := n1_; have BKr := n2_; have BKm := n3_; have BK2 := n4_; have HB := n5_; clear n0_ n1_ n2_ n3_ n4_ n5_; clear hb))
         go_meet
         case rel => exact ⟨_, rfl, ⟨heap_alloc_new _ _⟩, ⟨Nat.ne_of_lt (blk_lt BK6.out)⟩, ⟨blk_al BK6.out _⟩, ⟨blk_al BK5.out _⟩, ⟨blk_al BKr.out _⟩, ⟨blk_al BKm.out _⟩, ⟨blk_al BK2.out _⟩, ⟨HB.out.alloc HB.out.size _⟩⟩
        case rest =>
         clear BK6 BK5 BKr BKm BK2 HB hc5_0 hc5_1 hc5_2 hc5_3 hf5_0 hf5_1 hf5_2 hf5_3
         obtain ⟨g7, rfl, BK7, NB6_7, BK6, BK5, BKr, BKm, BK2, HB⟩ := hcut
         have hc7_0 : wc.cell? ⟨g7, 0, none⟩ = some (.bool false) := (blk_cell BK7.out 0).trans rfl
         have hc7_1 : wc.cell? ⟨g7, 1, none⟩ = some (.bool true) := (blk_cell BK7.out 1).trans rfl
         have hc7_2 : wc.cell? ⟨g7, 2, none⟩ = some (.bool true) := (blk_cell BK7.out 2).trans rfl
         have hf7_0 := blk_frozen BK7.out 0
         have hf7_1 := blk_frozen BK7.out 1
         have hf7_2 := blk_frozen BK7.out 2
         go_upto_block 2 with (fail)
         go_cut [] (fun wc => Aside0 (wc.heap[g6]? = some (.cells #[.int .i64 n, .int .i64 0, .int .i64 (x / 32768 % 32), .int .i64 (x / 1048576 % 32), .int .i64 0] 29 (0, 0))) ∧ Aside0 (wc.heap[g5]? = some (.cells #[.int .u8 83, .int .u32 o, .int .u32 s3, .int .u32 s7] 48 (0, 0))) ∧ Aside0 (wc.heap[gr]? = some (.mapIter (some gm) cm_clk (seen.push e.born) cm_clk)) ∧ Aside0 (wc.heap[gm]? = some (.map cm_es cm_clk)) ∧ Aside0 (wc.heap[g2]? = some (.cells #[.int .i64 0, .int .i64 0, .int .i64 0, .int .i64 0, .int .i64 0] 29 (0, 0))) ∧ Aside0 (Below w.heap.size w wc))
         case first =>
          have hc6_0 : wc.cell? ⟨g6, 0, none⟩ = some (.int .i64 n) := (blk_cell BK6.out 0).trans rfl
          have hc6_1 : wc.cell? ⟨g6, 1, none⟩ = some (.int .i64 0) := (blk_cell BK6.out 1).trans rfl
          have hc6_2 : wc.cell? ⟨g6, 2, none⟩ = some (.int .i64 0) := (blk_cell BK6.out 2).trans rfl
          have hc6_3 : wc.cell? ⟨g6, 3, none⟩ = some (.int .i64 0) := (blk_cell BK6.out 3).trans rfl
          have hc6_4 : wc.cell? ⟨g6, 4, none⟩ = some (.int .i64 0) := (blk_cell BK6.out 4).trans rfl
          have hf6_0 := blk_frozen BK6.out 0
          have hf6_1 := blk_frozen BK6.out 1
          have hf6_2 := blk_frozen BK6.out 2
          have hf6_3 := blk_frozen BK6.out 3
          have hf6_4 := blk_frozen BK6.out 4
          have hnb6 := NB6_7.out
          have hnb7 := NB6_7.out.symm
          go_wp2
          have i0 := dec_i66_0
          have j0 := enc_i56_0
          have i1 := dec_i66_1
          have j1 := enc_i56_1
          have i2 := dec_i66_2
          have j2 := enc_i56_2
          refine wp_loop_rounds 4 ?_
          rw [rounds_succ]
          go_wp2
          rw [rounds_succ]
          go_wp2
          rw [rounds_succ]
          go_wp2
          rw [rounds_succ]
          go_wp2
          go_meet
          case rel => exact ⟨⟨blk_put (cs := #[.int .i64 n, .int .i64 0, .int .i64 (x / 32768 % 32), .int .i64 0, .int .i64 0]) (blk_put (cs := #[.int .i64 n, .int .i64 0, .int .i64 0, .int .i64 0, .int .i64 0]) (BK6.out) 2 _ rfl) 3 _ rfl⟩, ⟨by rw [Below.heap_setCell _ _ _ _ NB5_6.out, Below.heap_setCell _ _ _ _ NB5_6.out]; exact BK5.out⟩, ⟨by rw [Below.heap_setCell _ _ _ _ NBr_6.out, Below.heap_setCell _ _ _ _ NBr_6.out]; exact BKr.out⟩, ⟨by rw [Below.heap_setCell _ _ _ _ NBm_6.out, Below.heap_setCell _ _ _ _ NBm_6.out]; exact BKm.out⟩, ⟨by rw [Below.heap_setCell _ _ _ _ NB2_6.out, Below.heap_setCell _ _ _ _ NB2_6.out]; exact BK2.out⟩, ⟨((HB.out.setCell GE6.out _).setCell GE6.out _)⟩⟩
         case rest =>
          clear BK7 BK6 BK5 BKr BKm BK2 HB hc7_0 hc7_1 hc7_2 hf7_0 hf7_1 hf7_2
          obtain ⟨BK6, BK5, BKr, BKm, BK2, HB⟩ := hcut
          have hc5_0 : wc.cell? ⟨g5, 0, none⟩ = some (.int .u8 83) := (blk_cell BK5.out 0).trans rfl
          have hc5_1 : wc.cell? ⟨g5, 1, none⟩ = some (.int .u32 o) := (blk_cell BK5.out 1).trans rfl
          have hc5_2 : wc.cell? ⟨g5, 2, none⟩ = some (.int .u32 s3) := (blk_cell BK5.out 2).trans rfl
          have hc5_3 : wc.cell? ⟨g5, 3, none⟩ = some (.int .u32 s7) := (blk_cell BK5.out 3).trans rfl
          have hf5_0 := blk_frozen BK5.out 0
          have hf5_1 := blk_frozen BK5.out 1
          have hf5_2 := blk_frozen BK5.out 2
          have hf5_3 := blk_frozen BK5.out 3
          obtain ⟨p, hp⟩ : ∃ v, x / 128 % 32 = v := ⟨_, rfl⟩
          have Hp := Aside0.mk hp
          have hp0 : 0 ≤ p := by omega
          have hp1 : p < 32 := by omega
          have em0 : bits BinOp.and IntKind.u32 (x / 128) 31 = p := (u32_andm 5 31 (by decide) (by decide) _ (by omega) (by omega)).trans hp
          clear hp
          obtain ⟨q, hq⟩ : ∃ v, x / 33554432 % 128 = v := ⟨_, rfl⟩
          have Hq := Aside0.mk hq
          have hq0 : 0 ≤ q := by omega
          have hq1 : q < 128 := by omega
          have em1 : bits BinOp.and IntKind.u32 (x / 33554432) 127 = q := (u32_andm 7 127 (by decide) (by decide) _ (by omega) (by omega)).trans hq
          clear hq
          clear e7 e15 e20 eand
          go_upto_block 4 with (first | (go_at_call 17; refine (cf_pcall_83 _).mono ?_; rintro e w5 ⟨g9, hg9, rfl, hk9, hb⟩; have n0_ := Aside0.mk (blk_below BK5.out hb); have n1_ := Aside0.mk (blk_below BK6.out hb); have n2_ := Aside0.mk (blk_below BKr.out hb); have n3_ := Aside0.mk (blk_below BKm.out hb); have n4_ := Aside0.mk (blk_below BK2.out hb); have n5_ := Aside0.mk (below_step HB.out hb); have n6_ := Aside0.mk hk9; have n7_ := Aside0.mk ((by rw [hg9]; exact Nat.ne_of_lt (blk_lt BK6.out)) : g6 ≠ g9); clear BK5; clear BK6; clear BKr; clear BKm; clear BK2; clear HB; have BK5 := n0_; have BK6 := n1_; have BKr := n2_; have BKm := n3_; have BK2 := n4_; have HB := n5_; have BK9 := n6_; have NB6_9 := n7_; clear n0_ n1_ n2_ n3_ n4_ n5_ n6_ n7_; clear hb hk9 hg9))
          go_cut [] (fun wc => Aside0 (wc.heap[g6]? = some (.cells #[.int .i64 n, .int .i64 0, .int .i64 (x / 32768 % 32), .int .i64 (x / 1048576 % 32), .int .i64 (p + q * 32)] 29 (0, 0))) ∧ Aside0 (wc.heap[g5]? = some (.cells #[.int .u8 83, .int .u32 o, .int .u32 s3, .int .u32 s7] 48 (0, 0))) ∧ Aside0 (wc.heap[gr]? = some (.mapIter (some gm) cm_clk (seen.push e.born) cm_clk)) ∧ Aside0 (wc.heap[gm]? = some (.map cm_es cm_clk)) ∧ Aside0 (wc.heap[g2]? = some (.cells #[.int .i64 0, .int .i64 0, .int .i64 0, .int .i64 0, .int .i64 0] 29 (0, 0))) ∧ Aside0 (Below w.heap.size w wc))
          case first =>
           clear hc5_0 hc5_1 hc5_2 hc5_3 hf5_0 hf5_1 hf5_2 hf5_3
           go_wp2
           go_loopg [61] 2 (fun gg v61 w' => ∃ k : Nat, k ≤ 2 ∧ 2 - k ≤ gg ∧ v61 = .int .i64 k ∧ Aside0 (w'.heap[g6]? = some (.cells #[.int .i64 n, .int .i64 0, .int .i64 (x / 32768 % 32), .int .i64 (x / 1048576 % 32), .int .i64 (([0, p, p + q * 32] : List Int).getD k 0)] 29 (0, 0))) ∧ Aside0 (w'.heap[g9]? = some (.cells #[.int .u64 0, .int .u64 5, .int .u64 7, .int .u64 5, .int .u64 7, .int .u64 25] 60 (0, 0))) ∧ Aside0 (w'.heap[g5]? = some (.cells #[.int .u8 83, .int .u32 o, .int .u32 s3, .int .u32 s7] 48 (0, 0))) ∧ Aside0 (w'.heap[gr]? = some (.mapIter (some gm) cm_clk (seen.push e.born) cm_clk)) ∧ Aside0 (w'.heap[gm]? = some (.map cm_es cm_clk)) ∧ Aside0 (w'.heap[g2]? = some (.cells #[.int .i64 0, .int .i64 0, .int .i64 0, .int .i64 0, .int .i64 0] 29 (0, 0))) ∧ Aside0 (Below w.heap.size w w'))
           case atStart => exact ⟨0, by omega, by omega, rfl, BK6, BK9, BK5, BKr, BKm, BK2, HB⟩
           case round =>
            clear BK6 BK9 BK5 BKr BKm BK2 HB
            obtain ⟨k, hk, hg, rfl, BK6, BK9, BK5, BKr, BKm, BK2, HB⟩ := hrel
            have hk3 : k = 0 ∨ k = 1 ∨ k = 2 := by omega
            rcases hk3 with rfl | rfl | rfl
            ·have hc6_4 : wr.cell? ⟨g6, 4, none⟩ = some (.int .i64 (0)) := (blk_cell BK6.out 4).trans rfl
             have hf6_4 := blk_frozen BK6.out 4
             have hc6a : ∀ o, (wr.alloc o).cell? ⟨g6, 4, none⟩ = some (.int .i64 (0)) := fun o => (blk_cell (blk_al BK6.out o) 4).trans rfl
             have hf6a : ∀ o, (wr.alloc o).frozen? ⟨g6, 4, none⟩ = false := fun o => blk_frozen (blk_al BK6.out o) 4
             have hc9_0 : wr.cell? ⟨g9, 0, none⟩ = some (.int .u64 0) := (blk_cell BK9.out 0).trans rfl
             have hf9_0 := blk_frozen BK9.out 0
             have hc9_1 : wr.cell? ⟨g9, 1, none⟩ = some (.int .u64 5) := (blk_cell BK9.out 1).trans rfl
             have hf9_1 := blk_frozen BK9.out 1
             have hc9_2 : wr.cell? ⟨g9, 2, none⟩ = some (.int .u64 7) := (blk_cell BK9.out 2).trans rfl
             have hf9_2 := blk_frozen BK9.out 2
             have eor : bits BinOp.or IntKind.i64 (0) (p) = p := (i64_or 0 5 0 p (p) (by omega) (by omega) (by omega) (by omega) (by omega) (by omega) (by omega)).trans (by omega)
             go_wp2
             go_roundg 1
             case measure => omega
             case rel => exact ⟨1, by omega, by omega, rfl, ⟨blk_put (cs := #[.int .i64 n, .int .i64 0, .int .i64 (x / 32768 % 32), .int .i64 (x / 1048576 % 32), .int .i64 0]) (blk_al BK6.out _) 4 _ rfl⟩, ⟨(Below.heap_setCell _ _ _ _ NB6_9.out.symm).trans (blk_al BK9.out _)⟩, ⟨(Below.heap_setCell _ _ _ _ NB5_6.out).trans (blk_al BK5.out _)⟩, ⟨(Below.heap_setCell _ _ _ _ NBr_6.out).trans (blk_al BKr.out _)⟩, ⟨(Below.heap_setCell _ _ _ _ NBm_6.out).trans (blk_al BKm.out _)⟩, ⟨(Below.heap_setCell _ _ _ _ NB2_6.out).trans (blk_al BK2.out _)⟩, ⟨(HB.out.alloc HB.out.size _).setCell GE6.out _⟩⟩
            ·have hc6_4 : wr.cell? ⟨g6, 4, none⟩ = some (.int .i64 (p)) := (blk_cell BK6.out 4).trans rfl
             have hf6_4 := blk_frozen BK6.out 4
             have hc6a : ∀ o, (wr.alloc o).cell? ⟨g6, 4, none⟩ = some (.int .i64 (p)) := fun o => (blk_cell (blk_al BK6.out o) 4).trans rfl
             have hf6a : ∀ o, (wr.alloc o).frozen? ⟨g6, 4, none⟩ = false := fun o => blk_frozen (blk_al BK6.out o) 4
             have hc9_0 : wr.cell? ⟨g9, 3, none⟩ = some (.int .u64 5) := (blk_cell BK9.out 3).trans rfl
             have hf9_0 := blk_frozen BK9.out 3
             have hc9_1 : wr.cell? ⟨g9, 4, none⟩ = some (.int .u64 7) := (blk_cell BK9.out 4).trans rfl
             have hf9_1 := blk_frozen BK9.out 4
             have hc9_2 : wr.cell? ⟨g9, 5, none⟩ = some (.int .u64 25) := (blk_cell BK9.out 5).trans rfl
             have hf9_2 := blk_frozen BK9.out 5
             have eor : bits BinOp.or IntKind.i64 (p) (q * 32) = p + q * 32 := i64_or 5 7 _ q _ (by omega) (by omega) (by omega) (by omega) (by omega) (by omega) (by omega)
             go_wp2
             go_roundg 0
             case measure => omega
             case rel => exact ⟨2, by omega, by omega, rfl, ⟨blk_put (cs := #[.int .i64 n, .int .i64 0, .int .i64 (x / 32768 % 32), .int .i64 (x / 1048576 % 32), .int .i64 (p)]) (blk_al BK6.out _) 4 _ rfl⟩, ⟨(Below.heap_setCell _ _ _ _ NB6_9.out.symm).trans (blk_al BK9.out _)⟩, ⟨(Below.heap_setCell _ _ _ _ NB5_6.out).trans (blk_al BK5.out _)⟩, ⟨(Below.heap_setCell _ _ _ _ NBr_6.out).trans (blk_al BKr.out _)⟩, ⟨(Below.heap_setCell _ _ _ _ NBm_6.out).trans (blk_al BKm.out _)⟩, ⟨(Below.heap_setCell _ _ _ _ NB2_6.out).trans (blk_al BK2.out _)⟩, ⟨(HB.out.alloc HB.out.size _).setCell GE6.out _⟩⟩
            ·go_wp2
             go_meet
             case rel => exact ⟨BK6, BK5, BKr, BKm, BK2, HB⟩
          case rest =>
           clear BK9 NB6_9
           clear BK6 BK5 BKr BKm BK2 HB hc5_0 hc5_1 hc5_2 hc5_3 hf5_0 hf5_1 hf5_2 hf5_3
           obtain ⟨BK6, BK5, BKr, BKm, BK2, HB⟩ := hcut
           have hc5_0 : wc.cell? ⟨g5, 0, none⟩ = some (.int .u8 83) := (blk_cell BK5.out 0).trans rfl
           have hc5_1 : wc.cell? ⟨g5, 1, none⟩ = some (.int .u32 o) := (blk_cell BK5.out 1).trans rfl
           have hc5_2 : wc.cell? ⟨g5, 2, none⟩ = some (.int .u32 s3) := (blk_cell BK5.out 2).trans rfl
           have hc5_3 : wc.cell? ⟨g5, 3, none⟩ = some (.int .u32 s7) := (blk_cell BK5.out 3).trans rfl
           have hf5_0 := blk_frozen BK5.out 0
           have hf5_1 := blk_frozen BK5.out 1
           have hf5_2 := blk_frozen BK5.out 2
           have hf5_3 := blk_frozen BK5.out 3
           have hc6_0 : wc.cell? ⟨g6, 0, none⟩ = some (.int .i64 n) := (blk_cell BK6.out 0).trans rfl
           have hc6_1 : wc.cell? ⟨g6, 1, none⟩ = some (.int .i64 0) := (blk_cell BK6.out 1).trans rfl
           have hc6_2 : wc.cell? ⟨g6, 2, none⟩ = some (.int .i64 (x / 32768 % 32)) := (blk_cell BK6.out 2).trans rfl
           have hc6_3 : wc.cell? ⟨g6, 3, none⟩ = some (.int .i64 (x / 1048576 % 32)) := (blk_cell BK6.out 3).trans rfl
           have hc6_4 : wc.cell? ⟨g6, 4, none⟩ = some (.int .i64 (p + q * 32)) := (blk_cell BK6.out 4).trans rfl
           have hf6_0 := blk_frozen BK6.out 0
           have hf6_1 := blk_frozen BK6.out 1
           have hf6_2 := blk_frozen BK6.out 2
           have hf6_3 := blk_frozen BK6.out 3
           have hf6_4 := blk_frozen BK6.out 4
           clear hc5_1 hc5_2 hc5_3 hf5_1 hf5_2 hf5_3
           by_cases him : p + q * 32 > 2047
           ·have hle : 2047 < p + q * 32 := by omega
            go_upto_region 22 with (first | (go_at_call 15; refine (cf_room_calls' 83 (by simp [FormOk]) (-2048) (2047) rfl _).mono ?_; rintro e w' ⟨rfl, hw⟩; obtain rfl := hw.symm))
            obtain ⟨wd, hwd⟩ : ∃ wd, wc.setCell ⟨g6, 4, none⟩ (.int .i64 (p + q * 32 + -4096)) = wd := ⟨_, rfl⟩
            have k6 : (wc.setCell ⟨g6, 4, none⟩ (.int .i64 (p + q * 32 + -4096))).heap[g6]? = some (.cells #[.int .i64 n, .int .i64 0, .int .i64 (x / 32768 % 32), .int .i64 (x / 1048576 % 32), .int .i64 (p + q * 32 + -4096)] 29 (0, 0)) := blk_put (cs := #[.int .i64 n, .int .i64 0, .int .i64 (x / 32768 % 32), .int .i64 (x / 1048576 % 32), .int .i64 (p + q * 32)]) BK6.out 4 _ rfl
            have k5 := (Below.heap_setCell wc ⟨g6, 4, none⟩ (.int .i64 (p + q * 32 + -4096)) _ NB5_6.out).trans BK5.out
            have kr := (Below.heap_setCell wc ⟨g6, 4, none⟩ (.int .i64 (p + q * 32 + -4096)) _ NBr_6.out).trans BKr.out
            have km := (Below.heap_setCell wc ⟨g6, 4, none⟩ (.int .i64 (p + q * 32 + -4096)) _ NBm_6.out).trans BKm.out
            have k2 := (Below.heap_setCell wc ⟨g6, 4, none⟩ (.int .i64 (p + q * 32 + -4096)) _ NB2_6.out).trans BK2.out
            have kb := HB.out.setCell (p := ⟨g6, 4, none⟩) GE6.out (.int .i64 (p + q * 32 + -4096))
            rw [hwd] at k6 k5 kr km k2 kb
            rw [hwd]
            clear hwd BK6 BK5 BKr BKm BK2 HB
            have BK6 := Aside0.mk k6
            have BK5 := Aside0.mk k5
            have BKr := Aside0.mk kr
            have BKm := Aside0.mk km
            have BK2 := Aside0.mk k2
            have HB := Aside0.mk kb
            clear k6 k5 kr km k2 kb
            have hc6_0 : wd.cell? ⟨g6, 0, none⟩ = some (.int .i64 n) := (blk_cell BK6.out 0).trans rfl
            have hc6_1 : wd.cell? ⟨g6, 1, none⟩ = some (.int .i64 0) := (blk_cell BK6.out 1).trans rfl
            have hc6_2 : wd.cell? ⟨g6, 2, none⟩ = some (.int .i64 (x / 32768 % 32)) := (blk_cell BK6.out 2).trans rfl
            have hc6_3 : wd.cell? ⟨g6, 3, none⟩ = some (.int .i64 (x / 1048576 % 32)) := (blk_cell BK6.out 3).trans rfl
            have hc6_4 : wd.cell? ⟨g6, 4, none⟩ = some (.int .i64 (p + q * 32 + -4096)) := (blk_cell BK6.out 4).trans rfl
            have hf6_0 := blk_frozen BK6.out 0
            have hf6_1 := blk_frozen BK6.out 1
            have hf6_2 := blk_frozen BK6.out 2
            have hf6_3 := blk_frozen BK6.out 3
            have hf6_4 := blk_frozen BK6.out 4
            have HD := Aside0.mk (dec_83_out x hx0 hx1 Hp.out Hq.out hle : Dec 83 x = (0, x / 32768 % 32, x / 1048576 % 32, p + q * 32 + -4096))
            obtain ⟨⟨r0, r1⟩, hen⟩ : ∃ r, code_Encode.f n (0) (x / 32768 % 32) (x / 1048576 % 32) (p + q * 32 + -4096) = some r := ⟨_, rfl⟩
            have HEN := Aside0.mk hen
            clear hen
            have HHIT := Aside0.mk (dec_hit ⟨n, 83, o, s3, s7⟩ x HD.out HEN.out)
            by_cases hr1 : r1 = 0
            ·by_cases hr0 : r0 = x
             ·have HH := Aside0.mk (HHIT.out.2 ⟨hr0, hr1⟩)
              go_wp2_with (first | (go_at_call 15; refine (cf_room_calls' 83 (by simp [FormOk]) (-2048) (2047) rfl _).mono ?_; rintro e w' ⟨rfl, hw⟩; obtain rfl := hw.symm) | (go_at_call 9; (with_reducible refine (code_Encode.calls n (0) (x / 32768 % 32) (x / 1048576 % 32) (p + q * 32 + -4096) r0 r1 _ HEN.out).mono ?_); rintro e w6 ⟨rfl, hb⟩; have n0_ := Aside0.mk (blk_below BK6.out hb); have n1_ := Aside0.mk (blk_below BKr.out hb); have n2_ := Aside0.mk (blk_below BKm.out hb); have n3_ := Aside0.mk (blk_below BK2.out hb); have n4_ := Aside0.mk (below_step HB.out hb); clear BK6; clear BKr; clear BKm; clear BK2; clear HB; have BK6 := n0_; have BKr := n1_; have BKm := n2_; have BK2 := n3_; have HB := n4_; clear n0_ n1_ n2_ n3_ n4_; clear hb; have hc6_0 : w6.cell? ⟨g6, 0, none⟩ = some (.int .i64 n) := (blk_cell BK6.out 0).trans rfl; have hc6_1 : w6.cell? ⟨g6, 1, none⟩ = some (.int .i64 0) := (blk_cell BK6.out 1).trans rfl; have hc6_2 : w6.cell? ⟨g6, 2, none⟩ = some (.int .i64 (x / 32768 % 32)) := (blk_cell BK6.out 2).trans rfl; have hc6_3 : w6.cell? ⟨g6, 3, none⟩ = some (.int .i64 (x / 1048576 % 32)) := (blk_cell BK6.out 3).trans rfl; have hc6_4 : w6.cell? ⟨g6, 4, none⟩ = some (.int .i64 (p + q * 32 + -4096)) := (blk_cell BK6.out 4).trans rfl; have hf6_0 := blk_frozen BK6.out 0; have hf6_1 := blk_frozen BK6.out 1; have hf6_2 := blk_frozen BK6.out 2; have hf6_3 := blk_frozen BK6.out 3; have hf6_4 := blk_frozen BK6.out 4; have hc2_0 : w6.cell? ⟨g2, 0, none⟩ = some (.int .i64 0) := (blk_cell BK2.out 0).trans rfl; have hc2_1 : w6.cell? ⟨g2, 1, none⟩ = some (.int .i64 0) := (blk_cell BK2.out 1).trans rfl; have hc2_2 : w6.cell? ⟨g2, 2, none⟩ = some (.int .i64 0) := (blk_cell BK2.out 2).trans rfl; have hc2_3 : w6.cell? ⟨g2, 3, none⟩ = some (.int .i64 0) := (blk_cell BK2.out 3).trans rfl; have hc2_4 : w6.cell? ⟨g2, 4, none⟩ = some (.int .i64 0) := (blk_cell BK2.out 4).trans rfl; have hf2_0 := blk_frozen BK2.out 0; have hf2_1 := blk_frozen BK2.out 1; have hf2_2 := blk_frozen BK2.out 2; have hf2_3 := blk_frozen BK2.out 3; have hf2_4 := blk_frozen BK2.out 4))
              refine bodyPost_ret (dec_res _ _ g2 _ (0, 0) rfl (dec_put5 BK2.out _ _ _ _ _) rfl) rfl ?_
              exact ⟨.inl ⟨⟨n, 83, o, s3, s7⟩, HROW.out, HH.out, by simp only [HD.out]; rfl⟩, ((((HB.out.setCell GE2.out _).setCell GE2.out _).setCell GE2.out _).setCell GE2.out _).setCell GE2.out _⟩
             ·have HNH := Aside0.mk (fun h => by have hh := HHIT.out.1 h; exact hr0 hh.1 : ¬ Hit ⟨n, 83, o, s3, s7⟩ x)
              go_wp2_with (first | (go_at_call 15; refine (cf_room_calls' 83 (by simp [FormOk]) (-2048) (2047) rfl _).mono ?_; rintro e w' ⟨rfl, hw⟩; obtain rfl := hw.symm) | (go_at_call 9; (with_reducible refine (code_Encode.calls n (0) (x / 32768 % 32) (x / 1048576 % 32) (p + q * 32 + -4096) r0 r1 _ HEN.out).mono ?_); rintro e w6 ⟨rfl, hb⟩; have n0_ := Aside0.mk (blk_below BK6.out hb); have n1_ := Aside0.mk (blk_below BKr.out hb); have n2_ := Aside0.mk (blk_below BKm.out hb); have n3_ := Aside0.mk (blk_below BK2.out hb); have n4_ := Aside0.mk (below_step HB.out hb); clear BK6; clear BKr; clear BKm; clear BK2; clear HB; have BK6 := n0_; have BKr := n1_; have BKm := n2_; have BK2 := n3_; have HB := n4_; clear n0_ n1_ n2_ n3_ n4_; clear hb; have hc6_0 : w6.cell? ⟨g6, 0, none⟩ = some (.int .i64 n) := (blk_cell BK6.out 0).trans rfl; have hc6_1 : w6.cell? ⟨g6, 1, none⟩ = some (.int .i64 0) := (blk_cell BK6.out 1).trans rfl; have hc6_2 : w6.cell? ⟨g6, 2, none⟩ = some (.int .i64 (x / 32768 % 32)) := (blk_cell BK6.out 2).trans rfl; have hc6_3 : w6.cell? ⟨g6, 3, none⟩ = some (.int .i64 (x / 1048576 % 32)) := (blk_cell BK6.out 3).trans rfl; have hc6_4 : w6.cell? ⟨g6, 4, none⟩ = some (.int .i64 (p + q * 32 + -4096)) := (blk_cell BK6.out 4).trans rfl; have hf6_0 := blk_frozen BK6.out 0; have hf6_1 := blk_frozen BK6.out 1; have hf6_2 := blk_frozen BK6.out 2; have hf6_3 := blk_frozen BK6.out 3; have hf6_4 := blk_frozen BK6.out 4; have hc2_0 : w6.cell? ⟨g2, 0, none⟩ = some (.int .i64 0) := (blk_cell BK2.out 0).trans rfl; have hc2_1 : w6.cell? ⟨g2, 1, none⟩ = some (.int .i64 0) := (blk_cell BK2.out 1).trans rfl; have hc2_2 : w6.cell? ⟨g2, 2, none⟩ = some (.int .i64 0) := (blk_cell BK2.out 2).trans rfl; have hc2_3 : w6.cell? ⟨g2, 3, none⟩ = some (.int .i64 0) := (blk_cell BK2.out 3).trans rfl; have hc2_4 : w6.cell? ⟨g2, 4, none⟩ = some (.int .i64 0) := (blk_cell BK2.out 4).trans rfl; have hf2_0 := blk_frozen BK2.out 0; have hf2_1 := blk_frozen BK2.out 1; have hf2_2 := blk_frozen BK2.out 2; have hf2_3 := blk_frozen BK2.out 3; have hf2_4 := blk_frozen BK2.out 4))
              go_roundg (leftOf cm_es (seen.push e.born)).size
              case measure => exact Nat.lt_of_lt_of_le HSH.out hg
              case rel => exact ⟨seen.push e.born, cm_clk, Nat.le_refl _, ⟨Nat.le_refl _⟩, BKr, BKm, BK2, HB, ⟨dec_no HNO.out HE.out (by rw [HENT.out]; exact HNH.out)⟩⟩
            ·have HNH := Aside0.mk (fun h => by have hh := HHIT.out.1 h; exact hr1 hh.2 : ¬ Hit ⟨n, 83, o, s3, s7⟩ x)
             go_wp2_with (first | (go_at_call 15; refine (cf_room_calls' 83 (by simp [FormOk]) (-2048) (2047) rfl _).mono ?_; rintro e w' ⟨rfl, hw⟩; obtain rfl := hw.symm) | (go_at_call 9; (with_reducible refine (code_Encode.calls n (0) (x / 32768 % 32) (x / 1048576 % 32) (p + q * 32 + -4096) r0 r1 _ HEN.out).mono ?_); rintro e w6 ⟨rfl, hb⟩; have n0_ := Aside0.mk (blk_below BK6.out hb); have n1_ := Aside0.mk (blk_below BKr.out hb); have n2_ := Aside0.mk (blk_below BKm.out hb); have n3_ := Aside0.mk (blk_below BK2.out hb); have n4_ := Aside0.mk (below_step HB.out hb); clear BK6; clear BKr; clear BKm; clear BK2; clear HB; have BK6 := n0_; have BKr := n1_; have BKm := n2_; have BK2 := n3_; have HB := n4_; clear n0_ n1_ n2_ n3_ n4_; clear hb; have hc6_0 : w6.cell? ⟨g6, 0, none⟩ = some (.int .i64 n) := (blk_cell BK6.out 0).trans rfl; have hc6_1 : w6.cell? ⟨g6, 1, none⟩ = some (.int .i64 0) := (blk_cell BK6.out 1).trans rfl; have hc6_2 : w6.cell? ⟨g6, 2, none⟩ = some (.int .i64 (x / 32768 % 32)) := (blk_cell BK6.out 2).trans rfl; have hc6_3 : w6.cell? ⟨g6, 3, none⟩ = some (.int .i64 (x / 1048576 % 32)) := (blk_cell BK6.out 3).trans rfl; have hc6_4 : w6.cell? ⟨g6, 4, none⟩ = some (.int .i64 (p + q * 32 + -4096)) := (blk_cell BK6.out 4).trans rfl; have hf6_0 := blk_frozen BK6.out 0; have hf6_1 := blk_frozen BK6.out 1; have hf6_2 := blk_frozen BK6.out 2; have hf6_3 := blk_frozen BK6.out 3; have hf6_4 := blk_frozen BK6.out 4; have hc2_0 : w6.cell? ⟨g2, 0, none⟩ = some (.int .i64 0) := (blk_cell BK2.out 0).trans rfl; have hc2_1 : w6.cell? ⟨g2, 1, none⟩ = some (.int .i64 0) := (blk_cell BK2.out 1).trans rfl; have hc2_2 : w6.cell? ⟨g2, 2, none⟩ = some (.int .i64 0) := (blk_cell BK2.out 2).trans rfl; have hc2_3 : w6.cell? ⟨g2, 3, none⟩ = some (.int .i64 0) := (blk_cell BK2.out 3).trans rfl; have hc2_4 : w6.cell? ⟨g2, 4, none⟩ = some (.int .i64 0) := (blk_cell BK2.out 4).trans rfl; have hf2_0 := blk_frozen BK2.out 0; have hf2_1 := blk_frozen BK2.out 1; have hf2_2 := blk_frozen BK2.out 2; have hf2_3 := blk_frozen BK2.out 3; have hf2_4 := blk_frozen BK2.out 4))
             go_roundg (leftOf cm_es (seen.push e.born)).size
             case measure => exact Nat.lt_of_lt_of_le HSH.out hg
             case rel => exact ⟨seen.push e.born, cm_clk, Nat.le_refl _, ⟨Nat.le_refl _⟩, BKr, BKm, BK2, HB, ⟨dec_no HNO.out HE.out (by rw [HENT.out]; exact HNH.out)⟩⟩
           ·have hle : p + q * 32 ≤ 2047 := by omega
            have hnl : ¬ 2047 < p + q * 32 := by omega
            have HD := Aside0.mk (dec_83_in x hx0 hx1 Hp.out Hq.out hle : Dec 83 x = (0, x / 32768 % 32, x / 1048576 % 32, p + q * 32))
            obtain ⟨⟨r0, r1⟩, hen⟩ : ∃ r, code_Encode.f n (0) (x / 32768 % 32) (x / 1048576 % 32) (p + q * 32) = some r := ⟨_, rfl⟩
            have HEN := Aside0.mk hen
            clear hen
            have HHIT := Aside0.mk (dec_hit ⟨n, 83, o, s3, s7⟩ x HD.out HEN.out)
            by_cases hr1 : r1 = 0
            ·by_cases hr0 : r0 = x
             ·have HH := Aside0.mk (HHIT.out.2 ⟨hr0, hr1⟩)
              go_wp2_with (first | (go_at_call 15; refine (cf_room_calls' 83 (by simp [FormOk]) (-2048) (2047) rfl _).mono ?_; rintro e w' ⟨rfl, hw⟩; obtain rfl := hw.symm) | (go_at_call 9; (with_reducible refine (code_Encode.calls n (0) (x / 32768 % 32) (x / 1048576 % 32) (p + q * 32) r0 r1 _ HEN.out).mono ?_); rintro e w6 ⟨rfl, hb⟩; have n0_ := Aside0.mk (blk_below BK6.out hb); have n1_ := Aside0.mk (blk_below BKr.out hb); have n2_ := Aside0.mk (blk_below BKm.out hb); have n3_ := Aside0.mk (blk_below BK2.out hb); have n4_ := Aside0.mk (below_step HB.out hb); clear BK6; clear BKr; clear BKm; clear BK2; clear HB; have BK6 := n0_; have BKr := n1_; have BKm := n2_; have BK2 := n3_; have HB := n4_; clear n0_ n1_ n2_ n3_ n4_; clear hb; have hc6_0 : w6.cell? ⟨g6, 0, none⟩ = some (.int .i64 n) := (blk_cell BK6.out 0).trans rfl; have hc6_1 : w6.cell? ⟨g6, 1, none⟩ = some (.int .i64 0) := (blk_cell BK6.out 1).trans rfl; have hc6_2 : w6.cell? ⟨g6, 2, none⟩ = some (.int .i64 (x / 32768 % 32)) := (blk_cell BK6.out 2).trans rfl; have hc6_3 : w6.cell? ⟨g6, 3, none⟩ = some (.int .i64 (x / 1048576 % 32)) := (blk_cell BK6.out 3).trans rfl; have hc6_4 : w6.cell? ⟨g6, 4, none⟩ = some (.int .i64 (p + q * 32)) := (blk_cell BK6.out 4).trans rfl; have hf6_0 := blk_frozen BK6.out 0; have hf6_1 := blk_frozen BK6.out 1; have hf6_2 := blk_frozen BK6.out 2; have hf6_3 := blk_frozen BK6.out 3; have hf6_4 := blk_frozen BK6.out 4; have hc2_0 : w6.cell? ⟨g2, 0, none⟩ = some (.int .i64 0) := (blk_cell BK2.out 0).trans rfl; have hc2_1 : w6.cell? ⟨g2, 1, none⟩ = some (.int .i64 0) := (blk_cell BK2.out 1).trans rfl; have hc2_2 : w6.cell? ⟨g2, 2, none⟩ = some (.int .i64 0) := (blk_cell BK2.out 2).trans rfl; have hc2_3 : w6.cell? ⟨g2, 3, none⟩ = some (.int .i64 0) := (blk_cell BK2.out 3).trans rfl; have hc2_4 : w6.cell? ⟨g2, 4, none⟩ = some (.int .i64 0) := (blk_cell BK2.out 4).trans rfl; have hf2_0 := blk_frozen BK2.out 0; have hf2_1 := blk_frozen BK2.out 1; have hf2_2 := blk_frozen BK2.out 2; have hf2_3 := blk_frozen BK2.out 3; have hf2_4 := blk_frozen BK2.out 4))
              refine bodyPost_ret (dec_res _ _ g2 _ (0, 0) rfl (dec_put5 BK2.out _ _ _ _ _) rfl) rfl ?_
              exact ⟨.inl ⟨⟨n, 83, o, s3, s7⟩, HROW.out, HH.out, by simp only [HD.out]; rfl⟩, ((((HB.out.setCell GE2.out _).setCell GE2.out _).setCell GE2.out _).setCell GE2.out _).setCell GE2.out _⟩
             ·have HNH := Aside0.mk (fun h => by have hh := HHIT.out.1 h; exact hr0 hh.1 : ¬ Hit ⟨n, 83, o, s3, s7⟩ x)
              go_wp2_with (first | (go_at_call 15; refine (cf_room_calls' 83 (by simp [FormOk]) (-2048) (2047) rfl _).mono ?_; rintro e w' ⟨rfl, hw⟩; obtain rfl := hw.symm) | (go_at_call 9; (with_reducible refine (code_Encode.calls n (0) (x / 32768 % 32) (x / 1048576 % 32) (p + q * 32) r0 r1 _ HEN.out).mono ?_); rintro e w6 ⟨rfl, hb⟩; have n0_ := Aside0.mk (blk_below BK6.out hb); have n1_ := Aside0.mk (blk_below BKr.out hb); have n2_ := Aside0.mk (blk_below BKm.out hb); have n3_ := Aside0.mk (blk_below BK2.out hb); have n4_ := Aside0.mk (below_step HB.out hb); clear BK6; clear BKr; clear BKm; clear BK2; clear HB; have BK6 := n0_; have BKr := n1_; have BKm := n2_; have BK2 := n3_; have HB := n4_; clear n0_ n1_ n2_ n3_ n4_; clear hb; have hc6_0 : w6.cell? ⟨g6, 0, none⟩ = some (.int .i64 n) := (blk_cell BK6.out 0).trans rfl; have hc6_1 : w6.cell? ⟨g6, 1, none⟩ = some (.int .i64 0) := (blk_cell BK6.out 1).trans rfl; have hc6_2 : w6.cell? ⟨g6, 2, none⟩ = some (.int .i64 (x / 32768 % 32)) := (blk_cell BK6.out 2).trans rfl; have hc6_3 : w6.cell? ⟨g6, 3, none⟩ = some (.int .i64 (x / 1048576 % 32)) := (blk_cell BK6.out 3).trans rfl; have hc6_4 : w6.cell? ⟨g6, 4, none⟩ = some (.int .i64 (p + q * 32)) := (blk_cell BK6.out 4).trans rfl; have hf6_0 := blk_frozen BK6.out 0; have hf6_1 := blk_frozen BK6.out 1; have hf6_2 := blk_frozen BK6.out 2; have hf6_3 := blk_frozen BK6.out 3; have hf6_4 := blk_frozen BK6.out 4; have hc2_0 : w6.cell? ⟨g2, 0, none⟩ = some (.int .i64 0) := (blk_cell BK2.out 0).trans rfl; have hc2_1 : w6.cell? ⟨g2, 1, none⟩ = some (.int .i64 0) := (blk_cell BK2.out 1).trans rfl; have hc2_2 : w6.cell? ⟨g2, 2, none⟩ = some (.int .i64 0) := (blk_cell BK2.out 2).trans rfl; have hc2_3 : w6.cell? ⟨g2, 3, none⟩ = some (.int .i64 0) := (blk_cell BK2.out 3).trans rfl; have hc2_4 : w6.cell? ⟨g2, 4, none⟩ = some (.int .i64 0) := (blk_cell BK2.out 4).trans rfl; have hf2_0 := blk_frozen BK2.out 0; have hf2_1 := blk_frozen BK2.out 1; have hf2_2 := blk_frozen BK2.out 2; have hf2_3 := blk_frozen BK2.out 3; have hf2_4 := blk_frozen BK2.out 4))
              go_roundg (leftOf cm_es (seen.push e.born)).size
              case measure => exact Nat.lt_of_lt_of_le HSH.out hg
              case rel => exact ⟨seen.push e.born, cm_clk, Nat.le_refl _, ⟨Nat.le_refl _⟩, BKr, BKm, BK2, HB, ⟨dec_no HNO.out HE.out (by rw [HENT.out]; exact HNH.out)⟩⟩
            ·have HNH := Aside0.mk (fun h => by have hh := HHIT.out.1 h; exact hr1 hh.2 : ¬ Hit ⟨n, 83, o, s3, s7⟩ x)
             go_wp2_with (first | (go_at_call 15; refine (cf_room_calls' 83 (by simp [FormOk]) (-2048) (2047) rfl _).mono ?_; rintro e w' ⟨rfl, hw⟩; obtain rfl := hw.symm) | (go_at_call 9; (with_reducible refine (code_Encode.calls n (0) (x / 32768 % 32) (x / 1048576 % 32) (p + q * 32) r0 r1 _ HEN.out).mono ?_); rintro e w6 ⟨rfl, hb⟩; have n0_ := Aside0.mk (blk_below BK6.out hb); have n1_ := Aside0.mk (blk_below BKr.out hb); have n2_ := Aside0.mk (blk_below BKm.out hb); have n3_ := Aside0.mk (blk_below BK2.out hb); have n4_ := Aside0.mk (below_step HB.out hb); clear BK6; clear BKr; clear BKm; clear BK2; clear HB; have BK6 := n0_; have BKr := n1_; have BKm := n2_; have BK2 := n3_; have HB := n4_; clear n0_ n1_ n2_ n3_ n4_; clear hb; have hc6_0 : w6.cell? ⟨g6, 0, none⟩ = some (.int .i64 n) := (blk_cell BK6.out 0).trans rfl; have hc6_1 : w6.cell? ⟨g6, 1, none⟩ = some (.int .i64 0) := (blk_cell BK6.out 1).trans rfl; have hc6_2 : w6.cell? ⟨g6, 2, none⟩ = some (.int .i64 (x / 32768 % 32)) := (blk_cell BK6.out 2).trans rfl; have hc6_3 : w6.cell? ⟨g6, 3, none⟩ = some (.int .i64 (x / 1048576 % 32)) := (blk_cell BK6.out 3).trans rfl; have hc6_4 : w6.cell? ⟨g6, 4, none⟩ = some (.int .i64 (p + q * 32)) := (blk_cell BK6.out 4).trans rfl; have hf6_0 := blk_frozen BK6.out 0; have hf6_1 := blk_frozen BK6.out 1; have hf6_2 := blk_frozen BK6.out 2; have hf6_3 := blk_frozen BK6.out 3; have hf6_4 := blk_frozen BK6.out 4; have hc2_0 : w6.cell? ⟨g2, 0, none⟩ = some (.int .i64 0) := (blk_cell BK2.out 0).trans rfl; have hc2_1 : w6.cell? ⟨g2, 1, none⟩ = some (.int .i64 0) := (blk_cell BK2.out 1).trans rfl; have hc2_2 : w6.cell? ⟨g2, 2, none⟩ = some (.int .i64 0) := (blk_cell BK2.out 2).trans rfl; have hc2_3 : w6.cell? ⟨g2, 3, none⟩ = some (.int .i64 0) := (blk_cell BK2.out 3).trans rfl; have hc2_4 : w6.cell? ⟨g2, 4, none⟩ = some (.int .i64 0) := (blk_cell BK2.out 4).trans rfl; have hf2_0 := blk_frozen BK2.out 0; have hf2_1 := blk_frozen BK2.out 1; have hf2_2 := blk_frozen BK2.out 2; have hf2_3 := blk_frozen BK2.out 3; have hf2_4 := blk_frozen BK2.out 4))
             go_roundg (leftOf cm_es (seen.push e.born)).size
             case measure => exact Nat.lt_of_lt_of_le HSH.out hg
             case rel => exact ⟨seen.push e.born, cm_clk, Nat.le_refl _, ⟨Nat.le_refl _⟩, BKr, BKm, BK2, HB, ⟨dec_no HNO.out HE.out (by rw [HENT.out]; exact HNH.out)⟩⟩
     ·as_aux_lemma =>
       go_upto_region 5 with (fail)
       go_cut [6] (fun v6 wc => ∃ g6, v6 = .pointer (some ⟨g6, 0, none⟩) ∧ Aside0 (wc.heap[g6]? = some (.cells #[.int .i64 n, .int .i64 0, .int .i64 0, .int .i64 0, .int .i64 0] 29 (0, 0))) ∧ Aside0 (g5 ≠ g6) ∧ Aside0 (gr ≠ g6) ∧ Aside0 (gm ≠ g6) ∧ Aside0 (g2 ≠ g6) ∧ Aside0 (w.heap.size ≤ g6) ∧ Aside0 (wc.heap[g5]? = some (.cells #[.int .u8 66, .int .u32 o, .int .u32 s3, .int .u32 s7] 48 (0, 0))) ∧ Aside0 (wc.heap[gr]? = some (.mapIter (some gm) cm_clk (seen.push e.born) cm_clk)) ∧ Aside0 (wc.heap[gm]? = some (.map cm_es cm_clk)) ∧ Aside0 (wc.heap[g2]? = some (.cells #[.int .i64 0, .int .i64 0, .int .i64 0, .int .i64 0, .int .i64 0] 29 (0, 0))) ∧ Aside0 (Below w.heap.size w wc))
       case first =>
        go_wp2
        go_meet
        case rel => exact ⟨_, rfl, ⟨heap_alloc_new _ _⟩, ⟨Nat.ne_of_lt (blk_lt BK5.out)⟩, ⟨Nat.ne_of_lt (blk_lt BKr.out)⟩, ⟨Nat.ne_of_lt (blk_lt BKm.out)⟩, ⟨Nat.ne_of_lt (blk_lt BK2.out)⟩, ⟨HB.out.size⟩, ⟨blk_al BK5.out _⟩, ⟨blk_al BKr.out _⟩, ⟨blk_al BKm.out _⟩, ⟨blk_al BK2.out _⟩, ⟨HB.out.alloc HB.out.size _⟩⟩
       case rest =>
        clear BK5 BKr BKm BK2 HB hc5_0 hc5_1 hc5_2 hc5_3 hf5_0 hf5_1 hf5_2 hf5_3
        obtain ⟨g6, rfl, BK6, NB5_6, NBr_6, NBm_6, NB2_6, GE6, BK5, BKr, BKm, BK2, HB⟩ := hcut
        have hc5_0 : wc.cell? ⟨g5, 0, none⟩ = some (.int .u8 66) := (blk_cell BK5.out 0).trans rfl
        have hc5_1 : wc.cell? ⟨g5, 1, none⟩ = some (.int .u32 o) := (blk_cell BK5.out 1).trans rfl
        have hc5_2 : wc.cell? ⟨g5, 2, none⟩ = some (.int .u32 s3) := (blk_cell BK5.out 2).trans rfl
        have hc5_3 : wc.cell? ⟨g5, 3, none⟩ = some (.int .u32 s7) := (blk_cell BK5.out 3).trans rfl
        have hf5_0 := blk_frozen BK5.out 0
        have hf5_1 := blk_frozen BK5.out 1
        have hf5_2 := blk_frozen BK5.out 2
        have hf5_3 := blk_frozen BK5.out 3
        go_upto_region 6 with (fail)
        go_cut [7] (fun v7 wc => ∃ g7, v7 = .pointer (some ⟨g7, 0, none⟩) ∧ Aside0 (wc.heap[g7]? = some (.cells #[.bool false, .bool true, .bool true] 54 (0, 0))) ∧ Aside0 (g6 ≠ g7) ∧ Aside0 (wc.heap[g6]? = some (.cells #[.int .i64 n, .int .i64 0, .int .i64 0, .int .i64 0, .int .i64 0] 29 (0, 0))) ∧ Aside0 (wc.heap[g5]? = some (.cells #[.int .u8 66, .int .u32 o, .int .u32 s3, .int .u32 s7] 48 (0, 0))) ∧ Aside0 (wc.heap[gr]? = some (.mapIter (some gm) cm_clk (seen.push e.born) cm_clk)) ∧ Aside0 (wc.heap[gm]? = some (.map cm_es cm_clk)) ∧ Aside0 (wc.heap[g2]? = some (.cells #[.int .i64 0, .int .i64 0, .int .i64 0, .int .i64 0, .int .i64 0] 29 (0, 0))) ∧ Aside0 (Below w.heap.size w wc))
        case first =>
         go_wp2_with (first | (go_at_call 16; refine (cf_uses_calls' 66 (by simp [FormOk]) false true true rfl _).mono ?_; rintro e w5 ⟨rfl, hb⟩; have n0_ := Aside0.mk (blk_below BK5.out hb); have n1_ := Aside0.mk (blk_below BK6.out hb); have n2_ := Aside0.mk (blk_below BKr.out hb); have n3_ := Aside0.mk (blk_below BKm.out hb); have n4_ := Aside0.mk (blk_below BK2.out hb); have n5_ := Aside0.mk (below_step HB.out hb); clear BK5; clear BK6; clear BKr; clear BKm; clear BK2; clear HB; have BK5 := n0_; have BK6 := n1_; have BKr := n2_; have BKm := n3_; have BK2 := n4_; have HB := n5_; clear n0_ n1_ n2_ n3_ n4_ n5_; clear hb))
         go_meet
         case rel => exact ⟨_, rfl, ⟨heap_alloc_new _ _⟩, ⟨Nat.ne_of_lt (blk_lt BK6.out)⟩, ⟨blk_al BK6.out _⟩, ⟨blk_al BK5.out _⟩, ⟨blk_al BKr.out _⟩, ⟨blk_al BKm.out _⟩, ⟨blk_al BK2.out _⟩, ⟨HB.out.alloc HB.out.size _⟩⟩
        case rest =>
         clear BK6 BK5 BKr BKm BK2 HB hc5_0 hc5_1 hc5_2 hc5_3 hf5_0 hf5_1 hf5_2 hf5_3
         obtain ⟨g7, rfl, BK7, NB6_7, BK6, BK5, BKr, BKm, BK2, HB⟩ := hcut
         have hc7_0 : wc.cell? ⟨g7, 0, none⟩ = some (.bool false) := (blk_cell BK7.out 0).trans rfl
         have hc7_1 : wc.cell? ⟨g7, 1, none⟩ = some (.bool true) := (blk_cell BK7.out 1).trans rfl
         have hc7_2 : wc.cell? ⟨g7, 2, none⟩ = some (.bool true) := (blk_cell BK7.out 2).trans rfl
         have hf7_0 := blk_frozen BK7.out 0
         have hf7_1 := blk_frozen BK7.out 1
         have hf7_2 := blk_frozen BK7.out 2
         go_upto_block 2 with (fail)
         go_cut [] (fun wc => Aside0 (wc.heap[g6]? = some (.cells #[.int .i64 n, .int .i64 0, .int .i64 (x / 32768 % 32), .int .i64 (x / 1048576 % 32), .int .i64 0] 29 (0, 0))) ∧ Aside0 (wc.heap[g5]? = some (.cells #[.int .u8 66, .int .u32 o, .int .u32 s3, .int .u32 s7] 48 (0, 0))) ∧ Aside0 (wc.heap[gr]? = some (.mapIter (some gm) cm_clk (seen.push e.born) cm_clk)) ∧ Aside0 (wc.heap[gm]? = some (.map cm_es cm_clk)) ∧ Aside0 (wc.heap[g2]? = some (.cells #[.int .i64 0, .int .i64 0, .int .i64 0, .int .i64 0, .int .i64 0] 29 (0, 0))) ∧ Aside0 (Below w.heap.size w wc))
         case first =>
          have hc6_0 : wc.cell? ⟨g6, 0, none⟩ = some (.int .i64 n) := (blk_cell BK6.out 0).trans rfl
          have hc6_1 : wc.cell? ⟨g6, 1, none⟩ = some (.int .i64 0) := (blk_cell BK6.out 1).trans rfl
          have hc6_2 : wc.cell? ⟨g6, 2, none⟩ = some (.int .i64 0) := (blk_cell BK6.out 2).trans rfl
          have hc6_3 : wc.cell? ⟨g6, 3, none⟩ = some (.int .i64 0) := (blk_cell BK6.out 3).trans rfl
          have hc6_4 : wc.cell? ⟨g6, 4, none⟩ = some (.int .i64 0) := (blk_cell BK6.out 4).trans rfl
          have hf6_0 := blk_frozen BK6.out 0
          have hf6_1 := blk_frozen BK6.out 1
          have hf6_2 := blk_frozen BK6.out 2
          have hf6_3 := blk_frozen BK6.out 3
          have hf6_4 := blk_frozen BK6.out 4
          have hnb6 := NB6_7.out
          have hnb7 := NB6_7.out.symm
          go_wp2
          have i0 := dec_i66_0
          have j0 := enc_i56_0
          have i1 := dec_i66_1
          have j1 := enc_i56_1
          have i2 := dec_i66_2
          have j2 := enc_i56_2
          refine wp_loop_rounds 4 ?_
          rw [rounds_succ]
          go_wp2
          rw [rounds_succ]
          go_wp2
          rw [rounds_succ]
          go_wp2
          rw [rounds_succ]
          go_wp2
          go_meet
          case rel => exact ⟨⟨blk_put (cs := #[.int .i64 n, .int .i64 0, .int .i64 (x / 32768 % 32), .int .i64 0, .int .i64 0]) (blk_put (cs := #[.int .i64 n, .int .i64 0, .int .i64 0, .int .i64 0, .int .i64 0]) (BK6.out) 2 _ rfl) 3 _ rfl⟩, ⟨by rw [Below.heap_setCell _ _ _ _ NB5_6.out, Below.heap_setCell _ _ _ _ NB5_6.out]; exact BK5.out⟩, ⟨by rw [Below.heap_setCell _ _ _ _ NBr_6.out, Below.heap_setCell _ _ _ _ NBr_6.out]; exact BKr.out⟩, ⟨by rw [Below.heap_setCell _ _ _ _ NBm_6.out, Below.heap_setCell _ _ _ _ NBm_6.out]; exact BKm.out⟩, ⟨by rw [Below.heap_setCell _ _ _ _ NB2_6.out, Below.heap_setCell _ _ _ _ NB2_6.out]; exact BK2.out⟩, ⟨((HB.out.setCell GE6.out _).setCell GE6.out _)⟩⟩
         case rest =>
          clear BK7 BK6 BK5 BKr BKm BK2 HB hc7_0 hc7_1 hc7_2 hf7_0 hf7_1 hf7_2
          obtain ⟨BK6, BK5, BKr, BKm, BK2, HB⟩ := hcut
          have hc5_0 : wc.cell? ⟨g5, 0, none⟩ = some (.int .u8 66) := (blk_cell BK5.out 0).trans rfl
          have hc5_1 : wc.cell? ⟨g5, 1, none⟩ = some (.int .u32 o) := (blk_cell BK5.out 1).trans rfl
          have hc5_2 : wc.cell? ⟨g5, 2, none⟩ = some (.int .u32 s3) := (blk_cell BK5.out 2).trans rfl
          have hc5_3 : wc.cell? ⟨g5, 3, none⟩ = some (.int .u32 s7) := (blk_cell BK5.out 3).trans rfl
          have hf5_0 := blk_frozen BK5.out 0
          have hf5_1 := blk_frozen BK5.out 1
          have hf5_2 := blk_frozen BK5.out 2
          have hf5_3 := blk_frozen BK5.out 3
          obtain ⟨p, hp⟩ : ∃ v, x / 128 % 2 = v := ⟨_, rfl⟩
          have Hp := Aside0.mk hp
          have hp0 : 0 ≤ p := by omega
          have hp1 : p < 2 := by omega
          have em0 : bits BinOp.and IntKind.u32 (x / 128) 1 = p := (u32_andm 1 1 (by decide) (by decide) _ (by omega) (by omega)).trans hp
          clear hp
          obtain ⟨q, hq⟩ : ∃ v, x / 256 % 16 = v := ⟨_, rfl⟩
          have Hq := Aside0.mk hq
          have hq0 : 0 ≤ q := by omega
          have hq1 : q < 16 := by omega
          have em1 : bits BinOp.and IntKind.u32 (x / 256) 15 = q := (u32_andm 4 15 (by decide) (by decide) _ (by omega) (by omega)).trans hq
          clear hq
          obtain ⟨s, hs⟩ : ∃ v, x / 33554432 % 64 = v := ⟨_, rfl⟩
          have Hs := Aside0.mk hs
          have hs0 : 0 ≤ s := by omega
          have hs1 : s < 64 := by omega
          have em2 : bits BinOp.and IntKind.u32 (x / 33554432) 63 = s := (u32_andm 6 63 (by decide) (by decide) _ (by omega) (by omega)).trans hs
          clear hs
          obtain ⟨t, ht⟩ : ∃ v, x / 2147483648 % 2 = v := ⟨_, rfl⟩
          have Ht := Aside0.mk ht
          have ht0 : 0 ≤ t := by omega
          have ht1 : t < 2 := by omega
          have em3 : bits BinOp.and IntKind.u32 (x / 2147483648) 1 = t := (u32_andm 1 1 (by decide) (by decide) _ (by omega) (by omega)).trans ht
          clear ht
          clear e7 e15 e20 eand
          go_upto_block 4 with (first | (go_at_call 17; refine (cf_pcall_66 _).mono ?_; rintro e w5 ⟨g9, hg9, rfl, hk9, hb⟩; have n0_ := Aside0.mk (blk_below BK5.out hb); have n1_ := Aside0.mk (blk_below BK6.out hb); have n2_ := Aside0.mk (blk_below BKr.out hb); have n3_ := Aside0.mk (blk_below BKm.out hb); have n4_ := Aside0.mk (blk_below BK2.out hb); have n5_ := Aside0.mk (below_step HB.out hb); have n6_ := Aside0.mk hk9; have n7_ := Aside0.mk ((by rw [hg9]; exact Nat.ne_of_lt (blk_lt BK6.out)) : g6 ≠ g9); clear BK5; clear BK6; clear BKr; clear BKm; clear BK2; clear HB; have BK5 := n0_; have BK6 := n1_; have BKr := n2_; have BKm := n3_; have BK2 := n4_; have HB := n5_; have BK9 := n6_; have NB6_9 := n7_; clear n0_ n1_ n2_ n3_ n4_ n5_ n6_ n7_; clear hb hk9 hg9))
          go_cut [] (fun wc => Aside0 (wc.heap[g6]? = some (.cells #[.int .i64 n, .int .i64 0, .int .i64 (x / 32768 % 32), .int .i64 (x / 1048576 % 32), .int .i64 (p * 2048 + q * 2 + s * 32 + t * 4096)] 29 (0, 0))) ∧ Aside0 (wc.heap[g5]? = some (.cells #[.int .u8 66, .int .u32 o, .int .u32 s3, .int .u32 s7] 48 (0, 0))) ∧ Aside0 (wc.heap[gr]? = some (.mapIter (some gm) cm_clk (seen.push e.born) cm_clk)) ∧ Aside0 (wc.heap[gm]? = some (.map cm_es cm_clk)) ∧ Aside0 (wc.heap[g2]? = some (.cells #[.int .i64 0, .int .i64 0, .int .i64 0, .int .i64 0, .int .i64 0] 29 (0, 0))) ∧ Aside0 (Below w.heap.size w wc))
          case first =>
           clear hc5_0 hc5_1 hc5_2 hc5_3 hf5_0 hf5_1 hf5_2 hf5_3
           go_wp2
           go_loopg [61] 4 (fun gg v61 w' => ∃ k : Nat, k ≤ 4 ∧ 4 - k ≤ gg ∧ v61 = .int .i64 k ∧ Aside0 (w'.heap[g6]? = some (.cells #[.int .i64 n, .int .i64 0, .int .i64 (x / 32768 % 32), .int .i64 (x / 1048576 % 32), .int .i64 (([0, p * 2048, p * 2048 + q * 2, p * 2048 + q * 2 + s * 32, p * 2048 + q * 2 + s * 32 + t * 4096] : List Int).getD k 0)] 29 (0, 0))) ∧ Aside0 (w'.heap[g9]? = some (.cells #[.int .u64 11, .int .u64 1, .int .u64 7, .int .u64 1, .int .u64 4, .int .u64 8, .int .u64 5, .int .u64 6, .int .u64 25, .int .u64 12, .int .u64 1, .int .u64 31] 60 (0, 0))) ∧ Aside0 (w'.heap[g5]? = some (.cells #[.int .u8 66, .int .u32 o, .int .u32 s3, .int .u32 s7] 48 (0, 0))) ∧ Aside0 (w'.heap[gr]? = some (.mapIter (some gm) cm_clk (seen.push e.born) cm_clk)) ∧ Aside0 (w'.heap[gm]? = some (.map cm_es cm_clk)) ∧ Aside0 (w'.heap[g2]? = some (.cells #[.int .i64 0, .int .i64 0, .int .i64 0, .int .i64 0, .int .i64 0] 29 (0, 0))) ∧ Aside0 (Below w.heap.size w w'))
           case atStart => exact ⟨0, by omega, by omega, rfl, BK6, BK9, BK5, BKr, BKm, BK2, HB⟩
           case round =>
            clear BK6 BK9 BK5 BKr BKm BK2 HB
            obtain ⟨k, hk, hg, rfl, BK6, BK9, BK5, BKr, BKm, BK2, HB⟩ := hrel
            have hk3 : k = 0 ∨ k = 1 ∨ k = 2 ∨ k = 3 ∨ k = 4 := by omega
            rcases hk3 with rfl | rfl | rfl | rfl | rfl
            ·have hc6_4 : wr.cell? ⟨g6, 4, none⟩ = some (.int .i64 (0)) := (blk_cell BK6.out 4).trans rfl
             have hf6_4 := blk_frozen BK6.out 4
             have hc6a : ∀ o, (wr.alloc o).cell? ⟨g6, 4, none⟩ = some (.int .i64 (0)) := fun o => (blk_cell (blk_al BK6.out o) 4).trans rfl
             have hf6a : ∀ o, (wr.alloc o).frozen? ⟨g6, 4, none⟩ = false := fun o => blk_frozen (blk_al BK6.out o) 4
             have hc9_0 : wr.cell? ⟨g9, 0, none⟩ = some (.int .u64 11) := (blk_cell BK9.out 0).trans rfl
             have hf9_0 := blk_frozen BK9.out 0
             have hc9_1 : wr.cell? ⟨g9, 1, none⟩ = some (.int .u64 1) := (blk_cell BK9.out 1).trans rfl
             have hf9_1 := blk_frozen BK9.out 1
             have hc9_2 : wr.cell? ⟨g9, 2, none⟩ = some (.int .u64 7) := (blk_cell BK9.out 2).trans rfl
             have hf9_2 := blk_frozen BK9.out 2
             have eor : bits BinOp.or IntKind.i64 (0) (p * 2048) = p * 2048 := (i64_or 11 1 0 p (p * 2048) (by omega) (by omega) (by omega) (by omega) (by omega) (by omega) (by omega)).trans (by omega)
             go_wp2
             go_roundg 3
             case measure => omega
             case rel => exact ⟨1, by omega, by omega, rfl, ⟨blk_put (cs := #[.int .i64 n, .int .i64 0, .int .i64 (x / 32768 % 32), .int .i64 (x / 1048576 % 32), .int .i64 0]) (blk_al BK6.out _) 4 _ rfl⟩, ⟨(Below.heap_setCell _ _ _ _ NB6_9.out.symm).trans (blk_al BK9.out _)⟩, ⟨(Below.heap_setCell _ _ _ _ NB5_6.out).trans (blk_al BK5.out _)⟩, ⟨(Below.heap_setCell _ _ _ _ NBr_6.out).trans (blk_al BKr.out _)⟩, ⟨(Below.heap_setCell _ _ _ _ NBm_6.out).trans (blk_al BKm.out _)⟩, ⟨(Below.heap_setCell _ _ _ _ NB2_6.out).trans (blk_al BK2.out _)⟩, ⟨(HB.out.alloc HB.out.size _).setCell GE6.out _⟩⟩
            ·have hc6_4 : wr.cell? ⟨g6, 4, none⟩ = some (.int .i64 (p * 2048)) := (blk_cell BK6.out 4).trans rfl
             have hf6_4 := blk_frozen BK6.out 4
             have hc6a : ∀ o, (wr.alloc o).cell? ⟨g6, 4, none⟩ = some (.int .i64 (p * 2048)) := fun o => (blk_cell (blk_al BK6.out o) 4).trans rfl
             have hf6a : ∀ o, (wr.alloc o).frozen? ⟨g6, 4, none⟩ = false := fun o => blk_frozen (blk_al BK6.out o) 4
             have hc9_0 : wr.cell? ⟨g9, 3, none⟩ = some (.int .u64 1) := (blk_cell BK9.out 3).trans rfl
             have hf9_0 := blk_frozen BK9.out 3
             have hc9_1 : wr.cell? ⟨g9, 4, none⟩ = some (.int .u64 4) := (blk_cell BK9.out 4).trans rfl
             have hf9_1 := blk_frozen BK9.out 4
             have hc9_2 : wr.cell? ⟨g9, 5, none⟩ = some (.int .u64 8) := (blk_cell BK9.out 5).trans rfl
             have hf9_2 := blk_frozen BK9.out 5
             have eor : bits BinOp.or IntKind.i64 (p * 2048) (q * 2) = p * 2048 + q * 2 := i64_or 1 4 _ q _ (by omega) (by omega) (by omega) (by omega) (by omega) (by omega) (by omega)
             go_wp2
             go_roundg 2
             case measure => omega
             case rel => exact ⟨2, by omega, by omega, rfl, ⟨blk_put (cs := #[.int .i64 n, .int .i64 0, .int .i64 (x / 32768 % 32), .int .i64 (x / 1048576 % 32), .int .i64 (p * 2048)]) (blk_al BK6.out _) 4 _ rfl⟩, ⟨(Below.heap_setCell _ _ _ _ NB6_9.out.symm).trans (blk_al BK9.out _)⟩, ⟨(Below.heap_setCell _ _ _ _ NB5_6.out).trans (blk_al BK5.out _)⟩, ⟨(Below.heap_setCell _ _ _ _ NBr_6.out).trans (blk_al BKr.out _)⟩, ⟨(Below.heap_setCell _ _ _ _ NBm_6.out).trans (blk_al BKm.out _)⟩, ⟨(Below.heap_setCell _ _ _ _ NB2_6.out).trans (blk_al BK2.out _)⟩, ⟨(HB.out.alloc HB.out.size _).setCell GE6.out _⟩⟩
            ·have hc6_4 : wr.cell? ⟨g6, 4, none⟩ = some (.int .i64 (p * 2048 + q * 2)) := (blk_cell BK6.out 4).trans rfl
             have hf6_4 := blk_frozen BK6.out 4
             have hc6a : ∀ o, (wr.alloc o).cell? ⟨g6, 4, none⟩ = some (.int .i64 (p * 2048 + q * 2)) := fun o => (blk_cell (blk_al BK6.out o) 4).trans rfl
             have hf6a : ∀ o, (wr.alloc o).frozen? ⟨g6, 4, none⟩ = false := fun o => blk_frozen (blk_al BK6.out o) 4
             have hc9_0 : wr.cell? ⟨g9, 6, none⟩ = some (.int .u64 5) := (blk_cell BK9.out 6).trans rfl
             have hf9_0 := blk_frozen BK9.out 6
             have hc9_1 : wr.cell? ⟨g9, 7, none⟩ = some (.int .u64 6) := (blk_cell BK9.out 7).trans rfl
             have hf9_1 := blk_frozen BK9.out 7
             have hc9_2 : wr.cell? ⟨g9, 8, none⟩ = some (.int .u64 25) := (blk_cell BK9.out 8).trans rfl
             have hf9_2 := blk_frozen BK9.out 8
             have eor : bits BinOp.or IntKind.i64 (p * 2048 + q * 2) (s * 32) = p * 2048 + q * 2 + s * 32 := i64_or 5 6 _ s _ (by omega) (by omega) (by omega) (by omega) (by omega) (by omega) (by omega)
             go_wp2
             go_roundg 1
             case measure => omega
             case rel => exact ⟨3, by omega, by omega, rfl, ⟨blk_put (cs := #[.int .i64 n, .int .i64 0, .int .i64 (x / 32768 % 32), .int .i64 (x / 1048576 % 32), .int .i64 (p * 2048 + q * 2)]) (blk_al BK6.out _) 4 _ rfl⟩, ⟨(Below.heap_setCell _ _ _ _ NB6_9.out.symm).trans (blk_al BK9.out _)⟩, ⟨(Below.heap_setCell _ _ _ _ NB5_6.out).trans (blk_al BK5.out _)⟩, ⟨(Below.heap_setCell _ _ _ _ NBr_6.out).trans (blk_al BKr.out _)⟩, ⟨(Below.heap_setCell _ _ _ _ NBm_6.out).trans (blk_al BKm.out _)⟩, ⟨(Below.heap_setCell _ _ _ _ NB2_6.out).trans (blk_al BK2.out _)⟩, ⟨(HB.out.alloc HB.out.size _).setCell GE6.out _⟩⟩
            ·have hc6_4 : wr.cell? ⟨g6, 4, none⟩ = some (.int .i64 (p * 2048 + q * 2 + s * 32)) := (blk_cell BK6.out 4).trans rfl
             have hf6_4 := blk_frozen BK6.out 4
             have hc6a : ∀ o, (wr.alloc o).cell? ⟨g6, 4, none⟩ = some (.int .i64 (p * 2048 + q * 2 + s * 32)) := fun o => (blk_cell (blk_al BK6.out o) 4).trans rfl
             have hf6a : ∀ o, (wr.alloc o).frozen? ⟨g6, 4, none⟩ = false := fun o => blk_frozen (blk_al BK6.out o) 4
             have hc9_0 : wr.cell? ⟨g9, 9, none⟩ = some (.int .u64 12) := (blk_cell BK9.out 9).trans rfl
             have hf9_0 := blk_frozen BK9.out 9
             have hc9_1 : wr.cell? ⟨g9, 10, none⟩ = some (.int .u64 1) := (blk_cell BK9.out 10).trans rfl
             have hf9_1 := blk_frozen BK9.out 10
             have hc9_2 : wr.cell? ⟨g9, 11, none⟩ = some (.int .u64 31) := (blk_cell BK9.out 11).trans rfl
             have hf9_2 := blk_frozen BK9.out 11
             have eor : bits BinOp.or IntKind.i64 (p * 2048 + q * 2 + s * 32) (t * 4096) = p * 2048 + q * 2 + s * 32 + t * 4096 := i64_or 12 1 _ t _ (by omega) (by omega) (by omega) (by omega) (by omega) (by omega) (by omega)
             go_wp2
             go_roundg 0
             case measure => omega
             case rel => exact ⟨4, by omega, by omega, rfl, ⟨blk_put (cs := #[.int .i64 n, .int .i64 0, .int .i64 (x / 32768 % 32), .int .i64 (x / 1048576 % 32), .int .i64 (p * 2048 + q * 2 + s * 32)]) (blk_al BK6.out _) 4 _ rfl⟩, ⟨(Below.heap_setCell _ _ _ _ NB6_9.out.symm).trans (blk_al BK9.out _)⟩, ⟨(Below.heap_setCell _ _ _ _ NB5_6.out).trans (blk_al BK5.out _)⟩, ⟨(Below.heap_setCell _ _ _ _ NBr_6.out).trans (blk_al BKr.out _)⟩, ⟨(Below.heap_setCell _ _ _ _ NBm_6.out).trans (blk_al BKm.out _)⟩, ⟨(Below.heap_setCell _ _ _ _ NB2_6.out).trans (blk_al BK2.out _)⟩, ⟨(HB.out.alloc HB.out.size _).setCell GE6.out _⟩⟩
            ·go_wp2
             go_meet
             case rel => exact ⟨BK6, BK5, BKr, BKm, BK2, HB⟩
          case rest =>
           clear BK9 NB6_9
           clear BK6 BK5 BKr BKm BK2 HB hc5_0 hc5_1 hc5_2 hc5_3 hf5_0 hf5_1 hf5_2 hf5_3
           obtain ⟨BK6, BK5, BKr, BKm, BK2, HB⟩ := hcut
           have hc5_0 : wc.cell? ⟨g5, 0, none⟩ = some (.int .u8 66) := (blk_cell BK5.out 0).trans rfl
           have hc5_1 : wc.cell? ⟨g5, 1, none⟩ = some (.int .u32 o) := (blk_cell BK5.out 1).trans rfl
           have hc5_2 : wc.cell? ⟨g5, 2, none⟩ = some (.int .u32 s3) := (blk_cell BK5.out 2).trans rfl
           have hc5_3 : wc.cell? ⟨g5, 3, none⟩ = some (.int .u32 s7) := (blk_cell BK5.out 3).trans rfl
           have hf5_0 := blk_frozen BK5.out 0
           have hf5_1 := blk_frozen BK5.out 1
           have hf5_2 := blk_frozen BK5.out 2
           have hf5_3 := blk_frozen BK5.out 3
           have hc6_0 : wc.cell? ⟨g6, 0, none⟩ = some (.int .i64 n) := (blk_cell BK6.out 0).trans rfl
           have hc6_1 : wc.cell? ⟨g6, 1, none⟩ = some (.int .i64 0) := (blk_cell BK6.out 1).trans rfl
           have hc6_2 : wc.cell? ⟨g6, 2, none⟩ = some (.int .i64 (x / 32768 % 32)) := (blk_cell BK6.out 2).trans rfl
           have hc6_3 : wc.cell? ⟨g6, 3, none⟩ = some (.int .i64 (x / 1048576 % 32)) := (blk_cell BK6.out 3).trans rfl
           have hc6_4 : wc.cell? ⟨g6, 4, none⟩ = some (.int .i64 (p * 2048 + q * 2 + s * 32 + t * 4096)) := (blk_cell BK6.out 4).trans rfl
           have hf6_0 := blk_frozen BK6.out 0
           have hf6_1 := blk_frozen BK6.out 1
           have hf6_2 := blk_frozen BK6.out 2
           have hf6_3 := blk_frozen BK6.out 3
           have hf6_4 := blk_frozen BK6.out 4
           clear hc5_1 hc5_2 hc5_3 hf5_1 hf5_2 hf5_3
           by_cases him : p * 2048 + q * 2 + s * 32 + t * 4096 > 4094
           ·have hle : 4094 < p * 2048 + q * 2 + s * 32 + t * 4096 := by omega
            go_upto_region 22 with (first | (go_at_call 15; refine (cf_room_calls' 66 (by simp [FormOk]) (-4096) (4094) rfl _).mono ?_; rintro e w' ⟨rfl, hw⟩; obtain rfl := hw.symm))
            obtain ⟨wd, hwd⟩ : ∃ wd, wc.setCell ⟨g6, 4, none⟩ (.int .i64 (p * 2048 + q * 2 + s * 32 + t * 4096 + -8192)) = wd := ⟨_, rfl⟩
            have k6 : (wc.setCell ⟨g6, 4, none⟩ (.int .i64 (p * 2048 + q * 2 + s * 32 + t * 4096 + -8192))).heap[g6]? = some (.cells #[.int .i64 n, .int .i64 0, .int .i64 (x / 32768 % 32), .int .i64 (x / 1048576 % 32), .int .i64 (p * 2048 + q * 2 + s * 32 + t * 4096 + -8192)] 29 (0, 0)) := blk_put (cs := #[.int .i64 n, .int .i64 0, .int .i64 (x / 32768 % 32), .int .i64 (x / 1048576 % 32), .int .i64 (p * 2048 + q * 2 + s * 32 + t * 4096)]) BK6.out 4 _ rfl
            have k5 := (Below.heap_setCell wc ⟨g6, 4, none⟩ (.int .i64 (p * 2048 + q * 2 + s * 32 + t * 4096 + -8192)) _ NB5_6.out).trans BK5.out
            have kr := (Below.heap_setCell wc ⟨g6, 4, none⟩ (.int .i64 (p * 2048 + q * 2 + s * 32 + t * 4096 + -8192)) _ NBr_6.out).trans BKr.out
            have km := (Below.heap_setCell wc ⟨g6, 4, none⟩ (.int .i64 (p * 2048 + q * 2 + s * 32 + t * 4096 + -8192)) _ NBm_6.out).trans BKm.out
            have k2 := (Below.heap_setCell wc ⟨g6, 4, none⟩ (.int .i64 (p * 2048 + q * 2 + s * 32 + t * 4096 + -8192)) _ NB2_6.out).trans BK2.out
            have kb := HB.out.setCell (p := ⟨g6, 4, none⟩) GE6.out (.int .i64 (p * 2048 + q * 2 + s * 32 + t * 4096 + -8192))
            rw [hwd] at k6 k5 kr km k2 kb
            rw [hwd]
            clear hwd BK6 BK5 BKr BKm BK2 HB
            have BK6 := Aside0.mk k6
            have BK5 := Aside0.mk k5
            have BKr := Aside0.mk kr
            have BKm := Aside0.mk km
            have BK2 := Aside0.mk k2
            have HB := Aside0.mk kb
            clear k6 k5 kr km k2 kb
            have hc6_0 : wd.cell? ⟨g6, 0, none⟩ = some (.int .i64 n) := (blk_cell BK6.out 0).trans rfl
            have hc6_1 : wd.cell? ⟨g6, 1, none⟩ = some (.int .i64 0) := (blk_cell BK6.out 1).trans rfl
            have hc6_2 : wd.cell? ⟨g6, 2, none⟩ = some (.int .i64 (x / 32768 % 32)) := (blk_cell BK6.out 2).trans rfl
            have hc6_3 : wd.cell? ⟨g6, 3, none⟩ = some (.int .i64 (x / 1048576 % 32)) := (blk_cell BK6.out 3).trans rfl
            have hc6_4 : wd.cell? ⟨g6, 4, none⟩ = some (.int .i64 (p * 2048 + q * 2 + s * 32 + t * 4096 + -8192)) := (blk_cell BK6.out 4).trans rfl
            have hf6_0 := blk_frozen BK6.out 0
            have hf6_1 := blk_frozen BK6.out 1
            have hf6_2 := blk_frozen BK6.out 2
            have hf6_3 := blk_frozen BK6.out 3
            have hf6_4 := blk_frozen BK6.out 4
            have HD := Aside0.mk (dec_66_out x hx0 hx1 Hp.out Hq.out Hs.out Ht.out hle : Dec 66 x = (0, x / 32768 % 32, x / 1048576 % 32, p * 2048 + q * 2 + s * 32 + t * 4096 + -8192))
            obtain ⟨⟨r0, r1⟩, hen⟩ : ∃ r, code_Encode.f n (0) (x / 32768 % 32) (x / 1048576 % 32) (p * 2048 + q * 2 + s * 32 + t * 4096 + -8192) = some r := ⟨_, rfl⟩
            have HEN := Aside0.mk hen
            clear hen
            have HHIT := Aside0.mk (dec_hit ⟨n, 66, o, s3, s7⟩ x HD.out HEN.out)
            by_cases hr1 : r1 = 0
            ·by_cases hr0 : r0 = x
             ·have HH := Aside0.mk (HHIT.out.2 ⟨hr0, hr1⟩)
              go_wp2_with (first | (go_at_call 15; refine (cf_room_calls' 66 (by simp [FormOk]) (-4096) (4094) rfl _).mono ?_; rintro e w' ⟨rfl, hw⟩; obtain rfl := hw.symm) | (go_at_call 9; (with_reducible refine (code_Encode.calls n (0) (x / 32768 % 32) (x / 1048576 % 32) (p * 2048 + q * 2 + s * 32 + t * 4096 + -8192) r0 r1 _ HEN.out).mono ?_); rintro e w6 ⟨rfl, hb⟩; have n0_ := Aside0.mk (blk_below BK6.out hb); have n1_ := Aside0.mk (blk_below BKr.out hb); have n2_ := Aside0.mk (blk_below BKm.out hb); have n3_ := Aside0.mk (blk_below BK2.out hb); have n4_ := Aside0.mk (below_step HB.out hb); clear BK6; clear BKr; clear BKm; clear BK2; clear HB; have BK6 := n0_; have BKr := n1_; have BKm := n2_; have BK2 := n3_; have HB := n4_; clear n0_ n1_ n2_ n3_ n4_; clear hb; have hc6_0 : w6.cell? ⟨g6, 0, none⟩ = some (.int .i64 n) := (blk_cell BK6.out 0).trans rfl; have hc6_1 : w6.cell? ⟨g6, 1, none⟩ = some (.int .i64 0) := (blk_cell BK6.out 1).trans rfl; have hc6_2 : w6.cell? ⟨g6, 2, none⟩ = some (.int .i64 (x / 32768 % 32)) := (blk_cell BK6.out 2).trans rfl; have hc6_3 : w6.cell? ⟨g6, 3, none⟩ = some (.int .i64 (x / 1048576 % 32)) := (blk_cell BK6.out 3).trans rfl; have hc6_4 : w6.cell? ⟨g6, 4, none⟩ = some (.int .i64 (p * 2048 + q * 2 + s * 32 + t * 4096 + -8192)) := (blk_cell BK6.out 4).trans rfl; have hf6_0 := blk_frozen BK6.out 0; have hf6_1 := blk_frozen BK6.out 1; have hf6_2 := blk_frozen BK6.out 2; have hf6_3 := blk_frozen BK6.out 3; have hf6_4 := blk_frozen BK6.out 4; have hc2_0 : w6.cell? ⟨g2, 0, none⟩ = some (.int .i64 0) := (blk_cell BK2.out 0).trans rfl; have hc2_1 : w6.cell? ⟨g2, 1, none⟩ = some (.int .i64 0) := (blk_cell BK2.out 1).trans rfl; have hc2_2 : w6.cell? ⟨g2, 2, none⟩ = some (.int .i64 0) := (blk_cell BK2.out 2).trans rfl; have hc2_3 : w6.cell? ⟨g2, 3, none⟩ = some (.int .i64 0) := (blk_cell BK2.out 3).trans rfl; have hc2_4 : w6.cell? ⟨g2, 4, none⟩ = some (.int .i64 0) := (blk_cell BK2.out 4).trans rfl; have hf2_0 := blk_frozen BK2.out 0; have hf2_1 := blk_frozen BK2.out 1; have hf2_2 := blk_frozen BK2.out 2; have hf2_3 := blk_frozen BK2.out 3; have hf2_4 := blk_frozen BK2.out 4))
              refine bodyPost_ret (dec_res _ _ g2 _ (0, 0) rfl (dec_put5 BK2.out _ _ _ _ _) rfl) rfl ?_
              exact ⟨.inl ⟨⟨n, 66, o, s3, s7⟩, HROW.out, HH.out, by simp only [HD.out]; rfl⟩, ((((HB.out.setCell GE2.out _).setCell GE2.out _).setCell GE2.out _).setCell GE2.out _).setCell GE2.out _⟩
             ·have HNH := Aside0.mk (fun h => by have hh := HHIT.out.1 h; exact hr0 hh.1 : ¬ Hit ⟨n, 66, o, s3, s7⟩ x)
              go_wp2_with (first | (go_at_call 15; refine (cf_room_calls' 66 (by simp [FormOk]) (-4096) (4094) rfl _).mono ?_; rintro e w' ⟨rfl, hw⟩; obtain rfl := hw.symm) | (go_at_call 9; (with_reducible refine (code_Encode.calls n (0) (x / 32768 % 32) (x / 1048576 % 32) (p * 2048 + q * 2 + s * 32 + t * 4096 + -8192) r0 r1 _ HEN.out).mono ?_); rintro e w6 ⟨rfl, hb⟩; have n0_ := Aside0.mk (blk_below BK6.out hb); have n1_ := Aside0.mk (blk_below BKr.out hb); have n2_ := Aside0.mk (blk_below BKm.out hb); have n3_ := Aside0.mk (blk_below BK2.out hb); have n4_ := Aside0.mk (below_step HB.out hb); clear BK6; clear BKr; clear BKm; clear BK2; clear HB; have BK6 := n0_; have BKr := n1_; have BKm := n2_; have BK2 := n3_; have HB := n4_; clear n0_ n1_ n2_ n3_ n4_; clear hb; have hc6_0 : w6.cell? ⟨g6, 0, none⟩ = some (.int .i64 n) := (blk_cell BK6.out 0).trans rfl; have hc6_1 : w6.cell? ⟨g6, 1, none⟩ = some (.int .i64 0) := (blk_cell BK6.out 1).trans rfl; have hc6_2 : w6.cell? ⟨g6, 2, none⟩ = some (.int .i64 (x / 32768 % 32)) := (blk_cell BK6.out 2).trans rfl; have hc6_3 : w6.cell? ⟨g6, 3, none⟩ = some (.int .i64 (x / 1048576 % 32)) := (blk_cell BK6.out 3).trans rfl; have hc6_4 : w6.cell? ⟨g6, 4, none⟩ = some (.int .i64 (p * 2048 + q * 2 + s * 32 + t * 4096 + -8192)) := (blk_cell BK6.out 4).trans rfl; have hf6_0 := blk_frozen BK6.out 0; have hf6_1 := blk_frozen BK6.out 1; have hf6_2 := blk_frozen BK6.out 2; have hf6_3 := blk_frozen BK6.out 3; have hf6_4 := blk_frozen BK6.out 4; have hc2_0 : w6.cell? ⟨g2, 0, none⟩ = some (.int .i64 0) := (blk_cell BK2.out 0).trans rfl; have hc2_1 : w6.cell? ⟨g2, 1, none⟩ = some (.int .i64 0) := (blk_cell BK2.out 1).trans rfl; have hc2_2 : w6.cell? ⟨g2, 2, none⟩ = some (.int .i64 0) := (blk_cell BK2.out 2).trans rfl; have hc2_3 : w6.cell? ⟨g2, 3, none⟩ = some (.int .i64 0) := (blk_cell BK2.out 3).trans rfl; have hc2_4 : w6.cell? ⟨g2, 4, none⟩ = some (.int .i64 0) := (blk_cell BK2.out 4).trans rfl; have hf2_0 := blk_frozen BK2.out 0; have hf2_1 := blk_frozen BK2.out 1; have hf2_2 := blk_frozen BK2.out 2; have hf2_3 := blk_frozen BK2.out 3; have hf2_4 := blk_frozen BK2.out 4))
              go_roundg (leftOf cm_es (seen.push e.born)).size
              case measure => exact Nat.lt_of_lt_of_le HSH.out hg
              case rel => exact ⟨seen.push e.born, cm_clk, Nat.le_refl _, ⟨Nat.le_refl _⟩, BKr, BKm, BK2, HB, ⟨dec_no HNO.out HE.out (by rw [HENT.out]; exact HNH.out)⟩⟩
            ·have HNH := Aside0.mk (fun h => by have hh := HHIT.out.1 h; exact hr1 hh.2 : ¬ Hit ⟨n, 66, o, s3, s7⟩ x)
             go_wp2_with (first | (go_at_call 15; refine (cf_room_calls' 66 (by simp [FormOk]) (-4096) (4094) rfl _).mono ?_; rintro e w' ⟨rfl, hw⟩; obtain rfl := hw.symm) | (go_at_call 9; (with_reducible refine (code_Encode.calls n (0) (x / 32768 % 32) (x / 1048576 % 32) (p * 2048 + q * 2 + s * 32 + t * 4096 + -8192) r0 r1 _ HEN.out).mono ?_); rintro e w6 ⟨rfl, hb⟩; have n0_ := Aside0.mk (blk_below BK6.out hb); have n1_ := Aside0.mk (blk_below BKr.out hb); have n2_ := Aside0.mk (blk_below BKm.out hb); have n3_ := Aside0.mk (blk_below BK2.out hb); have n4_ := Aside0.mk (below_step HB.out hb); clear BK6; clear BKr; clear BKm; clear BK2; clear HB; have BK6 := n0_; have BKr := n1_; have BKm := n2_; have BK2 := n3_; have HB := n4_; clear n0_ n1_ n2_ n3_ n4_; clear hb; have hc6_0 : w6.cell? ⟨g6, 0, none⟩ = some (.int .i64 n) := (blk_cell BK6.out 0).trans rfl; have hc6_1 : w6.cell? ⟨g6, 1, none⟩ = some (.int .i64 0) := (blk_cell BK6.out 1).trans rfl; have hc6_2 : w6.cell? ⟨g6, 2, none⟩ = some (.int .i64 (x / 32768 % 32)) := (blk_cell BK6.out 2).trans rfl; have hc6_3 : w6.cell? ⟨g6, 3, none⟩ = some (.int .i64 (x / 1048576 % 32)) := (blk_cell BK6.out 3).trans rfl; have hc6_4 : w6.cell? ⟨g6, 4, none⟩ = some (.int .i64 (p * 2048 + q * 2 + s * 32 + t * 4096 + -8192)) := (blk_cell BK6.out 4).trans rfl; have hf6_0 := blk_frozen BK6.out 0; have hf6_1 := blk_frozen BK6.out 1; have hf6_2 := blk_frozen BK6.out 2; have hf6_3 := blk_frozen BK6.out 3; have hf6_4 := blk_frozen BK6.out 4; have hc2_0 : w6.cell? ⟨g2, 0, none⟩ = some (.int .i64 0) := (blk_cell BK2.out 0).trans rfl; have hc2_1 : w6.cell? ⟨g2, 1, none⟩ = some (.int .i64 0) := (blk_cell BK2.out 1).trans rfl; have hc2_2 : w6.cell? ⟨g2, 2, none⟩ = some (.int .i64 0) := (blk_cell BK2.out 2).trans rfl; have hc2_3 : w6.cell? ⟨g2, 3, none⟩ = some (.int .i64 0) := (blk_cell BK2.out 3).trans rfl; have hc2_4 : w6.cell? ⟨g2, 4, none⟩ = some (.int .i64 0) := (blk_cell BK2.out 4).trans rfl; have hf2_0 := blk_frozen BK2.out 0; have hf2_1 := blk_frozen BK2.out 1; have hf2_2 := blk_frozen BK2.out 2; have hf2_3 := blk_frozen BK2.out 3; have hf2_4 := blk_frozen BK2.out 4))
             go_roundg (leftOf cm_es (seen.push e.born)).size
             case measure => exact Nat.lt_of_lt_of_le HSH.out hg
             case rel => exact ⟨seen.push e.born, cm_clk, Nat.le_refl _, ⟨Nat.le_refl _⟩, BKr, BKm, BK2, HB, ⟨dec_no HNO.out HE.out (by rw [HENT.out]; exact HNH.out)⟩⟩
           ·have hle : p * 2048 + q * 2 + s * 32 + t * 4096 ≤ 4094 := by omega
            have hnl : ¬ 4094 < p * 2048 + q * 2 + s * 32 + t * 4096 := by omega
            have HD := Aside0.mk (dec_66_in x hx0 hx1 Hp.out Hq.out Hs.out Ht.out hle : Dec 66 x = (0, x / 32768 % 32, x / 1048576 % 32, p * 2048 + q * 2 + s * 32 + t * 4096))
            obtain ⟨⟨r0, r1⟩, hen⟩ : ∃ r, code_Encode.f n (0) (x / 32768 % 32) (x / 1048576 % 32) (p * 2048 + q * 2 + s * 32 + t * 4096) = some r := ⟨_, rfl⟩
            have HEN := Aside0.mk hen
            clear hen
            have HHIT := Aside0.mk (dec_hit ⟨n, 66, o, s3, s7⟩ x HD.out HEN.out)
            by_cases hr1 : r1 = 0
            ·by_cases hr0 : r0 = x
             ·have HH := Aside0.mk (HHIT.out.2 ⟨hr0, hr1⟩)
              go_wp2_with (first | (go_at_call 15; refine (cf_room_calls' 66 (by simp [FormOk]) (-4096) (4094) rfl _).mono ?_; rintro e w' ⟨rfl, hw⟩; obtain rfl := hw.symm) | (go_at_call 9; (with_reducible refine (code_Encode.calls n (0) (x / 32768 % 32) (x / 1048576 % 32) (p * 2048 + q * 2 + s * 32 + t * 4096) r0 r1 _ HEN.out).mono ?_); rintro e w6 ⟨rfl, hb⟩; have n0_ := Aside0.mk (blk_below BK6.out hb); have n1_ := Aside0.mk (blk_below BKr.out hb); have n2_ := Aside0.mk (blk_below BKm.out hb); have n3_ := Aside0.mk (blk_below BK2.out hb); have n4_ := Aside0.mk (below_step HB.out hb); clear BK6; clear BKr; clear BKm; clear BK2; clear HB; have BK6 := n0_; have BKr := n1_; have BKm := n2_; have BK2 := n3_; have HB := n4_; clear n0_ n1_ n2_ n3_ n4_; clear hb; have hc6_0 : w6.cell? ⟨g6, 0, none⟩ = some (.int .i64 n) := (blk_cell BK6.out 0).trans rfl; have hc6_1 : w6.cell? ⟨g6, 1, none⟩ = some (.int .i64 0) := (blk_cell BK6.out 1).trans rfl; have hc6_2 : w6.cell? ⟨g6, 2, none⟩ = some (.int .i64 (x / 32768 % 32)) := (blk_cell BK6.out 2).trans rfl; have hc6_3 : w6.cell? ⟨g6, 3, none⟩ = some (.int .i64 (x / 1048576 % 32)) := (blk_cell BK6.out 3).trans rfl; have hc6_4 : w6.cell? ⟨g6, 4, none⟩ = some (.int .i64 (p * 2048 + q * 2 + s * 32 + t * 4096)) := (blk_cell BK6.out 4).trans rfl; have hf6_0 := blk_frozen BK6.out 0; have hf6_1 := blk_frozen BK6.out 1; have hf6_2 := blk_frozen BK6.out 2; have hf6_3 := blk_frozen BK6.out 3; have hf6_4 := blk_frozen BK6.out 4; have hc2_0 : w6.cell? ⟨g2, 0, none⟩ = some (.int .i64 0) := (blk_cell BK2.out 0).trans rfl; have hc2_1 : w6.cell? ⟨g2, 1, none⟩ = some (.int .i64 0) := (blk_cell BK2.out 1).trans rfl; have hc2_2 : w6.cell? ⟨g2, 2, none⟩ = some (.int .i64 0) := (blk_cell BK2.out 2).trans rfl; have hc2_3 : w6.cell? ⟨g2, 3, none⟩ = some (.int .i64 0) := (blk_cell BK2.out 3).trans rfl; have hc2_4 : w6.cell? ⟨g2, 4, none⟩ = some (.int .i64 0) := (blk_cell BK2.out 4).trans rfl; have hf2_0 := blk_frozen BK2.out 0; have hf2_1 := blk_frozen BK2.out 1; have hf2_2 := blk_frozen BK2.out 2; have hf2_3 := blk_frozen BK2.out 3; have hf2_4 := blk_frozen BK2.out 4))
              refine bodyPost_ret (dec_res _ _ g2 _ (0, 0) rfl (dec_put5 BK2.out _ _ _ _ _) rfl) rfl ?_
              exact ⟨.inl ⟨⟨n, 66, o, s3, s7⟩, HROW.out, HH.out, by simp only [HD.out]; rfl⟩, ((((HB.out.setCell GE2.out _).setCell GE2.out _).setCell GE2.out _).setCell GE2.out _).setCell GE2.out _⟩
             ·have HNH := Aside0.mk (fun h => by have hh := HHIT.out.1 h; exact hr0 hh.1 : ¬ Hit ⟨n, 66, o, s3, s7⟩ x)
              go_wp2_with (first | (go_at_call 15; refine (cf_room_calls' 66 (by simp [FormOk]) (-4096) (4094) rfl _).mono ?_; rintro e w' ⟨rfl, hw⟩; obtain rfl := hw.symm) | (go_at_call 9; (with_reducible refine (code_Encode.calls n (0) (x / 32768 % 32) (x / 1048576 % 32) (p * 2048 + q * 2 + s * 32 + t * 4096) r0 r1 _ HEN.out).mono ?_); rintro e w6 ⟨rfl, hb⟩; have n0_ := Aside0.mk (blk_below BK6.out hb); have n1_ := Aside0.mk (blk_below BKr.out hb); have n2_ := Aside0.mk (blk_below BKm.out hb); have n3_ := Aside0.mk (blk_below BK2.out hb); have n4_ := Aside0.mk (below_step HB.out hb); clear BK6; clear BKr; clear BKm; clear BK2; clear HB; have BK6 := n0_; have BKr := n1_; have BKm := n2_; have BK2 := n3_; have HB := n4_; clear n0_ n1_ n2_ n3_ n4_; clear hb; have hc6_0 : w6.cell? ⟨g6, 0, none⟩ = some (.int .i64 n) := (blk_cell BK6.out 0).trans rfl; have hc6_1 : w6.cell? ⟨g6, 1, none⟩ = some (.int .i64 0) := (blk_cell BK6.out 1).trans rfl; have hc6_2 : w6.cell? ⟨g6, 2, none⟩ = some (.int .i64 (x / 32768 % 32)) := (blk_cell BK6.out 2).trans rfl; have hc6_3 : w6.cell? ⟨g6, 3, none⟩ = some (.int .i64 (x / 1048576 % 32)) := (blk_cell BK6.out 3).trans rfl; have hc6_4 : w6.cell? ⟨g6, 4, none⟩ = some (.int .i64 (p * 2048 + q * 2 + s * 32 + t * 4096)) := (blk_cell BK6.out 4).trans rfl; have hf6_0 := blk_frozen BK6.out 0; have hf6_1 := blk_frozen BK6.out 1; have hf6_2 := blk_frozen BK6.out 2; have hf6_3 := blk_frozen BK6.out 3; have hf6_4 := blk_frozen BK6.out 4; have hc2_0 : w6.cell? ⟨g2, 0, none⟩ = some (.int .i64 0) := (blk_cell BK2.out 0).trans rfl; have hc2_1 : w6.cell? ⟨g2, 1, none⟩ = some (.int .i64 0) := (blk_cell BK2.out 1).trans rfl; have hc2_2 : w6.cell? ⟨g2, 2, none⟩ = some (.int .i64 0) := (blk_cell BK2.out 2).trans rfl; have hc2_3 : w6.cell? ⟨g2, 3, none⟩ = some (.int .i64 0) := (blk_cell BK2.out 3).trans rfl; have hc2_4 : w6.cell? ⟨g2, 4, none⟩ = some (.int .i64 0) := (blk_cell BK2.out 4).trans rfl; have hf2_0 := blk_frozen BK2.out 0; have hf2_1 := blk_frozen BK2.out 1; have hf2_2 := blk_frozen BK2.out 2; have hf2_3 := blk_frozen BK2.out 3; have hf2_4 := blk_frozen BK2.out 4))
              go_roundg (leftOf cm_es (seen.push e.born)).size
              case measure => exact Nat.lt_of_lt_of_le HSH.out hg
              case rel => exact ⟨seen.push e.born, cm_clk, Nat.le_refl _, ⟨Nat.le_refl _⟩, BKr, BKm, BK2, HB, ⟨dec_no HNO.out HE.out (by rw [HENT.out]; exact HNH.out)⟩⟩
            ·have HNH := Aside0.mk (fun h => by have hh := HHIT.out.1 h; exact hr1 hh.2 : ¬ Hit ⟨n, 66, o, s3, s7⟩ x)
             go_wp2_with (first | (go_at_call 15; refine (cf_room_calls' 66 (by simp [FormOk]) (-4096) (4094) rfl _).mono ?_; rintro e w' ⟨rfl, hw⟩; obtain rfl := hw.symm) | (go_at_call 9; (with_reducible refine (code_Encode.calls n (0) (x / 32768 % 32) (x / 1048576 % 32) (p * 2048 + q * 2 + s * 32 + t * 4096) r0 r1 _ HEN.out).mono ?_); rintro e w6 ⟨rfl, hb⟩; have n0_ := Aside0.mk (blk_below BK6.out hb); have n1_ := Aside0.mk (blk_below BKr.out hb); have n2_ := Aside0.mk (blk_below BKm.out hb); have n3_ := Aside0.mk (blk_below BK2.out hb); have n4_ := Aside0.mk (below_step HB.out hb); clear BK6; clear BKr; clear BKm; clear BK2; clear HB; have BK6 := n0_; have BKr := n1_; have BKm := n2_; have BK2 := n3_; have HB := n4_; clear n0_ n1_ n2_ n3_ n4_; clear hb; have hc6_0 : w6.cell? ⟨g6, 0, none⟩ = some (.int .i64 n) := (blk_cell BK6.out 0).trans rfl; have hc6_1 : w6.cell? ⟨g6, 1, none⟩ = some (.int .i64 0) := (blk_cell BK6.out 1).trans rfl; have hc6_2 : w6.cell? ⟨g6, 2, none⟩ = some (.int .i64 (x / 32768 % 32)) := (blk_cell BK6.out 2).trans rfl; have hc6_3 : w6.cell? ⟨g6, 3, none⟩ = some (.int .i64 (x / 1048576 % 32)) := (blk_cell BK6.out 3).trans rfl; have hc6_4 : w6.cell? ⟨g6, 4, none⟩ = some (.int .i64 (p * 2048 + q * 2 + s * 32 + t * 4096)) := (blk_cell BK6.out 4).trans rfl; have hf6_0 := blk_frozen BK6.out 0; have hf6_1 := blk_frozen BK6.out 1; have hf6_2 := blk_frozen BK6.out 2; have hf6_3 := blk_frozen BK6.out 3; have hf6_4 := blk_frozen BK6.out 4; have hc2_0 : w6.cell? ⟨g2, 0, none⟩ = some (.int .i64 0) := (blk_cell BK2.out 0).trans rfl; have hc2_1 : w6.cell? ⟨g2, 1, none⟩ = some (.int .i64 0) := (blk_cell BK2.out 1).trans rfl; have hc2_2 : w6.cell? ⟨g2, 2, none⟩ = some (.int .i64 0) := (blk_cell BK2.out 2).trans rfl; have hc2_3 : w6.cell? ⟨g2, 3, none⟩ = some (.int .i64 0) := (blk_cell BK2.out 3).trans rfl; have hc2_4 : w6.cell? ⟨g2, 4, none⟩ = some (.int .i64 0) := (blk_cell BK2.out 4).trans rfl; have hf2_0 := blk_frozen BK2.out 0; have hf2_1 := blk_frozen BK2.out 1; have hf2_2 := blk_frozen BK2.out 2; have hf2_3 := blk_frozen BK2.out 3; have hf2_4 := blk_frozen BK2.out 4))
             go_roundg (leftOf cm_es (seen.push e.born)).size
             case measure => exact Nat.lt_of_lt_of_le HSH.out hg
             case rel => exact ⟨seen.push e.born, cm_clk, Nat.le_refl _, ⟨Nat.le_refl _⟩, BKr, BKm, BK2, HB, ⟨dec_no HNO.out HE.out (by rw [HENT.out]; exact HNH.out)⟩⟩
     ·as_aux_lemma =>
       go_upto_region 5 with (fail)
       go_cut [6] (fun v6 wc => ∃ g6, v6 = .pointer (some ⟨g6, 0, none⟩) ∧ Aside0 (wc.heap[g6]? = some (.cells #[.int .i64 n, .int .i64 0, .int .i64 0, .int .i64 0, .int .i64 0] 29 (0, 0))) ∧ Aside0 (g5 ≠ g6) ∧ Aside0 (gr ≠ g6) ∧ Aside0 (gm ≠ g6) ∧ Aside0 (g2 ≠ g6) ∧ Aside0 (w.heap.size ≤ g6) ∧ Aside0 (wc.heap[g5]? = some (.cells #[.int .u8 78, .int .u32 o, .int .u32 s3, .int .u32 s7] 48 (0, 0))) ∧ Aside0 (wc.heap[gr]? = some (.mapIter (some gm) cm_clk (seen.push e.born) cm_clk)) ∧ Aside0 (wc.heap[gm]? = some (.map cm_es cm_clk)) ∧ Aside0 (wc.heap[g2]? = some (.cells #[.int .i64 0, .int .i64 0, .int .i64 0, .int .i64 0, .int .i64 0] 29 (0, 0))) ∧ Aside0 (Below w.heap.size w wc))
       case first =>
        go_wp2
        go_meet
        case rel => exact ⟨_, rfl, ⟨heap_alloc_new _ _⟩, ⟨Nat.ne_of_lt (blk_lt BK5.out)⟩, ⟨Nat.ne_of_lt (blk_lt BKr.out)⟩, ⟨Nat.ne_of_lt (blk_lt BKm.out)⟩, ⟨Nat.ne_of_lt (blk_lt BK2.out)⟩, ⟨HB.out.size⟩, ⟨blk_al BK5.out _⟩, ⟨blk_al BKr.out _⟩, ⟨blk_al BKm.out _⟩, ⟨blk_al BK2.out _⟩, ⟨HB.out.alloc HB.out.size _⟩⟩
       case rest =>
        clear BK5 BKr BKm BK2 HB hc5_0 hc5_1 hc5_2 hc5_3 hf5_0 hf5_1 hf5_2 hf5_3
        obtain ⟨g6, rfl, BK6, NB5_6, NBr_6, NBm_6, NB2_6, GE6, BK5, BKr, BKm, BK2, HB⟩ := hcut
        have hc5_0 : wc.cell? ⟨g5, 0, none⟩ = some (.int .u8 78) := (blk_cell BK5.out 0).trans rfl
        have hc5_1 : wc.cell? ⟨g5, 1, none⟩ = some (.int .u32 o) := (blk_cell BK5.out 1).trans rfl
        have hc5_2 : wc.cell? ⟨g5, 2, none⟩ = some (.int .u32 s3) := (blk_cell BK5.out 2).trans rfl
        have hc5_3 : wc.cell? ⟨g5, 3, none⟩ = some (.int .u32 s7) := (blk_cell BK5.out 3).trans rfl
        have hf5_0 := blk_frozen BK5.out 0
        have hf5_1 := blk_frozen BK5.out 1
        have hf5_2 := blk_frozen BK5.out 2
        have hf5_3 := blk_frozen BK5.out 3
        go_upto_region 6 with (fail)
        go_cut [7] (fun v7 wc => ∃ g7, v7 = .pointer (some ⟨g7, 0, none⟩) ∧ Aside0 (wc.heap[g7]? = some (.cells #[.bool false, .bool false, .bool false] 54 (0, 0))) ∧ Aside0 (g6 ≠ g7) ∧ Aside0 (wc.heap[g6]? = some (.cells #[.int .i64 n, .int .i64 0, .int .i64 0, .int .i64 0, .int .i64 0] 29 (0, 0))) ∧ Aside0 (wc.heap[g5]? = some (.cells #[.int .u8 78, .int .u32 o, .int .u32 s3, .int .u32 s7] 48 (0, 0))) ∧ Aside0 (wc.heap[gr]? = some (.mapIter (some gm) cm_clk (seen.push e.born) cm_clk)) ∧ Aside0 (wc.heap[gm]? = some (.map cm_es cm_clk)) ∧ Aside0 (wc.heap[g2]? = some (.cells #[.int .i64 0, .int .i64 0, .int .i64 0, .int .i64 0, .int .i64 0] 29 (0, 0))) ∧ Aside0 (Below w.heap.size w wc))
        case first =>
         go_wp2_with (first | (go_at_call 16; refine (cf_uses_calls' 78 (by simp [FormOk]) false false false rfl _).mono ?_; rintro e w5 ⟨rfl, hb⟩; have n0_ := Aside0.mk (blk_below BK5.out hb); have n1_ := Aside0.mk (blk_below BK6.out hb); have n2_ := Aside0.mk (blk_below BKr.out hb); have n3_ := Aside0.mk (blk_below BKm.out hb); have n4_ := Aside0.mk (blk_below BK2.out hb); have n5_ := Aside0.mk (below_step HB.out hb); clear BK5; clear BK6; clear BKr; clear BKm; clear BK2; clear HB; have BK5 := n0_; have BK6 := n1_; have BKr := n2_; have BKm := n3_; have BK2 := n4_; have HB := n5_; clear n0_ n1_ n2_ n3_ n4_ n5_; clear hb))
         go_meet
         case rel => exact ⟨_, rfl, ⟨heap_alloc_new _ _⟩, ⟨Nat.ne_of_lt (blk_lt BK6.out)⟩, ⟨blk_al BK6.out _⟩, ⟨blk_al BK5.out _⟩, ⟨blk_al BKr.out _⟩, ⟨blk_al BKm.out _⟩, ⟨blk_al BK2.out _⟩, ⟨HB.out.alloc HB.out.size _⟩⟩
        case rest =>
         clear BK6 BK5 BKr BKm BK2 HB hc5_0 hc5_1 hc5_2 hc5_3 hf5_0 hf5_1 hf5_2 hf5_3
         obtain ⟨g7, rfl, BK7, NB6_7, BK6, BK5, BKr, BKm, BK2, HB⟩ := hcut
         have hc7_0 : wc.cell? ⟨g7, 0, none⟩ = some (.bool false) := (blk_cell BK7.out 0).trans rfl
         have hc7_1 : wc.cell? ⟨g7, 1, none⟩ = some (.bool false) := (blk_cell BK7.out 1).trans rfl
         have hc7_2 : wc.cell? ⟨g7, 2, none⟩ = some (.bool false) := (blk_cell BK7.out 2).trans rfl
         have hf7_0 := blk_frozen BK7.out 0
         have hf7_1 := blk_frozen BK7.out 1
         have hf7_2 := blk_frozen BK7.out 2
         go_upto_block 2 with (fail)
         go_cut [] (fun wc => Aside0 (wc.heap[g6]? = some (.cells #[.int .i64 n, .int .i64 0, .int .i64 0, .int .i64 0, .int .i64 0] 29 (0, 0))) ∧ Aside0 (wc.heap[g5]? = some (.cells #[.int .u8 78, .int .u32 o, .int .u32 s3, .int .u32 s7] 48 (0, 0))) ∧ Aside0 (wc.heap[gr]? = some (.mapIter (some gm) cm_clk (seen.push e.born) cm_clk)) ∧ Aside0 (wc.heap[gm]? = some (.map cm_es cm_clk)) ∧ Aside0 (wc.heap[g2]? = some (.cells #[.int .i64 0, .int .i64 0, .int .i64 0, .int .i64 0, .int .i64 0] 29 (0, 0))) ∧ Aside0 (Below w.heap.size w wc))
         case first =>
          have hc6_0 : wc.cell? ⟨g6, 0, none⟩ = some (.int .i64 n) := (blk_cell BK6.out 0).trans rfl
          have hc6_1 : wc.cell? ⟨g6, 1, none⟩ = some (.int .i64 0) := (blk_cell BK6.out 1).trans rfl
          have hc6_2 : wc.cell? ⟨g6, 2, none⟩ = some (.int .i64 0) := (blk_cell BK6.out 2).trans rfl
          have hc6_3 : wc.cell? ⟨g6, 3, none⟩ = some (.int .i64 0) := (blk_cell BK6.out 3).trans rfl
          have hc6_4 : wc.cell? ⟨g6, 4, none⟩ = some (.int .i64 0) := (blk_cell BK6.out 4).trans rfl
          have hf6_0 := blk_frozen BK6.out 0
          have hf6_1 := blk_frozen BK6.out 1
          have hf6_2 := blk_frozen BK6.out 2
          have hf6_3 := blk_frozen BK6.out 3
          have hf6_4 := blk_frozen BK6.out 4
          have hnb6 := NB6_7.out
          have hnb7 := NB6_7.out.symm
          go_wp2
          have i0 := dec_i66_0
          have j0 := enc_i56_0
          have i1 := dec_i66_1
          have j1 := enc_i56_1
          have i2 := dec_i66_2
          have j2 := enc_i56_2
          refine wp_loop_rounds 4 ?_
          rw [rounds_succ]
          go_wp2
          rw [rounds_succ]
          go_wp2
          rw [rounds_succ]
          go_wp2
          rw [rounds_succ]
          go_wp2
          go_meet
          case rel => exact ⟨⟨BK6.out⟩, ⟨by exact BK5.out⟩, ⟨by exact BKr.out⟩, ⟨by exact BKm.out⟩, ⟨by exact BK2.out⟩, ⟨HB.out⟩⟩
         case rest =>
          clear BK7 BK6 BK5 BKr BKm BK2 HB hc7_0 hc7_1 hc7_2 hf7_0 hf7_1 hf7_2
          obtain ⟨BK6, BK5, BKr, BKm, BK2, HB⟩ := hcut
          have hc5_0 : wc.cell? ⟨g5, 0, none⟩ = some (.int .u8 78) := (blk_cell BK5.out 0).trans rfl
          have hc5_1 : wc.cell? ⟨g5, 1, none⟩ = some (.int .u32 o) := (blk_cell BK5.out 1).trans rfl
          have hc5_2 : wc.cell? ⟨g5, 2, none⟩ = some (.int .u32 s3) := (blk_cell BK5.out 2).trans rfl
          have hc5_3 : wc.cell? ⟨g5, 3, none⟩ = some (.int .u32 s7) := (blk_cell BK5.out 3).trans rfl
          have hf5_0 := blk_frozen BK5.out 0
          have hf5_1 := blk_frozen BK5.out 1
          have hf5_2 := blk_frozen BK5.out 2
          have hf5_3 := blk_frozen BK5.out 3
          clear e7 e15 e20 eand
          go_upto_block 4 with (first | (go_at_call 17; refine (cf_pcall_78 _).mono ?_; rintro e w5 ⟨rfl, hb⟩; have n0_ := Aside0.mk (blk_below BK5.out hb); have n1_ := Aside0.mk (blk_below BK6.out hb); have n2_ := Aside0.mk (blk_below BKr.out hb); have n3_ := Aside0.mk (blk_below BKm.out hb); have n4_ := Aside0.mk (blk_below BK2.out hb); have n5_ := Aside0.mk (below_step HB.out hb); clear BK5; clear BK6; clear BKr; clear BKm; clear BK2; clear HB; have BK5 := n0_; have BK6 := n1_; have BKr := n2_; have BKm := n3_; have BK2 := n4_; have HB := n5_; clear n0_ n1_ n2_ n3_ n4_ n5_; clear hb))
          go_cut [] (fun wc => Aside0 (wc.heap[g6]? = some (.cells #[.int .i64 n, .int .i64 0, .int .i64 0, .int .i64 0, .int .i64 0] 29 (0, 0))) ∧ Aside0 (wc.heap[g5]? = some (.cells #[.int .u8 78, .int .u32 o, .int .u32 s3, .int .u32 s7] 48 (0, 0))) ∧ Aside0 (wc.heap[gr]? = some (.mapIter (some gm) cm_clk (seen.push e.born) cm_clk)) ∧ Aside0 (wc.heap[gm]? = some (.map cm_es cm_clk)) ∧ Aside0 (wc.heap[g2]? = some (.cells #[.int .i64 0, .int .i64 0, .int .i64 0, .int .i64 0, .int .i64 0] 29 (0, 0))) ∧ Aside0 (Below w.heap.size w wc))
          case first =>
           clear hc5_0 hc5_1 hc5_2 hc5_3 hf5_0 hf5_1 hf5_2 hf5_3
           go_wp2
           refine wp_loop_rounds 1 ?_
           rw [rounds_succ]
           go_wp2
           go_meet
           case rel => exact ⟨BK6, BK5, BKr, BKm, BK2, HB⟩
          case rest =>
           clear BK6 BK5 BKr BKm BK2 HB hc5_0 hc5_1 hc5_2 hc5_3 hf5_0 hf5_1 hf5_2 hf5_3
           obtain ⟨BK6, BK5, BKr, BKm, BK2, HB⟩ := hcut
           have hc5_0 : wc.cell? ⟨g5, 0, none⟩ = some (.int .u8 78) := (blk_cell BK5.out 0).trans rfl
           have hc5_1 : wc.cell? ⟨g5, 1, none⟩ = some (.int .u32 o) := (blk_cell BK5.out 1).trans rfl
           have hc5_2 : wc.cell? ⟨g5, 2, none⟩ = some (.int .u32 s3) := (blk_cell BK5.out 2).trans rfl
           have hc5_3 : wc.cell? ⟨g5, 3, none⟩ = some (.int .u32 s7) := (blk_cell BK5.out 3).trans rfl
           have hf5_0 := blk_frozen BK5.out 0
           have hf5_1 := blk_frozen BK5.out 1
           have hf5_2 := blk_frozen BK5.out 2
           have hf5_3 := blk_frozen BK5.out 3
           have hc6_0 : wc.cell? ⟨g6, 0, none⟩ = some (.int .i64 n) := (blk_cell BK6.out 0).trans rfl
           have hc6_1 : wc.cell? ⟨g6, 1, none⟩ = some (.int .i64 0) := (blk_cell BK6.out 1).trans rfl
           have hc6_2 : wc.cell? ⟨g6, 2, none⟩ = some (.int .i64 0) := (blk_cell BK6.out 2).trans rfl
           have hc6_3 : wc.cell? ⟨g6, 3, none⟩ = some (.int .i64 0) := (blk_cell BK6.out 3).trans rfl
           have hc6_4 : wc.cell? ⟨g6, 4, none⟩ = some (.int .i64 0) := (blk_cell BK6.out 4).trans rfl
           have hf6_0 := blk_frozen BK6.out 0
           have hf6_1 := blk_frozen BK6.out 1
           have hf6_2 := blk_frozen BK6.out 2
           have hf6_3 := blk_frozen BK6.out 3
           have hf6_4 := blk_frozen BK6.out 4
           clear hc5_1 hc5_2 hc5_3 hf5_1 hf5_2 hf5_3
           have HD := Aside0.mk (rfl : Dec 78 x = (0, 0, 0, 0))
           obtain ⟨⟨r0, r1⟩, hen⟩ : ∃ r, code_Encode.f n (0) (0) (0) (0) = some r := ⟨_, rfl⟩
           have HEN := Aside0.mk hen
           clear hen
           have HHIT := Aside0.mk (dec_hit ⟨n, 78, o, s3, s7⟩ x HD.out HEN.out)
           by_cases hr1 : r1 = 0
           ·by_cases hr0 : r0 = x
            ·have HH := Aside0.mk (HHIT.out.2 ⟨hr0, hr1⟩)
             go_wp2_with (first | (go_at_call 15; refine (cf_room_calls' 78 (by simp [FormOk]) (1) (0) rfl _).mono ?_; rintro e w' ⟨rfl, hw⟩; obtain rfl := hw.symm) | (go_at_call 9; (with_reducible refine (code_Encode.calls n (0) (0) (0) (0) r0 r1 _ HEN.out).mono ?_); rintro e w6 ⟨rfl, hb⟩; have n0_ := Aside0.mk (blk_below BK6.out hb); have n1_ := Aside0.mk (blk_below BKr.out hb); have n2_ := Aside0.mk (blk_below BKm.out hb); have n3_ := Aside0.mk (blk_below BK2.out hb); have n4_ := Aside0.mk (below_step HB.out hb); clear BK6; clear BKr; clear BKm; clear BK2; clear HB; have BK6 := n0_; have BKr := n1_; have BKm := n2_; have BK2 := n3_; have HB := n4_; clear n0_ n1_ n2_ n3_ n4_; clear hb; have hc6_0 : w6.cell? ⟨g6, 0, none⟩ = some (.int .i64 n) := (blk_cell BK6.out 0).trans rfl; have hc6_1 : w6.cell? ⟨g6, 1, none⟩ = some (.int .i64 0) := (blk_cell BK6.out 1).trans rfl; have hc6_2 : w6.cell? ⟨g6, 2, none⟩ = some (.int .i64 0) := (blk_cell BK6.out 2).trans rfl; have hc6_3 : w6.cell? ⟨g6, 3, none⟩ = some (.int .i64 0) := (blk_cell BK6.out 3).trans rfl; have hc6_4 : w6.cell? ⟨g6, 4, none⟩ = some (.int .i64 0) := (blk_cell BK6.out 4).trans rfl; have hf6_0 := blk_frozen BK6.out 0; have hf6_1 := blk_frozen BK6.out 1; have hf6_2 := blk_frozen BK6.out 2; have hf6_3 := blk_frozen BK6.out 3; have hf6_4 := blk_frozen BK6.out 4; have hc2_0 : w6.cell? ⟨g2, 0, none⟩ = some (.int .i64 0) := (blk_cell BK2.out 0).trans rfl; have hc2_1 : w6.cell? ⟨g2, 1, none⟩ = some (.int .i64 0) := (blk_cell BK2.out 1).trans rfl; have hc2_2 : w6.cell? ⟨g2, 2, none⟩ = some (.int .i64 0) := (blk_cell BK2.out 2).trans rfl; have hc2_3 : w6.cell? ⟨g2, 3, none⟩ = some (.int .i64 0) := (blk_cell BK2.out 3).trans rfl; have hc2_4 : w6.cell? ⟨g2, 4, none⟩ = some (.int .i64 0) := (blk_cell BK2.out 4).trans rfl; have hf2_0 := blk_frozen BK2.out 0; have hf2_1 := blk_frozen BK2.out 1; have hf2_2 := blk_frozen BK2.out 2; have hf2_3 := blk_frozen BK2.out 3; have hf2_4 := blk_frozen BK2.out 4))
             refine bodyPost_ret (dec_res _ _ g2 _ (0, 0) rfl (dec_put5 BK2.out _ _ _ _ _) rfl) rfl ?_
             exact ⟨.inl ⟨⟨n, 78, o, s3, s7⟩, HROW.out, HH.out, by simp only [HD.out]; rfl⟩, ((((HB.out.setCell GE2.out _).setCell GE2.out _).setCell GE2.out _).setCell GE2.out _).setCell GE2.out _⟩
            ·have HNH := Aside0.mk (fun h => by have hh := HHIT.out.1 h; exact hr0 hh.1 : ¬ Hit ⟨n, 78, o, s3, s7⟩ x)
             go_wp2_with (first | (go_at_call 15; refine (cf_room_calls' 78 (by simp [FormOk]) (1) (0) rfl _).mono ?_; rintro e w' ⟨rfl, hw⟩; obtain rfl := hw.symm) | (go_at_call 9; (with_reducible refine (code_Encode.calls n (0) (0) (0) (0) r0 r1 _ HEN.out).mono ?_); rintro e w6 ⟨rfl, hb⟩; have n0_ := Aside0.mk (blk_below BK6.out hb); have n1_ := Aside0.mk (blk_below BKr.out hb); have n2_ := Aside0.mk (blk_below BKm.out hb); have n3_ := Aside0.mk (blk_below BK2.out hb); have n4_ := Aside0.mk (below_step HB.out hb); clear BK6; clear BKr; clear BKm; clear BK2; clear HB; have BK6 := n0_; have BKr := n1_; have BKm := n2_; have BK2 := n3_; have HB := n4_; clear n0_ n1_ n2_ n3_ n4_; clear hb; have hc6_0 : w6.cell? ⟨g6, 0, none⟩ = some (.int .i64 n) := (blk_cell BK6.out 0).trans rfl; have hc6_1 : w6.cell? ⟨g6, 1, none⟩ = some (.int .i64 0) := (blk_cell BK6.out 1).trans rfl; have hc6_2 : w6.cell? ⟨g6, 2, none⟩ = some (.int .i64 0) := (blk_cell BK6.out 2).trans rfl; have hc6_3 : w6.cell? ⟨g6, 3, none⟩ = some (.int .i64 0) := (blk_cell BK6.out 3).trans rfl; have hc6_4 : w6.cell? ⟨g6, 4, none⟩ = some (.int .i64 0) := (blk_cell BK6.out 4).trans rfl; have hf6_0 := blk_frozen BK6.out 0; have hf6_1 := blk_frozen BK6.out 1; have hf6_2 := blk_frozen BK6.out 2; have hf6_3 := blk_frozen BK6.out 3; have hf6_4 := blk_frozen BK6.out 4; have hc2_0 : w6.cell? ⟨g2, 0, none⟩ = some (.int .i64 0) := (blk_cell BK2.out 0).trans rfl; have hc2_1 : w6.cell? ⟨g2, 1, none⟩ = some (.int .i64 0) := (blk_cell BK2.out 1).trans rfl; have hc2_2 : w6.cell? ⟨g2, 2, none⟩ = some (.int .i64 0) := (blk_cell BK2.out 2).trans rfl; have hc2_3 : w6.cell? ⟨g2, 3, none⟩ = some (.int .i64 0) := (blk_cell BK2.out 3).trans rfl; have hc2_4 : w6.cell? ⟨g2, 4, none⟩ = some (.int .i64 0) := (blk_cell BK2.out 4).trans rfl; have hf2_0 := blk_frozen BK2.out 0; have hf2_1 := blk_frozen BK2.out 1; have hf2_2 := blk_frozen BK2.out 2; have hf2_3 := blk_frozen BK2.out 3; have hf2_4 := blk_frozen BK2.out 4))
             go_roundg (leftOf cm_es (seen.push e.born)).size
             case measure => exact Nat.lt_of_lt_of_le HSH.out hg
             case rel => exact ⟨seen.push e.born, cm_clk, Nat.le_refl _, ⟨Nat.le_refl _⟩, BKr, BKm, BK2, HB, ⟨dec_no HNO.out HE.out (by rw [HENT.out]; exact HNH.out)⟩⟩
           ·have HNH := Aside0.mk (fun h => by have hh := HHIT.out.1 h; exact hr1 hh.2 : ¬ Hit ⟨n, 78, o, s3, s7⟩ x)
            go_wp2_with (first | (go_at_call 15; refine (cf_room_calls' 78 (by simp [FormOk]) (1) (0) rfl _).mono ?_; rintro e w' ⟨rfl, hw⟩; obtain rfl := hw.symm) | (go_at_call 9; (with_reducible refine (code_Encode.calls n (0) (0) (0) (0) r0 r1 _ HEN.out).mono ?_); rintro e w6 ⟨rfl, hb⟩; have n0_ := Aside0.mk (blk_below BK6.out hb); have n1_ := Aside0.mk (blk_below BKr.out hb); have n2_ := Aside0.mk (blk_below BKm.out hb); have n3_ := Aside0.mk (blk_below BK2.out hb); have n4_ := Aside0.mk (below_step HB.out hb); clear BK6; clear BKr; clear BKm; clear BK2; clear HB; have BK6 := n0_; have BKr := n1_; have BKm := n2_; have BK2 := n3_; have HB := n4_; clear n0_ n1_ n2_ n3_ n4_; clear hb; have hc6_0 : w6.cell? ⟨g6, 0, none⟩ = some (.int .i64 n) := (blk_cell BK6.out 0).trans rfl; have hc6_1 : w6.cell? ⟨g6, 1, none⟩ = some (.int .i64 0) := (blk_cell BK6.out 1).trans rfl; have hc6_2 : w6.cell? ⟨g6, 2, none⟩ = some (.int .i64 0) := (blk_cell BK6.out 2).trans rfl; have hc6_3 : w6.cell? ⟨g6, 3, none⟩ = some (.int .i64 0) := (blk_cell BK6.out 3).trans rfl; have hc6_4 : w6.cell? ⟨g6, 4, none⟩ = some (.int .i64 0) := (blk_cell BK6.out 4).trans rfl; have hf6_0 := blk_frozen BK6.out 0; have hf6_1 := blk_frozen BK6.out 1; have hf6_2 := blk_frozen BK6.out 2; have hf6_3 := blk_frozen BK6.out 3; have hf6_4 := blk_frozen BK6.out 4; have hc2_0 : w6.cell? ⟨g2, 0, none⟩ = some (.int .i64 0) := (blk_cell BK2.out 0).trans rfl; have hc2_1 : w6.cell? ⟨g2, 1, none⟩ = some (.int .i64 0) := (blk_cell BK2.out 1).trans rfl; have hc2_2 : w6.cell? ⟨g2, 2, none⟩ = some (.int .i64 0) := (blk_cell BK2.out 2).trans rfl; have hc2_3 : w6.cell? ⟨g2, 3, none⟩ = some (.int .i64 0) := (blk_cell BK2.out 3).trans rfl; have hc2_4 : w6.cell? ⟨g2, 4, none⟩ = some (.int .i64 0) := (blk_cell BK2.out 4).trans rfl; have hf2_0 := blk_frozen BK2.out 0; have hf2_1 := blk_frozen BK2.out 1; have hf2_2 := blk_frozen BK2.out 2; have hf2_3 := blk_frozen BK2.out 3; have hf2_4 := blk_frozen BK2.out 4))
            go_roundg (leftOf cm_es (seen.push e.born)).size
            case measure => exact Nat.lt_of_lt_of_le HSH.out hg
            case rel => exact ⟨seen.push e.born, cm_clk, Nat.le_refl _, ⟨Nat.le_refl _⟩, BKr, BKm, BK2, HB, ⟨dec_no HNO.out HE.out (by rw [HENT.out]; exact HNH.out)⟩⟩
     ·as_aux_lemma =>
       go_upto_region 5 with (fail)
       go_cut [6] (fun v6 wc => ∃ g6, v6 = .pointer (some ⟨g6, 0, none⟩) ∧ Aside0 (wc.heap[g6]? = some (.cells #[.int .i64 n, .int .i64 0, .int .i64 0, .int .i64 0, .int .i64 0] 29 (0, 0))) ∧ Aside0 (g5 ≠ g6) ∧ Aside0 (gr ≠ g6) ∧ Aside0 (gm ≠ g6) ∧ Aside0 (g2 ≠ g6) ∧ Aside0 (w.heap.size ≤ g6) ∧ Aside0 (wc.heap[g5]? = some (.cells #[.int .u8 85, .int .u32 o, .int .u32 s3, .int .u32 s7] 48 (0, 0))) ∧ Aside0 (wc.heap[gr]? = some (.mapIter (some gm) cm_clk (seen.push e.born) cm_clk)) ∧ Aside0 (wc.heap[gm]? = some (.map cm_es cm_clk)) ∧ Aside0 (wc.heap[g2]? = some (.cells #[.int .i64 0, .int .i64 0, .int .i64 0, .int .i64 0, .int .i64 0] 29 (0, 0))) ∧ Aside0 (Below w.heap.size w wc))
       case first =>
        go_wp2
        go_meet
        case rel => exact ⟨_, rfl, ⟨heap_alloc_new _ _⟩, ⟨Nat.ne_of_lt (blk_lt BK5.out)⟩, ⟨Nat.ne_of_lt (blk_lt BKr.out)⟩, ⟨Nat.ne_of_lt (blk_lt BKm.out)⟩, ⟨Nat.ne_of_lt (blk_lt BK2.out)⟩, ⟨HB.out.size⟩, ⟨blk_al BK5.out _⟩, ⟨blk_al BKr.out _⟩, ⟨blk_al BKm.out _⟩, ⟨blk_al BK2.out _⟩, ⟨HB.out.alloc HB.out.size _⟩⟩
       case rest =>
        clear BK5 BKr BKm BK2 HB hc5_0 hc5_1 hc5_2 hc5_3 hf5_0 hf5_1 hf5_2 hf5_3
        obtain ⟨g6, rfl, BK6, NB5_6, NBr_6, NBm_6, NB2_6, GE6, BK5, BKr, BKm, BK2, HB⟩ := hcut
        have hc5_0 : wc.cell? ⟨g5, 0, none⟩ = some (.int .u8 85) := (blk_cell BK5.out 0).trans rfl
        have hc5_1 : wc.cell? ⟨g5, 1, none⟩ = some (.int .u32 o) := (blk_cell BK5.out 1).trans rfl
        have hc5_2 : wc.cell? ⟨g5, 2, none⟩ = some (.int .u32 s3) := (blk_cell BK5.out 2).trans rfl
        have hc5_3 : wc.cell? ⟨g5, 3, none⟩ = some (.int .u32 s7) := (blk_cell BK5.out 3).trans rfl
        have hf5_0 := blk_frozen BK5.out 0
        have hf5_1 := blk_frozen BK5.out 1
        have hf5_2 := blk_frozen BK5.out 2
        have hf5_3 := blk_frozen BK5.out 3
        go_upto_region 6 with (fail)
        go_cut [7] (fun v7 wc => ∃ g7, v7 = .pointer (some ⟨g7, 0, none⟩) ∧ Aside0 (wc.heap[g7]? = some (.cells #[.bool true, .bool false, .bool false] 54 (0, 0))) ∧ Aside0 (g6 ≠ g7) ∧ Aside0 (wc.heap[g6]? = some (.cells #[.int .i64 n, .int .i64 0, .int .i64 0, .int .i64 0, .int .i64 0] 29 (0, 0))) ∧ Aside0 (wc.heap[g5]? = some (.cells #[.int .u8 85, .int .u32 o, .int .u32 s3, .int .u32 s7] 48 (0, 0))) ∧ Aside0 (wc.heap[gr]? = some (.mapIter (some gm) cm_clk (seen.push e.born) cm_clk)) ∧ Aside0 (wc.heap[gm]? = some (.map cm_es cm_clk)) ∧ Aside0 (wc.heap[g2]? = some (.cells #[.int .i64 0, .int .i64 0, .int .i64 0, .int .i64 0, .int .i64 0] 29 (0, 0))) ∧ Aside0 (Below w.heap.size w wc))
        case first =>
         go_wp2_with (first | (go_at_call 16; refine (cf_uses_calls' 85 (by simp [FormOk]) true false false rfl _).mono ?_; rintro e w5 ⟨rfl, hb⟩; have n0_ := Aside0.mk (blk_below BK5.out hb); have n1_ := Aside0.mk (blk_below BK6.out hb); have n2_ := Aside0.mk (blk_below BKr.out hb); have n3_ := Aside0.mk (blk_below BKm.out hb); have n4_ := Aside0.mk (blk_below BK2.out hb); have n5_ := Aside0.mk (below_step HB.out hb); clear BK5; clear BK6; clear BKr; clear BKm; clear BK2; clear HB; have BK5 := n0_; have BK6 := n1_; have BKr := n2_; have BKm := n3_; have BK2 := n4_; have HB := n5_; clear n0_ n1_ n2_ n3_ n4_ n5_; clear hb))
         go_meet
         case rel => exact ⟨_, rfl, ⟨heap_alloc_new _ _⟩, ⟨Nat.ne_of_lt (blk_lt BK6.out)⟩, ⟨blk_al BK6.out _⟩, ⟨blk_al BK5.out _⟩, ⟨blk_al BKr.out _⟩, ⟨blk_al BKm.out _⟩, ⟨blk_al BK2.out _⟩, ⟨HB.out.alloc HB.out.size _⟩⟩
        case rest =>
         clear BK6 BK5 BKr BKm BK2 HB hc5_0 hc5_1 hc5_2 hc5_3 hf5_0 hf5_1 hf5_2 hf5_3
         obtain ⟨g7, rfl, BK7, NB6_7, BK6, BK5, BKr, BKm, BK2, HB⟩ := hcut
         have hc7_0 : wc.cell? ⟨g7, 0, none⟩ = some (.bool true) := (blk_cell BK7.out 0).trans rfl
         have hc7_1 : wc.cell? ⟨g7, 1, none⟩ = some (.bool false) := (blk_cell BK7.out 1).trans rfl
         have hc7_2 : wc.cell? ⟨g7, 2, none⟩ = some (.bool false) := (blk_cell BK7.out 2).trans rfl
         have hf7_0 := blk_frozen BK7.out 0
         have hf7_1 := blk_frozen BK7.out 1
         have hf7_2 := blk_frozen BK7.out 2
         go_upto_block 2 with (fail)
         go_cut [] (fun wc => Aside0 (wc.heap[g6]? = some (.cells #[.int .i64 n, .int .i64 (x / 128 % 32), .int .i64 0, .int .i64 0, .int .i64 0] 29 (0, 0))) ∧ Aside0 (wc.heap[g5]? = some (.cells #[.int .u8 85, .int .u32 o, .int .u32 s3, .int .u32 s7] 48 (0, 0))) ∧ Aside0 (wc.heap[gr]? = some (.mapIter (some gm) cm_clk (seen.push e.born) cm_clk)) ∧ Aside0 (wc.heap[gm]? = some (.map cm_es cm_clk)) ∧ Aside0 (wc.heap[g2]? = some (.cells #[.int .i64 0, .int .i64 0, .int .i64 0, .int .i64 0, .int .i64 0] 29 (0, 0))) ∧ Aside0 (Below w.heap.size w wc))
         case first =>
          have hc6_0 : wc.cell? ⟨g6, 0, none⟩ = some (.int .i64 n) := (blk_cell BK6.out 0).trans rfl
          have hc6_1 : wc.cell? ⟨g6, 1, none⟩ = some (.int .i64 0) := (blk_cell BK6.out 1).trans rfl
          have hc6_2 : wc.cell? ⟨g6, 2, none⟩ = some (.int .i64 0) := (blk_cell BK6.out 2).trans rfl
          have hc6_3 : wc.cell? ⟨g6, 3, none⟩ = some (.int .i64 0) := (blk_cell BK6.out 3).trans rfl
          have hc6_4 : wc.cell? ⟨g6, 4, none⟩ = some (.int .i64 0) := (blk_cell BK6.out 4).trans rfl
          have hf6_0 := blk_frozen BK6.out 0
          have hf6_1 := blk_frozen BK6.out 1
          have hf6_2 := blk_frozen BK6.out 2
          have hf6_3 := blk_frozen BK6.out 3
          have hf6_4 := blk_frozen BK6.out 4
          have hnb6 := NB6_7.out
          have hnb7 := NB6_7.out.symm
          go_wp2
          have i0 := dec_i66_0
          have j0 := enc_i56_0
          have i1 := dec_i66_1
          have j1 := enc_i56_1
          have i2 := dec_i66_2
          have j2 := enc_i56_2
          refine wp_loop_rounds 4 ?_
          rw [rounds_succ]
          go_wp2
          rw [rounds_succ]
          go_wp2
          rw [rounds_succ]
          go_wp2
          rw [rounds_succ]
          go_wp2
          go_meet
          case rel => exact ⟨⟨blk_put (cs := #[.int .i64 n, .int .i64 0, .int .i64 0, .int .i64 0, .int .i64 0]) (BK6.out) 1 _ rfl⟩, ⟨by rw [Below.heap_setCell _ _ _ _ NB5_6.out]; exact BK5.out⟩, ⟨by rw [Below.heap_setCell _ _ _ _ NBr_6.out]; exact BKr.out⟩, ⟨by rw [Below.heap_setCell _ _ _ _ NBm_6.out]; exact BKm.out⟩, ⟨by rw [Below.heap_setCell _ _ _ _ NB2_6.out]; exact BK2.out⟩, ⟨(HB.out.setCell GE6.out _)⟩⟩
         case rest =>
          clear BK7 BK6 BK5 BKr BKm BK2 HB hc7_0 hc7_1 hc7_2 hf7_0 hf7_1 hf7_2
          obtain ⟨BK6, BK5, BKr, BKm, BK2, HB⟩ := hcut
          have hc5_0 : wc.cell? ⟨g5, 0, none⟩ = some (.int .u8 85) := (blk_cell BK5.out 0).trans rfl
          have hc5_1 : wc.cell? ⟨g5, 1, none⟩ = some (.int .u32 o) := (blk_cell BK5.out 1).trans rfl
          have hc5_2 : wc.cell? ⟨g5, 2, none⟩ = some (.int .u32 s3) := (blk_cell BK5.out 2).trans rfl
          have hc5_3 : wc.cell? ⟨g5, 3, none⟩ = some (.int .u32 s7) := (blk_cell BK5.out 3).trans rfl
          have hf5_0 := blk_frozen BK5.out 0
          have hf5_1 := blk_frozen BK5.out 1
          have hf5_2 := blk_frozen BK5.out 2
          have hf5_3 := blk_frozen BK5.out 3
          obtain ⟨p, hp⟩ : ∃ v, x / 4096 % 1048576 = v := ⟨_, rfl⟩
          have Hp := Aside0.mk hp
          have hp0 : 0 ≤ p := by omega
          have hp1 : p < 1048576 := by omega
          have em0 : bits BinOp.and IntKind.u32 (x / 4096) 1048575 = p := (u32_andm 20 1048575 (by decide) (by decide) _ (by omega) (by omega)).trans hp
          clear hp
          clear e7 e15 e20 eand
          go_upto_block 4 with (first | (go_at_call 17; refine (cf_pcall_85 _).mono ?_; rintro e w5 ⟨g9, hg9, rfl, hk9, hb⟩; have n0_ := Aside0.mk (blk_below BK5.out hb); have n1_ := Aside0.mk (blk_below BK6.out hb); have n2_ := Aside0.mk (blk_below BKr.out hb); have n3_ := Aside0.mk (blk_below BKm.out hb); have n4_ := Aside0.mk (blk_below BK2.out hb); have n5_ := Aside0.mk (below_step HB.out hb); have n6_ := Aside0.mk hk9; have n7_ := Aside0.mk ((by rw [hg9]; exact Nat.ne_of_lt (blk_lt BK6.out)) : g6 ≠ g9); clear BK5; clear BK6; clear BKr; clear BKm; clear BK2; clear HB; have BK5 := n0_; have BK6 := n1_; have BKr := n2_; have BKm := n3_; have BK2 := n4_; have HB := n5_; have BK9 := n6_; have NB6_9 := n7_; clear n0_ n1_ n2_ n3_ n4_ n5_ n6_ n7_; clear hb hk9 hg9))
          go_cut [] (fun wc => Aside0 (wc.heap[g6]? = some (.cells #[.int .i64 n, .int .i64 (x / 128 % 32), .int .i64 0, .int .i64 0, .int .i64 (p)] 29 (0, 0))) ∧ Aside0 (wc.heap[g5]? = some (.cells #[.int .u8 85, .int .u32 o, .int .u32 s3, .int .u32 s7] 48 (0, 0))) ∧ Aside0 (wc.heap[gr]? = some (.mapIter (some gm) cm_clk (seen.push e.born) cm_clk)) ∧ Aside0 (wc.heap[gm]? = some (.map cm_es cm_clk)) ∧ Aside0 (wc.heap[g2]? = some (.cells #[.int .i64 0, .int .i64 0, .int .i64 0, .int .i64 0, .int .i64 0] 29 (0, 0))) ∧ Aside0 (Below w.heap.size w wc))
          case first =>
           clear hc5_0 hc5_1 hc5_2 hc5_3 hf5_0 hf5_1 hf5_2 hf5_3
           go_wp2
           go_loopg [61] 1 (fun gg v61 w' => ∃ k : Nat, k ≤ 1 ∧ 1 - k ≤ gg ∧ v61 = .int .i64 k ∧ Aside0 (w'.heap[g6]? = some (.cells #[.int .i64 n, .int .i64 (x / 128 % 32), .int .i64 0, .int .i64 0, .int .i64 (([0, p] : List Int).getD k 0)] 29 (0, 0))) ∧ Aside0 (w'.heap[g9]? = some (.cells #[.int .u64 0, .int .u64 20, .int .u64 12] 60 (0, 0))) ∧ Aside0 (w'.heap[g5]? = some (.cells #[.int .u8 85, .int .u32 o, .int .u32 s3, .int .u32 s7] 48 (0, 0))) ∧ Aside0 (w'.heap[gr]? = some (.mapIter (some gm) cm_clk (seen.push e.born) cm_clk)) ∧ Aside0 (w'.heap[gm]? = some (.map cm_es cm_clk)) ∧ Aside0 (w'.heap[g2]? = some (.cells #[.int .i64 0, .int .i64 0, .int .i64 0, .int .i64 0, .int .i64 0] 29 (0, 0))) ∧ Aside0 (Below w.heap.size w w'))
           case atStart => exact ⟨0, by omega, by omega, rfl, BK6, BK9, BK5, BKr, BKm, BK2, HB⟩
           case round =>
            clear BK6 BK9 BK5 BKr BKm BK2 HB
            obtain ⟨k, hk, hg, rfl, BK6, BK9, BK5, BKr, BKm, BK2, HB⟩ := hrel
            have hk3 : k = 0 ∨ k = 1 := by omega
            rcases hk3 with rfl | rfl
            ·have hc6_4 : wr.cell? ⟨g6, 4, none⟩ = some (.int .i64 (0)) := (blk_cell BK6.out 4).trans rfl
             have hf6_4 := blk_frozen BK6.out 4
             have hc6a : ∀ o, (wr.alloc o).cell? ⟨g6, 4, none⟩ = some (.int .i64 (0)) := fun o => (blk_cell (blk_al BK6.out o) 4).trans rfl
             have hf6a : ∀ o, (wr.alloc o).frozen? ⟨g6, 4, none⟩ = false := fun o => blk_frozen (blk_al BK6.out o) 4
             have hc9_0 : wr.cell? ⟨g9, 0, none⟩ = some (.int .u64 0) := (blk_cell BK9.out 0).trans rfl
             have hf9_0 := blk_frozen BK9.out 0
             have hc9_1 : wr.cell? ⟨g9, 1, none⟩ = some (.int .u64 20) := (blk_cell BK9.out 1).trans rfl
             have hf9_1 := blk_frozen BK9.out 1
             have hc9_2 : wr.cell? ⟨g9, 2, none⟩ = some (.int .u64 12) := (blk_cell BK9.out 2).trans rfl
             have hf9_2 := blk_frozen BK9.out 2
             have eor : bits BinOp.or IntKind.i64 (0) (p) = p := (i64_or 0 20 0 p (p) (by omega) (by omega) (by omega) (by omega) (by omega) (by omega) (by omega)).trans (by omega)
             go_wp2
             go_roundg 0
             case measure => omega
             case rel => exact ⟨1, by omega, by omega, rfl, ⟨blk_put (cs := #[.int .i64 n, .int .i64 (x / 128 % 32), .int .i64 0, .int .i64 0, .int .i64 0]) (blk_al BK6.out _) 4 _ rfl⟩, ⟨(Below.heap_setCell _ _ _ _ NB6_9.out.symm).trans (blk_al BK9.out _)⟩, ⟨(Below.heap_setCell _ _ _ _ NB5_6.out).trans (blk_al BK5.out _)⟩, ⟨(Below.heap_setCell _ _ _ _ NBr_6.out).trans (blk_al BKr.out _)⟩, ⟨(Below.heap_setCell _ _ _ _ NBm_6.out).trans (blk_al BKm.out _)⟩, ⟨(Below.heap_setCell _ _ _ _ NB2_6.out).trans (blk_al BK2.out _)⟩, ⟨(HB.out.alloc HB.out.size _).setCell GE6.out _⟩⟩
            ·go_wp2
             go_meet
             case rel => exact ⟨BK6, BK5, BKr, BKm, BK2, HB⟩
          case rest =>
           clear BK9 NB6_9
           clear BK6 BK5 BKr BKm BK2 HB hc5_0 hc5_1 hc5_2 hc5_3 hf5_0 hf5_1 hf5_2 hf5_3
           obtain ⟨BK6, BK5, BKr, BKm, BK2, HB⟩ := hcut
           have hc5_0 : wc.cell? ⟨g5, 0, none⟩ = some (.int .u8 85) := (blk_cell BK5.out 0).trans rfl
           have hc5_1 : wc.cell? ⟨g5, 1, none⟩ = some (.int .u32 o) := (blk_cell BK5.out 1).trans rfl
           have hc5_2 : wc.cell? ⟨g5, 2, none⟩ = some (.int .u32 s3) := (blk_cell BK5.out 2).trans rfl
           have hc5_3 : wc.cell? ⟨g5, 3, none⟩ = some (.int .u32 s7) := (blk_cell BK5.out 3).trans rfl
           have hf5_0 := blk_frozen BK5.out 0
           have hf5_1 := blk_frozen BK5.out 1
           have hf5_2 := blk_frozen BK5.out 2
           have hf5_3 := blk_frozen BK5.out 3
           have hc6_0 : wc.cell? ⟨g6, 0, none⟩ = some (.int .i64 n) := (blk_cell BK6.out 0).trans rfl
           have hc6_1 : wc.cell? ⟨g6, 1, none⟩ = some (.int .i64 (x / 128 % 32)) := (blk_cell BK6.out 1).trans rfl
           have hc6_2 : wc.cell? ⟨g6, 2, none⟩ = some (.int .i64 0) := (blk_cell BK6.out 2).trans rfl
           have hc6_3 : wc.cell? ⟨g6, 3, none⟩ = some (.int .i64 0) := (blk_cell BK6.out 3).trans rfl
           have hc6_4 : wc.cell? ⟨g6, 4, none⟩ = some (.int .i64 (p)) := (blk_cell BK6.out 4).trans rfl
           have hf6_0 := blk_frozen BK6.out 0
           have hf6_1 := blk_frozen BK6.out 1
           have hf6_2 := blk_frozen BK6.out 2
           have hf6_3 := blk_frozen BK6.out 3
           have hf6_4 := blk_frozen BK6.out 4
           clear hc5_1 hc5_2 hc5_3 hf5_1 hf5_2 hf5_3
           by_cases him : p > 524287
           ·have hle : 524287 < p := by omega
            go_upto_region 22 with (first | (go_at_call 15; refine (cf_room_calls' 85 (by simp [FormOk]) (-524288) (524287) rfl _).mono ?_; rintro e w' ⟨rfl, hw⟩; obtain rfl := hw.symm))
            obtain ⟨wd, hwd⟩ : ∃ wd, wc.setCell ⟨g6, 4, none⟩ (.int .i64 (p + -1048576)) = wd := ⟨_, rfl⟩
            have k6 : (wc.setCell ⟨g6, 4, none⟩ (.int .i64 (p + -1048576))).heap[g6]? = some (.cells #[.int .i64 n, .int .i64 (x / 128 % 32), .int .i64 0, .int .i64 0, .int .i64 (p + -1048576)] 29 (0, 0)) := blk_put (cs := #[.int .i64 n, .int .i64 (x / 128 % 32), .int .i64 0, .int .i64 0, .int .i64 (p)]) BK6.out 4 _ rfl
            have k5 := (Below.heap_setCell wc ⟨g6, 4, none⟩ (.int .i64 (p + -1048576)) _ NB5_6.out).trans BK5.out
            have kr := (Below.heap_setCell wc ⟨g6, 4, none⟩ (.int .i64 (p + -1048576)) _ NBr_6.out).trans BKr.out
            have km := (Below.heap_setCell wc ⟨g6, 4, none⟩ (.int .i64 (p + -1048576)) _ NBm_6.out).trans BKm.out
            have k2 := (Below.heap_setCell wc ⟨g6, 4, none⟩ (.int .i64 (p + -1048576)) _ NB2_6.out).trans BK2.out
            have kb := HB.out.setCell (p := ⟨g6, 4, none⟩) GE6.out (.int .i64 (p + -1048576))
            rw [hwd] at k6 k5 kr km k2 kb
            rw [hwd]
            clear hwd BK6 BK5 BKr BKm BK2 HB
            have BK6 := Aside0.mk k6
            have BK5 := Aside0.mk k5
            have BKr := Aside0.mk kr
            have BKm := Aside0.mk km
            have BK2 := Aside0.mk k2
            have HB := Aside0.mk kb
            clear k6 k5 kr km k2 kb
            have hc6_0 : wd.cell? ⟨g6, 0, none⟩ = some (.int .i64 n) := (blk_cell BK6.out 0).trans rfl
            have hc6_1 : wd.cell? ⟨g6, 1, none⟩ = some (.int .i64 (x / 128 % 32)) := (blk_cell BK6.out 1).trans rfl
            have hc6_2 : wd.cell? ⟨g6, 2, none⟩ = some (.int .i64 0) := (blk_cell BK6.out 2).trans rfl
            have hc6_3 : wd.cell? ⟨g6, 3, none⟩ = some (.int .i64 0) := (blk_cell BK6.out 3).trans rfl
            have hc6_4 : wd.cell? ⟨g6, 4, none⟩ = some (.int .i64 (p + -1048576)) := (blk_cell BK6.out 4).trans rfl
            have hf6_0 := blk_frozen BK6.out 0
            have hf6_1 := blk_frozen BK6.out 1
            have hf6_2 := blk_frozen BK6.out 2
            have hf6_3 := blk_frozen BK6.out 3
            have hf6_4 := blk_frozen BK6.out 4
            have HD := Aside0.mk (dec_85_out x hx0 hx1 Hp.out hle : Dec 85 x = (x / 128 % 32, 0, 0, p + -1048576))
            obtain ⟨⟨r0, r1⟩, hen⟩ : ∃ r, code_Encode.f n (x / 128 % 32) (0) (0) (p + -1048576) = some r := ⟨_, rfl⟩
            have HEN := Aside0.mk hen
            clear hen
            have HHIT := Aside0.mk (dec_hit ⟨n, 85, o, s3, s7⟩ x HD.out HEN.out)
            by_cases hr1 : r1 = 0
            ·by_cases hr0 : r0 = x
             ·have HH := Aside0.mk (HHIT.out.2 ⟨hr0, hr1⟩)
              go_wp2_with (first | (go_at_call 15; refine (cf_room_calls' 85 (by simp [FormOk]) (-524288) (524287) rfl _).mono ?_; rintro e w' ⟨rfl, hw⟩; obtain rfl := hw.symm) | (go_at_call 9; (with_reducible refine (code_Encode.calls n (x / 128 % 32) (0) (0) (p + -1048576) r0 r1 _ HEN.out).mono ?_); rintro e w6 ⟨rfl, hb⟩; have n0_ := Aside0.mk (blk_below BK6.out hb); have n1_ := Aside0.mk (blk_below BKr.out hb); have n2_ := Aside0.mk (blk_below BKm.out hb); have n3_ := Aside0.mk (blk_below BK2.out hb); have n4_ := Aside0.mk (below_step HB.out hb); clear BK6; clear BKr; clear BKm; clear BK2; clear HB; have BK6 := n0_; have BKr := n1_; have BKm := n2_; have BK2 := n3_; have HB := n4_; clear n0_ n1_ n2_ n3_ n4_; clear hb; have hc6_0 : w6.cell? ⟨g6, 0, none⟩ = some (.int .i64 n) := (blk_cell BK6.out 0).trans rfl; have hc6_1 : w6.cell? ⟨g6, 1, none⟩ = some (.int .i64 (x / 128 % 32)) := (blk_cell BK6.out 1).trans rfl; have hc6_2 : w6.cell? ⟨g6, 2, none⟩ = some (.int .i64 0) := (blk_cell BK6.out 2).trans rfl; have hc6_3 : w6.cell? ⟨g6, 3, none⟩ = some (.int .i64 0) := (blk_cell BK6.out 3).trans rfl; have hc6_4 : w6.cell? ⟨g6, 4, none⟩ = some (.int .i64 (p + -1048576)) := (blk_cell BK6.out 4).trans rfl; have hf6_0 := blk_frozen BK6.out 0; have hf6_1 := blk_frozen BK6.out 1; have hf6_2 := blk_frozen BK6.out 2; have hf6_3 := blk_frozen BK6.out 3; have hf6_4 := blk_frozen BK6.out 4; have hc2_0 : w6.cell? ⟨g2, 0, none⟩ = some (.int .i64 0) := (blk_cell BK2.out 0).trans rfl; have hc2_1 : w6.cell? ⟨g2, 1, none⟩ = some (.int .i64 0) := (blk_cell BK2.out 1).trans rfl; have hc2_2 : w6.cell? ⟨g2, 2, none⟩ = some (.int .i64 0) := (blk_cell BK2.out 2).trans rfl; have hc2_3 : w6.cell? ⟨g2, 3, none⟩ = some (.int .i64 0) := (blk_cell BK2.out 3).trans rfl; have hc2_4 : w6.cell? ⟨g2, 4, none⟩ = some (.int .i64 0) := (blk_cell BK2.out 4).trans rfl; have hf2_0 := blk_frozen BK2.out 0; have hf2_1 := blk_frozen BK2.out 1; have hf2_2 := blk_frozen BK2.out 2; have hf2_3 := blk_frozen BK2.out 3; have hf2_4 := blk_frozen BK2.out 4))
              refine bodyPost_ret (dec_res _ _ g2 _ (0, 0) rfl (dec_put5 BK2.out _ _ _ _ _) rfl) rfl ?_
              exact ⟨.inl ⟨⟨n, 85, o, s3, s7⟩, HROW.out, HH.out, by simp only [HD.out]; rfl⟩, ((((HB.out.setCell GE2.out _).setCell GE2.out _).setCell GE2.out _).setCell GE2.out _).setCell GE2.out _⟩
             ·have HNH := Aside0.mk (fun h => by have hh := HHIT.out.1 h; exact hr0 hh.1 : ¬ Hit ⟨n, 85, o, s3, s7⟩ x)
              go_wp2_with (first | (go_at_call 15; refine (cf_room_calls' 85 (by simp [FormOk]) (-524288) (524287) rfl _).mono ?_; rintro e w' ⟨rfl, hw⟩; obtain rfl := hw.symm) | (go_at_call 9; (with_reducible refine (code_Encode.calls n (x / 128 % 32) (0) (0) (p + -1048576) r0 r1 _ HEN.out).mono ?_); rintro e w6 ⟨rfl, hb⟩; have n0_ := Aside0.mk (blk_below BK6.out hb); have n1_ := Aside0.mk (blk_below BKr.out hb); have n2_ := Aside0.mk (blk_below BKm.out hb); have n3_ := Aside0.mk (blk_below BK2.out hb); have n4_ := Aside0.mk (below_step HB.out hb); clear BK6; clear BKr; clear BKm; clear BK2; clear HB; have BK6 := n0_; have BKr := n1_; have BKm := n2_; have BK2 := n3_; have HB := n4_; clear n0_ n1_ n2_ n3_ n4_; clear hb; have hc6_0 : w6.cell? ⟨g6, 0, none⟩ = some (.int .i64 n) := (blk_cell BK6.out 0).trans rfl; have hc6_1 : w6.cell? ⟨g6, 1, none⟩ = some (.int .i64 (x / 128 % 32)) := (blk_cell BK6.out 1).trans rfl; have hc6_2 : w6.cell? ⟨g6, 2, none⟩ = some (.int .i64 0) := (blk_cell BK6.out 2).trans rfl; have hc6_3 : w6.cell? ⟨g6, 3, none⟩ = some (.int .i64 0) := (blk_cell BK6.out 3).trans rfl; have hc6_4 : w6.cell? ⟨g6, 4, none⟩ = some (.int .i64 (p + -1048576)) := (blk_cell BK6.out 4).trans rfl; have hf6_0 := blk_frozen BK6.out 0; have hf6_1 := blk_frozen BK6.out 1; have hf6_2 := blk_frozen BK6.out 2; have hf6_3 := blk_frozen BK6.out 3; have hf6_4 := blk_frozen BK6.out 4; have hc2_0 : w6.cell? ⟨g2, 0, none⟩ = some (.int .i64 0) := (blk_cell BK2.out 0).trans rfl; have hc2_1 : w6.cell? ⟨g2, 1, none⟩ = some (.int .i64 0) := (blk_cell BK2.out 1).trans rfl; have hc2_2 : w6.cell? ⟨g2, 2, none⟩ = some (.int .i64 0) := (blk_cell BK2.out 2).trans rfl; have hc2_3 : w6.cell? ⟨g2, 3, none⟩ = some (.int .i64 0) := (blk_cell BK2.out 3).trans rfl; have hc2_4 : w6.cell? ⟨g2, 4, none⟩ = some (.int .i64 0) := (blk_cell BK2.out 4).trans rfl; have hf2_0 := blk_frozen BK2.out 0; have hf2_1 := blk_frozen BK2.out 1; have hf2_2 := blk_frozen BK2.out 2; have hf2_3 := blk_frozen BK2.out 3; have hf2_4 := blk_frozen BK2.out 4))
              go_roundg (leftOf cm_es (seen.push e.born)).size
              case measure => exact Nat.lt_of_lt_of_le HSH.out hg
              case rel => exact ⟨seen.push e.born, cm_clk, Nat.le_refl _, ⟨Nat.le_refl _⟩, BKr, BKm, BK2, HB, ⟨dec_no HNO.out HE.out (by rw [HENT.out]; exact HNH.out)⟩⟩
            ·have HNH := Aside0.mk (fun h => by have hh := HHIT.out.1 h; exact hr1 hh.2 : ¬ Hit ⟨n, 85, o, s3, s7⟩ x)
             go_wp2_with (first | (go_at_call 15; refine (cf_room_calls' 85 (by simp [FormOk]) (-524288) (524287) rfl _).mono ?_; rintro e w' ⟨rfl, hw⟩; obtain rfl := hw.symm) | (go_at_call 9; (with_reducible refine (code_Encode.calls n (x / 128 % 32) (0) (0) (p + -1048576) r0 r1 _ HEN.out).mono ?_); rintro e w6 ⟨rfl, hb⟩; have n0_ := Aside0.mk (blk_below BK6.out hb); have n1_ := Aside0.mk (blk_below BKr.out hb); have n2_ := Aside0.mk (blk_below BKm.out hb); have n3_ := Aside0.mk (blk_below BK2.out hb); have n4_ := Aside0.mk (below_step HB.out hb); clear BK6; clear BKr; clear BKm; clear BK2; clear HB; have BK6 := n0_; have BKr := n1_; have BKm := n2_; have BK2 := n3_; have HB := n4_; clear n0_ n1_ n2_ n3_ n4_; clear hb; have hc6_0 : w6.cell? ⟨g6, 0, none⟩ = some (.int .i64 n) := (blk_cell BK6.out 0).trans rfl; have hc6_1 : w6.cell? ⟨g6, 1, none⟩ = some (.int .i64 (x / 128 % 32)) := (blk_cell BK6.out 1).trans rfl; have hc6_2 : w6.cell? ⟨g6, 2, none⟩ = some (.int .i64 0) := (blk_cell BK6.out 2).trans rfl; have hc6_3 : w6.cell? ⟨g6, 3, none⟩ = some (.int .i64 0) := (blk_cell BK6.out 3).trans rfl; have hc6_4 : w6.cell? ⟨g6, 4, none⟩ = some (.int .i64 (p + -1048576)) := (blk_cell BK6.out 4).trans rfl; have hf6_0 := blk_frozen BK6.out 0; have hf6_1 := blk_frozen BK6.out 1; have hf6_2 := blk_frozen BK6.out 2; have hf6_3 := blk_frozen BK6.out 3; have hf6_4 := blk_frozen BK6.out 4; have hc2_0 : w6.cell? ⟨g2, 0, none⟩ = some (.int .i64 0) := (blk_cell BK2.out 0).trans rfl; have hc2_1 : w6.cell? ⟨g2, 1, none⟩ = some (.int .i64 0) := (blk_cell BK2.out 1).trans rfl; have hc2_2 : w6.cell? ⟨g2, 2, none⟩ = some (.int .i64 0) := (blk_cell BK2.out 2).trans rfl; have hc2_3 : w6.cell? ⟨g2, 3, none⟩ = some (.int .i64 0) := (blk_cell BK2.out 3).trans rfl; have hc2_4 : w6.cell? ⟨g2, 4, none⟩ = some (.int .i64 0) := (blk_cell BK2.out 4).trans rfl; have hf2_0 := blk_frozen BK2.out 0; have hf2_1 := blk_frozen BK2.out 1; have hf2_2 := blk_frozen BK2.out 2; have hf2_3 := blk_frozen BK2.out 3; have hf2_4 := blk_frozen BK2.out 4))
             go_roundg (leftOf cm_es (seen.push e.born)).size
             case measure => exact Nat.lt_of_lt_of_le HSH.out hg
             case rel => exact ⟨seen.push e.born, cm_clk, Nat.le_refl _, ⟨Nat.le_refl _⟩, BKr, BKm, BK2, HB, ⟨dec_no HNO.out HE.out (by rw [HENT.out]; exact HNH.out)⟩⟩
           ·have hle : p ≤ 524287 := by omega
            have hnl : ¬ 524287 < p := by omega
            have HD := Aside0.mk (dec_85_in x hx0 hx1 Hp.out hle : Dec 85 x = (x / 128 % 32, 0, 0, p))
            obtain ⟨⟨r0, r1⟩, hen⟩ : ∃ r, code_Encode.f n (x / 128 % 32) (0) (0) (p) = some r := ⟨_, rfl⟩
            have HEN := Aside0.mk hen
            clear hen
            have HHIT := Aside0.mk (dec_hit ⟨n, 85, o, s3, s7⟩ x HD.out HEN.out)
            by_cases hr1 : r1 = 0
            ·by_cases hr0 : r0 = x
             ·have HH := Aside0.mk (HHIT.out.2 ⟨hr0, hr1⟩)
              go_wp2_with (first | (go_at_call 15; refine (cf_room_calls' 85 (by simp [FormOk]) (-524288) (524287) rfl _).mono ?_; rintro e w' ⟨rfl, hw⟩; obtain rfl := hw.symm) | (go_at_call 9; (with_reducible refine (code_Encode.calls n (x / 128 % 32) (0) (0) (p) r0 r1 _ HEN.out).mono ?_); rintro e w6 ⟨rfl, hb⟩; have n0_ := Aside0.mk (blk_below BK6.out hb); have n1_ := Aside0.mk (blk_below BKr.out hb); have n2_ := Aside0.mk (blk_below BKm.out hb); have n3_ := Aside0.mk (blk_below BK2.out hb); have n4_ := Aside0.mk (below_step HB.out hb); clear BK6; clear BKr; clear BKm; clear BK2; clear HB; have BK6 := n0_; have BKr := n1_; have BKm := n2_; have BK2 := n3_; have HB := n4_; clear n0_ n1_ n2_ n3_ n4_; clear hb; have hc6_0 : w6.cell? ⟨g6, 0, none⟩ = some (.int .i64 n) := (blk_cell BK6.out 0).trans rfl; have hc6_1 : w6.cell? ⟨g6, 1, none⟩ = some (.int .i64 (x / 128 % 32)) := (blk_cell BK6.out 1).trans rfl; have hc6_2 : w6.cell? ⟨g6, 2, none⟩ = some (.int .i64 0) := (blk_cell BK6.out 2).trans rfl; have hc6_3 : w6.cell? ⟨g6, 3, none⟩ = some (.int .i64 0) := (blk_cell BK6.out 3).trans rfl; have hc6_4 : w6.cell? ⟨g6, 4, none⟩ = some (.int .i64 (p)) := (blk_cell BK6.out 4).trans rfl; have hf6_0 := blk_frozen BK6.out 0; have hf6_1 := blk_frozen BK6.out 1; have hf6_2 := blk_frozen BK6.out 2; have hf6_3 := blk_frozen BK6.out 3; have hf6_4 := blk_frozen BK6.out 4; have hc2_0 : w6.cell? ⟨g2, 0, none⟩ = some (.int .i64 0) := (blk_cell BK2.out 0).trans rfl; have hc2_1 : w6.cell? ⟨g2, 1, none⟩ = some (.int .i64 0) := (blk_cell BK2.out 1).trans rfl; have hc2_2 : w6.cell? ⟨g2, 2, none⟩ = some (.int .i64 0) := (blk_cell BK2.out 2).trans rfl; have hc2_3 : w6.cell? ⟨g2, 3, none⟩ = some (.int .i64 0) := (blk_cell BK2.out 3).trans rfl; have hc2_4 : w6.cell? ⟨g2, 4, none⟩ = some (.int .i64 0) := (blk_cell BK2.out 4).trans rfl; have hf2_0 := blk_frozen BK2.out 0; have hf2_1 := blk_frozen BK2.out 1; have hf2_2 := blk_frozen BK2.out 2; have hf2_3 := blk_frozen BK2.out 3; have hf2_4 := blk_frozen BK2.out 4))
              refine bodyPost_ret (dec_res _ _ g2 _ (0, 0) rfl (dec_put5 BK2.out _ _ _ _ _) rfl) rfl ?_
              exact ⟨.inl ⟨⟨n, 85, o, s3, s7⟩, HROW.out, HH.out, by simp only [HD.out]; rfl⟩, ((((HB.out.setCell GE2.out _).setCell GE2.out _).setCell GE2.out _).setCell GE2.out _).setCell GE2.out _⟩
             ·have HNH := Aside0.mk (fun h => by have hh := HHIT.out.1 h; exact hr0 hh.1 : ¬ Hit ⟨n, 85, o, s3, s7⟩ x)
              go_wp2_with (first | (go_at_call 15; refine (cf_room_calls' 85 (by simp [FormOk]) (-524288) (524287) rfl _).mono ?_; rintro e w' ⟨rfl, hw⟩; obtain rfl := hw.symm) | (go_at_call 9; (with_reducible refine (code_Encode.calls n (x / 128 % 32) (0) (0) (p) r0 r1 _ HEN.out).mono ?_); rintro e w6 ⟨rfl, hb⟩; have n0_ := Aside0.mk (blk_below BK6.out hb); have n1_ := Aside0.mk (blk_below BKr.out hb); have n2_ := Aside0.mk (blk_below BKm.out hb); have n3_ := Aside0.mk (blk_below BK2.out hb); have n4_ := Aside0.mk (below_step HB.out hb); clear BK6; clear BKr; clear BKm; clear BK2; clear HB; have BK6 := n0_; have BKr := n1_; have BKm := n2_; have BK2 := n3_; have HB := n4_; clear n0_ n1_ n2_ n3_ n4_; clear hb; have hc6_0 : w6.cell? ⟨g6, 0, none⟩ = some (.int .i64 n) := (blk_cell BK6.out 0).trans rfl; have hc6_1 : w6.cell? ⟨g6, 1, none⟩ = some (.int .i64 (x / 128 % 32)) := (blk_cell BK6.out 1).trans rfl; have hc6_2 : w6.cell? ⟨g6, 2, none⟩ = some (.int .i64 0) := (blk_cell BK6.out 2).trans rfl; have hc6_3 : w6.cell? ⟨g6, 3, none⟩ = some (.int .i64 0) := (blk_cell BK6.out 3).trans rfl; have hc6_4 : w6.cell? ⟨g6, 4, none⟩ = some (.int .i64 (p)) := (blk_cell BK6.out 4).trans rfl; have hf6_0 := blk_frozen BK6.out 0; have hf6_1 := blk_frozen BK6.out 1; have hf6_2 := blk_frozen BK6.out 2; have hf6_3 := blk_frozen BK6.out 3; have hf6_4 := blk_frozen BK6.out 4; have hc2_0 : w6.cell? ⟨g2, 0, none⟩ = some (.int .i64 0) := (blk_cell BK2.out 0).trans rfl; have hc2_1 : w6.cell? ⟨g2, 1, none⟩ = some (.int .i64 0) := (blk_cell BK2.out 1).trans rfl; have hc2_2 : w6.cell? ⟨g2, 2, none⟩ = some (.int .i64 0) := (blk_cell BK2.out 2).trans rfl; have hc2_3 : w6.cell? ⟨g2, 3, none⟩ = some (.int .i64 0) := (blk_cell BK2.out 3).trans rfl; have hc2_4 : w6.cell? ⟨g2, 4, none⟩ = some (.int .i64 0) := (blk_cell BK2.out 4).trans rfl; have hf2_0 := blk_frozen BK2.out 0; have hf2_1 := blk_frozen BK2.out 1; have hf2_2 := blk_frozen BK2.out 2; have hf2_3 := blk_frozen BK2.out 3; have hf2_4 := blk_frozen BK2.out 4))
              go_roundg (leftOf cm_es (seen.push e.born)).size
              case measure => exact Nat.lt_of_lt_of_le HSH.out hg
              case rel => exact ⟨seen.push e.born, cm_clk, Nat.le_refl _, ⟨Nat.le_refl _⟩, BKr, BKm, BK2, HB, ⟨dec_no HNO.out HE.out (by rw [HENT.out]; exact HNH.out)⟩⟩
            ·have HNH := Aside0.mk (fun h => by have hh := HHIT.out.1 h; exact hr1 hh.2 : ¬ Hit ⟨n, 85, o, s3, s7⟩ x)
             go_wp2_with (first | (go_at_call 15; refine (cf_room_calls' 85 (by simp [FormOk]) (-524288) (524287) rfl _).mono ?_; rintro e w' ⟨rfl, hw⟩; obtain rfl := hw.symm) | (go_at_call 9; (with_reducible refine (code_Encode.calls n (x / 128 % 32) (0) (0) (p) r0 r1 _ HEN.out).mono ?_); rintro e w6 ⟨rfl, hb⟩; have n0_ := Aside0.mk (blk_below BK6.out hb); have n1_ := Aside0.mk (blk_below BKr.out hb); have n2_ := Aside0.mk (blk_below BKm.out hb); have n3_ := Aside0.mk (blk_below BK2.out hb); have n4_ := Aside0.mk (below_step HB.out hb); clear BK6; clear BKr; clear BKm; clear BK2; clear HB; have BK6 := n0_; have BKr := n1_; have BKm := n2_; have BK2 := n3_; have HB := n4_; clear n0_ n1_ n2_ n3_ n4_; clear hb; have hc6_0 : w6.cell? ⟨g6, 0, none⟩ = some (.int .i64 n) := (blk_cell BK6.out 0).trans rfl; have hc6_1 : w6.cell? ⟨g6, 1, none⟩ = some (.int .i64 (x / 128 % 32)) := (blk_cell BK6.out 1).trans rfl; have hc6_2 : w6.cell? ⟨g6, 2, none⟩ = some (.int .i64 0) := (blk_cell BK6.out 2).trans rfl; have hc6_3 : w6.cell? ⟨g6, 3, none⟩ = some (.int .i64 0) := (blk_cell BK6.out 3).trans rfl; have hc6_4 : w6.cell? ⟨g6, 4, none⟩ = some (.int .i64 (p)) := (blk_cell BK6.out 4).trans rfl; have hf6_0 := blk_frozen BK6.out 0; have hf6_1 := blk_frozen BK6.out 1; have hf6_2 := blk_frozen BK6.out 2; have hf6_3 := blk_frozen BK6.out 3; have hf6_4 := blk_frozen BK6.out 4; have hc2_0 : w6.cell? ⟨g2, 0, none⟩ = some (.int .i64 0) := (blk_cell BK2.out 0).trans rfl; have hc2_1 : w6.cell? ⟨g2, 1, none⟩ = some (.int .i64 0) := (blk_cell BK2.out 1).trans rfl; have hc2_2 : w6.cell? ⟨g2, 2, none⟩ = some (.int .i64 0) := (blk_cell BK2.out 2).trans rfl; have hc2_3 : w6.cell? ⟨g2, 3, none⟩ = some (.int .i64 0) := (blk_cell BK2.out 3).trans rfl; have hc2_4 : w6.cell? ⟨g2, 4, none⟩ = some (.int .i64 0) := (blk_cell BK2.out 4).trans rfl; have hf2_0 := blk_frozen BK2.out 0; have hf2_1 := blk_frozen BK2.out 1; have hf2_2 := blk_frozen BK2.out 2; have hf2_3 := blk_frozen BK2.out 3; have hf2_4 := blk_frozen BK2.out 4))
             go_roundg (leftOf cm_es (seen.push e.born)).size
             case measure => exact Nat.lt_of_lt_of_le HSH.out hg
             case rel => exact ⟨seen.push e.born, cm_clk, Nat.le_refl _, ⟨Nat.le_refl _⟩, BKr, BKm, BK2, HB, ⟨dec_no HNO.out HE.out (by rw [HENT.out]; exact HNH.out)⟩⟩
     ·as_aux_lemma =>
       go_upto_region 5 with (fail)
       go_cut [6] (fun v6 wc => ∃ g6, v6 = .pointer (some ⟨g6, 0, none⟩) ∧ Aside0 (wc.heap[g6]? = some (.cells #[.int .i64 n, .int .i64 0, .int .i64 0, .int .i64 0, .int .i64 0] 29 (0, 0))) ∧ Aside0 (g5 ≠ g6) ∧ Aside0 (gr ≠ g6) ∧ Aside0 (gm ≠ g6) ∧ Aside0 (g2 ≠ g6) ∧ Aside0 (w.heap.size ≤ g6) ∧ Aside0 (wc.heap[g5]? = some (.cells #[.int .u8 74, .int .u32 o, .int .u32 s3, .int .u32 s7] 48 (0, 0))) ∧ Aside0 (wc.heap[gr]? = some (.mapIter (some gm) cm_clk (seen.push e.born) cm_clk)) ∧ Aside0 (wc.heap[gm]? = some (.map cm_es cm_clk)) ∧ Aside0 (wc.heap[g2]? = some (.cells #[.int .i64 0, .int .i64 0, .int .i64 0, .int .i64 0, .int .i64 0] 29 (0, 0))) ∧ Aside0 (Below w.heap.size w wc))
       case first =>
        go_wp2
        go_meet
        case rel => exact ⟨_, rfl, ⟨heap_alloc_new _ _⟩, ⟨Nat.ne_of_lt (blk_lt BK5.out)⟩, ⟨Nat.ne_of_lt (blk_lt BKr.out)⟩, ⟨Nat.ne_of_lt (blk_lt BKm.out)⟩, ⟨Nat.ne_of_lt (blk_lt BK2.out)⟩, ⟨HB.out.size⟩, ⟨blk_al BK5.out _⟩, ⟨blk_al BKr.out _⟩, ⟨blk_al BKm.out _⟩, ⟨blk_al BK2.out _⟩, ⟨HB.out.alloc HB.out.size _⟩⟩
       case rest =>
        clear BK5 BKr BKm BK2 HB hc5_0 hc5_1 hc5_2 hc5_3 hf5_0 hf5_1 hf5_2 hf5_3
        obtain ⟨g6, rfl, BK6, NB5_6, NBr_6, NBm_6, NB2_6, GE6, BK5, BKr, BKm, BK2, HB⟩ := hcut
        have hc5_0 : wc.cell? ⟨g5, 0, none⟩ = some (.int .u8 74) := (blk_cell BK5.out 0).trans rfl
        have hc5_1 : wc.cell? ⟨g5, 1, none⟩ = some (.int .u32 o) := (blk_cell BK5.out 1).trans rfl
        have hc5_2 : wc.cell? ⟨g5, 2, none⟩ = some (.int .u32 s3) := (blk_cell BK5.out 2).trans rfl
        have hc5_3 : wc.cell? ⟨g5, 3, none⟩ = some (.int .u32 s7) := (blk_cell BK5.out 3).trans rfl
        have hf5_0 := blk_frozen BK5.out 0
        have hf5_1 := blk_frozen BK5.out 1
        have hf5_2 := blk_frozen BK5.out 2
        have hf5_3 := blk_frozen BK5.out 3
        go_upto_region 6 with (fail)
        go_cut [7] (fun v7 wc => ∃ g7, v7 = .pointer (some ⟨g7, 0, none⟩) ∧ Aside0 (wc.heap[g7]? = some (.cells #[.bool true, .bool false, .bool false] 54 (0, 0))) ∧ Aside0 (g6 ≠ g7) ∧ Aside0 (wc.heap[g6]? = some (.cells #[.int .i64 n, .int .i64 0, .int .i64 0, .int .i64 0, .int .i64 0] 29 (0, 0))) ∧ Aside0 (wc.heap[g5]? = some (.cells #[.int .u8 74, .int .u32 o, .int .u32 s3, .int .u32 s7] 48 (0, 0))) ∧ Aside0 (wc.heap[gr]? = some (.mapIter (some gm) cm_clk (seen.push e.born) cm_clk)) ∧ Aside0 (wc.heap[gm]? = some (.map cm_es cm_clk)) ∧ Aside0 (wc.heap[g2]? = some (.cells #[.int .i64 0, .int .i64 0, .int .i64 0, .int .i64 0, .int .i64 0] 29 (0, 0))) ∧ Aside0 (Below w.heap.size w wc))
        case first =>
         go_wp2_with (first | (go_at_call 16; refine (cf_uses_calls' 74 (by simp [FormOk]) true false false rfl _).mono ?_; rintro e w5 ⟨rfl, hb⟩; have n0_ := Aside0.mk (blk_below BK5.out hb); have n1_ := Aside0.mk (blk_below BK6.out hb); have n2_ := Aside0.mk (blk_below BKr.out hb); have n3_ := Aside0.mk (blk_below BKm.out hb); have n4_ := Aside0.mk (blk_below BK2.out hb); have n5_ := Aside0.mk (below_step HB.out hb); clear BK5; clear BK6; clear BKr; clear BKm; clear BK2; clear HB; have BK5 := n0_; have BK6 := n1_; have BKr := n2_; have BKm := n3_; have BK2 := n4_; have HB := n5_; clear n0_ n1_ n2_ n3_ n4_ n5_; clear hb))
         go_meet
         case rel => exact ⟨_, rfl, ⟨heap_alloc_new _ _⟩, ⟨Nat.ne_of_lt (blk_lt BK6.out)⟩, ⟨blk_al BK6.out _⟩, ⟨blk_al BK5.out _⟩, ⟨blk_al BKr.out _⟩, ⟨blk_al BKm.out _⟩, ⟨blk_al BK2.out _⟩, ⟨HB.out.alloc HB.out.size _⟩⟩
        case rest =>
         clear BK6 BK5 BKr BKm BK2 HB hc5_0 hc5_1 hc5_2 hc5_3 hf5_0 hf5_1 hf5_2 hf5_3
         obtain ⟨g7, rfl, BK7, NB6_7, BK6, BK5, BKr, BKm, BK2, HB⟩ := hcut
         have hc7_0 : wc.cell? ⟨g7, 0, none⟩ = some (.bool true) := (blk_cell BK7.out 0).trans rfl
         have hc7_1 : wc.cell? ⟨g7, 1, none⟩ = some (.bool false) := (blk_cell BK7.out 1).trans rfl
         have hc7_2 : wc.cell? ⟨g7, 2, none⟩ = some (.bool false) := (blk_cell BK7.out 2).trans rfl
         have hf7_0 := blk_frozen BK7.out 0
         have hf7_1 := blk_frozen BK7.out 1
         have hf7_2 := blk_frozen BK7.out 2
         go_upto_block 2 with (fail)
         go_cut [] (fun wc => Aside0 (wc.heap[g6]? = some (.cells #[.int .i64 n, .int .i64 (x / 128 % 32), .int .i64 0, .int .i64 0, .int .i64 0] 29 (0, 0))) ∧ Aside0 (wc.heap[g5]? = some (.cells #[.int .u8 74, .int .u32 o, .int .u32 s3, .int .u32 s7] 48 (0, 0))) ∧ Aside0 (wc.heap[gr]? = some (.mapIter (some gm) cm_clk (seen.push e.born) cm_clk)) ∧ Aside0 (wc.heap[gm]? = some (.map cm_es cm_clk)) ∧ Aside0 (wc.heap[g2]? = some (.cells #[.int .i64 0, .int .i64 0, .int .i64 0, .int .i64 0, .int .i64 0] 29 (0, 0))) ∧ Aside0 (Below w.heap.size w wc))
         case first =>
          have hc6_0 : wc.cell? ⟨g6, 0, none⟩ = some (.int .i64 n) := (blk_cell BK6.out 0).trans rfl
          have hc6_1 : wc.cell? ⟨g6, 1, none⟩ = some (.int .i64 0) := (blk_cell BK6.out 1).trans rfl
          have hc6_2 : wc.cell? ⟨g6, 2, none⟩ = some (.int .i64 0) := (blk_cell BK6.out 2).trans rfl
          have hc6_3 : wc.cell? ⟨g6, 3, none⟩ = some (.int .i64 0) := (blk_cell BK6.out 3).trans rfl
          have hc6_4 : wc.cell? ⟨g6, 4, none⟩ = some (.int .i64 0) := (blk_cell BK6.out 4).trans rfl
          have hf6_0 := blk_frozen BK6.out 0
          have hf6_1 := blk_frozen BK6.out 1
          have hf6_2 := blk_frozen BK6.out 2
          have hf6_3 := blk_frozen BK6.out 3
          have hf6_4 := blk_frozen BK6.out 4
          have hnb6 := NB6_7.out
          have hnb7 := NB6_7.out.symm
          go_wp2
          have i0 := dec_i66_0
          have j0 := enc_i56_0
          have i1 := dec_i66_1
          have j1 := enc_i56_1
          have i2 := dec_i66_2
          have j2 := enc_i56_2
          refine wp_loop_rounds 4 ?_
          rw [rounds_succ]
          go_wp2
          rw [rounds_succ]
          go_wp2
          rw [rounds_succ]
          go_wp2
          rw [rounds_succ]
          go_wp2
          go_meet
          case rel => exact ⟨⟨blk_put (cs := #[.int .i64 n, .int .i64 0, .int .i64 0, .int .i64 0, .int .i64 0]) (BK6.out) 1 _ rfl⟩, ⟨by rw [Below.heap_setCell _ _ _ _ NB5_6.out]; exact BK5.out⟩, ⟨by rw [Below.heap_setCell _ _ _ _ NBr_6.out]; exact BKr.out⟩, ⟨by rw [Below.heap_setCell _ _ _ _ NBm_6.out]; exact BKm.out⟩, ⟨by rw [Below.heap_setCell _ _ _ _ NB2_6.out]; exact BK2.out⟩, ⟨(HB.out.setCell GE6.out _)⟩⟩
         case rest =>
          clear BK7 BK6 BK5 BKr BKm BK2 HB hc7_0 hc7_1 hc7_2 hf7_0 hf7_1 hf7_2
          obtain ⟨BK6, BK5, BKr, BKm, BK2, HB⟩ := hcut
          have hc5_0 : wc.cell? ⟨g5, 0, none⟩ = some (.int .u8 74) := (blk_cell BK5.out 0).trans rfl
          have hc5_1 : wc.cell? ⟨g5, 1, none⟩ = some (.int .u32 o) := (blk_cell BK5.out 1).trans rfl
          have hc5_2 : wc.cell? ⟨g5, 2, none⟩ = some (.int .u32 s3) := (blk_cell BK5.out 2).trans rfl
          have hc5_3 : wc.cell? ⟨g5, 3, none⟩ = some (.int .u32 s7) := (blk_cell BK5.out 3).trans rfl
          have hf5_0 := blk_frozen BK5.out 0
          have hf5_1 := blk_frozen BK5.out 1
          have hf5_2 := blk_frozen BK5.out 2
          have hf5_3 := blk_frozen BK5.out 3
          obtain ⟨p, hp⟩ : ∃ v, x / 4096 % 256 = v := ⟨_, rfl⟩
          have Hp := Aside0.mk hp
          have hp0 : 0 ≤ p := by omega
          have hp1 : p < 256 := by omega
          have em0 : bits BinOp.and IntKind.u32 (x / 4096) 255 = p := (u32_andm 8 255 (by decide) (by decide) _ (by omega) (by omega)).trans hp
          clear hp
          obtain ⟨q, hq⟩ : ∃ v, x / 1048576 % 2 = v := ⟨_, rfl⟩
          have Hq := Aside0.mk hq
          have hq0 : 0 ≤ q := by omega
          have hq1 : q < 2 := by omega
          have em1 : bits BinOp.and IntKind.u32 (x / 1048576) 1 = q := (u32_andm 1 1 (by decide) (by decide) _ (by omega) (by omega)).trans hq
          clear hq
          obtain ⟨s, hs⟩ : ∃ v, x / 2097152 % 1024 = v := ⟨_, rfl⟩
          have Hs := Aside0.mk hs
          have hs0 : 0 ≤ s := by omega
          have hs1 : s < 1024 := by omega
          have em2 : bits BinOp.and IntKind.u32 (x / 2097152) 1023 = s := (u32_andm 10 1023 (by decide) (by decide) _ (by omega) (by omega)).trans hs
          clear hs
          obtain ⟨t, ht⟩ : ∃ v, x / 2147483648 % 2 = v := ⟨_, rfl⟩
          have Ht := Aside0.mk ht
          have ht0 : 0 ≤ t := by omega
          have ht1 : t < 2 := by omega
          have em3 : bits BinOp.and IntKind.u32 (x / 2147483648) 1 = t := (u32_andm 1 1 (by decide) (by decide) _ (by omega) (by omega)).trans ht
          clear ht
          clear e7 e15 e20 eand
          go_upto_block 4 with (first | (go_at_call 17; refine (cf_pcall_74 _).mono ?_; rintro e w5 ⟨g9, hg9, rfl, hk9, hb⟩; have n0_ := Aside0.mk (blk_below BK5.out hb); have n1_ := Aside0.mk (blk_below BK6.out hb); have n2_ := Aside0.mk (blk_below BKr.out hb); have n3_ := Aside0.mk (blk_below BKm.out hb); have n4_ := Aside0.mk (blk_below BK2.out hb); have n5_ := Aside0.mk (below_step HB.out hb); have n6_ := Aside0.mk hk9; have n7_ := Aside0.mk ((by rw [hg9]; exact Nat.ne_of_lt (blk_lt BK6.out)) : g6 ≠ g9); clear BK5; clear BK6; clear BKr; clear BKm; clear BK2; clear HB; have BK5 := n0_; have BK6 := n1_; have BKr := n2_; have BKm := n3_; have BK2 := n4_; have HB := n5_; have BK9 := n6_; have NB6_9 := n7_; clear n0_ n1_ n2_ n3_ n4_ n5_ n6_ n7_; clear hb hk9 hg9))
          go_cut [] (fun wc => Aside0 (wc.heap[g6]? = some (.cells #[.int .i64 n, .int .i64 (x / 128 % 32), .int .i64 0, .int .i64 0, .int .i64 (p * 4096 + q * 2048 + s * 2 + t * 1048576)] 29 (0, 0))) ∧ Aside0 (wc.heap[g5]? = some (.cells #[.int .u8 74, .int .u32 o, .int .u32 s3, .int .u32 s7] 48 (0, 0))) ∧ Aside0 (wc.heap[gr]? = some (.mapIter (some gm) cm_clk (seen.push e.born) cm_clk)) ∧ Aside0 (wc.heap[gm]? = some (.map cm_es cm_clk)) ∧ Aside0 (wc.heap[g2]? = some (.cells #[.int .i64 0, .int .i64 0, .int .i64 0, .int .i64 0, .int .i64 0] 29 (0, 0))) ∧ Aside0 (Below w.heap.size w wc))
          case first =>
           clear hc5_0 hc5_1 hc5_2 hc5_3 hf5_0 hf5_1 hf5_2 hf5_3
           go_wp2
           go_loopg [61] 4 (fun gg v61 w' => ∃ k : Nat, k ≤ 4 ∧ 4 - k ≤ gg ∧ v61 = .int .i64 k ∧ Aside0 (w'.heap[g6]? = some (.cells #[.int .i64 n, .int .i64 (x / 128 % 32), .int .i64 0, .int .i64 0, .int .i64 (([0, p * 4096, p * 4096 + q * 2048, p * 4096 + q * 2048 + s * 2, p * 4096 + q * 2048 + s * 2 + t * 1048576] : List Int).getD k 0)] 29 (0, 0))) ∧ Aside0 (w'.heap[g9]? = some (.cells #[.int .u64 12, .int .u64 8, .int .u64 12, .int .u64 11, .int .u64 1, .int .u64 20, .int .u64 1, .int .u64 10, .int .u64 21, .int .u64 20, .int .u64 1, .int .u64 31] 60 (0, 0))) ∧ Aside0 (w'.heap[g5]? = some (.cells #[.int .u8 74, .int .u32 o, .int .u32 s3, .int .u32 s7] 48 (0, 0))) ∧ Aside0 (w'.heap[gr]? = some (.mapIter (some gm) cm_clk (seen.push e.born) cm_clk)) ∧ Aside0 (w'.heap[gm]? = some (.map cm_es cm_clk)) ∧ Aside0 (w'.heap[g2]? = some (.cells #[.int .i64 0, .int .i64 0, .int .i64 0, .int .i64 0, .int .i64 0] 29 (0, 0))) ∧ Aside0 (Below w.heap.size w w'))
           case atStart => exact ⟨0, by omega, by omega, rfl, BK6, BK9, BK5, BKr, BKm, BK2, HB⟩
           case round =>
            clear BK6 BK9 BK5 BKr BKm BK2 HB
            obtain ⟨k, hk, hg, rfl, BK6, BK9, BK5, BKr, BKm, BK2, HB⟩ := hrel
            have hk3 : k = 0 ∨ k = 1 ∨ k = 2 ∨ k = 3 ∨ k = 4 := by omega
            rcases hk3 with rfl | rfl | rfl | rfl | rfl
            ·have hc6_4 : wr.cell? ⟨g6, 4, none⟩ = some (.int .i64 (0)) := (blk_cell BK6.out 4).trans rfl
             have hf6_4 := blk_frozen BK6.out 4
             have hc6a : ∀ o, (wr.alloc o).cell? ⟨g6, 4, none⟩ = some (.int .i64 (0)) := fun o => (blk_cell (blk_al BK6.out o) 4).trans rfl
             have hf6a : ∀ o, (wr.alloc o).frozen? ⟨g6, 4, none⟩ = false := fun o => blk_frozen (blk_al BK6.out o) 4
             have hc9_0 : wr.cell? ⟨g9, 0, none⟩ = some (.int .u64 12) := (blk_cell BK9.out 0).trans rfl
             have hf9_0 := blk_frozen BK9.out 0
             have hc9_1 : wr.cell? ⟨g9, 1, none⟩ = some (.int .u64 8) := (blk_cell BK9.out 1).trans rfl
             have hf9_1 := blk_frozen BK9.out 1
             have hc9_2 : wr.cell? ⟨g9, 2, none⟩ = some (.int .u64 12) := (blk_cell BK9.out 2).trans rfl
             have hf9_2 := blk_frozen BK9.out 2
             have eor : bits BinOp.or IntKind.i64 (0) (p * 4096) = p * 4096 := (i64_or 12 8 0 p (p * 4096) (by omega) (by omega) (by omega) (by omega) (by omega) (by omega) (by omega)).trans (by omega)
             go_wp2
             go_roundg 3
             case measure => omega
             case rel => exact ⟨1, by omega, by omega, rfl, ⟨blk_put (cs := #[.int .i64 n, .int .i64 (x / 128 % 32), .int .i64 0, .int .i64 0, .int .i64 0]) (blk_al BK6.out _) 4 _ rfl⟩, ⟨(Below.heap_setCell _ _ _ _ NB6_9.out.symm).trans (blk_al BK9.out _)⟩, ⟨(Below.heap_setCell _ _ _ _ NB5_6.out).trans (blk_al BK5.out _)⟩, ⟨(Below.heap_setCell _ _ _ _ NBr_6.out).trans (blk_al BKr.out _)⟩, ⟨(Below.heap_setCell _ _ _ _ NBm_6.out).trans (blk_al BKm.out _)⟩, ⟨(Below.heap_setCell _ _ _ _ NB2_6.out).trans (blk_al BK2.out _)⟩, ⟨(HB.out.alloc HB.out.size _).setCell GE6.out _⟩⟩
            ·have hc6_4 : wr.cell? ⟨g6, 4, none⟩ = some (.int .i64 (p * 4096)) := (blk_cell BK6.out 4).trans rfl
             have hf6_4 := blk_frozen BK6.out 4
             have hc6a : ∀ o, (wr.alloc o).cell? ⟨g6, 4, none⟩ = some (.int .i64 (p * 4096)) := fun o => (blk_cell (blk_al BK6.out o) 4).trans rfl
             have hf6a : ∀ o, (wr.alloc o).frozen? ⟨g6, 4, none⟩ = false := fun o => blk_frozen (blk_al BK6.out o) 4
             have hc9_0 : wr.cell? ⟨g9, 3, none⟩ = some (.int .u64 11) := (blk_cell BK9.out 3).trans rfl
             have hf9_0 := blk_frozen BK9.out 3
             have hc9_1 : wr.cell? ⟨g9, 4, none⟩ = some (.int .u64 1) := (blk_cell BK9.out 4).trans rfl
             have hf9_1 := blk_frozen BK9.out 4
             have hc9_2 : wr.cell? ⟨g9, 5, none⟩ = some (.int .u64 20) := (blk_cell BK9.out 5).trans rfl
             have hf9_2 := blk_frozen BK9.out 5
             have eor : bits BinOp.or IntKind.i64 (p * 4096) (q * 2048) = p * 4096 + q * 2048 := i64_or 11 1 _ q _ (by omega) (by omega) (by omega) (by omega) (by omega) (by omega) (by omega)
             go_wp2
             go_roundg 2
             case measure => omega
             case rel => exact ⟨2, by omega, by omega, rfl, ⟨blk_put (cs := #[.int .i64 n, .int .i64 (x / 128 % 32), .int .i64 0, .int .i64 0, .int .i64 (p * 4096)]) (blk_al BK6.out _) 4 _ rfl⟩, ⟨(Below.heap_setCell _ _ _ _ NB6_9.out.symm).trans (blk_al BK9.out _)⟩, ⟨(Below.heap_setCell _ _ _ _ NB5_6.out).trans (blk_al BK5.out _)⟩, ⟨(Below.heap_setCell _ _ _ _ NBr_6.out).trans (blk_al BKr.out _)⟩, ⟨(Below.heap_setCell _ _ _ _ NBm_6.out).trans (blk_al BKm.out _)⟩, ⟨(Below.heap_setCell _ _ _ _ NB2_6.out).trans (blk_al BK2.out _)⟩, ⟨(HB.out.alloc HB.out.size _).setCell GE6.out _⟩⟩
            ·have hc6_4 : wr.cell? ⟨g6, 4, none⟩ = some (.int .i64 (p * 4096 + q * 2048)) := (blk_cell BK6.out 4).trans rfl
             have hf6_4 := blk_frozen BK6.out 4
             have hc6a : ∀ o, (wr.alloc o).cell? ⟨g6, 4, none⟩ = some (.int .i64 (p * 4096 + q * 2048)) := fun o => (blk_cell (blk_al BK6.out o) 4).trans rfl
             have hf6a : ∀ o, (wr.alloc o).frozen? ⟨g6, 4, none⟩ = false := fun o => blk_frozen (blk_al BK6.out o) 4
             have hc9_0 : wr.cell? ⟨g9, 6, none⟩ = some (.int .u64 1) := (blk_cell BK9.out 6).trans rfl
             have hf9_0 := blk_frozen BK9.out 6
             have hc9_1 : wr.cell? ⟨g9, 7, none⟩ = some (.int .u64 10) := (blk_cell BK9.out 7).trans rfl
             have hf9_1 := blk_frozen BK9.out 7
             have hc9_2 : wr.cell? ⟨g9, 8, none⟩ = some (.int .u64 21) := (blk_cell BK9.out 8).trans rfl
             have hf9_2 := blk_frozen BK9.out 8
             have eor : bits BinOp.or IntKind.i64 (p * 4096 + q * 2048) (s * 2) = p * 4096 + q * 2048 + s * 2 := i64_or 1 10 _ s _ (by omega) (by omega) (by omega) (by omega) (by omega) (by omega) (by omega)
             go_wp2
             go_roundg 1
             case measure => omega
             case rel => exact ⟨3, by omega, by omega, rfl, ⟨blk_put (cs := #[.int .i64 n, .int .i64 (x / 128 % 32), .int .i64 0, .int .i64 0, .int .i64 (p * 4096 + q * 2048)]) (blk_al BK6.out _) 4 _ rfl⟩, ⟨(Below.heap_setCell _ _ _ _ NB6_9.out.symm).trans (blk_al BK9.out _)⟩, ⟨(Below.heap_setCell _ _ _ _ NB5_6.out).trans (blk_al BK5.out _)⟩, ⟨(Below.heap_setCell _ _ _ _ NBr_6.out).trans (blk_al BKr.out _)⟩, ⟨(Below.heap_setCell _ _ _ _ NBm_6.out).trans (blk_al BKm.out _)⟩, ⟨(Below.heap_setCell _ _ _ _ NB2_6.out).trans (blk_al BK2.out _)⟩, ⟨(HB.out.alloc HB.out.size _).setCell GE6.out _⟩⟩
            ·have hc6_4 : wr.cell? ⟨g6, 4, none⟩ = some (.int .i64 (p * 4096 + q * 2048 + s * 2)) := (blk_cell BK6.out 4).trans rfl
             have hf6_4 := blk_frozen BK6.out 4
             have hc6a : ∀ o, (wr.alloc o).cell? ⟨g6, 4, none⟩ = some (.int .i64 (p * 4096 + q * 2048 + s * 2)) := fun o => (blk_cell (blk_al BK6.out o) 4).trans rfl
             have hf6a : ∀ o, (wr.alloc o).frozen? ⟨g6, 4, none⟩ = false := fun o => blk_frozen (blk_al BK6.out o) 4
             have hc9_0 : wr.cell? ⟨g9, 9, none⟩ = some (.int .u64 20) := (blk_cell BK9.out 9).trans rfl
             have hf9_0 := blk_frozen BK9.out 9
             have hc9_1 : wr.cell? ⟨g9, 10, none⟩ = some (.int .u64 1) := (blk_cell BK9.out 10).trans rfl
             have hf9_1 := blk_frozen BK9.out 10
             have hc9_2 : wr.cell? ⟨g9, 11, none⟩ = some (.int .u64 31) := (blk_cell BK9.out 11).trans rfl
             have hf9_2 := blk_frozen BK9.out 11
             have eor : bits BinOp.or IntKind.i64 (p * 4096 + q * 2048 + s * 2) (t * 1048576) = p * 4096 + q * 2048 + s * 2 + t * 1048576 := i64_or 20 1 _ t _ (by omega) (by omega) (by omega) (by omega) (by omega) (by omega) (by omega)
             go_wp2
             go_roundg 0
             case measure => omega
             case rel => exact ⟨4, by omega, by omega, rfl, ⟨blk_put (cs := #[.int .i64 n, .int .i64 (x / 128 % 32), .int .i64 0, .int .i64 0, .int .i64 (p * 4096 + q * 2048 + s * 2)]) (blk_al BK6.out _) 4 _ rfl⟩, ⟨(Below.heap_setCell _ _ _ _ NB6_9.out.symm).trans (blk_al BK9.out _)⟩, ⟨(Below.heap_setCell _ _ _ _ NB5_6.out).trans (blk_al BK5.out _)⟩, ⟨(Below.heap_setCell _ _ _ _ NBr_6.out).trans (blk_al BKr.out _)⟩, ⟨(Below.heap_setCell _ _ _ _ NBm_6.out).trans (blk_al BKm.out _)⟩, ⟨(Below.heap_setCell _ _ _ _ NB2_6.out).trans (blk_al BK2.out _)⟩, ⟨(HB.out.alloc HB.out.size _).setCell GE6.out _⟩⟩
            ·go_wp2
             go_meet
             case rel => exact ⟨BK6, BK5, BKr, BKm, BK2, HB⟩
          case rest =>
           clear BK9 NB6_9
           clear BK6 BK5 BKr BKm BK2 HB hc5_0 hc5_1 hc5_2 hc5_3 hf5_0 hf5_1 hf5_2 hf5_3
           obtain ⟨BK6, BK5, BKr, BKm, BK2, HB⟩ := hcut
           have hc5_0 : wc.cell? ⟨g5, 0, none⟩ = some (.int .u8 74) := (blk_cell BK5.out 0).trans rfl
           have hc5_1 : wc.cell? ⟨g5, 1, none⟩ = some (.int .u32 o) := (blk_cell BK5.out 1).trans rfl
           have hc5_2 : wc.cell? ⟨g5, 2, none⟩ = some (.int .u32 s3) := (blk_cell BK5.out 2).trans rfl
           have hc5_3 : wc.cell? ⟨g5, 3, none⟩ = some (.int .u32 s7) := (blk_cell BK5.out 3).trans rfl
           have hf5_0 := blk_frozen BK5.out 0
           have hf5_1 := blk_frozen BK5.out 1
           have hf5_2 := blk_frozen BK5.out 2
           have hf5_3 := blk_frozen BK5.out 3
           have hc6_0 : wc.cell? ⟨g6, 0, none⟩ = some (.int .i64 n) := (blk_cell BK6.out 0).trans rfl
           have hc6_1 : wc.cell? ⟨g6, 1, none⟩ = some (.int .i64 (x / 128 % 32)) := (blk_cell BK6.out 1).trans rfl
           have hc6_2 : wc.cell? ⟨g6, 2, none⟩ = some (.int .i64 0) := (blk_cell BK6.out 2).trans rfl
           have hc6_3 : wc.cell? ⟨g6, 3, none⟩ = some (.int .i64 0) := (blk_cell BK6.out 3).trans rfl
           have hc6_4 : wc.cell? ⟨g6, 4, none⟩ = some (.int .i64 (p * 4096 + q * 2048 + s * 2 + t * 1048576)) := (blk_cell BK6.out 4).trans rfl
           have hf6_0 := blk_frozen BK6.out 0
           have hf6_1 := blk_frozen BK6.out 1
           have hf6_2 := blk_frozen BK6.out 2
           have hf6_3 := blk_frozen BK6.out 3
           have hf6_4 := blk_frozen BK6.out 4
           clear hc5_1 hc5_2 hc5_3 hf5_1 hf5_2 hf5_3
           by_cases him : p * 4096 + q * 2048 + s * 2 + t * 1048576 > 1048574
           ·have hle : 1048574 < p * 4096 + q * 2048 + s * 2 + t * 1048576 := by omega
            go_upto_region 22 with (first | (go_at_call 15; refine (cf_room_calls' 74 (by simp [FormOk]) (-1048576) (1048574) rfl _).mono ?_; rintro e w' ⟨rfl, hw⟩; obtain rfl := hw.symm))
            obtain ⟨wd, hwd⟩ : ∃ wd, wc.setCell ⟨g6, 4, none⟩ (.int .i64 (p * 4096 + q * 2048 + s * 2 + t * 1048576 + -2097152)) = wd := ⟨_, rfl⟩
            have k6 : (wc.setCell ⟨g6, 4, none⟩ (.int .i64 (p * 4096 + q * 2048 + s * 2 + t * 1048576 + -2097152))).heap[g6]? = some (.cells #[.int .i64 n, .int .i64 (x / 128 % 32), .int .i64 0, .int .i64 0, .int .i64 (p * 4096 + q * 2048 + s * 2 + t * 1048576 + -2097152)] 29 (0, 0)) := blk_put (cs := #[.int .i64 n, .int .i64 (x / 128 % 32), .int .i64 0, .int .i64 0, .int .i64 (p * 4096 + q * 2048 + s * 2 + t * 1048576)]) BK6.out 4 _ rfl
            have k5 := (Below.heap_setCell wc ⟨g6, 4, none⟩ (.int .i64 (p * 4096 + q * 2048 + s * 2 + t * 1048576 + -2097152)) _ NB5_6.out).trans BK5.out
            have kr := (Below.heap_setCell wc ⟨g6, 4, none⟩ (.int .i64 (p * 4096 + q * 2048 + s * 2 + t * 1048576 + -2097152)) _ NBr_6.out).trans BKr.out
            have km := (Below.heap_setCell wc ⟨g6, 4, none⟩ (.int .i64 (p * 4096 + q * 2048 + s * 2 + t * 1048576 + -2097152)) _ NBm_6.out).trans BKm.out
            have k2 := (Below.heap_setCell wc ⟨g6, 4, none⟩ (.int .i64 (p * 4096 + q * 2048 + s * 2 + t * 1048576 + -2097152)) _ NB2_6.out).trans BK2.out
            have kb := HB.out.setCell (p := ⟨g6, 4, none⟩) GE6.out (.int .i64 (p * 4096 + q * 2048 + s * 2 + t * 1048576 + -2097152))
            rw [hwd] at k6 k5 kr km k2 kb
            rw [hwd]
            clear hwd BK6 BK5 BKr BKm BK2 HB
            have BK6 := Aside0.mk k6
            have BK5 := Aside0.mk k5
            have BKr := Aside0.mk kr
            have BKm := Aside0.mk km
            have BK2 := Aside0.mk k2
            have HB := Aside0.mk kb
            clear k6 k5 kr km k2 kb
            have hc6_0 : wd.cell? ⟨g6, 0, none⟩ = some (.int .i64 n) := (blk_cell BK6.out 0).trans rfl
            have hc6_1 : wd.cell? ⟨g6, 1, none⟩ = some (.int .i64 (x / 128 % 32)) := (blk_cell BK6.out 1).trans rfl
            have hc6_2 : wd.cell? ⟨g6, 2, none⟩ = some (.int .i64 0) := (blk_cell BK6.out 2).trans rfl
            have hc6_3 : wd.cell? ⟨g6, 3, none⟩ = some (.int .i64 0) := (blk_cell BK6.out 3).trans rfl
            have hc6_4 : wd.cell? ⟨g6, 4, none⟩ = some (.int .i64 (p * 4096 + q * 2048 + s * 2 + t * 1048576 + -2097152)) := (blk_cell BK6.out 4).trans rfl
            have hf6_0 := blk_frozen BK6.out 0
            have hf6_1 := blk_frozen BK6.out 1
            have hf6_2 := blk_frozen BK6.out 2
            have hf6_3 := blk_frozen BK6.out 3
            have hf6_4 := blk_frozen BK6.out 4
            have HD := Aside0.mk (dec_74_out x hx0 hx1 Hp.out Hq.out Hs.out Ht.out hle : Dec 74 x = (x / 128 % 32, 0, 0, p * 4096 + q * 2048 + s * 2 + t * 1048576 + -2097152))
            obtain ⟨⟨r0, r1⟩, hen⟩ : ∃ r, code_Encode.f n (x / 128 % 32) (0) (0) (p * 4096 + q * 2048 + s * 2 + t * 1048576 + -2097152) = some r := ⟨_, rfl⟩
            have HEN := Aside0.mk hen
            clear hen
            have HHIT := Aside0.mk (dec_hit ⟨n, 74, o, s3, s7⟩ x HD.out HEN.out)
            by_cases hr1 : r1 = 0
            ·by_cases hr0 : r0 = x
             ·have HH := Aside0.mk (HHIT.out.2 ⟨hr0, hr1⟩)
              go_wp2_with (first | (go_at_call 15; refine (cf_room_calls' 74 (by simp [FormOk]) (-1048576) (1048574) rfl _).mono ?_; rintro e w' ⟨rfl, hw⟩; obtain rfl := hw.symm) | (go_at_call 9; (with_reducible refine (code_Encode.calls n (x / 128 % 32) (0) (0) (p * 4096 + q * 2048 + s * 2 + t * 1048576 + -2097152) r0 r1 _ HEN.out).mono ?_); rintro e w6 ⟨rfl, hb⟩; have n0_ := Aside0.mk (blk_below BK6.out hb); have n1_ := Aside0.mk (blk_below BKr.out hb); have n2_ := Aside0.mk (blk_below BKm.out hb); have n3_ := Aside0.mk (blk_below BK2.out hb); have n4_ := Aside0.mk (below_step HB.out hb); clear BK6; clear BKr; clear BKm; clear BK2; clear HB; have BK6 := n0_; have BKr := n1_; have BKm := n2_; have BK2 := n3_; have HB := n4_; clear n0_ n1_ n2_ n3_ n4_; clear hb; have hc6_0 : w6.cell? ⟨g6, 0, none⟩ = some (.int .i64 n) := (blk_cell BK6.out 0).trans rfl; have hc6_1 : w6.cell? ⟨g6, 1, none⟩ = some (.int .i64 (x / 128 % 32)) := (blk_cell BK6.out 1).trans rfl; have hc6_2 : w6.cell? ⟨g6, 2, none⟩ = some (.int .i64 0) := (blk_cell BK6.out 2).trans rfl; have hc6_3 : w6.cell? ⟨g6, 3, none⟩ = some (.int .i64 0) := (blk_cell BK6.out 3).trans rfl; have hc6_4 : w6.cell? ⟨g6, 4, none⟩ = some (.int .i64 (p * 4096 + q * 2048 + s * 2 + t * 1048576 + -2097152)) := (blk_cell BK6.out 4).trans rfl; have hf6_0 := blk_frozen BK6.out 0; have hf6_1 := blk_frozen BK6.out 1; have hf6_2 := blk_frozen BK6.out 2; have hf6_3 := blk_frozen BK6.out 3; have hf6_4 := blk_frozen BK6.out 4; have hc2_0 : w6.cell? ⟨g2, 0, none⟩ = some (.int .i64 0) := (blk_cell BK2.out 0).trans rfl; have hc2_1 : w6.cell? ⟨g2, 1, none⟩ = some (.int .i64 0) := (blk_cell BK2.out 1).trans rfl; have hc2_2 : w6.cell? ⟨g2, 2, none⟩ = some (.int .i64 0) := (blk_cell BK2.out 2).trans rfl; have hc2_3 : w6.cell? ⟨g2, 3, none⟩ = some (.int .i64 0) := (blk_cell BK2.out 3).trans rfl; have hc2_4 : w6.cell? ⟨g2, 4, none⟩ = some (.int .i64 0) := (blk_cell BK2.out 4).trans rfl; have hf2_0 := blk_frozen BK2.out 0; have hf2_1 := blk_frozen BK2.out 1; have hf2_2 := blk_frozen BK2.out 2; have hf2_3 := blk_frozen BK2.out 3; have hf2_4 := blk_frozen BK2.out 4))
              refine bodyPost_ret (dec_res _ _ g2 _ (0, 0) rfl (dec_put5 BK2.out _ _ _ _ _) rfl) rfl ?_
              exact ⟨.inl ⟨⟨n, 74, o, s3, s7⟩, HROW.out, HH.out, by simp only [HD.out]; rfl⟩, ((((HB.out.setCell GE2.out _).setCell GE2.out _).setCell GE2.out _).setCell GE2.out _).setCell GE2.out _⟩
             ·have HNH := Aside0.mk (fun h => by have hh := HHIT.out.1 h; exact hr0 hh.1 : ¬ Hit ⟨n, 74, o, s3, s7⟩ x)
              go_wp2_with (first | (go_at_call 15; refine (cf_room_calls' 74 (by simp [FormOk]) (-1048576) (1048574) rfl _).mono ?_; rintro e w' ⟨rfl, hw⟩; obtain rfl := hw.symm) | (go_at_call 9; (with_reducible refine (code_Encode.calls n (x / 128 % 32) (0) (0) (p * 4096 + q * 2048 + s * 2 + t * 1048576 + -2097152) r0 r1 _ HEN.out).mono ?_); rintro e w6 ⟨rfl, hb⟩; have n0_ := Aside0.mk (blk_below BK6.out hb); have n1_ := Aside0.mk (blk_below BKr.out hb); have n2_ := Aside0.mk (blk_below BKm.out hb); have n3_ := Aside0.mk (blk_below BK2.out hb); have n4_ := Aside0.mk (below_step HB.out hb); clear BK6; clear BKr; clear BKm; clear BK2; clear HB; have BK6 := n0_; have BKr := n1_; have BKm := n2_; have BK2 := n3_; have HB := n4_; clear n0_ n1_ n2_ n3_ n4_; clear hb; have hc6_0 : w6.cell? ⟨g6, 0, none⟩ = some (.int .i64 n) := (blk_cell BK6.out 0).trans rfl; have hc6_1 : w6.cell? ⟨g6, 1, none⟩ = some (.int .i64 (x / 128 % 32)) := (blk_cell BK6.out 1).trans rfl; have hc6_2 : w6.cell? ⟨g6, 2, none⟩ = some (.int .i64 0) := (blk_cell BK6.out 2).trans rfl; have hc6_3 : w6.cell? ⟨g6, 3, none⟩ = some (.int .i64 0) := (blk_cell BK6.out 3).trans rfl; have hc6_4 : w6.cell? ⟨g6, 4, none⟩ = some (.int .i64 (p * 4096 + q * 2048 + s * 2 + t * 1048576 + -2097152)) := (blk_cell BK6.out 4).trans rfl; have hf6_0 := blk_frozen BK6.out 0; have hf6_1 := blk_frozen BK6.out 1; have hf6_2 := blk_frozen BK6.out 2; have hf6_3 := blk_frozen BK6.out 3; have hf6_4 := blk_frozen BK6.out 4; have hc2_0 : w6.cell? ⟨g2, 0, none⟩ = some (.int .i64 0) := (blk_cell BK2.out 0).trans rfl; have hc2_1 : w6.cell? ⟨g2, 1, none⟩ = some (.int .i64 0) := (blk_cell BK2.out 1).trans rfl; have hc2_2 : w6.cell? ⟨g2, 2, none⟩ = some (.int .i64 0) := (blk_cell BK2.out 2).trans rfl; have hc2_3 : w6.cell? ⟨g2, 3, none⟩ = some (.int .i64 0) := (blk_cell BK2.out 3).trans rfl; have hc2_4 : w6.cell? ⟨g2, 4, none⟩ = some (.int .i64 0) := (blk_cell BK2.out 4).trans rfl; have hf2_0 := blk_frozen BK2.out 0; have hf2_1 := blk_frozen BK2.out 1; have hf2_2 := blk_frozen BK2.out 2; have hf2_3 := blk_frozen BK2.out 3; have hf2_4 := blk_frozen BK2.out 4))
              go_roundg (leftOf cm_es (seen.push e.born)).size
              case measure => exact Nat.lt_of_lt_of_le HSH.out hg
              case rel => exact ⟨seen.push e.born, cm_clk, Nat.le_refl _, ⟨Nat.le_refl _⟩, BKr, BKm, BK2, HB, ⟨dec_no HNO.out HE.out (by rw [HENT.out]; exact HNH.out)⟩⟩
            ·have HNH := Aside0.mk (fun h => by have hh := HHIT.out.1 h; exact hr1 hh.2 : ¬ Hit ⟨n, 74, o, s3, s7⟩ x)
             go_wp2_with (first | (go_at_call 15; refine (cf_room_calls' 74 (by simp [FormOk]) (-1048576) (1048574) rfl _).mono ?_; rintro e w' ⟨rfl, hw⟩; obtain rfl := hw.symm) | (go_at_call 9; (with_reducible refine (code_Encode.calls n (x / 128 % 32) (0) (0) (p * 4096 + q * 2048 + s * 2 + t * 1048576 + -2097152) r0 r1 _ HEN.out).mono ?_); rintro e w6 ⟨rfl, hb⟩; have n0_ := Aside0.mk (blk_below BK6.out hb); have n1_ := Aside0.mk (blk_below BKr.out hb); have n2_ := Aside0.mk (blk_below BKm.out hb); have n3_ := Aside0.mk (blk_below BK2.out hb); have n4_ := Aside0.mk (below_step HB.out hb); clear BK6; clear BKr; clear BKm; clear BK2; clear HB; have BK6 := n0_; have BKr := n1_; have BKm := n2_; have BK2 := n3_; have HB := n4_; clear n0_ n1_ n2_ n3_ n4_; clear hb; have hc6_0 : w6.cell? ⟨g6, 0, none⟩ = some (.int .i64 n) := (blk_cell BK6.out 0).trans rfl; have hc6_1 : w6.cell? ⟨g6, 1, none⟩ = some (.int .i64 (x / 128 % 32)) := (blk_cell BK6.out 1).trans rfl; have hc6_2 : w6.cell? ⟨g6, 2, none⟩ = some (.int .i64 0) := (blk_cell BK6.out 2).trans rfl; have hc6_3 : w6.cell? ⟨g6, 3, none⟩ = some (.int .i64 0) := (blk_cell BK6.out 3).trans rfl; have hc6_4 : w6.cell? ⟨g6, 4, none⟩ = some (.int .i64 (p * 4096 + q * 2048 + s * 2 + t * 1048576 + -2097152)) := (blk_cell BK6.out 4).trans rfl; have hf6_0 := blk_frozen BK6.out 0; have hf6_1 := blk_frozen BK6.out 1; have hf6_2 := blk_frozen BK6.out 2; have hf6_3 := blk_frozen BK6.out 3; have hf6_4 := blk_frozen BK6.out 4; have hc2_0 : w6.cell? ⟨g2, 0, none⟩ = some (.int .i64 0) := (blk_cell BK2.out 0).trans rfl; have hc2_1 : w6.cell? ⟨g2, 1, none⟩ = some (.int .i64 0) := (blk_cell BK2.out 1).trans rfl; have hc2_2 : w6.cell? ⟨g2, 2, none⟩ = some (.int .i64 0) := (blk_cell BK2.out 2).trans rfl; have hc2_3 : w6.cell? ⟨g2, 3, none⟩ = some (.int .i64 0) := (blk_cell BK2.out 3).trans rfl; have hc2_4 : w6.cell? ⟨g2, 4, none⟩ = some (.int .i64 0) := (blk_cell BK2.out 4).trans rfl; have hf2_0 := blk_frozen BK2.out 0; have hf2_1 := blk_frozen BK2.out 1; have hf2_2 := blk_frozen BK2.out 2; have hf2_3 := blk_frozen BK2.out 3; have hf2_4 := blk_frozen BK2.out 4))
             go_roundg (leftOf cm_es (seen.push e.born)).size
             case measure => exact Nat.lt_of_lt_of_le HSH.out hg
             case rel => exact ⟨seen.push e.born, cm_clk, Nat.le_refl _, ⟨Nat.le_refl _⟩, BKr, BKm, BK2, HB, ⟨dec_no HNO.out HE.out (by rw [HENT.out]; exact HNH.out)⟩⟩
           ·have hle : p * 4096 + q * 2048 + s * 2 + t * 1048576 ≤ 1048574 := by omega
            have hnl : ¬ 1048574 < p * 4096 + q * 2048 + s * 2 + t * 1048576 := by omega
            have HD := Aside0.mk (dec_74_in x hx0 hx1 Hp.out Hq.out Hs.out Ht.out hle : Dec 74 x = (x / 128 % 32, 0, 0, p * 4096 + q * 2048 + s * 2 + t * 1048576))
            obtain ⟨⟨r0, r1⟩, hen⟩ : ∃ r, code_Encode.f n (x / 128 % 32) (0) (0) (p * 4096 + q * 2048 + s * 2 + t * 1048576) = some r := ⟨_, rfl⟩
            have HEN := Aside0.mk hen
            clear hen
            have HHIT := Aside0.mk (dec_hit ⟨n, 74, o, s3, s7⟩ x HD.out HEN.out)
            by_cases hr1 : r1 = 0
            ·by_cases hr0 : r0 = x
             ·have HH := Aside0.mk (HHIT.out.2 ⟨hr0, hr1⟩)
              go_wp2_with (first | (go_at_call 15; refine (cf_room_calls' 74 (by simp [FormOk]) (-1048576) (1048574) rfl _).mono ?_; rintro e w' ⟨rfl, hw⟩; obtain rfl := hw.symm) | (go_at_call 9; (with_reducible refine (code_Encode.calls n (x / 128 % 32) (0) (0) (p * 4096 + q * 2048 + s * 2 + t * 1048576) r0 r1 _ HEN.out).mono ?_); rintro e w6 ⟨rfl, hb⟩; have n0_ := Aside0.mk (blk_below BK6.out hb); have n1_ := Aside0.mk (blk_below BKr.out hb); have n2_ := Aside0.mk (blk_below BKm.out hb); have n3_ := Aside0.mk (blk_below BK2.out hb); have n4_ := Aside0.mk (below_step HB.out hb); clear BK6; clear BKr; clear BKm; clear BK2; clear HB; have BK6 := n0_; have BKr := n1_; have BKm := n2_; have BK2 := n3_; have HB := n4_; clear n0_ n1_ n2_ n3_ n4_; clear hb; have hc6_0 : w6.cell? ⟨g6, 0, none⟩ = some (.int .i64 n) := (blk_cell BK6.out 0).trans rfl; have hc6_1 : w6.cell? ⟨g6, 1, none⟩ = some (.int .i64 (x / 128 % 32)) := (blk_cell BK6.out 1).trans rfl; have hc6_2 : w6.cell? ⟨g6, 2, none⟩ = some (.int .i64 0) := (blk_cell BK6.out 2).trans rfl; have hc6_3 : w6.cell? ⟨g6, 3, none⟩ = some (.int .i64 0) := (blk_cell BK6.out 3).trans rfl; have hc6_4 : w6.cell? ⟨g6, 4, none⟩ = some (.int .i64 (p * 4096 + q * 2048 + s * 2 + t * 1048576)) := (blk_cell BK6.out 4).trans rfl; have hf6_0 := blk_frozen BK6.out 0; have hf6_1 := blk_frozen BK6.out 1; have hf6_2 := blk_frozen BK6.out 2; have hf6_3 := blk_frozen BK6.out 3; have hf6_4 := blk_frozen BK6.out 4; have hc2_0 : w6.cell? ⟨g2, 0, none⟩ = some (.int .i64 0) := (blk_cell BK2.out 0).trans rfl; have hc2_1 : w6.cell? ⟨g2, 1, none⟩ = some (.int .i64 0) := (blk_cell BK2.out 1).trans rfl; have hc2_2 : w6.cell? ⟨g2, 2, none⟩ = some (.int .i64 0) := (blk_cell BK2.out 2).trans rfl; have hc2_3 : w6.cell? ⟨g2, 3, none⟩ = some (.int .i64 0) := (blk_cell BK2.out 3).trans rfl; have hc2_4 : w6.cell? ⟨g2, 4, none⟩ = some (.int .i64 0) := (blk_cell BK2.out 4).trans rfl; have hf2_0 := blk_frozen BK2.out 0; have hf2_1 := blk_frozen BK2.out 1; have hf2_2 := blk_frozen BK2.out 2; have hf2_3 := blk_frozen BK2.out 3; have hf2_4 := blk_frozen BK2.out 4))
              refine bodyPost_ret (dec_res _ _ g2 _ (0, 0) rfl (dec_put5 BK2.out _ _ _ _ _) rfl) rfl ?_
              exact ⟨.inl ⟨⟨n, 74, o, s3, s7⟩, HROW.out, HH.out, by simp only [HD.out]; rfl⟩, ((((HB.out.setCell GE2.out _).setCell GE2.out _).setCell GE2.out _).setCell GE2.out _).setCell GE2.out _⟩
             ·have HNH := Aside0.mk (fun h => by have hh := HHIT.out.1 h; exact hr0 hh.1 : ¬ Hit ⟨n, 74, o, s3, s7⟩ x)
              go_wp2_with (first | (go_at_call 15; refine (cf_room_calls' 74 (by simp [FormOk]) (-1048576) (1048574) rfl _).mono ?_; rintro e w' ⟨rfl, hw⟩; obtain rfl := hw.symm) | (go_at_call 9; (with_reducible refine (code_Encode.calls n (x / 128 % 32) (0) (0) (p * 4096 + q * 2048 + s * 2 + t * 1048576) r0 r1 _ HEN.out).mono ?_); rintro e w6 ⟨rfl, hb⟩; have n0_ := Aside0.mk (blk_below BK6.out hb); have n1_ := Aside0.mk (blk_below BKr.out hb); have n2_ := Aside0.mk (blk_below BKm.out hb); have n3_ := Aside0.mk (blk_below BK2.out hb); have n4_ := Aside0.mk (below_step HB.out hb); clear BK6; clear BKr; clear BKm; clear BK2; clear HB; have BK6 := n0_; have BKr := n1_; have BKm := n2_; have BK2 := n3_; have HB := n4_; clear n0_ n1_ n2_ n3_ n4_; clear hb; have hc6_0 : w6.cell? ⟨g6, 0, none⟩ = some (.int .i64 n) := (blk_cell BK6.out 0).trans rfl; have hc6_1 : w6.cell? ⟨g6, 1, none⟩ = some (.int .i64 (x / 128 % 32)) := (blk_cell BK6.out 1).trans rfl; have hc6_2 : w6.cell? ⟨g6, 2, none⟩ = some (.int .i64 0) := (blk_cell BK6.out 2).trans rfl; have hc6_3 : w6.cell? ⟨g6, 3, none⟩ = some (.int .i64 0) := (blk_cell BK6.out 3).trans rfl; have hc6_4 : w6.cell? ⟨g6, 4, none⟩ = some (.int .i64 (p * 4096 + q * 2048 + s * 2 + t * 1048576)) := (blk_cell BK6.out 4).trans rfl; have hf6_0 := blk_frozen BK6.out 0; have hf6_1 := blk_frozen BK6.out 1; have hf6_2 := blk_frozen BK6.out 2; have hf6_3 := blk_frozen BK6.out 3; have hf6_4 := blk_frozen BK6.out 4; have hc2_0 : w6.cell? ⟨g2, 0, none⟩ = some (.int .i64 0) := (blk_cell BK2.out 0).trans rfl; have hc2_1 : w6.cell? ⟨g2, 1, none⟩ = some (.int .i64 0) := (blk_cell BK2.out 1).trans rfl; have hc2_2 : w6.cell? ⟨g2, 2, none⟩ = some (.int .i64 0) := (blk_cell BK2.out 2).trans rfl; have hc2_3 : w6.cell? ⟨g2, 3, none⟩ = some (.int .i64 0) := (blk_cell BK2.out 3).trans rfl; have hc2_4 : w6.cell? ⟨g2, 4, none⟩ = some (.int .i64 0) := (blk_cell BK2.out 4).trans rfl; have hf2_0 := blk_frozen BK2.out 0; have hf2_1 := blk_frozen BK2.out 1; have hf2_2 := blk_frozen BK2.out 2; have hf2_3 := blk_frozen BK2.out 3; have hf2_4 := blk_frozen BK2.out 4))
              go_roundg (leftOf cm_es (seen.push e.born)).size
              case measure => exact Nat.lt_of_lt_of_le HSH.out hg
              case rel => exact ⟨seen.push e.born, cm_clk, Nat.le_refl _, ⟨Nat.le_refl _⟩, BKr, BKm, BK2, HB, ⟨dec_no HNO.out HE.out (by rw [HENT.out]; exact HNH.out)⟩⟩
            ·have HNH := Aside0.mk (fun h => by have hh := HHIT.out.1 h; exact hr1 hh.2 : ¬ Hit ⟨n, 74, o, s3, s7⟩ x)
             go_wp2_with (first | (go_at_call 15; refine (cf_room_calls' 74 (by simp [FormOk]) (-1048576) (1048574) rfl _).mono ?_; rintro e w' ⟨rfl, hw⟩; obtain rfl := hw.symm) | (go_at_call 9; (with_reducible refine (code_Encode.calls n (x / 128 % 32) (0) (0) (p * 4096 + q * 2048 + s * 2 + t * 1048576) r0 r1 _ HEN.out).mono ?_); rintro e w6 ⟨rfl, hb⟩; have n0_ := Aside0.mk (blk_below BK6.out hb); have n1_ := Aside0.mk (blk_below BKr.out hb); have n2_ := Aside0.mk (blk_below BKm.out hb); have n3_ := Aside0.mk (blk_below BK2.out hb); have n4_ := Aside0.mk (below_step HB.out hb); clear BK6; clear BKr; clear BKm; clear BK2; clear HB; have BK6 := n0_; have BKr := n1_; have BKm := n2_; have BK2 := n3_; have HB := n4_; clear n0_ n1_ n2_ n3_ n4_; clear hb; have hc6_0 : w6.cell? ⟨g6, 0, none⟩ = some (.int .i64 n) := (blk_cell BK6.out 0).trans rfl; have hc6_1 : w6.cell? ⟨g6, 1, none⟩ = some (.int .i64 (x / 128 % 32)) := (blk_cell BK6.out 1).trans rfl; have hc6_2 : w6.cell? ⟨g6, 2, none⟩ = some (.int .i64 0) := (blk_cell BK6.out 2).trans rfl; have hc6_3 : w6.cell? ⟨g6, 3, none⟩ = some (.int .i64 0) := (blk_cell BK6.out 3).trans rfl; have hc6_4 : w6.cell? ⟨g6, 4, none⟩ = some (.int .i64 (p * 4096 + q * 2048 + s * 2 + t * 1048576)) := (blk_cell BK6.out 4).trans rfl; have hf6_0 := blk_frozen BK6.out 0; have hf6_1 := blk_frozen BK6.out 1; have hf6_2 := blk_frozen BK6.out 2; have hf6_3 := blk_frozen BK6.out 3; have hf6_4 := blk_frozen BK6.out 4; have hc2_0 : w6.cell? ⟨g2, 0, none⟩ = some (.int .i64 0) := (blk_cell BK2.out 0).trans rfl; have hc2_1 : w6.cell? ⟨g2, 1, none⟩ = some (.int .i64 0) := (blk_cell BK2.out 1).trans rfl; have hc2_2 : w6.cell? ⟨g2, 2, none⟩ = some (.int .i64 0) := (blk_cell BK2.out 2).trans rfl; have hc2_3 : w6.cell? ⟨g2, 3, none⟩ = some (.int .i64 0) := (blk_cell BK2.out 3).trans rfl; have hc2_4 : w6.cell? ⟨g2, 4, none⟩ = some (.int .i64 0) := (blk_cell BK2.out 4).trans rfl; have hf2_0 := blk_frozen BK2.out 0; have hf2_1 := blk_frozen BK2.out 1; have hf2_2 := blk_frozen BK2.out 2; have hf2_3 := blk_frozen BK2.out 3; have hf2_4 := blk_frozen BK2.out 4))
             go_roundg (leftOf cm_es (seen.push e.born)).size
             case measure => exact Nat.lt_of_lt_of_le HSH.out hg
             case rel => exact ⟨seen.push e.born, cm_clk, Nat.le_refl _, ⟨Nat.le_refl _⟩, BKr, BKm, BK2, HB, ⟨dec_no HNO.out HE.out (by rw [HENT.out]; exact HNH.out)⟩⟩
    ·have HNH := Aside0.mk (fun hh => hox (hit_op _ HROW.out x hh) : ¬ Hit ⟨n, f, o, s3, s7⟩ x)
     go_wp2
     go_roundg (leftOf cm_es (seen.push e.born)).size
     case measure => exact Nat.lt_of_lt_of_le HSH.out hg
     case rel => exact ⟨seen.push e.born, cm_clk, Nat.le_refl _, ⟨Nat.le_refl _⟩, BKr, BKm, BK2, HB, ⟨dec_no HNO.out HE.out (by rw [HENT.out]; exact HNH.out)⟩⟩
def dec_fi (x : Int) : Option Ent := cm_e13.find? (fun r => decide (enc_r r.n (Dec r.form x).1 (Dec r.form x).2.1 (Dec r.form x).2.2.1 (Dec r.form x).2.2.2 = (x, 0)))
def dec_r (x : Int) : Int × Int × Int × Int × Int × Int := match dec_fi x with
 | some r => (r.n, (Dec r.form x).1, (Dec r.form x).2.1, (Dec r.form x).2.2.1, (Dec r.form x).2.2.2, 0)
 | none => (0, 0, 0, 0, 0, 2)
theorem dec_fi_some {x : Int} {r : Ent} (h : dec_fi x = some r) : r ∈ cm_e13 ∧ Hit r x := by
 refine ⟨List.mem_of_find?_eq_some h, ?_⟩
 have := List.find?_some h
 simp only [decide_eq_true_eq] at this
 exact this
theorem dec_fi_none {x : Int} (h : dec_fi x = none) : ∀ r ∈ cm_e13, ¬ Hit r x := by
 intro r hr hh
 have := List.find?_eq_none.1 h r hr
 simp only [decide_eq_true_eq] at this
 exact this hh
theorem hit_one {x : Int} {r s : Ent} (hr : r ∈ cm_e13) (hs : s ∈ cm_e13) (h1 : Hit r x) (h2 : Hit s x) : r = s := by
 have h := (enc_apart h1 h2).1
 rw [← (rows_ent r hr).2, ← (rows_ent s hs).2, h]
def code_Decode.f (x : Int) : Option (Int × Int × Int × Int × Int × Int) := if 0 ≤ x ∧ x < 4294967296 then some (dec_r x) else none
theorem code_Decode.calls (x r0 r1 r2 r3 r4 r5 : Int) (w : World) (h : code_Decode.f x = some (r0, r1, r2, r3, r4, r5)) :
  Calls Try.prog 11 #[.int .u32 x] w fun e w' => e = .returned (.tuple #[.agg #[.int .i64 r0, .int .i64 r1, .int .i64 r2, .int .i64 r3, .int .i64 r4], .int .i64 r5]) ∧ Below w.heap.size w w' := by
 unfold code_Decode.f at h
 split at h
 ·rename_i hx
  have h' : dec_r x = (r0, r1, r2, r3, r4, r5) := Option.some.inj h
  refine (dec_calls x hx.1 hx.2 w).mono ?_
  rintro e w' ⟨h1, h2⟩
  refine ⟨?_, h2⟩
  unfold dec_r at h'
  rcases h1 with ⟨r, hr, hh, rfl⟩ | ⟨hn, rfl⟩
  ·cases hf : dec_fi x with
   | none => exact absurd hh (dec_fi_none hf r hr)
   | some s =>
    obtain ⟨hs, h3⟩ := dec_fi_some hf
    obtain rfl := hit_one hr hs hh h3
    rw [hf] at h'
    simp only [Prod.mk.injEq] at h'
    obtain ⟨rfl, rfl, rfl, rfl, rfl, rfl⟩ := h'
    rfl
  ·cases hf : dec_fi x with
   | none =>
    rw [hf] at h'
    simp only [Prod.mk.injEq] at h'
    obtain ⟨rfl, rfl, rfl, rfl, rfl, rfl⟩ := h'
    rfl
   | some s => exact absurd (dec_fi_some hf).2 (hn s (dec_fi_some hf).1)
 ·cases h

end Go.Proofs.Ytkacoffiinggiaa.K
