/- What Go functions of this seat answer: each has a Lean function ('.f') and a contract ('.calls'). Conditions: those of each theorem. Written by a program over the kit's printer; what is marked 'typed by hand' is this session's. -/
import Derived.Test.YtkacoffiinggiaaK0
namespace Go.Proofs.Ytkacoffiinggiaa.K
open Go.RowKit Go.Proofs.YtkacoffiinggiaaW.PrintWords Go.Proofs.YtkacoffiinggiaaW.PrintLast Go.Proofs.YtkacoffiinggiaaW.PrintMore
attribute [local go_sem] max2_int min2_int max_two min_two max_three min_three max_four min_four   -- for this text's walks alone
set_option linter.unusedVariables false
set_option linter.unusedSimpArgs false

/-! ### code_pieces: function 17 (typed by hand) -/
/-- An instruction's row: its number, form, op, f3, f7. -/
structure Ent where
 n : Int
 form : Int
 op : Int
 f3 : Int
 f7 : Int
def cm_key (n : Int) : Value := .int .i64 n
def cm_val (e : Ent) : Value := .agg #[.int .u8 e.form, .int .u32 e.op, .int .u32 e.f3, .int .u32 e.f7]
def cm_ents : List Ent → Nat → List MapEntry
 | [], _ => []
 | e :: r, k => ⟨cm_key e.n, cm_val e, k⟩ :: cm_ents r (k + 1)
def cm_st (l : List Ent) : Obj := .map (cm_ents l 0).toArray l.length
def cm_at (k : Int) : List Ent → Nat → Option (Nat × Value)
 | [], _ => none
 | e :: r, i => if k = e.n then some (i, cm_val e) else cm_at k r (i + 1)
theorem cm_now (k : Int) : ∀ (l : List Ent) (s i : Nat), Instr.findNow (.int .i64) (cm_key k) (cm_ents l s) i = some (cm_at k l i)
 | [], _, _ => rfl
 | e :: r, s, i => by
  have h : Instr.sameNow (.int .i64) (cm_key k) (cm_key e.n) = some (k == e.n) := by simp [Instr.sameNow, cm_key]
  simp only [cm_ents, Instr.findNow, h, cm_at]
  by_cases hk : k = e.n
  ·simp [hk]
  ·rw [cm_now k r (s + 1) (i + 1), if_neg hk, beq_eq_false_iff_ne.mpr hk]
theorem cm_find (w : World) (k : Int) (l : List Ent) : (Instr.findKey 3 (cm_key k) (cm_ents l 0)).run Try.prog w = .ok (cm_at k l 0) w := by
 simp [Instr.findKey, run_underlying Try.underlying3, cm_now]
theorem cm_check (w : World) (em : Bool) (a : Int) : (Instr.checkKey em 10000 3 (cm_key a)).run Try.prog w = .ok () w := by kernel_rfl
theorem cm_at_none (k : Int) : ∀ (l : List Ent) (i : Nat), (∀ e ∈ l, e.n ≠ k) → cm_at k l i = none
 | [], _, _ => rfl
 | e :: r, i, h => by
  rw [cm_at, if_neg (fun h' => h e (by simp) h'.symm)]
  exact cm_at_none k r (i + 1) (fun e he => h e (by simp [he]))
theorem cm_ents_snoc (e : Ent) : ∀ (l : List Ent) (k : Nat), cm_ents (l ++ [e]) k = cm_ents l k ++ [⟨cm_key e.n, cm_val e, k + l.length⟩]
 | [], k => by simp [cm_ents]
 | a :: r, k => by
  simp only [List.cons_append, cm_ents, cm_ents_snoc e r (k + 1), List.length_cons]
  rw [show k + 1 + r.length = k + (r.length + 1) by omega]
/-- A row that is not there yet. -/
theorem cm_ins (w : World) (r : Nat) (l : List Ent) (e : Ent) (h : w.heap[r]? = some (cm_st l)) (hn : ∀ x ∈ l, x.n ≠ e.n) :
  (Instr.mapUpdate 50 (.map (some r)) (cm_key e.n) (cm_val e)).run Try.prog w = .ok () (ChangeMaps.setBlock w r (cm_st (l ++ [e]))) := by
 have hf := cm_find w e.n l
 rw [cm_at_none e.n l 0 hn] at hf
 simp [Instr.mapUpdate, run_underlying Try.underlying50, MapKept.run_getObj_map h, cm_check, hf, MapKept.run_setObj_map _ h, Result.andThen, ChangeMaps.setBlock]
 simp [cm_st, cm_ents_snoc]
/-- What the map tells of a number. -/
theorem cm_look (w : World) (r : Nat) (l : List Ent) (h : w.heap[r]? = some (cm_st l)) (k : Int) (ok : Bool) :
  (Instr.lookup 50 (.map (some r)) (cm_key k) ok).run Try.prog w = .ok (if ok then .tuple #[((cm_at k l 0).map (·.2)).getD (cm_val ⟨k, 0, 0, 0, 0⟩), .bool (cm_at k l 0).isSome] else ((cm_at k l 0).map (·.2)).getD (cm_val ⟨k, 0, 0, 0, 0⟩)) w := by
 have hz : (zeroValue 48).run Try.prog w = .ok (cm_val ⟨k, 0, 0, 0, 0⟩) w := by kernel_rfl
 have hf := cm_find w k l
 have hh : w.heap[r]? = some (.map (cm_ents l 0).toArray l.length) := h
 cases hq : cm_at k l 0 with
 | none =>
  rw [hq] at hf
  simp [Instr.lookup, run_underlying Try.underlying50, MapKept.run_getObj_map hh, cm_check, hf, hz, Result.andThen]
 | some q =>
  rw [hq] at hf
  obtain ⟨i, v⟩ := q
  simp [Instr.lookup, run_underlying Try.underlying50, MapKept.run_getObj_map hh, cm_check, hf, Result.andThen]
def cm_rows (form op : Int) (l : List (Int × Int × Int)) : List Ent := l.map (fun t => ⟨t.1, form, op, t.2.1, t.2.2⟩)
/-- All but one block, of those that were there, is as it was. -/
structure Near (r : Nat) (w w' : World) : Prop where
 os : w'.os = w.os
 tape : w'.tape = w.tape
 output : w'.output = w.output
 size : w.heap.size ≤ w'.heap.size
 block : ∀ k, k < w.heap.size → k ≠ r → w'.heap[k]? = w.heap[k]?
theorem Near.refl (r : Nat) (w : World) : Near r w w := ⟨rfl, rfl, rfl, Nat.le_refl _, fun _ _ _ => rfl⟩
theorem Near.trans {r : Nat} {a b c : World} (h : Near r a b) (k : Near r b c) : Near r a c :=
 ⟨k.os.trans h.os, k.tape.trans h.tape, k.output.trans h.output, Nat.le_trans h.size k.size, fun j hj hr => (k.block j (Nat.lt_of_lt_of_le hj h.size) hr).trans (h.block j hj hr)⟩
theorem Near.of {r : Nat} {w w' : World} (h : Below w.heap.size w w') : Near r w w' := ⟨h.os, h.tape, h.output, h.size, fun k hk _ => h.block k hk⟩
theorem Near.below {r : Nat} {w w' : World} {B : Nat} (h : Near r w w') (hr : B ≤ r) (hB : B ≤ w.heap.size) : Below B w w' := ⟨h.os, h.tape, h.output, h.size, fun k hk => h.block k (by omega) (by omega)⟩
theorem Near.cell {r : Nat} {w w' : World} (h : Near r w w') {p : Addr} (hp : p.block < w.heap.size) (hr : p.block ≠ r) : w'.cell? p = w.cell? p := World.cell?_of_block (w := w) (h.block p.block hp hr)
def CmPost (r : Nat) (l : List Ent) (w : World) (e : Ending) (w' : World) : Prop := e = .returned (.tuple #[]) ∧ w'.heap[r]? = some (cm_st l) ∧ Near r w w'
theorem cm_wrap {a : Int} (h0 : 0 ≤ a) (h1 : a ≤ 4294967295) : wrap64 a = a := by
 unfold wrap64
 omega
theorem cm_row_step (w : World) (r B : Nat) (l : List Ent) (e : Ent) (h : w.heap[r]? = some (cm_st l)) (hB : w.cell? ⟨B, 0, none⟩ = some (.map (some r))) (hn : ∀ x ∈ l, x.n ≠ e.n) (hu : 0 ≤ e.n ∧ e.n ≤ 4294967295) :
  (w.alloc (Obj.cells #[.int .u32 e.n, .int .u32 e.f3, .int .u32 e.f7] 69)).cell? ⟨B, 0, none⟩ = some (.map (some r)) ∧
  (Instr.mapUpdate 50 (.map (some r)) (.int .i64 (wrap64 e.n)) (.agg #[.int .u8 e.form, .int .u32 e.op, .int .u32 e.f3, .int .u32 e.f7])).run Try.prog (w.alloc (Obj.cells #[.int .u32 e.n, .int .u32 e.f3, .int .u32 e.f7] 69)) =
   .ok () (ChangeMaps.setBlock (w.alloc (Obj.cells #[.int .u32 e.n, .int .u32 e.f3, .int .u32 e.f7] 69)) r (cm_st (l ++ [e]))) ∧
  Near r w (ChangeMaps.setBlock (w.alloc (Obj.cells #[.int .u32 e.n, .int .u32 e.f3, .int .u32 e.f7] 69)) r (cm_st (l ++ [e]))) ∧
  (ChangeMaps.setBlock (w.alloc (Obj.cells #[.int .u32 e.n, .int .u32 e.f3, .int .u32 e.f7] 69)) r (cm_st (l ++ [e]))).heap[r]? = some (cm_st (l ++ [e])) := by
 have hlt := World.block_lt_of_cell? w _ hB
 have hrl : r < w.heap.size := blk_lt h
 have hbel : Below w.heap.size w (w.alloc (Obj.cells #[.int .u32 e.n, .int .u32 e.f3, .int .u32 e.f7] 69)) := (Below.refl _ _).alloc (Nat.le_refl _) _
 refine ⟨(hbel.cell hlt).trans hB, by rw [cm_wrap hu.1 hu.2]; exact cm_ins _ r l e ((hbel.block r hrl).trans h) hn, ⟨rfl, rfl, rfl, ?_, fun k hk hr => ?_⟩, ?_⟩
 ·simp [ChangeMaps.setBlock]
 ·simp only [ChangeMaps.setBlock, Array.getElem?_setIfInBounds, if_neg (Ne.symm hr)]
  exact hbel.block k hk
 ·simp only [ChangeMaps.setBlock, Array.getElem?_setIfInBounds, if_true]
  rw [if_pos (by simp; omega)]
set_option maxHeartbeats 1000000 in
theorem cm_row (form op : Int) (tl : List (Int × Int × Int)) (es : List Ent) (r B A : Nat) (w : World) (hr : w.heap[r]? = some (cm_st es)) (hB : w.cell? ⟨B, 0, none⟩ = some (.map (some r)))
  (hA : ∀ i (h : i < tl.length), w.cell? ⟨A, i * 3, none⟩ = some (.int .u32 tl[i].1) ∧ w.cell? ⟨A, i * 3 + 1, none⟩ = some (.int .u32 tl[i].2.1) ∧ w.cell? ⟨A, i * 3 + 2, none⟩ = some (.int .u32 tl[i].2.2))
  (hAr : A ≠ r) (hBr : B ≠ r) (hl : tl.length ≤ 100) (hd : ∀ k (h : k < tl.length), ∀ x ∈ es ++ cm_rows form op (tl.take k), x.n ≠ tl[k].1) (hu : ∀ k (h : k < tl.length), 0 ≤ tl[k].1 ∧ tl[k].1 ≤ 4294967295) :
  Calls Try.prog 22 #[.int .u8 form, .int .u32 op, .slice (some ⟨A, 0, none⟩) tl.length tl.length, .pointer (some ⟨B, 0, none⟩)] w (CmPost r (es ++ cm_rows form op tl) w) := by
 have HB := World.block_lt_of_cell? w _ hB
 have HRR := Aside0.mk hr
 have HBB := Aside0.mk hB
 have HAA := Aside0.mk hA
 clear hr hB hA
 have hn : (tl.length : Int) ≤ 9223372036854775807 := by omega
 go_enter Try.func22, Try.ntmps22
 go_wp2_with fail
 go_loopg [11] tl.length (fun gg v11 w' => ∃ k : Nat, k ≤ tl.length ∧ tl.length - k ≤ gg ∧ v11 = .int .i64 k ∧ Aside0 (w'.heap[r]? = some (cm_st (es ++ cm_rows form op (tl.take k)))) ∧ Aside0 (Near r w w'))
 case atStart => exact ⟨0, Nat.zero_le _, by omega, rfl, ⟨by simpa [cm_rows] using HRR.out⟩, ⟨Near.refl _ _⟩⟩
 case round =>
  obtain ⟨k, hk, hg, rfl, HM, HN⟩ := hrel
  by_cases hlt : k < tl.length
  ·have hltz : (k : Int) < (tl.length : Int) := by omega
   obtain ⟨h0, h1, h2⟩ := HAA.out k hlt
   have hb0 := World.block_lt_of_cell? w _ h0
   replace h0 := (HN.out.cell hb0 hAr).trans h0
   replace h1 := (HN.out.cell (p := ⟨A, k * 3 + 1, none⟩) hb0 hAr).trans h1
   replace h2 := (HN.out.cell (p := ⟨A, k * 3 + 2, none⟩) hb0 hAr).trans h2
   have hB := (HN.out.cell HB hBr).trans HBB.out
   have hrow := cm_row_step wr r B (es ++ cm_rows form op (tl.take k)) ⟨tl[k].1, form, op, tl[k].2.1, tl[k].2.2⟩ HM.out hB (hd k hlt) (hu k hlt)
   obtain ⟨hB2, hup, hnear, hmap⟩ := hrow
   replace hnear := Aside0.mk hnear
   replace hmap := Aside0.mk hmap
   go_wp2
   go_roundg (tl.length - (k + 1))
   case measure => omega
   case rel =>
    refine ⟨k + 1, by omega, by omega, by go_num, ⟨?_⟩, ⟨?_⟩⟩
    ·have := hmap.out
     have e : cm_rows form op (tl.take (k + 1)) = cm_rows form op (tl.take k) ++ [⟨tl[k].1, form, op, tl[k].2.1, tl[k].2.2⟩] := by rw [cm_rows, cm_rows, List.take_succ_eq_append_getElem hlt, List.map_append]; rfl
     rw [List.append_assoc] at this
     rw [e]
     exact this
    ·have := HN.out.trans hnear.out
     rw [List.append_assoc] at this
     exact this
  ·have hltz : ¬ (k : Int) < (tl.length : Int) := by omega
   have : k = tl.length := by omega
   have K := Aside0.mk this
   clear this
   go_wp2
   go_end0
   refine ⟨rfl, ?_, HN.out⟩
   have := HM.out
   rw [K.out, List.take_length] at this
   exact this
def cm_cells (tl : List (Int × Int × Int)) : List Value := tl.flatMap (fun t => [.int .u32 t.1, .int .u32 t.2.1, .int .u32 t.2.2])
theorem cm_cells_at : ∀ (tl : List (Int × Int × Int)) (i : Nat) (h : i < tl.length), (cm_cells tl)[i * 3]? = some (.int .u32 tl[i].1) ∧ (cm_cells tl)[i * 3 + 1]? = some (.int .u32 tl[i].2.1) ∧ (cm_cells tl)[i * 3 + 2]? = some (.int .u32 tl[i].2.2)
 | [], _, h => absurd h (by simp)
 | t :: r, 0, _ => by simp [cm_cells]
 | t :: r, i + 1, h => by
  have := cm_cells_at r i (by simpa using h)
  have e : cm_cells (t :: r) = [.int .u32 t.1, .int .u32 t.2.1, .int .u32 t.2.2] ++ cm_cells r := by simp [cm_cells]
  rw [e, show (i + 1) * 3 = i * 3 + 3 by omega]
  simpa [List.getElem?_append_right] using this
/-- The map and the variable that holds it, while rows are put in. -/
structure CmInv (w0 : World) (es : List Ent) (w : World) : Prop where
 m : w.heap[w0.heap.size]? = some (cm_st es)
 b : w.cell? ⟨w0.heap.size + 1, 0, none⟩ = some (.map (some w0.heap.size))
 below : Below w0.heap.size w0 w
def CmCalled (w0 : World) (es : List Ent) (e : Ending) (w' : World) : Prop := e = .returned (.tuple #[]) ∧ CmInv w0 es w'
theorem cm_call (form op : Int) (tl : List (Int × Int × Int)) (es : List Ent) (w0 w : World) (h : CmInv w0 es w) (hl : tl.length ≤ 100) (hd : ∀ k (h : k < tl.length), ∀ x ∈ es ++ cm_rows form op (tl.take k), x.n ≠ tl[k].1) (hu : ∀ k (h : k < tl.length), 0 ≤ tl[k].1 ∧ tl[k].1 ≤ 4294967295) :
  Calls Try.prog 22 #[.int .u8 form, .int .u32 op, .slice (some ⟨w.heap.size, 0, none⟩) tl.length tl.length, .pointer (some ⟨w0.heap.size + 1, 0, none⟩)] (w.alloc (Obj.cells (cm_cells tl).toArray 69)) (CmCalled w0 (es ++ cm_rows form op tl)) := by
 have hbl : w0.heap.size + 1 < w.heap.size := World.block_lt_of_cell? w _ h.b
 have ha : Below w.heap.size w (w.alloc (Obj.cells (cm_cells tl).toArray 69)) := (Below.refl _ _).alloc (Nat.le_refl _) _
 have hm : (w.alloc (Obj.cells (cm_cells tl).toArray 69)).heap[w0.heap.size]? = some (cm_st es) := (ha.block _ (by omega)).trans h.m
 have hb : (w.alloc (Obj.cells (cm_cells tl).toArray 69)).cell? ⟨w0.heap.size + 1, 0, none⟩ = some (.map (some w0.heap.size)) := (ha.cell hbl).trans h.b
 have hc : ∀ j, (w.alloc (Obj.cells (cm_cells tl).toArray 69)).cell? ⟨w.heap.size, j, none⟩ = (cm_cells tl)[j]? := fun j => by
  rw [blk_cell (heap_alloc_new w _) j]; simp
 refine (cm_row form op tl es w0.heap.size (w0.heap.size + 1) w.heap.size _ hm hb ?_ (by omega) (by omega) hl hd hu).mono ?_
 ·intro i hi
  rw [hc, hc, hc]
  exact cm_cells_at tl i hi
 ·rintro e w' ⟨rfl, h1, h2⟩
  have hs : (w.alloc (Obj.cells (cm_cells tl).toArray 69)).heap.size = w.heap.size + 1 := by simp
  exact ⟨rfl, h1, (h2.cell (p := ⟨w0.heap.size + 1, 0, none⟩) (by rw [hs]; show w0.heap.size + 1 < _; omega) (by show w0.heap.size + 1 ≠ _; omega)).trans hb,
   (below_then h.below (by omega) ha).trans (h2.below (Nat.le_refl _) (by rw [hs]; omega))⟩
def cm_t0 : List (Int × Int × Int) := [(1, 0, 0), (2, 0, 32), (3, 1, 0), (4, 2, 0), (5, 3, 0), (6, 4, 0), (7, 5, 0), (8, 5, 32), (9, 6, 0), (10, 7, 0)]
def cm_e0 : List Ent := ([] : List Ent) ++ cm_rows 82 51 cm_t0
theorem cm_c0 (w0 w : World) (A : Nat) (hA : w.heap.size = A) (h : CmInv w0 ([] : List Ent) w) : Calls Try.prog 22 #[.int .u8 82, .int .u32 51, .slice (some ⟨A, 0, none⟩) 10 10, .pointer (some ⟨w0.heap.size + 1, 0, none⟩)] (w.alloc (Obj.cells #[.int .u32 1, .int .u32 0, .int .u32 0, .int .u32 2, .int .u32 0, .int .u32 32, .int .u32 3, .int .u32 1, .int .u32 0, .int .u32 4, .int .u32 2, .int .u32 0, .int .u32 5, .int .u32 3, .int .u32 0, .int .u32 6, .int .u32 4, .int .u32 0, .int .u32 7, .int .u32 5, .int .u32 0, .int .u32 8, .int .u32 5, .int .u32 32, .int .u32 9, .int .u32 6, .int .u32 0, .int .u32 10, .int .u32 7, .int .u32 0] 69)) (CmCalled w0 cm_e0) :=
 hA ▸ cm_call 82 51 cm_t0 ([] : List Ent) w0 w h (by decide) (by decide +kernel) (by decide +kernel)
def cm_t1 : List (Int × Int × Int) := [(11, 0, 1), (12, 1, 1), (13, 3, 1), (14, 4, 1), (15, 5, 1), (16, 6, 1), (17, 7, 1)]
def cm_e1 : List Ent := cm_e0 ++ cm_rows 82 51 cm_t1
theorem cm_c1 (w0 w : World) (A : Nat) (hA : w.heap.size = A) (h : CmInv w0 cm_e0 w) : Calls Try.prog 22 #[.int .u8 82, .int .u32 51, .slice (some ⟨A, 0, none⟩) 7 7, .pointer (some ⟨w0.heap.size + 1, 0, none⟩)] (w.alloc (Obj.cells #[.int .u32 11, .int .u32 0, .int .u32 1, .int .u32 12, .int .u32 1, .int .u32 1, .int .u32 13, .int .u32 3, .int .u32 1, .int .u32 14, .int .u32 4, .int .u32 1, .int .u32 15, .int .u32 5, .int .u32 1, .int .u32 16, .int .u32 6, .int .u32 1, .int .u32 17, .int .u32 7, .int .u32 1] 69)) (CmCalled w0 cm_e1) :=
 hA ▸ cm_call 82 51 cm_t1 cm_e0 w0 w h (by decide) (by decide +kernel) (by decide +kernel)
def cm_t2 : List (Int × Int × Int) := [(18, 0, 0), (19, 0, 32), (20, 1, 0), (21, 5, 0), (22, 5, 32), (23, 0, 1), (24, 4, 1), (25, 5, 1), (26, 6, 1), (27, 7, 1)]
def cm_e2 : List Ent := cm_e1 ++ cm_rows 82 59 cm_t2
theorem cm_c2 (w0 w : World) (A : Nat) (hA : w.heap.size = A) (h : CmInv w0 cm_e1 w) : Calls Try.prog 22 #[.int .u8 82, .int .u32 59, .slice (some ⟨A, 0, none⟩) 10 10, .pointer (some ⟨w0.heap.size + 1, 0, none⟩)] (w.alloc (Obj.cells #[.int .u32 18, .int .u32 0, .int .u32 0, .int .u32 19, .int .u32 0, .int .u32 32, .int .u32 20, .int .u32 1, .int .u32 0, .int .u32 21, .int .u32 5, .int .u32 0, .int .u32 22, .int .u32 5, .int .u32 32, .int .u32 23, .int .u32 0, .int .u32 1, .int .u32 24, .int .u32 4, .int .u32 1, .int .u32 25, .int .u32 5, .int .u32 1, .int .u32 26, .int .u32 6, .int .u32 1, .int .u32 27, .int .u32 7, .int .u32 1] 69)) (CmCalled w0 cm_e2) :=
 hA ▸ cm_call 82 59 cm_t2 cm_e1 w0 w h (by decide) (by decide +kernel) (by decide +kernel)
def cm_t3 : List (Int × Int × Int) := [(28, 0, 0), (29, 2, 0), (30, 3, 0), (31, 4, 0), (32, 6, 0), (33, 7, 0)]
def cm_e3 : List Ent := cm_e2 ++ cm_rows 73 19 cm_t3
theorem cm_c3 (w0 w : World) (A : Nat) (hA : w.heap.size = A) (h : CmInv w0 cm_e2 w) : Calls Try.prog 22 #[.int .u8 73, .int .u32 19, .slice (some ⟨A, 0, none⟩) 6 6, .pointer (some ⟨w0.heap.size + 1, 0, none⟩)] (w.alloc (Obj.cells #[.int .u32 28, .int .u32 0, .int .u32 0, .int .u32 29, .int .u32 2, .int .u32 0, .int .u32 30, .int .u32 3, .int .u32 0, .int .u32 31, .int .u32 4, .int .u32 0, .int .u32 32, .int .u32 6, .int .u32 0, .int .u32 33, .int .u32 7, .int .u32 0] 69)) (CmCalled w0 cm_e3) :=
 hA ▸ cm_call 73 19 cm_t3 cm_e2 w0 w h (by decide) (by decide +kernel) (by decide +kernel)
def cm_t4 : List (Int × Int × Int) := [(34, 1, 0), (35, 5, 0), (36, 5, 32)]
def cm_e4 : List Ent := cm_e3 ++ cm_rows 84 19 cm_t4
theorem cm_c4 (w0 w : World) (A : Nat) (hA : w.heap.size = A) (h : CmInv w0 cm_e3 w) : Calls Try.prog 22 #[.int .u8 84, .int .u32 19, .slice (some ⟨A, 0, none⟩) 3 3, .pointer (some ⟨w0.heap.size + 1, 0, none⟩)] (w.alloc (Obj.cells #[.int .u32 34, .int .u32 1, .int .u32 0, .int .u32 35, .int .u32 5, .int .u32 0, .int .u32 36, .int .u32 5, .int .u32 32] 69)) (CmCalled w0 cm_e4) :=
 hA ▸ cm_call 84 19 cm_t4 cm_e3 w0 w h (by decide) (by decide +kernel) (by decide +kernel)
def cm_t5 : List (Int × Int × Int) := [(37, 0, 0)]
def cm_e5 : List Ent := cm_e4 ++ cm_rows 73 27 cm_t5
theorem cm_c5 (w0 w : World) (A : Nat) (hA : w.heap.size = A) (h : CmInv w0 cm_e4 w) : Calls Try.prog 22 #[.int .u8 73, .int .u32 27, .slice (some ⟨A, 0, none⟩) 1 1, .pointer (some ⟨w0.heap.size + 1, 0, none⟩)] (w.alloc (Obj.cells #[.int .u32 37, .int .u32 0, .int .u32 0] 69)) (CmCalled w0 cm_e5) :=
 hA ▸ cm_call 73 27 cm_t5 cm_e4 w0 w h (by decide) (by decide +kernel) (by decide +kernel)
def cm_t6 : List (Int × Int × Int) := [(38, 0, 0), (40, 2, 0), (41, 3, 0), (39, 4, 0)]
def cm_e6 : List Ent := cm_e5 ++ cm_rows 73 3 cm_t6
theorem cm_c6 (w0 w : World) (A : Nat) (hA : w.heap.size = A) (h : CmInv w0 cm_e5 w) : Calls Try.prog 22 #[.int .u8 73, .int .u32 3, .slice (some ⟨A, 0, none⟩) 4 4, .pointer (some ⟨w0.heap.size + 1, 0, none⟩)] (w.alloc (Obj.cells #[.int .u32 38, .int .u32 0, .int .u32 0, .int .u32 40, .int .u32 2, .int .u32 0, .int .u32 41, .int .u32 3, .int .u32 0, .int .u32 39, .int .u32 4, .int .u32 0] 69)) (CmCalled w0 cm_e6) :=
 hA ▸ cm_call 73 3 cm_t6 cm_e5 w0 w h (by decide) (by decide +kernel) (by decide +kernel)
def cm_t7 : List (Int × Int × Int) := [(42, 0, 0), (43, 2, 0), (44, 3, 0)]
def cm_e7 : List Ent := cm_e6 ++ cm_rows 83 35 cm_t7
theorem cm_c7 (w0 w : World) (A : Nat) (hA : w.heap.size = A) (h : CmInv w0 cm_e6 w) : Calls Try.prog 22 #[.int .u8 83, .int .u32 35, .slice (some ⟨A, 0, none⟩) 3 3, .pointer (some ⟨w0.heap.size + 1, 0, none⟩)] (w.alloc (Obj.cells #[.int .u32 42, .int .u32 0, .int .u32 0, .int .u32 43, .int .u32 2, .int .u32 0, .int .u32 44, .int .u32 3, .int .u32 0] 69)) (CmCalled w0 cm_e7) :=
 hA ▸ cm_call 83 35 cm_t7 cm_e6 w0 w h (by decide) (by decide +kernel) (by decide +kernel)
def cm_t8 : List (Int × Int × Int) := [(45, 0, 0), (46, 1, 0), (47, 4, 0), (48, 5, 0), (49, 6, 0), (50, 7, 0)]
def cm_e8 : List Ent := cm_e7 ++ cm_rows 66 99 cm_t8
theorem cm_c8 (w0 w : World) (A : Nat) (hA : w.heap.size = A) (h : CmInv w0 cm_e7 w) : Calls Try.prog 22 #[.int .u8 66, .int .u32 99, .slice (some ⟨A, 0, none⟩) 6 6, .pointer (some ⟨w0.heap.size + 1, 0, none⟩)] (w.alloc (Obj.cells #[.int .u32 45, .int .u32 0, .int .u32 0, .int .u32 46, .int .u32 1, .int .u32 0, .int .u32 47, .int .u32 4, .int .u32 0, .int .u32 48, .int .u32 5, .int .u32 0, .int .u32 49, .int .u32 6, .int .u32 0, .int .u32 50, .int .u32 7, .int .u32 0] 69)) (CmCalled w0 cm_e8) :=
 hA ▸ cm_call 66 99 cm_t8 cm_e7 w0 w h (by decide) (by decide +kernel) (by decide +kernel)
def cm_t9 : List (Int × Int × Int) := [(51, 0, 0)]
def cm_e9 : List Ent := cm_e8 ++ cm_rows 85 55 cm_t9
theorem cm_c9 (w0 w : World) (A : Nat) (hA : w.heap.size = A) (h : CmInv w0 cm_e8 w) : Calls Try.prog 22 #[.int .u8 85, .int .u32 55, .slice (some ⟨A, 0, none⟩) 1 1, .pointer (some ⟨w0.heap.size + 1, 0, none⟩)] (w.alloc (Obj.cells #[.int .u32 51, .int .u32 0, .int .u32 0] 69)) (CmCalled w0 cm_e9) :=
 hA ▸ cm_call 85 55 cm_t9 cm_e8 w0 w h (by decide) (by decide +kernel) (by decide +kernel)
def cm_t10 : List (Int × Int × Int) := [(52, 0, 0)]
def cm_e10 : List Ent := cm_e9 ++ cm_rows 85 23 cm_t10
theorem cm_c10 (w0 w : World) (A : Nat) (hA : w.heap.size = A) (h : CmInv w0 cm_e9 w) : Calls Try.prog 22 #[.int .u8 85, .int .u32 23, .slice (some ⟨A, 0, none⟩) 1 1, .pointer (some ⟨w0.heap.size + 1, 0, none⟩)] (w.alloc (Obj.cells #[.int .u32 52, .int .u32 0, .int .u32 0] 69)) (CmCalled w0 cm_e10) :=
 hA ▸ cm_call 85 23 cm_t10 cm_e9 w0 w h (by decide) (by decide +kernel) (by decide +kernel)
def cm_t11 : List (Int × Int × Int) := [(53, 0, 0)]
def cm_e11 : List Ent := cm_e10 ++ cm_rows 74 111 cm_t11
theorem cm_c11 (w0 w : World) (A : Nat) (hA : w.heap.size = A) (h : CmInv w0 cm_e10 w) : Calls Try.prog 22 #[.int .u8 74, .int .u32 111, .slice (some ⟨A, 0, none⟩) 1 1, .pointer (some ⟨w0.heap.size + 1, 0, none⟩)] (w.alloc (Obj.cells #[.int .u32 53, .int .u32 0, .int .u32 0] 69)) (CmCalled w0 cm_e11) :=
 hA ▸ cm_call 74 111 cm_t11 cm_e10 w0 w h (by decide) (by decide +kernel) (by decide +kernel)
def cm_t12 : List (Int × Int × Int) := [(54, 0, 0)]
def cm_e12 : List Ent := cm_e11 ++ cm_rows 73 103 cm_t12
theorem cm_c12 (w0 w : World) (A : Nat) (hA : w.heap.size = A) (h : CmInv w0 cm_e11 w) : Calls Try.prog 22 #[.int .u8 73, .int .u32 103, .slice (some ⟨A, 0, none⟩) 1 1, .pointer (some ⟨w0.heap.size + 1, 0, none⟩)] (w.alloc (Obj.cells #[.int .u32 54, .int .u32 0, .int .u32 0] 69)) (CmCalled w0 cm_e12) :=
 hA ▸ cm_call 73 103 cm_t12 cm_e11 w0 w h (by decide) (by decide +kernel) (by decide +kernel)
def cm_t13 : List (Int × Int × Int) := [(55, 0, 0)]
def cm_e13 : List Ent := cm_e12 ++ cm_rows 78 115 cm_t13
theorem cm_c13 (w0 w : World) (A : Nat) (hA : w.heap.size = A) (h : CmInv w0 cm_e12 w) : Calls Try.prog 22 #[.int .u8 78, .int .u32 115, .slice (some ⟨A, 0, none⟩) 1 1, .pointer (some ⟨w0.heap.size + 1, 0, none⟩)] (w.alloc (Obj.cells #[.int .u32 55, .int .u32 0, .int .u32 0] 69)) (CmCalled w0 cm_e13) :=
 hA ▸ cm_call 78 115 cm_t13 cm_e12 w0 w h (by decide) (by decide +kernel) (by decide +kernel)
def CmShapes (w0 : World) (e : Ending) (w' : World) : Prop := e = .returned (.map (some w0.heap.size)) ∧ w'.heap[w0.heap.size]? = some (cm_st cm_e13) ∧ Below w0.heap.size w0 w'
theorem cm_start (w : World) : CmInv w [] ((w.alloc (cm_st [])).alloc (Obj.cells #[.map (some w.heap.size)] 50)) := by
 have h1 : Below w.heap.size w (w.alloc (cm_st [])) := (Below.refl _ _).alloc (Nat.le_refl _) _
 have hs : (w.alloc (cm_st [])).heap.size = w.heap.size + 1 := by simp
 have h2 : Below (w.heap.size + 1) (w.alloc (cm_st [])) ((w.alloc (cm_st [])).alloc (Obj.cells #[.map (some w.heap.size)] 50)) := (Below.refl _ _).alloc (by omega) _
 refine ⟨(h2.block _ (by omega)).trans (heap_alloc_new w _), ?_, h1.trans (h2.mono (by omega))⟩
 have := blk_cell (heap_alloc_new (w.alloc (cm_st [])) (Obj.cells #[.map (some w.heap.size)] 50)) 0
 rw [hs] at this
 exact this
set_option maxHeartbeats 4000000 in
theorem code_shapes (w : World) : Calls Try.prog 14 #[] w (CmShapes w) := by
 have hmm : ∀ W : World, (Instr.makeMap 50 none).run Try.prog W = .ok (.map (some W.heap.size)) (W.alloc (cm_st [])) := fun W => by rw [run_makeMap]; rfl
 have HI := Aside0.mk (cm_start w)
 go_enter Try.func14, Try.ntmps14
 go_wp2_with (go_at_call 22; first | ((with_reducible refine (cm_c0 w _ _ ?hA HI.out).mono ?_); (case hA => first | rfl | (simp; done)); rintro e w' ⟨rfl, hi'⟩; clear HI; have HI := Aside0.mk hi'; clear hi') | ((with_reducible refine (cm_c1 w _ _ ?hA HI.out).mono ?_); (case hA => first | rfl | (simp; done)); rintro e w' ⟨rfl, hi'⟩; clear HI; have HI := Aside0.mk hi'; clear hi') | ((with_reducible refine (cm_c2 w _ _ ?hA HI.out).mono ?_); (case hA => first | rfl | (simp; done)); rintro e w' ⟨rfl, hi'⟩; clear HI; have HI := Aside0.mk hi'; clear hi') | ((with_reducible refine (cm_c3 w _ _ ?hA HI.out).mono ?_); (case hA => first | rfl | (simp; done)); rintro e w' ⟨rfl, hi'⟩; clear HI; have HI := Aside0.mk hi'; clear hi') | ((with_reducible refine (cm_c4 w _ _ ?hA HI.out).mono ?_); (case hA => first | rfl | (simp; done)); rintro e w' ⟨rfl, hi'⟩; clear HI; have HI := Aside0.mk hi'; clear hi') | ((with_reducible refine (cm_c5 w _ _ ?hA HI.out).mono ?_); (case hA => first | rfl | (simp; done)); rintro e w' ⟨rfl, hi'⟩; clear HI; have HI := Aside0.mk hi'; clear hi') | ((with_reducible refine (cm_c6 w _ _ ?hA HI.out).mono ?_); (case hA => first | rfl | (simp; done)); rintro e w' ⟨rfl, hi'⟩; clear HI; have HI := Aside0.mk hi'; clear hi') | ((with_reducible refine (cm_c7 w _ _ ?hA HI.out).mono ?_); (case hA => first | rfl | (simp; done)); rintro e w' ⟨rfl, hi'⟩; clear HI; have HI := Aside0.mk hi'; clear hi') | ((with_reducible refine (cm_c8 w _ _ ?hA HI.out).mono ?_); (case hA => first | rfl | (simp; done)); rintro e w' ⟨rfl, hi'⟩; clear HI; have HI := Aside0.mk hi'; clear hi') | ((with_reducible refine (cm_c9 w _ _ ?hA HI.out).mono ?_); (case hA => first | rfl | (simp; done)); rintro e w' ⟨rfl, hi'⟩; clear HI; have HI := Aside0.mk hi'; clear hi') | ((with_reducible refine (cm_c10 w _ _ ?hA HI.out).mono ?_); (case hA => first | rfl | (simp; done)); rintro e w' ⟨rfl, hi'⟩; clear HI; have HI := Aside0.mk hi'; clear hi') | ((with_reducible refine (cm_c11 w _ _ ?hA HI.out).mono ?_); (case hA => first | rfl | (simp; done)); rintro e w' ⟨rfl, hi'⟩; clear HI; have HI := Aside0.mk hi'; clear hi') | ((with_reducible refine (cm_c12 w _ _ ?hA HI.out).mono ?_); (case hA => first | rfl | (simp; done)); rintro e w' ⟨rfl, hi'⟩; clear HI; have HI := Aside0.mk hi'; clear hi') | ((with_reducible refine (cm_c13 w _ _ ?hA HI.out).mono ?_); (case hA => first | rfl | (simp; done)); rintro e w' ⟨rfl, hi'⟩; clear HI; have HI := Aside0.mk hi'; have hcb := hi'.b; clear hi'))
 go_ret
 exact ⟨rfl, HI.out.m, HI.out.below⟩
/-! what a form's parts are -/
def FormOk (f : Int) : Prop := f = 0 ∨ f = 66 ∨ f = 73 ∨ f = 74 ∨ f = 78 ∨ f = 82 ∨ f = 83 ∨ f = 84 ∨ f = 85
def cf_room (f : Int) : Int × Int := if f = 73 ∨ f = 83 then (-2048, 2047) else if f = 84 then (0, 63) else if f = 66 then (-4096, 4094) else if f = 85 then (-524288, 524287) else if f = 74 then (-1048576, 1048574) else (1, 0)
def cf_uses (f : Int) : Bool × Bool × Bool := if f = 82 then (true, true, true) else if f = 73 ∨ f = 84 then (true, true, false) else if f = 83 ∨ f = 66 then (false, true, true) else if f = 85 ∨ f = 74 then (true, false, false) else (false, false, false)
def cf_pieces (f : Int) : List (Int × Int × Int) := if f = 73 then [(0, 12, 20)] else if f = 84 then [(0, 6, 20)] else if f = 83 then [(0, 5, 7), (5, 7, 25)] else if f = 66 then [(11, 1, 7), (1, 4, 8), (5, 6, 25), (12, 1, 31)] else if f = 85 then [(0, 20, 12)] else if f = 74 then [(12, 8, 12), (11, 1, 20), (1, 10, 21), (20, 1, 31)] else []
def cf_cells (l : List (Int × Int × Int)) : List Value := l.flatMap (fun t => [.int .u64 t.1, .int .u64 t.2.1, .int .u64 t.2.2])
def CfRoom (r : Int × Int) (w : World) (e : Ending) (w' : World) : Prop := e = .returned (.tuple #[.int .i64 r.1, .int .i64 r.2]) ∧ w' = w
theorem cf_room_calls (f : Int) (h : FormOk f) (w : World) : Calls Try.prog 15 #[.int .u8 f] w (CfRoom (cf_room f) w) := by
 rcases h with rfl | rfl | rfl | rfl | rfl | rfl | rfl | rfl | rfl <;>
 ·go_enter Try.func15, Try.ntmps15
  go_wp2
  go_ret2
  exact ⟨rfl, rfl⟩
def CfUses (r : Bool × Bool × Bool) (w : World) (e : Ending) (w' : World) : Prop := e = .returned (.agg #[.bool r.1, .bool r.2.1, .bool r.2.2]) ∧ Below w.heap.size w w'
set_option maxHeartbeats 2000000 in
theorem cf_uses_calls (f : Int) (h : FormOk f) (w : World) : Calls Try.prog 16 #[.int .u8 f] w (CfUses (cf_uses f) w) := by
 have HB := fun cs => Aside0.mk ((Below.refl w.heap.size w).alloc (Nat.le_refl _) (Obj.cells cs 54))
 have hg := fun cs => Aside0.mk (heap_alloc_new w (Obj.cells cs 54))
 rcases h with rfl | rfl | rfl | rfl | rfl | rfl | rfl | rfl | rfl <;>
 ·go_enter Try.func16, Try.ntmps16
  go_wp2
  refine bodyPost_ret (results_cell_row rfl _ _ w.heap.size 54 _ (0, 0) _ rfl (hg _).out Try.underlying54 rfl (by kernel_rfl)) rfl ?_
  exact ⟨rfl, (HB _).out⟩
def CfPieces (l : List (Int × Int × Int)) (w : World) (e : Ending) (w' : World) : Prop :=
 ∃ v, e = .returned v ∧ ((l = [] ∧ v = .slice none 0 0 ∧ w' = w) ∨ (v = .slice (some ⟨w.heap.size, 0, none⟩) l.length l.length ∧ w' = w.alloc (Obj.cells (cf_cells l).toArray 60)))
set_option maxHeartbeats 2000000 in
theorem cf_pieces_calls (f : Int) (h : FormOk f) (w : World) : Calls Try.prog 17 #[.int .u8 f] w (CfPieces (cf_pieces f) w) := by
 rcases h with rfl | rfl | rfl | rfl | rfl | rfl | rfl | rfl | rfl <;>
 ·go_enter Try.func17, Try.ntmps17
  go_wp2
  go_ret
  first | exact ⟨_, rfl, .inl ⟨rfl, rfl, rfl⟩⟩ | exact ⟨_, rfl, .inr ⟨rfl, rfl⟩⟩

end Go.Proofs.Ytkacoffiinggiaa.K
