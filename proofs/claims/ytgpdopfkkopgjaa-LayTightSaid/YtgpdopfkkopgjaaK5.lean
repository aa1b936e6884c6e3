/- What Go functions of this seat answer: each has a Lean function ('.f') and a contract ('.calls'). Conditions: those of each theorem. Written by a program over the kit's printer; what is marked 'typed by hand' is this session's. -/
import Derived.Test.YtgpdopfkkopgjaaK0
import Derived.Test.YtgpdopfkkopgjaaK1
namespace Go.Proofs.Ytgpdopfkkopgjaa.K
open Go.RowKit Go.Proofs.YtgpdopfkkopgjaaW.PrintWords Go.Proofs.YtgpdopfkkopgjaaW.PrintLast Go.Proofs.YtgpdopfkkopgjaaW.PrintMore
attribute [local go_sem] max2_int min2_int max_two min_two max_three min_three max_four min_four   -- for this text's walks alone
set_option linter.unusedVariables false
set_option linter.unusedSimpArgs false

/-! ### lay_small: function 19 (typed by hand) -/
def sz_key (a b : Int) (c : ByteArray) : Value := .agg #[.int .i64 a, .int .i64 b, .string c]
theorem sz_eq (w : World) (a b a' b' : Int) (c c' : ByteArray) :
  (Op.equal 25 (sz_key a b c) (sz_key a' b' c')).run Try.prog w = .ok (a == a' && (b == b' && (c.toList == c'.toList))) w := eqA25 9998 w a a' b b' c c'
theorem sz_check (w : World) (em : Bool) (a b : Int) (c : ByteArray) : (Instr.checkKey em 10000 25 (sz_key a b c)).run Try.prog w = .ok () w := by kernel_rfl
theorem sz_ask_cons (w : World) (a b a' b' : Int) (c c' : ByteArray) (v : Value) (n i : Nat) (es : List MapEntry) :
  (Instr.findAsking 25 (sz_key a b c) (⟨sz_key a' b' c', v, n⟩ :: es) i).run Try.prog w =
   if (a == a' && (b == b' && (c.toList == c'.toList))) = true then .ok (some (i, v)) w else (Instr.findAsking 25 (sz_key a b c) es (i + 1)).run Try.prog w := by
 simp only [Instr.findAsking, Sem.run_bind, sz_eq, Result.andThen_ok]
 split <;> simp
theorem sz_ask_nil (w : World) (k : Value) (i : Nat) : (Instr.findAsking 25 k [] i).run Try.prog w = .ok none w := by
 simp [Instr.findAsking]
theorem sz_find_nil (w : World) (k : Value) : (Instr.findKey 25 k []).run Try.prog w = .ok none w := by
 simp [Instr.findKey, run_underlying Try.underlying25, Instr.findNow]
theorem sz_find_cons (w : World) (k : Value) (e : MapEntry) (es : List MapEntry) : (Instr.findKey 25 k (e :: es)).run Try.prog w = (Instr.findAsking 25 k (e :: es) 0).run Try.prog w := by
 simp only [Instr.findKey, Sem.run_bind, run_underlying Try.underlying25, Result.andThen_ok]
 simp [Instr.findNow, Instr.sameNow]
theorem sz_ins (w : World) (r : Nat) (es : Array MapEntry) (clock : Nat) (h : w.heap[r]? = some (.map es clock)) (a b : Int) (c : ByteArray) (v : Value) (hf : (Instr.findKey 25 (sz_key a b c) es.toList).run Try.prog w = .ok none w) :
  (Instr.mapUpdate 73 (.map (some r)) (sz_key a b c) v).run Try.prog w = .ok () (ChangeMaps.setBlock w r (.map (es.push ⟨sz_key a b c, v, clock⟩) (clock + 1))) := by
 simp [Instr.mapUpdate, run_underlying Try.underlying73, MapKept.run_getObj_map h, sz_check, hf, MapKept.run_setObj_map _ h, Result.andThen, ChangeMaps.setBlock]
theorem sz_block_new (w : World) (o o' : Obj) : ChangeMaps.setBlock (w.alloc o) w.heap.size o' = w.alloc o' := by
 simp only [ChangeMaps.setBlock, World.alloc]
 congr 1
 apply Array.ext
 ·simp
 ·intro i h1 h2
  have h3 : i < w.heap.size + 1 := by simpa using h2
  rw [Array.getElem_setIfInBounds (by simpa using h1), Array.getElem_push, Array.getElem_push]
  by_cases e : i = w.heap.size
  ·subst e; simp
  ·simp [show i < w.heap.size by omega, Ne.symm e]
def sz_ents : List (Int × Int) → Nat → List MapEntry
 | [], _ => []
 | (n, v) :: r, k => ⟨sz_key n 0 ⟨#[]⟩, .int .i64 v, k⟩ :: sz_ents r (k + 1)
def sz_st (l : List (Int × Int)) : Obj := .map (sz_ents l 0).toArray l.length
theorem sz_ents_snoc (n v : Int) : ∀ (l : List (Int × Int)) (k : Nat), sz_ents (l ++ [(n, v)]) k = sz_ents l k ++ [⟨sz_key n 0 ⟨#[]⟩, .int .i64 v, k + l.length⟩]
 | [], k => by simp [sz_ents]
 | (a, b) :: r, k => by
  simp only [List.cons_append, sz_ents, sz_ents_snoc n v r (k + 1), List.length_cons]
  rw [show k + 1 + r.length = k + (r.length + 1) by omega]
theorem sz_ask_no (w : World) (n b : Int) (c : ByteArray) : ∀ (l : List (Int × Int)) (k i : Nat), (∀ p ∈ l, p.1 ≠ n) → (Instr.findAsking 25 (sz_key n b c) (sz_ents l k) i).run Try.prog w = .ok none w
 | [], _, i, _ => sz_ask_nil _ _ _
 | (a, v) :: r, k, i, h => by
  rw [sz_ents, sz_ask_cons, if_neg (by
   have := h (a, v) (by simp)
   have e : (n == a) = false := by simpa using fun e => this e.symm
   simp [e])]
  exact sz_ask_no w n b c r (k + 1) (i + 1) (fun p hp => h p (by simp [hp]))
theorem sz_find_no (w : World) (n b : Int) (c : ByteArray) (l : List (Int × Int)) (h : ∀ p ∈ l, p.1 ≠ n) : (Instr.findKey 25 (sz_key n b c) (sz_ents l 0)).run Try.prog w = .ok none w := by
 cases l with
 | nil => exact sz_find_nil _ _
 | cons p r => obtain ⟨a, v⟩ := p; rw [sz_ents, sz_find_cons]; exact sz_ask_no w n b c ((a, v) :: r) 0 0 h
theorem sz_insG (w : World) (l : List (Int × Int)) (n v : Int) (h : ∀ p ∈ l, p.1 ≠ n) :
  (Instr.mapUpdate 73 (.map (some w.heap.size)) (.agg #[.int .i64 n, .int .i64 0, .string ⟨#[]⟩]) (.int .i64 v)).run Try.prog (w.alloc (sz_st l)).drew = .ok () (w.alloc (sz_st (l ++ [(n, v)]))).drew := by
 have := sz_ins (w.drew.alloc (sz_st l)) w.heap.size _ _ (MapKept.heap_alloc w _).1 n 0 ⟨#[]⟩ (.int .i64 v) (sz_find_no _ _ _ _ _ h)
 refine this.trans ?_
 congr 1
 rw [show w.heap.size = w.drew.heap.size from rfl, sz_block_new]
 show (w.alloc _).drew = _
 congr 2
 simp [sz_st, sz_ents_snoc]
theorem sz_ask (w : World) (n b : Int) (c : ByteArray) : ∀ (l : List (Int × Int)) (k i : Nat), ∃ r, (Instr.findAsking 25 (sz_key n b c) (sz_ents l k) i).run Try.prog w = .ok r w ∧
  (r.map (·.2) = if b = 0 ∧ c.toList = [] then (l.find? (fun p => n == p.1)).map (fun p => Value.int .i64 p.2) else none)
 | [], k, i => ⟨none, sz_ask_nil _ _ _, by simp⟩
 | (a, v) :: r, k, i => by
  obtain ⟨q, hq, e⟩ := sz_ask w n b c r (k + 1) (i + 1)
  rw [sz_ents, sz_ask_cons]
  by_cases h : (n == a && (b == 0 && (c.toList == ByteArray.toList ⟨#[]⟩))) = true
  ·rw [if_pos h]
   refine ⟨_, rfl, ?_⟩
   simp at h
   rw [if_pos ⟨h.2.1, by simpa using h.2.2⟩]
   simp [List.find?_cons, h.1]
  ·rw [if_neg h]
   refine ⟨q, hq, e.trans ?_⟩
   simp at h
   by_cases hb : b = 0 ∧ c.toList = []
   ·rw [if_pos hb, if_pos hb]
    have : (n == a) = false := by
     have hn : ¬ n = a := fun e => h e hb.1 (by simpa using hb.2)
     simpa using hn
    simp [List.find?_cons, this]
   ·rw [if_neg hb, if_neg hb]
def sz_of (a b : Int) (c : ByteArray) : Int := if b = 0 ∧ c.toList = [] then (if a = 1 then 1 else if a = 2 then 4 else if a = 3 then 8 else 0) else 0
def sz_Sizes (l : List (Int × Int)) : Prop := ∀ x, (((l.find? (fun p => x == p.1)).map (fun p => Value.int .i64 p.2)).getD (.int .i64 0)) = .int .i64 (if x = 1 then 1 else if x = 2 then 4 else if x = 3 then 8 else 0)
theorem sz_zero3 (w : World) : (zeroValue 3).run Try.prog w = .ok (.int .i64 0) w := by kernel_rfl
theorem sz_look_run (w : World) (r : Nat) (l : List (Int × Int)) (h : w.heap[r]? = some (sz_st l)) (hl : sz_Sizes l) (a b : Int) (c : ByteArray) :
  (Instr.lookup 73 (.map (some r)) (.agg #[.int .i64 a, .int .i64 b, .string c]) false).run Try.prog w = .ok (.int .i64 (sz_of a b c)) w := by
 obtain ⟨q, hq, e⟩ := sz_ask w a b c l 0 0
 have hf : (Instr.findKey 25 (sz_key a b c) (sz_ents l 0)).run Try.prog w = .ok q w := by
  cases l with
  | nil => rw [sz_ents, sz_find_nil]; rw [sz_ents, sz_ask_nil] at hq; exact hq
  | cons p r => obtain ⟨x, v⟩ := p; rw [sz_ents, sz_find_cons]; exact hq
 have hv := hl a
 have hh : w.heap[r]? = some (.map (sz_ents l 0).toArray l.length) := h
 show (Instr.lookup 73 (.map (some r)) (sz_key a b c) false).run Try.prog w = _
 have hz : ∀ z : Option (Nat × Value), z.map (·.2) = (if b = 0 ∧ c.toList = [] then (l.find? (fun p => a == p.1)).map (fun p => Value.int .i64 p.2) else none) → (z.map (·.2)).getD (.int .i64 0) = .int .i64 (sz_of a b c) := fun z hz => by
  rw [hz]
  unfold sz_of
  by_cases hb : b = 0 ∧ c.toList = []
  ·rw [if_pos hb, if_pos hb]; exact hv
  ·rw [if_neg hb, if_neg hb]; rfl
 have hq2 := hz q e
 clear hz e hq
 cases q with
 | none =>
  simp [Instr.lookup, run_underlying Try.underlying73, MapKept.run_getObj_map hh, sz_check, hf, sz_zero3, Result.andThen]
  exact (Value.int.inj hq2).2
 | some q =>
  obtain ⟨i, v⟩ := q
  simp [Instr.lookup, run_underlying Try.underlying73, MapKept.run_getObj_map hh, sz_check, hf, Result.andThen]
  exact hq2
def sz_SizesPost (w : World) (e : Ending) (w' : World) : Prop := e = .returned (.map (some w.heap.size)) ∧ ∃ l, sz_Sizes l ∧ w' = (w.alloc (sz_st l)).drew
set_option maxHeartbeats 400000 in
theorem lay_sizes.calls (w : World) : Calls Try.prog 28 #[] w (sz_SizesPost w) := by
 have h1 := sz_insG
 have hmm : ∀ W : World, (Instr.makeMap 73 none).run Try.prog W = .ok (.map (some W.heap.size)) (W.alloc (sz_st [])) := fun W => by rw [run_makeMap]; rfl
 go_enter Try.func28, Try.ntmps28
 go_wp2_with fail
 go_region
 all_goals
  go_wp2
  go_ret
  refine ⟨rfl, _, ?_, rfl⟩
  intro x
  by_cases h1 : x = 1
  ·subst h1; rfl
  ·by_cases h2 : x = 2
   ·subst h2; rfl
   ·by_cases h3 : x = 3
    ·subst h3; rfl
    ·simp [List.find?_cons, beq_eq_false_iff_ne.mpr h1, beq_eq_false_iff_ne.mpr h2, beq_eq_false_iff_ne.mpr h3, h1, h2, h3]
def lay_small.f (a0_0 : Int) (a0_1 : Int) (a0_2 : ByteArray) : Option (Int) := some (if a0_1 > 0 then 8 else sz_of a0_0 a0_1 a0_2)
def sz_SmallPost (r : Int) (w : World) (e : Ending) (w' : World) : Prop := e = .returned (.int .i64 r) ∧ Below w.heap.size w w'
set_option maxHeartbeats 400000 in
theorem lay_small.calls (a0_0 : Int) (a0_1 : Int) (a0_2 : ByteArray) (r : Int) (w : World) (h : lay_small.f a0_0 a0_1 a0_2 = some r) :
  Calls Try.prog 19 #[.agg #[.int .i64 a0_0, .int .i64 a0_1, .string a0_2]] w fun e w' => e = .returned (.int .i64 r) ∧ Below w.heap.size w w' := by
 have h := Option.some.inj h
 have hb0 : Below w.heap.size w (w.alloc (Obj.cells #[Value.int IntKind.i64 a0_0, Value.int IntKind.i64 a0_1, Value.string a0_2] 25)) := (Below.refl _ _).alloc (Nat.le_refl _) _
 have HB := Lib.hid hb0
 clear hb0
 show Calls Try.prog 19 _ w (sz_SmallPost r w)
 by_cases hb : a0_1 > 0
 ·rw [if_pos hb] at h
  subst h
  have hb1 : 0 < a0_1 := hb
  go_enter Try.func19, Try.ntmps19
  go_wp2
  go_ret
  exact ⟨rfl, HB.out⟩
 ·rw [if_neg hb] at h
  have H := Lib.hid h
  clear h
  have hb1 : a0_1 ≤ 0 := by omega
  have hlk : ∀ l, sz_Sizes l → (Instr.lookup 73 (.map (some (w.heap.size + 1))) (.agg #[.int .i64 a0_0, .int .i64 a0_1, .string a0_2]) false).run Try.prog ((w.alloc (Obj.cells #[Value.int IntKind.i64 a0_0, Value.int IntKind.i64 a0_1, Value.string a0_2] 25)).alloc (sz_st l)).drew.drew =
    .ok (.int .i64 (sz_of a0_0 a0_1 a0_2)) ((w.alloc (Obj.cells #[Value.int IntKind.i64 a0_0, Value.int IntKind.i64 a0_1, Value.string a0_2] 25)).alloc (sz_st l)).drew.drew := fun l hl =>
   sz_look_run _ _ l (by
    have := (MapKept.heap_alloc (w.alloc (Obj.cells #[Value.int IntKind.i64 a0_0, Value.int IntKind.i64 a0_1, Value.string a0_2] 25)) (sz_st l)).1
    rw [show (w.alloc (Obj.cells #[Value.int IntKind.i64 a0_0, Value.int IntKind.i64 a0_1, Value.string a0_2] 25)).heap.size = w.heap.size + 1 from by simp] at this
    exact this) hl _ _ _
  go_enter Try.func19, Try.ntmps19
  go_wp2
  go_region_with (go_at_call 28; refine (lay_sizes.calls _).mono ?_; rintro e w' ⟨rfl, l, hl, rfl⟩)
  all_goals
   go_wp2
   go_ret
   exact ⟨by rw [← H.out]; rfl, ((HB.out.alloc (by simp) _).drew).drew⟩

end Go.Proofs.Ytgpdopfkkopgjaa.K
