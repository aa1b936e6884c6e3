import Derived.Test.YtpfbloddhfphiaaK0
import Derived.Test.YtpfbloddhfphiaaScanL
import Derived.Deep.DeepMust
import Derived.Test.YtpfbloddhfphiaaProg
import Derived.Below
import Derived.Deep.Draws
import Derived.Deep.AppendLies
import Derived.Maps.AppendAt
import Derived.OwnWalk
import Derived.Laws.BytesArg
import Derived.Laws.MakeOwn
import Derived.Laws.OwnMore
import Derived.Deep.OwnRows
import Derived.Tactics
import Derived.Lib.ConvBytes
import Derived.Laws.Slices
import Derived.WalkKit
import Derived.KernelRfl
import Derived.RowKit3
import Derived.Deep.LoopGhost
import Derived.Deep.QuietTactic
import Derived.BigQuiet
import Derived.WideLaws
import Derived.Deep.DeepCutAuto
import Derived.Deep.CutBlock
import Derived.Deep.RegionHeld3
import Derived.Deep.MidRow
import Derived.Laws.Rows
import Derived.Lib.AppendStr
import Derived.ArgAppend
import Derived.Laws.IdiomCopy
import Derived.OrdersHeld
import Derived.Laws.BitsLemmas
import Derived.RowKit
import Derived.RegionTactic
import Derived.Deep.RegionWith
import Derived.Lib.Hide
import Derived.Test.YtpfbloddhfphiaaWWords
import Derived.Test.YtpfbloddhfphiaaWLast
import Derived.Test.YtpfbloddhfphiaaWTab
import Derived.Test.YtpfbloddhfphiaaWFour
import Derived.Test.YtpfbloddhfphiaaWQPut
import Derived.Test.YtpfbloddhfphiaaWApart
import Derived.Test.YtpfbloddhfphiaaWArr
import Derived.Test.YtpfbloddhfphiaaWZeros
import Derived.Test.YtpfbloddhfphiaaWFoot
import Derived.Test.YtpfbloddhfphiaaWKept
import Derived.Test.YtpfbloddhfphiaaWShare
import Derived.Test.YtpfbloddhfphiaaWN
import Derived.Test.YtpfbloddhfphiaaWEqStruct
import Derived.Test.YtpfbloddhfphiaaWRepsOne
import Derived.Test.YtpfbloddhfphiaaWGuard
import Derived.Test.YtpfbloddhfphiaaWNEv
import Derived.Test.YtpfbloddhfphiaaWMore
import Derived.Deep.RegionLaw
import Derived.Laws.CopyOwn
namespace Go.Proofs.Ytpfbloddhfphiaa.K
open Go.RowKit Go.Proofs.YtpfbloddhfphiaaW.PrintWords Go.Proofs.YtpfbloddhfphiaaW.PrintLast Go.Proofs.YtpfbloddhfphiaaW.PrintMore
attribute [local go_sem] max2_int min2_int max_two min_two max_three min_three max_four min_four   -- for this text's walks alone
set_option linter.unusedVariables false
set_option linter.unusedSimpArgs false
set_option linter.unusedSectionVars false
/-! ### slices.Insert at ints (22): one contract out of the library's five -/
open Go.Shelf
/-- A row of ints of the call's own (it may begin inside its block). -/
def IQ (w : World) (base : Nat) (v : Value) (xs : List Int) : Prop := (Kd.int .i64).Q 3 w base (fun _ => True) v xs
theorem iq_row {w : World} {base : Nat} {v : Value} {xs : List Int} (h : IQ w base v xs) : QRow w base 3 1 v xs.length (encs (Value.int .i64) xs) := by
  obtain ⟨_, inner, h1, h2⟩ := h
  have e : inner = encs (Value.int .i64) xs := by
    have hl : inner.length = xs.length := by have := h2.1; rw [show (Kd.int .i64).sz = 1 from rfl, Nat.mul_one] at this; exact this
    refine List.ext_getElem? fun j => ?_
    by_cases c : j < xs.length
    · have h3 : (inner.drop (j * 1)).take 1 = [Value.int .i64 xs[j]] := h2.2 j _ (List.getElem?_eq_getElem c)
      rw [Nat.mul_one] at h3
      have h4 : ((inner.drop j).take 1)[0]? = inner[j]? := by rw [List.getElem?_take]; simp
      rw [← h4, h3]
      simp [encs, c]
    · rw [List.getElem?_eq_none (by omega), List.getElem?_eq_none (by rw [encs_length]; omega)]
  rw [← e]
  exact h1
theorem iq_of_row {w : World} {base : Nat} {v : Value} {xs : List Int} (h : QRow w base 3 1 v xs.length (encs (Value.int .i64) xs)) : IQ w base v xs :=
  ⟨fun _ _ => trivial, encs (Value.int .i64) xs, h, Kd.reps_scalar xs⟩
theorem iq_mk {w : World} {base g off cap : Nat} {cur : Array Value} {xs : List Int} (hb : base ≤ g) (hg : w.heap[g]? = some (.cells cur 3 (0, 0))) (hn : xs.length ≤ cap) (hm : off + cap ≤ maxLen) (hs : cur.size = off + cap) (hx : (cur.toList.drop off).take xs.length = encs (Value.int .i64) xs) :
    IQ w base (.slice (some ⟨g, off, none⟩) xs.length cap) xs :=
  iq_of_row ⟨by rw [encs_length, Nat.mul_one], .inr ⟨g, off, cap, cur, by rw [Nat.mul_one], hb, hg, hn, hm, by rw [Nat.mul_one]; exact hs, by rw [Nat.mul_one, Nat.mul_one]; exact hx⟩⟩
theorem sc_heap (b : Nat) : ∀ (vs : List Value) (o : Nat) (w : World) (cs : Array Value), w.heap[b]? = some (.cells cs 3 (0, 0)) →
    ∃ cs' : Array Value, (w.setCells b o vs).heap[b]? = some (.cells cs' 3 (0, 0)) ∧ cs'.size = cs.size ∧ (o + vs.length ≤ cs.size → cs'.toList = cs.toList.take o ++ vs ++ cs.toList.drop (o + vs.length))
  | [], o, w, cs, h => ⟨cs, h, rfl, fun _ => by simp⟩
  | v :: r, o, w, cs, h => by
    obtain ⟨cs', h1, h2, h3⟩ := sc_heap b r (o + 1) _ _ (blk_set h o v)
    refine ⟨cs', h1, by rw [h2, Array.size_setIfInBounds], fun hl => ?_⟩
    rw [List.length_cons] at hl
    have ho : o < cs.toList.length := by rw [Array.length_toList]; omega
    rw [h3 (by rw [Array.size_setIfInBounds]; omega), Array.toList_setIfInBounds, List.length_cons, List.drop_set_of_lt (by omega), List.take_add_one, List.take_set_of_le (by omega), List.getElem?_set_self ho]
    simp [Nat.add_assoc, Nat.add_comm 1]
theorem sc_grown (b : Nat) : ∀ (vs : List Value) (o : Nat) (w : World), w.grownBy (w.setCells b o vs) (some b)
  | [], _, w => World.grownBy.refl w _
  | v :: r, o, w => (show w.grownBy (w.setCell ⟨b, o, none⟩ v) (some b) from ⟨rfl, rfl, rfl, by simp [World.setCell], fun k _ hne => Below.heap_setCell w _ v k (fun e => hne (by rw [e]))⟩).trans (sc_grown b r (o + 1) _)
theorem drew_grown (w : World) : w.grownBy w.drew none := ⟨rfl, rfl, rfl, Nat.le_refl _, fun _ _ _ => rfl⟩
theorem iq_ins_mid (P a b S : List Value) (b0 x s : Value) (off i n : Nat) (hP : P.length = off) (ha : a.length = i) (hn : n = i + (b0 :: b).length) :
    let L0 := P ++ (a ++ b0 :: b) ++ s :: S
    let L1 := L0.take (off + (i + 1)) ++ (b0 :: b) ++ L0.drop (off + (i + 1) + (b0 :: b).length)
    let L2 := L1.take (off + i) ++ [x] ++ L1.drop (off + i + [x].length)
    (L2.drop off).take (n + 1) = a ++ x :: (b0 :: b) := by
  intro L0 L1 L2
  have e1 : L1 = (P ++ a) ++ b0 :: (b0 :: b ++ S) := by
    have t1 : L0.take (off + (i + 1)) = P ++ a ++ [b0] := by
      rw [show L0 = (P ++ a ++ [b0]) ++ (b ++ s :: S) by simp [L0]]
      exact List.take_left' (by simp only [List.length_append, List.length_cons, List.length_nil]; omega)
    have t2 : L0.drop (off + (i + 1) + (b0 :: b).length) = S := by
      rw [show L0 = (P ++ a ++ b0 :: b ++ [s]) ++ S by simp [L0]]
      exact List.drop_left' (by simp only [List.length_append, List.length_cons, List.length_nil]; omega)
    show L0.take _ ++ _ ++ L0.drop _ = _
    rw [t1, t2]
    simp
  have e2 : L2 = (P ++ a) ++ [x] ++ (b0 :: b ++ S) := by
    have t1 : L1.take (off + i) = P ++ a := by rw [e1]; exact List.take_left' (by simp [hP, ha])
    have t2 : L1.drop (off + i + [x].length) = b0 :: b ++ S := by
      rw [e1, show (P ++ a) ++ b0 :: (b0 :: b ++ S) = (P ++ a ++ [b0]) ++ (b0 :: b ++ S) by simp]
      exact List.drop_left' (by simp only [List.length_append, List.length_cons, List.length_nil]; omega)
    show L1.take _ ++ _ ++ L1.drop _ = _
    rw [t1, t2]
  rw [e2, show (P ++ a) ++ [x] ++ (b0 :: b ++ S) = P ++ ((a ++ x :: b0 :: b) ++ S) by simp, List.drop_left' hP]
  exact List.take_left' (by simp [ha, hn]; omega)
theorem iq_ins_new (a b Z : List Value) (x : Value) (i n : Nat) (ha : a.length = i) (hn : n = i + b.length) (hZ : b.length + 1 ≤ Z.length) :
    let L0 := a ++ Z
    let L1 := L0.take i ++ [x] ++ L0.drop (i + [x].length)
    let L2 := L1.take (i + 1) ++ b ++ L1.drop (i + 1 + b.length)
    L2.take (n + 1) = a ++ x :: b := by
  intro L0 L1 L2
  have e1 : L1 = a ++ [x] ++ Z.drop 1 := by
    have t1 : L0.take i = a := List.take_left' ha
    have t2 : L0.drop (i + [x].length) = Z.drop 1 := by show (a ++ Z).drop (i + 1) = _; rw [← List.drop_drop, List.drop_left' ha]
    show L0.take _ ++ _ ++ L0.drop _ = _
    rw [t1, t2]
  have e2 : L1.take (i + 1) = a ++ [x] := by rw [e1]; exact List.take_left' (by simp [ha])
  show (L1.take (i + 1) ++ b ++ _).take (n + 1) = _
  rw [e2, show a ++ [x] ++ b = a ++ x :: b by simp]
  exact List.take_left' (by simp [ha, hn]; omega)
def InsPost (base : Nat) (v : Value) (ys : List Int) (w : World) (e : Ending) (w' : World) : Prop :=
  ∃ v', e = .returned v' ∧ IQ w' base v' ys ∧ w.grownBy w' v.ownBlock ∧ (v'.ownBlock = v.ownBlock ∨ ∃ b, v'.ownBlock = some b ∧ w.heap.size ≤ b)

theorem encs_take (xs : List Int) (i : Nat) : encs (Value.int .i64) (xs.take i) = (encs (Value.int .i64) xs).take i := by simp [encs]
theorem encs_drop (xs : List Int) (i : Nat) : encs (Value.int .i64) (xs.drop i) = (encs (Value.int .i64) xs).drop i := by simp [encs]
theorem encs_one (xs : List Int) : ∀ v ∈ encs (Value.int .i64) xs, v.oneCell' = true := by
  intro v hv
  obtain ⟨x, _, rfl⟩ := List.mem_map.1 hv
  rfl
theorem one_one (x : Int) : ∀ v ∈ [Value.int .i64 x], v.oneCell' = true := by
  intro v hv
  obtain rfl := List.mem_singleton.1 hv
  rfl
theorem iq_ys (xs : List Int) (x : Int) (i : Nat) : encs (Value.int .i64) (xs.take i ++ x :: xs.drop i) = (encs (Value.int .i64) xs).take i ++ Value.int .i64 x :: (encs (Value.int .i64) xs).drop i := by
  simp [encs]
theorem iq_ys_end (xs : List Int) (x : Int) : encs (Value.int .i64) (xs.take xs.length ++ x :: xs.drop xs.length) = encs (Value.int .i64) xs ++ [Value.int .i64 x] := by
  simp [encs]
theorem grown_but {a c : World} (h : a.grownBy c none) (row : Option Nat) : a.grownBy c row := ⟨h.os, h.tape, h.output, h.size, fun i hi _ => h.block i hi (by simp)⟩
theorem grown_then {a b c : World} {j : Nat} (h : a.grownBy b none) (k : b.grownBy c (some j)) (hj : a.heap.size ≤ j) : a.grownBy c none :=
  ⟨k.os.trans h.os, k.tape.trans h.tape, k.output.trans h.output, Nat.le_trans h.size k.size, fun i hi _ => (k.block i (Nat.lt_of_lt_of_le hi h.size) (fun e => by injection e with e; omega)).trans (h.block i hi (by simp))⟩
theorem iq_ylen (xs : List Int) (x : Int) (i : Nat) (hi : i ≤ xs.length) : (xs.take i ++ x :: xs.drop i).length = xs.length + 1 := by
  simp; omega
theorem ins_end_new (base : Nat) (A : Option Addr) (c : Nat) (xs : List Int) (x : Int) (gv : Nat) (w : World) (hA : A = none → xs.length = 0)
    (hcs : ∀ a, A = some a → ∀ j v, (encs (Value.int .i64) xs)[j]? = some v → w.cell? (a.add j) = some v) (hc : xs.length ≤ c) (hroom : c < xs.length + 1) (hl : xs.length ≤ 1000)
    (hv : w.heap[gv]? = some (.cells #[.int .i64 x] 3 (0, 0))) (hb : base ≤ w.heap.size) :
    Calls Try.prog 22 #[.slice A xs.length c, .int .i64 (xs.length : Int), .slice (some ⟨gv, 0, none⟩) 1 1] w (InsPost base (.slice A xs.length c) (xs.take xs.length ++ x :: xs.drop xs.length) w) := by
  have h := Any2.slices_Insert_int_end_grow insL A xs.length c gv 0 1 1 (encs (Value.int .i64) xs) [Value.int .i64 x] w (by omega) hc hroom (by omega) (encs_length xs) rfl hA hcs
    (fun j v hj => by
      have hj0 : j = 0 := by have := (List.getElem?_eq_some_iff.1 hj).1; simpa using this
      subst hj0
      have : v = Value.int .i64 x := by simpa using hj.symm
      subst this
      exact (blk_cell hv 0).trans rfl) (one_one x)
  refine Calls.mono h ?_
  rintro e w' ⟨rfl, rfl⟩
  have hcap := grownCap_ge w (xs.length + 1) c 3
  have hcm := grownCap_le_maxLen w (xs.length + 1) c 3 (by unfold maxLen; omega)
  have hg : w.grownBy (w.drew.alloc (.cells ((encs (Value.int .i64) xs ++ [Value.int .i64 x]).toArray ++ Builtin.zeroCells (Value.int .i64 0).cells (grownCap w (xs.length + 1) c 3 - (xs.length + 1))) 3)) none := (drew_grown w).trans (World.grownBy_alloc _ _ _)
  have hylen := iq_ylen xs x xs.length (Nat.le_refl _)
  refine ⟨_, rfl, ?_, grown_but hg _, .inr ⟨w.heap.size, rfl, Nat.le_refl _⟩⟩
  rw [← hylen]
  refine iq_mk hb (heap_alloc_new w.drew _) (by rw [hylen]; exact hcap) (by rw [hylen, Nat.zero_add]; exact hcm) ?_ ?_
  · rw [hylen, Array.size_append, size_zeroCells]
    simp [encs_length, Value.cells]
    have : xs.length + 1 ≤ grownCap w (xs.length + 1) c 3 := hcap
    show xs.length + 1 + (grownCap w (xs.length + 1) c 3 - (xs.length + 1)) = grownCap w (xs.length + 1) c 3
    omega
  · rw [hylen, iq_ys_end, List.drop_zero, Array.toList_append]
    exact List.take_left' (by rw [List.toList_toArray, List.length_append, encs_length]; rfl)

theorem row_cells {w : World} {g off cap : Nat} {cur : Array Value} {n : Nat} {xs : List Value} (hg : w.heap[g]? = some (.cells cur 3 (0, 0))) (hx : (cur.toList.drop off).take n = xs) :
    ∀ j v, xs[j]? = some v → w.cell? ⟨g, off + j, none⟩ = some v := by
  intro j v hj
  rw [blk_cell hg]
  rw [← hx, List.getElem?_take] at hj
  split at hj
  · rw [List.getElem?_drop, Array.getElem?_toList] at hj
    exact hj
  · exact absurd hj (by simp)
theorem row_split {L : List Value} {off n : Nat} {xs : List Value} (hx : (L.drop off).take n = xs) : L = L.take off ++ xs ++ L.drop (off + n) := by
  rw [← hx, ← List.drop_drop, List.append_assoc, List.take_append_drop, List.take_append_drop]
theorem ins_calls (base : Nat) (v : Value) (xs : List Int) (i : Nat) (x : Int) (gv : Nat) (w : World) (hQ : IQ w base v xs) (hi : i ≤ xs.length) (hl : xs.length ≤ 1000)
    (hv : w.heap[gv]? = some (.cells #[.int .i64 x] 3 (0, 0))) (hne : v.ownBlock ≠ some gv) (hb : base ≤ w.heap.size) :
    Calls Try.prog 22 #[v, .int .i64 (i : Int), .slice (some ⟨gv, 0, none⟩) 1 1] w (InsPost base v (xs.take i ++ x :: xs.drop i) w) := by
  have hvs : ∀ (j : Nat) (u : Value), [Value.int .i64 x][j]? = some u → w.cell? ⟨gv, 0 + j, none⟩ = some u := fun j u hj => by
    have hj0 : j = 0 := by have := (List.getElem?_eq_some_iff.1 hj).1; simpa using this
    subst hj0
    have : u = Value.int .i64 x := by simpa using hj.symm
    subst this
    exact (blk_cell hv 0).trans rfl
  obtain ⟨hlen, hr⟩ := iq_row hQ
  have hylen := iq_ylen xs x i hi
  rcases hr with ⟨h0, A, rfl, hA⟩ | ⟨g, off, cap, cur, rfl, hbg, hg, hn, hm, hs, hx⟩
  · have hi0 : i = xs.length := by omega
    subst hi0
    have := ins_end_new base A 0 xs x gv w (fun _ => h0) (fun a _ j u hj => by
      have := (List.getElem?_eq_some_iff.1 hj).1
      rw [encs_length] at this; omega) (by omega) (by omega) hl hv hb
    rw [h0] at this ⊢
    exact this
  · rw [Nat.mul_one] at hx hs hne ⊢
    rw [Nat.mul_one] at hx
    have hsl : cur.toList.length = off + cap := by rw [Array.length_toList, hs]
    have hcells := row_cells (cap := cap) hg hx
    have hsplit := row_split hx
    have hPl : (cur.toList.take off).length = off := by rw [List.length_take]; omega
    have hfz : ∀ j, w.frozen? ⟨g, j, none⟩ = false := fun j => blk_frozen hg j
    have hsome : ∀ j, j < off + cap → (w.cell? ⟨g, j, none⟩).isSome = true := fun j hj => by
      rw [blk_cell hg, Array.getElem?_eq_getElem (by omega)]; rfl
    have hgv : gv ≠ g := fun e => hne (by rw [e]; rfl)
    by_cases hroom : xs.length + 1 ≤ cap
    · -- in place
      by_cases he : i = xs.length
      · subst he
        have h := Any2.slices_Insert_int_end_room insL g off xs.length cap gv 0 1 1 [Value.int .i64 x] w (by omega) hroom (by unfold maxLen at hm; omega) rfl (fun j hj => hsome _ (by omega)) (fun j _ => hfz _) hvs (one_one x)
        refine Calls.mono h ?_
        rintro e w' ⟨rfl, rfl⟩
        obtain ⟨cs', h1, h2, h3⟩ := sc_heap g [Value.int .i64 x] (off + xs.length) w cur hg
        have h4 := h3 (by rw [List.length_singleton]; omega)
        refine ⟨_, rfl, ?_, sc_grown g _ _ w, .inl rfl⟩
        rw [← hylen]
        refine iq_mk hbg h1 (by rw [hylen]; exact hroom) hm (by rw [h2, hs]) ?_
        rw [hylen, iq_ys_end, h4]
        have e1 : cur.toList.take (off + xs.length) = cur.toList.take off ++ encs (Value.int .i64) xs := by
          rw [List.take_add, hx]
        rw [e1, List.append_assoc, List.append_assoc, List.drop_left' hPl, ← List.append_assoc]
        exact List.take_left' (by simp [encs_length])
      · have hlt : i < xs.length := by omega
        have h := Any2.slices_Insert_int_shift insL g off xs.length cap i gv 0 1 1 (encs (Value.int .i64) xs) [Value.int .i64 x] w hlt (by omega) hroom (by unfold maxLen at hm; omega) hgv (encs_length xs) rfl hcells (fun j hj => hsome _ (by omega)) (fun j _ => hfz _) hvs (encs_one xs) (one_one x)
          3 3 1 (off + cap) (by rw [World.shape?, hv]; rfl) (by rw [World.shape?, hg]; show some (3, cur.size) = _; rw [hs]) (by omega) (blk_frozen hv _) (blk_frozen hv _)
        refine Calls.mono h ?_
        rintro e w' ⟨rfl, rfl⟩
        obtain ⟨c1, a1, a2, a3⟩ := sc_heap g ((encs (Value.int .i64) xs).drop i) (off + (i + 1)) w.drew cur hg
        obtain ⟨c2, b1, b2, b3⟩ := sc_heap g [Value.int .i64 x] (off + i) _ c1 a1
        have hdl : ((encs (Value.int .i64) xs).drop i).length = xs.length - i := by rw [List.length_drop, encs_length]
        have a4 := a3 (by rw [hdl]; omega)
        have b4 := b3 (by rw [List.length_singleton]; omega)
        refine ⟨_, rfl, ?_, ((grown_but (drew_grown w) _).trans (sc_grown g _ _ _)).trans (sc_grown g _ _ _), .inl rfl⟩
        rw [← hylen]
        refine iq_mk hbg b1 (by rw [hylen]; exact hroom) hm (by rw [b2, a2, hs]) ?_
        rw [hylen, iq_ys, b4, a4]
        obtain ⟨b0, b', hbe⟩ : ∃ b0 b', (encs (Value.int .i64) xs).drop i = b0 :: b' := by
          cases hd : (encs (Value.int .i64) xs).drop i with
          | nil => rw [hd] at hdl; simp at hdl; omega
          | cons b0 b' => exact ⟨b0, b', rfl⟩
        obtain ⟨s0, S, hse⟩ : ∃ s0 S, cur.toList.drop (off + xs.length) = s0 :: S := by
          cases hd : cur.toList.drop (off + xs.length) with
          | nil =>
            have := congrArg List.length hd
            rw [List.length_drop, hsl] at this
            simp at this; omega
          | cons b0 b' => exact ⟨b0, b', rfl⟩
        have hmid := iq_ins_mid (cur.toList.take off) ((encs (Value.int .i64) xs).take i) b' S b0 (Value.int .i64 x) s0 off i xs.length hPl (by rw [List.length_take, encs_length]; omega) (by rw [← hbe, hdl]; omega)
        rw [← hbe, List.take_append_drop, ← hse, ← hsplit] at hmid
        exact hmid
    · by_cases he : i = xs.length
      · subst he
        exact ins_end_new base (some ⟨g, off, none⟩) cap xs x gv w (fun h => absurd h (by simp)) (fun a ha j u hj => by
          obtain rfl : (⟨g, off, none⟩ : Addr) = a := by simpa using ha
          rw [Addr.add_lit]
          exact hcells j u hj) hn (by omega) hl hv hb
      · have hlt : i < xs.length := by omega
        have h := Any2.slices_Insert_int_grow insL g off xs.length cap i gv 0 1 1 (encs (Value.int .i64) xs) [Value.int .i64 x] w hlt (by omega) hn (by omega) (by omega) (encs_length xs) rfl hcells hvs (encs_one xs) (one_one x)
        refine Calls.mono h ?_
        rintro e w' ⟨he1, hw1⟩
        have hcap := grownCap_ge w (xs.length + 1) cap 3
        have hcm := grownCap_le_maxLen w (xs.length + 1) cap 3 (by unfold maxLen; omega)
        obtain ⟨G, hG⟩ : ∃ G, grownCap w (xs.length + 1) cap 3 = G := ⟨_, rfl⟩
        have he2 : e = Ending.returned (Value.slice (some ⟨w.heap.size, 0, none⟩) (xs.length + 1) (grownCap w (xs.length + 1) cap 3)) := he1
        have hw2 : w' = ((w.alloc (.cells (((encs (Value.int .i64) xs).take i).toArray ++ Builtin.zeroCells (Value.int .i64 0).cells (xs.length + 1 - i) ++ Builtin.zeroCells (Value.int .i64 0).cells (grownCap w (xs.length + 1) cap 3 - (xs.length + 1))) 3)).drew.setCells w.heap.size i [Value.int .i64 x]).drew.setCells w.heap.size (i + 1) ((encs (Value.int .i64) xs).drop i) := hw1
        clear he1 hw1
        rw [hG] at he2 hw2
        subst he2
        rw [hG] at hcap hcm
        obtain ⟨cz, hcz⟩ : ∃ cz, ((encs (Value.int .i64) xs).take i).toArray ++ Builtin.zeroCells (Value.int .i64 0).cells (xs.length + 1 - i) ++ Builtin.zeroCells (Value.int .i64 0).cells (G - (xs.length + 1)) = cz := ⟨_, rfl⟩
        have hczl : cz.toList = (encs (Value.int .i64) xs).take i ++ (Builtin.zeroCells (Value.int .i64 0).cells (xs.length + 1 - i) ++ Builtin.zeroCells (Value.int .i64 0).cells (G - (xs.length + 1))).toList := by rw [← hcz]; simp
        have htl : ((encs (Value.int .i64) xs).take i).length = i := by rw [List.length_take, encs_length]; omega
        have hdl : ((encs (Value.int .i64) xs).drop i).length = xs.length - i := by rw [List.length_drop, encs_length]
        have hZ : (Builtin.zeroCells (Value.int .i64 0).cells (xs.length + 1 - i) ++ Builtin.zeroCells (Value.int .i64 0).cells (G - (xs.length + 1))).toList.length = G - i := by
          rw [Array.length_toList, Array.size_append, size_zeroCells, size_zeroCells]
          show (xs.length + 1 - i) * 1 + (G - (xs.length + 1)) * 1 = G - i
          omega
        have hczs : cz.size = G := by
          rw [← Array.length_toList, hczl, List.length_append, htl, hZ]; omega
        rw [hcz] at hw2
        subst hw2
        obtain ⟨c1, a1, a2, a3⟩ := sc_heap w.heap.size [Value.int .i64 x] i (w.alloc (.cells cz 3)).drew cz (heap_alloc_new w _)
        obtain ⟨c2, b1, b2, b3⟩ := sc_heap w.heap.size ((encs (Value.int .i64) xs).drop i) (i + 1) ((w.alloc (.cells cz 3)).drew.setCells w.heap.size i [Value.int .i64 x]).drew c1 a1
        have a4 := a3 (by rw [List.length_singleton]; omega)
        have b4 := b3 (by rw [hdl]; omega)
        have hgr : w.grownBy ((w.alloc (.cells cz 3)).drew.setCells w.heap.size i [Value.int .i64 x]).drew none :=
          (grown_then ((World.grownBy_alloc w _ none).trans (drew_grown _)) (sc_grown w.heap.size _ _ _) (Nat.le_refl _)).trans (drew_grown _)
        refine ⟨_, rfl, ?_, grown_but (grown_then hgr (sc_grown w.heap.size _ _ _) (Nat.le_refl _)) _, .inr ⟨w.heap.size, rfl, Nat.le_refl _⟩⟩
        rw [← hylen]
        refine iq_mk hb b1 (by rw [hylen]; exact hcap) (by rw [Nat.zero_add]; exact hcm) (by rw [b2, a2, hczs, Nat.zero_add]) ?_
        rw [hylen, iq_ys, b4, a4, hczl, List.drop_zero]
        exact iq_ins_new ((encs (Value.int .i64) xs).take i) ((encs (Value.int .i64) xs).drop i) _ (Value.int .i64 x) i xs.length htl (by rw [hdl]; omega) (by rw [hdl, hZ]; omega)
end Go.Proofs.Ytpfbloddhfphiaa.K
