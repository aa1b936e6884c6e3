import Derived.Test.YtjfleaekljapeaaDoorK0
import Derived.Test.YtjfleaekljapeaaDoorK24
import Derived.Test.YtjfleaekljapeaaDoorK28
import Derived.Test.YtjfleaekljapeaaDoorFlowA
import Derived.Test.YtjfleaekljapeaaDoorFlowS
import Derived.Deep.DeepMust
import Derived.Test.YtjfleaekljapeaaDoorProg
import Derived.Below
import Derived.Deep.Draws
import Derived.Deep.AppendLies
import Derived.Maps.AppendAt
import Derived.OwnWalk
import Derived.Laws.BytesArg
import Derived.Laws.MakeOwn
import Derived.Laws.OwnMore
import Derived.Deep.OwnRows
import Derived.Tactics
import Derived.Lib.ConvBytes
import Derived.Laws.Slices
import Derived.WalkKit
import Derived.KernelRfl
import Derived.RowKit3
import Derived.Deep.LoopGhost
import Derived.Deep.QuietTactic
import Derived.BigQuiet
import Derived.WideLaws
import Derived.Deep.DeepCutAuto
import Derived.Deep.CutBlock
import Derived.Deep.RegionHeld3
import Derived.Laws.Rows
import Derived.Lib.AppendStr
import Derived.ArgAppend
import Derived.Laws.IdiomCopy
import Derived.OrdersHeld
import Derived.Laws.BitsLemmas
import Derived.RowKit
import Derived.RegionTactic
import Derived.Deep.RegionWith
import Derived.Lib.Hide
import Derived.Test.YtjfleaekljapeaaDoorWWords
import Derived.Test.YtjfleaekljapeaaDoorWLast
import Derived.Test.YtjfleaekljapeaaDoorWTab
import Derived.Test.YtjfleaekljapeaaDoorWFour
import Derived.Test.YtjfleaekljapeaaDoorWQPut
import Derived.Test.YtjfleaekljapeaaDoorWApart
import Derived.Test.YtjfleaekljapeaaDoorWArr
import Derived.Test.YtjfleaekljapeaaDoorWZeros
import Derived.Test.YtjfleaekljapeaaDoorWFoot
import Derived.Test.YtjfleaekljapeaaDoorWKept
import Derived.Test.YtjfleaekljapeaaDoorWShare
import Derived.Test.YtjfleaekljapeaaDoorWN
import Derived.Test.YtjfleaekljapeaaDoorWEqStruct
import Derived.Test.YtjfleaekljapeaaDoorWRepsOne
import Derived.Test.YtjfleaekljapeaaDoorWGuard
import Derived.Test.YtjfleaekljapeaaDoorWNEv
import Derived.Test.YtjfleaekljapeaaDoorWMore
import Derived.Deep.RegionLaw
import Derived.Laws.CopyOwn
import Derived.Shelf.Spec.TrailingZeros
namespace Go.Proofs.YtjfleaekljapeaaDoor.K
open Go.RowKit Go.Proofs.YtjfleaekljapeaaDoorW.PrintWords Go.Proofs.YtjfleaekljapeaaDoorW.PrintLast Go.Proofs.YtjfleaekljapeaaDoorW.PrintMore
attribute [local go_sem] max2_int min2_int max_two min_two max_three min_three max_four min_four   -- for this text's walks alone
set_option linter.unusedVariables false
set_option linter.unusedSimpArgs false
set_option linter.unusedSectionVars false
/-! ### slices.Repeat at one span: function 27 -/
theorem and32 (n : Nat) (h : n < 4294967296) : Go.bits .and .u64 (n : Int) 4294967295 = (n : Int) := by
  have e := bits_and_u64_nat n 4294967295 (by omega) (by omega)
  have e2 : n &&& 4294967295 = n := by
    have := Nat.and_two_pow_sub_one_eq_mod n 32
    rw [show (2 : Nat) ^ 32 - 1 = 4294967295 by rfl] at this
    rw [this]
    omega
  rw [e2] at e
  exact e
theorem mul_f (n : Nat) (h : n ≤ 1000000) : bits_Mul.f 1 (n : Int) = some (0, (n : Int)) := by
  have h1 : Go.bits .and .u64 1 4294967295 = 1 := by decide +kernel
  have h0 : Go.bits .and .u64 0 4294967295 = 0 := by decide +kernel
  have h2 := and32 n (by omega)
  have e1 : (1 : Int) / 4294967296 = 0 := by omega
  have e2 : (n : Int) / 4294967296 = 0 := by omega
  have ew : ∀ x : Int, 0 ≤ x → x < 18446744073709551616 → IntKind.u64.wrap x = x := fun x a b => by rw [IntKind.wrap_u64]; omega
  have w0 : IntKind.u64.wrap 0 = 0 := ew 0 (by omega) (by omega)
  have wn : IntKind.u64.wrap (n : Int) = n := ew _ (by omega) (by omega)
  have ez : (0 : Int) / 4294967296 = 0 := by omega
  unfold bits_Mul.f bits_Mul64.f
  simp only [h1, h2, e1, e2, Int.one_mul, Int.zero_mul, Int.mul_zero, w0, wn, Int.zero_add, Int.add_zero, h0, ez, Option.bind_some]
def spCells (n : Nat) (a b : Int) : List Value := (List.replicate n [Value.int .i64 a, Value.int .i64 b]).flatten
theorem spCells_len (n : Nat) (a b : Int) : (spCells n a b).length = 2 * n := by
  induction n with
  | zero => rfl
  | succ n ih => unfold spCells at *; rw [List.replicate_succ, List.flatten_cons, List.length_append, ih]; simp; omega
theorem spCells_add (m n : Nat) (a b : Int) : spCells (m + n) a b = spCells m a b ++ spCells n a b := by
  unfold spCells
  rw [← List.flatten_append, List.replicate_append_replicate]
theorem spCells_one (n : Nat) (a b : Int) : ∀ v ∈ spCells n a b, v.oneCell' = true := by
  intro v hv
  unfold spCells at hv
  rw [List.mem_flatten] at hv
  obtain ⟨l, hl, hv⟩ := hv
  obtain rfl := List.eq_of_mem_replicate hl
  simp at hv
  rcases hv with rfl | rfl <;> rfl
theorem rp_info39 : (Tryd.prog.info? 39).map (fun i => (i.zero, i.size, i.bytes)) = some (some (.agg #[.int .i64 0, .int .i64 0]), 2, 16) := by kernel_rfl
theorem rp_make (n : Nat) (hn : n ≤ 1000000) : ∃ mc : List Value, mc.length = 2 * n ∧ ∀ W : World, (Instr.makeSlice 33 (.int .i64 (n : Int)) (.int .i64 (n : Int))).run Tryd.prog W = .ok (.slice (some ⟨W.heap.size, 0, none⟩) n n) (W.alloc (.cells mc.toArray 39)) := by
  obtain ⟨i, hi, hz⟩ := Option.map_eq_some_iff.1 rp_info39
  simp only [Prod.mk.injEq] at hz
  obtain ⟨hz0, hz1, hz2⟩ := hz
  refine ⟨(madeCells (Value.agg #[Value.int .i64 0, Value.int .i64 0]).cells (n * 2)).toList, by rw [Array.length_toList, size_madeCells]; omega, fun W => ?_⟩
  have hr := run_make (P := Tryd.prog) W 33 39 i _ Tryd.underlying33 hi hz0 .i64 .i64 (n : Int) (n : Int) (by omega) (by omega) (by rw [hz2]; omega) (by omega)
  rw [Int.toNat_natCast, hz1] at hr
  simpa using hr
theorem rp_copy (w : World) (g o dLen dCap : Nat) (a : Addr) (sLen sCap : Nat) (cur : List Value) (t ty : TypeId) (cs : List Value) (k : Nat) (hk : Nat.min sLen dLen = k)
    (hg : w.heap[g]? = some (.cells cur.toArray t (0, 0))) (hn : cs.length = k * 2) (hsrc : ∀ j v, cs[j]? = some v → w.cell? (a.add j) = some v) (hfit : o + cs.length ≤ cur.length) (h1 : ∀ v ∈ cs, v.oneCell' = true) :
    (Builtin.copy_ #[33, 33] ty #[.slice (some ⟨g, o, none⟩) dLen dCap, .slice (some a) sLen sCap]).run Tryd.prog w = .ok (goInt k) (w.setRow g (cur.take o ++ cs ++ cur.drop (o + cs.length)).toArray) := by
  have hl := run_loadCells_list (P := Tryd.prog) w a cs hsrc
  have hst := run_storeCells_at Tryd.prog g o t cs 0 cur.toArray w hg (by simpa using hfit) h1
  obtain ⟨i, hi, hz⟩ := Option.map_eq_some_iff.1 rp_info39
  simp only [Prod.mk.injEq] at hz
  obtain ⟨hz0, hz1, hz2⟩ := hz
  rw [hn] at hl
  simp [Builtin.copy_, run_underlying Tryd.underlying33, Builtin.lenOf, Builtin.firstCells, sizeOf, typeInfo, hi, hz1, hk, hl, hst]
theorem rp_step {ops : Array Oper} {o : Oper} {a : Act} {Q : Exit → Act → World → Prop} {Kc : Act → World → Prop} {E : Prop} {w : World} (hg : o.guard = none) (d s : Operand) (ho : o.op = .call { callee := .builtin .copy, args := #[d, s], argTypes := #[33, 33] })
    (va vb : Value) (hd : a.eval d = va) (hs : a.eval s = vb) (r : Value) (w1 : World) (hrun : (Builtin.copy_ #[33, 33] o.type #[va, vb]).run Tryd.prog w = .ok r w1) (hK : Kc (a.put o.dst r) w1) :
    if Region.wanted o (yielded ops a.tmps) = true then Oper.wp Tryd.prog o a w Kc Q else E := by
  have hw : Region.wanted o (yielded ops a.tmps) = true := by simp [Region.wanted, hg]
  rw [if_pos hw]
  unfold Oper.wp
  simp [execOp, ho, resolve, invoke, builtin, hd, hs, hrun, Result.andThen]
  exact hK
theorem rp_list {ops : Array Oper} {rest : List Oper} {o : Oper} {a : Act} {Q : Exit → Act → World → Prop} {w : World} (hg : o.guard = none) (d s : Operand) (ho : o.op = .call { callee := .builtin .copy, args := #[d, s], argTypes := #[33, 33] })
    (va vb : Value) (hd : a.eval d = va) (hs : a.eval s = vb) (r : Value) (w1 : World) (hrun : (Builtin.copy_ #[33, 33] o.type #[va, vb]).run Tryd.prog w = .ok r w1) (hK : wpList Tryd.prog ops Q rest (a.put o.dst r) w1) :
    wpList Tryd.prog ops Q (o :: rest) a w := by
  refine wpList_plain hg fun K hK2 => ?_
  unfold Oper.wp
  simp [execOp, ho, resolve, invoke, builtin, hd, hs, hrun, Result.andThen]
  exact hK2 _ _ hK
theorem rp_src {W : World} {gx k : Nat} (h : W.heap[gx]? = some (.cells #[.int .i64 0, .int .i64 (-1)] 39 (0, 0))) (hk : k ≤ 1) : ∀ (j : Nat) (v : Value), (spCells k 0 (-1))[j]? = some v → W.cell? ((⟨gx, 0, none⟩ : Addr).add j) = some v := by
  intro j v hj
  rw [add_plain, blk_cell h]
  have hk2 : k = 0 ∨ k = 1 := by omega
  rcases hk2 with rfl | rfl
  · simp [spCells] at hj
  · rw [show spCells 1 0 (-1) = [Value.int .i64 0, Value.int .i64 (-1)] from rfl] at hj
    exact (by simpa using hj)
theorem rp_next {W : World} {g n f k : Nat} {rest cur : List Value} (hc : cur = spCells f 0 (-1) ++ rest) (hl : rest.length = 2 * (n - f))
    (h : W.heap[g]? = some (.cells (cur.take (2 * f) ++ spCells k 0 (-1) ++ cur.drop (2 * f + (spCells k 0 (-1)).length)).toArray 39 (0, 0))) (hk : f + k ≤ n) :
    ∃ rest2 : List Value, rest2.length = 2 * (n - (f + k)) ∧ W.heap[g]? = some (.cells (spCells (f + k) 0 (-1) ++ rest2).toArray 39 (0, 0)) := by
  subst hc
  refine ⟨rest.drop (2 * k), by rw [List.length_drop, hl]; omega, ?_⟩
  have e : (spCells f 0 (-1) ++ rest).take (2 * f) ++ spCells k 0 (-1) ++ (spCells f 0 (-1) ++ rest).drop (2 * f + (spCells k 0 (-1)).length) = spCells (f + k) 0 (-1) ++ rest.drop (2 * k) := by
    rw [spCells_add, List.take_left' (spCells_len f 0 (-1)), spCells_len k, ← List.drop_drop, List.drop_left' (spCells_len f 0 (-1))]
  rw [h, e]
theorem rp_first {W : World} {g n k : Nat} {mc : List Value} (hl : mc.length = 2 * n) (h : W.heap[g]? = some (.cells (spCells k 0 (-1) ++ mc.drop (spCells k 0 (-1)).length).toArray 39 (0, 0))) (hk : k ≤ n) :
    ∃ rest2 : List Value, rest2.length = 2 * (n - k) ∧ W.heap[g]? = some (.cells (spCells k 0 (-1) ++ rest2).toArray 39 (0, 0)) := by
  have := rp_next (f := 0) (rest := mc) (cur := mc) (n := n) (k := k) (by rfl) (by rw [hl]; simp) (by simpa using h) (by omega)
  rw [Nat.zero_add] at this
  exact this
/-- f elements are laid; the rest is whatever it is. -/
structure RpSt (w0 w : World) (g n f : Nat) : Prop where
  hg : ∃ rest : List Value, rest.length = 2 * (n - f) ∧ w.heap[g]? = some (.cells (spCells f 0 (-1) ++ rest).toArray 39 (0, 0))
  lo : w0.heap.size ≤ g
  below : Below w0.heap.size w0 w
def RepPost (n : Nat) (w : World) (e : Ending) (w' : World) : Prop := ∃ g, e = .returned (.slice (some ⟨g, 0, none⟩) n n) ∧ w'.heap[g]? = some (.cells (spCells n 0 (-1)).toArray 39 (0, 0)) ∧ w.heap.size ≤ g ∧ Below w.heap.size w w'
set_option maxHeartbeats 2000000 in
set_option maxRecDepth 100000 in
theorem rep_calls (gx n : Nat) (w : World) (hx : w.heap[gx]? = some (.cells #[.int .i64 0, .int .i64 (-1)] 39 (0, 0))) (hn : n ≤ 1000000) :
    Calls Tryd.prog 27 #[.slice (some ⟨gx, 0, none⟩) 1 1, .int .i64 (n : Int)] w (RepPost n w) := by
  obtain ⟨mc, hmc, hmk⟩ := rp_make n hn
  have HMC := Aside0.mk hmc
  have HX := Aside0.mk hx
  have HB := Aside0.mk (Below.refl w.heap.size w)
  have n0 : 0 ≤ (n : Int) := by omega
  have n1 : (n : Int) ≤ 1000000 := by omega
  have HMUL := Aside0.mk (mul_f n hn)
  clear hmc hx
  go_enter Tryd.func27, Tryd.ntmps27
  go_upto_region 6 with (first | (go_at_call 48; (with_reducible refine (bits_Mul.calls 1 (n : Int) 0 (n : Int) _ HMUL.out).mono ?_); rintro e w18 ⟨rfl, hd⟩; obtain ⟨nq, rfl⟩ := hd.out))
  go_cut [7] (fun v7 wc => ∃ g, v7 = .slice (some ⟨g, 0, none⟩) n n ∧ Aside0 (wc.heap[g]? = some (.cells mc.toArray 39 (0, 0))) ∧ Aside0 (wc.heap[gx]? = some (.cells #[.int .i64 0, .int .i64 (-1)] 39 (0, 0))) ∧ Aside0 (w.heap.size ≤ g) ∧ Aside0 (Below w.heap.size w wc))
  case first =>
    go_wp2
    go_meet
    case rel => exact ⟨_, rfl, ⟨heap_alloc_new (w.drewN nq) _⟩, ⟨lv_al (w := w.drewN nq) HX.out _⟩, ⟨Nat.le_refl _⟩, ⟨(pw_below_drewN (Below.refl w.heap.size w) nq).alloc (Nat.le_refl _) _⟩⟩
  case rest =>
    obtain ⟨g, rfl, HG, HX2, HLO, HB2⟩ := hcut
    obtain ⟨k, hk⟩ : ∃ k, Nat.min 1 n = k := ⟨_, rfl⟩
    have hk1 : k ≤ n ∧ k ≤ 1 ∧ (1 ≤ n → k = 1) := by rw [← hk]; simp only [Nat.min_def]; split <;> omega
    have HK := Aside0.mk hk
    have HK1 := Aside0.mk hk1
    clear hk hk1
    go_upto_region 7 with (fail)
    go_cut [8] (fun v8 wc => v8 = .int .i64 (k : Int) ∧ Aside0 (RpSt w wc g n k))
    case first =>
      go_wp2_with (first | ((with_reducible refine gate_builtin (b := .copy) (xs := #[.tmp 31, .tmp 32]) rfl ?_); refine rp_list rfl (.tmp 31) (.tmp 32) rfl (.slice (some ⟨g, 0, none⟩) n n) (.slice (some ⟨gx, 0, none⟩) 1 1) rfl rfl (goInt k) _ (rp_copy wc g 0 n n ⟨gx, 0, none⟩ 1 1 mc 39 _ (spCells k 0 (-1)) k HK.out HG.out (by rw [spCells_len]; omega) (rp_src HX2.out HK1.out.2.1) (by rw [spCells_len, HMC.out]; have := HK1.out.1; omega) (spCells_one k 0 (-1))) ?_))
      go_meet
      case rel => exact ⟨rfl, ⟨⟨rp_first HMC.out (setRow_heap _ _ _ _ 39 _ HG.out) HK1.out.1, HLO.out, below_setRow HB2.out HLO.out _⟩⟩⟩
    case rest =>
      obtain ⟨rfl, HST⟩ := hcut
      go_wp2
      go_loopg [8] n (fun gg v8 w' => ∃ f : Nat, f ≤ n ∧ n - f ≤ gg ∧ (1 ≤ n → 1 ≤ f) ∧ v8 = .int .i64 f ∧ Aside0 (RpSt w w' g n f))
      case atStart => exact ⟨k, HK1.out.1, by omega, fun h => by have := HK1.out.2.2 h; omega, rfl, HST⟩
      case round =>
        clear HST
        obtain ⟨f, hfn, hfg, hf1, rfl, HST⟩ := hrel
        by_cases hlt : f < n
        · have hf0 : 1 ≤ f := hf1 (by omega)
          clear hf1
          have f0 : 0 ≤ (f : Int) := by omega
          have f1 : (f : Int) ≤ (n : Int) := by omega
          have f2 : (f : Int) ≤ 1000000 := by omega
          have f3 : (f : Int) < (n : Int) := by omega
          have hne : ¬ f = n := by omega
          have hne2 : ¬ n = f := by omega
          obtain ⟨rest, hrl, hrg⟩ := HST.out.hg
          obtain ⟨kk, hkk⟩ : ∃ kk, Nat.min f (n - f) = kk := ⟨_, rfl⟩
          have hkk1 : 1 ≤ kk ∧ kk ≤ f ∧ f + kk ≤ n := by rw [← hkk]; simp only [Nat.min_def]; split <;> omega
          obtain ⟨cur, hcur⟩ : ∃ cur, cur = spCells f 0 (-1) ++ rest := ⟨_, rfl⟩
          rw [← hcur] at hrg
          have hcl : cur.length = 2 * n := by rw [hcur, List.length_append, spCells_len, hrl]; omega
          obtain ⟨nc, hnc⟩ : ∃ nc, nc = cur.take (f * 2) ++ spCells kk 0 (-1) ++ cur.drop (f * 2 + (spCells kk 0 (-1)).length) := ⟨_, rfl⟩
          have HRUN := Aside0.mk (show ∀ ty, (Builtin.copy_ #[33, 33] ty #[.slice (some ⟨g, f * 2, none⟩) (n - f) (n - f), .slice (some ⟨g, 0, none⟩) f n]).run Tryd.prog wr.drew = .ok (goInt kk) (wr.drew.setRow g nc.toArray) by
            intro ty
            rw [hnc]
            exact rp_copy wr.drew g (f * 2) (n - f) (n - f) ⟨g, 0, none⟩ f n cur 39 ty (spCells kk 0 (-1)) kk hkk hrg (by rw [spCells_len]; omega) (by
              intro j v hj
              have hjl : j < 2 * kk := by have := (List.getElem?_eq_some_iff.1 hj).1; rwa [spCells_len] at this
              rw [add_plain]
              refine (blk_cell (w := wr) hrg j).trans ?_
              rw [List.getElem?_toArray, hcur, show f = kk + (f - kk) by omega, spCells_add, List.append_assoc, List.getElem?_append_left (by rw [spCells_len]; exact hjl)]
              exact hj) (by rw [spCells_len, hcl]; omega) (spCells_one kk 0 (-1)))
          have HNX := Aside0.mk (show ∀ W : World, W.heap[g]? = some (.cells nc.toArray 39 (0, 0)) → ∃ rest2 : List Value, rest2.length = 2 * (n - (f + kk)) ∧ W.heap[g]? = some (.cells (spCells (f + kk) 0 (-1) ++ rest2).toArray 39 (0, 0)) by
            intro W hW
            refine rp_next hcur hrl ?_ hkk1.2.2
            rw [hW, hnc, Nat.mul_comm f 2])
          have HRG := Aside0.mk hrg
          have HKK := Aside0.mk hkk1
          have hk2 : (kk : Int) ≤ 1000000 := by omega
          have hk0 : 0 ≤ (kk : Int) := by omega
          have hwr : IntKind.i64.wrap ((f : Int) + (kk : Int)) = (f : Int) + (kk : Int) := by rw [IntKind.wrap_i64]; omega
          clear hrl hrg hkk hcur hcl hnc hkk1
          go_wp2
          go_region_law (refine rp_step (by rfl) (.tmp 41) (.tmp 44) rfl (.slice (some ⟨g, f * 2, none⟩) (n - f) (n - f)) (.slice (some ⟨g, 0, none⟩) f n) ?hd ?hs (goInt kk) (wr.drew.setRow g nc.toArray) ?hrun ?_; (case hd => kernel_rfl); (case hs => kernel_rfl); (case hrun => exact HRUN.out _))
          go_wp2
          go_roundg (n - (f + kk))
          case measure => have := HKK.out; omega
          case rel => exact ⟨f + kk, HKK.out.2.2, Nat.le_refl _, fun _ => by omega, by go_num, ⟨⟨HNX.out _ (setRow_heap wr.drew g _ _ 39 _ HRG.out), HLO.out, below_setRow HST.out.below.drew HLO.out _⟩⟩⟩
        · obtain rfl : f = n := by omega
          go_wp2
          go_ret
          obtain ⟨rest, hrl, hrg⟩ := HST.out.hg
          obtain rfl : rest = [] := List.eq_nil_of_length_eq_zero (by rw [hrl]; omega)
          rw [List.append_nil] at hrg
          exact ⟨g, rfl, hrg, HLO.out, HST.out.below⟩
end Go.Proofs.YtjfleaekljapeaaDoor.K
