import Derived.Test.YtpfbloddhfphiaaK0
import Derived.Test.YtpfbloddhfphiaaK3
import Derived.Deep.DeepMust
import Derived.Test.YtpfbloddhfphiaaProg
import Derived.Below
import Derived.Deep.Draws
import Derived.Deep.AppendLies
import Derived.Maps.AppendAt
import Derived.OwnWalk
import Derived.Laws.BytesArg
import Derived.Laws.MakeOwn
import Derived.Laws.OwnMore
import Derived.Deep.OwnRows
import Derived.Tactics
import Derived.Lib.ConvBytes
import Derived.Laws.Slices
import Derived.WalkKit
import Derived.KernelRfl
import Derived.RowKit3
import Derived.Deep.LoopGhost
import Derived.Deep.QuietTactic
import Derived.BigQuiet
import Derived.WideLaws
import Derived.Deep.DeepCutAuto
import Derived.Deep.CutBlock
import Derived.Deep.RegionHeld3
import Derived.Deep.MidRow
import Derived.Laws.Rows
import Derived.Lib.AppendStr
import Derived.ArgAppend
import Derived.Laws.IdiomCopy
import Derived.OrdersHeld
import Derived.Laws.BitsLemmas
import Derived.RowKit
import Derived.RegionTactic
import Derived.Deep.RegionWith
import Derived.Lib.Hide
import Derived.Test.YtpfbloddhfphiaaWWords
import Derived.Test.YtpfbloddhfphiaaWLast
import Derived.Test.YtpfbloddhfphiaaWTab
import Derived.Test.YtpfbloddhfphiaaWFour
import Derived.Test.YtpfbloddhfphiaaWQPut
import Derived.Test.YtpfbloddhfphiaaWApart
import Derived.Test.YtpfbloddhfphiaaWArr
import Derived.Test.YtpfbloddhfphiaaWZeros
import Derived.Test.YtpfbloddhfphiaaWFoot
import Derived.Test.YtpfbloddhfphiaaWKept
import Derived.Test.YtpfbloddhfphiaaWShare
import Derived.Test.YtpfbloddhfphiaaWN
import Derived.Test.YtpfbloddhfphiaaWEqStruct
import Derived.Test.YtpfbloddhfphiaaWRepsOne
import Derived.Test.YtpfbloddhfphiaaWGuard
import Derived.Test.YtpfbloddhfphiaaWNEv
import Derived.Test.YtpfbloddhfphiaaWMore
import Derived.Deep.RegionLaw
import Derived.Laws.CopyOwn
namespace Go.Proofs.Ytpfbloddhfphiaa.K
open Go.RowKit Go.Proofs.YtpfbloddhfphiaaW.PrintWords Go.Proofs.YtpfbloddhfphiaaW.PrintLast Go.Proofs.YtpfbloddhfphiaaW.PrintMore
attribute [local go_sem] max2_int min2_int max_two min_two max_three min_three max_four min_four   -- for this text's walks alone
set_option linter.unusedVariables false
set_option linter.unusedSimpArgs false
set_option linter.unusedSectionVars false
theorem two_new (W : World) (A B : Obj) : ((W.alloc A).alloc B).heap[W.heap.size + 1]? = some B := by
  have := heap_alloc_new (W.alloc A) B
  simpa using this
theorem lv_al {w : World} {g : Nat} {o : Obj} (h : w.heap[g]? = some o) (o' : Obj) : (w.alloc o').heap[g]? = some o := (((Below.refl w.heap.size w).alloc (Nat.le_refl _) o').block _ (blk_lt h)).trans h
/-! ### slices.Repeat at one int: function 16 -/
theorem and32 (n : Nat) (h : n < 4294967296) : Go.bits .and .u64 (n : Int) 4294967295 = (n : Int) := by
  have e := bits_and_u64_nat n 4294967295 (by omega) (by omega)
  have e2 : n &&& 4294967295 = n := by
    have := Nat.and_two_pow_sub_one_eq_mod n 32
    rw [show (2 : Nat) ^ 32 - 1 = 4294967295 by rfl] at this
    rw [this]
    omega
  rw [e2] at e
  exact e
theorem mul_f (n : Nat) (h : n ≤ 1000000) : bits_Mul.f 1 (n : Int) = some (0, (n : Int)) := by
  have h1 : Go.bits .and .u64 1 4294967295 = 1 := by decide +kernel
  have h0 : Go.bits .and .u64 0 4294967295 = 0 := by decide +kernel
  have h2 := and32 n (by omega)
  have e1 : (1 : Int) / 4294967296 = 0 := by omega
  have e2 : (n : Int) / 4294967296 = 0 := by omega
  have ew : ∀ x : Int, 0 ≤ x → x < 18446744073709551616 → IntKind.u64.wrap x = x := fun x a b => by rw [IntKind.wrap_u64]; omega
  have w0 : IntKind.u64.wrap 0 = 0 := ew 0 (by omega) (by omega)
  have wn : IntKind.u64.wrap (n : Int) = n := ew _ (by omega) (by omega)
  have ez : (0 : Int) / 4294967296 = 0 := by omega
  unfold bits_Mul.f bits_Mul64.f
  simp only [h1, h2, e1, e2, Int.one_mul, Int.zero_mul, Int.mul_zero, w0, wn, Int.zero_add, Int.add_zero, h0, ez, Option.bind_some]
def spCells (n : Nat) : List Value := List.replicate n (Value.int .i64 (-1))
theorem spCells_len (n : Nat) : (spCells n).length = n := by simp [spCells]
theorem spCells_add (m n : Nat) : spCells (m + n) = spCells m ++ spCells n := by
  unfold spCells
  rw [List.replicate_append_replicate]
theorem spCells_one (n : Nat) : ∀ v ∈ spCells n, v.oneCell' = true := by
  intro v hv
  obtain rfl := List.eq_of_mem_replicate hv
  rfl
theorem rp_info3 : (Try.prog.info? 3).map (fun i => (i.zero, i.size, i.bytes)) = some (some (.int .i64 0), 1, 8) := by kernel_rfl
theorem rp_make (n : Nat) (hn : n ≤ 1000000) : ∃ mc : List Value, mc.length = n ∧ ∀ W : World, (Instr.makeSlice 28 (.int .i64 (n : Int)) (.int .i64 (n : Int))).run Try.prog W = .ok (.slice (some ⟨W.heap.size, 0, none⟩) n n) (W.alloc (.cells mc.toArray 3)) := by
  obtain ⟨i, hi, hz⟩ := Option.map_eq_some_iff.1 rp_info3
  simp only [Prod.mk.injEq] at hz
  obtain ⟨hz0, hz1, hz2⟩ := hz
  refine ⟨(madeCells (Value.int .i64 0).cells (n * 1)).toList, by rw [Array.length_toList, size_madeCells]; omega, fun W => ?_⟩
  have hr := run_make (P := Try.prog) W 28 3 i _ Try.underlying28 hi hz0 .i64 .i64 (n : Int) (n : Int) (by omega) (by omega) (by rw [hz2]; omega) (by omega)
  rw [Int.toNat_natCast, hz1] at hr
  simpa using hr
theorem rp_copy (w : World) (g o dLen dCap : Nat) (a : Addr) (sLen sCap : Nat) (cur : List Value) (t ty : TypeId) (cs : List Value) (k : Nat) (hk : Nat.min sLen dLen = k)
    (hg : w.heap[g]? = some (.cells cur.toArray t (0, 0))) (hn : cs.length = k * 1) (hsrc : ∀ j v, cs[j]? = some v → w.cell? (a.add j) = some v) (hfit : o + cs.length ≤ cur.length) (h1 : ∀ v ∈ cs, v.oneCell' = true) :
    (Builtin.copy_ #[28, 28] ty #[.slice (some ⟨g, o, none⟩) dLen dCap, .slice (some a) sLen sCap]).run Try.prog w = .ok (goInt k) (w.setRow g (cur.take o ++ cs ++ cur.drop (o + cs.length)).toArray) := by
  have hl := run_loadCells_list (P := Try.prog) w a cs hsrc
  have hst := run_storeCells_at Try.prog g o t cs 0 cur.toArray w hg (by simpa using hfit) h1
  obtain ⟨i, hi, hz⟩ := Option.map_eq_some_iff.1 rp_info3
  simp only [Prod.mk.injEq] at hz
  obtain ⟨hz0, hz1, hz2⟩ := hz
  rw [hn, Nat.mul_one] at hl
  simp [Builtin.copy_, run_underlying Try.underlying28, Builtin.lenOf, Builtin.firstCells, sizeOf, typeInfo, hi, hz1, hk, hl, hst]
theorem rp_step {ops : Array Oper} {o : Oper} {a : Act} {Q : Exit → Act → World → Prop} {Kc : Act → World → Prop} {E : Prop} {w : World} (hg : o.guard = none) (d s : Operand) (ho : o.op = .call { callee := .builtin .copy, args := #[d, s], argTypes := #[28, 28] })
    (va vb : Value) (hd : a.eval d = va) (hs : a.eval s = vb) (r : Value) (w1 : World) (hrun : (Builtin.copy_ #[28, 28] o.type #[va, vb]).run Try.prog w = .ok r w1) (hK : Kc (a.put o.dst r) w1) :
    if Region.wanted o (yielded ops a.tmps) = true then Oper.wp Try.prog o a w Kc Q else E := by
  have hw : Region.wanted o (yielded ops a.tmps) = true := by simp [Region.wanted, hg]
  rw [if_pos hw]
  unfold Oper.wp
  simp [execOp, ho, resolve, invoke, builtin, hd, hs, hrun, Result.andThen]
  exact hK
theorem rp_list {ops : Array Oper} {rest : List Oper} {o : Oper} {a : Act} {Q : Exit → Act → World → Prop} {w : World} (hg : o.guard = none) (d s : Operand) (ho : o.op = .call { callee := .builtin .copy, args := #[d, s], argTypes := #[28, 28] })
    (va vb : Value) (hd : a.eval d = va) (hs : a.eval s = vb) (r : Value) (w1 : World) (hrun : (Builtin.copy_ #[28, 28] o.type #[va, vb]).run Try.prog w = .ok r w1) (hK : wpList Try.prog ops Q rest (a.put o.dst r) w1) :
    wpList Try.prog ops Q (o :: rest) a w := by
  refine wpList_plain hg fun K hK2 => ?_
  unfold Oper.wp
  simp [execOp, ho, resolve, invoke, builtin, hd, hs, hrun, Result.andThen]
  exact hK2 _ _ hK
theorem rp_src {W : World} {gx k : Nat} (h : W.heap[gx]? = some (.cells #[.int .i64 (-1)] 3 (0, 0))) (hk : k ≤ 1) : ∀ (j : Nat) (v : Value), (spCells k)[j]? = some v → W.cell? ((⟨gx, 0, none⟩ : Addr).add j) = some v := by
  intro j v hj
  rw [add_plain, blk_cell h]
  have hk2 : k = 0 ∨ k = 1 := by omega
  rcases hk2 with rfl | rfl
  · simp [spCells] at hj
  · rw [show spCells 1 = [Value.int .i64 (-1)] from rfl] at hj
    exact (by simpa using hj)
theorem rp_next {W : World} {g n f k : Nat} {rest cur : List Value} (hc : cur = spCells f ++ rest) (hl : rest.length = n - f)
    (h : W.heap[g]? = some (.cells (cur.take f ++ spCells k ++ cur.drop (f + (spCells k).length)).toArray 3 (0, 0))) (hk : f + k ≤ n) :
    ∃ rest2 : List Value, rest2.length = n - (f + k) ∧ W.heap[g]? = some (.cells (spCells (f + k) ++ rest2).toArray 3 (0, 0)) := by
  subst hc
  refine ⟨rest.drop k, by rw [List.length_drop, hl]; omega, ?_⟩
  have e : (spCells f ++ rest).take f ++ spCells k ++ (spCells f ++ rest).drop (f + (spCells k).length) = spCells (f + k) ++ rest.drop k := by
    rw [spCells_add, List.take_left' (spCells_len f), spCells_len k, ← List.drop_drop, List.drop_left' (spCells_len f)]
  rw [h, e]
theorem rp_first {W : World} {g n k : Nat} {mc : List Value} (hl : mc.length = n) (h : W.heap[g]? = some (.cells (spCells k ++ mc.drop (spCells k).length).toArray 3 (0, 0))) (hk : k ≤ n) :
    ∃ rest2 : List Value, rest2.length = n - k ∧ W.heap[g]? = some (.cells (spCells k ++ rest2).toArray 3 (0, 0)) := by
  have := rp_next (f := 0) (rest := mc) (cur := mc) (n := n) (k := k) (by rfl) (by rw [hl]; simp) (by simpa using h) (by omega)
  rw [Nat.zero_add] at this
  exact this
/-- f elements are laid; the rest is whatever it is. -/
structure RpSt (w0 w : World) (g n f : Nat) : Prop where
  hg : ∃ rest : List Value, rest.length = n - f ∧ w.heap[g]? = some (.cells (spCells f ++ rest).toArray 3 (0, 0))
  lo : w0.heap.size ≤ g
  below : Below w0.heap.size w0 w
def RepPost (n : Nat) (w : World) (e : Ending) (w' : World) : Prop := ∃ g, e = .returned (.slice (some ⟨g, 0, none⟩) n n) ∧ w'.heap[g]? = some (.cells (spCells n).toArray 3 (0, 0)) ∧ w.heap.size ≤ g ∧ Below w.heap.size w w'
set_option maxHeartbeats 2000000 in
set_option maxRecDepth 100000 in
theorem rep_calls (gx n : Nat) (w : World) (hx : w.heap[gx]? = some (.cells #[.int .i64 (-1)] 3 (0, 0))) (hn : n ≤ 1000000) :
    Calls Try.prog 16 #[.slice (some ⟨gx, 0, none⟩) 1 1, .int .i64 (n : Int)] w (RepPost n w) := by
  obtain ⟨mc, hmc, hmk⟩ := rp_make n hn
  have HMC := Aside0.mk hmc
  have HX := Aside0.mk hx
  have HB := Aside0.mk (Below.refl w.heap.size w)
  have n0 : 0 ≤ (n : Int) := by omega
  have n1 : (n : Int) ≤ 1000000 := by omega
  have HMUL := Aside0.mk (mul_f n hn)
  clear hmc hx
  go_enter Try.func16, Try.ntmps16
  go_upto_region 6 with (first | (go_at_call 26; (with_reducible refine (bits_Mul.calls 1 (n : Int) 0 (n : Int) _ HMUL.out).mono ?_); rintro e w18 ⟨rfl, hd⟩; obtain ⟨nq, rfl⟩ := hd.out))
  go_cut [7] (fun v7 wc => ∃ g, v7 = .slice (some ⟨g, 0, none⟩) n n ∧ Aside0 (wc.heap[g]? = some (.cells mc.toArray 3 (0, 0))) ∧ Aside0 (wc.heap[gx]? = some (.cells #[.int .i64 (-1)] 3 (0, 0))) ∧ Aside0 (w.heap.size ≤ g) ∧ Aside0 (Below w.heap.size w wc))
  case first =>
    go_wp2
    go_meet
    case rel => exact ⟨_, rfl, ⟨heap_alloc_new (w.drewN nq) _⟩, ⟨lv_al (w := w.drewN nq) HX.out _⟩, ⟨Nat.le_refl _⟩, ⟨(pw_below_drewN (Below.refl w.heap.size w) nq).alloc (Nat.le_refl _) _⟩⟩
  case rest =>
    obtain ⟨g, rfl, HG, HX2, HLO, HB2⟩ := hcut
    obtain ⟨k, hk⟩ : ∃ k, Nat.min 1 n = k := ⟨_, rfl⟩
    have hk1 : k ≤ n ∧ k ≤ 1 ∧ (1 ≤ n → k = 1) := by rw [← hk]; simp only [Nat.min_def]; split <;> omega
    have HK := Aside0.mk hk
    have HK1 := Aside0.mk hk1
    clear hk hk1
    go_upto_region 7 with (fail)
    go_cut [8] (fun v8 wc => v8 = .int .i64 (k : Int) ∧ Aside0 (RpSt w wc g n k))
    case first =>
      go_wp2_with (first | ((with_reducible refine gate_builtin (b := .copy) (xs := #[.tmp 31, .tmp 32]) rfl ?_); refine rp_list rfl (.tmp 31) (.tmp 32) rfl (.slice (some ⟨g, 0, none⟩) n n) (.slice (some ⟨gx, 0, none⟩) 1 1) rfl rfl (goInt k) _ (rp_copy wc g 0 n n ⟨gx, 0, none⟩ 1 1 mc 3 _ (spCells k) k HK.out HG.out (by rw [spCells_len]; omega) (rp_src HX2.out HK1.out.2.1) (by rw [spCells_len, HMC.out]; have := HK1.out.1; omega) (spCells_one k)) ?_))
      go_meet
      case rel => exact ⟨rfl, ⟨⟨rp_first HMC.out (setRow_heap _ _ _ _ 3 _ HG.out) HK1.out.1, HLO.out, below_setRow HB2.out HLO.out _⟩⟩⟩
    case rest =>
      obtain ⟨rfl, HST⟩ := hcut
      go_wp2
      go_loopg [8] n (fun gg v8 w' => ∃ f : Nat, f ≤ n ∧ n - f ≤ gg ∧ (1 ≤ n → 1 ≤ f) ∧ v8 = .int .i64 f ∧ Aside0 (RpSt w w' g n f))
      case atStart => exact ⟨k, HK1.out.1, by omega, fun h => by have := HK1.out.2.2 h; omega, rfl, HST⟩
      case round =>
        clear HST
        obtain ⟨f, hfn, hfg, hf1, rfl, HST⟩ := hrel
        by_cases hlt : f < n
        · have hf0 : 1 ≤ f := hf1 (by omega)
          clear hf1
          have f0 : 0 ≤ (f : Int) := by omega
          have f1 : (f : Int) ≤ (n : Int) := by omega
          have f2 : (f : Int) ≤ 1000000 := by omega
          have f3 : (f : Int) < (n : Int) := by omega
          have hne : ¬ f = n := by omega
          have hne2 : ¬ n = f := by omega
          obtain ⟨rest, hrl, hrg⟩ := HST.out.hg
          obtain ⟨kk, hkk⟩ : ∃ kk, Nat.min f (n - f) = kk := ⟨_, rfl⟩
          have hkk1 : 1 ≤ kk ∧ kk ≤ f ∧ f + kk ≤ n := by rw [← hkk]; simp only [Nat.min_def]; split <;> omega
          obtain ⟨cur, hcur⟩ : ∃ cur, cur = spCells f ++ rest := ⟨_, rfl⟩
          rw [← hcur] at hrg
          have hcl : cur.length = n := by rw [hcur, List.length_append, spCells_len, hrl]; omega
          obtain ⟨nc, hnc⟩ : ∃ nc, nc = cur.take f ++ spCells kk ++ cur.drop (f + (spCells kk).length) := ⟨_, rfl⟩
          have HRUN := Aside0.mk (show ∀ ty, (Builtin.copy_ #[28, 28] ty #[.slice (some ⟨g, f, none⟩) (n - f) (n - f), .slice (some ⟨g, 0, none⟩) f n]).run Try.prog wr.drew = .ok (goInt kk) (wr.drew.setRow g nc.toArray) by
            intro ty
            rw [hnc]
            exact rp_copy wr.drew g f (n - f) (n - f) ⟨g, 0, none⟩ f n cur 3 ty (spCells kk) kk hkk hrg (by rw [spCells_len]; omega) (by
              intro j v hj
              have hjl : j < kk := by have := (List.getElem?_eq_some_iff.1 hj).1; rwa [spCells_len] at this
              rw [add_plain]
              refine (blk_cell (w := wr) hrg j).trans ?_
              rw [List.getElem?_toArray, hcur, show f = kk + (f - kk) by omega, spCells_add, List.append_assoc, List.getElem?_append_left (by rw [spCells_len]; exact hjl)]
              exact hj) (by rw [spCells_len, hcl]; omega) (spCells_one kk))
          have HNX := Aside0.mk (show ∀ W : World, W.heap[g]? = some (.cells nc.toArray 3 (0, 0)) → ∃ rest2 : List Value, rest2.length = n - (f + kk) ∧ W.heap[g]? = some (.cells (spCells (f + kk) ++ rest2).toArray 3 (0, 0)) by
            intro W hW
            refine rp_next hcur hrl ?_ hkk1.2.2
            rw [hW, hnc])
          have HRG := Aside0.mk hrg
          have HKK := Aside0.mk hkk1
          have hk2 : (kk : Int) ≤ 1000000 := by omega
          have hk0 : 0 ≤ (kk : Int) := by omega
          have hwr : IntKind.i64.wrap ((f : Int) + (kk : Int)) = (f : Int) + (kk : Int) := by rw [IntKind.wrap_i64]; omega
          clear hrl hrg hkk hcur hcl hnc hkk1
          go_wp2
          go_region_law (refine rp_step (by rfl) (.tmp 41) (.tmp 44) rfl (.slice (some ⟨g, f, none⟩) (n - f) (n - f)) (.slice (some ⟨g, 0, none⟩) f n) ?hd ?hs (goInt kk) (wr.drew.setRow g nc.toArray) ?hrun ?_; (case hd => kernel_rfl); (case hs => kernel_rfl); (case hrun => exact HRUN.out _))
          go_wp2
          go_roundg (n - (f + kk))
          case measure => have := HKK.out; omega
          case rel => exact ⟨f + kk, HKK.out.2.2, Nat.le_refl _, fun _ => by omega, by go_num, ⟨⟨HNX.out _ (setRow_heap wr.drew g _ _ 3 _ HRG.out), HLO.out, below_setRow HST.out.below.drew HLO.out _⟩⟩⟩
        · obtain rfl : f = n := by omega
          go_wp2
          go_ret
          obtain ⟨rest, hrl, hrg⟩ := HST.out.hg
          obtain rfl : rest = [] := List.eq_nil_of_length_eq_zero (by rw [hrl]; omega)
          rw [List.append_nil] at hrg
          exact ⟨g, rfl, hrg, HLO.out, HST.out.below⟩
end Go.Proofs.Ytpfbloddhfphiaa.K
