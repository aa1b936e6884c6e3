import Derived.Test.YtjfleaekljapeaaDoorK0
import Derived.Test.YtjfleaekljapeaaDoorK14
import Derived.Test.YtjfleaekljapeaaDoorK17
import Derived.Test.YtjfleaekljapeaaDoorFlowA
import Derived.Test.YtjfleaekljapeaaDoorFlowR
import Derived.Deep.DeepMust
import Derived.Test.YtjfleaekljapeaaDoorProg
import Derived.Below
import Derived.Deep.Draws
import Derived.Deep.AppendLies
import Derived.Maps.AppendAt
import Derived.OwnWalk
import Derived.Laws.BytesArg
import Derived.Laws.MakeOwn
import Derived.Laws.OwnMore
import Derived.Deep.OwnRows
import Derived.Tactics
import Derived.Lib.ConvBytes
import Derived.Laws.Slices
import Derived.WalkKit
import Derived.KernelRfl
import Derived.RowKit3
import Derived.Deep.LoopGhost
import Derived.Deep.QuietTactic
import Derived.BigQuiet
import Derived.WideLaws
import Derived.Deep.DeepCutAuto
import Derived.Deep.CutBlock
import Derived.Deep.RegionHeld3
import Derived.Laws.Rows
import Derived.Lib.AppendStr
import Derived.ArgAppend
import Derived.Laws.IdiomCopy
import Derived.OrdersHeld
import Derived.Laws.BitsLemmas
import Derived.RowKit
import Derived.RegionTactic
import Derived.Deep.RegionWith
import Derived.Lib.Hide
import Derived.Test.YtjfleaekljapeaaDoorWWords
import Derived.Test.YtjfleaekljapeaaDoorWLast
import Derived.Test.YtjfleaekljapeaaDoorWTab
import Derived.Test.YtjfleaekljapeaaDoorWFour
import Derived.Test.YtjfleaekljapeaaDoorWQPut
import Derived.Test.YtjfleaekljapeaaDoorWApart
import Derived.Test.YtjfleaekljapeaaDoorWArr
import Derived.Test.YtjfleaekljapeaaDoorWZeros
import Derived.Test.YtjfleaekljapeaaDoorWFoot
import Derived.Test.YtjfleaekljapeaaDoorWKept
import Derived.Test.YtjfleaekljapeaaDoorWShare
import Derived.Test.YtjfleaekljapeaaDoorWN
import Derived.Test.YtjfleaekljapeaaDoorWEqStruct
import Derived.Test.YtjfleaekljapeaaDoorWRepsOne
import Derived.Test.YtjfleaekljapeaaDoorWGuard
import Derived.Test.YtjfleaekljapeaaDoorWNEv
import Derived.Test.YtjfleaekljapeaaDoorWMore
import Derived.Deep.RegionLaw
import Derived.Laws.CopyOwn
import Derived.Shelf.Spec.TrailingZeros
namespace Go.Proofs.YtjfleaekljapeaaDoor.K
open Go.RowKit Go.Proofs.YtjfleaekljapeaaDoorW.PrintWords Go.Proofs.YtjfleaekljapeaaDoorW.PrintLast Go.Proofs.YtjfleaekljapeaaDoorW.PrintMore
attribute [local go_sem] max2_int min2_int max_two min_two max_three min_three max_four min_four   -- for this text's walks alone
set_option linter.unusedVariables false
set_option linter.unusedSimpArgs false
set_option linter.unusedSectionVars false
/-! ### what flow.Live computes, over numbers and lists -/
def lvNext (code : List S44) (n : Nat) : List Int :=
  if (rd_T44 code n).f0 = 43 ∨ (rd_T44 code n).f0 = 22 then [] else if (rd_T44 code n).f0 = 18 then [(rd_T44 code n).f9] else if (rd_T44 code n).f0 = 19 then [(n : Int) + 1, (rd_T44 code n).f9] else [(n : Int) + 1]
theorem lvNext_len (code : List S44) (n : Nat) : (lvNext code n).length ≤ 2 := by
  unfold lvNext
  (repeat' split) <;> simp
def lvOr (L : List Int) (x m : Int) : Int := Go.bits .or .u64 x (rd L m)
def lvPuts (b : Bool) (x : Int) (l : List Int) : Int := l.foldl (fun x r => lvPut x r b) x
def lvNow (code : List S44) (L : List Int) (n : Nat) : Int :=
  lvPuts true (lvPuts false ((lvNext code n).foldl (lvOr L) 0) (lvWrites (rd_T44 code n))) (lvReads (rd_T44 code n))
def lvIn (code : List S44) : Nat → List Int → Bool → List Int × Bool
  | 0, L, m => (L, m)
  | n + 1, L, m => if lvNow code L n = rd L n then lvIn code n L m else lvIn code n (L.set n (lvNow code L n)) true
def lvRun (code : List S44) : Nat → List Int → Option (List Int)
  | 0, _ => none
  | k + 1, L => if (lvIn code code.length L false).2 = true then lvRun code k (lvIn code code.length L false).1 else some (lvIn code code.length L false).1
/-- Each instruction leads to one that is there (or behind the last), and names registers below 64 alone. -/
structure LvOk (code : List S44) : Prop where
  len : code.length ≤ 1000000
  next : ∀ n, n < code.length → ∀ m ∈ lvNext code n, 0 ≤ m ∧ m ≤ code.length
  wr : ∀ n, n < code.length → ∀ r ∈ lvWrites (rd_T44 code n), 0 ≤ r ∧ r < 64
  rds : ∀ n, n < code.length → ∀ r ∈ lvReads (rd_T44 code n), 0 ≤ r ∧ r < 64
  args : ∀ n, n < code.length → (rd_T44 code n).f7.length ≤ 1000000
  outs : ∀ n, n < code.length → (rd_T44 code n).f8.length ≤ 1000000
theorem next_f (k : Nat) (a : ByteArray) (l1 l2 l3 : List Int) (code : List S44) (n : Nat) (h : n < code.length) (hn : code.length ≤ 1000000) : flow_Next.f (k + 1) a l1 l2 l3 code (n : Int) = some (lvNext code n) := by
  have hw : wrap64 ((n : Int) + 1) = (n : Int) + 1 := by unfold wrap64; omega
  unfold flow_Next.f lvNext
  rw [if_pos (by omega), if_pos (by omega)]
  by_cases h43 : (rd_T44 code n).f0 = 43
  · rw [if_pos h43, if_pos (.inl h43)]
    simp only [flow_Next.j0]
    rw [h43]; rfl
  · rw [if_neg h43]
    simp only [flow_Next.j0, hw]
    by_cases h22 : (rd_T44 code n).f0 = 22
    · have e : ((rd_T44 code n).f0 == 22) = true := by rw [h22]; rfl
      rw [if_pos e, if_pos (Or.inr h22)]
    · have e : ((rd_T44 code n).f0 == 22) = false := by simpa using h22
      have e2 : ¬ ((rd_T44 code n).f0 = 43 ∨ (rd_T44 code n).f0 = 22) := by omega
      rw [e, if_neg (by decide), if_neg e2]
      split
      · rfl
      · split <;> rfl
theorem equal_f (k : Nat) (x y : Int) : flow_Set_uint64.f (k + 2) [x] [y] = some (x == y) := by
  unfold flow_Set_uint64.f
  rw [if_pos (show (([x].length : Nat) : Int) = ([y].length : Nat) from rfl)]
  simp only [flow_Set_uint64.l0]
  by_cases h : x = y
  · subst h
    simp [rd, wrap64]
  · simp [rd, h]
/-! ### the memory of flow.Live -/
def lvSl (b : Nat) : Value := .slice (some ⟨b, 0, none⟩) 1 1
def lvRow (bs : List Nat) (m : Nat) : List Value := bs.map lvSl ++ List.replicate (m - bs.length) (.slice none 0 0)
theorem lv_al {w : World} {g : Nat} {o : Obj} (h : w.heap[g]? = some o) (o' : Obj) : (w.alloc o').heap[g]? = some o := (((Below.refl w.heap.size w).alloc (Nat.le_refl _) o').block _ (blk_lt h)).trans h
/-- While the sets are made. -/
structure LvMk (w0 w : World) (g1 gi : Nat) (fc : Array Value) (m : Nat) (bs : List Nat) : Prop where
  hf : w.heap[g1]? = some (.cells fc 25 (0, 0))
  hi : w.heap[gi]? = some (.cells (lvRow bs m).toArray 72 (0, 0))
  hb : ∀ b ∈ bs, w.heap[b]? = some (.cells #[.int .u64 0] 42 (0, 0))
  nd : bs.Nodup
  lo1 : w0.heap.size ≤ g1
  loi : w0.heap.size ≤ gi
  lob : ∀ b ∈ bs, w0.heap.size ≤ b
  below : Below w0.heap.size w0 w
theorem LvMk.step {w0 w : World} {g1 gi m : Nat} {fc : Array Value} {bs : List Nat} (h : LvMk w0 w g1 gi fc m bs) (hl : bs.length < m) (n : Nat) (hn : n = bs.length) :
    LvMk w0 ((w.setCell ⟨gi, n, none⟩ (lvSl w.heap.size)).alloc (.cells #[.int .u64 0] 42)) g1 gi fc m (bs ++ [w.heap.size]) := by
  subst hn
  have hig := blk_lt h.hi
  have h1g : g1 ≠ gi := blk_ne h.hf h.hi (by decide)
  have hs : (w.setCell ⟨gi, bs.length, none⟩ (lvSl w.heap.size)).heap.size = w.heap.size := by simp [World.setCell]
  refine ⟨lv_al (blk_far h.hf h1g _) _, lv_al (blk_put h.hi bs.length _ ?_) _, fun b hb => ?_, ?_, h.lo1, h.loi, fun b hb => ?_, (below_set h.below h.loi).alloc (by rw [hs]; exact h.below.size) _⟩
  · unfold lvRow
    rw [List.setIfInBounds_toArray]
    congr 1
    rw [List.set_append_right _ _ (by simp), List.length_map, Nat.sub_self, List.map_append, List.append_assoc, List.length_append, List.length_singleton]
    congr 1
    obtain ⟨d, hd⟩ : ∃ d, m - bs.length = d + 1 := ⟨m - bs.length - 1, by omega⟩
    rw [hd, show m - (bs.length + 1) = d by omega, List.replicate_succ]
    rfl
  · rw [List.mem_append, List.mem_singleton] at hb
    rcases hb with hb | rfl
    · exact lv_al (blk_far (h.hb b hb) (blk_ne (h.hb b hb) h.hi (by decide)) _) _
    · have := heap_alloc_new (w.setCell ⟨gi, bs.length, none⟩ (lvSl w.heap.size)) (.cells #[.int .u64 0] 42)
      rw [hs] at this
      exact this
  · rw [List.nodup_append]
    refine ⟨h.nd, by simp, fun a ha b hb e => ?_⟩
    rw [List.mem_singleton] at hb
    have := blk_lt (h.hb a ha)
    omega
  · rw [List.mem_append, List.mem_singleton] at hb
    rcases hb with hb | rfl
    · exact h.lob b hb
    · exact h.below.size
theorem nodup_inj {bs : List Nat} (h : bs.Nodup) {i j : Nat} (hi : i < bs.length) (hj : j < bs.length) (e : bs[i] = bs[j]) : i = j := by
  rcases Nat.lt_trichotomy i j with h1 | h1 | h1
  · exact absurd e (List.pairwise_iff_getElem.1 h i j hi hj h1)
  · exact h1
  · exact absurd e.symm (List.pairwise_iff_getElem.1 h j i hj hi h1)
/-- While it is reckoned: the function's box, the row of sets, the sets (a word each), the set that is now made. -/
structure LvSt (w0 w : World) (g1 gi gw : Nat) (fc : Array Value) (bs : List Nat) (L : List Int) (x : Int) : Prop where
  hf : w.heap[g1]? = some (.cells fc 25 (0, 0))
  hi : w.heap[gi]? = some (.cells (bs.map lvSl).toArray 72 (0, 0))
  hb : ∀ (j : Nat) (h : j < bs.length), w.heap[bs[j]]? = some (.cells #[.int .u64 (rd L (j : Int))] 42 (0, 0))
  hn : w.heap[gw]? = some (.cells #[.int .u64 x] 42 (0, 0))
  nd : bs.Nodup
  ln : L.length = bs.length
  nw : gw ∉ bs
  lo1 : w0.heap.size ≤ g1
  loi : w0.heap.size ≤ gi
  low : w0.heap.size ≤ gw
  lob : ∀ b ∈ bs, w0.heap.size ≤ b
  below : Below w0.heap.size w0 w
section
variable {w0 w w' : World} {g1 gi gw : Nat} {fc : Array Value} {bs : List Nat} {L : List Int} {x : Int}
theorem LvSt.step (h : LvSt w0 w g1 gi gw fc bs L x) (hb : Below w.heap.size w w') : LvSt w0 w' g1 gi gw fc bs L x :=
  ⟨blk_below h.hf hb, blk_below h.hi hb, fun j hj => blk_below (h.hb j hj) hb, blk_below h.hn hb, h.nd, h.ln, h.nw, h.lo1, h.loi, h.low, h.lob, below_step h.below hb⟩
theorem LvSt.now (h : LvSt w0 w g1 gi gw fc bs L x) {x' : Int} (o : OnlyAt gw w w') (hx : w'.heap[gw]? = some (.cells #[.int .u64 x'] 42 (0, 0))) : LvSt w0 w' g1 gi gw fc bs L x' :=
  ⟨(o.far _ (blk_ne h.hf h.hn (by decide))).trans h.hf, (o.far _ (blk_ne h.hi h.hn (by decide))).trans h.hi, fun j hj => (o.far _ (fun e => h.nw (by rw [← e]; exact List.getElem_mem hj))).trans (h.hb j hj), hx, h.nd, h.ln, h.nw, h.lo1, h.loi, h.low, h.lob, o.below _ _ h.below h.low⟩
theorem rd_set_ne (L : List Int) (n j : Nat) (y : Int) (h : n ≠ j) : rd (L.set n y) (j : Int) = rd L (j : Int) := by
  unfold rd
  rw [Int.toNat_natCast, List.getD_eq_getElem?_getD, List.getD_eq_getElem?_getD, List.getElem?_set_ne h]
theorem rd_set_eq (L : List Int) (n : Nat) (y : Int) (h : n < L.length) : rd (L.set n y) (n : Int) = y := by
  unfold rd
  rw [Int.toNat_natCast, List.getD_eq_getElem?_getD, List.getElem?_set_self h]
  rfl
theorem LvSt.put (h : LvSt w0 w g1 gi gw fc bs L x) {n : Nat} (hn : n < bs.length) {y : Int} (o : OnlyAt bs[n] w w') (hy : w'.heap[bs[n]]? = some (.cells #[.int .u64 y] 42 (0, 0))) : LvSt w0 w' g1 gi gw fc bs (L.set n y) x :=
  ⟨(o.far _ (blk_ne h.hf (h.hb n hn) (by decide))).trans h.hf, (o.far _ (blk_ne h.hi (h.hb n hn) (by decide))).trans h.hi, fun j hj => by
    by_cases e : n = j
    · subst e
      rw [rd_set_eq L n y (by rw [h.ln]; exact hn)]
      exact hy
    · rw [rd_set_ne L n j y e]
      exact (o.far _ (fun e2 => e (nodup_inj h.nd hj hn e2).symm)).trans (h.hb j hj),
   (o.far _ (fun e => h.nw (by rw [e]; exact List.getElem_mem hn))).trans h.hn, h.nd, by rw [List.length_set]; exact h.ln, h.nw, h.lo1, h.loi, h.low, h.lob, o.below _ _ h.below (h.lob _ (List.getElem_mem hn))⟩
theorem LvSt.cell_row (h : LvSt w0 w g1 gi gw fc bs L x) (n : Nat) (hn : n < bs.length) : w.cell? ⟨gi, n, none⟩ = some (lvSl bs[n]) := by
  rw [blk_cell h.hi n]
  simp [hn]
theorem LvSt.cell_set (h : LvSt w0 w g1 gi gw fc bs L x) (n : Nat) (hn : n < bs.length) : w.cell? ⟨bs[n], 0, none⟩ = some (.int .u64 (rd L (n : Int))) := (blk_cell (h.hb n hn) 0).trans rfl
theorem LvSt.cell_now (h : LvSt w0 w g1 gi gw fc bs L x) : w.cell? ⟨gw, 0, none⟩ = some (.int .u64 x) := (blk_cell h.hn 0).trans rfl
end
theorem LvMk.done {w0 w : World} {g1 gi m : Nat} {fc : Array Value} {bs : List Nat} (h : LvMk w0 w g1 gi fc m bs) (hl : bs.length = m) :
    LvSt w0 (w.alloc (.cells #[.int .u64 0] 42)) g1 gi w.heap.size fc bs (List.replicate m 0) 0 := by
  refine ⟨lv_al h.hf _, ?_, fun j hj => ?_, heap_alloc_new w _, h.nd, by simp [hl], fun hm => ?_, h.lo1, h.loi, h.below.size, h.lob, h.below.alloc h.below.size _⟩
  · have := lv_al h.hi (.cells #[.int .u64 0] 42)
    unfold lvRow at this
    rw [hl, Nat.sub_self, List.replicate_zero, List.append_nil] at this
    exact this
  · have e : rd (List.replicate m 0) (j : Int) = 0 := by
      unfold rd
      rw [Int.toNat_natCast, List.getD_eq_getElem?_getD, List.getElem?_replicate, if_pos (by omega)]
      rfl
    rw [e]
    exact lv_al (h.hb _ (List.getElem_mem hj)) _
  · have := blk_lt (h.hb _ hm)
    omega
end Go.Proofs.YtjfleaekljapeaaDoor.K
