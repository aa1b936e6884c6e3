import Derived.Test.YtjfleaekljapeaaDoorXAK
import Derived.Test.YtjfleaekljapeaaDoorXAR
import Derived.Deep.DeepMust
import Derived.Test.YtjfleaekljapeaaDoorProg
import Derived.Below
import Derived.Deep.Draws
import Derived.Deep.AppendLies
import Derived.Maps.AppendAt
import Derived.OwnWalk
import Derived.Laws.BytesArg
import Derived.Laws.MakeOwn
import Derived.Laws.OwnMore
import Derived.Deep.OwnRows
import Derived.Tactics
import Derived.Lib.ConvBytes
import Derived.Laws.Slices
import Derived.WalkKit
import Derived.KernelRfl
import Derived.RowKit3
import Derived.Deep.LoopGhost
import Derived.Deep.QuietTactic
import Derived.BigQuiet
import Derived.WideLaws
import Derived.Deep.DeepCutAuto
import Derived.Deep.CutBlock
import Derived.Deep.RegionHeld3
import Derived.Deep.MidRow
import Derived.Laws.Tables
import Derived.StillTailTactics
import Derived.Laws.Rows
import Derived.Lib.AppendStr
import Derived.ArgAppend
import Derived.Laws.IdiomCopy
import Derived.OrdersHeld
import Derived.Laws.BitsLemmas
import Derived.Laws.BitsAllLaws
import Derived.RowKit
import Derived.RegionTactic
import Derived.Deep.RegionWith
import Derived.Lib.Hide
import Derived.Test.YtjfleaekljapeaaDoorXAA
import Derived.Test.YtjfleaekljapeaaDoorXAB
import Derived.Test.YtjfleaekljapeaaDoorXAC
import Derived.Deep.RegionLaw
import Derived.Laws.CopyOwn
import Derived.Shelf.Spec.TrailingZeros
import Derived.Test.YtjfleaekljapeaaDoorXAL
namespace Go.Proofs.YtjfleaekljapeaaDoor.K
open Go.RowKit Go.Proofs.YtjfleaekljapeaaDoorW.PrintWords Go.Proofs.YtjfleaekljapeaaDoorW.PrintLast Go.Proofs.YtjfleaekljapeaaDoorW.PrintMore
attribute [local go_sem] max2_int min2_int max_two min_two max_three min_three max_four min_four   -- for this text's walks alone
set_option linter.unusedVariables false
set_option linter.unusedSimpArgs false
set_option linter.unusedSectionVars false
section
theorem lit_rw (W : World) (vs : List Int) (hl : vs.length <= 9223372036854775807) : Rw (Kd.int .u64) 42 W (W.alloc (.cells (vs.map (Value.int .u64)).toArray 42)) (.slice (some ⟨W.heap.size, 0, none⟩) vs.length vs.length) vs :=
 Kd.R_of_own (own_lit W W.heap.size 42 .u64 vs (Nat.le_refl _) hl) (fun _ _ => trivial)
section
variable {w0 w W w1 : World} {gt gf : Nat} {s s1 : SV} {p : PS} {xs vs : List Int} {vv : Value} {A : Option Addr} {c : Nat} {zs : List Int} {cs fc ic : Array Value} {i : S44} {A7 A8 Av : Option Addr} {c8 cv : Nat}
theorem outs_calls (HM : Mx w0 gt gf w W s s1 p (.slice A xs.length c) xs cs fc ic vv zs) (hI : InI w0 i A7 A8 c8 xs.length) (hv : Rw (Kd.int .u64) 42 w1 W (.slice Av vs.length cv) vs) (hn : NeRow (.slice A xs.length c) (.slice Av vs.length cv)) (hl : i.f8.length <= vs.length) :
  Calls Tryd.prog 52 #[.slice A xs.length c, .slice A8 i.f8.length c8, .slice Av vs.length cv] W fun e w' => e = .returned (.tuple #[]) /\ RowSt (Kd.int .u64) 42 w0 W w' (.slice A xs.length c) (.slice A xs.length c) (wrL xs i.f8 vs) :=
 write_calls w0 W A c xs A8 c8 i.f8 Av cv vs HM.mp.xr.row (Kd.C_below hI.a8 HM.mp.st.below) (fun W' hk => ⟨Kd.C_below hI.a8 (hk.toBelow HM.mp.st.below (fun k e => (HM.mp.xr.row.lt e).2.1)), (hv.keep rfl hk (fun k e e2 => nrow hn e2 e)).readsC⟩) hI.r8 hl
end
section
variable {ops : Array Oper} {Q : Exit -> Act -> World -> Prop} {S : World -> Prop} {fuel : Nat} {listed : Array Bool} {a : Act} {w : World}
theorem SW.storeT (i : Nat) {oi : Oper} (hi : ops[i]? = some oi) (hr : Region.ready .any ops listed = [i]) (t n : Nat) (hin : (Tryd.prog.info? t).map (·.size) = some n) (x y : Operand) (ho : oi.op = .store t x y) (hd : oi.dst = none) (hw : Region.wanted oi (yielded ops a.tmps) = true) (g : Nat) (hx : a.eval x = .pointer (some ⟨g, 0, none⟩)) (cs : Array Value) (hy : a.eval y = .agg cs) (zs : Array Value) (hb : w.heap[g]? = some (.cells zs t (0, 0))) (hz : zs.size = n) (hc : cs.size = n) (h1 : cs.all (·.oneCell') = true)
  (h : ∀ W2 : World, W2.heap[g]? = some (.cells cs t (0, 0)) -> Kp w W2 (fun k => k = g) -> S W2 /\ SW Tryd.prog ops Q S fuel (listed.setIfInBounds i true) a W2) : SW Tryd.prog ops Q S (fuel + 1) listed a w := by
 refine SW.act i hi hr (fun K hK => ?_)
 rw [if_pos hw]
 refine wp_store_mid t x y ho g 0 cs hx hy (there_blk hb (by rw [hz, hc])) (by rw [hin, hc]) h1 ?_
 have e : a.put oi.dst undef = a := by rw [hd]; rfl
 rw [e]
 have hh := h (w.setCells g 0 cs.toList) (by
  obtain ⟨cur, h1, h2, h3⟩ := setCells_row cs.toList 0 w zs hb (by rw [Array.length_toList, hz, hc]; omega)
  have e2 : cur = cs := by
   apply Array.toList_inj.1
   rw [h3, List.take_zero, List.nil_append, List.drop_of_length_le (by rw [Array.length_toList, Array.length_toList, hz, hc]; omega), List.append_nil]
  rw [e2] at h1
  exact h1) (by
  obtain ⟨h1, h2, h3, h4⟩ := setCells_same g cs.toList 0 w
  exact ⟨h1, h2, h3, by rw [h4]; exact Nat.le_refl _, fun k _ hn => setCells_far _ _ k hn⟩)
 exact hK _ _ hh.1 hh.2
end
theorem info136 : (Tryd.prog.info? 136).map (·.size) = some 4 := by kernel_rfl
theorem kp_below {w W W2 : World} {g : Nat} (hb : Below w.heap.size w W) (hk : Kp W W2 (fun k => k = g)) (hg : w.heap.size <= g) : Below w.heap.size w W2 := hk.toBelow hb (fun k e => by omega)
section
variable {w0 w W w1 : World} {gt gf : Nat} {s s1 : SV} {p : PS} {xs vs : List Int} {vv : Value} {A : Option Addr} {c : Nat} {zs : List Int} {cs fc ic : Array Value} {i : S44} {A7 A8 : Option Addr} {c8 cv : Nat}
theorem out4 (HM : Mx w0 gt gf w W s s1 p (.slice A xs.length c) xs cs fc ic vv zs) (hI : InI w0 i A7 A8 c8 xs.length) (hl : i.f8.length = 4) (v0 v1 v2 v3 : Int) :
  Calls Tryd.prog 52 #[.slice A xs.length c, .slice A8 i.f8.length c8, .slice (some ⟨W.heap.size, 0, none⟩) 4 4] (W.alloc (.cells #[.int .u64 v0, .int .u64 v1, .int .u64 v2, .int .u64 v3] 42)) fun e w' => e = .returned (.tuple #[]) /\ RowSt (Kd.int .u64) 42 w0 (W.alloc (.cells #[.int .u64 v0, .int .u64 v1, .int .u64 v2, .int .u64 v3] 42)) w' (.slice A xs.length c) (.slice A xs.length c) (wrL xs i.f8 [v0, v1, v2, v3]) := by
 have HM2 := HM.step ((Below.refl W.heap.size W).alloc (Nat.le_refl _) (Obj.cells #[.int .u64 v0, .int .u64 v1, .int .u64 v2, .int .u64 v3] 42))
 have hv := lit_rw W [v0, v1, v2, v3] (by simp)
 exact outs_calls HM2 hI hv (fun k e1 e2 => by
  have := (HM.mp.xr.row.lt e1).1
  have e3 : W.heap.size = k := by simpa [Value.ownBlock] using e2
  omega) (by rw [hl]; exact Nat.le_refl 4)
theorem out5 (HM : Mx w0 gt gf w W s s1 p (.slice A xs.length c) xs cs fc ic vv zs) (hI : InI w0 i A7 A8 c8 xs.length) (hl : i.f8.length = 5) (v0 v1 v2 v3 v4 : Int) :
  Calls Tryd.prog 52 #[.slice A xs.length c, .slice A8 i.f8.length c8, .slice (some ⟨W.heap.size, 0, none⟩) 5 5] (W.alloc (.cells #[.int .u64 v0, .int .u64 v1, .int .u64 v2, .int .u64 v3, .int .u64 v4] 42)) fun e w' => e = .returned (.tuple #[]) /\ RowSt (Kd.int .u64) 42 w0 (W.alloc (.cells #[.int .u64 v0, .int .u64 v1, .int .u64 v2, .int .u64 v3, .int .u64 v4] 42)) w' (.slice A xs.length c) (.slice A xs.length c) (wrL xs i.f8 [v0, v1, v2, v3, v4]) := by
 have HM2 := HM.step ((Below.refl W.heap.size W).alloc (Nat.le_refl _) (Obj.cells #[.int .u64 v0, .int .u64 v1, .int .u64 v2, .int .u64 v3, .int .u64 v4] 42))
 have hv := lit_rw W [v0, v1, v2, v3, v4] (by simp)
 exact outs_calls HM2 hI hv (fun k e1 e2 => by
  have := (HM.mp.xr.row.lt e1).1
  have e3 : W.heap.size = k := by simpa [Value.ownBlock] using e2
  omega) (by rw [hl]; exact Nat.le_refl 5)
end
theorem fourL {α : Type} {l : List α} (h : l.length = 4) : ∃ a b c d, l = [a, b, c, d] := by
 match l, h with
 | [a, b, c, d], _ => exact ⟨a, b, c, d, rfl⟩
theorem Kp.cell {w W : World} {S : Nat -> Prop} (h : Kp w W S) {a : Addr} {v : Value} (hc : w.cell? a = some v) (hn : ¬ S a.block) : W.cell? a = some v := by
 have := h.blk a.block (World.block_lt_of_cell? w a hc) hn
 simpa [World.cell?, this] using hc
theorem info139b : (Tryd.prog.info? 139).map (fun i => (i.zero, i.size, i.bytes)) = some (some (.agg #[.int .u64 0, .int .u64 0, .int .u64 0, .int .u64 0, .int .u64 0]), 5, 40) := by kernel_rfl
section
variable {w0 w W W2 : World} {gt gf : Nat} {s s1 : SV} {p : PS} {v vv : Value} {xs vs : List Int} {cs fc ic : Array Value} {A : Option Addr} {n c : Nat}
theorem Mx.newL {l : List S139} (h : Mx w0 gt gf w W s s1 p v xs cs fc ic vv vs) (hr : Rw k139 139 w W (.slice A n c) l) : Mx w0 gt gf w W s (s1.setL A n c) { p with L := l } v xs cs fc ic vv vs :=
 ⟨h.hg, h.hf, h.hi, h.hr, ⟨⟨h.mp.st.below, h.mp.st.tops, h.mp.st.mem, Kd.R_lower hr h.le, h.mp.st.locks, h.mp.st.blocks, h.mp.st.out, h.mp.st.inp, h.mp.st.ne, ⟨h.mp.st.num.1, h.mp.st.num.2, h.mp.st.num.3, h.mp.st.num.4, h.mp.st.num.5, h.mp.st.num.6, h.mp.st.num.7, h.mp.st.num.8, h.mp.st.num.9, h.mp.st.num.10⟩⟩, ⟨h.mp.xr.row, h.mp.xr.ne⟩, h.mp.kp, fun k hk => by
  rcases hk with hk | hk | hk | hk | hk
  ·exact h.mp.hat k (.inl hk)
  ·exact .inr (hr.lt hk).2.1
  ·exact h.mp.hat k (.inr (.inr (.inl hk)))
  ·exact h.mp.hat k (.inr (.inr (.inr (.inl hk))))
  ·exact h.mp.hat k (.inr (.inr (.inr (.inr hk))))⟩, h.vr, h.vn, h.vx, h.le⟩
theorem Mx.newB {l : List S141} (h : Mx w0 gt gf w W s s1 p v xs cs fc ic vv vs) (hr : Rw k141 141 w W (.slice A n c) l) : Mx w0 gt gf w W s (s1.setB A n c) { p with blocks := l } v xs cs fc ic vv vs :=
 ⟨h.hg, h.hf, h.hi, h.hr, ⟨⟨h.mp.st.below, h.mp.st.tops, h.mp.st.mem, h.mp.st.L, h.mp.st.locks, Kd.R_lower hr h.le, h.mp.st.out, h.mp.st.inp, h.mp.st.ne, ⟨h.mp.st.num.1, h.mp.st.num.2, h.mp.st.num.3, h.mp.st.num.4, h.mp.st.num.5, h.mp.st.num.6, h.mp.st.num.7, h.mp.st.num.8, h.mp.st.num.9, h.mp.st.num.10⟩⟩, ⟨h.mp.xr.row, h.mp.xr.ne⟩, h.mp.kp, fun k hk => by
  rcases hk with hk | hk | hk | hk | hk
  ·exact h.mp.hat k (.inl hk)
  ·exact h.mp.hat k (.inr (.inl hk))
  ·exact h.mp.hat k (.inr (.inr (.inl hk)))
  ·exact .inr (hr.lt hk).2.1
  ·exact h.mp.hat k (.inr (.inr (.inr (.inr hk))))⟩, h.vr, h.vn, h.vx, h.le⟩
end
def zrI : Nat -> Nat -> List Int -> List Int
 | 0, _, l => l
 | r + 1, i, l => zrI r (i + 1) (if rd l (i : Int) = 0 then l else putL l i 0)
def keepB (f t : Int) (x : S139) : Bool := decide (x.f0 < f) || decide (t <= x.f0)
def zrP (p : PS) (f n : Int) : PS := { p with mem := zrI n.toNat (f - 4096).toNat p.mem, L := p.L.filter (keepB f (f + n)) }
theorem filter_snoc (f : S139 -> Bool) {l : List S139} {j : Nat} (h : j < l.length) : (l.take (j + 1)).filter f = (l.take j).filter f ++ (if f (l.getD j z139) = true then [l.getD j z139] else []) := by
 rw [List.take_succ_eq_append_getElem h, List.filter_append, List.getD_eq_getElem?_getD, List.getElem?_eq_getElem h]
 simp [List.filter_cons]
theorem k141_mkM (w : World) (base : Nat) (ok : Nat -> Prop) (x : S141) : k141.M w base ok x [.int .u64 x.f0, .int .u64 x.f1, .bool x.f2] :=
 ⟨[.int .u64 x.f0], [.int .u64 x.f1, .bool x.f2], rfl, rfl, ⟨[.int .u64 x.f1], [.bool x.f2], rfl, rfl, rfl⟩⟩
theorem info141 : (Tryd.prog.info? 141).map (fun i => (i.zero, i.size, i.bytes)) = some (some (.agg #[.int .u64 0, .int .u64 0, .bool false]), 3, 24) := by kernel_rfl
def alB (p : PS) (n : Int) : Bool := decide (n < 1) || (decide (4194304 < n) || decide (2097152 < p.free + n))
def alP (p : PS) (n : Int) : PS := if alB p n = true then p.stopped 3 else { p with locks := p.locks ++ [p.keys + 1], keys := p.keys + 1, blocks := p.blocks ++ [⟨p.free, p.free + n, false⟩], free := upI (p.free + n) }
def alV (p : PS) (n : Int) : List Int := [p.free, p.free, p.free + n, p.keys + 1, (p.locks.length : Int)]
def alX (p : PS) (xs l : List Int) (n : Int) : List Int := if alB p n = true then xs else wrL xs l (alV p n)
section
variable {w0 w W W2 : World} {gt gf : Nat} {s s1 : SV} {p : PS} {v vv : Value} {xs vs : List Int} {cs fc ic : Array Value} {A : Option Addr} {n c : Nat}
theorem Mx.fresh (h : Mx w0 gt gf w W s s1 p v xs cs fc ic vv vs) (hs : RowSt (Kd.int .u64) 42 w0 W W2 s1.kv (.slice A n c) (p.locks ++ [p.keys + 1])) : Mx w0 gt gf w W2 s (s1.fresh A n c) { p with locks := p.locks ++ [p.keys + 1], keys := p.keys + 1 } v xs cs fc ic vv vs :=
 (h.pst (h.mp.st.setK hs)).nums ⟨h.mp.st.num.1, h.mp.st.num.2, congrArg (· + 1) h.mp.st.num.3, h.mp.st.num.4, h.mp.st.num.5, h.mp.st.num.6, h.mp.st.num.7, h.mp.st.num.8, h.mp.st.num.9, h.mp.st.num.10⟩ ⟨rfl, rfl, rfl, rfl, rfl, rfl, rfl, rfl, rfl⟩ ⟨rfl, rfl, rfl, rfl, rfl, rfl, rfl⟩
theorem Mx.free (h : Mx w0 gt gf w W s s1 p v xs cs fc ic vv vs) (f : Int) : Mx w0 gt gf w W s { s1 with free := f } { p with free := f } v xs cs fc ic vv vs :=
 h.nums ⟨h.mp.st.num.1, h.mp.st.num.2, h.mp.st.num.3, rfl, h.mp.st.num.5, h.mp.st.num.6, h.mp.st.num.7, h.mp.st.num.8, h.mp.st.num.9, h.mp.st.num.10⟩ ⟨rfl, rfl, rfl, rfl, rfl, rfl, rfl, rfl, rfl⟩ ⟨rfl, rfl, rfl, rfl, rfl, rfl, rfl⟩
end
def wpAnyG (P : Program) (ops : Array Oper) (Q : Exit -> Act -> World -> Prop) (S : World -> Prop) (m : Nat) : Nat -> Array Bool -> Act -> World -> Prop
 | 0, listed, a, w => Region.ready .any ops listed = [] /\ Q .normal a w
 | f + 1, listed, a, w => (Region.ready .any ops listed = [] -> Q .normal a w) /\ ∀ i ∈ Region.ready .any ops listed, wpOp P ops Q i (fun a2 w2 => (i ≠ m -> S w2) /\ wpAnyG P ops Q S m f (listed.setIfInBounds i true) a2 w2) a w
section
variable {P : Program} {ops : Array Oper} {Q : Exit -> Act -> World -> Prop} {S : World -> Prop} {m : Nat}
theorem wpAny_of_G : ∀ (f : Nat) (listed : Array Bool) (a : Act) (w : World), wpAnyG P ops Q S m f listed a w -> wpAny P .any ops Q f listed a w
 | 0, _, _, _, h => h
 | f + 1, _, _, _, h => ⟨h.1, fun i hi => wpOp_mono (fun a2 w2 h2 => wpAny_of_G f _ a2 w2 h2.2) (h.2 i hi)⟩
theorem wpAnyG_first {i : Nat} {oi : Oper} {v : Value} (hi : ops[i]? = some oi) (hsel : ∀ (j : Nat) (o : Oper) cs b, ops[j]? = some o -> o.op ≠ .select cs b) (hw : Region.waitsFor .any ops m i = true)
  (hQ : ∀ c a w, Q (.panic c) (a.put oi.dst v) w -> Q (.panic c) a w) :
  ∀ (f : Nat) (listed : Array Bool) (a : Act) (w : World), (∀ j oj, ops[j]? = some oj -> j ≠ i -> listed.getD j true = false -> (∀ e ∈ oj.after, Region.binds .any e = true -> e.on ≠ i) -> oi.apart ops oj = true) →
   i ∈ Region.ready .any ops listed -> YieldsIf P ops S oi v a -> S w -> wpAnyG P ops Q S m f (listed.setIfInBounds i true) (a.put oi.dst v) w -> wpAnyG P ops Q S m (f + 1) listed a w := by
 intro f
 induction f with
 | zero =>
  intro listed a w _ hr hy hS H
  refine ⟨fun h => (by rw [h] at hr; cases hr), fun j hj => ?_⟩
  by_cases hji : j = i
  ·subst hji; exact hy.wpOp hi hS ⟨fun _ => hS, H⟩
  ·have := ready_mono hj hji
   rw [H.1] at this
   cases this
 | succ f ih =>
  intro listed a w hfree hr hy hS H
  refine ⟨fun h => (by rw [h] at hr; cases hr), fun j hj => ?_⟩
  by_cases hji : j = i
  ·subst hji; exact hy.wpOp hi hS ⟨fun _ => hS, H⟩
  ·obtain ⟨hjun, oj, hoj, hall⟩ := mem_ready.1 hj
   have hnot : ∀ e ∈ oj.after, Region.binds .any e = true -> e.on ≠ i := fun e he hb heq => by
    have h1 := hall e he hb
    rw [heq, getD_both (mem_ready.1 hr).1] at h1
    cases h1
   have hjm : j ≠ m := fun e => by
    subst e
    obtain ⟨o', ho', e, he, hb, hon⟩ := Region.waitsFor_spec hw
    obtain rfl : o' = oj := Option.some.inj (ho'.symm.trans hoj)
    exact hnot e he hb hon
   have h2 := wpOp_putIf hoj (hfree j oj hoj hji hjun hnot) (fun cs b => hsel i oi cs b hi) (fun cs b => hsel j oj cs b hoj) hQ hy (H.2 j (ready_mono hj hji))
   refine wpOp_mono (fun a2 w2 h3 => ⟨fun _ => h3.2.1 hjm, ih (listed.setIfInBounds j true) a2 w2 (fun k ok hk hki hun hno => hfree k ok hk hki (by
    by_cases hjk : j = k
    ·subst hjk; exact hjun
    ·rw [getD_set_ne true hjk] at hun; exact hun) hno) (ready_mono hr (Ne.symm hji)) h3.1 (h3.2.1 hjm) ?_⟩) h2
   rw [Array.setIfInBounds_comm _ _ hji]
   exact h3.2.2
end
structure SG (P : Program) (ops : Array Oper) (Q : Exit -> Act -> World -> Prop) (S : World -> Prop) (m : Nat) (fuel : Nat) (listed : Array Bool) (a : Act) (w : World) : Prop where
 out : wpAnyG P ops Q S m fuel listed a w
def tgB (ops : Array Oper) (m : Nat) (listed : Array Bool) (i : Nat) : Bool := tkB ops listed i && Region.waitsFor .any ops m i
section
variable {P : Program} {ops : Array Oper} {Q : Exit -> Act -> World -> Prop} {S : World -> Prop} {m fuel : Nat} {listed : Array Bool} {a : Act} {w : World}
theorem sg_start {id : Nat} (S : World -> Prop) (m : Nat) (hm : P.follows .mixedOrders = true) (h : SG P ops Q S m ops.size (Array.replicate ops.size false) a w.drew) : (Code.region id ops true).wp P Q a w := wp_region_any hm (wpAny_of_G _ _ _ _ h.out)
theorem SG.take (i : Nat) {oi : Oper} {v : Value} (hi : ops[i]? = some oi) (hB : tgB ops m listed i = true) (hQ : ∀ c a w, Q (.panic c) (a.put oi.dst v) w -> Q (.panic c) a w) (hS : S w) (hw : Region.wanted oi (yielded ops a.tmps) = true) (hy : ∀ w, S w -> (execOp a.eval oi).run P w = .ok (.value v) w)
  (h : SG P ops Q S m fuel (listed.setIfInBounds i true) (a.put oi.dst v) w) : SG P ops Q S m (fuel + 1) listed a w := by
 simp only [tgB, tkB, Bool.and_eq_true] at hB
 exact ⟨wpAnyG_first hi (Region.noSelect_spec hB.1.1) hB.2 hQ fuel listed a w (Region.free_spec hi hB.1.2.1) (by simpa using hB.1.2.2) (.inl ⟨hw, hy⟩) hS h.out⟩
theorem SG.act (i : Nat) {oi : Oper} (hi : ops[i]? = some oi) (hr : Region.ready .any ops listed = [i])
  (h : ∀ K : Act -> World -> Prop, (∀ a2 w2, (i ≠ m -> S w2) -> SG P ops Q S m fuel (listed.setIfInBounds i true) a2 w2 -> K a2 w2) -> if Region.wanted oi (yielded ops a.tmps) = true then oi.wp P a w K Q else K (a.put oi.dst undef) w) : SG P ops Q S m (fuel + 1) listed a w := by
 refine ⟨fun h0 => (by rw [hr] at h0; cases h0), fun j hj => ?_⟩
 rw [hr] at hj
 obtain rfl : j = i := List.mem_singleton.1 hj
 have hK := h (fun a2 w2 => (j ≠ m -> S w2) /\ wpAnyG P ops Q S m fuel (listed.setIfInBounds j true) a2 w2) (fun a2 w2 hS h2 => ⟨hS, h2.out⟩)
 unfold wpOp
 simp only [hi]
 split
 ·rename_i hw; rw [if_pos hw] at hK; exact .inl hK
 ·rename_i hw; rw [if_neg hw] at hK; exact hK
theorem SG.done (hr : Region.ready .any ops listed = []) (h : Q .normal a w) : SG P ops Q S m fuel listed a w := ⟨by
 cases fuel with
 | zero => exact ⟨hr, h⟩
 | succ f => exact ⟨fun _ => h, fun i hi => by rw [hr] at hi; cases hi⟩⟩
end
end
section
section
variable (s : SV) (i : S44) (A7 : Option Addr) (c7 : Nat) (A8 : Option Addr) (c8 : Nat) (xs : List Int) (A : Option Addr) (c : Nat) (w0 w : World)
set_option maxHeartbeats 4000000 in
set_option maxRecDepth 20000 in
theorem plain3 (hr : Kd.R (Kd.int .u64) 42 w w0.heap.size (fun _ => True) (.slice A xs.length c) xs) (d a b : Nat) (hop : i.f0 = 3) (hd : i.f1 = (d : Int)) (hdl : d < xs.length) (ha : i.f2 = (a : Int)) (hal : a < xs.length) (hb : i.f3 = (b : Int)) (hbl : b < xs.length) (hn0 : 1 <= i.f4) (hn1 : i.f4 <= 27) (r : Int) (ok : Bool) (hN : ∀ W, Calls Tryd.prog 63 #[.int .i64 i.f4, .int .u64 (rd xs a), .int .u64 (rd xs b)] W fun e w' => e = .returned (.tuple #[.int .u64 r, .bool ok]) /\ Below W.heap.size W w') :
  Calls Tryd.prog 56 #[.agg s.cs, .agg (icOf i A7 c7 A8 c8), .slice A xs.length c] w fun e w' => e = .returned (.agg s.cs) /\ RowSt (Kd.int .u64) 42 w0 w w' (.slice A xs.length c) (.slice A xs.length c) (xs.set d r) := by
 have HE := Aside0.mk (show rdOf (0 : Int) xs (a : Int) = rd xs a from rfl)
 have HE2 := Aside0.mk (show rdOf (0 : Int) xs (b : Int) = rd xs b from rfl)
 generalize rd xs a = u at HE hN
 generalize rd xs b = v at HE2 hN
 have HNW := Aside0.mk hN
 clear hN
 have hu95 := Tryd.underlying95
 have hu44 := Tryd.underlying44
 have hu71 := Tryd.underlying71
 have HR := Aside0.mk hr
 have HI := Aside0.mk (show (icOf i A7 c7 A8 c8)[0]? = some (.int .i64 3) /\ (icOf i A7 c7 A8 c8)[1]? = some (.int .i64 (d : Int)) /\ (icOf i A7 c7 A8 c8)[2]? = some (.int .i64 (a : Int)) /\ (icOf i A7 c7 A8 c8)[3]? = some (.int .i64 (b : Int)) /\ (icOf i A7 c7 A8 c8)[4]? = some (.int .u64 i.f4) from ⟨by rw [<- hop]; rfl, by rw [<- hd]; rfl, by rw [<- ha]; rfl, by rw [<- hb]; rfl, rfl⟩)
 generalize icOf i A7 c7 A8 c8 = ic at HI
 have d0 : 0 <= (d : Int) := by omega
 have d1 : (d : Int) < (xs.length : Int) := by omega
 have a0 : 0 <= (a : Int) := by omega
 have a1 : (a : Int) < (xs.length : Int) := by omega
 have b0 : 0 <= (b : Int) := by omega
 have b1 : (b : Int) < (xs.length : Int) := by omega
 have hw4 : IntKind.i64.wrap i.f4 = i.f4 := by rw [IntKind.wrap_i64]; omega
 clear hr hop hd ha hb
 go_enter Tryd.func56, Tryd.ntmps56
 go_upto_region 1 with (fail)
 generalize hW : World.alloc (World.alloc (World.alloc w (Obj.cells s.cs 95)) (Obj.cells ic 44)) _ = W
 have HX := Aside0.mk (show Px w W (Value.slice A xs.length c).ownBlock s.cs ic by rw [<- hW]; exact Px.new w _ s.cs ic)
 have HB := Aside0.mk (show Below w.heap.size w W by rw [<- hW]; exact (tri_new w _ _ _).2)
 clear hW
 have y0 := (blk_cell HX.out.hi 0).trans HI.out.1
 have HS := Aside0.mk (RowSt.start HR.out HB.out)
 obtain ⟨g, cap, e1, hgb, hgl, cl, hgc⟩ := Kd.R_form HS.out.row (by omega)
 injection e1 with e1 e2 e3
 subst e1
 subst e3
 have HGI := Aside0.mk (show ¬ w.heap.size + 1 = g from fun e => Kd.R_ne HS.out.row HX.out.hi (by decide) (by rw [e]; rfl))
 have HK := Aside0.mk (fun (w9 : World) (hS : Kp W w9 (fun k => k = g)) => (show w9.cell? ⟨w.heap.size + 1, 1, none⟩ = some (.int .i64 (d : Int)) /\ w9.cell? ⟨w.heap.size + 1, 4, none⟩ = some (.int .u64 i.f4) /\ w9.cell? ⟨w.heap.size + 1, 2, none⟩ = some (.int .i64 (a : Int)) /\ w9.cell? ⟨w.heap.size + 1, 3, none⟩ = some (.int .i64 (b : Int)) from
  ⟨hS.cell ((blk_cell HX.out.hi 1).trans HI.out.2.1) HGI.out, hS.cell ((blk_cell HX.out.hi 4).trans HI.out.2.2.2.2) HGI.out, hS.cell ((blk_cell HX.out.hi 2).trans HI.out.2.2.1) HGI.out, hS.cell ((blk_cell HX.out.hi 3).trans HI.out.2.2.2.1) HGI.out⟩))
 obtain ⟨hxa, hfa⟩ := Kd.R_celln 0 HS.out.row (a : Int) a0 a1
 obtain ⟨hxb, hfb⟩ := Kd.R_celln 0 HS.out.row (b : Int) b0 b1
 rw [Int.toNat_natCast] at hxa hxb
 rw [HE.out] at hxa
 rw [HE2.out] at hxb
 have hS0 : Kp W W.drew (fun k => k = g) := Kp.below (below_drew (Below.refl _ _)) _
 clear hgc hfa hfb e2
 go_upto_region 7 with (fail)
 refine sw_start (fun w9 => Kp W w9 (fun k => k = g)) (by kernel_rfl) hS0 ?_
 refine SW.take 0 (v := ?_) rfl (by kernel_rfl) (fun _ _ _ h => h) hS0 (by rfl) ?_ ?_
 rotate_left
 ·intro w9 hS9
  go_simp <;> (with_reducible rfl)
 simp only [Act.put, List.setIfInBounds_toArray, List.set_cons_zero, List.set_cons_succ]
 refine SW.take 1 (v := ?_) rfl (by kernel_rfl) (fun _ _ _ h => h) hS0 (by rfl) ?_ ?_
 rotate_left
 ·intro w9 hS9
  go_simp <;> (with_reducible rfl)
 simp only [Act.put, List.setIfInBounds_toArray, List.set_cons_zero, List.set_cons_succ]
 refine SW.take 2 (v := ?_) rfl (by kernel_rfl) (fun _ _ _ h => h) hS0 (by rfl) ?_ ?_
 rotate_left
 ·intro w9 hS9
  have y1 := (HK.out w9 hS9).1
  go_simp <;> (with_reducible rfl)
 simp only [Act.put, List.setIfInBounds_toArray, List.set_cons_zero, List.set_cons_succ]
 refine SW.take 3 (v := ?_) rfl (by kernel_rfl) (fun _ _ _ h => h) hS0 (by rfl) ?_ ?_
 rotate_left
 ·intro w9 hS9
  go_simp <;> (with_reducible rfl)
 simp only [Act.put, List.setIfInBounds_toArray, List.set_cons_zero, List.set_cons_succ]
 refine SW.take 4 (v := ?_) rfl (by kernel_rfl) (fun _ _ _ h => h) hS0 (by rfl) ?_ ?_
 rotate_left
 ·intro w9 hS9
  have y4 := (HK.out w9 hS9).2.1
  go_simp <;> (with_reducible rfl)
 simp only [Act.put, List.setIfInBounds_toArray, List.set_cons_zero, List.set_cons_succ]
 refine SW.take 5 (v := ?_) rfl (by kernel_rfl) (fun _ _ _ h => h) hS0 (by rfl) ?_ ?_
 rotate_left
 ·intro w9 hS9
  go_simp <;> (with_reducible rfl)
 simp only [Act.put, List.setIfInBounds_toArray, List.set_cons_zero, List.set_cons_succ]
 refine SW.take 6 (v := ?_) rfl (by kernel_rfl) (fun _ _ _ h => h) hS0 (by rfl) ?_ ?_
 rotate_left
 ·intro w9 hS9
  go_simp <;> (with_reducible rfl)
 simp only [Act.put, List.setIfInBounds_toArray, List.set_cons_zero, List.set_cons_succ]
 refine SW.take 7 (v := ?_) rfl (by kernel_rfl) (fun _ _ _ h => h) hS0 (by rfl) ?_ ?_
 rotate_left
 ·intro w9 hS9
  go_simp <;> (with_reducible rfl)
 simp only [Act.put, List.setIfInBounds_toArray, List.set_cons_zero, List.set_cons_succ]
 refine SW.take 8 (v := ?_) rfl (by kernel_rfl) (fun _ _ _ h => h) hS0 (by rfl) ?_ ?_
 rotate_left
 ·intro w9 hS9
  have y2 := (HK.out w9 hS9).2.2.1
  go_simp <;> (with_reducible rfl)
 simp only [Act.put, List.setIfInBounds_toArray, List.set_cons_zero, List.set_cons_succ]
 refine SW.take 9 (v := ?_) rfl (by kernel_rfl) (fun _ _ _ h => h) hS0 (by rfl) ?_ ?_
 rotate_left
 ·intro w9 hS9
  go_simp <;> (with_reducible rfl)
 simp only [Act.put, List.setIfInBounds_toArray, List.set_cons_zero, List.set_cons_succ]
 refine SW.take 11 (v := ?_) rfl (by kernel_rfl) (fun _ _ _ h => h) hS0 (by rfl) ?_ ?_
 rotate_left
 ·intro w9 hS9
  go_simp <;> (with_reducible rfl)
 simp only [Act.put, List.setIfInBounds_toArray, List.set_cons_zero, List.set_cons_succ]
 refine SW.take 12 (v := ?_) rfl (by kernel_rfl) (fun _ _ _ h => h) hS0 (by rfl) ?_ ?_
 rotate_left
 ·intro w9 hS9
  go_simp <;> (with_reducible rfl)
 simp only [Act.put, List.setIfInBounds_toArray, List.set_cons_zero, List.set_cons_succ]
 refine SW.take 13 (v := ?_) rfl (by kernel_rfl) (fun _ _ _ h => h) hS0 (by rfl) ?_ ?_
 rotate_left
 ·intro w9 hS9
  have y3 := (HK.out w9 hS9).2.2.2
  go_simp <;> (with_reducible rfl)
 simp only [Act.put, List.setIfInBounds_toArray, List.set_cons_zero, List.set_cons_succ]
 refine SW.take 14 (v := ?_) rfl (by kernel_rfl) (fun _ _ _ h => h) hS0 (by rfl) ?_ ?_
 rotate_left
 ·intro w9 hS9
  go_simp <;> (with_reducible rfl)
 simp only [Act.put, List.setIfInBounds_toArray, List.set_cons_zero, List.set_cons_succ]
 refine SW.act2 10 15 rfl rfl (by kernel_rfl) ?_ ?_
 ·intro K hK
  go_simp
  refine hK _ _ hS0 ?_
  clear hK K
  refine SW.act 15 rfl (by kernel_rfl) ?_
  intro K hK
  go_simp
  refine hK _ _ hS0 ?_
  clear hK K
  refine SW.act 16 rfl (by kernel_rfl) ?_
  intro K hK
  go_simp
  (go_at_call 63; (with_reducible refine (HNW.out _).mono ?_); rintro e w3 ⟨rfl, hb⟩)
  go_simp
  have hB := below_step (below_drew (Below.refl _ _)) hb
  have hS3 : Kp W w3 (fun k => k = g) := Kp.below hB _
  refine hK _ _ hS3 ?_
  clear hK K hS0
  have hS0 := hS3
  have HX3 := Aside0.mk (HX.out.step hB)
  have HS3 := Aside0.mk (HS.out.step hB)
  obtain ⟨hx, hf⟩ := Kd.R_celln 0 HS3.out.row (d : Int) d0 d1
  rw [Int.toNat_natCast] at hx hf
  have hp := Kd.R_putg HS3.out.row (d : Int) r
  rw [Int.toNat_natCast] at hp
  have HX2 := Aside0.mk (HX3.out.grown hp.2 (Kd.R_ne HS3.out.row HX3.out.bx.hg (by decide)) (Kd.R_ne HS3.out.row HX3.out.hi (by decide)) (Kd.R_ne HS3.out.row HX3.out.bx.hr (by decide)) HS3.out.sep)
  have HS2 := Aside0.mk (HS3.out.next hp.1 hp.2 (.inl rfl))
  clear hp hb
  try simp only [Act.put, List.setIfInBounds_toArray, List.set_cons_zero, List.set_cons_succ]
  refine SW.take 17 (v := ?_) rfl (by kernel_rfl) (fun _ _ _ h => h) hS0 (by rfl) ?_ ?_
  rotate_left
  ·intro w9 hS9
   go_simp <;> (with_reducible rfl)
  simp only [Act.put, List.setIfInBounds_toArray, List.set_cons_zero, List.set_cons_succ]
  refine SW.take 18 (v := ?_) rfl (by kernel_rfl) (fun _ _ _ h => h) hS0 (by rfl) ?_ ?_
  rotate_left
  ·intro w9 hS9
   go_simp <;> (with_reducible rfl)
  simp only [Act.put, List.setIfInBounds_toArray, List.set_cons_zero, List.set_cons_succ]
  refine SW.take 19 (v := ?_) rfl (by kernel_rfl) (fun _ _ _ h => h) hS0 (by rfl) ?_ ?_
  rotate_left
  ·intro w9 hS9
   go_simp <;> (with_reducible rfl)
  simp only [Act.put, List.setIfInBounds_toArray, List.set_cons_zero, List.set_cons_succ]
  refine SW.take 20 (v := ?_) rfl (by kernel_rfl) (fun _ _ _ h => h) hS0 (by rfl) ?_ ?_
  rotate_left
  ·intro w9 hS9
   go_simp <;> (with_reducible rfl)
  simp only [Act.put, List.setIfInBounds_toArray, List.set_cons_zero, List.set_cons_succ]
  refine SW.act 21 rfl (by kernel_rfl) ?_
  intro K hK
  go_simp
  refine hK _ _ (hS3.then_ (kp_set w3 g d _) (fun _ e => e) (fun k e => .inl e)) ?_
  clear hK K
  refine SW.done (by kernel_rfl) ?_
  clear hx hf hS0 hS3 hB HX HS HX3 HS3
  go_wp2_with (first | ((with_reducible refine gate_dst (N := 116) rfl ?_); refine load95 _ rfl rfl _ rfl _ HX2.out.bx.hg (Cs.of s) ?_) | ((with_reducible refine gate_store (t := 95) (p := 6) rfl ?_); refine store95 _ _ rfl rfl rfl _ rfl _ rfl _ HX2.out.bx.hr HX2.out.bx.zs (Cs.of s) ?_; intro W3 h2 hfar hgr))
  refine bodyPost_ret (results_cell_row rfl _ _ (w.heap.size + 2) 95 _ (0, 0) _ rfl h2 hu95 rfl (by kernel_rfl)) rfl ?_
  exact ⟨rfl, HS2.out.box2 HX2.out.bx.hr (by decide) hfar (hgr w _ HX2.out.bx.lr HS2.out.grown)⟩
 ·intro K hK
  go_simp
  refine hK _ _ hS0 ?_
  clear hK K
  refine SW.act 10 rfl (by kernel_rfl) ?_
  intro K hK
  go_simp
  refine hK _ _ hS0 ?_
  clear hK K
  refine SW.act 16 rfl (by kernel_rfl) ?_
  intro K hK
  go_simp
  (go_at_call 63; (with_reducible refine (HNW.out _).mono ?_); rintro e w3 ⟨rfl, hb⟩)
  go_simp
  have hB := below_step (below_drew (Below.refl _ _)) hb
  have hS3 : Kp W w3 (fun k => k = g) := Kp.below hB _
  refine hK _ _ hS3 ?_
  clear hK K hS0
  have hS0 := hS3
  have HX3 := Aside0.mk (HX.out.step hB)
  have HS3 := Aside0.mk (HS.out.step hB)
  obtain ⟨hx, hf⟩ := Kd.R_celln 0 HS3.out.row (d : Int) d0 d1
  rw [Int.toNat_natCast] at hx hf
  have hp := Kd.R_putg HS3.out.row (d : Int) r
  rw [Int.toNat_natCast] at hp
  have HX2 := Aside0.mk (HX3.out.grown hp.2 (Kd.R_ne HS3.out.row HX3.out.bx.hg (by decide)) (Kd.R_ne HS3.out.row HX3.out.hi (by decide)) (Kd.R_ne HS3.out.row HX3.out.bx.hr (by decide)) HS3.out.sep)
  have HS2 := Aside0.mk (HS3.out.next hp.1 hp.2 (.inl rfl))
  clear hp hb
  try simp only [Act.put, List.setIfInBounds_toArray, List.set_cons_zero, List.set_cons_succ]
  refine SW.take 17 (v := ?_) rfl (by kernel_rfl) (fun _ _ _ h => h) hS0 (by rfl) ?_ ?_
  rotate_left
  ·intro w9 hS9
   go_simp <;> (with_reducible rfl)
  simp only [Act.put, List.setIfInBounds_toArray, List.set_cons_zero, List.set_cons_succ]
  refine SW.take 18 (v := ?_) rfl (by kernel_rfl) (fun _ _ _ h => h) hS0 (by rfl) ?_ ?_
  rotate_left
  ·intro w9 hS9
   go_simp <;> (with_reducible rfl)
  simp only [Act.put, List.setIfInBounds_toArray, List.set_cons_zero, List.set_cons_succ]
  refine SW.take 19 (v := ?_) rfl (by kernel_rfl) (fun _ _ _ h => h) hS0 (by rfl) ?_ ?_
  rotate_left
  ·intro w9 hS9
   go_simp <;> (with_reducible rfl)
  simp only [Act.put, List.setIfInBounds_toArray, List.set_cons_zero, List.set_cons_succ]
  refine SW.take 20 (v := ?_) rfl (by kernel_rfl) (fun _ _ _ h => h) hS0 (by rfl) ?_ ?_
  rotate_left
  ·intro w9 hS9
   go_simp <;> (with_reducible rfl)
  simp only [Act.put, List.setIfInBounds_toArray, List.set_cons_zero, List.set_cons_succ]
  refine SW.act 21 rfl (by kernel_rfl) ?_
  intro K hK
  go_simp
  refine hK _ _ (hS3.then_ (kp_set w3 g d _) (fun _ e => e) (fun k e => .inl e)) ?_
  clear hK K
  refine SW.done (by kernel_rfl) ?_
  clear hx hf hS0 hS3 hB HX HS HX3 HS3
  go_wp2_with (first | ((with_reducible refine gate_dst (N := 116) rfl ?_); refine load95 _ rfl rfl _ rfl _ HX2.out.bx.hg (Cs.of s) ?_) | ((with_reducible refine gate_store (t := 95) (p := 6) rfl ?_); refine store95 _ _ rfl rfl rfl _ rfl _ rfl _ HX2.out.bx.hr HX2.out.bx.zs (Cs.of s) ?_; intro W3 h2 hfar hgr))
  refine bodyPost_ret (results_cell_row rfl _ _ (w.heap.size + 2) 95 _ (0, 0) _ rfl h2 hu95 rfl (by kernel_rfl)) rfl ?_
  exact ⟨rfl, HS2.out.box2 HX2.out.bx.hr (by decide) hfar (hgr w _ HX2.out.bx.lr HS2.out.grown)⟩
end
end
section
section
variable {w0 w W : World} {gt gf : Nat} {s : SV} {p : PS} {v : Value} {xs ys : List Int}
theorem mp_regs (h : StI w0 gt gf w s p) (hx : XR w0 w s v xs) (hr : RowSt (Kd.int .u64) 42 w0 w W v v ys) : MP w0 gt gf w W s s p v ys := (MP.start h hx).regs hr
end
section
variable (w0 : World) (gt gf : Nat) (w : World) (s : SV) (p : PS) (i : S44) (A7 : Option Addr) (c7 : Nat) (A8 : Option Addr) (c8 : Nat) (xs : List Int) (A : Option Addr) (c : Nat)
theorem pl1 (h : StI w0 gt gf w s p) (hx : XR w0 w s (.slice A xs.length c) xs) (d : Nat) (hop : i.f0 = 1) (hd : i.f1 = (d : Int)) (hdl : d < xs.length) :
  Calls Tryd.prog 56 #[.agg s.cs, .agg (icOf i A7 c7 A8 c8), .slice A xs.length c] w (MPost w0 gt gf w s p (.slice A xs.length c) (xs.set d i.f4)) :=
 (plain1 s i A7 c7 A8 c8 xs A c w0 w hx.row d hop hd hdl).mono fun _ _ he => ⟨s, he.1, mp_regs h hx he.2⟩
theorem pl2 (h : StI w0 gt gf w s p) (hx : XR w0 w s (.slice A xs.length c) xs) (d a : Nat) (hop : i.f0 = 2) (hd : i.f1 = (d : Int)) (hdl : d < xs.length) (ha : i.f2 = (a : Int)) (hal : a < xs.length) :
  Calls Tryd.prog 56 #[.agg s.cs, .agg (icOf i A7 c7 A8 c8), .slice A xs.length c] w (MPost w0 gt gf w s p (.slice A xs.length c) (xs.set d (rd xs a))) :=
 (plain2 s i A7 c7 A8 c8 xs A c w0 w hx.row d a hop hd hdl ha hal).mono fun _ _ he => ⟨s, he.1, mp_regs h hx he.2⟩
theorem pl3 (h : StI w0 gt gf w s p) (hx : XR w0 w s (.slice A xs.length c) xs) (d a b : Nat) (hop : i.f0 = 3) (hd : i.f1 = (d : Int)) (hdl : d < xs.length) (ha : i.f2 = (a : Int)) (hal : a < xs.length) (hb : i.f3 = (b : Int)) (hbl : b < xs.length) (hn0 : 1 <= i.f4) (hn1 : i.f4 <= 27) (r : Int) (ok : Bool) (hN : ∀ W, Calls Tryd.prog 63 #[.int .i64 i.f4, .int .u64 (rd xs a), .int .u64 (rd xs b)] W fun e w' => e = .returned (.tuple #[.int .u64 r, .bool ok]) /\ Below W.heap.size W w') :
  Calls Tryd.prog 56 #[.agg s.cs, .agg (icOf i A7 c7 A8 c8), .slice A xs.length c] w (MPost w0 gt gf w s p (.slice A xs.length c) (xs.set d r)) :=
 (plain3 s i A7 c7 A8 c8 xs A c w0 w hx.row d a b hop hd hdl ha hal hb hbl hn0 hn1 r ok hN).mono fun _ _ he => ⟨s, he.1, mp_regs h hx he.2⟩
theorem pl4 (h : StI w0 gt gf w s p) (hx : XR w0 w s (.slice A xs.length c) xs) (d a : Nat) (hop : i.f0 = 4) (hd : i.f1 = (d : Int)) (hdl : d < xs.length) (ha : i.f2 = (a : Int)) (hal : a < xs.length) (hsz : i.f5 = 1 ∨ i.f5 = 4 ∨ i.f5 = 8) (hu0 : 0 <= rd xs a) :
  Calls Tryd.prog 56 #[.agg s.cs, .agg (icOf i A7 c7 A8 c8), .slice A xs.length c] w (MPost w0 gt gf w s p (.slice A xs.length c) (xs.set d (narI (rd xs a) (8 * i.f5.toNat)))) := by
 refine (plain4 s i A7 c7 A8 c8 xs A c w0 w hx.row d a hop hd hdl ha hal (narI (rd xs a) (8 * i.f5.toNat)) true (fun W => ?_)).mono fun _ _ he => ⟨s, he.1, mp_regs h hx he.2⟩
 have e : IntKind.i64.wrap (8 * i.f5) = ((8 * i.f5.toNat : Nat) : Int) := by rw [IntKind.wrap_i64]; omega
 rw [e]
 exact (nar_calls (rd xs a) (8 * i.f5.toNat) W hu0 (by omega)).mono fun _ _ he => ⟨he.1, by rw [<- he.2]; exact Drawn0.refl _⟩
theorem pl20 (h : StI w0 gt gf w s p) (hx : XR w0 w s (.slice A xs.length c) xs) (a : Nat) (hop : i.f0 = 20) (ha : i.f2 = (a : Int)) (hal : a < xs.length) (hol : p.out.length <= 4194304) :
  Calls Tryd.prog 56 #[.agg s.cs, .agg (icOf i A7 c7 A8 c8), .slice A xs.length c] w (MPost w0 gt gf w s { p with out := p.out ++ [by8 (rd xs a)] } (.slice A xs.length c) xs) := by
 refine (plain20 s i A7 c7 A8 c8 xs A c w0 w hx.row a p.out h.out h.below hol hop ha hal).mono fun _ _ he => ?_
 obtain ⟨A2, c2, e1, hs, _⟩ := he
 exact ⟨_, e1, (MP.start h hx).pst (h.setO hs)⟩
theorem pl22 (h : StI w0 gt gf w s p) (hx : XR w0 w s (.slice A xs.length c) xs) (a : Nat) (hop : i.f0 = 22) (ha : i.f2 = (a : Int)) (hal : a < xs.length) :
  Calls Tryd.prog 56 #[.agg s.cs, .agg (icOf i A7 c7 A8 c8), .slice A xs.length c] w (MPost w0 gt gf w s (({ p with code := by8 (rd xs a) } : PS).stopped 1) (.slice A xs.length c) xs) := by
 refine (plain22 s i A7 c7 A8 c8 xs A c w0 w hx.row a hop ha hal).mono fun _ _ he => ⟨_, he.1, ?_⟩
 have hn : NumI gt gf ({ s with code := by8 (rd xs a) } : SV) ({ p with code := by8 (rd xs a) } : PS) := ⟨h.num.1, h.num.2, h.num.3, h.num.4, h.num.5, h.num.6, h.num.7, h.num.8, h.num.9, rfl⟩
 exact ((MP.start h hx).step he.2).nums (hn.stopped 1) ⟨rfl, rfl, rfl, rfl, rfl, rfl, rfl, rfl, rfl⟩ ⟨rfl, rfl, rfl, rfl, rfl, rfl, rfl⟩
theorem pl21n (h : StI w0 gt gf w s p) (hx : XR w0 w s (.slice A xs.length c) xs) (d : Nat) (hi : p.input = []) (hop : i.f0 = 21) (hd : i.f1 = (d : Int)) (hdl : d < xs.length) :
  Calls Tryd.prog 56 #[.agg s.cs, .agg (icOf i A7 c7 A8 c8), .slice A xs.length c] w (MPost w0 gt gf w s p (.slice A xs.length c) (xs.set d 18446744073709551615)) :=
 (plain21n s i A7 c7 A8 c8 xs A c w0 w hx.row d (by have := h.inp.1.1; rw [hi] at this; exact this.symm) hop hd hdl).mono fun _ _ he => ⟨s, he.1, mp_regs h hx he.2⟩
theorem pl21c (h : StI w0 gt gf w s p) (hx : XR w0 w s (.slice A xs.length c) xs) (d : Nat) (b : Int) (inp : List Int) (hi : p.input = b :: inp) (hop : i.f0 = 21) (hd : i.f1 = (d : Int)) (hdl : d < xs.length) :
  Calls Tryd.prog 56 #[.agg s.cs, .agg (icOf i A7 c7 A8 c8), .slice A xs.length c] w (MPost w0 gt gf w s { p with input := inp } (.slice A xs.length c) (xs.set d (IntKind.u64.wrap b))) := by
 have hin := h.inp.1
 rw [hi] at hin
 refine (plain21c s i A7 c7 A8 c8 xs A c w0 w hx.row d inp b (Kd.C_below hin h.below) h.inp.2 hop hd hdl).mono fun _ _ he => ?_
 obtain ⟨A2, c2, e1, hc, hW, hs⟩ := he
 refine ⟨_, e1, ?_⟩
 have m := mp_regs h hx hs
 exact ⟨⟨m.st.below, m.st.tops, m.st.mem, m.st.L, m.st.locks, m.st.blocks, m.st.out, ⟨hW _ hin, hc⟩, m.st.ne, ⟨h.num.1, h.num.2, h.num.3, h.num.4, h.num.5, h.num.6, h.num.7, h.num.8, h.num.9, h.num.10⟩⟩, ⟨m.xr.row, m.xr.ne⟩, m.kp, m.hat⟩
end
end
end Go.Proofs.YtjfleaekljapeaaDoor.K
