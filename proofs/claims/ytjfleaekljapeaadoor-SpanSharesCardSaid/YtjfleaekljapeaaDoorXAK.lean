import Derived.Test.YtjfleaekljapeaaDoorXAJ
import Derived.Deep.DeepMust
import Derived.Test.YtjfleaekljapeaaDoorProg
import Derived.Below
import Derived.Deep.Draws
import Derived.Deep.AppendLies
import Derived.Maps.AppendAt
import Derived.OwnWalk
import Derived.Laws.BytesArg
import Derived.Laws.MakeOwn
import Derived.Laws.OwnMore
import Derived.Deep.OwnRows
import Derived.Tactics
import Derived.Lib.ConvBytes
import Derived.Laws.Slices
import Derived.WalkKit
import Derived.KernelRfl
import Derived.RowKit3
import Derived.Deep.LoopGhost
import Derived.Deep.QuietTactic
import Derived.BigQuiet
import Derived.WideLaws
import Derived.Deep.DeepCutAuto
import Derived.Deep.CutBlock
import Derived.Deep.RegionHeld3
import Derived.Deep.MidRow
import Derived.Laws.Tables
import Derived.StillTailTactics
import Derived.Laws.Rows
import Derived.Lib.AppendStr
import Derived.ArgAppend
import Derived.Laws.IdiomCopy
import Derived.OrdersHeld
import Derived.Laws.BitsLemmas
import Derived.Laws.BitsAllLaws
import Derived.RowKit
import Derived.RegionTactic
import Derived.Deep.RegionWith
import Derived.Lib.Hide
import Derived.Test.YtjfleaekljapeaaDoorXAA
import Derived.Test.YtjfleaekljapeaaDoorXAB
import Derived.Test.YtjfleaekljapeaaDoorXAC
import Derived.Deep.RegionLaw
import Derived.Laws.CopyOwn
import Derived.Shelf.Spec.TrailingZeros
import Derived.Test.YtjfleaekljapeaaDoorXAF
namespace Go.Proofs.YtjfleaekljapeaaDoor.K
open Go.RowKit Go.Proofs.YtjfleaekljapeaaDoorW.PrintWords Go.Proofs.YtjfleaekljapeaaDoorW.PrintLast Go.Proofs.YtjfleaekljapeaaDoorW.PrintMore
attribute [local go_sem] max2_int min2_int max_two min_two max_three min_three max_four min_four   -- for this text's walks alone
set_option linter.unusedVariables false
set_option linter.unusedSimpArgs false
set_option linter.unusedSectionVars false
section
section
variable {P : Program} {ops : Array Oper} {md : Region.Mode} {w : World}
def pivotB (md : Region.Mode) (ops : Array Oper) (n : Nat) : Bool := (List.range ops.size).all fun t => decide (t <= n) || (List.range t).any fun j => decide (n <= j) && Region.waitsFor md ops t j
theorem pivot_waits {n : Nat} {listed : Array Bool} (hs : Region.sinkB md ops n = true) (hp : pivotB md ops n = true) (inv : HeadInv md ops n listed) (hn : n < ops.size) :
  ∀ (d i : Nat), n - i = d -> i < n -> listed.getD i true = false -> ∀ t, t ∈ Region.ready md ops listed -> t < n := by
 intro d
 induction d using Nat.strongRecOn with
 | _ d ih =>
  intro i hd hi hun t hr
  obtain ⟨_, ot, hot, hall⟩ := mem_ready.1 hr
  have hts : t < ops.size := (Array.getElem?_eq_some_iff.1 hot).1
  refine Nat.lt_of_not_le fun htn => ?_
  rcases Nat.eq_or_lt_of_le htn with rfl | hlt
  ·obtain ⟨j, hj, hj2⟩ := List.any_eq_true.1 (List.all_eq_true.1 hs i (List.mem_range.2 hi))
   have hjn := List.mem_range.1 hj
   rw [Bool.and_eq_true, decide_eq_true_eq] at hj2
   obtain ⟨oj, hoj, e, he, hb, hon⟩ := Region.waitsFor_spec hj2.2
   by_cases hjt : j = n
   ·subst hjt
    obtain rfl : oj = ot := Option.some.inj (hoj.symm.trans hot)
    have h2 := hall e he hb
    rw [hon, getD_both hun] at h2
    cases h2
   ·cases hl : listed.getD j false with
    | true =>
     have h2 := inv.closed j oj hoj hl e he hb
     rw [hon, getD_both hun] at h2
     cases h2
    | false =>
     have := ih (n - j) (by omega) j rfl (by omega) (getD_in (by rw [inv.size]; omega) hl) n hr
     omega
  ·have h1 := List.all_eq_true.1 hp t (List.mem_range.2 hts)
   rw [Bool.or_eq_true, decide_eq_true_eq] at h1
   rcases h1 with h1 | h1
   ·omega
   ·obtain ⟨j, hj, hj2⟩ := List.any_eq_true.1 h1
    have hjt := List.mem_range.1 hj
    rw [Bool.and_eq_true, decide_eq_true_eq] at hj2
    obtain ⟨o', ho', e, he, hb, hon⟩ := Region.waitsFor_spec hj2.2
    obtain rfl : o' = ot := Option.some.inj (ho'.symm.trans hot)
    have h2 := hall e he hb
    rw [hon, getD_both (inv.tail j hj2.1 (by omega))] at h2
    cases h2
theorem head_first {n i : Nat} {oi : Oper} {v : Value} {L : Array Bool -> Act -> Prop} (hi : ops[i]? = some oi) (hsel : ∀ (j : Nat) (o : Oper) cs b, ops[j]? = some o -> o.op ≠ .select cs b)
  (hs : Region.sinkB md ops n = true) (hp : pivotB md ops n = true) (hn : n < ops.size) (hin : i < n) (hdone : ∀ listed a, L listed a -> ∀ j ∈ Region.ready md ops listed, n <= j) :
  ∀ (f : Nat) (listed : Array Bool) (a : Act), HeadInv md ops n listed →
   (∀ j oj, ops[j]? = some oj -> j ≠ i -> listed.getD j true = false -> (∀ e ∈ oj.after, Region.binds md e = true -> e.on ≠ i) -> oi.apart ops oj = true) →
   i ∈ Region.ready md ops listed -> YieldsAt P ops w oi v a →
   wpAnyL P md ops w n L f (listed.setIfInBounds i true) (a.put oi.dst v) -> wpAnyL P md ops w n L (f + 1) listed a := by
 intro f
 induction f with
 | zero =>
  intro listed a inv _ hr hy H
  refine ⟨fun h => (by rw [h] at hr; cases hr), fun j hj => ⟨pivot_waits hs hp inv hn _ i rfl hin (mem_ready.1 hr).1 j hj, ?_⟩⟩
  by_cases hji : j = i
  ·subst hji; exact hy.stOp hi H
  ·have h1 := hdone _ _ H j (ready_mono hj hji)
   have h2 := pivot_waits hs hp inv hn _ i rfl hin (mem_ready.1 hr).1 j hj
   omega
 | succ f ih =>
  intro listed a inv hfree hr hy H
  refine ⟨fun h => (by rw [h] at hr; cases hr), fun j hj => ?_⟩
  have hjn := pivot_waits hs hp inv hn _ i rfl hin (mem_ready.1 hr).1 j hj
  refine ⟨hjn, ?_⟩
  by_cases hji : j = i
  ·subst hji; exact hy.stOp hi H
  ·obtain ⟨hjun, oj, hoj, hall⟩ := mem_ready.1 hj
   have h2 := stOp_put hoj (hfree j oj hoj hji hjun (fun e he hb heq => by
    have h1 := hall e he hb
    rw [heq, getD_both (mem_ready.1 hr).1] at h1
    cases h1)) (fun cs b => hsel i oi cs b hi) (fun cs b => hsel j oj cs b hoj) hy (H.2 j (ready_mono hj hji)).2
   refine stOp_mono (fun a' h3 => ih (listed.setIfInBounds j true) a' (inv.set hj hjn) (fun k ok hk hki hun hno => hfree k ok hk hki (by
    by_cases hjk : j = k
    ·subst hjk; exact hjun
    ·rw [getD_set_ne true hjk] at hun; exact hun) hno) (ready_mono hr (Ne.symm hji)) h3.1 ?_) h2
   rw [Array.setIfInBounds_comm _ _ hji]
   exact h3.2
def toldA (listed : Array Bool) : Nat -> Nat -> Array Bool
 | 0, _ => listed
 | f + 1, k => toldA (listed.setIfInBounds k true) f (k + 1)
def headB (md : Region.Mode) (ops : Array Oper) : Nat -> Nat -> Array Bool -> Bool
 | 0, _, _ => true
 | f + 1, k, listed => (Region.ready md ops listed).contains k && Region.free md ops listed k && headB md ops f (k + 1) (listed.setIfInBounds k true)
theorem head_lex {n : Nat} {Lq : Act -> Prop} {end_ : Array Bool} (hsel : Region.noSelect ops = true) (hs : Region.sinkB md ops n = true) (hp : pivotB md ops n = true) (hn : n < ops.size) (hend : ∀ j ∈ Region.ready md ops end_, n <= j) :
  ∀ (l : List Oper) (k : Nat) (listed : Array Bool) (a : Act), (∀ j, j < l.length -> l[j]? = ops[k + j]?) -> k + l.length = n -> HeadInv md ops n listed -> toldA listed l.length k = end_ →
  headB md ops l.length k listed = true -> wpStill P ops w Lq l a -> wpAnyL P md ops w n (fun listed' a' => listed' = end_ /\ Lq a') l.length listed a
 | [], k, listed, a, _, hk, _, he, _, h => ⟨he, h⟩
 | o :: l, k, listed, a, hl, hk, inv, he, hB, h => by
  have h0 : ops[k]? = some o := by simpa using (hl 0 (by simp)).symm
  simp only [List.length_cons, headB, Bool.and_eq_true] at hB
  obtain ⟨⟨hr, hf⟩, hB'⟩ := hB
  have hkn : k < n := by simp only [List.length_cons] at hk; omega
  have hr' : k ∈ Region.ready md ops listed := by simpa using hr
  obtain ⟨v, hy, hK⟩ := yieldsAt_of_stOp h0 (show stOp P ops w k (wpStill P ops w Lq l) a by unfold stOp; simp only [h0]; exact h)
  exact head_first h0 (Region.noSelect_spec hsel) hs hp hn hkn (fun listed' a' hL => by rw [hL.1]; exact hend) l.length listed a inv (Region.free_spec h0 hf) hr' hy
   (head_lex hsel hs hp hn hend l (k + 1) _ _ (fun j hj => by have := hl (j + 1) (by simp; omega); simpa [Nat.add_assoc, Nat.add_comm 1 j] using this) (by simp only [List.length_cons] at hk; omega) (inv.set hr' hkn) he hB' hK)
def segB (md : Region.Mode) (ops : Array Oper) (n : Nat) : Bool :=
 Region.noSelect ops && (decide (n < ops.size) && (Region.sinkB md ops n && (pivotB md ops n && (headB md ops n 0 (Array.replicate ops.size false) && (decide (Region.ready md ops (toldA (Array.replicate ops.size false) n 0) = [n]) && Region.lexFrom md ops (ops.size - n - 1) (n + 1) ((toldA (Array.replicate ops.size false) n 0).setIfInBounds n true))))))
def Piv (P : Program) (ops : Array Oper) (Q : Exit -> Act -> World -> Prop) (o : Oper) (rest : List Oper) (a : Act) (w : World) : Prop :=
 ∀ K : Act -> World -> Prop, (∀ a2 w2, wpStill P ops w2 (fun a3 => Q .normal a3 w2) rest a2 -> K a2 w2) -> if Region.wanted o (yielded ops a.tmps) = true then o.wp P a w K Q else K (a.put o.dst undef) w
theorem wpStill_mono {Q Q2 : Act -> Prop} (h : ∀ a, Q a -> Q2 a) : ∀ (l : List Oper) (a : Act), wpStill P ops w Q l a -> wpStill P ops w Q2 l a
 | [], _, hh => h _ hh
 | o :: l, a, hh => by
  unfold wpStill at hh ⊢
  split
  ·rename_i hw
   rw [if_pos hw] at hh
   exact Oper.still_mono (fun a' => wpStill_mono h l a') hh
  ·rename_i hw
   rw [if_neg hw] at hh
   exact wpStill_mono h l _ hh
theorem wp_region_seg {id : Nat} {Q : Exit -> Act -> World -> Prop} {a : Act} {l : List Oper} (n : Nat) (hm : P.follows .mixedOrders = true) (hB : segB .any l.toArray n = true) (o : Oper) (ho : l[n]? = some o)
  (h : wpStill P l.toArray w.drew (fun a' => Piv P l.toArray Q o (l.drop (n + 1)) a' w.drew) (l.take n) a) : (Code.region id l.toArray true).wp P Q a w := by
 simp only [segB, Bool.and_eq_true, decide_eq_true_eq] at hB
 obtain ⟨hsel, hn, hs, hp, hh, hr, hx⟩ := hB
 have hn' : n < l.length := by simpa using hn
 have htl : (l.take n).length = n := by simp; omega
 have hdl : (l.drop (n + 1)).length = l.toArray.size - n - 1 := by simp; omega
 have inv0 : HeadInv .any l.toArray n (Array.replicate l.toArray.size false) :=
  ⟨by simp, fun j oj _ hl => (by rw [getD_replicate_false] at hl; cases hl), fun t _ ht => getD_in (by simpa using ht) (getD_replicate_false _ _)⟩
 have H := head_lex (md := .any) hsel hs hp hn (end_ := toldA (Array.replicate l.toArray.size false) n 0) (fun j hj => by rw [hr] at hj; have := List.mem_singleton.1 hj; omega) (l.take n) 0 _ a (fun j hj => by
  have hj' : j < n := by rw [htl] at hj; exact hj
  simp [hj']) (by rw [htl]; omega) inv0 (by rw [htl]) (by rw [htl]; exact hh) h
 refine wp_region_any hm ?_
 have := wpAny_of_head (Q' := Q) (g := (l.toArray.size - n - 1) + 1) (fun listed a' hL => by
  obtain ⟨rfl, hL⟩ := hL
  refine ⟨fun h0 => (by rw [hr] at h0; cases h0), fun i hi => ?_⟩
  rw [hr] at hi
  obtain rfl : i = n := List.mem_singleton.1 hi
  have ho' : l.toArray[i]? = some o := by simpa using ho
  have hK := hL (wpAny P .any l.toArray Q (l.toArray.size - i - 1) ((toldA (Array.replicate l.toArray.size false) i 0).setIfInBounds i true)) (fun a2 w2 h2 => by
   have hst := wpAnyS_lex (md := .any) hsel (l.drop (i + 1)) (i + 1) _ _ (fun j => by simp [List.getElem?_drop]) (by rw [hdl]; exact hx) h2
   rw [hdl] at hst
   exact wpAny_of_still (fun _ h => h) _ _ _ hst)
  unfold wpOp
  simp only [ho']
  split
  ·rename_i hw
   rw [if_pos hw] at hK
   exact .inl hK
  ·rename_i hw
   rw [if_neg hw] at hK
   exact hK) _ _ _ H
 rw [htl, show n + (l.toArray.size - n - 1 + 1) = l.toArray.size by omega] at this
 exact this
end
structure StW (P : Program) (ops : Array Oper) (w : World) (Q : Act -> Prop) (l : List Oper) (a : Act) : Prop where
 out : wpStill P ops w Q l a
section
variable {P : Program} {ops : Array Oper} {rest : List Oper} {o : Oper} {a : Act} {w : World} {Q : Act -> Prop}
theorem StW.nil (h : Q a) : StW P ops w Q [] a := ⟨wpStill_nil h⟩
theorem StW.step (h : ∀ K : Act -> Prop, (∀ a, StW P ops w Q rest a -> K a) -> if Region.wanted o (yielded ops a.tmps) then o.still P a w K else K (a.put o.dst undef)) : StW P ops w Q (o :: rest) a :=
 ⟨wpStill_step (fun K hK => h K (fun a ha => hK a ha.out))⟩
def StP (P : Program) (ops : Array Oper) (Q : Exit -> Act -> World -> Prop) (o : Oper) (rest : List Oper) (a : Act) (w : World) : Prop :=
 ∀ K : Act -> World -> Prop, (∀ a2 w2, StW P ops w2 (fun a3 => Q .normal a3 w2) rest a2 -> K a2 w2) -> if Region.wanted o (yielded ops a.tmps) = true then o.wp P a w K Q else K (a.put o.dst undef) w
theorem wp_seg {id : Nat} {Q : Exit -> Act -> World -> Prop} {l : List Oper} (n : Nat) (hm : P.follows .mixedOrders = true) (hB : segB .any l.toArray n = true) (o : Oper) (ho : l[n]? = some o)
  (h : StW P l.toArray w.drew (fun a' => StP P l.toArray Q o (l.drop (n + 1)) a' w.drew) (l.take n) a) : (Code.region id l.toArray true).wp P Q a w :=
 wp_region_seg n hm hB o ho (wpStill_mono (fun a' ha K hK => ha K (fun a2 w2 h2 => hK a2 w2 h2.out)) _ _ h.out)
end
section
variable {ops : Array Oper} {rest : List Oper} {o : Oper} {a : Act} {W : World} {Q : Act -> Prop}
theorem StW.load95 (x : Operand) (ho : o.op = .load 95 x) (hw : Region.wanted o (yielded ops a.tmps) = true) (g : Nat) (hx : a.eval x = .pointer (some ⟨g, 0, none⟩)) (cs : Array Value) (hb : W.heap[g]? = some (.cells cs 95 (0, 0))) (hc : Cs cs)
  (h : StW Tryd.prog ops W Q rest (a.put o.dst (.agg cs))) : StW Tryd.prog ops W Q (o :: rest) a := by
 refine StW.step (fun K hK => ?_)
 rw [if_pos hw]
 unfold Oper.still execOp
 have hr := run_loadVar_mid (P := Tryd.prog) W g 0 95 cs.toList _ (range_blk hb) Tryd.underlying95 rfl (by rw [info95]; exact congrArg some (by rw [Array.length_toList]; exact hc.sz.symm))
 simp only [ho, hx, Instr.loadAt, Instr.sureAddr, Sem.run_bind, Sem.run_pure, Result.andThen_ok, hr]
 rw [Oper.stillUpon_value, Array.toArray_toList]
 exact hK _ h
end
theorem five {α : Type} {l : List α} (h : l.length = 5) : ∃ a b c d e, l = [a, b, c, d, e] := by
 match l, h with
 | [a, b, c, d, e], _ => exact ⟨a, b, c, d, e, rfl⟩
def PS.stopped (p : PS) (how : Int) : PS := { p with stop := if p.stop < 0 then how else p.stop }
theorem NumI.stopped {gt gf : Nat} {s : SV} {p : PS} (h : NumI gt gf s p) (how : Int) : NumI gt gf (s.stopped how) (p.stopped how) :=
 ⟨h.1, h.2, h.3, h.4, h.5, h.6, h.7, h.8, by show (if s.stop < 0 then how else s.stop) = (if p.stop < 0 then how else p.stop); rw [h.9], h.10⟩
theorem Mx.stopped {w0 w W : World} {gt gf : Nat} {s s1 : SV} {p : PS} {v vv : Value} {xs vs : List Int} {cs fc ic : Array Value} (h : Mx w0 gt gf w W s s1 p v xs cs fc ic vv vs) (how : Int) : Mx w0 gt gf w W s (s1.stopped how) (p.stopped how) v xs cs fc ic vv vs :=
 h.nums (h.mp.st.num.stopped how) ⟨rfl, rfl, rfl, rfl, rfl, rfl, rfl, rfl, rfl⟩ ⟨rfl, rfl, rfl, rfl, rfl, rfl, rfl⟩
def vsl (vs : List Int) (k : Nat) : Int := vs.getD k 0
def chkB (p : PS) (size : Int) (vs : List Int) : Bool := !(heldB p.locks (vsl vs 4) (vsl vs 3)) || (decide (vsl vs 0 < vsl vs 1) || (decide (vsl vs 2 < vsl vs 0) || decide (vsl vs 2 - vsl vs 0 < size)))
def chkP (p : PS) (size : Int) (vs : List Int) : PS := if chkB p size vs = true then ({ p with checks := p.checks + 1 } : PS).stopped 2 else { p with checks := p.checks + 1 }
structure SW (P : Program) (ops : Array Oper) (Q : Exit -> Act -> World -> Prop) (S : World -> Prop) (fuel : Nat) (listed : Array Bool) (a : Act) (w : World) : Prop where
 out : wpAnyH P .any ops Q S fuel listed a w
def tkB (ops : Array Oper) (listed : Array Bool) (i : Nat) : Bool := Region.noSelect ops && (Region.free .any ops listed i && (Region.ready .any ops listed).contains i)
section
variable {P : Program} {ops : Array Oper} {Q : Exit -> Act -> World -> Prop} {S : World -> Prop} {fuel : Nat} {listed : Array Bool} {a : Act} {w : World}
theorem sw_start {id : Nat} (S : World -> Prop) (hm : P.follows .mixedOrders = true) (hS : S w.drew) (h : SW P ops Q S ops.size (Array.replicate ops.size false) a w.drew) : (Code.region id ops true).wp P Q a w := wp_region_held_drew hm hS (fun _ => h.out)
theorem SW.take (i : Nat) {oi : Oper} {v : Value} (hi : ops[i]? = some oi) (hB : tkB ops listed i = true) (hQ : ∀ c a w, Q (.panic c) (a.put oi.dst v) w -> Q (.panic c) a w) (hS : S w) (hw : Region.wanted oi (yielded ops a.tmps) = true) (hy : ∀ w, S w -> (execOp a.eval oi).run P w = .ok (.value v) w)
  (h : SW P ops Q S fuel (listed.setIfInBounds i true) (a.put oi.dst v) w) : SW P ops Q S (fuel + 1) listed a w := by
 simp only [tkB, Bool.and_eq_true] at hB
 exact ⟨wpAnyH_take hi hB.1 hB.2.1 hB.2.2 hQ (.inl ⟨hw, hy⟩) hS h.out⟩
theorem SW.act (i : Nat) {oi : Oper} (hi : ops[i]? = some oi) (hr : Region.ready .any ops listed = [i])
  (h : ∀ K : Act -> World -> Prop, (∀ a2 w2, S w2 -> SW P ops Q S fuel (listed.setIfInBounds i true) a2 w2 -> K a2 w2) -> if Region.wanted oi (yielded ops a.tmps) = true then oi.wp P a w K Q else K (a.put oi.dst undef) w) : SW P ops Q S (fuel + 1) listed a w := by
 refine ⟨wpAnyH_all hr (by simp) (fun j hj => ?_)⟩
 obtain rfl : j = i := List.mem_singleton.1 hj
 have hK := h (fun a2 w2 => S w2 /\ wpAnyH P .any ops Q S fuel (listed.setIfInBounds j true) a2 w2) (fun a2 w2 hS h2 => ⟨hS, h2.out⟩)
 unfold wpOp
 simp only [hi]
 split
 ·rename_i hw; rw [if_pos hw] at hK; exact .inl hK
 ·rename_i hw; rw [if_neg hw] at hK; exact hK
theorem SW.act2 (i j : Nat) {oi oj : Oper} (hi : ops[i]? = some oi) (hj : ops[j]? = some oj) (hr : Region.ready .any ops listed = [i, j])
  (h : ∀ K : Act -> World -> Prop, (∀ a2 w2, S w2 -> SW P ops Q S fuel (listed.setIfInBounds i true) a2 w2 -> K a2 w2) -> if Region.wanted oi (yielded ops a.tmps) = true then oi.wp P a w K Q else K (a.put oi.dst undef) w)
  (h2 : ∀ K : Act -> World -> Prop, (∀ a2 w2, S w2 -> SW P ops Q S fuel (listed.setIfInBounds j true) a2 w2 -> K a2 w2) -> if Region.wanted oj (yielded ops a.tmps) = true then oj.wp P a w K Q else K (a.put oj.dst undef) w) : SW P ops Q S (fuel + 1) listed a w := by
 refine ⟨wpAnyH_all hr (by simp) (fun k hk => ?_)⟩
 rcases List.mem_cons.1 hk with rfl | hk
 ·have hK := h (fun a2 w2 => S w2 /\ wpAnyH P .any ops Q S fuel (listed.setIfInBounds k true) a2 w2) (fun a2 w2 hS h2 => ⟨hS, h2.out⟩)
  unfold wpOp
  simp only [hi]
  split
  ·rename_i hw; rw [if_pos hw] at hK; exact .inl hK
  ·rename_i hw; rw [if_neg hw] at hK; exact hK
 ·obtain rfl : k = j := List.mem_singleton.1 hk
  have hK := h2 (fun a2 w2 => S w2 /\ wpAnyH P .any ops Q S fuel (listed.setIfInBounds k true) a2 w2) (fun a2 w2 hS h2 => ⟨hS, h2.out⟩)
  unfold wpOp
  simp only [hj]
  split
  ·rename_i hw; rw [if_pos hw] at hK; exact .inl hK
  ·rename_i hw; rw [if_neg hw] at hK; exact hK
theorem SW.done (hr : Region.ready .any ops listed = []) (h : Q .normal a w) : SW P ops Q S fuel listed a w := ⟨wpAnyH_done hr h _⟩
end
section
variable {ops : Array Oper} {Q : Exit -> Act -> World -> Prop} {S : World -> Prop} {fuel : Nat} {listed : Array Bool} {a : Act} {w : World}
theorem SW.load95 (i : Nat) {oi : Oper} (hi : ops[i]? = some oi) (hB : tkB ops listed i = true) (x : Operand) (ho : oi.op = .load 95 x) (g : Nat) (hx : a.eval x = .pointer (some ⟨g, 0, none⟩)) (cs : Array Value) (hQ : ∀ c a w, Q (.panic c) (a.put oi.dst (.agg cs)) w -> Q (.panic c) a w) (hS : S w) (hw : Region.wanted oi (yielded ops a.tmps) = true) (hb : ∀ w, S w -> w.heap[g]? = some (.cells cs 95 (0, 0))) (hc : Cs cs)
  (h : SW Tryd.prog ops Q S fuel (listed.setIfInBounds i true) (a.put oi.dst (.agg cs)) w) : SW Tryd.prog ops Q S (fuel + 1) listed a w := by
 refine SW.take i hi hB hQ hS hw (fun w hw => ?_) h
 have hr := run_loadVar_mid (P := Tryd.prog) w g 0 95 cs.toList _ (range_blk (hb w hw)) Tryd.underlying95 rfl (by rw [info95]; exact congrArg some (by rw [Array.length_toList]; exact hc.sz.symm))
 unfold execOp
 simp only [ho, hx, Instr.loadAt, Instr.sureAddr, Sem.run_bind, Sem.run_pure, Result.andThen_ok, hr, Array.toArray_toList]
end
end
theorem c_nil {d : Kd Int} {w : World} {A : Option Addr} : Kd.C d w A 0 [] := ⟨rfl, by simp, fun h => absurd h (by decide)⟩
theorem regs_new (w0 W : World) (n : Nat) (hb : w0.heap.size <= W.heap.size) (hn : n <= 9223372036854775807) : Rw (Kd.int .u64) 42 w0 (W.alloc (.cells (madeCells #[.int .u64 0] n) 42)) (.slice (some ⟨W.heap.size, 0, none⟩) n n) (List.replicate n 0) := by
 have h := own_made W w0.heap.size 42 .u64 n hb hn
 refine Kd.R_of_own (enc := Value.int .u64) (h1 := fun _ => rfl) ?_ (fun _ _ => trivial)
 rw [List.length_replicate]
 exact h
theorem wr0_calls (w0 w : World) (A : Option Addr) (c : Nat) (xs : List Int) (A1 A2 : Option Addr) (c1 c2 : Nat) (hx : Rw (Kd.int .u64) 42 w0 w (.slice A xs.length c) xs) : Calls Tryd.prog 52 #[.slice A xs.length c, .slice A1 0 c1, .slice A2 0 c2] w fun e w' => e = .returned (.tuple #[]) /\ RowSt (Kd.int .u64) 42 w0 w w' (.slice A xs.length c) (.slice A xs.length c) xs :=
 write_calls w0 w A c xs A1 c1 [] A2 c2 [] hx c_nil (fun W _ => ⟨c_nil, c_nil⟩) (fun r hr => by cases hr) (Nat.le_refl _)
theorem results_ct {P : Program} {fn : Func} {p u : Tmp} {ty : TypeId} (h : fn.results = #[.cell p ty, .tmp u]) (tmps : Array Value) (w : World) (g : Nat) (t : TypeId) (cs : Array Value) (fr : Nat × Nat) (d : TypeDesc) (hp : tmps.getD p undef = .pointer (some ⟨g, 0, none⟩)) (hg : w.heap[g]? = some (.cells cs t fr))
  (hu : P.underlying ty = some d) (hd : (match d with | .struct _ | .array _ _ => true | _ => false) = true) (hi : (P.info? ty).map (·.size) = some cs.size) : (results fn tmps).run P w = .ok (.tuple #[.agg cs, tmps.getD u undef]) w := by
 rw [results_cell_tmp h, hp]
 simp [asAddr, run_loadVar_row w g t ty cs fr d hg hu hd hi, Result.andThen]
structure Fr4 where
 nm : ByteArray
 (A1 A2 A3 A4 : Option Addr)
 (c1 c2 c3 c4 : Nat)
 (l2 l3 : List Int)
 code : List S44
def Fr4.cs (f : Fr4) : Array Value := #[.string f.nm, .slice f.A1 0 f.c1, .slice f.A2 f.l2.length f.c2, .slice f.A3 f.l3.length f.c3, .slice f.A4 f.code.length f.c4]
def Fr4.fc (f : Fr4) (A5 : Option Addr) (n5 c5 : Nat) (lock key : Int) : Array Value := #[.string f.nm, .slice f.A1 0 f.c1, .slice f.A2 f.l2.length f.c2, .slice f.A3 f.l3.length f.c3, .slice f.A4 f.code.length f.c4, .slice A5 n5 c5, .int .i64 lock, .int .u64 key]
def CPost (w0 : World) (gt gf : Nat) (w : World) (s : SV) (r : PS × List Int) (e : Ending) (w' : World) : Prop :=
 ∃ (s' : SV) (A : Option Addr) (c : Nat), e = .returned (.tuple #[.agg s'.cs, .slice A r.2.length c]) /\ Pst w0 gt gf w w' s s' r.1 /\ Kd.R (Kd.int .u64) 42 w' w.heap.size (fun _ => True) (.slice A r.2.length c) r.2
def SV.atTop (s : SV) (t : Int) : SV := { s with top := t }
def PS.atTop (p : PS) (t : Int) : PS := { p with top := t }
theorem NumI.atTop {gt gf : Nat} {s : SV} {p : PS} (h : NumI gt gf s p) (t : Int) : NumI gt gf (s.atTop t) (p.atTop t) := ⟨h.1, h.2, h.3, h.4, rfl, h.6, h.7, h.8, h.9, h.10⟩
theorem Lx.top {w0 w W : World} {gt gf g : Nat} {s0 s : SV} {p : PS} {v fv : Value} {xs fl : List Int} {fnc fc : Array Value} (h : Lx w0 gt gf w W s0 s p v xs s.cs fnc g fc fv fl) (t : Int) : Lx w0 gt gf w (W.setCell ⟨w.heap.size, 9, none⟩ (.int .i64 t)) s0 (s.atTop t) (p.atTop t) v xs (s.atTop t).cs fnc g fc fv fl :=
 (h.put 9 (.int .i64 t)).nums (h.st.num.atTop t) ⟨rfl, rfl, rfl, rfl, rfl, rfl, rfl, rfl, rfl⟩ ⟨rfl, rfl, rfl, rfl, rfl, rfl, rfl⟩
theorem Lx.new {w0 w W w3 : World} {gt gf : Nat} {s : SV} {p : PS} {n : Nat} {fnc fc : Array Value} (hst : StI w0 gt gf w s p) (hB : Below w.heap.size w W) (h0 : W.heap[w.heap.size]? = some (.cells s.cs 95 (0, 0))) (h1 : W.heap[w.heap.size + 1]? = some (.cells fnc 25 (0, 0))) (h2 : W.heap[w.heap.size + 2]? = some (.cells z95 95 (0, 0)))
  (hR : RowSt (Kd.int .u64) 42 w0 (W.alloc (.cells (madeCells #[.int .u64 0] n) 42)) w3 (.slice (some ⟨W.heap.size, 0, none⟩) n n) (.slice (some ⟨W.heap.size, 0, none⟩) n n) (List.replicate n 0)) :
  Lx w0 gt gf w (w3.alloc (.cells fc 112)) s s p (.slice (some ⟨W.heap.size, 0, none⟩) n n) (List.replicate n 0) s.cs fnc w3.heap.size fc (.slice none 0 0) [] := by
 have hB2 : Below W.heap.size W (W.alloc (.cells (madeCells #[.int .u64 0] n) 42)) := (Below.refl _ _).alloc (Nat.le_refl _) _
 have hne : ∀ {k t : Nat} {as_ : Array Value}, W.heap[k]? = some (.cells as_ t (0, 0)) -> (w3.alloc (.cells fc 112)).heap[k]? = some (.cells as_ t (0, 0)) := fun {k t as_} hk => by
  have hlt := blk_lt hk
  refine blk_below ((hR.grown.block k (Nat.lt_of_lt_of_le hlt hB2.size) (fun (e : some k = some W.heap.size) => by have e2 : k = W.heap.size := Option.some.inj e; omega)).trans (blk_below hk hB2)) ((Below.refl _ _).alloc (Nat.le_refl _) _)
 have hB3 : Below w.heap.size w w3 := gb_none (gb_trans (below_gb none (below_step hB hB2)) hR.grown (fun k hk _ (e : some k = some W.heap.size) => by
  have e2 : k = W.heap.size := Option.some.inj e
  have := hB.size
  omega))
 have hB4 : Below w.heap.size w (w3.alloc (.cells fc 112)) := below_step hB3 ((Below.refl _ _).alloc (Nat.le_refl _) _)
 have hp := hst.pst hB4
 refine ⟨hne h0, hne h1, hne h2, heap_alloc_new _ _, hB3.size, hst.step hB4, ⟨Kd.R_alloc hR.row _, fun k e e2 => ?_⟩, fun k e => ?_, Kd.R_nil _ _ _ _ _, fun k e => ?_, hp.kp, hp.hat, hst.below.size⟩
 ·have h3 := (hst.locks.lt e).1
  have e2 : some W.heap.size = some k := e2
  injection e2 with e2
  have := hB.size
  omega
 ·have e : some W.heap.size = some k := e
  injection e with e
  have := hB.size
  omega
 ·simp [Value.ownBlock] at e
theorem gb_old {W W1 w3 : World} {b : Nat} {t : Nat} {cs : Array Value} (hg : W1.grownBy w3 (some W.heap.size)) (h : W.heap[b]? = some (.cells cs t (0, 0))) (hB : Below W.heap.size W W1) : w3.heap[b]? = some (.cells cs t (0, 0)) := by
 have hlt := blk_lt h
 exact (hg.block b (Nat.lt_of_lt_of_le hlt hB.size) (fun e => by have e2 : b = W.heap.size := Option.some.inj e; omega)).trans (blk_below h hB)
theorem NumI.fresh {gt gf : Nat} {s : SV} {p : PS} (h : NumI gt gf s p) (A : Option Addr) (n c : Nat) (l : List Int) : NumI gt gf (s.fresh A n c) { p with locks := l, keys := p.keys + 1 } :=
 ⟨h.1, h.2, by show s.keys + 1 = p.keys + 1; rw [h.3], h.4, h.5, h.6, h.7, h.8, h.9, h.10⟩
theorem Lx.fresh {w0 w W W2 : World} {gt gf g : Nat} {s0 s : SV} {p : PS} {v fv : Value} {xs fl : List Int} {cs fnc fc : Array Value} (h : Lx w0 gt gf w W s0 s p v xs cs fnc g fc fv fl) {A : Option Addr} {n c : Nat} (hs : RowSt (Kd.int .u64) 42 w0 W W2 (.slice s.a5 s.n5 s.c5) (.slice A n c) (p.locks ++ [s.keys + 1])) :
  Lx w0 gt gf w W2 s0 (s.fresh A n c) { p with locks := p.locks ++ [p.keys + 1], keys := p.keys + 1 } v xs cs fnc g fc fv fl := by
 rw [h.st.num.keys] at hs
 exact (h.mp ((MP.start h.st h.xr).pst (h.st.setK hs))).nums (h.st.num.fresh A n c _) ⟨rfl, rfl, rfl, rfl, rfl, rfl, rfl, rfl, rfl⟩ ⟨rfl, rfl, rfl, rfl, rfl, rfl, rfl⟩
def powW : Nat -> Int
 | 0 => 1
 | n + 1 => IntKind.u64.wrap (powW n * 2)
theorem wrap_rng (x : Int) : 0 <= IntKind.u64.wrap x /\ IntKind.u64.wrap x < 18446744073709551616 := by rw [IntKind.wrap_u64]; omega
theorem powW_rng : ∀ n : Nat, 0 <= powW n /\ powW n < 18446744073709551616
 | 0 => by decide
 | n + 1 => wrap_rng _
set_option maxHeartbeats 4000000 in
theorem pow_calls (n : Nat) (w : World) (h : n <= 64) : Calls Tryd.prog 79 #[.int .i64 n] w fun e w' => e = .returned (.int .u64 (powW n)) /\ w = w' := by
 go_enter Tryd.func79, Tryd.ntmps79
 go_wp2
 go_loopg [0, 3] n (fun gg vn vp w' => ∃ k : Nat, k <= n /\ n - k <= gg /\ vn = .int .i64 ((n - k : Nat) : Int) /\ vp = .int .u64 (powW k) /\ w' = w)
 case atStart => exact ⟨0, Nat.zero_le _, Nat.le_refl _, rfl, rfl, rfl⟩
 case round =>
  obtain ⟨k, hk, hg, rfl, rfl, rfl⟩ := hrel
  by_cases hlt : k < n
  ·obtain ⟨m, hm⟩ : ∃ m, n - k = m + 1 := ⟨n - k - 1, by omega⟩
   have m0 : 0 < ((m + 1 : Nat) : Int) := by omega
   have m1 : (m : Int) <= 64 := by omega
   have HM := Aside0.mk (show powW (k + 1) = IntKind.u64.wrap (powW k * 2) from rfl)
   have HK := Aside0.mk (show n - (k + 1) = m by omega)
   generalize powW k = q at HM ⊢
   rw [hm]
   clear hm
   go_wp2
   go_roundg (n - (k + 1))
   case measure => omega
   case rel => exact ⟨k + 1, by omega, Nat.le_refl _, by first | rw [HK.out] | (rw [HK.out]; go_num), by rw [HM.out], rfl⟩
  ·obtain rfl : k = n := by omega
   have e0 : ((k - k : Nat) : Int) = 0 := by simp
   rw [e0]
   clear e0
   go_wp2
   go_ret
   exact ⟨rfl, rfl⟩
def narI (a : Int) (n : Nat) : Int := if n = 64 then a else if powW (n - 1) <= a % powW n then IntKind.u64.wrap (a % powW n - powW n) else a % powW n
set_option maxHeartbeats 4000000 in
theorem nar_calls (a : Int) (n : Nat) (w : World) (h0 : 0 <= a) (hn : n = 8 ∨ n = 32 ∨ n = 64) : Calls Tryd.prog 64 #[.int .u64 a, .int .i64 n, .bool true] w fun e w' => e = .returned (.tuple #[.int .u64 (narI a n), .bool true]) /\ w = w' := by
 by_cases h64 : n = 64
 ·subst h64
  rw [show narI a 64 = a from rfl]
  go_enter Tryd.func64, Tryd.ntmps64
  go_wp2
  go_ret2
  exact ⟨rfl, rfl⟩
 ·have P8 : powW 8 = 256 := by decide
  have P7 : powW 7 = 128 := by decide
  have P32 : powW 32 = 4294967296 := by decide
  have P31 : powW 31 = 2147483648 := by decide
  rcases hn with rfl | rfl | rfl
  ·have HV := Aside0.mk (show narI a 8 = if 128 <= a % 256 then IntKind.u64.wrap (a % 256 - 256) else a % 256 by unfold narI; rw [if_neg h64, P8, P7])
   have HP := Aside0.mk (show Calls Tryd.prog 79 #[.int .i64 8] w _ from pow_calls 8 w (by omega))
   have HQ := Aside0.mk (show Calls Tryd.prog 79 #[.int .i64 7] w _ from pow_calls 7 w (by omega))
   rw [P8] at HP
   rw [P7] at HQ
   clear P8 P7 P32 P31 h64
   generalize narI a 8 = r at HV ⊢
   show Calls Tryd.prog 64 #[.int .u64 a, .int .i64 8, .bool true] w _
   go_enter Tryd.func64, Tryd.ntmps64
   go_wp2_with (first | (go_at_call 79; (with_reducible refine HP.out.mono ?_); rintro e w1 ⟨rfl, rfl⟩) | (go_at_call 79; (with_reducible refine HQ.out.mono ?_); rintro e w1 ⟨rfl, rfl⟩))
   all_goals
    go_ret2
    refine ⟨?_, rfl⟩
    rw [HV.out]
    first | (rw [if_pos ‹_›]; rfl) | (rw [if_neg (by omega)]; rfl)
  ·have HV := Aside0.mk (show narI a 32 = if 2147483648 <= a % 4294967296 then IntKind.u64.wrap (a % 4294967296 - 4294967296) else a % 4294967296 by unfold narI; rw [if_neg h64, P32, P31])
   have HP := Aside0.mk (show Calls Tryd.prog 79 #[.int .i64 32] w _ from pow_calls 32 w (by omega))
   have HQ := Aside0.mk (show Calls Tryd.prog 79 #[.int .i64 31] w _ from pow_calls 31 w (by omega))
   rw [P32] at HP
   rw [P31] at HQ
   clear P8 P7 P32 P31 h64
   generalize narI a 32 = r at HV ⊢
   show Calls Tryd.prog 64 #[.int .u64 a, .int .i64 32, .bool true] w _
   go_enter Tryd.func64, Tryd.ntmps64
   go_wp2_with (first | (go_at_call 79; (with_reducible refine HP.out.mono ?_); rintro e w1 ⟨rfl, rfl⟩) | (go_at_call 79; (with_reducible refine HQ.out.mono ?_); rintro e w1 ⟨rfl, rfl⟩))
   all_goals
    go_ret2
    refine ⟨?_, rfl⟩
    rw [HV.out]
    first | (rw [if_pos ‹_›]; rfl) | (rw [if_neg (by omega)]; rfl)
  ·exact absurd rfl h64
theorem nar_rng {a : Int} {n : Nat} (h0 : 0 <= a) (h1 : a < 18446744073709551616) : 0 <= narI a n /\ narI a n < 18446744073709551616 := by
 unfold narI
 split
 ·exact ⟨h0, h1⟩
 ·split
  ·exact wrap_rng _
  ·have := powW_rng n
   by_cases e : powW n = 0
   ·rw [e, Int.emod_zero]; exact ⟨h0, h1⟩
   ·exact ⟨Int.emod_nonneg _ e, by have := Int.emod_lt_of_pos a (show 0 < powW n by omega); omega⟩
theorem putL_len2 {l : List Int} (i : Nat) (b : Int) (hl : l.length <= 4194304) (hi : i < 4194304) : (putL l i b).length <= 4194304 := by
 unfold putL padL
 rw [List.length_set, List.length_append, List.length_replicate]
 omega
def ngB (a : Int) : Bool := decide (9223372036854775808 <= a)
theorem neg_calls (a : Int) (w : World) : Calls Tryd.prog 76 #[.int .u64 a] w fun e w' => e = .returned (.bool (ngB a)) /\ w = w' := by
 have HV := Aside0.mk (show ngB a = decide (9223372036854775808 <= a) from rfl)
 generalize ngB a = b at HV ⊢
 go_enter Tryd.func76, Tryd.ntmps76
 go_wp2
 go_ret
 exact ⟨by rw [HV.out]; rfl, rfl⟩
def szI (a : Int) : Int := if ngB a = true then IntKind.u64.wrap (0 - a) else a
theorem size_calls (a : Int) (w : World) : Calls Tryd.prog 74 #[.int .u64 a] w fun e w' => e = .returned (.int .u64 (szI a)) /\ w = w' := by
 have HV := Aside0.mk (show szI a = if ngB a = true then IntKind.u64.wrap (0 - a) else a from rfl)
 have HN := Aside0.mk (neg_calls a w)
 generalize szI a = r at HV ⊢
 generalize ngB a = b at HV HN
 cases b
 all_goals
  go_enter Tryd.func74, Tryd.ntmps74
  go_wp2_with (first | (go_at_call 76; (with_reducible refine HN.out.mono ?_); rintro e w1 ⟨rfl, rfl⟩))
  go_ret
  exact ⟨by rw [HV.out]; simp, rfl⟩
def snI (a : Int) (t : Bool) : Int := if t = true then IntKind.u64.wrap (0 - a) else a
theorem sign_calls (a : Int) (t : Bool) (w : World) : Calls Tryd.prog 77 #[.int .u64 a, .bool t] w fun e w' => e = .returned (.int .u64 (snI a t)) /\ w = w' := by
 cases t
 all_goals
  go_enter Tryd.func77, Tryd.ntmps77
  go_wp2
  go_ret
  exact ⟨by unfold snI; simp, rfl⟩
def flI (t : Bool) : Int := if t = true then 1 else 0
theorem flag_calls (t : Bool) (w : World) : Calls Tryd.prog 71 #[.bool t] w fun e w' => e = .returned (.int .u64 (flI t)) /\ w = w' := by
 cases t
 all_goals
  go_enter Tryd.func71, Tryd.ntmps71
  go_wp2
  go_ret
  exact ⟨rfl, rfl⟩
def lsB (a b : Int) : Bool := if (ngB a != ngB b) = true then ngB a else decide (a < b)
theorem less_calls (a b : Int) (w : World) : Calls Tryd.prog 72 #[.int .u64 a, .int .u64 b] w fun e w' => e = .returned (.bool (lsB a b)) /\ w = w' := by
 have HV := Aside0.mk (show lsB a b = if (ngB a != ngB b) = true then ngB a else decide (a < b) from rfl)
 have HA := Aside0.mk (neg_calls a w)
 have HB := Aside0.mk (neg_calls b w)
 generalize lsB a b = r at HV ⊢
 generalize ngB a = x at HV HA
 generalize ngB b = y at HV HB
 cases x <;> cases y
 all_goals
  go_enter Tryd.func72, Tryd.ntmps72
  go_wp2_with (first | (go_at_call 76; (with_reducible refine HA.out.mono ?_); rintro e w1 ⟨rfl, rfl⟩) | (go_at_call 76; (with_reducible refine HB.out.mono ?_); rintro e w1 ⟨rfl, rfl⟩))
  go_ret
  exact ⟨by rw [HV.out]; simp, rfl⟩
theorem powW_pos {n : Nat} (h : n < 64) : 0 < powW n := by
 have h2 : ((List.range 64).all fun n => decide (0 < powW n)) = true := by kernel_rfl
 have := List.all_eq_true.1 h2 n (List.mem_range.2 h)
 simpa using this
def mvI (how a : Int) (n : Nat) : Int := if how = 0 then IntKind.u64.wrap (a * powW n) else if how = 2 /\ ngB a = true then IntKind.u64.wrap (0 - IntKind.u64.wrap ((IntKind.u64.wrap (IntKind.u64.wrap (IntKind.u64.wrap (0 - a) + powW n) - 1)).tdiv (powW n))) else if n = 0 then a else IntKind.u64.wrap (a.tdiv (powW n))
set_option maxHeartbeats 4000000 in
theorem moved_calls (how a : Int) (n : Nat) (w : World) (h : how = 0 ∨ how = 1 ∨ how = 2) (hn : n < 64) : Calls Tryd.prog 70 #[.int .i64 how, .int .u64 a, .int .i64 n] w fun e w' => e = .returned (.int .u64 (mvI how a n)) /\ w = w' := by
 have HV := Aside0.mk (show mvI how a n = if how = 0 then IntKind.u64.wrap (a * powW n) else if how = 2 /\ ngB a = true then IntKind.u64.wrap (0 - IntKind.u64.wrap ((IntKind.u64.wrap (IntKind.u64.wrap (IntKind.u64.wrap (0 - a) + powW n) - 1)).tdiv (powW n))) else if n = 0 then a else IntKind.u64.wrap (a.tdiv (powW n)) from rfl)
 have HP := Aside0.mk (pow_calls n w (by omega))
 have HN := Aside0.mk (neg_calls a w)
 have p0 : powW n ≠ 0 := by have := powW_pos hn; omega
 generalize mvI how a n = r at HV ⊢
 generalize powW n = q at HV HP p0
 generalize ngB a = t at HV HN
 have n0 : (0 : Int) <= (n : Int) := by omega
 have n1 : (n : Int) < 64 := by omega
 rcases h with rfl | rfl | rfl
 ·go_enter Tryd.func70, Tryd.ntmps70
  go_wp2_with (first | (go_at_call 79; (with_reducible refine HP.out.mono ?_); rintro e w1 ⟨rfl, rfl⟩))
  go_ret
  exact ⟨by rw [HV.out]; rfl, rfl⟩
 ·by_cases hz : n = 0
  ·subst hz
   go_enter Tryd.func70, Tryd.ntmps70
   go_wp2
   go_ret
   exact ⟨by rw [HV.out]; rfl, rfl⟩
  ·have hz2 : ((n : Int) == 0) = false := by simp; omega
   have HZ := Aside0.mk hz
   clear hz
   go_enter Tryd.func70, Tryd.ntmps70
   go_wp2_with (first | (go_at_call 79; (with_reducible refine HP.out.mono ?_); rintro e w1 ⟨rfl, rfl⟩))
   go_ret
   exact ⟨by rw [HV.out, if_neg (by decide), if_neg (by simp), if_neg HZ.out]; first | rfl | simp, rfl⟩
 ·cases t with
  | true =>
   go_enter Tryd.func70, Tryd.ntmps70
   go_wp2_with (first | (go_at_call 76; (with_reducible refine HN.out.mono ?_); rintro e w1 ⟨rfl, rfl⟩) | (go_at_call 79; (with_reducible refine HP.out.mono ?_); rintro e w1 ⟨rfl, rfl⟩))
   go_ret
   exact ⟨by rw [HV.out, if_neg (by decide), if_pos (by simp)]; first | rfl | simp, rfl⟩
  | false =>
   by_cases hz : n = 0
   ·subst hz
    go_enter Tryd.func70, Tryd.ntmps70
    go_wp2_with (first | (go_at_call 76; (with_reducible refine HN.out.mono ?_); rintro e w1 ⟨rfl, rfl⟩))
    go_ret
    exact ⟨by rw [HV.out, if_neg (by decide), if_neg (by simp), if_pos (by first | rfl | trivial)]; rfl, rfl⟩
   ·have hz2 : ((n : Int) == 0) = false := by simp; omega
    have HZ := Aside0.mk hz
    clear hz
    go_enter Tryd.func70, Tryd.ntmps70
    go_wp2_with (first | (go_at_call 76; (with_reducible refine HN.out.mono ?_); rintro e w1 ⟨rfl, rfl⟩) | (go_at_call 79; (with_reducible refine HP.out.mono ?_); rintro e w1 ⟨rfl, rfl⟩))
    go_ret
    exact ⟨by rw [HV.out, if_neg (by decide), if_neg (by simp), if_neg HZ.out]; first | rfl | simp, rfl⟩
def btI : Nat -> Int -> Int
 | 0, a => a.tmod 2
 | n + 1, a => btI n (IntKind.u64.wrap (a.tdiv 2))
set_option maxHeartbeats 4000000 in
theorem bit_calls (a : Int) (n : Nat) (w : World) (h : n <= 64) : Calls Tryd.prog 80 #[.int .u64 a, .int .i64 n] w fun e w' => e = .returned (.int .u64 (btI n a)) /\ w = w' := by
 go_enter Tryd.func80, Tryd.ntmps80
 go_wp2
 go_loopg [0, 1] n (fun gg va vn w' => ∃ (k : Nat) (c : Int), k <= n /\ k <= gg /\ vn = .int .i64 (k : Int) /\ va = .int .u64 c /\ Aside0 (btI k c = btI n a) /\ w' = w)
 case atStart => exact ⟨n, a, Nat.le_refl _, Nat.le_refl _, rfl, rfl, ⟨rfl⟩, rfl⟩
 case round =>
  obtain ⟨k, c, hk, hg, rfl, rfl, HV, rfl⟩ := hrel
  cases k with
  | zero =>
   have HV2 := Aside0.mk (show btI n a = c.tmod 2 from HV.out.symm)
   clear HV
   go_wp2
   go_ret
   exact ⟨by rw [HV2.out]; rfl, rfl⟩
  | succ k =>
   have m0 : 0 < ((k + 1 : Nat) : Int) := by omega
   have m1 : (k : Int) <= 64 := by omega
   go_wp2
   go_roundg k
   case measure => omega
   case rel => exact ⟨k, IntKind.u64.wrap (c.tdiv 2), by omega, Nat.le_refl _, by first | rfl | go_num, rfl, HV, rfl⟩
def nnI (a b : Int) (i : Nat) : Int := IntKind.u64.wrap (btI i a + btI i b)
def lgB (how n : Int) : Bool := (how == 1 && n == 1) || ((how == 2 && decide (0 < n)) || (how == 3 && n == 2))
def lgI (how a b : Int) : Nat -> Int
 | 0 => 0
 | i + 1 => if lgB how (nnI a b i) = true then IntKind.u64.wrap (lgI how a b i + powW i) else lgI how a b i
theorem lgI_rng (how a b : Int) : ∀ i : Nat, 0 <= lgI how a b i /\ lgI how a b i < 18446744073709551616
 | 0 => by show (0 : Int) <= 0 /\ (0 : Int) < 18446744073709551616; decide
 | i + 1 => by
  unfold lgI
  split
  ·exact wrap_rng _
  ·exact lgI_rng how a b i
set_option maxHeartbeats 4000000 in
theorem logic_calls (how a b : Int) (w : World) (h : how = 1 ∨ how = 2 ∨ how = 3) : Calls Tryd.prog 73 #[.int .i64 how, .int .u64 a, .int .u64 b] w fun e w' => e = .returned (.int .u64 (lgI how a b 64)) /\ w = w' := by
 have HA := Aside0.mk (fun (k : Nat) (W : World) (hk : k <= 64) => bit_calls a k W hk)
 have HB := Aside0.mk (fun (k : Nat) (W : World) (hk : k <= 64) => bit_calls b k W hk)
 have HP := Aside0.mk (fun (k : Nat) (W : World) (hk : k <= 64) => pow_calls k W hk)
 rcases h with rfl | rfl | rfl
 ·go_enter Tryd.func73, Tryd.ntmps73
  go_wp2
  go_loopg [7, 8] 64 (fun gg vo vi w' => ∃ k : Nat, k <= 64 /\ 64 - k <= gg /\ vi = .int .i64 (k : Int) /\ vo = .int .u64 (lgI 1 a b k) /\ w' = w)
  case atStart => exact ⟨0, by omega, Nat.le_refl _, rfl, rfl, rfl⟩
  case round =>
   obtain ⟨k, hk, hg, rfl, rfl, rfl⟩ := hrel
   by_cases hlt : k < 64
   ·have k0 : (k : Int) < 64 := by omega
    have HS := Aside0.mk (show lgI 1 a b (k + 1) = if lgB 1 (nnI a b k) = true then IntKind.u64.wrap (lgI 1 a b k + powW k) else lgI 1 a b k from rfl)
    have HA2 := Aside0.mk (HA.out k wr hk)
    have HB2 := Aside0.mk (HB.out k wr hk)
    have HP2 := Aside0.mk (HP.out k wr hk)
    have HN := Aside0.mk (show nnI a b k = IntKind.u64.wrap (btI k a + btI k b) from rfl)
    obtain ⟨n, hn⟩ : ∃ n, nnI a b k = n := ⟨_, rfl⟩
    rw [hn] at HS HN
    clear hn
    generalize btI k a = x at HA2 HN
    generalize btI k b = y at HB2 HN
    generalize powW k = q at HP2 HS
    generalize hnew : lgI 1 a b (k + 1) = new at HS
    generalize lgI 1 a b k = old at HS ⊢
    have HNEW := Aside0.mk hnew
    clear hnew
    have hn := HN.out.symm
    clear HN
    by_cases ht : n = 1
    ·have HT := Aside0.mk (show lgB 1 n = true by unfold lgB; simp [ht])
     have ht2 := ht
     go_wp2_with (first | (go_at_call 80; (with_reducible refine HA2.out.mono ?_); rintro e w1 ⟨rfl, rfl⟩) | (go_at_call 80; (with_reducible refine HB2.out.mono ?_); rintro e w1 ⟨rfl, rfl⟩) | (go_at_call 79; (with_reducible refine HP2.out.mono ?_); rintro e w1 ⟨rfl, rfl⟩))
     go_roundg (64 - (k + 1))
     case measure => omega
     case rel => exact ⟨k + 1, by omega, Nat.le_refl _, by go_num, by rw [HNEW.out, HS.out, if_pos HT.out], rfl⟩
    ·have HT := Aside0.mk (show ¬ lgB 1 n = true by unfold lgB; simp [ht])
     go_wp2_with (first | (go_at_call 80; (with_reducible refine HA2.out.mono ?_); rintro e w1 ⟨rfl, rfl⟩) | (go_at_call 80; (with_reducible refine HB2.out.mono ?_); rintro e w1 ⟨rfl, rfl⟩))
     go_roundg (64 - (k + 1))
     case measure => omega
     case rel => exact ⟨k + 1, by omega, Nat.le_refl _, by go_num, by rw [HNEW.out, HS.out, if_neg HT.out], rfl⟩
   ·obtain rfl : k = 64 := by omega
    go_wp2
    go_ret
    exact ⟨rfl, rfl⟩
 ·go_enter Tryd.func73, Tryd.ntmps73
  go_wp2
  go_loopg [7, 8] 64 (fun gg vo vi w' => ∃ k : Nat, k <= 64 /\ 64 - k <= gg /\ vi = .int .i64 (k : Int) /\ vo = .int .u64 (lgI 2 a b k) /\ w' = w)
  case atStart => exact ⟨0, by omega, Nat.le_refl _, rfl, rfl, rfl⟩
  case round =>
   obtain ⟨k, hk, hg, rfl, rfl, rfl⟩ := hrel
   by_cases hlt : k < 64
   ·have k0 : (k : Int) < 64 := by omega
    have HS := Aside0.mk (show lgI 2 a b (k + 1) = if lgB 2 (nnI a b k) = true then IntKind.u64.wrap (lgI 2 a b k + powW k) else lgI 2 a b k from rfl)
    have HA2 := Aside0.mk (HA.out k wr hk)
    have HB2 := Aside0.mk (HB.out k wr hk)
    have HP2 := Aside0.mk (HP.out k wr hk)
    have HN := Aside0.mk (show nnI a b k = IntKind.u64.wrap (btI k a + btI k b) from rfl)
    obtain ⟨n, hn⟩ : ∃ n, nnI a b k = n := ⟨_, rfl⟩
    rw [hn] at HS HN
    clear hn
    generalize btI k a = x at HA2 HN
    generalize btI k b = y at HB2 HN
    generalize powW k = q at HP2 HS
    generalize hnew : lgI 2 a b (k + 1) = new at HS
    generalize lgI 2 a b k = old at HS ⊢
    have HNEW := Aside0.mk hnew
    clear hnew
    have hn := HN.out.symm
    clear HN
    by_cases ht : 0 < n
    ·have HT := Aside0.mk (show lgB 2 n = true by unfold lgB; simp [ht])
     have ht2 := ht
     go_wp2_with (first | (go_at_call 80; (with_reducible refine HA2.out.mono ?_); rintro e w1 ⟨rfl, rfl⟩) | (go_at_call 80; (with_reducible refine HB2.out.mono ?_); rintro e w1 ⟨rfl, rfl⟩) | (go_at_call 79; (with_reducible refine HP2.out.mono ?_); rintro e w1 ⟨rfl, rfl⟩))
     go_roundg (64 - (k + 1))
     case measure => omega
     case rel => exact ⟨k + 1, by omega, Nat.le_refl _, by go_num, by rw [HNEW.out, HS.out, if_pos HT.out], rfl⟩
    ·have HT := Aside0.mk (show ¬ lgB 2 n = true by unfold lgB; simp [ht])
     go_wp2_with (first | (go_at_call 80; (with_reducible refine HA2.out.mono ?_); rintro e w1 ⟨rfl, rfl⟩) | (go_at_call 80; (with_reducible refine HB2.out.mono ?_); rintro e w1 ⟨rfl, rfl⟩))
     go_roundg (64 - (k + 1))
     case measure => omega
     case rel => exact ⟨k + 1, by omega, Nat.le_refl _, by go_num, by rw [HNEW.out, HS.out, if_neg HT.out], rfl⟩
   ·obtain rfl : k = 64 := by omega
    go_wp2
    go_ret
    exact ⟨rfl, rfl⟩
 ·go_enter Tryd.func73, Tryd.ntmps73
  go_wp2
  go_loopg [7, 8] 64 (fun gg vo vi w' => ∃ k : Nat, k <= 64 /\ 64 - k <= gg /\ vi = .int .i64 (k : Int) /\ vo = .int .u64 (lgI 3 a b k) /\ w' = w)
  case atStart => exact ⟨0, by omega, Nat.le_refl _, rfl, rfl, rfl⟩
  case round =>
   obtain ⟨k, hk, hg, rfl, rfl, rfl⟩ := hrel
   by_cases hlt : k < 64
   ·have k0 : (k : Int) < 64 := by omega
    have HS := Aside0.mk (show lgI 3 a b (k + 1) = if lgB 3 (nnI a b k) = true then IntKind.u64.wrap (lgI 3 a b k + powW k) else lgI 3 a b k from rfl)
    have HA2 := Aside0.mk (HA.out k wr hk)
    have HB2 := Aside0.mk (HB.out k wr hk)
    have HP2 := Aside0.mk (HP.out k wr hk)
    have HN := Aside0.mk (show nnI a b k = IntKind.u64.wrap (btI k a + btI k b) from rfl)
    obtain ⟨n, hn⟩ : ∃ n, nnI a b k = n := ⟨_, rfl⟩
    rw [hn] at HS HN
    clear hn
    generalize btI k a = x at HA2 HN
    generalize btI k b = y at HB2 HN
    generalize powW k = q at HP2 HS
    generalize hnew : lgI 3 a b (k + 1) = new at HS
    generalize lgI 3 a b k = old at HS ⊢
    have HNEW := Aside0.mk hnew
    clear hnew
    have hn := HN.out.symm
    clear HN
    by_cases ht : n = 2
    ·have HT := Aside0.mk (show lgB 3 n = true by unfold lgB; simp [ht])
     have ht2 := ht
     go_wp2_with (first | (go_at_call 80; (with_reducible refine HA2.out.mono ?_); rintro e w1 ⟨rfl, rfl⟩) | (go_at_call 80; (with_reducible refine HB2.out.mono ?_); rintro e w1 ⟨rfl, rfl⟩) | (go_at_call 79; (with_reducible refine HP2.out.mono ?_); rintro e w1 ⟨rfl, rfl⟩))
     go_roundg (64 - (k + 1))
     case measure => omega
     case rel => exact ⟨k + 1, by omega, Nat.le_refl _, by go_num, by rw [HNEW.out, HS.out, if_pos HT.out], rfl⟩
    ·have HT := Aside0.mk (show ¬ lgB 3 n = true by unfold lgB; simp [ht])
     go_wp2_with (first | (go_at_call 80; (with_reducible refine HA2.out.mono ?_); rintro e w1 ⟨rfl, rfl⟩) | (go_at_call 80; (with_reducible refine HB2.out.mono ?_); rintro e w1 ⟨rfl, rfl⟩))
     go_roundg (64 - (k + 1))
     case measure => omega
     case rel => exact ⟨k + 1, by omega, Nat.le_refl _, by go_num, by rw [HNEW.out, HS.out, if_neg HT.out], rfl⟩
   ·obtain rfl : k = 64 := by omega
    go_wp2
    go_ret
    exact ⟨rfl, rfl⟩
def hmI (x y w : Int) : Int := IntKind.u64.wrap (IntKind.u64.wrap (x * w) + IntKind.u64.wrap ((IntKind.u64.wrap (y * w)).tdiv 4294967296))
def hlI (y z m : Int) : Int := IntKind.u64.wrap (IntKind.u64.wrap (y * z) + m.tmod 4294967296)
def hrI (x z m l : Int) : Int := IntKind.u64.wrap (IntKind.u64.wrap (IntKind.u64.wrap (x * z) + IntKind.u64.wrap (m.tdiv 4294967296)) + IntKind.u64.wrap (l.tdiv 4294967296))
def hiI (a b : Int) : Int := hrI (IntKind.u64.wrap (a.tdiv 4294967296)) (IntKind.u64.wrap (b.tdiv 4294967296)) (hmI (IntKind.u64.wrap (a.tdiv 4294967296)) (a % 4294967296) (b % 4294967296)) (hlI (a % 4294967296) (IntKind.u64.wrap (b.tdiv 4294967296)) (hmI (IntKind.u64.wrap (a.tdiv 4294967296)) (a % 4294967296) (b % 4294967296)))
set_option maxHeartbeats 4000000 in
theorem high_calls (a b : Int) (w : World) (ha : 0 <= a) (hb : 0 <= b) : Calls Tryd.prog 75 #[.int .u64 a, .int .u64 b] w fun e w' => e = .returned (.int .u64 (hiI a b)) /\ Drawn0 w w' := by
 go_enter Tryd.func75, Tryd.ntmps75
 go_wp2
 go_quiet (fail)
 go_wp2
 go_quiet (fail)
 go_wp2
 go_ret
 exact ⟨rfl, ((Drawn0.refl _).step _).step _⟩
def DoPost (op a b : Int) : Prop := ∃ (r : Int) (ok : Bool), (0 <= r /\ r < 18446744073709551616) /\ ∀ w, Calls Tryd.prog 63 #[.int .i64 op, .int .u64 a, .int .u64 b] w fun e w' => e = .returned (.tuple #[.int .u64 r, .bool ok]) /\ Drawn0 w w'
theorem mv_rng {how a : Int} {n : Nat} (ha : 0 <= a /\ a < 18446744073709551616) : 0 <= mvI how a n /\ mvI how a n < 18446744073709551616 := by
 unfold mvI
 split
 ·exact wrap_rng _
 ·split
  ·exact wrap_rng _
  ·split
   ·exact ha
   ·exact wrap_rng _
end Go.Proofs.YtjfleaekljapeaaDoor.K
