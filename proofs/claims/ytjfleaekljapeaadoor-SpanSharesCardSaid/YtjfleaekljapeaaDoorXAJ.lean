import Derived.Test.YtjfleaekljapeaaDoorXAI
import Derived.Deep.DeepMust
import Derived.Test.YtjfleaekljapeaaDoorProg
import Derived.Below
import Derived.Deep.Draws
import Derived.Deep.AppendLies
import Derived.Maps.AppendAt
import Derived.OwnWalk
import Derived.Laws.BytesArg
import Derived.Laws.MakeOwn
import Derived.Laws.OwnMore
import Derived.Deep.OwnRows
import Derived.Tactics
import Derived.Lib.ConvBytes
import Derived.Laws.Slices
import Derived.WalkKit
import Derived.KernelRfl
import Derived.RowKit3
import Derived.Deep.LoopGhost
import Derived.Deep.QuietTactic
import Derived.BigQuiet
import Derived.WideLaws
import Derived.Deep.DeepCutAuto
import Derived.Deep.CutBlock
import Derived.Deep.RegionHeld3
import Derived.Deep.MidRow
import Derived.Laws.Tables
import Derived.StillTailTactics
import Derived.Laws.Rows
import Derived.Lib.AppendStr
import Derived.ArgAppend
import Derived.Laws.IdiomCopy
import Derived.OrdersHeld
import Derived.Laws.BitsLemmas
import Derived.Laws.BitsAllLaws
import Derived.RowKit
import Derived.RegionTactic
import Derived.Deep.RegionWith
import Derived.Lib.Hide
import Derived.Test.YtjfleaekljapeaaDoorXAA
import Derived.Test.YtjfleaekljapeaaDoorXAB
import Derived.Test.YtjfleaekljapeaaDoorXAC
import Derived.Deep.RegionLaw
import Derived.Laws.CopyOwn
import Derived.Shelf.Spec.TrailingZeros
namespace Go.Proofs.YtjfleaekljapeaaDoor.K
open Go.RowKit Go.Proofs.YtjfleaekljapeaaDoorW.PrintWords Go.Proofs.YtjfleaekljapeaaDoorW.PrintLast Go.Proofs.YtjfleaekljapeaaDoorW.PrintMore
attribute [local go_sem] max2_int min2_int max_two min_two max_three min_three max_four min_four   -- for this text's walks alone
set_option linter.unusedVariables false
set_option linter.unusedSimpArgs false
set_option linter.unusedSectionVars false
section
theorem nrow {v v2 : Value} (h : NeRow v v2) {k : Nat} (h1 : v.ownBlock = some k) (h2 : v2.ownBlock = some k) : False := h k h1 h2
theorem RowSt.hat2 {α : Type} {d : Kd α} {e : Nat} {w0 w W : World} {v v' : Value} {xs : List α} (h : RowSt d e w0 w W v v' xs) {k : Nat} (hk : v'.ownBlock = some k) : v.ownBlock = some k ∨ w.heap.size <= k := by
 rcases h.hat with h1 | ⟨b, h1, h2⟩
 ·exact .inl (h1 ▸ hk)
 ·rw [h1] at hk
  injection hk with hk
  exact .inr (hk ▸ h2)
structure Pst (w0 : World) (gt gf : Nat) (w W : World) (s s' : SV) (p' : PS) : Prop where
 st : StI w0 gt gf W s' p'
 kp : Kp w W (Own s)
 hat : ∀ k, Own s' k -> Own s k ∨ w.heap.size <= k
section
variable {w0 w W : World} {gt gf : Nat} {s s' : SV} {p : PS} {A : Option Addr} {n c : Nat}
theorem StI.setMem {l : List Int} (h : StI w0 gt gf w s p) (hs : RowSt (Kd.int .u8) 5 w0 w W s.mv (.slice A n c) l) : Pst w0 gt gf w W s (s.mem A n c) { p with mem := l } := by
 have K := Kp.grown hs.grown
 refine ⟨⟨K.toBelow h.below (fun k e => (h.mem.lt e).2.1), h.tops.keep rfl K (fun k e he => nrow (h.tops.ne h.mem (by decide)) e he), hs.row, h.L.keep rfl K (fun k e he => nrow (h.L.ne h.mem (by decide)) e he), h.locks.keep rfl K (fun k e he => nrow (h.locks.ne h.mem (by decide)) e he), h.blocks.keep rfl K (fun k e he => nrow (h.blocks.ne h.mem (by decide)) e he), h.out.keep rfl K (fun k e he => nrow h.ne he e), h.inp, h.out.after h.ne hs.hat, ⟨h.num.1, h.num.2, h.num.3, h.num.4, h.num.5, h.num.6, h.num.7, h.num.8, h.num.9, h.num.10⟩⟩, K.then_ (S2 := fun _ => False) (Kp.below (Below.refl _ _) _) (fun k e => .inl e) (fun _ h => h.elim), fun k hk => ?_⟩
 rcases hk with hk | hk | hk | hk | hk
 ·rcases hs.hat2 hk with h1 | h1
  ·exact .inl (.inl h1)
  ·exact .inr h1
 ·exact .inl (.inr (.inl hk))
 ·exact .inl (.inr (.inr (.inl hk)))
 ·exact .inl (.inr (.inr (.inr (.inl hk))))
 ·exact .inl (.inr (.inr (.inr (.inr hk))))
theorem StI.setL {l : List S139} (h : StI w0 gt gf w s p) (hs : RowSt k139 139 w0 w W s.lv (.slice A n c) l) : Pst w0 gt gf w W s (s.setL A n c) { p with L := l } := by
 have K := Kp.grown hs.grown
 refine ⟨⟨K.toBelow h.below (fun k e => (h.L.lt e).2.1), h.tops.keep rfl K (fun k e he => nrow (h.tops.ne h.L (by decide)) e he), h.mem.keep rfl K (fun k e he => nrow (h.mem.ne h.L (by decide)) e he), hs.row, h.locks.keep rfl K (fun k e he => nrow (h.locks.ne h.L (by decide)) e he), h.blocks.keep rfl K (fun k e he => nrow (h.blocks.ne h.L (by decide)) e he), h.out.keep rfl K (fun k e he => nrow (h.out.ne h.L (by decide)) e he), h.inp, h.ne, ⟨h.num.1, h.num.2, h.num.3, h.num.4, h.num.5, h.num.6, h.num.7, h.num.8, h.num.9, h.num.10⟩⟩, K.then_ (S2 := fun _ => False) (Kp.below (Below.refl _ _) _) (fun k e => .inr (.inl e)) (fun _ h => h.elim), fun k hk => ?_⟩
 rcases hk with hk | hk | hk | hk | hk
 ·exact .inl (.inl hk)
 ·rcases hs.hat2 hk with h1 | h1
  ·exact .inl (.inr (.inl h1))
  ·exact .inr h1
 ·exact .inl (.inr (.inr (.inl hk)))
 ·exact .inl (.inr (.inr (.inr (.inl hk))))
 ·exact .inl (.inr (.inr (.inr (.inr hk))))
theorem StI.setK {l : List Int} (h : StI w0 gt gf w s p) (hs : RowSt (Kd.int .u64) 42 w0 w W s.kv (.slice A n c) l) : Pst w0 gt gf w W s (s.setK A n c) { p with locks := l } := by
 have K := Kp.grown hs.grown
 refine ⟨⟨K.toBelow h.below (fun k e => (h.locks.lt e).2.1), h.tops.keep rfl K (fun k e he => nrow (h.tops.ne h.locks (by decide)) e he), h.mem.keep rfl K (fun k e he => nrow (h.mem.ne h.locks (by decide)) e he), h.L.keep rfl K (fun k e he => nrow (h.L.ne h.locks (by decide)) e he), hs.row, h.blocks.keep rfl K (fun k e he => nrow (h.blocks.ne h.locks (by decide)) e he), h.out.keep rfl K (fun k e he => nrow (h.out.ne h.locks (by decide)) e he), h.inp, h.ne, ⟨h.num.1, h.num.2, h.num.3, h.num.4, h.num.5, h.num.6, h.num.7, h.num.8, h.num.9, h.num.10⟩⟩, K.then_ (S2 := fun _ => False) (Kp.below (Below.refl _ _) _) (fun k e => .inr (.inr (.inl e))) (fun _ h => h.elim), fun k hk => ?_⟩
 rcases hk with hk | hk | hk | hk | hk
 ·exact .inl (.inl hk)
 ·exact .inl (.inr (.inl hk))
 ·rcases hs.hat2 hk with h1 | h1
  ·exact .inl (.inr (.inr (.inl h1)))
  ·exact .inr h1
 ·exact .inl (.inr (.inr (.inr (.inl hk))))
 ·exact .inl (.inr (.inr (.inr (.inr hk))))
theorem StI.setB {l : List S141} (h : StI w0 gt gf w s p) (hs : RowSt k141 141 w0 w W s.bv (.slice A n c) l) : Pst w0 gt gf w W s (s.setB A n c) { p with blocks := l } := by
 have K := Kp.grown hs.grown
 refine ⟨⟨K.toBelow h.below (fun k e => (h.blocks.lt e).2.1), h.tops.keep rfl K (fun k e he => nrow (h.tops.ne h.blocks (by decide)) e he), h.mem.keep rfl K (fun k e he => nrow (h.mem.ne h.blocks (by decide)) e he), h.L.keep rfl K (fun k e he => nrow (h.L.ne h.blocks (by decide)) e he), h.locks.keep rfl K (fun k e he => nrow (h.locks.ne h.blocks (by decide)) e he), hs.row, h.out.keep rfl K (fun k e he => nrow (h.out.ne h.blocks (by decide)) e he), h.inp, h.ne, ⟨h.num.1, h.num.2, h.num.3, h.num.4, h.num.5, h.num.6, h.num.7, h.num.8, h.num.9, h.num.10⟩⟩, K.then_ (S2 := fun _ => False) (Kp.below (Below.refl _ _) _) (fun k e => .inr (.inr (.inr (.inl e)))) (fun _ h => h.elim), fun k hk => ?_⟩
 rcases hk with hk | hk | hk | hk | hk
 ·exact .inl (.inl hk)
 ·exact .inl (.inr (.inl hk))
 ·exact .inl (.inr (.inr (.inl hk)))
 ·rcases hs.hat2 hk with h1 | h1
  ·exact .inl (.inr (.inr (.inr (.inl h1))))
  ·exact .inr h1
 ·exact .inl (.inr (.inr (.inr (.inr hk))))
theorem StI.setO {l : List Int} (h : StI w0 gt gf w s p) (hs : RowSt (Kd.int .u8) 5 w0 w W s.ov (.slice A n c) l) : Pst w0 gt gf w W s (s.setO A n c) { p with out := l } := by
 have K := Kp.grown hs.grown
 refine ⟨⟨K.toBelow h.below (fun k e => (h.out.lt e).2.1), h.tops.keep rfl K (fun k e he => nrow (h.tops.ne h.out (by decide)) e he), h.mem.keep rfl K (fun k e he => nrow h.ne e he), h.L.keep rfl K (fun k e he => nrow (h.L.ne h.out (by decide)) e he), h.locks.keep rfl K (fun k e he => nrow (h.locks.ne h.out (by decide)) e he), h.blocks.keep rfl K (fun k e he => nrow (h.blocks.ne h.out (by decide)) e he), hs.row, h.inp, ne_symm (h.mem.after (ne_symm h.ne) hs.hat), ⟨h.num.1, h.num.2, h.num.3, h.num.4, h.num.5, h.num.6, h.num.7, h.num.8, h.num.9, h.num.10⟩⟩, K.then_ (S2 := fun _ => False) (Kp.below (Below.refl _ _) _) (fun k e => .inr (.inr (.inr (.inr e)))) (fun _ h => h.elim), fun k hk => ?_⟩
 rcases hk with hk | hk | hk | hk | hk
 ·exact .inl (.inl hk)
 ·exact .inl (.inr (.inl hk))
 ·exact .inl (.inr (.inr (.inl hk)))
 ·exact .inl (.inr (.inr (.inr (.inl hk))))
 ·rcases hs.hat2 hk with h1 | h1
  ·exact .inl (.inr (.inr (.inr (.inr h1))))
  ·exact .inr h1
theorem StI.pst (h : StI w0 gt gf w s p) (hb : Below w.heap.size w W) : Pst w0 gt gf w W s s p := ⟨h.step hb, Kp.below hb _, fun _ e => .inl e⟩
end
structure XR (w0 w : World) (s : SV) (v : Value) (xs : List Int) : Prop where
 row : Rw (Kd.int .u64) 42 w0 w v xs
 ne : NeRow s.kv v
section
variable {w0 w W W2 : World} {gt gf : Nat} {s s1 s' : SV} {p p1 : PS} {v : Value} {xs ys : List Int}
theorem XR.not_own (hx : XR w0 w s v xs) (h : StI w0 gt gf w s p) {k : Nat} (hk : v.ownBlock = some k) : ¬ Own s k := by
 rintro (e | e | e | e | e)
 ·exact nrow (hx.row.ne h.mem (by decide)) hk e
 ·exact nrow (hx.row.ne h.L (by decide)) hk e
 ·exact nrow hx.ne e hk
 ·exact nrow (hx.row.ne h.blocks (by decide)) hk e
 ·exact nrow (hx.row.ne h.out (by decide)) hk e
theorem XR.pst (hx : XR w0 w s v xs) (h : StI w0 gt gf w s p) (hp : Pst w0 gt gf w W s s' p1) : XR w0 W s' v xs :=
 ⟨hx.row.keep rfl hp.kp (fun k e => hx.not_own h e), fun k e1 e2 => by
  rcases hp.hat k (.inr (.inr (.inl e1))) with h1 | h1
  ·exact hx.not_own h e2 h1
  ·have := (hx.row.lt e2).1
   omega⟩
structure MP (w0 : World) (gt gf : Nat) (w W : World) (s s' : SV) (p' : PS) (v : Value) (ys : List Int) : Prop where
 st : StI w0 gt gf W s' p'
 xr : XR w0 W s' v ys
 kp : Kp w W (fun k => Own s k ∨ v.ownBlock = some k)
 hat : ∀ k, Own s' k -> Own s k ∨ w.heap.size <= k
theorem MP.start (h : StI w0 gt gf w s p) (hx : XR w0 w s v xs) : MP w0 gt gf w w s s p v xs := ⟨h, hx, Kp.below (Below.refl _ _) _, fun _ e => .inl e⟩
theorem MP.pst (h : MP w0 gt gf w W s s1 p v xs) (hp : Pst w0 gt gf W W2 s1 s' p1) : MP w0 gt gf w W2 s s' p1 v xs :=
 ⟨hp.st, h.xr.pst h.st hp, h.kp.then_ hp.kp (fun _ e => e) (fun k e => (h.hat k e).imp .inl id), fun k e => (hp.hat k e).elim (h.hat k) (fun h2 => .inr (Nat.le_trans h.kp.size h2))⟩
theorem MP.step (h : MP w0 gt gf w W s s1 p v xs) (hb : Below W.heap.size W W2) : MP w0 gt gf w W2 s s1 p v xs := h.pst (h.st.pst hb)
theorem MP.regs (h : MP w0 gt gf w W s s1 p v xs) (hr : RowSt (Kd.int .u64) 42 w0 W W2 v v ys) : MP w0 gt gf w W2 s s1 p v ys :=
 ⟨h.st.other hr.grown (fun k e => ⟨h.xr.not_own h.st e, fun e2 => nrow (h.xr.row.ne h.st.tops (by decide)) e e2, (h.xr.row.lt e).2.1⟩), ⟨hr.row, h.xr.ne⟩, h.kp.then_ (Kp.grown hr.grown) (fun _ e => e) (fun k e => .inl (.inr e)), h.hat⟩
theorem MP.box (h : MP w0 gt gf w W s s1 p v xs) {g t : Nat} {cs : Array Value} (hb : W.heap[g]? = some (.cells cs t (0, 0))) (ht : t ≠ 3 /\ t ≠ 5 /\ t ≠ 139 /\ t ≠ 42 /\ t ≠ 141) (hg : w.heap.size <= g) (hw : w0.heap.size <= w.heap.size) (hk : Kp W W2 (fun k => k = g)) : MP w0 gt gf w W2 s s1 p v xs := by
 have hno : ¬ Own s1 g := h.st.not_own hb ⟨ht.2.1, ht.2.2.1, ht.2.2.2.1, ht.2.2.2.2⟩
 have hst := h.st.keep hk (fun k e he => hno (he ▸ e)) (fun k e he => by
  obtain ⟨_, _, c, h3⟩ := h.st.tops.lt e
  subst he
  rw [hb] at h3
  injection h3 with h3
  injection h3 with _ h3
  exact ht.1 h3) (fun k e => by omega)
 refine ⟨hst, ⟨h.xr.row.keep rfl hk (fun k e he => by
  obtain ⟨_, _, c, h3⟩ := h.xr.row.lt e
  subst he
  rw [hb] at h3
  injection h3 with h3
  injection h3 with _ h3
  exact ht.2.2.2.1 h3), h.xr.ne⟩, h.kp.then_ hk (fun _ e => e) (fun k e => .inr (by omega)), h.hat⟩
theorem StI.nums (h : StI w0 gt gf W s p) (hn : NumI gt gf s' p1) (e : s'.tv = s.tv /\ s'.mv = s.mv /\ s'.lv = s.lv /\ s'.kv = s.kv /\ s'.bv = s.bv /\ s'.ov = s.ov /\ s'.a7 = s.a7 /\ s'.n7 = s.n7 /\ s'.c7 = s.c7) (e2 : p1.tops = p.tops /\ p1.mem = p.mem /\ p1.L = p.L /\ p1.locks = p.locks /\ p1.blocks = p.blocks /\ p1.out = p.out /\ p1.input = p.input) : StI w0 gt gf W s' p1 := by
 obtain ⟨e0, e1, e3, e4, e5, e6, e7, e8, e9⟩ := e
 obtain ⟨f0, f1, f3, f4, f5, f6, f7⟩ := e2
 exact ⟨h.below, by rw [e0, f0]; exact h.tops, by rw [e1, f1]; exact h.mem, by rw [e3, f3]; exact h.L, by rw [e4, f4]; exact h.locks, by rw [e5, f5]; exact h.blocks, by rw [e6, f6]; exact h.out, by rw [e7, e8, e9, f7]; exact h.inp, by rw [e1, e6]; exact h.ne, hn⟩
theorem MP.nums (h : MP w0 gt gf w W s s1 p v xs) (hn : NumI gt gf s' p1) (e : s'.tv = s1.tv /\ s'.mv = s1.mv /\ s'.lv = s1.lv /\ s'.kv = s1.kv /\ s'.bv = s1.bv /\ s'.ov = s1.ov /\ s'.a7 = s1.a7 /\ s'.n7 = s1.n7 /\ s'.c7 = s1.c7) (e2 : p1.tops = p.tops /\ p1.mem = p.mem /\ p1.L = p.L /\ p1.locks = p.locks /\ p1.blocks = p.blocks /\ p1.out = p.out /\ p1.input = p.input) : MP w0 gt gf w W s s' p1 v xs :=
 ⟨h.st.nums hn e e2, ⟨h.xr.row, by rw [e.2.2.2.1]; exact h.xr.ne⟩, h.kp, fun k hk => h.hat k (by unfold Own at hk ⊢; rw [e.2.1, e.2.2.1, e.2.2.2.1, e.2.2.2.2.1, e.2.2.2.2.2.1] at hk; exact hk)⟩
end
theorem kp_set (W : World) (g j : Nat) (u : Value) : Kp W (W.setCell ⟨g, j, none⟩ u) (fun k => k = g) :=
 ⟨rfl, rfl, rfl, by simp [World.setCell], fun k _ hn => Below.heap_setCell W ⟨g, j, none⟩ u k hn⟩
section
variable {ops : Array Oper} {rest : List Oper} {o : Oper} {a : Act} {W : World} {Q : Exit -> Act -> World -> Prop}
theorem storeK (t n : Nat) (hi : (Tryd.prog.info? t).map (·.size) = some n) (x y : Operand) (ho : o.op = .store t x y) (hd : o.dst = none) (hgd : o.guard = none) (g : Nat) (hx : a.eval x = .pointer (some ⟨g, 0, none⟩)) (cs : Array Value) (hy : a.eval y = .agg cs) (zs : Array Value) (hb : W.heap[g]? = some (.cells zs t (0, 0))) (hz : zs.size = n) (hc : cs.size = n) (h1 : cs.all (·.oneCell') = true)
  (h : ∀ W2 : World, W2.heap[g]? = some (.cells cs t (0, 0)) -> Kp W W2 (fun k => k = g) -> wpList Tryd.prog ops Q rest a W2) : wpList Tryd.prog ops Q (o :: rest) a W := by
 refine wpList_store_mid hgd t x y ho g 0 cs hx hy (there_blk hb (by rw [hz, hc])) (by rw [hi, hc]) h1 ?_
 have e : a.put o.dst undef = a := by rw [hd]; rfl
 rw [e]
 refine h _ ?_ ?_
 ·obtain ⟨cur, h1, h2, h3⟩ := setCells_row cs.toList 0 W zs hb (by rw [Array.length_toList, hz, hc]; omega)
  have e2 : cur = cs := by
   apply Array.toList_inj.1
   rw [h3, List.take_zero, List.nil_append, List.drop_of_length_le (by rw [Array.length_toList, Array.length_toList, hz, hc]; omega), List.append_nil]
  rw [e2] at h1
  exact h1
 ·obtain ⟨h1, h2, h3, h4⟩ := setCells_same g cs.toList 0 W
  exact ⟨h1, h2, h3, by rw [h4]; exact Nat.le_refl _, fun k _ hn => setCells_far _ _ k hn⟩
theorem storeS (x y : Operand) (ho : o.op = .store 95 x y) (hd : o.dst = none) (hgd : o.guard = none) (g : Nat) (hx : a.eval x = .pointer (some ⟨g, 0, none⟩)) (cs : Array Value) (hy : a.eval y = .agg cs) (zs : Array Value) (hb : W.heap[g]? = some (.cells zs 95 (0, 0))) (hz : zs.size = 17) (hc : Cs cs)
  (h : ∀ W2 : World, W2.heap[g]? = some (.cells cs 95 (0, 0)) -> Kp W W2 (fun k => k = g) -> wpList Tryd.prog ops Q rest a W2) : wpList Tryd.prog ops Q (o :: rest) a W :=
 storeK 95 17 info95 x y ho hd hgd g hx cs hy zs hb hz hc.sz hc.one h
end
end
theorem rd_lt {l : List Int} {i : Nat} (h : i < l.length) : rd l (i : Int) = l[i] := by
 unfold rd
 rw [Int.toNat_natCast, List.getD_eq_getElem?_getD, List.getElem?_eq_getElem h]
 rfl
theorem map_snoc {α : Type} (f : Int -> α) {l : List Int} {i : Nat} (h : i < l.length) : (l.take (i + 1)).map f = (l.take i).map f ++ [f (rd l (i : Int))] := by
 rw [List.take_succ_eq_append_getElem h, List.map_append, List.map_singleton, rd_lt h]
theorem rd_mem {l : List Int} {i : Nat} (h : i < l.length) : rd l (i : Int) ∈ l := by rw [rd_lt h]; exact List.getElem_mem _
set_option maxHeartbeats 4000000 in
set_option maxRecDepth 20000 in
theorem vals_calls (w : World) (A : Option Addr) (c : Nat) (xs : List Int) (Al : Option Addr) (cl : Nat) (l : List Int) (hx : Kd.C (Kd.int .u64) w A xs.length xs) (hl : Kd.C (Kd.int .i64) w Al l.length l) (hb : ∀ r ∈ l, 0 <= r /\ r < xs.length) (hn : l.length <= 17592186043904) :
  Calls Tryd.prog 55 #[.slice A xs.length c, .slice Al l.length cl] w fun e w' => ∃ A2 c2, e = .returned (.slice A2 l.length c2) /\ Kd.R (Kd.int .u64) 42 w' w.heap.size (fun _ => True) (.slice A2 l.length c2) (l.map (rd xs)) /\ Below w.heap.size w w' := by
 have hu71 := Tryd.underlying71
 have hu22 := Tryd.underlying22
 have HX := Aside0.mk hx
 have HL := Aside0.mk hl
 have HB := Aside0.mk hb
 have HN := Aside0.mk hn
 clear hx hl hb hn
 go_enter Tryd.func55, Tryd.ntmps55
 go_wp2
 go_loopg [5, 9] l.length (fun gg v5 v9 w' => ∃ (i : Nat) (Ao : Option Addr) (co : Nat), i <= l.length /\ l.length - i <= gg /\ v9 = .int .i64 i /\ v5 = .slice Ao i co /\ Aside0 (Kd.R (Kd.int .u64) 42 w' w.heap.size (fun _ => True) (.slice Ao i co) ((l.take i).map (rd xs))) /\ Aside0 (Below w.heap.size w w'))
 case atStart => exact ⟨0, none, 0, Nat.zero_le _, Nat.le_refl _, rfl, rfl, ⟨Kd.R_nil _ _ _ _ _⟩, ⟨Below.refl _ _⟩⟩
 case round =>
  obtain ⟨i, Ao, co, hi, hgi, rfl, rfl, HR, HBW⟩ := hrel
  by_cases hlt : i < l.length
  ·have p0 : 0 <= (i : Int) := by omega
   have p1 : (i : Int) < (l.length : Int) := by omega
   have pm : (i : Int) <= 17592186043904 := by have := HN.out; omega
   obtain ⟨ad, ea, hy⟩ := C_int (Kd.C_below HL.out HBW.out) (i : Int) p0 p1
   subst ea
   rw [Int.toNat_natCast] at hy
   have hr := HB.out (rd l (i : Int)) (rd_mem hlt)
   have HT := Aside0.mk (map_snoc (rd xs) hlt)
   generalize rd l (i : Int) = r at hy hr HT
   obtain ⟨r0, r1⟩ := hr
   obtain ⟨ad2, ea2, hz⟩ := C_int (Kd.C_below HX.out HBW.out) r r0 r1
   subst ea2
   have HE := Aside0.mk (show ((l.take i).map (rd xs)).length = i by rw [List.length_map, List.length_take]; omega)
   generalize rd xs r = u at hz HT
   generalize (l.take i).map (rd xs) = ys at HR HT HE
   go_wp2_with (first | ((with_reducible refine gate_builtin (b := .append) (xs := #[.tmp 12, .tmp 20]) rfl ?_); at_builtin; refine Kd.R_append (Kd.int .u64) (w0 := w) w.heap.size rfl (.tmp 12) (.tmp 20) 71 42 (.int .u64 0) 8 rfl Tryd.underlying71 info42 rfl (by decide) (by omega) (.slice Ao i co) ys u [.int .u64 u] (fun _ => True) (fun _ => False) rfl rfl ?aP (fun _ hk => hk.elim) ?aF ?aO ?aB ?aS ?aL ?_; (case aP => exact rfl); (case aB => exact HBW.out); (case aF => exact (fun _ _ => trivial)); (case aO => exact HR.out); (case aS => exact (below_size HBW.out)); (case aL => have := HN.out; have := HE.out; omega); intro v1 w9 ho hb hg hat; have HO := Aside0.mk ho; have HB9 := Aside0.mk hb; clear ho hb hg hat; obtain ⟨A1, c1, e1⟩ := Kd.R_slice HO.out; subst e1))
   go_roundg (l.length - (i + 1))
   case measure => omega
   case rel =>
    have hE : (ys ++ [u]).length = i + 1 := by rw [List.length_append, HE.out]; rfl
    refine ⟨i + 1, A1, c1, by omega, Nat.le_refl _, by go_num, by first | rw [hE] | rw [HE.out], ?_, HB9⟩
    have h := HO.out
    rw [hE] at h
    rw [HT.out]
    exact ⟨h⟩
  ·obtain rfl : i = l.length := by omega
   have HR2 := Aside0.mk (show Kd.R (Kd.int .u64) 42 wr w.heap.size (fun _ => True) (.slice Ao l.length co) (l.map (rd xs)) by have h := HR.out; rwa [List.take_length] at h)
   go_wp2
   go_ret
   exact ⟨Ao, co, rfl, HR2.out, HBW.out⟩
def wrL (xs : List Int) : List Int -> List Int -> List Int
 | d :: ds, v :: vs => wrL (xs.set d.toNat v) ds vs
 | _, _ => xs
theorem wrL_len : ∀ (ds vs xs : List Int), (wrL xs ds vs).length = xs.length
 | [], _, _ => rfl
 | _ :: _, [], _ => rfl
 | d :: ds, v :: vs, xs => by show (wrL (xs.set d.toNat v) ds vs).length = _; rw [wrL_len ds vs, List.length_set]
theorem wrL_snoc : ∀ (ds vs xs : List Int) (d v : Int), ds.length = vs.length -> wrL xs (ds ++ [d]) (vs ++ [v]) = (wrL xs ds vs).set d.toNat v
 | [], [], xs, d, v, _ => rfl
 | a :: ds, b :: vs, xs, d, v, h => wrL_snoc ds vs (xs.set a.toNat b) d v (by simpa using h)
 | [], _ :: _, _, _, _, h => by simp at h
 | _ :: _, [], _, _, _, h => by simp at h
theorem wrL_take : ∀ (ds vs xs : List Int), wrL xs ds (vs.take ds.length) = wrL xs ds vs
 | [], _, _ => rfl
 | _ :: _, [], _ => rfl
 | d :: ds, v :: vs, xs => wrL_take ds vs (xs.set d.toNat v)
set_option maxHeartbeats 4000000 in
set_option maxRecDepth 20000 in
theorem write_calls (w0 w : World) (A : Option Addr) (c : Nat) (xs : List Int) (Al : Option Addr) (cl : Nat) (l : List Int) (Av : Option Addr) (cv : Nat) (vs : List Int) (hx : Rw (Kd.int .u64) 42 w0 w (.slice A xs.length c) xs) (hl : Kd.C (Kd.int .i64) w Al l.length l) (hv : ∀ W, Kp w W (fun k => (Value.slice A xs.length c).ownBlock = some k) -> Kd.C (Kd.int .i64) W Al l.length l /\ Kd.C (Kd.int .u64) W Av vs.length vs) (hb : ∀ r ∈ l, 0 <= r /\ r < xs.length) (hn : l.length <= vs.length) :
  Calls Tryd.prog 52 #[.slice A xs.length c, .slice Al l.length cl, .slice Av vs.length cv] w fun e w' => e = .returned (.tuple #[]) /\ RowSt (Kd.int .u64) 42 w0 w w' (.slice A xs.length c) (.slice A xs.length c) (wrL xs l vs) := by
 have hu71 := Tryd.underlying71
 have hu22 := Tryd.underlying22
 have HX := Aside0.mk hx
 have HV := Aside0.mk hv
 have HB := Aside0.mk hb
 have HN := Aside0.mk hn
 have HM := Aside0.mk (show l.length <= 9223372036854775807 from hl.2.1)
 clear hl hv hb hn
 go_enter Tryd.func52, Tryd.ntmps52
 go_wp2
 go_loopg [9] l.length (fun gg v9 w' => ∃ (i : Nat), i <= l.length /\ l.length - i <= gg /\ v9 = .int .i64 i /\ Aside0 (RowSt (Kd.int .u64) 42 w0 w w' (.slice A xs.length c) (.slice A xs.length c) (wrL xs (l.take i) (vs.take i))))
 case atStart => exact ⟨0, Nat.zero_le _, Nat.le_refl _, rfl, ⟨RowSt.start hx (Below.refl _ _)⟩⟩
 case round =>
  clear hx
  obtain ⟨i, hi, hgi, rfl, HS⟩ := hrel
  have pM : (l.length : Int) <= 9223372036854775807 := by have := HM.out; omega
  by_cases hlt : i < l.length
  ·have p0 : 0 <= (i : Int) := by omega
   have p1 : (i : Int) < (l.length : Int) := by omega
   have p2 : (i : Int) < (vs.length : Int) := by have := HN.out; omega
   obtain ⟨hc1, hc2⟩ := HV.out wr (Kp.grown HS.out.grown)
   obtain ⟨ad, ea, hy⟩ := C_int hc1 (i : Int) p0 p1
   subst ea
   rw [Int.toNat_natCast] at hy
   obtain ⟨ad2, ea2, hz⟩ := C_int hc2 (i : Int) p0 p2
   subst ea2
   rw [Int.toNat_natCast] at hz
   clear hc1 hc2
   have hr := HB.out (rd l (i : Int)) (rd_mem hlt)
   have HT := Aside0.mk (show wrL xs (l.take (i + 1)) (vs.take (i + 1)) = (wrL xs (l.take i) (vs.take i)).set (rd l (i : Int)).toNat (rd vs (i : Int)) by
    have hlv : i < vs.length := by omega
    rw [List.take_succ_eq_append_getElem hlt, List.take_succ_eq_append_getElem hlv, wrL_snoc _ _ _ _ _ (by rw [List.length_take, List.length_take]; omega), rd_lt hlt, rd_lt hlv])
   have HE := Aside0.mk (wrL_len (l.take i) (vs.take i) xs)
   generalize rd l (i : Int) = r at hy hr HT
   generalize rd vs (i : Int) = u at hz HT
   generalize wrL xs (l.take i) (vs.take i) = ys at HS HT HE
   obtain ⟨r0, r1⟩ := hr
   obtain ⟨q, rfl⟩ := Int.eq_ofNat_of_zero_le r0
   rw [Int.toNat_natCast] at HT
   have r2 : (q : Int) < (ys.length : Int) := by rw [HE.out]; exact r1
   obtain ⟨g, cap, e1, hgb, hgl, cl2, hgc⟩ := Kd.R_form HS.out.row (by omega)
   injection e1 with e1 e2 e3
   subst e1
   subst e3
   obtain ⟨hx, hf⟩ := Kd.R_celln 0 (show (Kd.int .u64).R 42 wr w0.heap.size (fun _ => True) (.slice (some ⟨g, 0, none⟩) ys.length c) ys by rw [HE.out]; exact HS.out.row) (q : Int) r0 r2
   rw [Int.toNat_natCast] at hx hf
   have hdw : Below wr.heap.size wr wr.drew := below_drew (Below.refl _ _)
   have HSd := HS.out.step hdw
   have hp := Kd.R_putg HSd.row (q : Int) u
   rw [Int.toNat_natCast] at hp
   have HS2 := Aside0.mk (HSd.next hp.1 hp.2 (.inl rfl))
   clear hp HSd hdw hgc HS e2 r2
   go_upto_region 3 with (fail)
   first | go_region_with (fail) | fail
   all_goals
    go_wp2
    go_roundg (l.length - (i + 1))
    case measure => omega
    case rel => exact ⟨i + 1, by omega, Nat.le_refl _, by go_num, by rw [HT.out]; exact HS2⟩
  ·obtain rfl : i = l.length := by omega
   have HS2 := Aside0.mk (show RowSt (Kd.int .u64) 42 w0 w wr (.slice A xs.length c) (.slice A xs.length c) (wrL xs l vs) by
    have h := HS.out
    rw [List.take_length, wrL_take] at h
    exact h)
   go_wp2
   go_end0
   exact ⟨rfl, HS2.out⟩
section
def upI (n : Int) : Int := (n + 15) / 16 * 16
theorem up_calls (n : Int) (w : World) (h0 : 0 <= n) (h1 : n <= 17592186044416) : Calls Tryd.prog 39 #[.int .i64 n] w fun e w' => e = .returned (.int .i64 (upI n)) /\ w = w' := by
 go_enter Tryd.func39, Tryd.ntmps39
 go_wp2
 go_ret
 exact ⟨rfl, rfl⟩
def placeB (a n : Int) : Bool := decide (a % n = 0) && (decide (4096 <= a) && decide (a <= 4194304 - n))
theorem placeB_is {a n : Int} (h : placeB a n = true) : 4096 <= a /\ a <= 4194304 - n := by
 unfold placeB at h
 rw [Bool.and_eq_true, Bool.and_eq_true, decide_eq_true_eq, decide_eq_true_eq] at h
 exact ⟨h.2.1, by simpa using h.2.2⟩
set_option maxHeartbeats 4000000 in
theorem place_calls (a n : Int) (w : World) (h0 : 0 <= a) (hn : n = 1 ∨ n = 4 ∨ n = 8) : Calls Tryd.prog 66 #[.int .u64 a, .int .i64 n] w fun e w' => e = .returned (.bool (placeB a n)) /\ w = w' := by
 have HV := Aside0.mk (show placeB a n = (decide (a % n = 0) && (decide (4096 <= a) && decide (a <= 4194304 - n))) from rfl)
 generalize placeB a n = b at HV ⊢
 rcases hn with rfl | rfl | rfl
 all_goals
  go_enter Tryd.func66, Tryd.ntmps66
  go_wp2
  all_goals
   go_ret
   refine ⟨?_, rfl⟩
   rw [HV.out]
   refine congrArg (fun x => Ending.returned (Value.bool x)) ?_
   rw [Bool.eq_iff_iff]
   simp only [Bool.and_eq_true, decide_eq_true_eq, Bool.false_eq_true, false_iff]
   omega
structure B4 (w W : World) (cs fc ic : Array Value) : Prop where
 b0 : W.heap[w.heap.size]? = some (.cells cs 95 (0, 0))
 b1 : W.heap[w.heap.size + 1]? = some (.cells fc 112 (0, 0))
 b2 : W.heap[w.heap.size + 1 + 1]? = some (.cells ic 44 (0, 0))
 b3 : W.heap[w.heap.size + 1 + 1 + 1]? = some (.cells z95 95 (0, 0))
 below : Below w.heap.size w W
theorem B4.new (w : World) (cs fc ic : Array Value) : B4 w ((((w.alloc (.cells cs 95)).alloc (.cells fc 112)).alloc (.cells ic 44)).alloc (.cells z95 95)) cs fc ic := by
 obtain ⟨⟨h1, h2, h3⟩, hb⟩ := tri_new w (.cells cs 95) (.cells fc 112) (.cells ic 44)
 have hd : Below (((w.alloc (.cells cs 95)).alloc (.cells fc 112)).alloc (.cells ic 44)).heap.size (((w.alloc (.cells cs 95)).alloc (.cells fc 112)).alloc (.cells ic 44)) ((((w.alloc (.cells cs 95)).alloc (.cells fc 112)).alloc (.cells ic 44)).alloc (.cells z95 95)) := (Below.refl _ _).alloc (Nat.le_refl _) _
 refine ⟨blk_below h1 hd, blk_below h2 hd, blk_below h3 hd, ?_, below_step hb hd⟩
 have := heap_alloc_new (((w.alloc (.cells cs 95)).alloc (.cells fc 112)).alloc (.cells ic 44)) (.cells z95 95)
 rw [show (((w.alloc (.cells cs 95)).alloc (.cells fc 112)).alloc (.cells ic 44)).heap.size = w.heap.size + 1 + 1 + 1 by simp] at this
 exact this
structure Mx (w0 : World) (gt gf : Nat) (w W : World) (s s1 : SV) (p1 : PS) (v : Value) (xs1 : List Int) (cs fc ic : Array Value) (vv : Value) (vs : List Int) : Prop where
 hg : W.heap[w.heap.size]? = some (.cells cs 95 (0, 0))
 hf : W.heap[w.heap.size + 1]? = some (.cells fc 112 (0, 0))
 hi : W.heap[w.heap.size + 1 + 1]? = some (.cells ic 44 (0, 0))
 hr : W.heap[w.heap.size + 1 + 1 + 1]? = some (.cells z95 95 (0, 0))
 mp : MP w0 gt gf w W s s1 p1 v xs1
 vr : Kd.R (Kd.int .u64) 42 W w.heap.size (fun _ => True) vv vs
 vn : NeRow s1.kv vv
 vx : NeRow v vv
 le : w0.heap.size <= w.heap.size
section
variable {w0 w W W2 : World} {gt gf : Nat} {s s1 s' : SV} {p p1 : PS} {v vv : Value} {xs ys vs : List Int} {cs fc ic : Array Value}
theorem Mx.vrw (h : Mx w0 gt gf w W s s1 p v xs cs fc ic vv vs) : Rw (Kd.int .u64) 42 w W vv vs := h.vr
theorem Mx.vno (h : Mx w0 gt gf w W s s1 p v xs cs fc ic vv vs) {k : Nat} (hk : vv.ownBlock = some k) : ¬ Own s1 k := by
 rintro (e | e | e | e | e)
 ·exact nrow (h.vrw.ne h.mp.st.mem (by decide)) hk e
 ·exact nrow (h.vrw.ne h.mp.st.L (by decide)) hk e
 ·exact nrow h.vn e hk
 ·exact nrow (h.vrw.ne h.mp.st.blocks (by decide)) hk e
 ·exact nrow (h.vrw.ne h.mp.st.out (by decide)) hk e
theorem ne_typed {α : Type} {d : Kd α} {e : Nat} {w1 : World} {u : Value} {zs : List α} (h : Rw d e w1 W u zs) {g t : Nat} {as_ : Array Value} (hb : W.heap[g]? = some (.cells as_ t (0, 0))) (ht : e ≠ t) : u.ownBlock ≠ some g := fun e2 => by
 obtain ⟨_, _, c, h3⟩ := h.lt e2
 rw [hb] at h3
 injection h3 with h3
 injection h3 with _ h3
 exact ht h3.symm
theorem Mx.pst (h : Mx w0 gt gf w W s s1 p v xs cs fc ic vv vs) (hp : Pst w0 gt gf W W2 s1 s' p1) : Mx w0 gt gf w W2 s s' p1 v xs cs fc ic vv vs where
 hg := (hp.kp.blk _ (blk_lt h.hg) (h.mp.st.not_own h.hg (by decide))).trans h.hg
 hf := (hp.kp.blk _ (blk_lt h.hf) (h.mp.st.not_own h.hf (by decide))).trans h.hf
 hi := (hp.kp.blk _ (blk_lt h.hi) (h.mp.st.not_own h.hi (by decide))).trans h.hi
 hr := (hp.kp.blk _ (blk_lt h.hr) (h.mp.st.not_own h.hr (by decide))).trans h.hr
 mp := h.mp.pst hp
 vr := h.vrw.keep rfl hp.kp (fun k e => h.vno e)
 vn := fun k e1 e2 => by
  rcases hp.hat k (.inr (.inr (.inl e1))) with h1 | h1
  ·exact h.vno e2 h1
  ·have := (h.vrw.lt e2).1
   omega
 vx := h.vx
 le := h.le
theorem Mx.step (h : Mx w0 gt gf w W s s1 p v xs cs fc ic vv vs) (hb : Below W.heap.size W W2) : Mx w0 gt gf w W2 s s1 p v xs cs fc ic vv vs := h.pst (h.mp.st.pst hb)
theorem Mx.regs (h : Mx w0 gt gf w W s s1 p v xs cs fc ic vv vs) (hr : RowSt (Kd.int .u64) 42 w0 W W2 v v ys) : Mx w0 gt gf w W2 s s1 p v ys cs fc ic vv vs where
 hg := (hr.grown.block _ (blk_lt h.hg) (fun e => ne_typed h.mp.xr.row h.hg (by decide) e.symm)).trans h.hg
 hf := (hr.grown.block _ (blk_lt h.hf) (fun e => ne_typed h.mp.xr.row h.hf (by decide) e.symm)).trans h.hf
 hi := (hr.grown.block _ (blk_lt h.hi) (fun e => ne_typed h.mp.xr.row h.hi (by decide) e.symm)).trans h.hi
 hr := (hr.grown.block _ (blk_lt h.hr) (fun e => ne_typed h.mp.xr.row h.hr (by decide) e.symm)).trans h.hr
 mp := h.mp.regs hr
 vr := h.vrw.keep rfl (Kp.grown hr.grown) (fun k e e2 => nrow h.vx e2 e)
 vn := h.vn
 vx := h.vx
 le := h.le
theorem Mx.copy {cs2 : Array Value} (h : Mx w0 gt gf w W s s1 p v xs cs fc ic vv vs) (hg : W2.heap[w.heap.size]? = some (.cells cs2 95 (0, 0))) (hk : Kp W W2 (fun k => k = w.heap.size)) : Mx w0 gt gf w W2 s s1 p v xs cs2 fc ic vv vs where
 hg := hg
 hf := (hk.blk _ (blk_lt h.hf) (by omega)).trans h.hf
 hi := (hk.blk _ (blk_lt h.hi) (by omega)).trans h.hi
 hr := (hk.blk _ (blk_lt h.hr) (by omega)).trans h.hr
 mp := h.mp.box h.hg (by decide) (Nat.le_refl _) h.le hk
 vr := h.vrw.keep rfl hk (fun k e e2 => ne_typed h.vrw h.hg (by decide) (e2 ▸ e))
 vn := h.vn
 vx := h.vx
 le := h.le
theorem Mx.put (h : Mx w0 gt gf w W s s1 p v xs cs fc ic vv vs) (j : Nat) (u : Value) : Mx w0 gt gf w (W.setCell ⟨w.heap.size, j, none⟩ u) s s1 p v xs (cs.setIfInBounds j u) fc ic vv vs := h.copy (blk_set h.hg j u) (kp_set W _ j u)
theorem Mx.nums (h : Mx w0 gt gf w W s s1 p v xs cs fc ic vv vs) (hn : NumI gt gf s' p1) (e : s'.tv = s1.tv /\ s'.mv = s1.mv /\ s'.lv = s1.lv /\ s'.kv = s1.kv /\ s'.bv = s1.bv /\ s'.ov = s1.ov /\ s'.a7 = s1.a7 /\ s'.n7 = s1.n7 /\ s'.c7 = s1.c7) (e2 : p1.tops = p.tops /\ p1.mem = p.mem /\ p1.L = p.L /\ p1.locks = p.locks /\ p1.blocks = p.blocks /\ p1.out = p.out /\ p1.input = p.input) : Mx w0 gt gf w W s s' p1 v xs cs fc ic vv vs :=
 ⟨h.hg, h.hf, h.hi, h.hr, h.mp.nums hn e e2, h.vr, by rw [e.2.2.2.1]; exact h.vn, h.vx, h.le⟩
theorem Mx.fin (h : Mx w0 gt gf w W s s1 p v xs cs fc ic vv vs) (hk : Kp W W2 (fun k => k = w.heap.size + 3)) : MP w0 gt gf w W2 s s1 p v xs := h.mp.box h.hr (by decide) (by omega) h.le hk
theorem Mx.start (h : StI w0 gt gf w s p) (hx : XR w0 w s v xs) (hb : B4 w W s.cs fc ic)
  (hW : Below W.heap.size W W2) (hv : Kd.R (Kd.int .u64) 42 W2 W.heap.size (fun _ => True) vv vs) : Mx w0 gt gf w W2 s s p v xs s.cs fc ic vv vs where
 hg := blk_below hb.b0 hW
 hf := blk_below hb.b1 hW
 hi := blk_below hb.b2 hW
 hr := blk_below hb.b3 hW
 mp := (MP.start h hx).step (below_step hb.below hW)
 vr := Kd.R_lower hv hb.below.size
 vn := fun k e1 e2 => by
  have h1 := (h.locks.lt e1).1
  have h2 := (show Rw (Kd.int .u64) 42 W W2 vv vs from hv).lt e2
  have := hb.below.size
  omega
 vx := fun k e1 e2 => by
  have h1 := (hx.row.lt e1).1
  have h2 := (show Rw (Kd.int .u64) 42 W W2 vv vs from hv).lt e2
  have := hb.below.size
  omega
 le := h.below.size
end
def MPost (w0 : World) (gt gf : Nat) (w : World) (s : SV) (p' : PS) (v : Value) (ys : List Int) (e : Ending) (w' : World) : Prop := ∃ s' : SV, e = .returned (.agg s'.cs) /\ MP w0 gt gf w w' s s' p' v ys
structure FP where
 slots : List Int
 sizes : List Int
 lock : Int
 key : Int
structure FrI (w0 w : World) (fc : Array Value) (fr : FP) : Prop where
 f3 : ∃ A3 c3, fc[3]? = some (.slice A3 fr.sizes.length c3) /\ Kd.C (Kd.int .i64) w0 A3 fr.sizes.length fr.sizes
 f5 : ∃ A5 c5, fc[5]? = some (.slice A5 fr.slots.length c5) /\ Rw (Kd.int .i64) 3 w0 w (.slice A5 fr.slots.length c5) fr.slots
 f6 : fc[6]? = some (.int .i64 fr.lock)
 f7 : fc[7]? = some (.int .u64 fr.key)
 len : fr.slots.length = fr.sizes.length
structure InI (w0 : World) (i : S44) (A7 A8 : Option Addr) (c8 nk : Nat) : Prop where
 a7 : Kd.C (Kd.int .i64) w0 A7 i.f7.length i.f7
 a8 : Kd.C (Kd.int .i64) w0 A8 i.f8.length i.f8
 r7 : ∀ r ∈ i.f7, 0 <= r /\ r < nk
 r8 : ∀ r ∈ i.f8, 0 <= r /\ r < nk
 l7 : i.f7.length <= 17592186043904
 l8 : i.f8.length <= c8
theorem Rw.readsC {α : Type} {d : Kd α} {e : Nat} {w0 w : World} {xs : List α} {A : Option Addr} {n c : Nat} (h : Rw d e w0 w (.slice A n c) xs) : d.C w A n xs := by
 have h2 := h.reads
 rw [h2.1]
 exact h2.2.2
theorem NumI.c0 {gt gf : Nat} {s : SV} {p : PS} (h : NumI gt gf s p) : s.cs[0]? = some (.slice (some ⟨gt, 0, none⟩) 2 2) := by
 show some (Value.slice s.a0 s.n0 s.c0) = _
 rw [h.u0.1, h.u0.2.1, h.u0.2.2]
theorem NumI.c1 {gt gf : Nat} {s : SV} {p : PS} (h : NumI gt gf s p) : s.cs[1]? = some (.slice (some ⟨gf, 0, none⟩) 1 1) := by
 show some (Value.slice s.a1 s.n1 s.c1) = _
 rw [h.u1.1, h.u1.2.1, h.u1.2.2]
theorem gt_below {w0 w W : World} {gt gf : Nat} {s : SV} {p : PS} (h : StI w0 gt gf w s p) (hb : Below w.heap.size w W) : Below w0.heap.size w0 W := below_step h.below hb
section
variable (w0 : World) (gt gf : Nat) (w : World) (s : SV) (p : PS) (i : S44) (A7 : Option Addr) (c7 : Nat) (A8 : Option Addr) (c8 : Nat) (xs : List Int) (A : Option Addr) (c : Nat) (fc : Array Value) (fr : FP)
set_option maxHeartbeats 4000000 in
set_option maxRecDepth 20000 in
theorem mem32 (h : StI w0 gt gf w s p) (hx : XR w0 w s (.slice A xs.length c) xs) (hI : InI w0 i A7 A8 c8 xs.length) (hF : FrI w0 w fc fr) (d : Nat) (hop : i.f0 = 32) (hd : i.f1 = (d : Int)) (hdl : d < xs.length) (hlk : 0 <= fr.lock /\ fr.lock < 4611686018427387904) :
  Calls Tryd.prog 57 #[.agg s.cs, .agg fc, .agg (icOf i A7 c7 A8 c8), .slice A xs.length c] w (MPost w0 gt gf w s p (.slice A xs.length c) (xs.set d fr.lock)) := by
 have hu95 := Tryd.underlying95
 have hu44 := Tryd.underlying44
 have hu71 := Tryd.underlying71
 have hu112 := Tryd.underlying112
 have HS := Aside0.mk h
 have HXR := Aside0.mk hx
 have HI := Aside0.mk hI
 have HF := Aside0.mk hF
 have HVC := Aside0.mk (fun W (hb : Below w.heap.size w W) => vals_calls W A c xs A7 c7 i.f7 (by have hr := (hx.row.keep rfl (Kp.below hb (fun _ => False)) (fun _ _ h => h)).reads; exact hr.2.2) (Kd.C_below hI.a7 (gt_below h hb)) hI.r7 hI.l7)
 have HC := Aside0.mk (show (icOf i A7 c7 A8 c8)[0]? = some (.int .i64 32) /\ (icOf i A7 c7 A8 c8)[1]? = some (.int .i64 (d : Int)) /\ (icOf i A7 c7 A8 c8)[7]? = some (.slice A7 i.f7.length c7) from ⟨by rw [<- hop]; rfl, by rw [<- hd]; rfl, rfl⟩)
 have HF6 := Aside0.mk hF.f6
 generalize icOf i A7 c7 A8 c8 = ic at HC
 have d0 : 0 <= (d : Int) := by omega
 have d1 : (d : Int) < (xs.length : Int) := by omega
 clear h hx hI hF hop hd
 obtain ⟨k0, k1⟩ := hlk
 go_enter Tryd.func57, Tryd.ntmps57
 go_upto_region 1 with (fail)
 generalize hW : World.alloc (World.alloc (World.alloc (World.alloc w (Obj.cells s.cs 95)) (Obj.cells fc 112)) (Obj.cells ic 44)) _ = W
 have H4 := Aside0.mk (show B4 w W s.cs fc ic by rw [<- hW]; exact B4.new w s.cs fc ic)
 clear hW
 have y7 := (blk_cell H4.out.b2 7).trans HC.out.2.2
 go_upto_region 2 with (first | (go_at_call 55; (with_reducible refine (HVC.out _ H4.out.below).mono ?_); rintro e w2 ⟨Av, cv, rfl, hv, hb⟩; have HM := Aside0.mk (Mx.start HS.out HXR.out H4.out hb hv); clear hv hb H4 y7))
 have y0 := (blk_cell HM.out.hi 0).trans HC.out.1
 have y1 := (blk_cell HM.out.hi 1).trans HC.out.2.1
 have z6 := (blk_cell HM.out.hf 6).trans HF6.out
 obtain ⟨g, cap, e1, hgb, hgl, cl, hgc⟩ := Kd.R_form HM.out.mp.xr.row (by omega)
 injection e1 with e1 e2 e3
 subst e1
 subst e3
 obtain ⟨hx, hf⟩ := Kd.R_celln 0 HM.out.mp.xr.row (d : Int) d0 d1
 rw [Int.toNat_natCast] at hx hf
 have hp := Kd.R_putg HM.out.mp.xr.row (d : Int) fr.lock
 rw [Int.toNat_natCast] at hp
 have HM2 := Aside0.mk (HM.out.regs ((RowSt.start HM.out.mp.xr.row (Below.refl _ _)).next hp.1 hp.2 (.inl rfl)))
 clear hp HM hgc
 go_wp2_with (first | ((with_reducible refine gate_dst (N := 446) rfl ?_); refine load95 _ rfl rfl _ rfl _ HM2.out.hg (Cs.of s) ?_) | ((with_reducible refine gate_store (t := 95) (p := 8) rfl ?_); refine storeS _ _ rfl rfl rfl _ rfl _ rfl _ HM2.out.hr rfl (Cs.of s) ?_; intro W3 h2 hk3))
 refine bodyPost_ret (results_cell_row rfl _ _ (w.heap.size + 3) 95 _ (0, 0) _ rfl h2 hu95 rfl (by kernel_rfl)) rfl ?_
 exact ⟨s, rfl, HM2.out.fin hk3⟩
end
end
section
def slG : List Int -> Int -> List Int -> List Int × Int × Bool
 | [], top, acc => (acc, top, true)
 | n :: r, top, acc => if 4194304 < upI top + n then (acc ++ [upI top], upI top + n, false) else slG r (upI top + n) (acc ++ [upI top])
theorem Kp.mono {w W : World} {S S2 : Nat -> Prop} (h : Kp w W S) (hs : ∀ k, S k -> S2 k) : Kp w W S2 := ⟨h.os, h.tape, h.output, h.size, fun k hk hn => h.blk k hk (fun e => hn (hs k e))⟩
structure Lx (w0 : World) (gt gf : Nat) (w W : World) (s0 s : SV) (p : PS) (v : Value) (xs : List Int) (cs fnc : Array Value) (g : Nat) (fc : Array Value) (fv : Value) (fl : List Int) : Prop where
 hs : W.heap[w.heap.size]? = some (.cells cs 95 (0, 0))
 hf : W.heap[w.heap.size + 1]? = some (.cells fnc 25 (0, 0))
 hr : W.heap[w.heap.size + 2]? = some (.cells z95 95 (0, 0))
 hg : W.heap[g]? = some (.cells fc 112 (0, 0))
 lg : w.heap.size <= g
 st : StI w0 gt gf W s p
 xr : XR w0 W s v xs
 xl : ∀ k, v.ownBlock = some k -> w.heap.size <= k
 fr : Rw (Kd.int .i64) 3 w0 W fv fl
 fl : ∀ k, fv.ownBlock = some k -> w.heap.size <= k
 kp : Kp w W (Own s0)
 hat : ∀ k, Own s k -> Own s0 k ∨ w.heap.size <= k
 le : w0.heap.size <= w.heap.size
theorem far_typed {W W2 : World} {S : Nat -> Prop} (hk : Kp W W2 S) {b t : Nat} {as_ : Array Value} (hb : W.heap[b]? = some (.cells as_ t (0, 0))) (hn : ¬ S b) : W2.heap[b]? = some (.cells as_ t (0, 0)) := (hk.blk b (blk_lt hb) hn).trans hb
theorem Rw.not_at {α : Type} {d : Kd α} {e : Nat} {w1 W : World} {u : Value} {zs : List α} (h : Rw d e w1 W u zs) {b t : Nat} {as_ : Array Value} (hb : W.heap[b]? = some (.cells as_ t (0, 0))) (ht : e ≠ t) : ¬ u.ownBlock = some b := ne_typed h hb ht
section
variable {w0 w W W2 : World} {gt gf g : Nat} {s0 s s' : SV} {p p1 : PS} {v fv : Value} {xs ys fl : List Int} {cs fnc fc : Array Value}
theorem Lx.mp (h : Lx w0 gt gf w W s0 s p v xs cs fnc g fc fv fl) (m : MP w0 gt gf W W2 s s' p1 v ys) : Lx w0 gt gf w W2 s0 s' p1 v ys cs fnc g fc fv fl := by
 have hn : ∀ {b t : Nat} {as_ : Array Value}, W.heap[b]? = some (.cells as_ t (0, 0)) -> (t ≠ 5 /\ t ≠ 139 /\ t ≠ 42 /\ t ≠ 141) -> ¬ (Own s b ∨ v.ownBlock = some b) := fun hb ht e => e.elim (h.st.not_own hb ht) (h.xr.row.not_at hb (fun e2 => ht.2.2.1 e2.symm))
 refine ⟨far_typed m.kp h.hs (hn h.hs (by decide)), far_typed m.kp h.hf (hn h.hf (by decide)), far_typed m.kp h.hr (hn h.hr (by decide)), far_typed m.kp h.hg (hn h.hg (by decide)), h.lg, m.st, m.xr, h.xl, h.fr.keep rfl m.kp (fun k e e2 => ?_), h.fl, h.kp.then_ m.kp (fun _ e => e) (fun k e => ?_), fun k e => ?_, h.le⟩
 ·obtain ⟨_, _, c, hc⟩ := h.fr.lt e
  exact hn hc (by decide) e2
 ·rcases e with e | e
  ·exact h.hat k e
  ·exact .inr (h.xl k e)
 ·rcases m.hat k e with e | e
  ·exact h.hat k e
  ·exact .inr (Nat.le_trans h.kp.size e)
theorem Lx.step (h : Lx w0 gt gf w W s0 s p v xs cs fnc g fc fv fl) (hb : Below W.heap.size W W2) : Lx w0 gt gf w W2 s0 s p v xs cs fnc g fc fv fl :=
 h.mp ((MP.start h.st h.xr).step hb)
theorem Lx.rest (h : Lx w0 gt gf w W s0 s p v xs cs fnc g fc fv fl) {b t : Nat} {as_ : Array Value} (hb : W.heap[b]? = some (.cells as_ t (0, 0))) (ht : t ≠ 3 /\ t ≠ 5 /\ t ≠ 139 /\ t ≠ 42 /\ t ≠ 141) (hl : w.heap.size <= b) (hk : Kp W W2 (fun k => k = b)) :
  StI w0 gt gf W2 s p /\ XR w0 W2 s v xs /\ Rw (Kd.int .i64) 3 w0 W2 fv fl /\ Kp w W2 (Own s0) := by
 have hno : ¬ Own s b := h.st.not_own hb ⟨ht.2.1, ht.2.2.1, ht.2.2.2.1, ht.2.2.2.2⟩
 have hle := h.le
 exact ⟨h.st.keep hk (fun k e he => hno (he ▸ e)) (fun k e he => h.st.tops.not_at hb (fun e2 => ht.1 e2.symm) (he ▸ e)) (fun k e => by omega),
  ⟨h.xr.row.keep rfl hk (fun k e he => h.xr.row.not_at hb (fun e2 => ht.2.2.2.1 e2.symm) (he ▸ e)), h.xr.ne⟩,
  h.fr.keep rfl hk (fun k e he => h.fr.not_at hb (fun e2 => ht.1 e2.symm) (he ▸ e)), h.kp.then_ hk (fun _ e => e) (fun k e => .inr (by omega))⟩
theorem Lx.copy {cs2 : Array Value} (h : Lx w0 gt gf w W s0 s p v xs cs fnc g fc fv fl) (hb : W2.heap[w.heap.size]? = some (.cells cs2 95 (0, 0))) (hk : Kp W W2 (fun k => k = w.heap.size)) : Lx w0 gt gf w W2 s0 s p v xs cs2 fnc g fc fv fl := by
 obtain ⟨h1, h2, h3, h4⟩ := h.rest h.hs (by decide) (Nat.le_refl _) hk
 have hne : ¬ g = w.heap.size := fun e => by
  have h5 := h.hg
  rw [e, h.hs] at h5
  injection h5 with h5
  injection h5 with _ h5
  cases h5
 exact ⟨hb, far_typed hk h.hf (by omega), far_typed hk h.hr (by omega), far_typed hk h.hg hne, h.lg, h1, h2, h.xl, h3, h.fl, h4, h.hat, h.le⟩
theorem Lx.put (h : Lx w0 gt gf w W s0 s p v xs cs fnc g fc fv fl) (j : Nat) (u : Value) : Lx w0 gt gf w (W.setCell ⟨w.heap.size, j, none⟩ u) s0 s p v xs (cs.setIfInBounds j u) fnc g fc fv fl := h.copy (blk_set h.hs j u) (kp_set W _ j u)
theorem Lx.frame {fc2 : Array Value} (h : Lx w0 gt gf w W s0 s p v xs cs fnc g fc fv fl) (hb : W2.heap[g]? = some (.cells fc2 112 (0, 0))) (hk : Kp W W2 (fun k => k = g)) : Lx w0 gt gf w W2 s0 s p v xs cs fnc g fc2 fv fl := by
 obtain ⟨h1, h2, h3, h4⟩ := h.rest h.hg (by decide) h.lg hk
 have hne : ∀ {b t : Nat} {as_ : Array Value}, W.heap[b]? = some (.cells as_ t (0, 0)) -> t ≠ 112 -> ¬ b = g := fun hb ht e => by
  rw [e, h.hg] at hb
  injection hb with hb
  injection hb with _ hb
  exact ht hb.symm
 exact ⟨far_typed hk h.hs (hne h.hs (by decide)), far_typed hk h.hf (hne h.hf (by decide)), far_typed hk h.hr (hne h.hr (by decide)), hb, h.lg, h1, h2, h.xl, h3, h.fl, h4, h.hat, h.le⟩
theorem Lx.setf (h : Lx w0 gt gf w W s0 s p v xs cs fnc g fc fv fl) (j : Nat) (u : Value) : Lx w0 gt gf w (W.setCell ⟨g, j, none⟩ u) s0 s p v xs cs fnc g (fc.setIfInBounds j u) fv fl := h.frame (blk_set h.hg j u) (kp_set W _ j u)
theorem Lx.fin (h : Lx w0 gt gf w W s0 s p v xs cs fnc g fc fv fl) (hk : Kp W W2 (fun k => k = w.heap.size + 2)) : Pst w0 gt gf w W2 s0 s p := by
 obtain ⟨h1, h2, h3, h4⟩ := h.rest h.hr (by decide) (by omega) hk
 exact ⟨h1, h4, h.hat⟩
theorem Lx.nums (h : Lx w0 gt gf w W s0 s p v xs cs fnc g fc fv fl) (hn : NumI gt gf s' p1) (e : s'.tv = s.tv /\ s'.mv = s.mv /\ s'.lv = s.lv /\ s'.kv = s.kv /\ s'.bv = s.bv /\ s'.ov = s.ov /\ s'.a7 = s.a7 /\ s'.n7 = s.n7 /\ s'.c7 = s.c7) (e2 : p1.tops = p.tops /\ p1.mem = p.mem /\ p1.L = p.L /\ p1.locks = p.locks /\ p1.blocks = p.blocks /\ p1.out = p.out /\ p1.input = p.input) : Lx w0 gt gf w W s0 s' p1 v xs cs fnc g fc fv fl :=
 ⟨h.hs, h.hf, h.hr, h.hg, h.lg, h.st.nums hn e e2, ⟨h.xr.row, by rw [e.2.2.2.1]; exact h.xr.ne⟩, h.xl, h.fr, h.fl, h.kp, fun k hk => h.hat k (by unfold Own at hk ⊢; rw [e.2.1, e.2.2.1, e.2.2.2.1, e.2.2.2.2.1, e.2.2.2.2.2.1] at hk; exact hk), h.le⟩
theorem Lx.slots {fv2 : Value} {fl2 : List Int} (h : Lx w0 gt gf w W s0 s p v xs cs fnc g fc fv fl) (hr : RowSt (Kd.int .i64) 3 w0 W W2 fv fv2 fl2) (ht : ∀ k, s.tv.ownBlock = some k -> k < w.heap.size) : Lx w0 gt gf w W2 s0 s p v xs cs fnc g fc fv2 fl2 := by
 have K := Kp.grown hr.grown
 have hn : ∀ {b t : Nat} {as_ : Array Value}, W.heap[b]? = some (.cells as_ t (0, 0)) -> t ≠ 3 -> ¬ fv.ownBlock = some b := fun hb ht e => h.fr.not_at hb (fun e2 => ht e2.symm) e
 have hw := h.le
 have hfl : ∀ k, fv2.ownBlock = some k -> w.heap.size <= k := fun k e => by
  rcases hr.hat2 e with e2 | e2
  ·exact h.fl k e2
  ·exact Nat.le_trans h.kp.size e2
 refine ⟨far_typed K h.hs (hn h.hs (by decide)), far_typed K h.hf (hn h.hf (by decide)), far_typed K h.hr (hn h.hr (by decide)), far_typed K h.hg (hn h.hg (by decide)), h.lg, h.st.keep K (fun k e e2 => ?_) (fun k e e2 => by have := ht k e; have := h.fl k e2; omega) (fun k e => by have := h.fl k e; omega), ⟨h.xr.row.keep rfl K (fun k e e2 => nrow (h.fr.ne h.xr.row (by decide)) e2 e), h.xr.ne⟩, h.xl, hr.row, hfl, h.kp.then_ K (fun _ e => e) (fun k e => .inr (h.fl k e)), h.hat, h.le⟩
 ·obtain ⟨_, _, c, t, hc, ht⟩ := h.st.typed e
  refine hn hc ?_ e2
  rcases ht with ht | ht | ht | ht <;> omega
end
theorem upI_bd {n : Int} (h0 : 0 <= n) : n <= upI n /\ upI n <= n + 15 := by unfold upI; omega
end
end Go.Proofs.YtjfleaekljapeaaDoor.K
