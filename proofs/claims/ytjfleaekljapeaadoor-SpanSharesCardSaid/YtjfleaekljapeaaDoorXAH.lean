import Derived.Test.YtjfleaekljapeaaDoorXAG
import Derived.Deep.DeepMust
import Derived.Test.YtjfleaekljapeaaDoorProg
import Derived.Below
import Derived.Deep.Draws
import Derived.Deep.AppendLies
import Derived.Maps.AppendAt
import Derived.OwnWalk
import Derived.Laws.BytesArg
import Derived.Laws.MakeOwn
import Derived.Laws.OwnMore
import Derived.Deep.OwnRows
import Derived.Tactics
import Derived.Lib.ConvBytes
import Derived.Laws.Slices
import Derived.WalkKit
import Derived.KernelRfl
import Derived.RowKit3
import Derived.Deep.LoopGhost
import Derived.Deep.QuietTactic
import Derived.BigQuiet
import Derived.WideLaws
import Derived.Deep.DeepCutAuto
import Derived.Deep.CutBlock
import Derived.Deep.RegionHeld3
import Derived.Deep.MidRow
import Derived.Laws.Tables
import Derived.StillTailTactics
import Derived.Laws.Rows
import Derived.Lib.AppendStr
import Derived.ArgAppend
import Derived.Laws.IdiomCopy
import Derived.OrdersHeld
import Derived.Laws.BitsLemmas
import Derived.Laws.BitsAllLaws
import Derived.RowKit
import Derived.RegionTactic
import Derived.Deep.RegionWith
import Derived.Lib.Hide
import Derived.Test.YtjfleaekljapeaaDoorXAA
import Derived.Test.YtjfleaekljapeaaDoorXAB
import Derived.Test.YtjfleaekljapeaaDoorXAC
import Derived.Deep.RegionLaw
import Derived.Laws.CopyOwn
import Derived.Shelf.Spec.TrailingZeros
namespace Go.Proofs.YtjfleaekljapeaaDoor.K
open Go.RowKit Go.Proofs.YtjfleaekljapeaaDoorW.PrintWords Go.Proofs.YtjfleaekljapeaaDoorW.PrintLast Go.Proofs.YtjfleaekljapeaaDoorW.PrintMore
attribute [local go_sem] max2_int min2_int max_two min_two max_three min_three max_four min_four   -- for this text's walks alone
set_option linter.unusedVariables false
set_option linter.unusedSimpArgs false
set_option linter.unusedSectionVars false
section
structure SV where
 (a0 a1 a2 a3 a4 a5 a6 a7 a8 : Option Addr)
 (n0 n1 n2 n3 n4 n5 n6 n7 n8 : Nat)
 (c0 c1 c2 c3 c4 c5 c6 c7 c8 : Nat)
 (keys free top fuel steps checks stop code : Int)
def SV.cs (s : SV) : Array Value := #[.slice s.a0 s.n0 s.c0, .slice s.a1 s.n1 s.c1, .slice s.a2 s.n2 s.c2, .slice s.a3 s.n3 s.c3, .slice s.a4 s.n4 s.c4, .slice s.a5 s.n5 s.c5, .int .u64 s.keys, .slice s.a6 s.n6 s.c6, .int .i64 s.free, .int .i64 s.top, .slice s.a7 s.n7 s.c7, .slice s.a8 s.n8 s.c8, .int .i64 s.fuel, .int .i64 s.steps, .int .i64 s.checks, .int .i64 s.stop, .int .u8 s.code]
def SV.stopped (s : SV) (how : Int) : SV := { s with stop := if s.stop < 0 then how else s.stop }
theorem two_below (w : World) (o1 o2 : Obj) : Below w.heap.size w ((w.alloc o1).alloc o2) := ((Below.refl _ _).alloc (Nat.le_refl _) _).alloc (by simp) _
theorem info95 : (Tryd.prog.info? 95).map (·.size) = some 17 := by kernel_rfl
theorem range_blk {w : World} {g t : Nat} {cs : Array Value} (h : w.heap[g]? = some (.cells cs t (0, 0))) : w.rangeAt g 0 cs.toList := fun j v hv => by
 rw [Nat.zero_add]
 rw [blk_cell h, <- Array.getElem?_toList]
 exact hv
theorem there_blk {w : World} {g t n : Nat} {cs : Array Value} (h : w.heap[g]? = some (.cells cs t (0, 0))) (hn : n = cs.size) : w.there g 0 n := fun j hj => by
 subst hn
 rw [Nat.zero_add]
 exact ⟨by rw [blk_cell h, Array.getElem?_eq_getElem hj]; rfl, blk_frozen h j⟩
structure Cs (cs : Array Value) : Prop where
 sz : cs.size = 17
 one : cs.all (·.oneCell') = true
theorem Cs.of (s : SV) : Cs s.cs := ⟨rfl, by unfold SV.cs; simp [Value.oneCell']⟩
section
variable {ops : Array Oper} {rest : List Oper} {o : Oper} {a : Act} {W : World} {Q : Exit -> Act -> World -> Prop}
theorem load95 (x : Operand) (ho : o.op = .load 95 x) (hgd : o.guard = none) (g : Nat) (hx : a.eval x = .pointer (some ⟨g, 0, none⟩)) (cs : Array Value) (hb : W.heap[g]? = some (.cells cs 95 (0, 0))) (hc : Cs cs)
  (h : wpList Tryd.prog ops Q rest (a.put o.dst (.agg cs)) W) : wpList Tryd.prog ops Q (o :: rest) a W := by
 refine wpList_load_mid hgd 95 x ho g 0 hx cs.toList _ (range_blk hb) Tryd.underlying95 rfl ?_ ?_
 ·rw [info95]
  exact congrArg some (by rw [Array.length_toList]; exact hc.sz.symm)
 ·rw [Array.toArray_toList]
  exact h
theorem store95 (x y : Operand) (ho : o.op = .store 95 x y) (hd : o.dst = none) (hgd : o.guard = none) (g : Nat) (hx : a.eval x = .pointer (some ⟨g, 0, none⟩)) (cs : Array Value) (hy : a.eval y = .agg cs) (zs : Array Value) (hb : W.heap[g]? = some (.cells zs 95 (0, 0))) (hz : zs.size = 17) (hc : Cs cs)
  (h : ∀ W2 : World, W2.heap[g]? = some (.cells cs 95 (0, 0)) -> (∀ k, k ≠ g -> W2.heap[k]? = W.heap[k]?) -> (∀ (w0 : World) (row : Option Nat), w0.heap.size <= g -> w0.grownBy W row -> w0.grownBy W2 row) -> wpList Tryd.prog ops Q rest a W2) : wpList Tryd.prog ops Q (o :: rest) a W := by
 refine wpList_store_mid hgd 95 x y ho g 0 cs hx hy (there_blk hb (by rw [hz, hc.sz])) (by rw [info95, hc.sz]) hc.one ?_
 have e : a.put o.dst undef = a := by rw [hd]; rfl
 rw [e]
 refine h _ ?_ (fun k hk => setCells_far _ _ k hk) (fun w0 row h0 hB => ?_)
 ·obtain ⟨cur, h1, h2, h3⟩ := setCells_row cs.toList 0 W zs hb (by rw [Array.length_toList, hz, hc.sz]; omega)
  have e2 : cur = cs := by
   apply Array.toList_inj.1
   rw [h3, List.take_zero, List.nil_append, List.drop_of_length_le (by rw [Array.length_toList, Array.length_toList, hz, hc.sz]; omega), List.append_nil]
  rw [e2] at h1
  exact h1
 ·obtain ⟨h1, h2, h3, h4⟩ := setCells_same g cs.toList 0 W
  exact ⟨h1.trans hB.os, h2.trans hB.tape, h3.trans hB.output, by rw [h4]; exact hB.size, fun k hk hne => (setCells_far _ _ k (by omega)).trans (hB.block k hk hne)⟩
end
def z95 : Array Value := (SV.mk none none none none none none none none none 0 0 0 0 0 0 0 0 0 0 0 0 0 0 0 0 0 0 0 0 0 0 0 0 0 0).cs
theorem gb_trans {w W W2 : World} {row row2 : Option Nat} (h : w.grownBy W row) (h2 : W.grownBy W2 row2) (hr : ∀ k, k < w.heap.size -> some k ≠ row -> some k ≠ row2) : w.grownBy W2 row :=
 ⟨h2.os.trans h.os, h2.tape.trans h.tape, h2.output.trans h.output, Nat.le_trans h.size h2.size, fun k hk hne => (h2.block k (Nat.lt_of_lt_of_le hk h.size) (hr k hk hne)).trans (h.block k hk hne)⟩
theorem below_gb {w W : World} (row : Option Nat) (hb : Below w.heap.size w W) : w.grownBy W row := ⟨hb.os, hb.tape, hb.output, hb.size, fun k hk _ => hb.block k hk⟩
theorem gb_none {w W : World} (h : w.grownBy W none) : Below w.heap.size w W := ⟨h.os, h.tape, h.output, h.size, fun k hk => h.block k hk (by simp)⟩
theorem gb_set {w W : World} {row : Option Nat} (h : w.grownBy W row) {g : Nat} (hg : w.heap.size <= g) (j : Nat) (v : Value) : w.grownBy (W.setCell ⟨g, j, none⟩ v) row :=
 ⟨h.os, h.tape, h.output, by rw [show (W.setCell ⟨g, j, none⟩ v).heap.size = W.heap.size by simp [World.setCell]]; exact h.size, fun k hk hne => (Below.heap_setCell W ⟨g, j, none⟩ v k (by show k ≠ g; omega)).trans (h.block k hk hne)⟩
structure Bx (w0 W : World) (row : Option Nat) (g r : Nat) (cs zs : Array Value) : Prop where
 hg : W.heap[g]? = some (.cells cs 95 (0, 0))
 hr : W.heap[r]? = some (.cells zs 95 (0, 0))
 zs : zs.size = 17
 ne : r ≠ g
 lo : w0.heap.size <= g
 lr : w0.heap.size <= r
 gr : w0.grownBy W row
theorem Bx.new (w : World) (row : Option Nat) (cs zs : Array Value) (hz : zs.size = 17) : Bx w ((w.alloc (.cells cs 95)).alloc (.cells zs 95)) row w.heap.size (w.heap.size + 1) cs zs :=
 ⟨blk_below (heap_alloc_new w (.cells cs 95)) ((Below.refl _ _).alloc (Nat.le_refl _) _), two_new w _ _, hz, by omega, Nat.le_refl _, by omega, below_gb _ (two_below w _ _)⟩
theorem Bx.put {w0 W : World} {row : Option Nat} {g r : Nat} {cs zs : Array Value} (h : Bx w0 W row g r cs zs) (j : Nat) (v : Value) : Bx w0 (W.setCell ⟨g, j, none⟩ v) row g r (cs.setIfInBounds j v) zs :=
 ⟨blk_set h.hg j v, blk_far h.hr h.ne v, h.zs, h.ne, h.lo, h.lr, gb_set h.gr h.lo j v⟩
theorem Bx.step {w0 W W2 : World} {row : Option Nat} {g r : Nat} {cs zs : Array Value} (h : Bx w0 W row g r cs zs) (hb : Below W.heap.size W W2) : Bx w0 W2 row g r cs zs :=
 ⟨blk_below h.hg hb, blk_below h.hr hb, h.zs, h.ne, h.lo, h.lr, gb_trans h.gr (below_gb none hb) (fun k _ _ => by simp)⟩
theorem Bx.grown {w0 W W2 : World} {row row2 : Option Nat} {g r : Nat} {cs zs : Array Value} (h : Bx w0 W row g r cs zs) (hg : W.grownBy W2 row2) (n1 : some g ≠ row2) (n2 : some r ≠ row2) (hr : ∀ k, k < w0.heap.size -> some k ≠ row -> some k ≠ row2) : Bx w0 W2 row g r cs zs :=
 ⟨(hg.block g (blk_lt h.hg) n1).trans h.hg, (hg.block r (blk_lt h.hr) n2).trans h.hr, h.zs, h.ne, h.lo, h.lr, gb_trans h.gr hg hr⟩
set_option maxHeartbeats 4000000 in
theorem stop_calls (s : SV) (how : Int) (w : World) : Calls Tryd.prog 53 #[.agg s.cs, .int .i64 how] w fun e w' => e = .returned (.agg (s.stopped how).cs) /\ Below w.heap.size w w' := by
 have hu95 := Tryd.underlying95
 by_cases h : s.stop < 0
 ·have HE := Aside0.mk (show s.stopped how = { s with stop := how } by unfold SV.stopped; rw [if_pos h])
  generalize s.stopped how = s2 at HE
  go_enter Tryd.func53, Tryd.ntmps53
  go_upto_region 1 with (fail)
  generalize hW : World.alloc (World.alloc w (Obj.cells s.cs 95)) _ = W
  have HX := Aside0.mk (show Bx w W none w.heap.size (w.heap.size + 1) s.cs z95 by rw [<- hW]; exact Bx.new w none s.cs z95 rfl)
  clear hW
  have x15 := (blk_cell HX.out.hg 15).trans (show _ = some (Value.int .i64 s.stop) from rfl)
  have q15 := blk_frozen HX.out.hg 15
  have H2 := Aside0.mk (show Bx w (W.setCell ⟨w.heap.size, 15, none⟩ (.int .i64 how)) none w.heap.size (w.heap.size + 1) s2.cs z95 by rw [HE.out]; exact HX.out.put 15 (.int .i64 how))
  go_wp2_with (first | ((with_reducible refine gate_dst (N := 10) rfl ?_); refine load95 _ rfl rfl _ rfl _ H2.out.hg (Cs.of s2) ?_) | ((with_reducible refine gate_store (t := 95) (p := 4) rfl ?_); refine store95 _ _ rfl rfl rfl _ rfl _ rfl _ H2.out.hr H2.out.zs (Cs.of s2) ?_; intro W2 h2 hfar hbel))
  refine bodyPost_ret (results_cell_row rfl _ _ (w.heap.size + 1) 95 _ (0, 0) _ rfl h2 hu95 rfl (by kernel_rfl)) rfl ?_
  exact ⟨rfl, gb_none (hbel w none H2.out.lr H2.out.gr)⟩
 ·have HE := Aside0.mk (show s.stopped how = s by unfold SV.stopped; rw [if_neg h])
  rw [HE.out]
  go_enter Tryd.func53, Tryd.ntmps53
  go_upto_region 1 with (fail)
  generalize hW : World.alloc (World.alloc w (Obj.cells s.cs 95)) _ = W
  have HX := Aside0.mk (show Bx w W none w.heap.size (w.heap.size + 1) s.cs z95 by rw [<- hW]; exact Bx.new w none s.cs z95 rfl)
  clear hW
  have x15 := (blk_cell HX.out.hg 15).trans (show _ = some (Value.int .i64 s.stop) from rfl)
  go_wp2_with (first | ((with_reducible refine gate_dst (N := 10) rfl ?_); refine load95 _ rfl rfl _ rfl _ HX.out.hg (Cs.of s) ?_) | ((with_reducible refine gate_store (t := 95) (p := 4) rfl ?_); refine store95 _ _ rfl rfl rfl _ rfl _ rfl _ HX.out.hr HX.out.zs (Cs.of s) ?_; intro W2 h2 hfar hbel))
  refine bodyPost_ret (results_cell_row rfl _ _ (w.heap.size + 1) 95 _ (0, 0) _ rfl h2 hu95 rfl (by kernel_rfl)) rfl ?_
  exact ⟨rfl, gb_none (hbel w none HX.out.lr HX.out.gr)⟩
end
theorem C_int {k : IntKind} {w : World} {A : Option Addr} {n : Nat} {xs : List Int} (h : Kd.C (Kd.int k) w A n xs) (i : Int) (h0 : 0 <= i) (h1 : i < n) : ∃ ad, A = some ad /\ w.cell? (ad.add i.toNat) = some (.int k (rd xs i)) := by
 obtain ⟨ad, c, e, _, hK, hc⟩ := Kd.C_get h (0 : Int) i h0 h1
 have hK : c = [.int k (rd xs i)] := hK
 subst hK
 have := hc 0 _ rfl
 rw [Nat.add_zero, show (Kd.int k).sz = 1 from rfl, Nat.mul_one] at this
 exact ⟨ad, e, this⟩
def heldB (lk : List Int) (lock key : Int) : Bool := key != 0 && (decide (lock < (lk.length : Int)) && rd lk lock == key)
set_option maxHeartbeats 4000000 in
set_option maxRecDepth 20000 in
theorem byteAt_calls (s : SV) (mm : List Int) (at_ : Int) (w : World) (hr : Kd.C (Kd.int .u8) w s.a3 s.n3 mm) (h0 : 4096 <= at_) (h1 : at_ <= 4194304) (hl : mm.length <= 4194304) : Calls Tryd.prog 68 #[.agg s.cs, .int .u64 at_] w fun e w' => e = .returned (.int .u8 (rd mm (at_ - 4096))) /\ Below w.heap.size w w' := by
 have hu95 := Tryd.underlying95
 have hu60 := Tryd.underlying60
 have hn : s.n3 = mm.length := hr.1.symm
 have hw1 : IntKind.i64.wrap at_ = at_ := by rw [IntKind.wrap_i64]; omega
 have hw2 : IntKind.i64.wrap (at_ - 4096) = at_ - 4096 := by rw [IntKind.wrap_i64]; omega
 by_cases hlt : at_ - 4096 < (mm.length : Int)
 ·obtain ⟨ad, ea, y0⟩ := C_int hr (at_ - 4096) (by omega) (by rw [hn]; exact hlt)
  have i0 : 0 <= at_ - 4096 := by omega
  have hlt2 : decide (at_ - 4096 < (mm.length : Int)) = true := by simpa using hlt
  have HQ := Aside0.mk h0
  have HP := Aside0.mk h1
  clear hr h0 h1
  go_enter Tryd.func68, Tryd.ntmps68
  go_upto_region 1 with (fail)
  generalize hW : World.alloc w (Obj.cells s.cs 95) = W
  have hg : W.heap[w.heap.size]? = some (.cells s.cs 95 (0, 0)) := by rw [<- hW]; exact heap_alloc_new w _
  have hb : Below w.heap.size w W := by rw [<- hW]; exact (Below.refl _ _).alloc (Nat.le_refl _) _
  clear hW
  have x3 := (blk_cell hg 3).trans (show _ = some (Value.slice s.a3 s.n3 s.c3) from rfl)
  rw [hn, ea] at x3
  have y1 := pw_cell_below hb y0
  have HB := Aside0.mk hb
  clear hg hb y0
  go_wp2
  go_ret
  exact ⟨rfl, HB.out⟩
 ·have hlt2 : decide (at_ - 4096 < (mm.length : Int)) = false := by simpa using hlt
  have e0 : rd mm (at_ - 4096) = 0 := by
   unfold rd
   rw [List.getD_eq_getElem?_getD, List.getElem?_eq_none (by omega)]
   rfl
  have HE := Aside0.mk e0
  rw [e0]
  have HQ := Aside0.mk h0
  have HP := Aside0.mk h1
  clear hr h0 h1 e0
  go_enter Tryd.func68, Tryd.ntmps68
  go_upto_region 1 with (fail)
  generalize hW : World.alloc w (Obj.cells s.cs 95) = W
  have hg : W.heap[w.heap.size]? = some (.cells s.cs 95 (0, 0)) := by rw [<- hW]; exact heap_alloc_new w _
  have hb : Below w.heap.size w W := by rw [<- hW]; exact (Below.refl _ _).alloc (Nat.le_refl _) _
  clear hW
  have x3 := (blk_cell hg 3).trans (show _ = some (Value.slice s.a3 s.n3 s.c3) from rfl)
  rw [hn] at x3
  have HB := Aside0.mk hb
  clear hg hb
  go_wp2
  go_ret
  exact ⟨rfl, HB.out⟩
theorem bx1 (w : World) (cs : Array Value) : (w.alloc (.cells cs 95)).heap[w.heap.size]? = some (.cells cs 95 (0, 0)) /\ Below w.heap.size w (w.alloc (.cells cs 95)) := ⟨heap_alloc_new w _, (Below.refl _ _).alloc (Nat.le_refl _) _⟩
set_option maxHeartbeats 4000000 in
set_option maxRecDepth 20000 in
theorem held_calls (s : SV) (lk : List Int) (lock key : Int) (w : World) (hr : Kd.C (Kd.int .u64) w s.a5 s.n5 lk) (h0 : 0 <= lock) (hl : (lk.length : Int) < 4611686018427387904) : Calls Tryd.prog 65 #[.agg s.cs, .int .u64 lock, .int .u64 key] w fun e w' => e = .returned (.bool (heldB lk lock key)) /\ Below w.heap.size w w' := by
 have hu95 := Tryd.underlying95
 have hu71 := Tryd.underlying71
 have hn : s.n5 = lk.length := hr.1.symm
 have hw : IntKind.u64.wrap (lk.length : Int) = (lk.length : Int) := by rw [IntKind.wrap_u64]; omega
 have HV := Aside0.mk (show heldB lk lock key = (key != 0 && (decide (lock < (lk.length : Int)) && rd lk lock == key)) from rfl)
 generalize heldB lk lock key = res at HV
 have HL := Aside0.mk hl
 clear hl
 by_cases hk : key = 0
 ·have hk2 : (key != 0) = false := by simpa using hk
  have HR := Aside0.mk (show res = false by rw [HV.out, hk2]; rfl)
  clear HV hr hk
  go_enter Tryd.func65, Tryd.ntmps65
  go_upto_region 1 with (fail)
  obtain ⟨hg, hb⟩ := bx1 w s.cs
  generalize World.alloc w (Obj.cells s.cs 95) = W at hg hb
  have HB := Aside0.mk hb
  clear hb hg
  go_wp2
  go_ret
  exact ⟨by rw [HR.out]; rfl, HB.out⟩
 ·have hk2 : (key != 0) = true := by simpa using hk
  clear hk
  by_cases hlt : lock < (lk.length : Int)
  ·obtain ⟨ad, ea, y0⟩ := C_int hr lock h0 (by rw [hn]; exact hlt)
   have hlt2 : decide (lock < (lk.length : Int)) = true := by simpa using hlt
   have HR := Aside0.mk (show res = (rd lk lock == key) by rw [HV.out, hk2, hlt2]; rfl)
   clear HV hr
   generalize rd lk lock = v at y0 HR
   go_enter Tryd.func65, Tryd.ntmps65
   go_upto_region 1 with (fail)
   obtain ⟨hg, hb⟩ := bx1 w s.cs
   generalize World.alloc w (Obj.cells s.cs 95) = W at hg hb
   have x5 := (blk_cell hg 5).trans (show _ = some (Value.slice s.a5 s.n5 s.c5) from rfl)
   rw [hn, ea] at x5
   have y1 := pw_cell_below hb y0
   have HB := Aside0.mk hb
   clear hb hg y0
   go_wp2
   go_ret
   exact ⟨by rw [HR.out]; rfl, HB.out⟩
  ·have hlt2 : decide (lock < (lk.length : Int)) = false := by simpa using hlt
   have HR := Aside0.mk (show res = false by rw [HV.out, hk2, hlt2]; rfl)
   clear HV hr
   go_enter Tryd.func65, Tryd.ntmps65
   go_upto_region 1 with (fail)
   obtain ⟨hg, hb⟩ := bx1 w s.cs
   generalize World.alloc w (Obj.cells s.cs 95) = W at hg hb
   have x5 := (blk_cell hg 5).trans (show _ = some (Value.slice s.a5 s.n5 s.c5) from rfl)
   rw [hn] at x5
   have HB := Aside0.mk hb
   clear hb hg
   go_wp2
   go_ret
   exact ⟨by rw [HR.out]; rfl, HB.out⟩
structure RowSt {α : Type} (d : Kd α) (e : Nat) (w0 w w' : World) (v v' : Value) (xs : List α) : Prop where
 row : d.R e w' w0.heap.size (fun _ => True) v' xs
 grown : w.grownBy w' v.ownBlock
 hat : v'.ownBlock = v.ownBlock ∨ ∃ b, v'.ownBlock = some b /\ w.heap.size <= b
def SV.fresh (s : SV) (A : Option Addr) (n c : Nat) : SV := { s with keys := s.keys + 1, a5 := A, n5 := n, c5 := c }
set_option maxHeartbeats 4000000 in
set_option maxRecDepth 20000 in
theorem fresh_calls (s : SV) (lk : List Int) (w0 w : World) (hr : Kd.R (Kd.int .u64) 42 w w0.heap.size (fun _ => True) (.slice s.a5 s.n5 s.c5) lk) (hB : Below w0.heap.size w0 w) (h0 : 0 <= s.keys) (h1 : s.keys < 4611686018427387904) (hl : lk.length < 17592186044000) :
  Calls Tryd.prog 54 #[.agg s.cs] w fun e w' => ∃ A c, e = .returned (.agg (s.fresh A (lk.length + 1) c).cs) /\ RowSt (Kd.int .u64) 42 w0 w w' (.slice s.a5 s.n5 s.c5) (.slice A (lk.length + 1) c) (lk ++ [s.keys + 1]) := by
 have hu95 := Tryd.underlying95
 have hu71 := Tryd.underlying71
 have hw : IntKind.u64.wrap (s.keys + 1) = s.keys + 1 := by rw [IntKind.wrap_u64]; omega
 have HR := Aside0.mk hr
 have HB := Aside0.mk hB
 have HL := Aside0.mk hl
 clear hr hB hl h0 h1
 go_enter Tryd.func54, Tryd.ntmps54
 go_upto_region 1 with (fail)
 generalize hW : World.alloc (World.alloc w (Obj.cells s.cs 95)) _ = W
 have HX := Aside0.mk (show Bx w W (Value.slice s.a5 s.n5 s.c5).ownBlock w.heap.size (w.heap.size + 1) s.cs z95 by rw [<- hW]; exact Bx.new w _ s.cs z95 rfl)
 have HW := Aside0.mk (show Below w.heap.size w W by rw [<- hW]; exact two_below w _ _)
 clear hW
 have x6 := (blk_cell HX.out.hg 6).trans (show _ = some (Value.int .u64 s.keys) from rfl)
 have q6 := blk_frozen HX.out.hg 6
 go_upto_region 2 with (fail)
 have n0_ := Aside0.mk (HX.out.put 6 (.int .u64 (s.keys + 1)))
 clear HX x6 q6
 have HX := n0_
 clear n0_
 have HX2 := Aside0.mk (show Below w.heap.size w (W.setCell ⟨w.heap.size, 6, none⟩ (.int .u64 (s.keys + 1))) from below_set HW.out (Nat.le_refl _))
 generalize W.setCell ⟨w.heap.size, 6, none⟩ (.int .u64 (s.keys + 1)) = W2 at HX HX2 ⊢
 have x5 := (blk_cell HX.out.hg 5).trans (show _ = some (Value.slice s.a5 s.n5 s.c5) from rfl)
 have x6 := (blk_cell HX.out.hg 6).trans (show _ = some (Value.int .u64 (s.keys + 1)) from rfl)
 have HR2 := Aside0.mk (Kd.R_below HR.out HX2.out)
 have HB2 := Aside0.mk (below_step HB.out HX2.out)
 have N1 := Kd.R_ne HR2.out HX.out.hg (by decide)
 have N2 := Kd.R_ne HR2.out HX.out.hr (by decide)
 have HSZ := Aside0.mk HX.out.gr.size
 go_upto_region 3 with (first | ((with_reducible refine gate_builtin (b := .append) (xs := #[.tmp 8, .tmp 11]) rfl ?_); at_builtin; refine Kd.R_append (Kd.int .u64) (w0 := w0) w0.heap.size rfl (.tmp 8) (.tmp 11) 71 42 (.int .u64 0) 8 rfl Tryd.underlying71 info42 rfl (by decide) (by omega) (.slice s.a5 s.n5 s.c5) lk (s.keys + 1) [.int .u64 (s.keys + 1)] (fun _ => True) (fun _ => False) rfl rfl ?aP (fun _ hk => hk.elim) ?aF ?aO ?aB ?aS ?aL ?_; (case aP => exact rfl); (case aB => exact HB2.out); (case aF => exact (fun _ _ => trivial)); (case aO => exact HR2.out); (case aS => exact (below_size HB2.out)); (case aL => have := HL.out; omega); intro v1 w9 ho hb hg hat; have HO := Aside0.mk ho; have HGR := Aside0.mk hg; have HAT := Aside0.mk hat; have HX9 := Aside0.mk (HX.out.grown hg N1 N2 (fun _ _ h => h)); clear ho hb hg hat HX x5 x6 N1 N2; obtain ⟨A1, c1, e1⟩ := Kd.R_slice HO.out; subst e1; have q5 := blk_frozen HX9.out.hg 5; have y5 := (blk_cell HX9.out.hg 5).trans (show _ = some (Value.slice s.a5 s.n5 s.c5) from rfl)))
 have hl1 : (lk ++ [s.keys + 1]).length = lk.length + 1 := by simp
 rw [hl1] at HO HAT
 have HS := Aside0.mk (HX9.out.put 5 (.slice A1 (lk.length + 1) c1))
 have HO2 := Aside0.mk (show (Kd.int .u64).R 42 (w9.setCell ⟨w.heap.size, 5, none⟩ (.slice A1 (lk.length + 1) c1)) w0.heap.size (fun _ => True) (.slice A1 (lk.length + 1) c1) (lk ++ [s.keys + 1]) from Kd.R_set HO.out HX9.out.hg (by decide) 5 _)
 have HC := Aside0.mk (show Cs ((s.cs.setIfInBounds 6 (.int .u64 (s.keys + 1))).setIfInBounds 5 (.slice A1 (lk.length + 1) c1)) from Cs.of (s.fresh A1 (lk.length + 1) c1))
 clear q5 y5 HO HX9
 go_wp2_with (first | ((with_reducible refine gate_dst (N := 14) rfl ?_); refine load95 _ rfl rfl _ rfl _ HS.out.hg HC.out ?_) | ((with_reducible refine gate_store (t := 95) (p := 2) rfl ?_); refine store95 _ _ rfl rfl rfl _ rfl _ rfl _ HS.out.hr HS.out.zs HC.out ?_; intro W3 h2 hfar hgr))
 refine bodyPost_ret (results_cell_row rfl _ _ (w.heap.size + 1) 95 _ (0, 0) _ rfl h2 hu95 rfl (by kernel_rfl)) rfl ?_
 refine ⟨A1, c1, rfl, ⟨?_, hgr w _ HS.out.lr HS.out.gr, ?_⟩⟩
 ·refine Kd.R_mono (Kd.R_move (Kd.R_types HO2.out HS.out.hr (by decide)) (fun k hk => hfar k hk.2)) (fun _ hk => hk.1)
 ·rcases HAT.out with h | ⟨b, h1, h2⟩
  ·exact .inl h
  ·exact .inr ⟨b, h1, Nat.le_trans HSZ.out h2⟩
theorem RowSt.sep {α : Type} {d : Kd α} {e : Nat} {w0 w W : World} {v v' : Value} {xs : List α} (h : RowSt d e w0 w W v v' xs) : ∀ k, k < w.heap.size -> some k ≠ v.ownBlock -> some k ≠ v'.ownBlock := by
 intro k hk hne
 rcases h.hat with h2 | ⟨b, h2, h3⟩
 ·rw [h2]; exact hne
 ·rw [h2]
  intro e
  injection e with e
  omega
theorem RowSt.next {α : Type} {d : Kd α} {e : Nat} {w0 w W W2 : World} {v v' v2 : Value} {xs ys : List α} (h : RowSt d e w0 w W v v' xs) (hR : d.R e W2 w0.heap.size (fun _ => True) v2 ys) (hg : W.grownBy W2 v'.ownBlock) (hat : v2.ownBlock = v'.ownBlock ∨ ∃ b, v2.ownBlock = some b /\ W.heap.size <= b) : RowSt d e w0 w W2 v v2 ys :=
 ⟨hR, gb_trans h.grown hg h.sep, by
  rcases hat with h2 | ⟨b, h2, h3⟩
  ·rw [h2]; exact h.hat
  ·exact .inr ⟨b, h2, Nat.le_trans h.grown.size h3⟩⟩
theorem RowSt.start {α : Type} {d : Kd α} {e : Nat} {w0 w W : World} {v : Value} {xs : List α} (h : d.R e w w0.heap.size (fun _ => True) v xs) (hb : Below w.heap.size w W) : RowSt d e w0 w W v v xs := ⟨Kd.R_below h hb, below_gb _ hb, .inl rfl⟩
theorem RowSt.box {α : Type} {d : Kd α} {e : Nat} {w0 w W : World} {v v' : Value} {xs : List α} {g : Nat} {cs : Array Value} (h : RowSt d e w0 w W v v' xs) (hg : W.heap[g]? = some (.cells cs 95 (0, 0))) (ht : ∀ q, q ∈ e :: d.E -> q ≠ 95) (hlo : w.heap.size <= g) (j : Nat) (u : Value) : RowSt d e w0 w (W.setCell ⟨g, j, none⟩ u) v v' xs :=
 ⟨Kd.R_set h.row hg ht j u, gb_set h.grown hlo j u, h.hat⟩
theorem RowSt.box2 {α : Type} {d : Kd α} {e : Nat} {w0 w W W2 : World} {v v' : Value} {xs : List α} {g : Nat} {cs : Array Value} (h : RowSt d e w0 w W v v' xs) (hg : W.heap[g]? = some (.cells cs 95 (0, 0))) (ht : ∀ q, q ∈ e :: d.E -> q ≠ 95) (hfar : ∀ k, k ≠ g -> W2.heap[k]? = W.heap[k]?) (hgr : w.grownBy W2 v.ownBlock) : RowSt d e w0 w W2 v v' xs :=
 ⟨Kd.R_mono (Kd.R_move (Kd.R_types h.row hg ht) (fun k hk => hfar k hk.2)) (fun _ hk => hk.1), hgr, h.hat⟩
def padL (mm : List Int) (n : Nat) : List Int := mm ++ List.replicate (n - mm.length) 0
theorem padL_zero (mm : List Int) (n : Nat) (h : n <= mm.length) : padL mm n = mm := by unfold padL; rw [show n - mm.length = 0 by omega]; simp
theorem padL_succ (mm : List Int) (n : Nat) (h : mm.length <= n) : padL mm n ++ [0] = padL mm (n + 1) := by
 unfold padL
 rw [show n + 1 - mm.length = (n - mm.length) + 1 by omega, List.replicate_succ', List.append_assoc]
def putL (mm : List Int) (i : Nat) (b : Int) : List Int := (padL mm (i + 1)).set i b
def SV.mem (s : SV) (A : Option Addr) (n c : Nat) : SV := { s with a3 := A, n3 := n, c3 := c }
theorem info5 : (Tryd.prog.info? 5).map (fun i => (i.zero, i.size, i.bytes)) = some (some (.int .u8 0), 1, 1) := by kernel_rfl
set_option maxHeartbeats 4000000 in
set_option maxRecDepth 20000 in
theorem mput_calls (s : SV) (mm : List Int) (i : Nat) (b : Int) (w0 w : World) (hr : Kd.R (Kd.int .u8) 5 w w0.heap.size (fun _ => True) (.slice s.a3 s.n3 s.c3) mm) (hB : Below w0.heap.size w0 w) (hi : i < 4194304) (hl : mm.length <= 4194304) :
  Calls Tryd.prog 67 #[.agg s.cs, .int .u64 (4096 + (i : Int)), .int .u8 b] w fun e w' => ∃ A n c, e = .returned (.agg (s.mem A n c).cs) /\ RowSt (Kd.int .u8) 5 w0 w w' (.slice s.a3 s.n3 s.c3) (.slice A n c) (putL mm i b) /\ Below w0.heap.size w0 w' := by
 have hu95 := Tryd.underlying95
 have hu60 := Tryd.underlying60
 have hw1 : IntKind.i64.wrap (4096 + (i : Int)) = 4096 + (i : Int) := by rw [IntKind.wrap_i64]; omega
 have hw2 : IntKind.i64.wrap (4096 + (i : Int) - 4096) = (i : Int) := by rw [IntKind.wrap_i64]; omega
 have HN := Aside0.mk (show s.n3 = mm.length from (Kd.R_reads' hr).1)
 have HR := Aside0.mk hr
 have HB := Aside0.mk hB
 have HI := Aside0.mk hi
 have HL := Aside0.mk hl
 clear hr hB hl hi
 go_enter Tryd.func67, Tryd.ntmps67
 go_upto_region 1 with (fail)
 generalize hW : World.alloc (World.alloc w (Obj.cells s.cs 95)) _ = W
 have e0 : s.mem s.a3 mm.length s.c3 = s := by unfold SV.mem; rw [<- HN.out]
 have HX := Aside0.mk (show Bx w W (Value.slice s.a3 s.n3 s.c3).ownBlock w.heap.size (w.heap.size + 1) (s.mem s.a3 mm.length s.c3).cs z95 by rw [e0, <- hW]; exact Bx.new w _ s.cs z95 rfl)
 have HW := Aside0.mk (show Below w.heap.size w W by rw [<- hW]; exact two_below w _ _)
 clear hW e0
 have HS := Aside0.mk (show RowSt (Kd.int .u8) 5 w0 w W (.slice s.a3 s.n3 s.c3) (.slice s.a3 mm.length s.c3) mm by rw [<- HN.out]; exact RowSt.start HR.out HW.out)
 have HB2 := Aside0.mk (below_step HB.out HW.out)
 have HWZ := Aside0.mk HB.out.size
 clear HR HB HW
 go_loopg [] (i + 1 - mm.length) (fun gg w' => ∃ (l : List Int) (A : Option Addr) (c : Nat), mm.length <= l.length /\ (l.length <= i + 1 ∨ l.length = mm.length) /\ l = padL mm l.length /\ i + 1 - l.length <= gg /\ Aside0 (Bx w w' (Value.slice s.a3 s.n3 s.c3).ownBlock w.heap.size (w.heap.size + 1) (s.mem A l.length c).cs z95) /\ Aside0 (RowSt (Kd.int .u8) 5 w0 w w' (.slice s.a3 s.n3 s.c3) (.slice A l.length c) l) /\ Aside0 (Below w0.heap.size w0 w'))
 case atStart => exact ⟨mm, s.a3, s.c3, Nat.le_refl _, .inr rfl, (padL_zero mm _ (Nat.le_refl _)).symm, Nat.le_refl _, HX, HS, HB2⟩
 case round =>
  clear HX HS HB2
  obtain ⟨l, A, c, h1, h2, h3, hgl, HX, HS, HB2⟩ := hrel
  have H3 := Aside0.mk h3
  clear h3
  have x3 := (blk_cell HX.out.hg 3).trans (show _ = some (Value.slice A l.length c) from rfl)
  have N1 := Kd.R_ne HS.out.row HX.out.hg (by decide)
  have N2 := Kd.R_ne HS.out.row HX.out.hr (by decide)
  by_cases hc : l.length <= i
  ·have hci : (l.length : Int) <= (i : Int) := by omega
   have q3 := blk_frozen HX.out.hg 3
   have HLL := Aside0.mk (show l.length + 1 <= 4194304 by have := HI.out; omega)
   go_wp2_with (first | ((with_reducible refine gate_builtin (b := .append) (xs := #[.tmp 15, .tmp 16]) rfl ?_); at_builtin; refine Kd.R_append (Kd.int .u8) (w0 := w0) w0.heap.size rfl (.tmp 15) (.tmp 16) 60 5 (.int .u8 0) 1 rfl Tryd.underlying60 info5 rfl (by decide) (by omega) (.slice A l.length c) l 0 [.int .u8 0] (fun _ => True) (fun _ => False) rfl rfl ?aP (fun _ hk => hk.elim) ?aF ?aO ?aB ?aS ?aL ?_; (case aP => exact rfl); (case aB => exact HB2.out); (case aF => exact (fun _ _ => trivial)); (case aO => exact HS.out.row); (case aS => exact (below_size HB2.out)); (case aL => have := HLL.out; omega); intro v1 w9 ho hb hg hat; have HO := Aside0.mk (HS.out.next ho hg hat); have HB9 := Aside0.mk hb; have HX9 := Aside0.mk (HX.out.grown hg N1 N2 HS.out.sep); clear hb hg hat HX HS HB2 x3 q3 N1 N2; obtain ⟨A1, c1, e1⟩ := Kd.R_slice ho; subst e1; clear ho; have q5 := blk_frozen HX9.out.hg 3; have y5 := (blk_cell HX9.out.hg 3).trans (show _ = some (Value.slice A l.length c) from rfl)))
   have hl1 : (l ++ [(0 : Int)]).length = l.length + 1 := by simp
   go_roundg (i + 1 - (l.length + 1))
   case measure => omega
   case rel =>
    refine ⟨l ++ [0], A1, c1, by rw [hl1]; omega, .inl (by rw [hl1]; omega), ?_, by rw [hl1]; exact Nat.le_refl _, ?_, ?_, ⟨below_set HB9.out (Nat.le_trans HWZ.out HX9.out.lo)⟩⟩
    ·rw [hl1, <- padL_succ mm _ h1, <- H3.out]
    ·rw [hl1]
     exact ⟨HX9.out.put 3 (.slice A1 (l.length + 1) c1)⟩
    ·have h := HO.out
     rw [hl1] at h
     rw [hl1]
     exact ⟨h.box HX9.out.hg (by decide) HX9.out.lo 3 _⟩
  ·have hci : ¬ (l.length : Int) <= (i : Int) := by omega
   have i0 : 0 <= (i : Int) := by omega
   have i1 : (i : Int) < (l.length : Int) := by omega
   have hlp : l = padL mm (i + 1) := by
    have h3 := H3.out
    rcases h2 with h2 | h2
    ·rw [show i + 1 = l.length by omega]; exact h3
    ·rw [h2, padL_zero mm _ (Nat.le_refl _)] at h3
     rw [padL_zero mm _ (by omega)]
     exact h3
   obtain ⟨g2, cap, e1, hgb, hgl2, cl, hgc⟩ := Kd.R_form HS.out.row (by omega)
   injection e1 with e1 e2 e3
   subst e1
   subst e3
   obtain ⟨hx, hf⟩ := Kd.R_celln 0 HS.out.row (i : Int) i0 i1
   rw [Int.toNat_natCast] at hx hf
   have hp := Kd.R_putg HS.out.row (i : Int) b
   rw [Int.toNat_natCast] at hp
   have HX3 := Aside0.mk (HX.out.grown hp.2 N1 N2 HS.out.sep)
   have HS3 := Aside0.mk (HS.out.next hp.1 hp.2 (.inl rfl))
   have HB3 := Aside0.mk (show Below w0.heap.size w0 (wr.setCell ⟨g2, i, none⟩ (.int .u8 b)) from below_set HB2.out hgb)
   have HP := Aside0.mk (show l.set i b = putL mm i b by unfold putL; rw [<- hlp])
   clear hp hgc N1 N2 HS HB2 hlp H3
   go_wp2_with (first | ((with_reducible refine gate_dst (N := 26) rfl ?_); refine load95 _ rfl rfl _ rfl _ HX3.out.hg (Cs.of _) ?_) | ((with_reducible refine gate_store (t := 95) (p := 6) rfl ?_); refine store95 _ _ rfl rfl rfl _ rfl _ rfl _ HX3.out.hr HX3.out.zs (Cs.of _) ?_; intro W3 h2 hfar hgr))
   refine bodyPost_ret (results_cell_row rfl _ _ (w.heap.size + 1) 95 _ (0, 0) _ rfl h2 hu95 rfl (by kernel_rfl)) rfl ?_
   refine ⟨_, _, c, rfl, ?_, gb_none (hgr w0 none (Nat.le_trans HWZ.out HX3.out.lr) (below_gb none HB3.out))⟩
   rw [<- HP.out]
   exact HS3.out.box2 HX3.out.hr (by decide) hfar (hgr w _ HX3.out.lr HS3.out.grown)
section
section
variable {ops : Array Oper} {rest : List Oper} {o : Oper} {a : Act} {W : World} {Q : Exit -> Act -> World -> Prop}
theorem storeT (t n : Nat) (hi : (Tryd.prog.info? t).map (·.size) = some n) (x y : Operand) (ho : o.op = .store t x y) (hd : o.dst = none) (hgd : o.guard = none) (g : Nat) (hx : a.eval x = .pointer (some ⟨g, 0, none⟩)) (cs : Array Value) (hy : a.eval y = .agg cs) (zs : Array Value) (hb : W.heap[g]? = some (.cells zs t (0, 0))) (hz : zs.size = n) (hc : cs.size = n) (h1 : cs.all (·.oneCell') = true)
  (h : ∀ W2 : World, W2.heap[g]? = some (.cells cs t (0, 0)) -> (∀ k, k ≠ g -> W2.heap[k]? = W.heap[k]?) -> (∀ (w0 : World) (row : Option Nat), w0.heap.size <= g -> w0.grownBy W row -> w0.grownBy W2 row) -> wpList Tryd.prog ops Q rest a W2) : wpList Tryd.prog ops Q (o :: rest) a W := by
 refine wpList_store_mid hgd t x y ho g 0 cs hx hy (there_blk hb (by rw [hz, hc])) (by rw [hi, hc]) h1 ?_
 have e : a.put o.dst undef = a := by rw [hd]; rfl
 rw [e]
 refine h _ ?_ (fun k hk => setCells_far _ _ k hk) (fun w0 row h0 hB => ?_)
 ·obtain ⟨cur, h1, h2, h3⟩ := setCells_row cs.toList 0 W zs hb (by rw [Array.length_toList, hz, hc]; omega)
  have e2 : cur = cs := by
   apply Array.toList_inj.1
   rw [h3, List.take_zero, List.nil_append, List.drop_of_length_le (by rw [Array.length_toList, Array.length_toList, hz, hc]; omega), List.append_nil]
  rw [e2] at h1
  exact h1
 ·obtain ⟨h1, h2, h3, h4⟩ := setCells_same g cs.toList 0 W
  exact ⟨h1.trans hB.os, h2.trans hB.tape, h3.trans hB.output, by rw [h4]; exact hB.size, fun k hk hne => (setCells_far _ _ k (by omega)).trans (hB.block k hk hne)⟩
end
structure S139 where
 f0 : Int
 f1 : Int
 f2 : Int
 f3 : Int
 f4 : Int
def z139 : S139 := ⟨0, 0, 0, 0, 0⟩
def k139 : Kd S139 := Kd.iso (Kd.pair (Kd.int .u64) (Kd.pair (Kd.int .u64) (Kd.pair (Kd.int .u64) (Kd.pair (Kd.int .u64) (Kd.int .u64))))) (fun x : S139 => (x.f0, x.f1, x.f2, x.f3, x.f4))
theorem k139_open {w : World} {x : S139} {cs : List Value} (h : k139.K w x cs) : cs = [.int .u64 x.f0, .int .u64 x.f1, .int .u64 x.f2, .int .u64 x.f3, .int .u64 x.f4] := by
 obtain ⟨_, _, rfl, rfl, ⟨_, _, rfl, rfl, ⟨_, _, rfl, rfl, ⟨_, _, rfl, rfl, rfl⟩⟩⟩⟩ := h
 exact rfl
theorem k139_mkM (w : World) (base : Nat) (ok : Nat -> Prop) (x : S139) : k139.M w base ok x [.int .u64 x.f0, .int .u64 x.f1, .int .u64 x.f2, .int .u64 x.f3, .int .u64 x.f4] :=
 ⟨[.int .u64 x.f0], [.int .u64 x.f1, .int .u64 x.f2, .int .u64 x.f3, .int .u64 x.f4], rfl, rfl, ⟨[.int .u64 x.f1], [.int .u64 x.f2, .int .u64 x.f3, .int .u64 x.f4], rfl, rfl, ⟨[.int .u64 x.f2], [.int .u64 x.f3, .int .u64 x.f4], rfl, rfl, ⟨[.int .u64 x.f3], [.int .u64 x.f4], rfl, rfl, rfl⟩⟩⟩⟩
theorem cells139 {w : World} {g n : Nat} {L : List S139} (h : Kd.C k139 w (some ⟨g, 0, none⟩) n L) (i : Nat) (hi : i < n) : w.rangeAt g (i * 5) [.int .u64 (L.getD i z139).f0, .int .u64 (L.getD i z139).f1, .int .u64 (L.getD i z139).f2, .int .u64 (L.getD i z139).f3, .int .u64 (L.getD i z139).f4] := by
 obtain ⟨ad, c, e, _, hK, hc⟩ := Kd.C_get h z139 (i : Int) (by omega) (by omega)
 rw [Int.toNat_natCast] at hK hc
 obtain rfl := k139_open hK
 injection e with e
 subst e
 intro j v hv
 have := hc j v hv
 rw [Addr.add_mid, Nat.zero_add] at this
 exact this
def shV (L : List S139) (a : Int) : Nat -> S139
 | 0 => z139
 | n + 1 => if (L.getD n z139).f0 = a then L.getD n z139 else shV L a n
def S139.v (x : S139) : Array Value := #[.int .u64 x.f1, .int .u64 x.f2, .int .u64 x.f3, .int .u64 x.f4]
theorem S139.one (x : S139) : x.v.all (·.oneCell') = true := by unfold S139.v; simp [Value.oneCell']
set_option maxHeartbeats 4000000 in
set_option maxRecDepth 20000 in
theorem shadow_calls (s : SV) (L : List S139) (at_ : Int) (w0 w : World) (hr : Kd.R k139 139 w w0.heap.size (fun _ => True) (.slice s.a4 s.n4 s.c4) L) (hl : L.length <= 4194304) :
  Calls Tryd.prog 69 #[.agg s.cs, .int .u64 at_] w fun e w' => e = .returned (.agg (shV L at_ L.length).v) /\ Below w.heap.size w w' := by
 have hu95 := Tryd.underlying95
 have hu92 := Tryd.underlying92
 have hu139 := Tryd.underlying139
 have HN := Aside0.mk (show s.n4 = L.length from (Kd.R_reads' hr).1)
 have HC := Aside0.mk (Kd.R_reads' hr).2.2
 have HF := Aside0.mk (fun (hp : 0 < L.length) => Kd.R_form hr hp)
 have HL := Aside0.mk hl
 clear hr hl
 go_enter Tryd.func69, Tryd.ntmps69
 go_upto_region 1 with (fail)
 generalize hW : World.alloc (World.alloc w (Obj.cells s.cs 95)) _ = W
 have HG := Aside0.mk (show W.heap[w.heap.size]? = some (.cells s.cs 95 (0, 0)) by rw [<- hW]; exact blk_below (heap_alloc_new w (.cells s.cs 95)) ((Below.refl _ _).alloc (Nat.le_refl _) _))
 have HR := Aside0.mk (show W.heap[w.heap.size + 1]? = some (.cells #[.int .u64 0, .int .u64 0, .int .u64 0, .int .u64 0] 136 (0, 0)) by rw [<- hW]; exact two_new w _ _)
 have HB := Aside0.mk (show Below w.heap.size w W by rw [<- hW]; exact two_below w _ _)
 clear hW
 have x4 := (blk_cell HG.out 4).trans (show _ = some (Value.slice s.a4 s.n4 s.c4) from rfl)
 rw [HN.out] at x4
 have hw0 : wrap64 ((L.length : Int) - 1) = (L.length : Int) - 1 := by have := HL.out; unfold wrap64; omega
 have hi136 : (Tryd.prog.info? 136).map (·.size) = some 4 := by kernel_rfl
 have hu136 := Tryd.underlying136
 have HQ := Aside0.mk hi136
 have HU := Aside0.mk hu136
 clear hi136 hu136
 go_upto_region 2 with (fail)
 go_loopg [5] L.length (fun gg v5 w' => ∃ (n : Nat), n <= L.length /\ n <= gg /\ v5 = .int .i64 ((n : Int) - 1) /\ Aside0 (shV L at_ L.length = shV L at_ n) /\ w' = W)
 case atStart => exact ⟨L.length, Nat.le_refl _, Nat.le_refl _, by rw [hw0], ⟨rfl⟩, rfl⟩
 case round =>
  obtain ⟨n, hn, hgn, rfl, HV, rfl⟩ := hrel
  clear hw0
  cases n with
  | zero =>
   have HE := Aside0.mk (show shV L at_ L.length = z139 from HV.out)
   clear HV
   go_wp2_with (first | ((with_reducible refine gate_store (t := 136) (p := 4) rfl ?_); refine storeT 136 4 HQ.out _ _ rfl rfl rfl _ rfl z139.v rfl _ HR.out rfl rfl (S139.one _) ?_; intro W2 h2 hfar hgr))
   refine bodyPost_ret (results_cell_row rfl _ _ (w.heap.size + 1) 136 _ (0, 0) _ rfl h2 HU.out rfl (by kernel_rfl)) rfl ?_
   exact ⟨by rw [HE.out], gb_none (hgr w none (by omega) (below_gb none HB.out))⟩
  | succ m =>
   have em : (((m + 1 : Nat) : Int) - 1) = (m : Int) := by omega
   rw [em]
   have m0 : 0 <= (m : Int) := by omega
   have m1 : (m : Int) < (L.length : Int) := by omega
   have hw1 : wrap64 ((m : Int) - 1) = (m : Int) - 1 := by have := HL.out; unfold wrap64; omega
   obtain ⟨g, cap, e1, _, _, _⟩ := HF.out (by omega)
   injection e1 with e1 e2 e3
   have hC := HC.out
   rw [e1] at hC x4
   have hrg := cells139 hC m (by omega)
   have HRG := Aside0.mk (show wr.rangeAt g (m * 5 + 1) [.int .u64 (L.getD m z139).f1, .int .u64 (L.getD m z139).f2, .int .u64 (L.getD m z139).f3, .int .u64 (L.getD m z139).f4] from fun j v hv => by
    have := hrg (j + 1) v hv
    rw [show m * 5 + 1 + j = m * 5 + (j + 1) by omega]
    exact pw_cell_below HB.out this)
   have y0 : wr.cell? ⟨g, m * 5, none⟩ = some (.int .u64 (L.getD m z139).f0) := pw_cell_below HB.out (hrg 0 _ rfl)
   have HSV := Aside0.mk (show shV L at_ (m + 1) = if (L.getD m z139).f0 = at_ then L.getD m z139 else shV L at_ m from rfl)
   clear hrg hC e1 e2 e3 em
   generalize L.getD m z139 = x at HRG y0 HSV
   by_cases hat : x.f0 = at_
   ·have HE := Aside0.mk (show shV L at_ L.length = x by rw [HV.out, HSV.out, if_pos hat])
    have hat2 : (x.f0 == at_) = true := by simpa using hat
    clear HV HSV hat
    go_wp2_with (first | ((with_reducible refine gate_dst (N := 27) rfl ?_); refine wpList_load_mid rfl 136 _ rfl g (m * 5 + 1) rfl [.int .u64 x.f1, .int .u64 x.f2, .int .u64 x.f3, .int .u64 x.f4] _ HRG.out HU.out rfl HQ.out ?_) | ((with_reducible refine gate_store (t := 136) (p := 4) rfl ?_); refine storeT 136 4 HQ.out _ _ rfl rfl rfl _ rfl x.v rfl _ HR.out rfl rfl (S139.one _) ?_; intro W2 h2 hfar hgr))
    refine bodyPost_ret (results_cell_row rfl _ _ (w.heap.size + 1) 136 _ (0, 0) _ rfl h2 HU.out rfl (by kernel_rfl)) rfl ?_
    exact ⟨by rw [HE.out], gb_none (hgr w none (by omega) (below_gb none HB.out))⟩
   ·have HE := Aside0.mk (show shV L at_ L.length = shV L at_ m by rw [HV.out, HSV.out, if_neg hat])
    have hat2 : (x.f0 == at_) = false := by simpa using hat
    clear HV HSV hat
    go_wp2
    go_roundg m
    case measure => omega
    case rel => exact ⟨m, by omega, Nat.le_refl _, by first | rfl | rw [hw1], HE, rfl⟩
end
end Go.Proofs.YtjfleaekljapeaaDoor.K
