import Derived.Test.YtjfleaekljapeaaDoorXBA
import Derived.Deep.DeepMust
import Derived.Test.YtjfleaekljapeaaDoorProg
import Derived.Below
import Derived.Deep.Draws
import Derived.Deep.AppendLies
import Derived.Maps.AppendAt
import Derived.OwnWalk
import Derived.Laws.BytesArg
import Derived.Laws.MakeOwn
import Derived.Laws.OwnMore
import Derived.Deep.OwnRows
import Derived.Tactics
import Derived.Lib.ConvBytes
import Derived.Laws.Slices
import Derived.WalkKit
import Derived.KernelRfl
import Derived.RowKit3
import Derived.Deep.LoopGhost
import Derived.Deep.QuietTactic
import Derived.BigQuiet
import Derived.WideLaws
import Derived.Deep.DeepCutAuto
import Derived.Deep.CutBlock
import Derived.Deep.RegionHeld3
import Derived.Deep.MidRow
import Derived.Laws.Tables
import Derived.StillTailTactics
import Derived.Laws.Rows
import Derived.Lib.AppendStr
import Derived.ArgAppend
import Derived.Laws.IdiomCopy
import Derived.OrdersHeld
import Derived.Laws.BitsLemmas
import Derived.Laws.BitsAllLaws
import Derived.RowKit
import Derived.RegionTactic
import Derived.Deep.RegionWith
import Derived.Lib.Hide
import Derived.Test.YtjfleaekljapeaaDoorXAA
import Derived.Test.YtjfleaekljapeaaDoorXAB
import Derived.Test.YtjfleaekljapeaaDoorXAC
import Derived.Deep.RegionLaw
import Derived.Laws.CopyOwn
import Derived.Laws.EntriesVeiled
import Derived.Shelf.Spec.TrailingZeros
namespace Go.Proofs.YtjfleaekljapeaaDoor.K
open Go.RowKit Go.Proofs.YtjfleaekljapeaaDoorW.PrintWords Go.Proofs.YtjfleaekljapeaaDoorW.PrintLast Go.Proofs.YtjfleaekljapeaaDoorW.PrintMore
attribute [local go_sem] max2_int min2_int max_two min_two max_three min_three max_four min_four   -- for this text's walks alone
set_option linter.unusedVariables false
set_option linter.unusedSimpArgs false
set_option linter.unusedSectionVars false
section
structure Sz {α : Type} (d : Kd α) (e : Nat) (W0 W : World) (gg : Nat) (gcs : Array Value) (v : Value) (xs : List α) : Prop where
 kp : Kp W0 W (fun k => k = gg)
 hg : W.heap[gg]? = some (.cells gcs 25 (0, 0))
 row : d.R e W W0.heap.size (fun _ => True) v xs
theorem Sz.step {α : Type} {d : Kd α} {e gg : Nat} {W0 W W2 : World} {gcs : Array Value} {v : Value} {xs : List α} (h : Sz d e W0 W gg gcs v xs) (hb : Below W.heap.size W W2) : Sz d e W0 W2 gg gcs v xs :=
 ⟨h.kp.then_ (Kp.below hb (fun _ => False)) (fun _ h => h) (fun _ h => h.elim), blk_below h.hg hb, Kd.R_below h.row hb⟩
theorem Sz.put {α : Type} {d : Kd α} {e gg : Nat} {W0 W W2 : World} {gcs : Array Value} {v v2 : Value} {xs ys : List α} (h : Sz d e W0 W gg gcs v xs) (hr : d.R e W2 W0.heap.size (fun _ => True) v2 ys) (hgr : W.grownBy W2 v.ownBlock) (hne : e ≠ 25) (hE : ∀ q, q ∈ e :: d.E -> q ≠ 25) (j : Nat) (u : Value) : Sz d e W0 (W2.setCell ⟨gg, j, none⟩ u) gg (gcs.setIfInBounds j u) v2 ys := by
 have hg2 : W2.heap[gg]? = some (.cells gcs 25 (0, 0)) := (hgr.block gg (blk_lt h.hg) (Kd.R_ne h.row h.hg hne)).trans h.hg
 obtain ⟨inner, ho⟩ := Kd.R_own h.row
 refine ⟨(h.kp.then_ (Kp.grown hgr) (fun _ h => h) (fun k hk => .inr (own_base ho k hk))).then_ (kp_set W2 gg j u) (fun _ h => h) (fun _ h => .inl h), blk_set hg2 j u, Kd.R_set hr hg2 hE j u⟩
def fnc (nm : ByteArray) (v1 v2 v3 v4 : Value) : Array Value := #[.string nm, v1, v2, v3, v4]
def ren3 (rn : Int -> Int) (i : S44) (k : Nat) : S44 := { i with f1 := if 0 < k /\ us0 i.f0 = true then rn i.f1 else i.f1, f2 := if 1 < k /\ us1 i.f0 = true then rn i.f2 else i.f2, f3 := if 2 < k /\ us2 i.f0 = true then rn i.f3 else i.f3 }
theorem ren3_zero (rn : Int -> Int) (i : S44) : ren3 rn i 0 = i := by
 unfold ren3
 simp
theorem icOf_ren (rn : Int -> Int) (i : S44) (A7 : Option Addr) (c7 : Nat) (A8 : Option Addr) (c8 : Nat) : icOf (renI rn i) A7 c7 A8 c8 = #[.int .i64 (ren3 rn i 3).f0, .int .i64 (ren3 rn i 3).f1, .int .i64 (ren3 rn i 3).f2, .int .i64 (ren3 rn i 3).f3, .int .u64 (ren3 rn i 3).f4, .int .i64 (ren3 rn i 3).f5, .string (ren3 rn i 3).f6, .slice A7 i.f7.length c7, .slice A8 i.f8.length c8, .int .i64 (ren3 rn i 3).f9] := by
 unfold icOf renI ren3
 simp
def ShPost (f : Fr4) (pl : List Int) (most : Int) (n : Nat) (w : World) (e : Ending) (w' : World) : Prop :=
 ∃ g : Fr4, e = .returned (.agg g.cs) /\ g.nm = f.nm /\ g.A1 = none /\ g.c1 = 0 /\ g.l2 = List.replicate n 1 /\ g.l3 = f.l3 /\ g.code = f.code.map (renI (rnP pl most)) /\ FnC g.A1 g.c1 [] g.A2 g.c2 g.l2 g.A3 g.c3 g.l3 g.A4 g.c4 g.code w' /\ Below w.heap.size w w'
theorem four_new (w : World) (o1 o2 o3 o4 : Obj) : ((((w.alloc o1).alloc o2).alloc o3).alloc o4).heap[w.heap.size]? = some o1 /\ ((((w.alloc o1).alloc o2).alloc o3).alloc o4).heap[w.heap.size + 1]? = some o2 /\ ((((w.alloc o1).alloc o2).alloc o3).alloc o4).heap[w.heap.size + 2]? = some o3 /\ ((((w.alloc o1).alloc o2).alloc o3).alloc o4).heap[w.heap.size + 3]? = some o4 /\ Below w.heap.size w ((((w.alloc o1).alloc o2).alloc o3).alloc o4) := by
 obtain ⟨⟨h1, h2, h3⟩, hb⟩ := tri_new w o1 o2 o3
 have hd : Below (((w.alloc o1).alloc o2).alloc o3).heap.size (((w.alloc o1).alloc o2).alloc o3) ((((w.alloc o1).alloc o2).alloc o3).alloc o4) := (Below.refl _ _).alloc (Nat.le_refl _) _
 refine ⟨blk_below h1 hd, blk_below h2 hd, blk_below h3 hd, ?_, below_step hb hd⟩
 have := heap_alloc_new (((w.alloc o1).alloc o2).alloc o3) o4
 rw [show (((w.alloc o1).alloc o2).alloc o3).heap.size = w.heap.size + 3 by simp] at this
 exact this
section
variable (rn : Int -> Int) (i : S44) (A7 : Option Addr) (c7 : Nat) (A8 : Option Addr) (c8 : Nat)
theorem ren3_a0 : (icOf (ren3 rn i 0) A7 c7 A8 c8)[1]? = some (.int .i64 i.f1) := by unfold icOf ren3; simp
theorem ren3_a1 : (icOf (ren3 rn i 1) A7 c7 A8 c8)[2]? = some (.int .i64 i.f2) := by unfold icOf ren3; simp
theorem ren3_a2 : (icOf (ren3 rn i 2) A7 c7 A8 c8)[3]? = some (.int .i64 i.f3) := by unfold icOf ren3; simp
theorem ren3_s0 (h : us0 i.f0 = true) : (icOf (ren3 rn i 0) A7 c7 A8 c8).setIfInBounds 1 (.int .i64 (rn i.f1)) = icOf (ren3 rn i 1) A7 c7 A8 c8 := by unfold icOf ren3; simp [h]
theorem ren3_s1 (h : us1 i.f0 = true) : (icOf (ren3 rn i 1) A7 c7 A8 c8).setIfInBounds 2 (.int .i64 (rn i.f2)) = icOf (ren3 rn i 2) A7 c7 A8 c8 := by unfold icOf ren3; simp [h]
theorem ren3_s2 (h : us2 i.f0 = true) : (icOf (ren3 rn i 2) A7 c7 A8 c8).setIfInBounds 3 (.int .i64 (rn i.f3)) = icOf (ren3 rn i 3) A7 c7 A8 c8 := by unfold icOf ren3; simp [h]
theorem ren3_n0 (h : us0 i.f0 = false) : icOf (ren3 rn i 0) A7 c7 A8 c8 = icOf (ren3 rn i 1) A7 c7 A8 c8 := by unfold icOf ren3; simp [h]
theorem ren3_n1 (h : us1 i.f0 = false) : icOf (ren3 rn i 1) A7 c7 A8 c8 = icOf (ren3 rn i 2) A7 c7 A8 c8 := by unfold icOf ren3; simp [h]
theorem ren3_n2 (h : us2 i.f0 = false) : icOf (ren3 rn i 2) A7 c7 A8 c8 = icOf (ren3 rn i 3) A7 c7 A8 c8 := by unfold icOf ren3; simp [h]
end
structure Iy (wr W : World) (gi gu : Nat) (ic uc : Array Value) : Prop where
 hi : W.heap[gi]? = some (.cells ic 44 (0, 0))
 hu : W.heap[gu]? = some (.cells uc 84 (0, 0))
 below : Below wr.heap.size wr W
 li : wr.heap.size <= gi
theorem Iy.step {wr W W2 : World} {gi gu : Nat} {ic uc : Array Value} (h : Iy wr W gi gu ic uc) (hb : Below W.heap.size W W2) : Iy wr W2 gi gu ic uc := ⟨blk_below h.hi hb, blk_below h.hu hb, below_step h.below hb, h.li⟩
theorem Iy.put {wr W : World} {gi gu : Nat} {ic uc : Array Value} (h : Iy wr W gi gu ic uc) (j : Nat) (u : Value) : Iy wr (W.setCell ⟨gi, j, none⟩ u) gi gu (ic.setIfInBounds j u) uc := by
 have hne : ¬ gu = gi := fun e => by
  have h2 := h.hu
  rw [e, h.hi] at h2
  injection h2 with h2
  injection h2 with _ h2
  cases h2
 exact ⟨blk_set h.hi j u, (kp_set W gi j u).blk gu (blk_lt h.hu) hne |>.trans h.hu, below_set h.below h.li, h.li⟩
theorem info44z : (Tryd.prog.info? 44).map (fun i => (i.zero, i.size, i.bytes)) = some (some (.agg #[.int .i64 0, .int .i64 0, .int .i64 0, .int .i64 0, .int .u64 0, .int .i64 0, .string ⟨#[]⟩, .slice none 0 0, .slice none 0 0, .int .i64 0]), 10, 120) := by kernel_rfl
theorem ren_fin (rn : Int -> Int) (i : S44) (A7 B7 : Option Addr) (c7 d7 : Nat) (A8 B8 : Option Addr) (c8 d8 : Nat) : ((icOf (ren3 rn i 3) A7 c7 A8 c8).setIfInBounds 7 (.slice B7 i.f7.length d7)).setIfInBounds 8 (.slice B8 i.f8.length d8) = icOf (renI rn i) B7 d7 B8 d8 := by
 rw [icOf_ren]
 rfl
theorem info25s : (Tryd.prog.info? 25).map (·.size) = some 5 := by kernel_rfl
theorem R_kp {α : Type} {d : Kd α} {e base : Nat} {W W2 : World} {v : Value} {xs : List α} (h : d.R e W base (fun _ => True) v xs) {g t : Nat} {cells : Array Value} (hb : W.heap[g]? = some (.cells cells t (0, 0))) (ht : ∀ q, q ∈ e :: d.E -> q ≠ t) (hk : Kp W W2 (fun k => k = g)) : d.R e W2 base (fun _ => True) v xs :=
 Kd.R_mono (Kd.R_step (Kd.R_types h hb ht) (fun k hk2 hlt => hk.blk k hlt hk2.2)) (fun _ _ => trivial)
theorem sh_post {w W1 W2 W W9 : World} {gg n : Nat} {f : Fr4} {pl : List Int} {most : Int} {Ak Ac : Option Addr} {ck cc : Nat} {gcs : Array Value} (hf : FnC f.A1 f.c1 [] f.A2 f.c2 f.l2 f.A3 f.c3 f.l3 f.A4 f.c4 f.code w) (hx : Sz (Kd.int .i64) 3 W1 W2 gg gcs (.slice Ak n ck) (List.replicate n 1)) {gcs2 : Array Value} (hc : Sz k44 44 W2 W gg gcs2 (.slice Ac f.code.length cc) (f.code.map (renI (rnP pl most)))) (hB : Below w.heap.size w W) {z : Array Value} (hz : W.heap[w.heap.size + 3]? = some (.cells z 25 (0, 0))) (hk : Kp W W9 (fun k => k = w.heap.size + 3)) :
  ShPost f pl most n w (.returned (.agg #[.string f.nm, .slice none 0 0, .slice Ak n ck, .slice f.A3 f.l3.length f.c3, .slice Ac f.code.length cc])) W9 := by
 have hB9 : Below w.heap.size w W9 := hk.toBelow hB (fun k e => by omega)
 have h2 : Kd.R (Kd.int .i64) 3 W W1.heap.size (fun _ => True) (.slice Ak n ck) (List.replicate n 1) := R_kp hx.row hx.hg (by decide) hc.kp
 have h2 := (Kd.R_reads' (R_kp h2 hz (by decide) hk))
 have h4 := (Kd.R_reads' (R_kp hc.row hz (by decide) hk))
 refine ⟨⟨f.nm, none, Ak, f.A3, Ac, 0, ck, f.c3, cc, List.replicate n 1, f.l3, f.code.map (renI (rnP pl most))⟩, ?_, rfl, rfl, rfl, rfl, rfl, rfl, ⟨c_nil, Nat.le_refl _, h2.2.2, by rw [<- h2.1]; exact h2.2.1, Kd.C_below hf.h3 hB9, hf.g3, h4.2.2, by rw [<- h4.1]; exact h4.2.1⟩, hB9⟩
 unfold Fr4.cs
 simp
end
set_option maxHeartbeats 8000000 in
set_option maxRecDepth 20000 in
theorem shared_calls (w : World) (f : Fr4) (hf : FnC f.A1 f.c1 [] f.A2 f.c2 f.l2 f.A3 f.c3 f.l3 f.A4 f.c4 f.code w) (Ap : Option Addr) (cp : Nat) (pl : List Int) (most : Nat) (hpl : Kd.C (Kd.int .i64) w Ap pl.length pl) (hF : ∀ n : Nat, n < f.code.length -> InsF pl.length f.l3.length f.code.length (rd_T44 f.code n)) (hl : pl.length <= 1000) (hm : most <= 1000) (h7 : ∀ n : Nat, n < f.code.length -> (rd_T44 f.code n).f7.length <= 17592186043904 /\ (rd_T44 f.code n).f8.length <= 1000000) (hcl : f.code.length <= 1000) :
  Calls Tryd.prog 18 #[.agg f.cs, .slice Ap pl.length cp, .int .i64 (most : Int)] w (ShPost f pl most (most + pl.length) w) := by
 have hu25 := Tryd.underlying25
 have hu22 := Tryd.underlying22
 have hu44 := Tryd.underlying44
 have hu23 := Tryd.underlying23
 have hu84 := Tryd.underlying84
 have hu87 := Tryd.underlying87
 have HFN := Aside0.mk hf
 have HPL := Aside0.mk hpl
 have HF := Aside0.mk hF
 have HL := Aside0.mk hl
 have HM := Aside0.mk hm
 have H7 := Aside0.mk h7
 have HCL := Aside0.mk hcl
 have hmf : ∀ (fn : Fn) (first cap : Array Value) (w : World), (Instr.makeFunc fn first cap).run Tryd.prog w = .ok (.func fn first cap) w := fun _ _ _ _ => rfl
 clear hf hpl hF hl hm h7 hcl
 go_enter Tryd.func18, Tryd.ntmps18
 go_upto_region 1 with (fail)
 have H4 := Aside0.mk (four_new w (.cells f.cs 25) (.cells #[.slice Ap pl.length cp] 22) (.cells #[.int .i64 (most : Int)] 3) (.cells (fnc ⟨#[]⟩ (.slice none 0 0) (.slice none 0 0) (.slice none 0 0) (.slice none 0 0)) 25))
 unfold fnc at H4
 generalize World.alloc (World.alloc (World.alloc (World.alloc w _) _) _) _ = Wa at H4 ⊢
 have z0 := (blk_cell H4.out.1 0).trans (show _ = some (Value.string f.nm) from rfl)
 have z3 := (blk_cell H4.out.1 3).trans (show _ = some (Value.slice f.A3 f.l3.length f.c3) from rfl)
 go_wp2
 have hgg : Wa.heap.size = Wa.heap.size := rfl
 have HXA := Aside0.mk (show Sz (Kd.int .i64) 3 (Wa.alloc (.cells (fnc f.nm (.slice none 0 0) (.slice none 0 0) (.slice f.A3 f.l3.length f.c3) (.slice none 0 0)) 25)) (Wa.alloc (.cells (fnc f.nm (.slice none 0 0) (.slice none 0 0) (.slice f.A3 f.l3.length f.c3) (.slice none 0 0)) 25)) Wa.heap.size (fnc f.nm (.slice none 0 0) (.slice none 0 0) (.slice f.A3 f.l3.length f.c3) (.slice none 0 0)) (.slice none 0 0) [] from ⟨Kp.below (Below.refl _ _) _, heap_alloc_new _ _, Kd.R_nil _ _ _ _ _⟩)
 have HBA := Aside0.mk (show Below Wa.heap.size Wa (Wa.alloc (.cells (fnc f.nm (.slice none 0 0) (.slice none 0 0) (.slice f.A3 f.l3.length f.c3) (.slice none 0 0)) 25)) from (Below.refl _ _).alloc (Nat.le_refl _) _)
 clear z0 z3 hgg
 generalize hW1 : World.alloc Wa _ = W1
 rw [show (Wa.alloc (.cells (fnc f.nm (.slice none 0 0) (.slice none 0 0) (.slice f.A3 f.l3.length f.c3) (.slice none 0 0)) 25)) = W1 from hW1] at HXA HBA
 clear hW1
 have HGG := Aside0.mk (show w.heap.size + 4 <= Wa.heap.size from blk_lt H4.out.2.2.2.1)
 generalize hgg : Wa.heap.size = gg at HXA HGG ⊢
 clear hgg
 have hwn : IntKind.i64.wrap ((most : Int) + (pl.length : Int)) = ((most + pl.length : Nat) : Int) := by rw [IntKind.wrap_i64]; have := HL.out; have := HM.out; omega
 have HN := Aside0.mk (show most + pl.length <= 2000 by have := HL.out; have := HM.out; omega)
 generalize hn : most + pl.length = n at hwn HN ⊢
 have HNE := Aside0.mk hn
 clear hn
 go_loopg [] n (fun gk w' => ∃ (j : Nat) (A : Option Addr) (c : Nat), j <= n /\ n - j <= gk /\ Aside0 (Sz (Kd.int .i64) 3 W1 w' gg (fnc f.nm (.slice none 0 0) (.slice A j c) (.slice f.A3 f.l3.length f.c3) (.slice none 0 0)) (.slice A j c) (List.replicate j 1)))
 case atStart => exact ⟨0, none, 0, Nat.zero_le _, Nat.le_refl _, HXA⟩
 case round =>
  clear HXA
  obtain ⟨j, Ak, ck, hj, hgk, HX⟩ := hrel
  have HBB := Aside0.mk (fun (k : Nat) (hk : k < gg) (o : Obj) (ho : Wa.heap[k]? = some o) => (show wr.heap[k]? = some o from (HX.out.kp.blk k (Nat.lt_of_lt_of_le (blk_lt ho) HBA.out.size) (by omega)).trans (blk_below ho HBA.out)))
  have x2 := (blk_cell HX.out.hg 2).trans (show _ = some (Value.slice Ak j ck) from rfl)
  have hgs := HGG.out
  have z5 := (blk_cell (HBB.out _ (by omega) _ H4.out.2.2.1) 0).trans (show _ = some (Value.int .i64 (most : Int)) from rfl)
  have z4 := (blk_cell (HBB.out _ (by omega) _ H4.out.2.1) 0).trans (show _ = some (Value.slice Ap pl.length cp) from rfl)
  clear hgs
  by_cases hlt : j < n
  ·have p1 : (j : Int) < (n : Int) := by omega
   have q2 := blk_frozen HX.out.hg 2
   go_wp2_with (first | ((with_reducible refine gate_builtin (b := .append) (xs := #[.tmp 29, .tmp 30]) rfl ?_); at_builtin; refine Kd.R_append (Kd.int .i64) (w0 := wr) W1.heap.size rfl (.tmp 29) (.tmp 30) 22 3 (.int .i64 0) 8 rfl Tryd.underlying22 info3 rfl (by decide) (by omega) (.slice Ak j ck) (List.replicate j 1) 1 [.int .i64 1] (fun _ => True) (fun _ => False) rfl rfl ?aP (fun _ hk => hk.elim) ?aF ?aO ?aB ?aS ?aL ?_; (case aP => exact rfl); (case aB => exact (Below.refl _ _)); (case aF => exact (fun _ _ => trivial)); (case aO => exact HX.out.row); (case aS => exact HX.out.kp.size); (case aL => have := HN.out; rw [List.length_replicate]; omega); intro v1 w9 ho hb hg hat; obtain ⟨A1, c1, e1⟩ := Kd.R_slice ho; subst e1; have HO := Aside0.mk ho; have HGR := Aside0.mk hg; have g9 := (hg.block gg (blk_lt HX.out.hg) (Kd.R_ne HX.out.row HX.out.hg (by decide))).trans HX.out.hg; have q2 := blk_frozen g9 2; have x2 := (blk_cell g9 2).trans (show _ = some (Value.slice Ak j ck) from rfl); clear ho hb hg hat g9 z4 z5))
   go_roundg (n - (j + 1))
   case measure => omega
   case rel =>
    have hE : (List.replicate j (1 : Int) ++ [1]).length = j + 1 := by simp
    refine ⟨j + 1, A1, c1, by omega, Nat.le_refl _, ⟨?_⟩⟩
    have h := HO.out
    rw [hE] at h
    rw [show List.replicate (j + 1) (1 : Int) = List.replicate j 1 ++ [1] from List.replicate_succ']
    exact HX.out.put h HGR.out (by decide) (by decide) 2 _
  ·obtain rfl : j = n := by omega
   go_upto_region 4 with (fail)
   clear x2 z4 z5
   go_upto_region 6 with (fail)
   have HBF := Aside0.mk (show Below wr.heap.size wr (wr.alloc (.cells #[.func (.func 33) #[] #[.pointer (some ⟨w.heap.size + 1, 0, none⟩), .pointer (some ⟨w.heap.size + 1 + 1, 0, none⟩)]] 82)) from (Below.refl _ _).alloc (Nat.le_refl _) _)
   have HFB := Aside0.mk (show (wr.alloc (.cells #[.func (.func 33) #[] #[.pointer (some ⟨w.heap.size + 1, 0, none⟩), .pointer (some ⟨w.heap.size + 1 + 1, 0, none⟩)]] 82)).heap[wr.heap.size]? = some (.cells #[.func (.func 33) #[] #[.pointer (some ⟨w.heap.size + 1, 0, none⟩), .pointer (some ⟨w.heap.size + 1 + 1, 0, none⟩)]] 82 (0, 0)) from heap_alloc_new _ _)
   have HXF := Aside0.mk (HX.out.step HBF.out)
   have HBW := Aside0.mk (fun (k : Nat) (hk : k < gg) (o : Obj) (ho : Wa.heap[k]? = some o) => (show (wr.alloc (.cells #[.func (.func 33) #[] #[.pointer (some ⟨w.heap.size + 1, 0, none⟩), .pointer (some ⟨w.heap.size + 1 + 1, 0, none⟩)]] 82)).heap[k]? = some o from blk_below (HBB.out k hk o ho) HBF.out))
   have HLT := Aside0.mk (show gg < wr.heap.size from blk_lt HX.out.hg)
   clear HX HBB
   generalize hbt : wr.heap.size = bt at HFB HLT ⊢
   generalize hW2 : World.alloc wr _ = W2
   rw [show (wr.alloc (.cells #[.func (.func 33) #[] #[.pointer (some ⟨w.heap.size + 1, 0, none⟩), .pointer (some ⟨w.heap.size + 1 + 1, 0, none⟩)]] 82)) = W2 from hW2] at HFB HXF HBW
   clear hW2 hbt HBF
   have HB0 := Aside0.mk (show ∀ W, Kp W2 W (fun k => k = gg) -> Below w.heap.size w W from fun W hk => by
    have h1 := H4.out.2.2.2.2
    have h2 := HGG.out
    refine hk.toBelow ((HXF.out.kp.toBelow (below_step h1 HBA.out) (fun k e => by omega))) (fun k e => by omega))
   have HE := Aside0.mk (show ∀ W, Kp W2 W (fun k => k = gg) -> Cap W (w.heap.size + 1) (w.heap.size + 1 + 1) bt Ap cp pl (most : Int) from fun W hk => by
    have h2 := HGG.out
    have h3 := HLT.out
    exact ⟨(blk_cell (far_typed hk (HBW.out (w.heap.size + 1) (by omega) _ H4.out.2.1) (by omega)) 0).trans rfl, (blk_cell (far_typed hk (HBW.out (w.heap.size + 1 + 1) (by omega) _ H4.out.2.2.1) (by omega)) 0).trans rfl, (blk_cell (far_typed hk HFB.out (by omega)) 0).trans rfl, Kd.C_below HPL.out (HB0.out W hk)⟩)
   have HXC := Aside0.mk (show Sz k44 44 W2 W2 gg (fnc f.nm (.slice none 0 0) (.slice Ak j ck) (.slice f.A3 f.l3.length f.c3) (.slice none 0 0)) (.slice none 0 0) [] from ⟨Kp.below (Below.refl _ _) _, HXF.out.hg, Kd.R_nil _ _ _ _ _⟩)
   have z4 := (blk_cell (HBW.out w.heap.size (by have := HGG.out; omega) _ H4.out.1) 4).trans (show _ = some (Value.slice f.A4 f.code.length f.c4) from rfl)
   go_wp2
   clear z4
   go_loopg [38] f.code.length (fun gk v38 w' => ∃ (q : Nat) (A : Option Addr) (c : Nat), q <= f.code.length /\ f.code.length - q <= gk /\ v38 = .int .i64 (q : Int) /\ Aside0 (Sz k44 44 W2 w' gg (fnc f.nm (.slice none 0 0) (.slice Ak j ck) (.slice f.A3 f.l3.length f.c3) (.slice A q c)) (.slice A q c) ((f.code.take q).map (renI (rnP pl most)))))
   case atStart => exact ⟨0, none, 0, Nat.zero_le _, Nat.le_refl _, rfl, HXC⟩
   case round =>
    clear HXC
    obtain ⟨q, Ac, cc, hq, hgq, rfl, HX⟩ := hrel
    obtain ⟨wo, rfl⟩ : ∃ wo, wo = wr := ⟨_, rfl⟩
    by_cases hlt : q < f.code.length
    ·have q0 : 0 <= (q : Int) := by omega
     have q1 : (q : Int) < (f.code.length : Int) := by omega
     have q2 : (q : Int) <= 1000 := by have := HCL.out; omega
     obtain ⟨ad, A7, c7, A8, c8, ea, y0, y1, y2, y3, y4, y5, y6, y7, y8, y9, l7, g7, l8, g8⟩ := at_T44 (Kd.C_below HFN.out.h4 (HB0.out wo HX.out.kp)) (q : Int) q0 q1
     rw [Int.toNat_natCast] at y0 y1 y2 y3 y4 y5 y6 y7 y8 y9
     rw [ea]
     have HEA := Aside0.mk ea
     have HIC := Aside0.mk (show InI wo (rd_T44 f.code q) A7 A8 c8 pl.length from ⟨g7, g8, (HF.out q hlt).r7, (HF.out q hlt).r8, by have := (H7.out q hlt).1; omega, l8⟩)
     have HIF := Aside0.mk (HF.out q hlt)
     have HI8 := Aside0.mk (H7.out q hlt).2
     have HTK := Aside0.mk (show (f.code.take (q + 1)).map (renI (rnP pl most)) = (f.code.take q).map (renI (rnP pl most)) ++ [renI (rnP pl most) (rd_T44 f.code q)] by
      rw [List.take_succ_eq_append_getElem hlt, List.map_append, List.map_singleton]
      congr 3
      unfold rd_T44
      rw [Int.toNat_natCast, List.getD_eq_getElem?_getD, List.getElem?_eq_getElem hlt]
      rfl)
     clear ea l7 g7 l8 g8
     generalize rd_T44 f.code q = i at y0 y1 y2 y3 y4 y5 y6 y7 y8 y9 HIC HIF HI8 HTK
     go_upto_region 9 with (fail)
     clear y0 y1 y2 y3 y4 y5 y6 y7 y8 y9
     have HBI := Aside0.mk (show Below wo.heap.size wo (wo.alloc (.cells (icOf i A7 c7 A8 c8) 44)) from (Below.refl _ _).alloc (Nat.le_refl _) _)
     have HHI := Aside0.mk (show (wo.alloc (.cells (icOf i A7 c7 A8 c8) 44)).heap[wo.heap.size]? = some (.cells (icOf i A7 c7 A8 c8) 44 (0, 0)) from heap_alloc_new _ _)
     have HGI := Aside0.mk (Nat.le_refl wo.heap.size)
     generalize hgi : wo.heap.size = gi at HHI ⊢
     rw [hgi] at HGI
     generalize hw3 : World.alloc wo _ = w3
     rw [show (wo.alloc (.cells (icOf i A7 c7 A8 c8) 44)) = w3 from hw3] at HBI HHI
     have HLI := Aside0.mk (show wo.heap.size <= gi by omega)
     clear hw3 hgi HGI
     have v0 := (blk_cell HHI.out 0).trans (show _ = some (Value.int .i64 i.f0) from rfl)
     have HUC := Aside0.mk (uses_calls i.f0 w3)
     unfold UsPost at HUC
     have HUV := Aside0.mk (rfl : us0 i.f0 = us0 i.f0)
     go_upto_region 10 with (first | (go_at_call 35; (with_reducible refine HUC.out.mono ?_); rintro e w4 ⟨rfl, hb4⟩; have HB4 := Aside0.mk hb4; clear hb4 HUC v0))
     have HHU := Aside0.mk (show (w4.alloc (.cells #[.bool (us0 i.f0), .bool (us1 i.f0), .bool (us2 i.f0)] 84)).heap[w4.heap.size]? = some (.cells #[.bool (us0 i.f0), .bool (us1 i.f0), .bool (us2 i.f0)] 84 (0, 0)) from heap_alloc_new _ _)
     have HBU := Aside0.mk (show Below w4.heap.size w4 (w4.alloc (.cells #[.bool (us0 i.f0), .bool (us1 i.f0), .bool (us2 i.f0)] 84)) from (Below.refl _ _).alloc (Nat.le_refl _) _)
     generalize hgu : w4.heap.size = gu at HHU ⊢
     clear hgu
     generalize hw5 : World.alloc w4 _ = w5
     rw [show (w4.alloc (.cells #[.bool (us0 i.f0), .bool (us1 i.f0), .bool (us2 i.f0)] 84)) = w5 from hw5] at HHU HBU
     clear hw5
     have HY0 := Aside0.mk (show Iy wo w5 gi gu (icOf (ren3 (rnP pl most) i 0) A7 c7 A8 c8) #[.bool (us0 i.f0), .bool (us1 i.f0), .bool (us2 i.f0)] from ⟨by rw [ren3_zero]; exact blk_below HHI.out (below_step HB4.out HBU.out), HHU.out, below_step HBI.out (below_step HB4.out HBU.out), HLI.out⟩)
     clear HHI HHU HBI HBU HB4 HLI
     go_wp2
     go_loopg [49] 3 (fun gk v49 wl => ∃ (k : Nat), k <= 3 /\ 3 - k <= gk /\ v49 = .int .i64 (k : Int) /\ Aside0 (Iy wo wl gi gu (icOf (ren3 (rnP pl most) i k) A7 c7 A8 c8) #[.bool (us0 i.f0), .bool (us1 i.f0), .bool (us2 i.f0)]))
     case atStart => exact ⟨0, by decide, Nat.le_refl _, rfl, HY0⟩
     case round =>
      clear HY0
      obtain ⟨k, hk3, hgk, rfl, HY⟩ := hrel
      have hk4 : k = 0 ∨ k = 1 ∨ k = 2 ∨ k = 3 := by omega
      rcases hk4 with hk | hk | hk | hk
      ·obtain rfl : k = 0 := hk
       have uk := (blk_cell HY.out.hu 0).trans (show _ = some (Value.bool (us0 i.f0)) from rfl)
       have ik : ∀ W, (Instr.index 87 (.agg #[.pointer (some ⟨gi, 1, none⟩), .pointer (some ⟨gi, 2, none⟩), .pointer (some ⟨gi, 3, none⟩)]) (.int .i64 0)).run Tryd.prog W = .ok (.pointer (some ⟨gi, 1, none⟩)) W := fun _ => by kernel_rfl
       obtain hus | hus : us0 i.f0 = true ∨ us0 i.f0 = false := by cases us0 i.f0 <;> simp
       ·rw [hus] at uk
        have HS := Aside0.mk (ren3_s0 (rnP pl most) i A7 c7 A8 c8 hus)
        obtain ⟨r, hr, hrl⟩ := HIF.out.d hus
        have HXK := Aside0.mk (ren3_a0 (rnP pl most) i A7 c7 A8 c8)
        rw [hr] at HXK HS
        have HCP := Aside0.mk (fun W9 (hb : Below wr.heap.size wr W9) => HE.out W9 ((HX.out.kp.then_ (Kp.below (below_step HY.out.below hb) (fun _ => False)) (fun _ h => h) (fun _ h => h.elim))))
        have HTO := Aside0.mk (fun W9 (hb : Below wr.heap.size wr W9) => to_calls (HCP.out W9 hb) (r : Int) (by omega) (by omega) (by have := HM.out; omega) HL.out)
        generalize rnP pl most (r : Int) = v at HS HTO
        clear hus hr hrl
        have HK9 := Aside0.mk (fun (w9 : World) (hb : Below wr.heap.size wr w9) => (show w9.cell? ⟨gi, 1, none⟩ = some (.int .i64 (r : Int)) from (blk_cell (HY.out.step hb).hi 1).trans HXK.out))
        have hS0 : Below wr.heap.size wr wr.drew := below_drew (Below.refl _ _)
        go_upto_region 14 with (fail)
        refine sh_start (fun w9 => Below wr.heap.size wr w9) (fun k => decide (k < 6)) (by kernel_rfl) ?_
        refine SH.take 0 (v := ?_) rfl (by kernel_rfl) (fun _ _ _ h => h) hS0 (by rfl) ?_ ?_
        rotate_left
        ·intro w9 hS9
         go_simp <;> (with_reducible rfl)
        simp only [List.getElem_toArray, List.getElem_cons_succ, List.getElem_cons_zero, Act.put, List.setIfInBounds_toArray, List.set_cons_zero, List.set_cons_succ]
        refine SH.take 1 (v := ?_) rfl (by kernel_rfl) (fun _ _ _ h => h) hS0 (by rfl) ?_ ?_
        rotate_left
        ·intro w9 hS9
         have hct := (HCP.out w9 hS9).ht
         go_simp <;> (with_reducible rfl)
        simp only [List.getElem_toArray, List.getElem_cons_succ, List.getElem_cons_zero, Act.put, List.setIfInBounds_toArray, List.set_cons_zero, List.set_cons_succ]
        refine SH.take 2 (v := ?_) rfl (by kernel_rfl) (fun _ _ _ h => h) hS0 (by rfl) ?_ ?_
        rotate_left
        ·intro w9 hS9
         go_simp <;> (with_reducible rfl)
        simp only [List.getElem_toArray, List.getElem_cons_succ, List.getElem_cons_zero, Act.put, List.setIfInBounds_toArray, List.set_cons_zero, List.set_cons_succ]
        refine SH.take 3 (v := ?_) rfl (by kernel_rfl) (fun _ _ _ h => h) hS0 (by rfl) ?_ ?_
        rotate_left
        ·intro w9 hS9
         go_simp <;> (with_reducible rfl)
        simp only [List.getElem_toArray, List.getElem_cons_succ, List.getElem_cons_zero, Act.put, List.setIfInBounds_toArray, List.set_cons_zero, List.set_cons_succ]
        refine SH.take 4 (v := ?_) rfl (by kernel_rfl) (fun _ _ _ h => h) hS0 (by rfl) ?_ ?_
        rotate_left
        ·intro w9 hS9
         have h4 := HK9.out w9 hS9
         go_simp <;> (with_reducible rfl)
        simp only [List.getElem_toArray, List.getElem_cons_succ, List.getElem_cons_zero, Act.put, List.setIfInBounds_toArray, List.set_cons_zero, List.set_cons_succ]
        refine SH.act 5 rfl (by kernel_rfl) ?_
        intro K hK
        go_simp
        refine (HTO.out _ hS0).mono ?_
        rintro e w6 ⟨rfl, rfl⟩
        refine hK _ _ (fun _ => hS0) ?_
        clear hK K
        refine SH.pure 6 (v := ?_) rfl (by kernel_rfl) rfl (fun _ _ _ h => h) (by rfl) ?_ ?_
        rotate_left
        ·intro w9
         go_simp <;> (with_reducible rfl)
        simp only [List.getElem_toArray, List.getElem_cons_succ, List.getElem_cons_zero, Act.put, List.setIfInBounds_toArray, List.set_cons_zero, List.set_cons_succ]
        have HYD := Aside0.mk (HY.out.step hS0)
        have h4 := (blk_cell HYD.out.hi 1).trans HXK.out
        have q4 := blk_frozen HYD.out.hi 1
        refine SH.act 7 rfl (by kernel_rfl) ?_
        intro K hK
        go_simp
        refine hK _ _ (fun h => by simp at h) ?_
        clear hK K
        refine SH.done (by kernel_rfl) ?_
        have HY2 := Aside0.mk (HYD.out.put 1 (.int .i64 v))
        rw [HS.out] at HY2
        clear HYD h4 q4 hS0
        go_wp2
        go_roundg (3 - 1)
        case measure => omega
        case rel => exact ⟨1, by decide, Nat.le_refl _, by go_num, HY2⟩
       ·rw [hus] at uk
        have HS := Aside0.mk (ren3_n0 (rnP pl most) i A7 c7 A8 c8 hus)
        clear hus
        go_wp2
        go_roundg (3 - 1)
        case measure => omega
        case rel => exact ⟨1, by decide, Nat.le_refl _, by go_num, ⟨by rw [<- HS.out]; exact HY.out⟩⟩
      ·obtain rfl : k = 1 := hk
       have uk := (blk_cell HY.out.hu 1).trans (show _ = some (Value.bool (us1 i.f0)) from rfl)
       have ik : ∀ W, (Instr.index 87 (.agg #[.pointer (some ⟨gi, 1, none⟩), .pointer (some ⟨gi, 2, none⟩), .pointer (some ⟨gi, 3, none⟩)]) (.int .i64 1)).run Tryd.prog W = .ok (.pointer (some ⟨gi, 2, none⟩)) W := fun _ => by kernel_rfl
       obtain hus | hus : us1 i.f0 = true ∨ us1 i.f0 = false := by cases us1 i.f0 <;> simp
       ·rw [hus] at uk
        have HS := Aside0.mk (ren3_s1 (rnP pl most) i A7 c7 A8 c8 hus)
        obtain ⟨r, hr, hrl⟩ := HIF.out.a hus
        have HXK := Aside0.mk (ren3_a1 (rnP pl most) i A7 c7 A8 c8)
        rw [hr] at HXK HS
        have HCP := Aside0.mk (fun W9 (hb : Below wr.heap.size wr W9) => HE.out W9 ((HX.out.kp.then_ (Kp.below (below_step HY.out.below hb) (fun _ => False)) (fun _ h => h) (fun _ h => h.elim))))
        have HTO := Aside0.mk (fun W9 (hb : Below wr.heap.size wr W9) => to_calls (HCP.out W9 hb) (r : Int) (by omega) (by omega) (by have := HM.out; omega) HL.out)
        generalize rnP pl most (r : Int) = v at HS HTO
        clear hus hr hrl
        have HK9 := Aside0.mk (fun (w9 : World) (hb : Below wr.heap.size wr w9) => (show w9.cell? ⟨gi, 2, none⟩ = some (.int .i64 (r : Int)) from (blk_cell (HY.out.step hb).hi 2).trans HXK.out))
        have hS0 : Below wr.heap.size wr wr.drew := below_drew (Below.refl _ _)
        go_upto_region 14 with (fail)
        refine sh_start (fun w9 => Below wr.heap.size wr w9) (fun k => decide (k < 6)) (by kernel_rfl) ?_
        refine SH.take 0 (v := ?_) rfl (by kernel_rfl) (fun _ _ _ h => h) hS0 (by rfl) ?_ ?_
        rotate_left
        ·intro w9 hS9
         go_simp <;> (with_reducible rfl)
        simp only [List.getElem_toArray, List.getElem_cons_succ, List.getElem_cons_zero, Act.put, List.setIfInBounds_toArray, List.set_cons_zero, List.set_cons_succ]
        refine SH.take 1 (v := ?_) rfl (by kernel_rfl) (fun _ _ _ h => h) hS0 (by rfl) ?_ ?_
        rotate_left
        ·intro w9 hS9
         have hct := (HCP.out w9 hS9).ht
         go_simp <;> (with_reducible rfl)
        simp only [List.getElem_toArray, List.getElem_cons_succ, List.getElem_cons_zero, Act.put, List.setIfInBounds_toArray, List.set_cons_zero, List.set_cons_succ]
        refine SH.take 2 (v := ?_) rfl (by kernel_rfl) (fun _ _ _ h => h) hS0 (by rfl) ?_ ?_
        rotate_left
        ·intro w9 hS9
         go_simp <;> (with_reducible rfl)
        simp only [List.getElem_toArray, List.getElem_cons_succ, List.getElem_cons_zero, Act.put, List.setIfInBounds_toArray, List.set_cons_zero, List.set_cons_succ]
        refine SH.take 3 (v := ?_) rfl (by kernel_rfl) (fun _ _ _ h => h) hS0 (by rfl) ?_ ?_
        rotate_left
        ·intro w9 hS9
         go_simp <;> (with_reducible rfl)
        simp only [List.getElem_toArray, List.getElem_cons_succ, List.getElem_cons_zero, Act.put, List.setIfInBounds_toArray, List.set_cons_zero, List.set_cons_succ]
        refine SH.take 4 (v := ?_) rfl (by kernel_rfl) (fun _ _ _ h => h) hS0 (by rfl) ?_ ?_
        rotate_left
        ·intro w9 hS9
         have h4 := HK9.out w9 hS9
         go_simp <;> (with_reducible rfl)
        simp only [List.getElem_toArray, List.getElem_cons_succ, List.getElem_cons_zero, Act.put, List.setIfInBounds_toArray, List.set_cons_zero, List.set_cons_succ]
        refine SH.act 5 rfl (by kernel_rfl) ?_
        intro K hK
        go_simp
        refine (HTO.out _ hS0).mono ?_
        rintro e w6 ⟨rfl, rfl⟩
        refine hK _ _ (fun _ => hS0) ?_
        clear hK K
        refine SH.pure 6 (v := ?_) rfl (by kernel_rfl) rfl (fun _ _ _ h => h) (by rfl) ?_ ?_
        rotate_left
        ·intro w9
         go_simp <;> (with_reducible rfl)
        simp only [List.getElem_toArray, List.getElem_cons_succ, List.getElem_cons_zero, Act.put, List.setIfInBounds_toArray, List.set_cons_zero, List.set_cons_succ]
        have HYD := Aside0.mk (HY.out.step hS0)
        have h4 := (blk_cell HYD.out.hi 2).trans HXK.out
        have q4 := blk_frozen HYD.out.hi 2
        refine SH.act 7 rfl (by kernel_rfl) ?_
        intro K hK
        go_simp
        refine hK _ _ (fun h => by simp at h) ?_
        clear hK K
        refine SH.done (by kernel_rfl) ?_
        have HY2 := Aside0.mk (HYD.out.put 2 (.int .i64 v))
        rw [HS.out] at HY2
        clear HYD h4 q4 hS0
        go_wp2
        go_roundg (3 - 2)
        case measure => omega
        case rel => exact ⟨2, by decide, Nat.le_refl _, by go_num, HY2⟩
       ·rw [hus] at uk
        have HS := Aside0.mk (ren3_n1 (rnP pl most) i A7 c7 A8 c8 hus)
        clear hus
        go_wp2
        go_roundg (3 - 2)
        case measure => omega
        case rel => exact ⟨2, by decide, Nat.le_refl _, by go_num, ⟨by rw [<- HS.out]; exact HY.out⟩⟩
      ·obtain rfl : k = 2 := hk
       have uk := (blk_cell HY.out.hu 2).trans (show _ = some (Value.bool (us2 i.f0)) from rfl)
       have ik : ∀ W, (Instr.index 87 (.agg #[.pointer (some ⟨gi, 1, none⟩), .pointer (some ⟨gi, 2, none⟩), .pointer (some ⟨gi, 3, none⟩)]) (.int .i64 2)).run Tryd.prog W = .ok (.pointer (some ⟨gi, 3, none⟩)) W := fun _ => by kernel_rfl
       obtain hus | hus : us2 i.f0 = true ∨ us2 i.f0 = false := by cases us2 i.f0 <;> simp
       ·rw [hus] at uk
        have HS := Aside0.mk (ren3_s2 (rnP pl most) i A7 c7 A8 c8 hus)
        obtain ⟨r, hr, hrl⟩ := HIF.out.b hus
        have HXK := Aside0.mk (ren3_a2 (rnP pl most) i A7 c7 A8 c8)
        rw [hr] at HXK HS
        have HCP := Aside0.mk (fun W9 (hb : Below wr.heap.size wr W9) => HE.out W9 ((HX.out.kp.then_ (Kp.below (below_step HY.out.below hb) (fun _ => False)) (fun _ h => h) (fun _ h => h.elim))))
        have HTO := Aside0.mk (fun W9 (hb : Below wr.heap.size wr W9) => to_calls (HCP.out W9 hb) (r : Int) (by omega) (by omega) (by have := HM.out; omega) HL.out)
        generalize rnP pl most (r : Int) = v at HS HTO
        clear hus hr hrl
        have HK9 := Aside0.mk (fun (w9 : World) (hb : Below wr.heap.size wr w9) => (show w9.cell? ⟨gi, 3, none⟩ = some (.int .i64 (r : Int)) from (blk_cell (HY.out.step hb).hi 3).trans HXK.out))
        have hS0 : Below wr.heap.size wr wr.drew := below_drew (Below.refl _ _)
        go_upto_region 14 with (fail)
        refine sh_start (fun w9 => Below wr.heap.size wr w9) (fun k => decide (k < 6)) (by kernel_rfl) ?_
        refine SH.take 0 (v := ?_) rfl (by kernel_rfl) (fun _ _ _ h => h) hS0 (by rfl) ?_ ?_
        rotate_left
        ·intro w9 hS9
         go_simp <;> (with_reducible rfl)
        simp only [List.getElem_toArray, List.getElem_cons_succ, List.getElem_cons_zero, Act.put, List.setIfInBounds_toArray, List.set_cons_zero, List.set_cons_succ]
        refine SH.take 1 (v := ?_) rfl (by kernel_rfl) (fun _ _ _ h => h) hS0 (by rfl) ?_ ?_
        rotate_left
        ·intro w9 hS9
         have hct := (HCP.out w9 hS9).ht
         go_simp <;> (with_reducible rfl)
        simp only [List.getElem_toArray, List.getElem_cons_succ, List.getElem_cons_zero, Act.put, List.setIfInBounds_toArray, List.set_cons_zero, List.set_cons_succ]
        refine SH.take 2 (v := ?_) rfl (by kernel_rfl) (fun _ _ _ h => h) hS0 (by rfl) ?_ ?_
        rotate_left
        ·intro w9 hS9
         go_simp <;> (with_reducible rfl)
        simp only [List.getElem_toArray, List.getElem_cons_succ, List.getElem_cons_zero, Act.put, List.setIfInBounds_toArray, List.set_cons_zero, List.set_cons_succ]
        refine SH.take 3 (v := ?_) rfl (by kernel_rfl) (fun _ _ _ h => h) hS0 (by rfl) ?_ ?_
        rotate_left
        ·intro w9 hS9
         go_simp <;> (with_reducible rfl)
        simp only [List.getElem_toArray, List.getElem_cons_succ, List.getElem_cons_zero, Act.put, List.setIfInBounds_toArray, List.set_cons_zero, List.set_cons_succ]
        refine SH.take 4 (v := ?_) rfl (by kernel_rfl) (fun _ _ _ h => h) hS0 (by rfl) ?_ ?_
        rotate_left
        ·intro w9 hS9
         have h4 := HK9.out w9 hS9
         go_simp <;> (with_reducible rfl)
        simp only [List.getElem_toArray, List.getElem_cons_succ, List.getElem_cons_zero, Act.put, List.setIfInBounds_toArray, List.set_cons_zero, List.set_cons_succ]
        refine SH.act 5 rfl (by kernel_rfl) ?_
        intro K hK
        go_simp
        refine (HTO.out _ hS0).mono ?_
        rintro e w6 ⟨rfl, rfl⟩
        refine hK _ _ (fun _ => hS0) ?_
        clear hK K
        refine SH.pure 6 (v := ?_) rfl (by kernel_rfl) rfl (fun _ _ _ h => h) (by rfl) ?_ ?_
        rotate_left
        ·intro w9
         go_simp <;> (with_reducible rfl)
        simp only [List.getElem_toArray, List.getElem_cons_succ, List.getElem_cons_zero, Act.put, List.setIfInBounds_toArray, List.set_cons_zero, List.set_cons_succ]
        have HYD := Aside0.mk (HY.out.step hS0)
        have h4 := (blk_cell HYD.out.hi 3).trans HXK.out
        have q4 := blk_frozen HYD.out.hi 3
        refine SH.act 7 rfl (by kernel_rfl) ?_
        intro K hK
        go_simp
        refine hK _ _ (fun h => by simp at h) ?_
        clear hK K
        refine SH.done (by kernel_rfl) ?_
        have HY2 := Aside0.mk (HYD.out.put 3 (.int .i64 v))
        rw [HS.out] at HY2
        clear HYD h4 q4 hS0
        go_wp2
        go_roundg (3 - 3)
        case measure => omega
        case rel => exact ⟨3, by decide, Nat.le_refl _, by go_num, HY2⟩
       ·rw [hus] at uk
        have HS := Aside0.mk (ren3_n2 (rnP pl most) i A7 c7 A8 c8 hus)
        clear hus
        go_wp2
        go_roundg (3 - 3)
        case measure => omega
        case rel => exact ⟨3, by decide, Nat.le_refl _, by go_num, ⟨by rw [<- HS.out]; exact HY.out⟩⟩
      ·obtain rfl : k = 3 := hk
       have HCP := Aside0.mk (fun W9 (hb : Below wr.heap.size wr W9) => HE.out W9 ((HX.out.kp.then_ (Kp.below (below_step HY.out.below hb) (fun _ => False)) (fun _ h => h) (fun _ h => h.elim))))
       have HL7 := Aside0.mk (fun W9 (hb : Below wr.heap.size wr W9) => list_calls (HCP.out W9 hb) (by have := HM.out; omega) HL.out A7 c7 i.f7 (Kd.C_below HIC.out.a7 (below_step HY.out.below hb)) HIC.out.r7 HIC.out.l7)
       have HL8 := Aside0.mk (fun W9 (hb : Below wr.heap.size wr W9) => list_calls (HCP.out W9 hb) (by have := HM.out; omega) HL.out A8 c8 i.f8 (Kd.C_below HIC.out.a8 (below_step HY.out.below hb)) HIC.out.r8 (by have := HI8.out; omega))
       have HK9 := Aside0.mk (fun (w9 : World) (hb : Below wr.heap.size wr w9) => (show w9.cell? ⟨gi, 7, none⟩ = some (.slice A7 i.f7.length c7) /\ w9.cell? ⟨gi, 8, none⟩ = some (.slice A8 i.f8.length c8) from ⟨(blk_cell (HY.out.step hb).hi 7).trans rfl, (blk_cell (HY.out.step hb).hi 8).trans rfl⟩))
       have hS0 : Below wr.heap.size wr wr.drew := below_drew (Below.refl _ _)
       go_upto_region 17 with (fail)
       refine sh_start (fun w9 => Below wr.heap.size wr w9) (fun k => decide (k < 8)) (by kernel_rfl) ?_
       refine SH.take 0 (v := ?_) rfl (by kernel_rfl) (fun _ _ _ h => h) hS0 (by rfl) ?_ ?_
       rotate_left
       ·intro w9 hS9
        go_simp <;> (with_reducible rfl)
       simp only [List.getElem_toArray, List.getElem_cons_succ, List.getElem_cons_zero, Act.put, List.setIfInBounds_toArray, List.set_cons_zero, List.set_cons_succ]
       refine SH.take 1 (v := ?_) rfl (by kernel_rfl) (fun _ _ _ h => h) hS0 (by rfl) ?_ ?_
       rotate_left
       ·intro w9 hS9
        go_simp <;> (with_reducible rfl)
       simp only [List.getElem_toArray, List.getElem_cons_succ, List.getElem_cons_zero, Act.put, List.setIfInBounds_toArray, List.set_cons_zero, List.set_cons_succ]
       refine SH.take 2 (v := ?_) rfl (by kernel_rfl) (fun _ _ _ h => h) hS0 (by rfl) ?_ ?_
       rotate_left
       ·intro w9 hS9
        have h4 := (HK9.out w9 hS9).1
        go_simp <;> (with_reducible rfl)
       simp only [List.getElem_toArray, List.getElem_cons_succ, List.getElem_cons_zero, Act.put, List.setIfInBounds_toArray, List.set_cons_zero, List.set_cons_succ]
       refine SH.take 4 (v := ?_) rfl (by kernel_rfl) (fun _ _ _ h => h) hS0 (by rfl) ?_ ?_
       rotate_left
       ·intro w9 hS9
        go_simp <;> (with_reducible rfl)
       simp only [List.getElem_toArray, List.getElem_cons_succ, List.getElem_cons_zero, Act.put, List.setIfInBounds_toArray, List.set_cons_zero, List.set_cons_succ]
       refine SH.take 5 (v := ?_) rfl (by kernel_rfl) (fun _ _ _ h => h) hS0 (by rfl) ?_ ?_
       rotate_left
       ·intro w9 hS9
        go_simp <;> (with_reducible rfl)
       simp only [List.getElem_toArray, List.getElem_cons_succ, List.getElem_cons_zero, Act.put, List.setIfInBounds_toArray, List.set_cons_zero, List.set_cons_succ]
       refine SH.take 6 (v := ?_) rfl (by kernel_rfl) (fun _ _ _ h => h) hS0 (by rfl) ?_ ?_
       rotate_left
       ·intro w9 hS9
        have h4 := (HK9.out w9 hS9).2
        go_simp <;> (with_reducible rfl)
       simp only [List.getElem_toArray, List.getElem_cons_succ, List.getElem_cons_zero, Act.put, List.setIfInBounds_toArray, List.set_cons_zero, List.set_cons_succ]
       refine SH.act 3 rfl (by kernel_rfl) ?_
       intro K hK
       go_simp
       refine (HL7.out _ hS0).mono ?_
       rintro e w6 ⟨B7, d7, rfl, hr7, hb7⟩
       have hS1 : Below wr.heap.size wr w6 := below_step hS0 hb7
       refine hK _ _ (fun _ => hS1) ?_
       clear hK K
       refine SH.act 7 rfl (by kernel_rfl) ?_
       intro K hK
       go_simp
       refine (HL8.out _ hS1).mono ?_
       rintro e w7 ⟨B8, d8, rfl, hr8, hb8⟩
       have hS2 : Below wr.heap.size wr w7 := below_step hS1 hb8
       refine hK _ _ (fun _ => hS2) ?_
       clear hK K
       have HY7 := Aside0.mk (HY.out.step hS2)
       have HR7 := Aside0.mk (Kd.R_below hr7 hb8)
       have HR8 := Aside0.mk hr8
       have HS6 := Aside0.mk (show wo.heap.size <= wr.drew.heap.size /\ wo.heap.size <= w6.heap.size from ⟨Nat.le_trans HY.out.below.size hS0.size, Nat.le_trans HY.out.below.size hS1.size⟩)
       clear hr7 hr8 hb7 hb8 hS0 hS1 hS2
       refine SH.pure 8 (v := ?_) rfl (by kernel_rfl) rfl (fun _ _ _ h => h) (by rfl) ?_ ?_
       rotate_left
       ·intro w9
        go_simp <;> (with_reducible rfl)
       simp only [List.getElem_toArray, List.getElem_cons_succ, List.getElem_cons_zero, Act.put, List.setIfInBounds_toArray, List.set_cons_zero, List.set_cons_succ]
       have h4 := (blk_cell HY7.out.hi 7).trans (show _ = some (Value.slice A7 i.f7.length c7) from rfl)
       have q4 := blk_frozen HY7.out.hi 7
       refine SH.act 9 rfl (by kernel_rfl) ?_
       intro K hK
       go_simp
       refine hK _ _ (fun h => by simp at h) ?_
       clear hK K h4 q4
       have HY8 := Aside0.mk (HY7.out.put 7 (.slice B7 i.f7.length d7))
       refine SH.pure 10 (v := ?_) rfl (by kernel_rfl) rfl (fun _ _ _ h => h) (by rfl) ?_ ?_
       rotate_left
       ·intro w9
        go_simp <;> (with_reducible rfl)
       simp only [List.getElem_toArray, List.getElem_cons_succ, List.getElem_cons_zero, Act.put, List.setIfInBounds_toArray, List.set_cons_zero, List.set_cons_succ]
       have h4 := (blk_cell HY8.out.hi 8).trans (show _ = some (Value.slice A8 i.f8.length c8) from rfl)
       have q4 := blk_frozen HY8.out.hi 8
       refine SH.act 11 rfl (by kernel_rfl) ?_
       intro K hK
       go_simp
       refine hK _ _ (fun h => by simp at h) ?_
       clear hK K h4 q4
       refine SH.done (by kernel_rfl) ?_
       have HY9 := Aside0.mk (HY8.out.put 8 (.slice B8 i.f8.length d8))
       rw [ren_fin] at HY9
       have HR7c := Aside0.mk (Kd.R_set (Kd.R_set HR7.out HY7.out.hi (by decide) 7 (.slice B7 i.f7.length d7)) HY8.out.hi (by decide) 8 (.slice B8 i.f8.length d8))
       have HR8c := Aside0.mk (Kd.R_set (Kd.R_set HR8.out HY7.out.hi (by decide) 7 (.slice B7 i.f7.length d7)) HY8.out.hi (by decide) 8 (.slice B8 i.f8.length d8))
       have HXC2 := Aside0.mk (HX.out.step HY9.out.below)
       have HM7 := Aside0.mk (show k44.M (World.setCell (World.setCell w7 ⟨gi, 7, none⟩ (.slice B7 i.f7.length d7)) ⟨gi, 8, none⟩ (.slice B8 i.f8.length d8)) W2.heap.size (fun k => wo.heap.size <= k) (renI (rnP pl most) i) [.int .i64 (renI (rnP pl most) i).f0, .int .i64 (renI (rnP pl most) i).f1, .int .i64 (renI (rnP pl most) i).f2, .int .i64 (renI (rnP pl most) i).f3, .int .u64 (renI (rnP pl most) i).f4, .int .i64 (renI (rnP pl most) i).f5, .string (renI (rnP pl most) i).f6, .slice B7 i.f7.length d7, .slice B8 i.f8.length d8, .int .i64 (renI (rnP pl most) i).f9] from
        k44_mkM _ _ _ _ (Kd.R_mono (Kd.R_lower (Kd.R_bound HR7c.out) (Nat.le_trans HX.out.kp.size HS6.out.1)) (fun k hk => Nat.le_trans HS6.out.1 hk.2.1)) (Kd.R_mono (Kd.R_lower (Kd.R_bound HR8c.out) (Nat.le_trans HX.out.kp.size HS6.out.2)) (fun k hk => Nat.le_trans HS6.out.2 hk.2.1)))
       have hl7 : (renI (rnP pl most) i).f7.length = i.f7.length := by unfold renI; simp
       have hl8 : (renI (rnP pl most) i).f8.length = i.f8.length := by unfold renI; simp
       have HIB := Aside0.mk (show (World.setCell (World.setCell w7 ⟨gi, 7, none⟩ (.slice B7 i.f7.length d7)) ⟨gi, 8, none⟩ (.slice B8 i.f8.length d8)).heap[gi]? = some (.cells #[.int .i64 (renI (rnP pl most) i).f0, .int .i64 (renI (rnP pl most) i).f1, .int .i64 (renI (rnP pl most) i).f2, .int .i64 (renI (rnP pl most) i).f3, .int .u64 (renI (rnP pl most) i).f4, .int .i64 (renI (rnP pl most) i).f5, .string (renI (rnP pl most) i).f6, .slice B7 i.f7.length d7, .slice B8 i.f8.length d8, .int .i64 (renI (rnP pl most) i).f9] 44 (0, 0)) by
        have h := HY9.out.hi
        unfold icOf at h
        rw [hl7, hl8] at h
        exact h)
       have HOWN := Aside0.mk (show ∀ k, (Value.slice Ac q cc).ownBlock = some k -> k < wo.heap.size from fun k e => by
        obtain ⟨inner, ho⟩ := Kd.R_own HX.out.row
        exact own_lt ho k e)
       clear HR7c HR8c HR7 HR8 HY7 HY8 HY9 HL7 HL8 HK9 hl7 hl8
       generalize (renI (rnP pl most) i) = x at HM7 HIB HTK
       generalize World.setCell (World.setCell w7 ⟨gi, 7, none⟩ (.slice B7 i.f7.length d7)) ⟨gi, 8, none⟩ (.slice B8 i.f8.length d8) = wc at HXC2 HM7 HIB ⊢
       have x4 := (blk_cell HXC2.out.hg 4).trans (show _ = some (Value.slice Ac q cc) from rfl)
       have HLQ := Aside0.mk (show ((f.code.take q).map (renI (rnP pl most))).length <= 1000 by rw [List.length_map, List.length_take]; have := HCL.out; omega)
       have HLE := Aside0.mk (show ((f.code.take q).map (renI (rnP pl most))).length = q by rw [List.length_map, List.length_take]; omega)
       generalize (f.code.take q).map (renI (rnP pl most)) = cds at HXC2 HTK HLQ HLE
       go_wp2_with (first | ((with_reducible refine gate_dst (N := 76) rfl ?_); refine wpList_load_row rfl 44 _ rfl gi rfl 44 #[.int .i64 x.f0, .int .i64 x.f1, .int .i64 x.f2, .int .i64 x.f3, .int .u64 x.f4, .int .i64 x.f5, .string x.f6, .slice B7 i.f7.length d7, .slice B8 i.f8.length d8, .int .i64 x.f9] (0, 0) _ HIB.out hu44 rfl (by kernel_rfl) ?_) | ((with_reducible refine gate_builtin (b := .append) (xs := #[.tmp 75, .tmp 77]) rfl ?_); at_builtin; refine Kd.R_append k44 (w0 := wc) W2.heap.size rfl (.tmp 75) (.tmp 77) 23 44 (.agg #[.int .i64 0, .int .i64 0, .int .i64 0, .int .i64 0, .int .u64 0, .int .i64 0, .string ⟨#[]⟩, .slice none 0 0, .slice none 0 0, .int .i64 0]) 120 rfl Tryd.underlying23 info44z rfl (by decide) (by omega) (.slice Ac q cc) cds x [.int .i64 x.f0, .int .i64 x.f1, .int .i64 x.f2, .int .i64 x.f3, .int .u64 x.f4, .int .i64 x.f5, .string x.f6, .slice B7 i.f7.length d7, .slice B8 i.f8.length d8, .int .i64 x.f9] (fun _ => True) (fun k => wo.heap.size <= k) rfl rfl ?aP (fun k hk => ⟨trivial, fun e => by have := HOWN.out k e.symm; omega⟩) ?aF ?aO ?aB ?aS ?aL ?_; (case aP => exact HM7.out); (case aB => exact (Below.refl _ _)); (case aF => exact (fun _ _ => trivial)); (case aO => exact HXC2.out.row); (case aS => exact HXC2.out.kp.size); (case aL => have := HLQ.out; omega); intro v1 w9 ho hb hg hat; obtain ⟨A1, c1, e1⟩ := Kd.R_slice ho; subst e1; have HO := Aside0.mk ho; have HGR := Aside0.mk hg; have g9 := (hg.block gg (blk_lt HXC2.out.hg) (Kd.R_ne HXC2.out.row HXC2.out.hg (by decide))).trans HXC2.out.hg; have q4 := blk_frozen g9 4; have x4 := (blk_cell g9 4).trans (show _ = some (Value.slice Ac q cc) from rfl); clear ho hb hg hat g9))
       rw [<- HEA.out]
       go_roundg (f.code.length - (q + 1))
       case measure => omega
       case rel =>
        have hE : (cds ++ [x]).length = q + 1 := by rw [List.length_append, HLE.out]; rfl
        refine ⟨q + 1, A1, c1, by omega, Nat.le_refl _, by go_num, ⟨?_⟩⟩
        have h := HO.out
        rw [hE] at h
        rw [HTK.out, HLE.out]
        exact HXC2.out.put h HGR.out (by decide) (by decide) 4 _
    ·obtain rfl : q = f.code.length := by omega
     have HXE := Aside0.mk (show Sz k44 44 W2 wo gg (fnc f.nm (.slice none 0 0) (.slice Ak j ck) (.slice f.A3 f.l3.length f.c3) (.slice Ac f.code.length cc)) (.slice Ac f.code.length cc) (f.code.map (renI (rnP pl most))) by have h := HX.out; rwa [List.take_length] at h)
     have hgs := HGG.out
     have HRB := Aside0.mk (far_typed HXE.out.kp (HBW.out (w.heap.size + 3) (by omega) _ H4.out.2.2.2.1) (by omega))
     clear hgs
     go_wp2_with (first | ((with_reducible refine gate_dst (N := 81) rfl ?_); refine wpList_load_row rfl 25 _ rfl gg rfl 25 #[.string f.nm, .slice none 0 0, .slice Ak j ck, .slice f.A3 f.l3.length f.c3, .slice Ac f.code.length cc] (0, 0) _ HXE.out.hg hu25 rfl (by kernel_rfl) ?_) | ((with_reducible refine gate_store (t := 25) (p := 6) rfl ?_); refine storeK 25 5 info25s _ _ rfl rfl rfl (w.heap.size + 3) rfl #[.string f.nm, .slice none 0 0, .slice Ak j ck, .slice f.A3 f.l3.length f.c3, .slice Ac f.code.length cc] rfl _ HRB.out rfl rfl (by simp [Value.oneCell']) ?_; intro W9 h9 hk9))
     refine bodyPost_ret (results_cell_row rfl _ _ (w.heap.size + 3) 25 _ (0, 0) _ rfl h9 hu25 rfl (by kernel_rfl)) rfl ?_
     rw [HNE.out]
     exact sh_post HFN.out HXF.out HXE.out (HB0.out _ HXE.out.kp) HRB.out hk9
end Go.Proofs.YtjfleaekljapeaaDoor.K
