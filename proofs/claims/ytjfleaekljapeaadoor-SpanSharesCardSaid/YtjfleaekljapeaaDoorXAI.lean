import Derived.Test.YtjfleaekljapeaaDoorXAH
import Derived.Deep.DeepMust
import Derived.Test.YtjfleaekljapeaaDoorProg
import Derived.Below
import Derived.Deep.Draws
import Derived.Deep.AppendLies
import Derived.Maps.AppendAt
import Derived.OwnWalk
import Derived.Laws.BytesArg
import Derived.Laws.MakeOwn
import Derived.Laws.OwnMore
import Derived.Deep.OwnRows
import Derived.Tactics
import Derived.Lib.ConvBytes
import Derived.Laws.Slices
import Derived.WalkKit
import Derived.KernelRfl
import Derived.RowKit3
import Derived.Deep.LoopGhost
import Derived.Deep.QuietTactic
import Derived.BigQuiet
import Derived.WideLaws
import Derived.Deep.DeepCutAuto
import Derived.Deep.CutBlock
import Derived.Deep.RegionHeld3
import Derived.Deep.MidRow
import Derived.Laws.Tables
import Derived.StillTailTactics
import Derived.Laws.Rows
import Derived.Lib.AppendStr
import Derived.ArgAppend
import Derived.Laws.IdiomCopy
import Derived.OrdersHeld
import Derived.Laws.BitsLemmas
import Derived.Laws.BitsAllLaws
import Derived.RowKit
import Derived.RegionTactic
import Derived.Deep.RegionWith
import Derived.Lib.Hide
import Derived.Test.YtjfleaekljapeaaDoorXAA
import Derived.Test.YtjfleaekljapeaaDoorXAB
import Derived.Test.YtjfleaekljapeaaDoorXAC
import Derived.Deep.RegionLaw
import Derived.Laws.CopyOwn
import Derived.Shelf.Spec.TrailingZeros
namespace Go.Proofs.YtjfleaekljapeaaDoor.K
open Go.RowKit Go.Proofs.YtjfleaekljapeaaDoorW.PrintWords Go.Proofs.YtjfleaekljapeaaDoorW.PrintLast Go.Proofs.YtjfleaekljapeaaDoorW.PrintMore
attribute [local go_sem] max2_int min2_int max_two min_two max_three min_three max_four min_four   -- for this text's walks alone
set_option linter.unusedVariables false
set_option linter.unusedSimpArgs false
set_option linter.unusedSectionVars false
section
theorem tri_new (w : World) (a b c : Obj) : ((((w.alloc a).alloc b).alloc c).heap[w.heap.size]? = some a /\ (((w.alloc a).alloc b).alloc c).heap[w.heap.size + 1]? = some b /\ (((w.alloc a).alloc b).alloc c).heap[w.heap.size + 2]? = some c) /\ Below w.heap.size w (((w.alloc a).alloc b).alloc c) := by
 have h1 : Below (w.alloc a).heap.size (w.alloc a) (((w.alloc a).alloc b).alloc c) := two_below _ _ _
 have e1 : (w.alloc a).heap.size = w.heap.size + 1 := by simp
 refine ⟨⟨blk_below (heap_alloc_new w a) h1, ?_, ?_⟩, below_step ((Below.refl _ _).alloc (Nat.le_refl _) _) h1⟩
 ·have := blk_below (heap_alloc_new (w.alloc a) b) ((Below.refl _ _).alloc (Nat.le_refl _) c)
  rw [e1] at this
  exact this
 ·have := two_new (w.alloc a) b c
  rw [e1] at this
  exact this
structure Px (w W : World) (row : Option Nat) (cs ic : Array Value) : Prop where
 bx : Bx w W row w.heap.size (w.heap.size + 2) cs z95
 hi : W.heap[w.heap.size + 1]? = some (.cells ic 44 (0, 0))
theorem Px.new (w : World) (row : Option Nat) (cs ic : Array Value) : Px w (((w.alloc (.cells cs 95)).alloc (.cells ic 44)).alloc (.cells z95 95)) row cs ic :=
 have h := tri_new w (.cells cs 95) (.cells ic 44) (.cells z95 95)
 ⟨⟨h.1.1, h.1.2.2, rfl, by omega, Nat.le_refl _, by omega, below_gb _ h.2⟩, h.1.2.1⟩
theorem Px.put {w W : World} {row : Option Nat} {cs ic : Array Value} (h : Px w W row cs ic) (j : Nat) (v : Value) : Px w (W.setCell ⟨w.heap.size, j, none⟩ v) row (cs.setIfInBounds j v) ic :=
 ⟨h.bx.put j v, blk_far h.hi (by show w.heap.size + 1 ≠ w.heap.size; omega) v⟩
theorem Px.grown {w W W2 : World} {row row2 : Option Nat} {cs ic : Array Value} (h : Px w W row cs ic) (hg : W.grownBy W2 row2) (n1 : some w.heap.size ≠ row2) (n2 : some (w.heap.size + 1) ≠ row2) (n3 : some (w.heap.size + 2) ≠ row2) (hr : ∀ k, k < w.heap.size -> some k ≠ row -> some k ≠ row2) : Px w W2 row cs ic :=
 ⟨h.bx.grown hg n1 n3 hr, (hg.block _ (blk_lt h.hi) n2).trans h.hi⟩
def icOf (i : S44) (A7 : Option Addr) (c7 : Nat) (A8 : Option Addr) (c8 : Nat) : Array Value := #[.int .i64 i.f0, .int .i64 i.f1, .int .i64 i.f2, .int .i64 i.f3, .int .u64 i.f4, .int .i64 i.f5, .string i.f6, .slice A7 i.f7.length c7, .slice A8 i.f8.length c8, .int .i64 i.f9]
theorem Px.step {w W W2 : World} {row : Option Nat} {cs ic : Array Value} (h : Px w W row cs ic) (hb : Below W.heap.size W W2) : Px w W2 row cs ic := ⟨h.bx.step hb, blk_below h.hi hb⟩
theorem RowSt.step {α : Type} {d : Kd α} {e : Nat} {w0 w W W2 : World} {v v' : Value} {xs : List α} (h : RowSt d e w0 w W v v' xs) (hb : Below W.heap.size W W2) : RowSt d e w0 w W2 v v' xs :=
 ⟨Kd.R_below h.row hb, gb_trans h.grown (below_gb none hb) (fun k _ _ => by simp), h.hat⟩
def by8 (x : Int) : Int := x.tmod 256 % 256
section
variable (s : SV) (i : S44) (A7 : Option Addr) (c7 : Nat) (A8 : Option Addr) (c8 : Nat) (xs : List Int) (A : Option Addr) (c : Nat) (w0 w : World)
set_option maxHeartbeats 4000000 in
set_option maxRecDepth 20000 in
theorem plain1 (hr : Kd.R (Kd.int .u64) 42 w w0.heap.size (fun _ => True) (.slice A xs.length c) xs) (d : Nat) (hop : i.f0 = 1) (hd : i.f1 = (d : Int)) (hdl : d < xs.length) :
  Calls Tryd.prog 56 #[.agg s.cs, .agg (icOf i A7 c7 A8 c8), .slice A xs.length c] w fun e w' => e = .returned (.agg s.cs) /\ RowSt (Kd.int .u64) 42 w0 w w' (.slice A xs.length c) (.slice A xs.length c) (xs.set d i.f4) := by
 have hu95 := Tryd.underlying95
 have hu44 := Tryd.underlying44
 have hu71 := Tryd.underlying71
 have HR := Aside0.mk hr
 have HI := Aside0.mk (show (icOf i A7 c7 A8 c8)[0]? = some (.int .i64 1) /\ (icOf i A7 c7 A8 c8)[1]? = some (.int .i64 (d : Int)) /\ (icOf i A7 c7 A8 c8)[4]? = some (.int .u64 i.f4) from ⟨by rw [<- hop]; rfl, by rw [<- hd]; rfl, rfl⟩)
 generalize icOf i A7 c7 A8 c8 = ic at HI
 have d0 : 0 <= (d : Int) := by omega
 have d1 : (d : Int) < (xs.length : Int) := by omega
 clear hr hop hd
 go_enter Tryd.func56, Tryd.ntmps56
 go_upto_region 1 with (fail)
 generalize hW : World.alloc (World.alloc (World.alloc w (Obj.cells s.cs 95)) (Obj.cells ic 44)) _ = W
 have HX := Aside0.mk (show Px w W (Value.slice A xs.length c).ownBlock s.cs ic by rw [<- hW]; exact Px.new w _ s.cs ic)
 have HB := Aside0.mk (show Below w.heap.size w W by rw [<- hW]; exact (tri_new w _ _ _).2)
 clear hW
 have y0 := (blk_cell HX.out.hi 0).trans HI.out.1
 have y1 := (blk_cell HX.out.hi 1).trans HI.out.2.1
 have y4 := (blk_cell HX.out.hi 4).trans HI.out.2.2
 have HS := Aside0.mk (RowSt.start HR.out HB.out)
 obtain ⟨g, cap, e1, hgb, hgl, cl, hgc⟩ := Kd.R_form HS.out.row (by omega)
 injection e1 with e1 e2 e3
 subst e1
 subst e3
 have N1 := Kd.R_ne HS.out.row HX.out.bx.hg (by decide)
 have N2 := Kd.R_ne HS.out.row HX.out.hi (by decide)
 have N3 := Kd.R_ne HS.out.row HX.out.bx.hr (by decide)
 obtain ⟨hx, hf⟩ := Kd.R_celln 0 HS.out.row (d : Int) d0 d1
 rw [Int.toNat_natCast] at hx hf
 have hp := Kd.R_putg HS.out.row (d : Int) i.f4
 rw [Int.toNat_natCast] at hp
 have HX2 := Aside0.mk (HX.out.grown hp.2 N1 N2 N3 HS.out.sep)
 have HS2 := Aside0.mk (HS.out.next hp.1 hp.2 (.inl rfl))
 clear hp N1 N2 N3 HX HS HR HI hgc
 go_wp2_with (first | ((with_reducible refine gate_dst (N := 116) rfl ?_); refine load95 _ rfl rfl _ rfl _ HX2.out.bx.hg (Cs.of s) ?_) | ((with_reducible refine gate_store (t := 95) (p := 6) rfl ?_); refine store95 _ _ rfl rfl rfl _ rfl _ rfl _ HX2.out.bx.hr HX2.out.bx.zs (Cs.of s) ?_; intro W3 h2 hfar hgr))
 refine bodyPost_ret (results_cell_row rfl _ _ (w.heap.size + 2) 95 _ (0, 0) _ rfl h2 hu95 rfl (by kernel_rfl)) rfl ?_
 exact ⟨rfl, HS2.out.box2 HX2.out.bx.hr (by decide) hfar (hgr w _ HX2.out.bx.lr HS2.out.grown)⟩
set_option maxHeartbeats 4000000 in
set_option maxRecDepth 20000 in
theorem plain2 (hr : Kd.R (Kd.int .u64) 42 w w0.heap.size (fun _ => True) (.slice A xs.length c) xs) (d a : Nat) (hop : i.f0 = 2) (hd : i.f1 = (d : Int)) (hdl : d < xs.length) (ha : i.f2 = (a : Int)) (hal : a < xs.length) :
  Calls Tryd.prog 56 #[.agg s.cs, .agg (icOf i A7 c7 A8 c8), .slice A xs.length c] w fun e w' => e = .returned (.agg s.cs) /\ RowSt (Kd.int .u64) 42 w0 w w' (.slice A xs.length c) (.slice A xs.length c) (xs.set d (rd xs a)) := by
 have HE := Aside0.mk (show rdOf (0 : Int) xs (a : Int) = rd xs a from rfl)
 generalize rd xs a = u at HE ⊢
 have hu95 := Tryd.underlying95
 have hu44 := Tryd.underlying44
 have hu71 := Tryd.underlying71
 have HR := Aside0.mk hr
 have HI := Aside0.mk (show (icOf i A7 c7 A8 c8)[0]? = some (.int .i64 2) /\ (icOf i A7 c7 A8 c8)[1]? = some (.int .i64 (d : Int)) /\ (icOf i A7 c7 A8 c8)[2]? = some (.int .i64 (a : Int)) from ⟨by rw [<- hop]; rfl, by rw [<- hd]; rfl, by rw [<- ha]; rfl⟩)
 generalize icOf i A7 c7 A8 c8 = ic at HI
 have d0 : 0 <= (d : Int) := by omega
 have d1 : (d : Int) < (xs.length : Int) := by omega
 have a0 : 0 <= (a : Int) := by omega
 have a1 : (a : Int) < (xs.length : Int) := by omega
 clear hr hop hd ha
 go_enter Tryd.func56, Tryd.ntmps56
 go_upto_region 1 with (fail)
 generalize hW : World.alloc (World.alloc (World.alloc w (Obj.cells s.cs 95)) (Obj.cells ic 44)) _ = W
 have HX := Aside0.mk (show Px w W (Value.slice A xs.length c).ownBlock s.cs ic by rw [<- hW]; exact Px.new w _ s.cs ic)
 have HB := Aside0.mk (show Below w.heap.size w W by rw [<- hW]; exact (tri_new w _ _ _).2)
 clear hW
 have y0 := (blk_cell HX.out.hi 0).trans HI.out.1
 have y1 := (blk_cell HX.out.hi 1).trans HI.out.2.1
 have y2 := (blk_cell HX.out.hi 2).trans HI.out.2.2
 have HS := Aside0.mk (RowSt.start HR.out HB.out)
 obtain ⟨g, cap, e1, hgb, hgl, cl, hgc⟩ := Kd.R_form HS.out.row (by omega)
 injection e1 with e1 e2 e3
 subst e1
 subst e3
 obtain ⟨hx, hf⟩ := Kd.R_celln 0 HS.out.row (d : Int) d0 d1
 obtain ⟨hxa, hfa⟩ := Kd.R_celln 0 HS.out.row (a : Int) a0 a1
 rw [Int.toNat_natCast] at hx hf hxa hfa
 rw [HE.out] at hxa
 have hdw : Below W.heap.size W W.drew := below_drew (Below.refl _ _)
 have HXd := HX.out.step hdw
 have HSd := HS.out.step hdw
 have hp := Kd.R_putg HSd.row (d : Int) u
 rw [Int.toNat_natCast] at hp
 have HX2 := Aside0.mk (HXd.grown hp.2 (Kd.R_ne HSd.row HXd.bx.hg (by decide)) (Kd.R_ne HSd.row HXd.hi (by decide)) (Kd.R_ne HSd.row HXd.bx.hr (by decide)) HSd.sep)
 have HS2 := Aside0.mk (HSd.next hp.1 hp.2 (.inl rfl))
 clear hp HX HS HXd HSd HR HI hgc hdw
 go_upto_region 5 with (fail)
 first | go_region_with (fail) | fail
 all_goals
  go_wp2_with (first | ((with_reducible refine gate_dst (N := 116) rfl ?_); refine load95 _ rfl rfl _ rfl _ HX2.out.bx.hg (Cs.of s) ?_) | ((with_reducible refine gate_store (t := 95) (p := 6) rfl ?_); refine store95 _ _ rfl rfl rfl _ rfl _ rfl _ HX2.out.bx.hr HX2.out.bx.zs (Cs.of s) ?_; intro W3 h2 hfar hgr))
  refine bodyPost_ret (results_cell_row rfl _ _ (w.heap.size + 2) 95 _ (0, 0) _ rfl h2 hu95 rfl (by kernel_rfl)) rfl ?_
  exact ⟨rfl, HS2.out.box2 HX2.out.bx.hr (by decide) hfar (hgr w _ HX2.out.bx.lr HS2.out.grown)⟩
set_option maxHeartbeats 4000000 in
set_option maxRecDepth 20000 in
theorem plain22 (hr : Kd.R (Kd.int .u64) 42 w w0.heap.size (fun _ => True) (.slice A xs.length c) xs) (a : Nat) (hop : i.f0 = 22) (ha : i.f2 = (a : Int)) (hal : a < xs.length) :
  Calls Tryd.prog 56 #[.agg s.cs, .agg (icOf i A7 c7 A8 c8), .slice A xs.length c] w fun e w' => e = .returned (.agg (({ s with code := by8 (rd xs a) }).stopped 1).cs) /\ Below w.heap.size w w' := by
 have HE := Aside0.mk (show rdOf (0 : Int) xs (a : Int) = rd xs a from rfl)
 generalize rd xs a = u at HE ⊢
 have hu95 := Tryd.underlying95
 have hu44 := Tryd.underlying44
 have hu71 := Tryd.underlying71
 have HR := Aside0.mk hr
 have HI := Aside0.mk (show (icOf i A7 c7 A8 c8)[0]? = some (.int .i64 22) /\ (icOf i A7 c7 A8 c8)[2]? = some (.int .i64 (a : Int)) from ⟨by rw [<- hop]; rfl, by rw [<- ha]; rfl⟩)
 generalize icOf i A7 c7 A8 c8 = ic at HI
 have a0 : 0 <= (a : Int) := by omega
 have a1 : (a : Int) < (xs.length : Int) := by omega
 clear hr hop ha
 go_enter Tryd.func56, Tryd.ntmps56
 go_upto_region 1 with (fail)
 generalize hW : World.alloc (World.alloc (World.alloc w (Obj.cells s.cs 95)) (Obj.cells ic 44)) _ = W
 have HX := Aside0.mk (show Px w W none s.cs ic by rw [<- hW]; exact Px.new w _ s.cs ic)
 have HB := Aside0.mk (show Below w.heap.size w W by rw [<- hW]; exact (tri_new w _ _ _).2)
 clear hW
 have y0 := (blk_cell HX.out.hi 0).trans HI.out.1
 have y2 := (blk_cell HX.out.hi 2).trans HI.out.2
 have HRW := Kd.R_below HR.out HB.out
 obtain ⟨g, cap, e1, hgb, hgl, cl, hgc⟩ := Kd.R_form HRW (by omega)
 injection e1 with e1 e2 e3
 subst e1
 subst e3
 obtain ⟨hxa, hfa⟩ := Kd.R_celln 0 HRW (a : Int) a0 a1
 rw [Int.toNat_natCast, HE.out] at hxa
 have x16 := (blk_cell HX.out.bx.hg 16).trans (show _ = some (Value.int .u8 s.code) from rfl)
 have q16 := blk_frozen HX.out.bx.hg 16
 clear HRW HR HI hgc hfa HB
 obtain ⟨s2, e2⟩ : ∃ s2 : SV, s2 = { s with code := u.tmod 256 % 256 } := ⟨_, rfl⟩
 have HX2 := Aside0.mk (show Px w (W.setCell ⟨w.heap.size, 16, none⟩ (.int .u8 (u.tmod 256 % 256))) none s2.cs ic by rw [e2]; exact HX.out.put 16 (.int .u8 (u.tmod 256 % 256)))
 have HE2 := Aside0.mk e2
 clear HX e2
 have HST := Aside0.mk (stop_calls s2 1)
 have HCS := Aside0.mk (Cs.of s2)
 have HCT := Aside0.mk (Cs.of (s2.stopped 1))
 go_upto_region 20 with (fail)
 generalize W.setCell ⟨w.heap.size, 16, none⟩ (.int .u8 (u.tmod 256 % 256)) = W2 at HX2 ⊢
 go_wp2_with (first | ((with_reducible refine gate_dst (N := 114) rfl ?_); refine load95 _ rfl rfl _ rfl _ HX2.out.bx.hg HCS.out ?_) | (go_at_call 53; (with_reducible refine (HST.out _).mono ?_); rintro e W3 ⟨rfl, hb⟩; have HX3 := Aside0.mk (HX2.out.step hb); clear HX2 hb) | ((with_reducible refine gate_store (t := 95) (p := 6) rfl ?_); refine store95 _ _ rfl rfl rfl _ rfl _ rfl _ HX3.out.bx.hr HX3.out.bx.zs HCT.out ?_; intro W4 h2 hfar hgr))
 refine bodyPost_ret (results_cell_row rfl _ _ (w.heap.size + 2) 95 _ (0, 0) _ rfl h2 hu95 rfl (by kernel_rfl)) rfl ?_
 exact ⟨by rw [HE2.out]; rfl, gb_none (hgr w none HX3.out.bx.lr HX3.out.bx.gr)⟩
end
end
section
def SV.outS (s : SV) (A : Option Addr) (n c : Nat) : SV := { s with a8 := A, n8 := n, c8 := c }
section
variable (s : SV) (i : S44) (A7 : Option Addr) (c7 : Nat) (A8 : Option Addr) (c8 : Nat) (xs : List Int) (A : Option Addr) (c : Nat) (w0 w : World)
set_option maxHeartbeats 4000000 in
set_option maxRecDepth 20000 in
theorem plain20 (hr : Kd.R (Kd.int .u64) 42 w w0.heap.size (fun _ => True) (.slice A xs.length c) xs) (a : Nat) (out : List Int) (ho : Kd.R (Kd.int .u8) 5 w w0.heap.size (fun _ => True) (.slice s.a8 s.n8 s.c8) out) (hB : Below w0.heap.size w0 w) (hol : out.length <= 4194304) (hop : i.f0 = 20) (ha : i.f2 = (a : Int)) (hal : a < xs.length) :
  Calls Tryd.prog 56 #[.agg s.cs, .agg (icOf i A7 c7 A8 c8), .slice A xs.length c] w fun e w' => ∃ A2 c2, e = .returned (.agg (s.outS A2 (out.length + 1) c2).cs) /\ RowSt (Kd.int .u8) 5 w0 w w' (.slice s.a8 s.n8 s.c8) (.slice A2 (out.length + 1) c2) (out ++ [by8 (rd xs a)]) /\ Below w0.heap.size w0 w' := by
 have HE := Aside0.mk (show rdOf (0 : Int) xs (a : Int) = rd xs a from rfl)
 generalize rd xs a = u at HE ⊢
 have hu95 := Tryd.underlying95
 have hu44 := Tryd.underlying44
 have hu71 := Tryd.underlying71
 have HI := Aside0.mk (show (icOf i A7 c7 A8 c8)[0]? = some (.int .i64 20) /\ (icOf i A7 c7 A8 c8)[2]? = some (.int .i64 (a : Int)) from ⟨by rw [<- hop]; rfl, by rw [<- ha]; rfl⟩)
 generalize icOf i A7 c7 A8 c8 = ic at HI
 have HR := Aside0.mk hr
 have HO := Aside0.mk ho
 have HB0 := Aside0.mk hB
 have HOL := Aside0.mk hol
 have HZ := Aside0.mk hB.size
 have a0 : 0 <= (a : Int) := by omega
 have a1 : (a : Int) < (xs.length : Int) := by omega
 clear hr ho hB hop ha hol
 go_enter Tryd.func56, Tryd.ntmps56
 go_upto_region 1 with (fail)
 generalize hW : World.alloc (World.alloc (World.alloc w (Obj.cells s.cs 95)) (Obj.cells ic 44)) _ = W
 have HX := Aside0.mk (show Px w W (Value.slice s.a8 s.n8 s.c8).ownBlock s.cs ic by rw [<- hW]; exact Px.new w _ s.cs ic)
 have HB := Aside0.mk (show Below w.heap.size w W by rw [<- hW]; exact (tri_new w _ _ _).2)
 clear hW
 have HRW := Kd.R_below HR.out HB.out
 obtain ⟨g, cap, e1, hgb, hgl, cl, hgc⟩ := Kd.R_form HRW (by omega)
 injection e1 with e1 e2 e3
 subst e1
 subst e3
 obtain ⟨hxa, hfa⟩ := Kd.R_celln 0 HRW (a : Int) a0 a1
 rw [Int.toNat_natCast, HE.out] at hxa
 have hdw : Below W.heap.size W W.drew := below_drew (Below.refl _ _)
 have y0 := (blk_cell HX.out.hi 0).trans HI.out.1
 have y2 := (blk_cell HX.out.hi 2).trans HI.out.2
 have x11 := (blk_cell HX.out.bx.hg 11).trans (show _ = some (Value.slice s.a8 s.n8 s.c8) from rfl)
 have x11b : ∀ O : Obj, (W.alloc O).cell? ⟨w.heap.size, 11, none⟩ = some (Value.slice s.a8 s.n8 s.c8) := fun O => pw_cell_below ((Below.refl _ _).alloc (Nat.le_refl _) O) x11
 have HXd := Aside0.mk (HX.out.step hdw)
 have HSd := Aside0.mk ((RowSt.start HO.out HB.out).step hdw)
 have HBd := Aside0.mk (below_step (below_step HB0.out HB.out) hdw)
 have N1 := Kd.R_ne HSd.out.row HXd.out.bx.hg (by decide)
 have N2 := Kd.R_ne HSd.out.row HXd.out.hi (by decide)
 have N3 := Kd.R_ne HSd.out.row HXd.out.bx.hr (by decide)
 clear HRW hgb hgl cl hgc HR HX HB hfa HI hdw
 go_upto_region 11 with (fail)
 first | go_region_law (rw [show (W.alloc (.cells #[.int .u8 (IntKind.u8.wrap (u.tmod 256))] 5)).drew = (W.drew).alloc (.cells [Value.int .u8 (IntKind.u8.wrap (u.tmod 256))].toArray 5) from rfl]; refine Kd.R_append_step (Kd.int .u8) (w0 := w0) w0.heap.size ?aW (.tmp 73) (.tmp 81) 60 5 (.int .u8 0) 1 ?aC Tryd.underlying60 info5 rfl (by decide) (by decide) (.slice s.a8 s.n8 s.c8) out (IntKind.u8.wrap (u.tmod 256)) [.int .u8 (IntKind.u8.wrap (u.tmod 256))] (fun _ => True) (fun _ => False) ?aV ?aX ?aP (fun _ hk => hk.elim) ?aF ?aO ?aB ?aS ?aL ?_; (case aW => rfl); (case aC => rfl); (case aV => rfl); (case aX => rfl); (case aP => exact rfl); (case aB => exact HBd.out); (case aF => exact (fun _ _ => trivial)); (case aO => exact HSd.out.row); (case aS => exact (below_size HBd.out)); (case aL => have := HOL.out; omega); intro v1 w9 ho hb hg hat; have HO9 := Aside0.mk (HSd.out.next ho hg hat); have HB9 := Aside0.mk hb; have HX9 := Aside0.mk (HXd.out.grown hg N1 N2 N3 HSd.out.sep); clear hb hg hat; obtain ⟨A1, c1, e1⟩ := Kd.R_slice ho; subst e1; clear ho; have q5 := blk_frozen HX9.out.bx.hg 11; have y5 := (blk_cell HX9.out.bx.hg 11).trans (show _ = some (Value.slice s.a8 s.n8 s.c8) from rfl)) | fail
 all_goals
  have hl1 : (out ++ [IntKind.u8.wrap (u.tmod 256)]).length = out.length + 1 := by simp
  have ho9 := HO9.out
  rw [hl1] at ho9
  have HS := Aside0.mk (ho9.box HX9.out.bx.hg (by decide) HX9.out.bx.lo 11 (.slice A1 (out.length + 1) c1))
  have HXS := Aside0.mk (show Px w (w9.setCell ⟨w.heap.size, 11, none⟩ (.slice A1 (out.length + 1) c1)) (Value.slice s.a8 s.n8 s.c8).ownBlock (s.outS A1 (out.length + 1) c1).cs ic from HX9.out.put 11 _)
  have HBS := Aside0.mk (show Below w0.heap.size w0 (w9.setCell ⟨w.heap.size, 11, none⟩ (.slice A1 (out.length + 1) c1)) from below_set HB9.out HZ.out)
  clear ho9 HO9 HX9 HB9 q5 y5 x11b x11 hl1
  go_wp2_with (first | ((with_reducible refine gate_dst (N := 116) rfl ?_); refine load95 _ rfl rfl _ rfl _ HXS.out.bx.hg (Cs.of (s.outS A1 (out.length + 1) c1)) ?_) | ((with_reducible refine gate_store (t := 95) (p := 6) rfl ?_); refine store95 _ _ rfl rfl rfl _ rfl _ rfl _ HXS.out.bx.hr HXS.out.bx.zs (Cs.of (s.outS A1 (out.length + 1) c1)) ?_; intro W3 h2 hfar hgr))
  refine bodyPost_ret (results_cell_row rfl _ _ (w.heap.size + 2) 95 _ (0, 0) _ rfl h2 hu95 rfl (by kernel_rfl)) rfl ?_
  refine ⟨A1, c1, rfl, ?_, gb_none (hgr w0 none (Nat.le_trans HZ.out HXS.out.bx.lr) (below_gb none HBS.out))⟩
  rw [show by8 u = IntKind.u8.wrap (u.tmod 256) by unfold by8; rw [IntKind.wrap_u8]]
  exact HS.out.box2 HXS.out.bx.hr (by decide) hfar (hgr w _ HXS.out.bx.lr HS.out.grown)
end
end
section
section
variable (s : SV) (i : S44) (A7 : Option Addr) (c7 : Nat) (A8 : Option Addr) (c8 : Nat) (xs : List Int) (A : Option Addr) (c : Nat) (w0 w : World)
set_option maxHeartbeats 4000000 in
set_option maxRecDepth 20000 in
theorem plain21n (hr : Kd.R (Kd.int .u64) 42 w w0.heap.size (fun _ => True) (.slice A xs.length c) xs) (d : Nat) (hn : s.n7 = 0) (hop : i.f0 = 21) (hd : i.f1 = (d : Int)) (hdl : d < xs.length) :
  Calls Tryd.prog 56 #[.agg s.cs, .agg (icOf i A7 c7 A8 c8), .slice A xs.length c] w fun e w' => e = .returned (.agg s.cs) /\ RowSt (Kd.int .u64) 42 w0 w w' (.slice A xs.length c) (.slice A xs.length c) (xs.set d 18446744073709551615) := by
 have hu95 := Tryd.underlying95
 have hu44 := Tryd.underlying44
 have hu71 := Tryd.underlying71
 have HR := Aside0.mk hr
 have HN := Aside0.mk hn
 have HI := Aside0.mk (show (icOf i A7 c7 A8 c8)[0]? = some (.int .i64 21) /\ (icOf i A7 c7 A8 c8)[1]? = some (.int .i64 (d : Int)) from ⟨by rw [<- hop]; rfl, by rw [<- hd]; rfl⟩)
 generalize icOf i A7 c7 A8 c8 = ic at HI
 have d0 : 0 <= (d : Int) := by omega
 have d1 : (d : Int) < (xs.length : Int) := by omega
 clear hr hop hd hn
 go_enter Tryd.func56, Tryd.ntmps56
 go_upto_region 1 with (fail)
 generalize hW : World.alloc (World.alloc (World.alloc w (Obj.cells s.cs 95)) (Obj.cells ic 44)) _ = W
 have HX := Aside0.mk (show Px w W (Value.slice A xs.length c).ownBlock s.cs ic by rw [<- hW]; exact Px.new w _ s.cs ic)
 have HB := Aside0.mk (show Below w.heap.size w W by rw [<- hW]; exact (tri_new w _ _ _).2)
 clear hW
 have y0 := (blk_cell HX.out.hi 0).trans HI.out.1
 have y1 := (blk_cell HX.out.hi 1).trans HI.out.2
 have x10 := (blk_cell HX.out.bx.hg 10).trans (show _ = some (Value.slice s.a7 s.n7 s.c7) from rfl)
 rw [HN.out] at x10
 have HS := Aside0.mk (RowSt.start HR.out HB.out)
 obtain ⟨g, cap, e1, hgb, hgl, cl, hgc⟩ := Kd.R_form HS.out.row (by omega)
 injection e1 with e1 e2 e3
 subst e1
 subst e3
 have N1 := Kd.R_ne HS.out.row HX.out.bx.hg (by decide)
 have N2 := Kd.R_ne HS.out.row HX.out.hi (by decide)
 have N3 := Kd.R_ne HS.out.row HX.out.bx.hr (by decide)
 obtain ⟨hx, hf⟩ := Kd.R_celln 0 HS.out.row (d : Int) d0 d1
 rw [Int.toNat_natCast] at hx hf
 have hp := Kd.R_putg HS.out.row (d : Int) 18446744073709551615
 rw [Int.toNat_natCast] at hp
 have HX2 := Aside0.mk (HX.out.grown hp.2 N1 N2 N3 HS.out.sep)
 have HS2 := Aside0.mk (HS.out.next hp.1 hp.2 (.inl rfl))
 clear hp N1 N2 N3 HX HS HR HI hgc
 go_wp2_with (first | ((with_reducible refine gate_dst (N := 116) rfl ?_); refine load95 _ rfl rfl _ rfl _ HX2.out.bx.hg (Cs.of s) ?_) | ((with_reducible refine gate_store (t := 95) (p := 6) rfl ?_); refine store95 _ _ rfl rfl rfl _ rfl _ rfl _ HX2.out.bx.hr HX2.out.bx.zs (Cs.of s) ?_; intro W3 h2 hfar hgr))
 refine bodyPost_ret (results_cell_row rfl _ _ (w.heap.size + 2) 95 _ (0, 0) _ rfl h2 hu95 rfl (by kernel_rfl)) rfl ?_
 exact ⟨rfl, HS2.out.box2 HX2.out.bx.hr (by decide) hfar (hgr w _ HX2.out.bx.lr HS2.out.grown)⟩
set_option maxHeartbeats 4000000 in
set_option maxRecDepth 20000 in
theorem plain21c (hr : Kd.R (Kd.int .u64) 42 w w0.heap.size (fun _ => True) (.slice A xs.length c) xs) (d : Nat) (inp : List Int) (b : Int) (hin : Kd.C (Kd.int .u8) w s.a7 s.n7 (b :: inp)) (hc7 : s.n7 <= s.c7) (hop : i.f0 = 21) (hd : i.f1 = (d : Int)) (hdl : d < xs.length) :
  Calls Tryd.prog 56 #[.agg s.cs, .agg (icOf i A7 c7 A8 c8), .slice A xs.length c] w fun e w' => ∃ A2 c2, e = .returned (.agg { s with a7 := A2, n7 := inp.length, c7 := c2 }.cs) /\ inp.length <= c2 /\ (∀ W, Kd.C (Kd.int .u8) W s.a7 s.n7 (b :: inp) -> Kd.C (Kd.int .u8) W A2 inp.length inp) /\ RowSt (Kd.int .u64) 42 w0 w w' (.slice A xs.length c) (.slice A xs.length c) (xs.set d (IntKind.u64.wrap b)) := by
 have hu95 := Tryd.underlying95
 have hu44 := Tryd.underlying44
 have hu71 := Tryd.underlying71
 have hu60 := Tryd.underlying60
 have HR := Aside0.mk hr
 have HI := Aside0.mk (show (icOf i A7 c7 A8 c8)[0]? = some (.int .i64 21) /\ (icOf i A7 c7 A8 c8)[1]? = some (.int .i64 (d : Int)) from ⟨by rw [<- hop]; rfl, by rw [<- hd]; rfl⟩)
 generalize icOf i A7 c7 A8 c8 = ic at HI
 have d0 : 0 <= (d : Int) := by omega
 have d1 : (d : Int) < (xs.length : Int) := by omega
 have HN := Aside0.mk (show s.n7 = inp.length + 1 from hin.1.symm)
 obtain ⟨ad, ea, z0⟩ := C_int hin 0 (by omega) (by rw [HN.out]; omega)
 rw [show (0 : Int).toNat = 0 from rfl, show rd (b :: inp) 0 = b from rfl] at z0
 rw [show ad.add 0 = ad by unfold Addr.add; simp] at z0
 have hdr := fun (W : World) (hq : Kd.C (Kd.int .u8) W s.a7 s.n7 (b :: inp)) => Kd.C_drop (c := s.c7) (m := 1) (show Kd.C (Kd.int .u8) W (some ad) (b :: inp).length (b :: inp) by rw [<- ea]; have h := hq; rw [HN.out] at h; exact h) (by simp) (by have := HN.out; simp only [List.length_cons]; omega)
 have HDR := Aside0.mk (show ∀ W, Kd.C (Kd.int .u8) W s.a7 s.n7 (b :: inp) -> Kd.C (Kd.int .u8) W (if s.c7 = 1 then some ad else some (⟨ad.block, ad.off + 1, none⟩ : Addr)) inp.length inp from fun W hq => by
  have e : Option.map (fun q : Addr => q.add (1 * (Kd.int .u8).sz)) (some ad) = some (⟨ad.block, ad.off + 1, none⟩ : Addr) := by
   show some (ad.add 1) = _
   unfold Addr.add
   simp
  have h := hdr W hq
  rw [e] at h
  exact h)
 clear hdr
 have HC7 := Aside0.mk hc7
 clear hr hop hd hin hc7
 go_enter Tryd.func56, Tryd.ntmps56
 go_upto_region 1 with (fail)
 generalize hW : World.alloc (World.alloc (World.alloc w (Obj.cells s.cs 95)) (Obj.cells ic 44)) _ = W
 have HX := Aside0.mk (show Px w W (Value.slice A xs.length c).ownBlock s.cs ic by rw [<- hW]; exact Px.new w _ s.cs ic)
 have HB := Aside0.mk (show Below w.heap.size w W by rw [<- hW]; exact (tri_new w _ _ _).2)
 clear hW
 have y0 := (blk_cell HX.out.hi 0).trans HI.out.1
 have y1 := (blk_cell HX.out.hi 1).trans HI.out.2
 have x10 := (blk_cell HX.out.bx.hg 10).trans (show _ = some (Value.slice s.a7 s.n7 s.c7) from rfl)
 have q10 := blk_frozen HX.out.bx.hg 10
 have z1 := pw_cell_below HB.out z0
 rw [HN.out, ea] at x10
 go_upto_region 17 with (fail)
 generalize (if s.c7 = 1 then some ad else some (⟨ad.block, ad.off + 1, none⟩ : Addr)) = A2 at HDR ⊢
 have HX1 := Aside0.mk (show Px w (W.setCell ⟨w.heap.size, 10, none⟩ (.slice A2 inp.length (s.c7 - 1))) (Value.slice A xs.length c).ownBlock ({ s with a7 := A2, n7 := inp.length, c7 := s.c7 - 1 } : SV).cs ic from HX.out.put 10 _)
 have HS := Aside0.mk ((RowSt.start HR.out HB.out).box HX.out.bx.hg (by decide) HX.out.bx.lo 10 (.slice A2 inp.length (s.c7 - 1)))
 have y1b : (W.setCell ⟨w.heap.size, 10, none⟩ (.slice A2 inp.length (s.c7 - 1))).cell? ⟨w.heap.size + 1, 1, none⟩ = some (.int .i64 (d : Int)) := (blk_cell HX1.out.hi 1).trans HI.out.2
 obtain ⟨s2, e2⟩ : ∃ s2 : SV, s2 = { s with a7 := A2, n7 := inp.length, c7 := s.c7 - 1 } := ⟨_, rfl⟩
 rw [<- e2] at HX1
 have HE2 := Aside0.mk e2
 clear e2 y0 y1 x10 q10 z1 HX
 generalize W.setCell ⟨w.heap.size, 10, none⟩ (.slice A2 inp.length (s.c7 - 1)) = W1 at HX1 HS y1b ⊢
 obtain ⟨g, cap, e1, hgb, hgl, cl, hgc⟩ := Kd.R_form HS.out.row (by omega)
 injection e1 with e1 e2 e3
 subst e1
 subst e3
 obtain ⟨hx, hf⟩ := Kd.R_celln 0 HS.out.row (d : Int) d0 d1
 rw [Int.toNat_natCast] at hx hf
 have hp := Kd.R_putg HS.out.row (d : Int) (IntKind.u64.wrap b)
 rw [Int.toNat_natCast] at hp
 have HX2 := Aside0.mk (HX1.out.grown hp.2 (Kd.R_ne HS.out.row HX1.out.bx.hg (by decide)) (Kd.R_ne HS.out.row HX1.out.hi (by decide)) (Kd.R_ne HS.out.row HX1.out.bx.hr (by decide)) HS.out.sep)
 have HS2 := Aside0.mk (HS.out.next hp.1 hp.2 (.inl rfl))
 clear hp HX1 HS HR HI hgc
 go_wp2_with (first | ((with_reducible refine gate_dst (N := 116) rfl ?_); refine load95 _ rfl rfl _ rfl _ HX2.out.bx.hg (Cs.of s2) ?_) | ((with_reducible refine gate_store (t := 95) (p := 6) rfl ?_); refine store95 _ _ rfl rfl rfl _ rfl _ rfl _ HX2.out.bx.hr HX2.out.bx.zs (Cs.of s2) ?_; intro W3 h2 hfar hgr))
 refine bodyPost_ret (results_cell_row rfl _ _ (w.heap.size + 2) 95 _ (0, 0) _ rfl h2 hu95 rfl (by kernel_rfl)) rfl ?_
 refine ⟨A2, s.c7 - 1, by rw [HE2.out], by have := HC7.out; have := HN.out; omega, by first | exact HDR.out | (rw [<- ea]; exact HDR.out), HS2.out.box2 HX2.out.bx.hr (by decide) hfar (hgr w _ HX2.out.bx.lr HS2.out.grown)⟩
end
end
section
section
variable (s : SV) (i : S44) (A7 : Option Addr) (c7 : Nat) (A8 : Option Addr) (c8 : Nat) (xs : List Int) (A : Option Addr) (c : Nat) (w0 w : World)
set_option maxHeartbeats 4000000 in
set_option maxRecDepth 20000 in
theorem plain4 (hr : Kd.R (Kd.int .u64) 42 w w0.heap.size (fun _ => True) (.slice A xs.length c) xs) (d a : Nat) (hop : i.f0 = 4) (hd : i.f1 = (d : Int)) (hdl : d < xs.length) (ha : i.f2 = (a : Int)) (hal : a < xs.length) (r : Int) (ok : Bool) (hN : ∀ W, Calls Tryd.prog 64 #[.int .u64 (rd xs a), .int .i64 (IntKind.i64.wrap (8 * i.f5)), .bool true] W fun e w' => e = .returned (.tuple #[.int .u64 r, .bool ok]) /\ Drawn0 W w') :
  Calls Tryd.prog 56 #[.agg s.cs, .agg (icOf i A7 c7 A8 c8), .slice A xs.length c] w fun e w' => e = .returned (.agg s.cs) /\ RowSt (Kd.int .u64) 42 w0 w w' (.slice A xs.length c) (.slice A xs.length c) (xs.set d r) := by
 have HE := Aside0.mk (show rdOf (0 : Int) xs (a : Int) = rd xs a from rfl)
 generalize rd xs a = u at HE hN
 have HNW := Aside0.mk hN
 clear hN
 have hu95 := Tryd.underlying95
 have hu44 := Tryd.underlying44
 have hu71 := Tryd.underlying71
 have HR := Aside0.mk hr
 have HI := Aside0.mk (show (icOf i A7 c7 A8 c8)[0]? = some (.int .i64 4) /\ (icOf i A7 c7 A8 c8)[1]? = some (.int .i64 (d : Int)) /\ (icOf i A7 c7 A8 c8)[2]? = some (.int .i64 (a : Int)) /\ (icOf i A7 c7 A8 c8)[5]? = some (.int .i64 i.f5) from ⟨by rw [<- hop]; rfl, by rw [<- hd]; rfl, by rw [<- ha]; rfl, rfl⟩)
 generalize icOf i A7 c7 A8 c8 = ic at HI
 have d0 : 0 <= (d : Int) := by omega
 have d1 : (d : Int) < (xs.length : Int) := by omega
 have a0 : 0 <= (a : Int) := by omega
 have a1 : (a : Int) < (xs.length : Int) := by omega
 clear hr hop hd ha
 go_enter Tryd.func56, Tryd.ntmps56
 go_upto_region 1 with (fail)
 generalize hW : World.alloc (World.alloc (World.alloc w (Obj.cells s.cs 95)) (Obj.cells ic 44)) _ = W
 have HX := Aside0.mk (show Px w W (Value.slice A xs.length c).ownBlock s.cs ic by rw [<- hW]; exact Px.new w _ s.cs ic)
 have HB := Aside0.mk (show Below w.heap.size w W by rw [<- hW]; exact (tri_new w _ _ _).2)
 clear hW
 have y0 := (blk_cell HX.out.hi 0).trans HI.out.1
 have y1 := (blk_cell HX.out.hi 1).trans HI.out.2.1
 have y2 := (blk_cell HX.out.hi 2).trans HI.out.2.2.1
 have y5 := (blk_cell HX.out.hi 5).trans HI.out.2.2.2
 have HS := Aside0.mk (RowSt.start HR.out HB.out)
 obtain ⟨g, cap, e1, hgb, hgl, cl, hgc⟩ := Kd.R_form HS.out.row (by omega)
 injection e1 with e1 e2 e3
 subst e1
 subst e3
 obtain ⟨hx, hf⟩ := Kd.R_celln 0 HS.out.row (d : Int) d0 d1
 obtain ⟨hxa, hfa⟩ := Kd.R_celln 0 HS.out.row (a : Int) a0 a1
 rw [Int.toNat_natCast] at hx hf hxa hfa
 rw [HE.out] at hxa
 have HXN : ∀ n, Px w (W.drewN n) _ s.cs ic := fun n => HX.out.step (pw_below_drewN (Below.refl _ _) n)
 have HSN := fun n => HS.out.step (pw_below_drewN (Below.refl _ _) n)
 have hp := fun n => Kd.R_putg (HSN n).row (d : Int) r
 rw [Int.toNat_natCast] at hp
 have HX2 := Aside0.mk (fun n => (HXN n).grown (hp n).2 (Kd.R_ne (HSN n).row (HXN n).bx.hg (by decide)) (Kd.R_ne (HSN n).row (HXN n).hi (by decide)) (Kd.R_ne (HSN n).row (HXN n).bx.hr (by decide)) (HSN n).sep)
 have HS2 := Aside0.mk (fun n => (HSN n).next (hp n).1 (hp n).2 (.inl rfl))
 clear hgc hfa hp HXN HSN HX HS HR HI
 go_upto_region 9 with (fail)
 first | go_region_with (first | (go_at_call 64; (with_reducible refine (HNW.out _).mono ?_); rintro e w2 ⟨rfl, ⟨nd, rfl⟩⟩)) | fail
 all_goals
  have HX3 := Aside0.mk (HX2.out (1 + nd))
  have HS3 := Aside0.mk (HS2.out (1 + nd))
  clear HX2 HS2
  go_wp2_with (first | ((with_reducible refine gate_dst (N := 116) rfl ?_); refine load95 _ rfl rfl _ rfl _ HX3.out.bx.hg (Cs.of s) ?_) | ((with_reducible refine gate_store (t := 95) (p := 6) rfl ?_); refine store95 _ _ rfl rfl rfl _ rfl _ rfl _ HX3.out.bx.hr HX3.out.bx.zs (Cs.of s) ?_; intro W3 h2 hfar hgr))
  refine bodyPost_ret (results_cell_row rfl _ _ (w.heap.size + 2) 95 _ (0, 0) _ rfl h2 hu95 rfl (by kernel_rfl)) rfl ?_
  exact ⟨rfl, HS3.out.box2 HX3.out.bx.hr (by decide) hfar (hgr w _ HX3.out.bx.lr HS3.out.grown)⟩
end
end
section
structure Kp (w W : World) (S : Nat -> Prop) : Prop where
 os : W.os = w.os
 tape : W.tape = w.tape
 output : W.output = w.output
 size : w.heap.size <= W.heap.size
 blk : ∀ k, k < w.heap.size -> ¬ S k -> W.heap[k]? = w.heap[k]?
theorem Kp.below {w W : World} (h : Below w.heap.size w W) (S : Nat -> Prop) : Kp w W S := ⟨h.os, h.tape, h.output, h.size, fun k hk _ => h.block k hk⟩
theorem Kp.grown {w W : World} {row : Option Nat} (h : w.grownBy W row) : Kp w W (fun k => row = some k) := ⟨h.os, h.tape, h.output, h.size, fun k hk hn => h.block k hk (fun e => hn e.symm)⟩
theorem Kp.then_ {w W W2 : World} {S S2 S3 : Nat -> Prop} (h : Kp w W S) (k : Kp W W2 S2) (h1 : ∀ k, S k -> S3 k) (h2 : ∀ k, S2 k -> S3 k ∨ w.heap.size <= k) : Kp w W2 S3 :=
 ⟨k.os.trans h.os, k.tape.trans h.tape, k.output.trans h.output, Nat.le_trans h.size k.size, fun i hi hn => (k.blk i (Nat.lt_of_lt_of_le hi h.size) (fun e => (h2 i e).elim hn (fun h3 => by omega))).trans (h.blk i hi (fun e => hn (h1 i e)))⟩
theorem Kp.toBelow {w0 w W : World} {S : Nat -> Prop} (h : Kp w W S) (hb : Below w0.heap.size w0 w) (hS : ∀ k, S k -> w0.heap.size <= k) : Below w0.heap.size w0 W :=
 ⟨h.os.trans hb.os, h.tape.trans hb.tape, h.output.trans hb.output, Nat.le_trans hb.size h.size, fun k hk => (h.blk k (Nat.lt_of_lt_of_le hk hb.size) (fun e => by have := hS k e; omega)).trans (hb.block k hk)⟩
def Rw {α : Type} (d : Kd α) (e : Nat) (w0 w : World) (v : Value) (xs : List α) : Prop := d.R e w w0.heap.size (fun _ => True) v xs
section
variable {α β : Type} {d : Kd α} {e : Nat} {w0 w W : World} {v : Value} {xs : List α}
theorem Rw.keep (h : Rw d e w0 w v xs) (hE : d.E = []) {S : Nat -> Prop} (hk : Kp w W S) (hn : ∀ k, v.ownBlock = some k -> ¬ S k) : Rw d e w0 W v xs :=
 Kd.R_mono (Kd.R_step (Kd.R_tight hE h) (fun k hv hlt => hk.blk k hlt (hn k hv.symm))) (fun _ _ => trivial)
theorem Rw.lt (h : Rw d e w0 w v xs) {k : Nat} (hk : v.ownBlock = some k) : k < w.heap.size /\ w0.heap.size <= k /\ ∃ cells, w.heap[k]? = some (.cells cells e (0, 0)) := by
 obtain ⟨inner, ho⟩ := Kd.R_own h
 exact ⟨own_lt ho k hk, own_base ho k hk, own_typed ho k hk⟩
theorem Rw.ne {d2 : Kd β} {e2 : Nat} {w1 : World} {v2 : Value} {ys : List β} (h : Rw d e w0 w v xs) (h2 : Rw d2 e2 w1 w v2 ys) (he : e ≠ e2) : NeRow v v2 := by
 obtain ⟨i1, o1⟩ := Kd.R_own h
 obtain ⟨i2, o2⟩ := Kd.R_own h2
 exact ne_types o1 o2 he
theorem Rw.after {v2 v2' : Value} (h : Rw d e w0 w v xs) (hn : NeRow v2 v) (hat : v2'.ownBlock = v2.ownBlock ∨ ∃ b, v2'.ownBlock = some b /\ w.heap.size <= b) : NeRow v2' v := by
 intro k hk hk'
 rcases hat with hat | ⟨b, hb, hle⟩
 ·exact hn k (hat ▸ hk) hk'
 ·have := (h.lt hk').1
  rw [hb] at hk
  injection hk with hk
  omega
theorem Rw.reads {A : Option Addr} {n c : Nat} (h : Rw d e w0 w (.slice A n c) xs) : n = xs.length /\ n <= c /\ d.C w A xs.length xs := Kd.R_reads' h
end
structure S141 where
 f0 : Int
 f1 : Int
 f2 : Bool
def z141 : S141 := ⟨0, 0, false⟩
def k141 : Kd S141 := Kd.iso (Kd.pair (Kd.int .u64) (Kd.pair (Kd.int .u64) Kd.bool)) (fun x : S141 => (x.f0, x.f1, x.f2))
structure PS where
 (tops mem : List Int)
 L : List S139
 locks : List Int
 blocks : List S141
 (input out : List Int)
 (keys free top fuel steps checks stop code : Int)
def SV.tv (s : SV) : Value := .slice s.a2 s.n2 s.c2
def SV.mv (s : SV) : Value := .slice s.a3 s.n3 s.c3
def SV.lv (s : SV) : Value := .slice s.a4 s.n4 s.c4
def SV.kv (s : SV) : Value := .slice s.a5 s.n5 s.c5
def SV.bv (s : SV) : Value := .slice s.a6 s.n6 s.c6
def SV.ov (s : SV) : Value := .slice s.a8 s.n8 s.c8
def SV.setL (s : SV) (A : Option Addr) (n c : Nat) : SV := { s with a4 := A, n4 := n, c4 := c }
def SV.setB (s : SV) (A : Option Addr) (n c : Nat) : SV := { s with a6 := A, n6 := n, c6 := c }
def SV.setO (s : SV) (A : Option Addr) (n c : Nat) : SV := { s with a8 := A, n8 := n, c8 := c }
def SV.setK (s : SV) (A : Option Addr) (n c : Nat) : SV := { s with a5 := A, n5 := n, c5 := c }
structure NumI (gt gf : Nat) (s : SV) (p : PS) : Prop where
 u0 : s.a0 = some ⟨gt, 0, none⟩ /\ s.n0 = 2 /\ s.c0 = 2
 u1 : s.a1 = some ⟨gf, 0, none⟩ /\ s.n1 = 1 /\ s.c1 = 1
 keys : s.keys = p.keys
 free : s.free = p.free
 top : s.top = p.top
 fuel : s.fuel = p.fuel
 steps : s.steps = p.steps
 checks : s.checks = p.checks
 stop : s.stop = p.stop
 code : s.code = p.code
structure StI (w0 : World) (gt gf : Nat) (w : World) (s : SV) (p : PS) : Prop where
 below : Below w0.heap.size w0 w
 tops : Rw (Kd.int .i64) 3 w0 w s.tv p.tops
 mem : Rw (Kd.int .u8) 5 w0 w s.mv p.mem
 L : Rw k139 139 w0 w s.lv p.L
 locks : Rw (Kd.int .u64) 42 w0 w s.kv p.locks
 blocks : Rw k141 141 w0 w s.bv p.blocks
 out : Rw (Kd.int .u8) 5 w0 w s.ov p.out
 inp : Kd.C (Kd.int .u8) w0 s.a7 s.n7 p.input /\ s.n7 <= s.c7
 ne : NeRow s.mv s.ov
 num : NumI gt gf s p
def Own (s : SV) (k : Nat) : Prop := s.mv.ownBlock = some k ∨ s.lv.ownBlock = some k ∨ s.kv.ownBlock = some k ∨ s.bv.ownBlock = some k ∨ s.ov.ownBlock = some k
section
variable {w0 w W : World} {gt gf : Nat} {s s' : SV} {p : PS}
theorem StI.typed (h : StI w0 gt gf w s p) {k : Nat} (hk : Own s k) : k < w.heap.size /\ w0.heap.size <= k /\ ∃ (cells : Array Value) (t : Nat), w.heap[k]? = some (.cells cells t (0, 0)) /\ (t = 5 ∨ t = 139 ∨ t = 42 ∨ t = 141) := by
 rcases hk with hk | hk | hk | hk | hk
 ·obtain ⟨h1, h2, c, h3⟩ := h.mem.lt hk; exact ⟨h1, h2, c, 5, h3, .inl rfl⟩
 ·obtain ⟨h1, h2, c, h3⟩ := h.L.lt hk; exact ⟨h1, h2, c, 139, h3, .inr (.inl rfl)⟩
 ·obtain ⟨h1, h2, c, h3⟩ := h.locks.lt hk; exact ⟨h1, h2, c, 42, h3, .inr (.inr (.inl rfl))⟩
 ·obtain ⟨h1, h2, c, h3⟩ := h.blocks.lt hk; exact ⟨h1, h2, c, 141, h3, .inr (.inr (.inr rfl))⟩
 ·obtain ⟨h1, h2, c, h3⟩ := h.out.lt hk; exact ⟨h1, h2, c, 5, h3, .inl rfl⟩
theorem StI.not_own (h : StI w0 gt gf w s p) {k t : Nat} {cs : Array Value} (hb : w.heap[k]? = some (.cells cs t (0, 0))) (ht : t ≠ 5 /\ t ≠ 139 /\ t ≠ 42 /\ t ≠ 141) : ¬ Own s k := by
 intro hk
 obtain ⟨_, _, c, t2, h3, h4⟩ := h.typed hk
 rw [hb] at h3
 injection h3 with h3
 injection h3 with _ h3
 subst h3
 rcases h4 with e | e | e | e
 ·exact ht.1 e
 ·exact ht.2.1 e
 ·exact ht.2.2.1 e
 ·exact ht.2.2.2 e
theorem StI.keep (h : StI w0 gt gf w s p) {S : Nat -> Prop} (hk : Kp w W S) (hn : ∀ k, Own s k -> ¬ S k) (ht : ∀ k, s.tv.ownBlock = some k -> ¬ S k) (hS : ∀ k, S k -> w0.heap.size <= k) : StI w0 gt gf W s p where
 below := hk.toBelow h.below hS
 tops := h.tops.keep rfl hk ht
 mem := h.mem.keep rfl hk (fun k e => hn k (.inl e))
 L := h.L.keep rfl hk (fun k e => hn k (.inr (.inl e)))
 locks := h.locks.keep rfl hk (fun k e => hn k (.inr (.inr (.inl e))))
 blocks := h.blocks.keep rfl hk (fun k e => hn k (.inr (.inr (.inr (.inl e)))))
 out := h.out.keep rfl hk (fun k e => hn k (.inr (.inr (.inr (.inr e)))))
 inp := h.inp
 ne := h.ne
 num := h.num
theorem StI.step (h : StI w0 gt gf w s p) (hb : Below w.heap.size w W) : StI w0 gt gf W s p := h.keep (S := fun _ => False) (Kp.below hb _) (fun _ _ h => h) (fun _ _ h => h) (fun _ h => h.elim)
theorem StI.other (h : StI w0 gt gf w s p) {row : Option Nat} (hg : w.grownBy W row) (hn : ∀ k, row = some k -> ¬ Own s k /\ s.tv.ownBlock ≠ some k /\ w0.heap.size <= k) : StI w0 gt gf W s p :=
 h.keep (Kp.grown hg) (fun k e he => (hn k he).1 e) (fun k e he => (hn k he).2.1 e) (fun k he => (hn k he).2.2)
end
end
end Go.Proofs.YtjfleaekljapeaaDoor.K
