import Derived.Test.YtjfleaekljapeaaDoorXAS
import Derived.Deep.DeepMust
import Derived.Test.YtjfleaekljapeaaDoorProg
import Derived.Below
import Derived.Deep.Draws
import Derived.Deep.AppendLies
import Derived.Maps.AppendAt
import Derived.OwnWalk
import Derived.Laws.BytesArg
import Derived.Laws.MakeOwn
import Derived.Laws.OwnMore
import Derived.Deep.OwnRows
import Derived.Tactics
import Derived.Lib.ConvBytes
import Derived.Laws.Slices
import Derived.WalkKit
import Derived.KernelRfl
import Derived.RowKit3
import Derived.Deep.LoopGhost
import Derived.Deep.QuietTactic
import Derived.BigQuiet
import Derived.WideLaws
import Derived.Deep.DeepCutAuto
import Derived.Deep.CutBlock
import Derived.Deep.RegionHeld3
import Derived.Deep.MidRow
import Derived.Laws.Tables
import Derived.StillTailTactics
import Derived.Laws.Rows
import Derived.Lib.AppendStr
import Derived.ArgAppend
import Derived.Laws.IdiomCopy
import Derived.OrdersHeld
import Derived.Laws.BitsLemmas
import Derived.Laws.BitsAllLaws
import Derived.RowKit
import Derived.RegionTactic
import Derived.Deep.RegionWith
import Derived.Lib.Hide
import Derived.Test.YtjfleaekljapeaaDoorXAA
import Derived.Test.YtjfleaekljapeaaDoorXAB
import Derived.Test.YtjfleaekljapeaaDoorXAC
import Derived.Deep.RegionLaw
import Derived.Laws.CopyOwn
import Derived.Shelf.Spec.TrailingZeros
namespace Go.Proofs.YtjfleaekljapeaaDoor.K
open Go.RowKit Go.Proofs.YtjfleaekljapeaaDoorW.PrintWords Go.Proofs.YtjfleaekljapeaaDoorW.PrintLast Go.Proofs.YtjfleaekljapeaaDoorW.PrintMore
attribute [local go_sem] max2_int min2_int max_two min_two max_three min_three max_four min_four   -- for this text's walks alone
set_option linter.unusedVariables false
set_option linter.unusedSimpArgs false
set_option linter.unusedSectionVars false
section
section
variable (w0 : World) (gt gf : Nat) (w : World) (s : SV) (p : PS) (i : S44) (A7 : Option Addr) (c7 : Nat) (A8 : Option Addr) (c8 : Nat) (xs : List Int) (A : Option Addr) (c : Nat) (fc : Array Value) (fr : FP)
set_option maxHeartbeats 4000000 in
set_option maxRecDepth 20000 in
theorem mem37 (h : StI w0 gt gf w s p) (hx : XR w0 w s (.slice A xs.length c) xs) (hI : InI w0 i A7 A8 c8 xs.length) (hF : FrI w0 w fc fr) (hop : i.f0 = 37) (a : Nat) (ha : i.f2 = (a : Int)) (hal : a < xs.length) (hll : p.L.length <= 4194304) (hl8 : i.f8.length = 4) :
  Calls Tryd.prog 57 #[.agg s.cs, .agg fc, .agg (icOf i A7 c7 A8 c8), .slice A xs.length c] w (MPost w0 gt gf w s p (.slice A xs.length c) (wrL xs i.f8 [(shV p.L (rd xs (a : Int)) p.L.length).f1, (shV p.L (rd xs (a : Int)) p.L.length).f2, (shV p.L (rd xs (a : Int)) p.L.length).f3, (shV p.L (rd xs (a : Int)) p.L.length).f4])) := by
 have hu95 := Tryd.underlying95
 have hu44 := Tryd.underlying44
 have hu71 := Tryd.underlying71
 have hu112 := Tryd.underlying112
 have hu22 := Tryd.underlying22
 have HS := Aside0.mk h
 have HXR := Aside0.mk hx
 have HI := Aside0.mk hI
 have HF := Aside0.mk hF
 have HVC := Aside0.mk (fun W (hb : Below w.heap.size w W) => vals_calls W A c xs A7 c7 i.f7 (hx.row.keep rfl (Kp.below hb (fun _ => False)) (fun _ _ h => h)).reads.2.2 (Kd.C_below hI.a7 (gt_below h hb)) hI.r7 hI.l7)
 have HC := Aside0.mk (show (icOf i A7 c7 A8 c8)[0]? = some (.int .i64 37) /\ (icOf i A7 c7 A8 c8)[2]? = some (.int .i64 (a : Int)) /\ (icOf i A7 c7 A8 c8)[7]? = some (.slice A7 i.f7.length c7) /\ (icOf i A7 c7 A8 c8)[8]? = some (.slice A8 i.f8.length c8) from ⟨by rw [<- hop]; rfl, by rw [<- ha]; rfl, rfl, rfl⟩)
 have HLL := Aside0.mk hll
 have HL8 := Aside0.mk hl8
 generalize icOf i A7 c7 A8 c8 = ic at HC
 have a0 : 0 <= (a : Int) := by omega
 have a1 : (a : Int) < (xs.length : Int) := by omega
 clear h hx hI hF hop ha hll hl8
 go_enter Tryd.func57, Tryd.ntmps57
 go_upto_region 1 with (fail)
 generalize hW : World.alloc (World.alloc (World.alloc (World.alloc w (Obj.cells s.cs 95)) (Obj.cells fc 112)) (Obj.cells ic 44)) _ = W
 have H4 := Aside0.mk (show B4 w W s.cs fc ic by rw [<- hW]; exact B4.new w s.cs fc ic)
 clear hW
 have y7 := (blk_cell H4.out.b2 7).trans HC.out.2.2.1
 go_upto_region 2 with (first | (go_at_call 55; (with_reducible refine (HVC.out _ H4.out.below).mono ?_); rintro e w2 ⟨Av, cv, rfl, hv, hb⟩; have HM := Aside0.mk (Mx.start HS.out HXR.out H4.out hb hv); clear hv hb H4 y7))
 have y0 := (blk_cell HM.out.hi 0).trans HC.out.1
 have y2 := (blk_cell HM.out.hi 2).trans HC.out.2.1
 have y8 := (blk_cell HM.out.hi 8).trans HC.out.2.2.2
 obtain ⟨u, hu⟩ : ∃ u, rd xs (a : Int) = u := ⟨_, rfl⟩
 have HU := Aside0.mk hu
 obtain ⟨gx, capx, ex1, hgbx, hglx, clx, hgcx⟩ := Kd.R_form HM.out.mp.xr.row (by omega)
 injection ex1 with ex1 ex2 ex3
 subst ex1
 subst ex3
 obtain ⟨hxa, hfa⟩ := Kd.R_celln 0 HM.out.mp.xr.row (a : Int) a0 a1
 rw [Int.toNat_natCast, show rdOf (0 : Int) xs (a : Int) = u from hu] at hxa
 clear hgbx hglx hgcx ex2 hu
 obtain ⟨y, hy⟩ : ∃ y, shV p.L u p.L.length = y := ⟨_, rfl⟩
 have HY := Aside0.mk hy
 have HSC := Aside0.mk (fun W (hb : Below w2.heap.size w2 W) => (show Calls Tryd.prog 69 #[.agg s.cs, .int .u64 u] W fun e w' => e = .returned (.agg y.v) /\ Below W.heap.size W w' by rw [<- hy]; exact shadow_calls s p.L u w0 W (HM.out.step hb).mp.st.L HLL.out))
 clear hy
 have hS0 : Below w2.heap.size w2 w2.drew := below_drew (Below.refl _ _)
 go_upto_region 35 with (fail)
 refine sw_start (fun w9 => Below w2.heap.size w2 w9) (by kernel_rfl) hS0 ?_
 refine SW.load95 0 rfl (by kernel_rfl) _ rfl _ rfl _ (fun _ _ _ h => h) hS0 (by rfl) (fun w9 hS9 => blk_below HM.out.hg hS9) (Cs.of s) ?_
 simp only [Act.put, List.setIfInBounds_toArray, List.set_cons_zero, List.set_cons_succ]
 refine SW.take 1 (v := ?_) rfl (by kernel_rfl) (fun _ _ _ h => h) hS0 (by rfl) ?_ ?_
 rotate_left
 ·intro w9 hS9
  go_simp <;> (with_reducible rfl)
 simp only [Act.put, List.setIfInBounds_toArray, List.set_cons_zero, List.set_cons_succ]
 refine SW.take 2 (v := ?_) rfl (by kernel_rfl) (fun _ _ _ h => h) hS0 (by rfl) ?_ ?_
 rotate_left
 ·intro w9 hS9
  go_simp <;> (with_reducible rfl)
 simp only [Act.put, List.setIfInBounds_toArray, List.set_cons_zero, List.set_cons_succ]
 refine SW.take 3 (v := ?_) rfl (by kernel_rfl) (fun _ _ _ h => h) hS0 (by rfl) ?_ ?_
 rotate_left
 ·intro w9 hS9
  have y2 := pw_cell_below hS9 y2
  go_simp <;> (with_reducible rfl)
 simp only [Act.put, List.setIfInBounds_toArray, List.set_cons_zero, List.set_cons_succ]
 refine SW.take 4 (v := ?_) rfl (by kernel_rfl) (fun _ _ _ h => h) hS0 (by rfl) ?_ ?_
 rotate_left
 ·intro w9 hS9
  go_simp <;> (with_reducible rfl)
 simp only [Act.put, List.setIfInBounds_toArray, List.set_cons_zero, List.set_cons_succ]
 refine SW.take 5 (v := ?_) rfl (by kernel_rfl) (fun _ _ _ h => h) hS0 (by rfl) ?_ ?_
 rotate_left
 ·intro w9 hS9
  have hxa := pw_cell_below hS9 hxa
  go_simp <;> (with_reducible rfl)
 simp only [Act.put, List.setIfInBounds_toArray, List.set_cons_zero, List.set_cons_succ]
 refine SW.act2 6 7 rfl rfl (by kernel_rfl) ?_ ?_
 ·intro K hK
  go_simp
  (go_at_call 69; (with_reducible refine (HSC.out _ hS0).mono ?_); rintro e w3 ⟨rfl, hb⟩)
  go_simp
  refine hK _ _ (below_step hS0 hb) ?_
  clear hK K
  refine SW.act 7 rfl (by kernel_rfl) ?_
  intro K hK
  go_simp
  refine hK _ _ (below_step (below_step hS0 hb) ((Below.refl _ _).alloc (Nat.le_refl _) _)) ?_
  clear hK K
  refine SW.storeT 8 rfl (by kernel_rfl) 136 4 info136 _ _ rfl rfl (by rfl) w3.heap.size rfl y.v rfl _ (heap_alloc_new w3 _) rfl rfl (S139.one y) ?_
  intro W2 h2 hk
  have hB := kp_below (below_step (below_step hS0 hb) ((Below.refl _ _).alloc (Nat.le_refl _) _)) hk (below_step hS0 hb).size
  refine ⟨hB, SW.done (by kernel_rfl) ?_⟩
  have HM2 := Aside0.mk (HM.out.step hB)
  clear HM hS0 hb hk hB HSC y2 hxa
  have z0 := (blk_cell h2 0).trans (show _ = some (Value.int .u64 y.f1) from rfl)
  have z1 := (blk_cell h2 1).trans (show _ = some (Value.int .u64 y.f2) from rfl)
  have z2 := (blk_cell h2 2).trans (show _ = some (Value.int .u64 y.f3) from rfl)
  have z3 := (blk_cell h2 3).trans (show _ = some (Value.int .u64 y.f4) from rfl)
  have y8 := (blk_cell HM2.out.hi 8).trans HC.out.2.2.2
  clear h2
  have HWC := Aside0.mk (out4 HM2.out HI.out HL8.out y.f1 y.f2 y.f3 y.f4)
  have HM3 := Aside0.mk (HM2.out.step ((Below.refl _ _).alloc (Nat.le_refl _) (Obj.cells #[.int .u64 y.f1, .int .u64 y.f2, .int .u64 y.f3, .int .u64 y.f4] 42)))
  go_wp2_with (first | (go_at_call 52; (with_reducible refine HWC.out.mono ?_); rintro e w8 ⟨rfl, hr8⟩; have HM4 := Aside0.mk (HM3.out.regs hr8); clear hr8) | ((with_reducible refine gate_dst (N := 446) rfl ?_); refine load95 _ rfl rfl _ rfl _ HM4.out.hg (Cs.of s) ?_) | ((with_reducible refine gate_store (t := 95) (p := 8) rfl ?_); refine storeS _ _ rfl rfl rfl _ rfl _ rfl _ HM4.out.hr rfl (Cs.of s) ?_; intro W3 h2 hk3))
  refine bodyPost_ret (results_cell_row rfl _ _ (w.heap.size + 3) 95 _ (0, 0) _ rfl h2 hu95 rfl (by kernel_rfl)) rfl ?_
  exact ⟨s, rfl, by rw [HU.out, HY.out]; exact HM4.out.fin hk3⟩
 ·intro K hK
  go_simp
  refine hK _ _ (below_drew ((Below.refl _ _).alloc (Nat.le_refl _) _)) ?_
  clear hK K
  refine SW.act 6 rfl (by kernel_rfl) ?_
  intro K hK
  go_simp
  (go_at_call 69; (with_reducible refine (HSC.out _ (below_drew ((Below.refl _ _).alloc (Nat.le_refl _) _))).mono ?_); rintro e w3 ⟨rfl, hb⟩)
  go_simp
  refine hK _ _ (below_step (below_drew ((Below.refl _ _).alloc (Nat.le_refl _) _)) hb) ?_
  clear hK K
  refine SW.storeT 8 rfl (by kernel_rfl) 136 4 info136 _ _ rfl rfl (by rfl) w2.heap.size rfl y.v rfl _ (blk_below (blk_drew (heap_alloc_new w2 _)) hb) rfl rfl (S139.one y) ?_
  intro W2 h2 hk
  have hB := kp_below (below_step (below_drew ((Below.refl _ _).alloc (Nat.le_refl _) _)) hb) hk (Nat.le_refl _)
  refine ⟨hB, SW.done (by kernel_rfl) ?_⟩
  have HM2 := Aside0.mk (HM.out.step hB)
  clear HM hS0 hb hk hB HSC y2 hxa
  have z0 := (blk_cell h2 0).trans (show _ = some (Value.int .u64 y.f1) from rfl)
  have z1 := (blk_cell h2 1).trans (show _ = some (Value.int .u64 y.f2) from rfl)
  have z2 := (blk_cell h2 2).trans (show _ = some (Value.int .u64 y.f3) from rfl)
  have z3 := (blk_cell h2 3).trans (show _ = some (Value.int .u64 y.f4) from rfl)
  have y8 := (blk_cell HM2.out.hi 8).trans HC.out.2.2.2
  clear h2
  have HWC := Aside0.mk (out4 HM2.out HI.out HL8.out y.f1 y.f2 y.f3 y.f4)
  have HM3 := Aside0.mk (HM2.out.step ((Below.refl _ _).alloc (Nat.le_refl _) (Obj.cells #[.int .u64 y.f1, .int .u64 y.f2, .int .u64 y.f3, .int .u64 y.f4] 42)))
  go_wp2_with (first | (go_at_call 52; (with_reducible refine HWC.out.mono ?_); rintro e w8 ⟨rfl, hr8⟩; have HM4 := Aside0.mk (HM3.out.regs hr8); clear hr8) | ((with_reducible refine gate_dst (N := 446) rfl ?_); refine load95 _ rfl rfl _ rfl _ HM4.out.hg (Cs.of s) ?_) | ((with_reducible refine gate_store (t := 95) (p := 8) rfl ?_); refine storeS _ _ rfl rfl rfl _ rfl _ rfl _ HM4.out.hr rfl (Cs.of s) ?_; intro W3 h2 hk3))
  refine bodyPost_ret (results_cell_row rfl _ _ (w.heap.size + 3) 95 _ (0, 0) _ rfl h2 hu95 rfl (by kernel_rfl)) rfl ?_
  exact ⟨s, rfl, by rw [HU.out, HY.out]; exact HM4.out.fin hk3⟩
set_option maxHeartbeats 4000000 in
set_option maxRecDepth 20000 in
theorem mem38 (h : StI w0 gt gf w s p) (hx : XR w0 w s (.slice A xs.length c) xs) (hI : InI w0 i A7 A8 c8 xs.length) (hF : FrI w0 w fc fr) (hop : i.f0 = 38) (a : Nat) (ha : i.f2 = (a : Int)) (hal : a < xs.length) (hl4 : i.f7.length = 4) (hll : p.L.length <= 1048576) :
  Calls Tryd.prog 57 #[.agg s.cs, .agg fc, .agg (icOf i A7 c7 A8 c8), .slice A xs.length c] w (MPost w0 gt gf w s { p with L := p.L ++ [⟨rd xs (a : Int), vsl (i.f7.map (rd xs)) 0, vsl (i.f7.map (rd xs)) 1, vsl (i.f7.map (rd xs)) 2, vsl (i.f7.map (rd xs)) 3⟩] } (.slice A xs.length c) xs) := by
 have hu95 := Tryd.underlying95
 have hu44 := Tryd.underlying44
 have hu71 := Tryd.underlying71
 have hu112 := Tryd.underlying112
 have hu22 := Tryd.underlying22
 have HS := Aside0.mk h
 have HXR := Aside0.mk hx
 have HI := Aside0.mk hI
 have HF := Aside0.mk hF
 have HVC := Aside0.mk (fun W (hb : Below w.heap.size w W) => vals_calls W A c xs A7 c7 i.f7 (hx.row.keep rfl (Kp.below hb (fun _ => False)) (fun _ _ h => h)).reads.2.2 (Kd.C_below hI.a7 (gt_below h hb)) hI.r7 hI.l7)
 have HC := Aside0.mk (show (icOf i A7 c7 A8 c8)[0]? = some (.int .i64 38) /\ (icOf i A7 c7 A8 c8)[2]? = some (.int .i64 (a : Int)) /\ (icOf i A7 c7 A8 c8)[7]? = some (.slice A7 i.f7.length c7) from ⟨by rw [<- hop]; rfl, by rw [<- ha]; rfl, rfl⟩)
 have HL4 := Aside0.mk hl4
 have HLL := Aside0.mk hll
 generalize icOf i A7 c7 A8 c8 = ic at HC
 have a0 : 0 <= (a : Int) := by omega
 have a1 : (a : Int) < (xs.length : Int) := by omega
 clear h hx hI hF hop ha hl4 hll
 go_enter Tryd.func57, Tryd.ntmps57
 go_upto_region 1 with (fail)
 generalize hW : World.alloc (World.alloc (World.alloc (World.alloc w (Obj.cells s.cs 95)) (Obj.cells fc 112)) (Obj.cells ic 44)) _ = W
 have H4 := Aside0.mk (show B4 w W s.cs fc ic by rw [<- hW]; exact B4.new w s.cs fc ic)
 clear hW
 have y7 := (blk_cell H4.out.b2 7).trans HC.out.2.2
 go_upto_region 2 with (first | (go_at_call 55; (with_reducible refine (HVC.out _ H4.out.below).mono ?_); rintro e w2 ⟨Av, cv, rfl, hv, hb⟩; have HM := Aside0.mk (Mx.start HS.out HXR.out H4.out hb hv); clear hv hb H4 y7))
 have y0 := (blk_cell HM.out.hi 0).trans HC.out.1
 have y2 := (blk_cell HM.out.hi 2).trans HC.out.2.1
 obtain ⟨u, hu⟩ : ∃ u, rd xs (a : Int) = u := ⟨_, rfl⟩
 have HU := Aside0.mk hu
 obtain ⟨gx, capx, ex1, hgbx, hglx, clx, hgcx⟩ := Kd.R_form HM.out.mp.xr.row (by omega)
 injection ex1 with ex1 ex2 ex3
 subst ex1
 subst ex3
 obtain ⟨hxa, hfa⟩ := Kd.R_celln 0 HM.out.mp.xr.row (a : Int) a0 a1
 rw [Int.toNat_natCast, show rdOf (0 : Int) xs (a : Int) = u from hu] at hxa
 clear hgbx hglx hgcx ex2 hu
 obtain ⟨v0, v1, v2, v3, ev⟩ : ∃ v0 v1 v2 v3, i.f7.map (rd xs) = [v0, v1, v2, v3] := fourL (by rw [List.length_map]; exact HL4.out)
 rw [ev] at HM
 have HEV := Aside0.mk ev
 rw [HL4.out] at HM ⊢
 clear ev
 obtain ⟨gv, capv, ev1, hgbv, hglv, clv, hgcv⟩ := Kd.R_form HM.out.vr (by simp)
 injection ev1 with ev1 ev2 ev3
 subst ev1
 subst ev3
 clear hgbv hglv ev2
 have u0 : w2.cell? ⟨gv, 0, none⟩ = some (.int .u64 v0) := (Kd.R_celln 0 HM.out.vr (0 : Int) (by decide) (by decide)).1
 have u1 : w2.cell? ⟨gv, 1, none⟩ = some (.int .u64 v1) := (Kd.R_celln 0 HM.out.vr (1 : Int) (by decide) (by decide)).1
 have u2 : w2.cell? ⟨gv, 2, none⟩ = some (.int .u64 v2) := (Kd.R_celln 0 HM.out.vr (2 : Int) (by decide) (by decide)).1
 have u3 : w2.cell? ⟨gv, 3, none⟩ = some (.int .u64 v3) := (Kd.R_celln 0 HM.out.vr (3 : Int) (by decide) (by decide)).1
 have HK := Aside0.mk (fun (w9 : World) (hS : Kp w2 w9 (fun k => s.lv.ownBlock = some k ∨ k = w.heap.size)) => (show w9.cell? ⟨w.heap.size + 1 + 1, 2, none⟩ = some (.int .i64 (a : Int)) /\ w9.cell? ⟨gx, a, none⟩ = some (.int .u64 u) /\ w9.cell? ⟨gv, 0, none⟩ = some (.int .u64 v0) /\ w9.cell? ⟨gv, 1, none⟩ = some (.int .u64 v1) /\ w9.cell? ⟨gv, 2, none⟩ = some (.int .u64 v2) /\ w9.cell? ⟨gv, 3, none⟩ = some (.int .u64 v3) by
  have hgx : ¬ (s.lv.ownBlock = some gx ∨ gx = w.heap.size) := by
   rintro (e | e)
   ·exact nrow (HM.out.mp.xr.row.ne HM.out.mp.st.L (by decide)) rfl e
   ·exact ne_typed HM.out.mp.xr.row HM.out.hg (by decide) (by rw [<- e]; rfl)
  have hgv : ¬ (s.lv.ownBlock = some gv ∨ gv = w.heap.size) := by
   rintro (e | e)
   ·exact nrow (HM.out.vrw.ne HM.out.mp.st.L (by decide)) rfl e
   ·exact ne_typed HM.out.vrw HM.out.hg (by decide) (by rw [<- e]; rfl)
  have hgi : ¬ (s.lv.ownBlock = some (w.heap.size + 1 + 1) ∨ w.heap.size + 1 + 1 = w.heap.size) := by
   rintro (e | e)
   ·exact ne_typed HM.out.mp.st.L HM.out.hi (by decide) e
   ·omega
  exact ⟨hS.cell y2 hgi, hS.cell hxa hgx, hS.cell u0 hgv, hS.cell u1 hgv, hS.cell u2 hgv, hS.cell u3 hgv⟩))
 have hS0 : Kp w2 w2.drew (fun k => s.lv.ownBlock = some k ∨ k = w.heap.size) := Kp.below (below_drew (Below.refl _ _)) _
 clear hxa u0 u1 u2 u3 hgcv
 go_upto_region 38 with (fail)
 refine sw_start (fun w9 => Kp w2 w9 (fun k => s.lv.ownBlock = some k ∨ k = w.heap.size)) (by kernel_rfl) hS0 ?_
 refine SW.take 0 (v := ?_) rfl (by kernel_rfl) (fun _ _ _ h => h) hS0 (by rfl) ?_ ?_
 rotate_left
 ·intro w9 hS9
  go_simp <;> (with_reducible rfl)
 simp only [Act.put, List.setIfInBounds_toArray, List.set_cons_zero, List.set_cons_succ]
 refine SW.take 2 (v := ?_) rfl (by kernel_rfl) (fun _ _ _ h => h) hS0 (by rfl) ?_ ?_
 rotate_left
 ·intro w9 hS9
  go_simp <;> (with_reducible rfl)
 simp only [Act.put, List.setIfInBounds_toArray, List.set_cons_zero, List.set_cons_succ]
 refine SW.take 3 (v := ?_) rfl (by kernel_rfl) (fun _ _ _ h => h) hS0 (by rfl) ?_ ?_
 rotate_left
 ·intro w9 hS9
  go_simp <;> (with_reducible rfl)
 simp only [Act.put, List.setIfInBounds_toArray, List.set_cons_zero, List.set_cons_succ]
 refine SW.take 4 (v := ?_) rfl (by kernel_rfl) (fun _ _ _ h => h) hS0 (by rfl) ?_ ?_
 rotate_left
 ·intro w9 hS9
  have y2 := (HK.out w9 hS9).1
  go_simp <;> (with_reducible rfl)
 simp only [Act.put, List.setIfInBounds_toArray, List.set_cons_zero, List.set_cons_succ]
 refine SW.take 5 (v := ?_) rfl (by kernel_rfl) (fun _ _ _ h => h) hS0 (by rfl) ?_ ?_
 rotate_left
 ·intro w9 hS9
  go_simp <;> (with_reducible rfl)
 simp only [Act.put, List.setIfInBounds_toArray, List.set_cons_zero, List.set_cons_succ]
 refine SW.take 6 (v := ?_) rfl (by kernel_rfl) (fun _ _ _ h => h) hS0 (by rfl) ?_ ?_
 rotate_left
 ·intro w9 hS9
  have hxa := (HK.out w9 hS9).2.1
  go_simp <;> (with_reducible rfl)
 simp only [Act.put, List.setIfInBounds_toArray, List.set_cons_zero, List.set_cons_succ]
 refine SW.take 7 (v := ?_) rfl (by kernel_rfl) (fun _ _ _ h => h) hS0 (by rfl) ?_ ?_
 rotate_left
 ·intro w9 hS9
  go_simp <;> (with_reducible rfl)
 simp only [Act.put, List.setIfInBounds_toArray, List.set_cons_zero, List.set_cons_succ]
 refine SW.take 8 (v := ?_) rfl (by kernel_rfl) (fun _ _ _ h => h) hS0 (by rfl) ?_ ?_
 rotate_left
 ·intro w9 hS9
  go_simp <;> (with_reducible rfl)
 simp only [Act.put, List.setIfInBounds_toArray, List.set_cons_zero, List.set_cons_succ]
 refine SW.take 9 (v := ?_) rfl (by kernel_rfl) (fun _ _ _ h => h) hS0 (by rfl) ?_ ?_
 rotate_left
 ·intro w9 hS9
  have u0 := (HK.out w9 hS9).2.2.1
  go_simp <;> (with_reducible rfl)
 simp only [Act.put, List.setIfInBounds_toArray, List.set_cons_zero, List.set_cons_succ]
 refine SW.take 10 (v := ?_) rfl (by kernel_rfl) (fun _ _ _ h => h) hS0 (by rfl) ?_ ?_
 rotate_left
 ·intro w9 hS9
  go_simp <;> (with_reducible rfl)
 simp only [Act.put, List.setIfInBounds_toArray, List.set_cons_zero, List.set_cons_succ]
 refine SW.take 11 (v := ?_) rfl (by kernel_rfl) (fun _ _ _ h => h) hS0 (by rfl) ?_ ?_
 rotate_left
 ·intro w9 hS9
  go_simp <;> (with_reducible rfl)
 simp only [Act.put, List.setIfInBounds_toArray, List.set_cons_zero, List.set_cons_succ]
 refine SW.take 12 (v := ?_) rfl (by kernel_rfl) (fun _ _ _ h => h) hS0 (by rfl) ?_ ?_
 rotate_left
 ·intro w9 hS9
  have u1 := (HK.out w9 hS9).2.2.2.1
  go_simp <;> (with_reducible rfl)
 simp only [Act.put, List.setIfInBounds_toArray, List.set_cons_zero, List.set_cons_succ]
 refine SW.take 13 (v := ?_) rfl (by kernel_rfl) (fun _ _ _ h => h) hS0 (by rfl) ?_ ?_
 rotate_left
 ·intro w9 hS9
  go_simp <;> (with_reducible rfl)
 simp only [Act.put, List.setIfInBounds_toArray, List.set_cons_zero, List.set_cons_succ]
 refine SW.take 14 (v := ?_) rfl (by kernel_rfl) (fun _ _ _ h => h) hS0 (by rfl) ?_ ?_
 rotate_left
 ·intro w9 hS9
  go_simp <;> (with_reducible rfl)
 simp only [Act.put, List.setIfInBounds_toArray, List.set_cons_zero, List.set_cons_succ]
 refine SW.take 15 (v := ?_) rfl (by kernel_rfl) (fun _ _ _ h => h) hS0 (by rfl) ?_ ?_
 rotate_left
 ·intro w9 hS9
  have u2 := (HK.out w9 hS9).2.2.2.2.1
  go_simp <;> (with_reducible rfl)
 simp only [Act.put, List.setIfInBounds_toArray, List.set_cons_zero, List.set_cons_succ]
 refine SW.take 16 (v := ?_) rfl (by kernel_rfl) (fun _ _ _ h => h) hS0 (by rfl) ?_ ?_
 rotate_left
 ·intro w9 hS9
  go_simp <;> (with_reducible rfl)
 simp only [Act.put, List.setIfInBounds_toArray, List.set_cons_zero, List.set_cons_succ]
 refine SW.take 17 (v := ?_) rfl (by kernel_rfl) (fun _ _ _ h => h) hS0 (by rfl) ?_ ?_
 rotate_left
 ·intro w9 hS9
  go_simp <;> (with_reducible rfl)
 simp only [Act.put, List.setIfInBounds_toArray, List.set_cons_zero, List.set_cons_succ]
 refine SW.take 18 (v := ?_) rfl (by kernel_rfl) (fun _ _ _ h => h) hS0 (by rfl) ?_ ?_
 rotate_left
 ·intro w9 hS9
  have u3 := (HK.out w9 hS9).2.2.2.2.2
  go_simp <;> (with_reducible rfl)
 simp only [Act.put, List.setIfInBounds_toArray, List.set_cons_zero, List.set_cons_succ]
 refine SW.take 19 (v := ?_) rfl (by kernel_rfl) (fun _ _ _ h => h) hS0 (by rfl) ?_ ?_
 rotate_left
 ·intro w9 hS9
  go_simp <;> (with_reducible rfl)
 simp only [Act.put, List.setIfInBounds_toArray, List.set_cons_zero, List.set_cons_succ]
 refine SW.take 20 (v := ?_) rfl (by kernel_rfl) (fun _ _ _ h => h) hS0 (by rfl) ?_ ?_
 rotate_left
 ·intro w9 hS9
  go_simp <;> (with_reducible rfl)
 simp only [Act.put, List.setIfInBounds_toArray, List.set_cons_zero, List.set_cons_succ]
 have x4 := (blk_cell HM.out.hg 4).trans (show _ = some (Value.slice s.a4 s.n4 s.c4) from rfl)
 have HMd := Aside0.mk (HM.out.step (below_drew (Below.refl _ _)))
 refine SW.act2 1 21 rfl rfl (by kernel_rfl) ?_ ?_
 ·intro K hK
  go_simp
  refine hK _ _ hS0 ?_
  clear hK K
  refine SW.act 21 rfl (by kernel_rfl) ?_
  intro K hK
  go_simp
  refine hK _ _ (Kp.below (below_drew ((Below.refl _ _).alloc (Nat.le_refl _) _)) _) ?_
  clear hK K
  refine SW.act 22 rfl (by kernel_rfl) ?_
  intro K hK
  rw [show (w2.alloc (Obj.cells #[.int .u64 u, .int .u64 v0, .int .u64 v1, .int .u64 v2, .int .u64 v3] 139)).drew = w2.drew.alloc (Obj.cells [Value.int .u64 u, .int .u64 v0, .int .u64 v1, .int .u64 v2, .int .u64 v3].toArray 139) from rfl]
  refine Kd.R_append_step k139 (w0 := w0) w0.heap.size ?aW (.tmp 219) (.tmp 239) 92 139 (.agg #[.int .u64 0, .int .u64 0, .int .u64 0, .int .u64 0, .int .u64 0]) 40 ?aC Tryd.underlying92 info139b rfl (by decide) (by decide) (.slice s.a4 s.n4 s.c4) p.L ⟨u, v0, v1, v2, v3⟩ [.int .u64 u, .int .u64 v0, .int .u64 v1, .int .u64 v2, .int .u64 v3] (fun _ => True) (fun _ => False) ?aV ?aX ?aP (fun _ hk => hk.elim) ?aF ?aO ?aB ?aS ?aL ?_
  (case aW => rfl); (case aC => rfl); (case aV => rfl); (case aX => rfl); (case aP => exact k139_mkM _ _ _ ⟨u, v0, v1, v2, v3⟩); (case aF => exact (fun _ _ => trivial)); (case aO => exact HMd.out.mp.st.L); (case aB => exact HMd.out.mp.st.below); (case aS => exact HMd.out.mp.st.below.size); (case aL => have := HLL.out; omega)
  intro v1_ w9 ho hb hg hat
  obtain ⟨A1, c1, e1⟩ := Kd.R_slice ho
  have HRS := Aside0.mk ((RowSt.start HM.out.mp.st.L (below_drew (Below.refl _ _))).next ho hg hat)
  clear ho hb hg hat
  have hl1 : (p.L ++ [(⟨u, v0, v1, v2, v3⟩ : S139)]).length = p.L.length + 1 := by simp
  rw [hl1] at e1
  subst e1
  clear hl1
  have HM5 := Aside0.mk (HM.out.pst (HM.out.mp.st.setL HRS.out))
  have hS5 : Kp w2 w9 (fun k => s.lv.ownBlock = some k ∨ k = w.heap.size) := (Kp.grown HRS.out.grown).mono (fun k e => .inl e)
  refine hK _ _ hS5 ?_
  clear hK K
  simp only [Act.put, List.setIfInBounds_toArray, List.set_cons_zero, List.set_cons_succ]
  clear hS0
  have hS0 := hS5
  refine SW.take 23 (v := ?_) rfl (by kernel_rfl) (fun _ _ _ h => h) hS0 (by rfl) ?_ ?_
  rotate_left
  ·intro w9 hS9
   go_simp <;> (with_reducible rfl)
  simp only [Act.put, List.setIfInBounds_toArray, List.set_cons_zero, List.set_cons_succ]
  have q4 := blk_frozen HM5.out.hg 4
  have x5 := (blk_cell HM5.out.hg 4).trans (show _ = some (Value.slice s.a4 s.n4 s.c4) from rfl)
  refine SW.act 24 rfl (by kernel_rfl) ?_
  intro K hK
  go_simp
  refine hK _ _ (hS5.then_ (kp_set w9 w.heap.size 4 _) (fun _ e => e) (fun k e => .inl (.inr e))) ?_
  clear hK K
  refine SW.done (by kernel_rfl) ?_
  have HM6 := Aside0.mk (show Mx w0 gt gf w (w9.setCell ⟨w.heap.size, 4, none⟩ (.slice A1 (p.L.length + 1) c1)) s (s.setL A1 (p.L.length + 1) c1) { p with L := p.L ++ [(⟨u, v0, v1, v2, v3⟩ : S139)] } (.slice (some ⟨gx, 0, none⟩) xs.length c) xs (s.setL A1 (p.L.length + 1) c1).cs fc ic (.slice (some ⟨gv, 0, none⟩) 4 cv) [v0, v1, v2, v3] from HM5.out.put 4 (.slice A1 (p.L.length + 1) c1))
  clear HM HMd HM5 q4 x5 hS5 hS0
  go_wp2_with (first | ((with_reducible refine gate_dst (N := 446) rfl ?_); refine load95 _ rfl rfl _ rfl _ HM6.out.hg (Cs.of (s.setL A1 (p.L.length + 1) c1)) ?_) | ((with_reducible refine gate_store (t := 95) (p := 8) rfl ?_); refine storeS _ _ rfl rfl rfl _ rfl _ rfl _ HM6.out.hr rfl (Cs.of (s.setL A1 (p.L.length + 1) c1)) ?_; intro W3 h2 hk3))
  refine bodyPost_ret (results_cell_row rfl _ _ (w.heap.size + 3) 95 _ (0, 0) _ rfl h2 hu95 rfl (by kernel_rfl)) rfl ?_
  exact ⟨s.setL A1 (p.L.length + 1) c1, rfl, by rw [HU.out, HEV.out]; exact HM6.out.fin hk3⟩
 ·intro K hK
  go_simp
  refine hK _ _ (Kp.below (below_drew ((Below.refl _ _).alloc (Nat.le_refl _) _)) _) ?_
  clear hK K
  refine SW.act 1 rfl (by kernel_rfl) ?_
  intro K hK
  have x4 := pw_cell_below ((Below.refl _ _).alloc (Nat.le_refl _) (Obj.cells #[.int .u64 u, .int .u64 v0, .int .u64 v1, .int .u64 v2, .int .u64 v3] 139)) x4
  go_simp
  refine hK _ _ (Kp.below (below_drew ((Below.refl _ _).alloc (Nat.le_refl _) _)) _) ?_
  clear hK K
  refine SW.act 22 rfl (by kernel_rfl) ?_
  intro K hK
  rw [show (w2.alloc (Obj.cells #[.int .u64 u, .int .u64 v0, .int .u64 v1, .int .u64 v2, .int .u64 v3] 139)).drew = w2.drew.alloc (Obj.cells [Value.int .u64 u, .int .u64 v0, .int .u64 v1, .int .u64 v2, .int .u64 v3].toArray 139) from rfl]
  refine Kd.R_append_step k139 (w0 := w0) w0.heap.size ?bW (.tmp 219) (.tmp 239) 92 139 (.agg #[.int .u64 0, .int .u64 0, .int .u64 0, .int .u64 0, .int .u64 0]) 40 ?bC Tryd.underlying92 info139b rfl (by decide) (by decide) (.slice s.a4 s.n4 s.c4) p.L ⟨u, v0, v1, v2, v3⟩ [.int .u64 u, .int .u64 v0, .int .u64 v1, .int .u64 v2, .int .u64 v3] (fun _ => True) (fun _ => False) ?bV ?bX ?bP (fun _ hk => hk.elim) ?bF ?bO ?bB ?bS ?bL ?_
  (case bW => rfl); (case bC => rfl); (case bV => rfl); (case bX => rfl); (case bP => exact k139_mkM _ _ _ ⟨u, v0, v1, v2, v3⟩); (case bF => exact (fun _ _ => trivial)); (case bO => exact HMd.out.mp.st.L); (case bB => exact HMd.out.mp.st.below); (case bS => exact HMd.out.mp.st.below.size); (case bL => have := HLL.out; omega)
  intro v1_ w9 ho hb hg hat
  obtain ⟨A1, c1, e1⟩ := Kd.R_slice ho
  have HRS := Aside0.mk ((RowSt.start HM.out.mp.st.L (below_drew (Below.refl _ _))).next ho hg hat)
  clear ho hb hg hat
  have hl1 : (p.L ++ [(⟨u, v0, v1, v2, v3⟩ : S139)]).length = p.L.length + 1 := by simp
  rw [hl1] at e1
  subst e1
  clear hl1
  have HM5 := Aside0.mk (HM.out.pst (HM.out.mp.st.setL HRS.out))
  have hS5 : Kp w2 w9 (fun k => s.lv.ownBlock = some k ∨ k = w.heap.size) := (Kp.grown HRS.out.grown).mono (fun k e => .inl e)
  refine hK _ _ hS5 ?_
  clear hK K
  simp only [Act.put, List.setIfInBounds_toArray, List.set_cons_zero, List.set_cons_succ]
  clear hS0
  have hS0 := hS5
  refine SW.take 23 (v := ?_) rfl (by kernel_rfl) (fun _ _ _ h => h) hS0 (by rfl) ?_ ?_
  rotate_left
  ·intro w9 hS9
   go_simp <;> (with_reducible rfl)
  simp only [Act.put, List.setIfInBounds_toArray, List.set_cons_zero, List.set_cons_succ]
  have q4 := blk_frozen HM5.out.hg 4
  have x5 := (blk_cell HM5.out.hg 4).trans (show _ = some (Value.slice s.a4 s.n4 s.c4) from rfl)
  refine SW.act 24 rfl (by kernel_rfl) ?_
  intro K hK
  go_simp
  refine hK _ _ (hS5.then_ (kp_set w9 w.heap.size 4 _) (fun _ e => e) (fun k e => .inl (.inr e))) ?_
  clear hK K
  refine SW.done (by kernel_rfl) ?_
  have HM6 := Aside0.mk (show Mx w0 gt gf w (w9.setCell ⟨w.heap.size, 4, none⟩ (.slice A1 (p.L.length + 1) c1)) s (s.setL A1 (p.L.length + 1) c1) { p with L := p.L ++ [(⟨u, v0, v1, v2, v3⟩ : S139)] } (.slice (some ⟨gx, 0, none⟩) xs.length c) xs (s.setL A1 (p.L.length + 1) c1).cs fc ic (.slice (some ⟨gv, 0, none⟩) 4 cv) [v0, v1, v2, v3] from HM5.out.put 4 (.slice A1 (p.L.length + 1) c1))
  clear HM HMd HM5 q4 x5 hS5 hS0
  go_wp2_with (first | ((with_reducible refine gate_dst (N := 446) rfl ?_); refine load95 _ rfl rfl _ rfl _ HM6.out.hg (Cs.of (s.setL A1 (p.L.length + 1) c1)) ?_) | ((with_reducible refine gate_store (t := 95) (p := 8) rfl ?_); refine storeS _ _ rfl rfl rfl _ rfl _ rfl _ HM6.out.hr rfl (Cs.of (s.setL A1 (p.L.length + 1) c1)) ?_; intro W3 h2 hk3))
  refine bodyPost_ret (results_cell_row rfl _ _ (w.heap.size + 3) 95 _ (0, 0) _ rfl h2 hu95 rfl (by kernel_rfl)) rfl ?_
  exact ⟨s.setL A1 (p.L.length + 1) c1, rfl, by rw [HU.out, HEV.out]; exact HM6.out.fin hk3⟩
set_option maxHeartbeats 4000000 in
set_option maxRecDepth 20000 in
theorem mem39 (h : StI w0 gt gf w s p) (hx : XR w0 w s (.slice A xs.length c) xs) (hI : InI w0 i A7 A8 c8 xs.length) (hF : FrI w0 w fc fr) (hop : i.f0 = 39) (hn0 : 0 <= i.f4) (hn1 : i.f4 < fr.slots.length) (hbd : 4096 <= rd fr.slots i.f4 /\ 0 <= rd fr.sizes i.f4 /\ rd fr.slots i.f4 + rd fr.sizes i.f4 <= 4194304) (hml : p.mem.length <= 4194304) (hll : p.L.length <= 1048576) :
  Calls Tryd.prog 57 #[.agg s.cs, .agg fc, .agg (icOf i A7 c7 A8 c8), .slice A xs.length c] w (MPost w0 gt gf w s (zrP p (rd fr.slots i.f4) (rd fr.sizes i.f4)) (.slice A xs.length c) xs) := by
 have hu95 := Tryd.underlying95
 have hu44 := Tryd.underlying44
 have hu71 := Tryd.underlying71
 have hu112 := Tryd.underlying112
 have hu22 := Tryd.underlying22
 have HS := Aside0.mk h
 have HXR := Aside0.mk hx
 have HI := Aside0.mk hI
 have HF := Aside0.mk hF
 have HVC := Aside0.mk (fun W (hb : Below w.heap.size w W) => vals_calls W A c xs A7 c7 i.f7 (hx.row.keep rfl (Kp.below hb (fun _ => False)) (fun _ _ h => h)).reads.2.2 (Kd.C_below hI.a7 (gt_below h hb)) hI.r7 hI.l7)
 have HC := Aside0.mk (show (icOf i A7 c7 A8 c8)[0]? = some (.int .i64 39) /\ (icOf i A7 c7 A8 c8)[4]? = some (.int .u64 i.f4) /\ (icOf i A7 c7 A8 c8)[7]? = some (.slice A7 i.f7.length c7) from ⟨by rw [<- hop]; rfl, rfl, rfl⟩)
 obtain ⟨A5, c5, hf5, hs5⟩ := hF.f5
 obtain ⟨A3, c3, hf3, hs3⟩ := hF.f3
 have HF5 := Aside0.mk hf5
 have HF3 := Aside0.mk hf3
 have HS3 := Aside0.mk hs3
 have HBD := Aside0.mk hbd
 have HML := Aside0.mk hml
 have HLL := Aside0.mk hll
 have n0 := hn0
 have n1 : i.f4 < (fr.slots.length : Int) := hn1
 have n2 : i.f4 < (fr.sizes.length : Int) := by rw [<- hF.len]; exact hn1
 have HS5 := Aside0.mk (fun W (hk : Kp w W (fun k => Own s k ∨ (Value.slice A xs.length c).ownBlock = some k)) => hs5.keep rfl hk (fun k e e2 => e2.elim (fun q => h.not_own (hs5.lt e).2.2.choose_spec (by decide) q) (fun q => nrow (hs5.ne hx.row (by decide)) e q)))
 clear hf5 hs5 hf3 hs3
 generalize icOf i A7 c7 A8 c8 = ic at HC
 clear h hx hI hF hop hn0 hn1 hbd hml hll
 go_enter Tryd.func57, Tryd.ntmps57
 go_upto_region 1 with (fail)
 generalize hW : World.alloc (World.alloc (World.alloc (World.alloc w (Obj.cells s.cs 95)) (Obj.cells fc 112)) (Obj.cells ic 44)) _ = W
 have H4 := Aside0.mk (show B4 w W s.cs fc ic by rw [<- hW]; exact B4.new w s.cs fc ic)
 clear hW
 have y7 := (blk_cell H4.out.b2 7).trans HC.out.2.2
 go_upto_region 2 with (first | (go_at_call 55; (with_reducible refine (HVC.out _ H4.out.below).mono ?_); rintro e w2 ⟨Av, cv, rfl, hv, hb⟩; have HM := Aside0.mk (Mx.start HS.out HXR.out H4.out hb hv); clear hv hb H4 y7))
 have y0 := (blk_cell HM.out.hi 0).trans HC.out.1
 have y4 := (blk_cell HM.out.hi 4).trans HC.out.2.1
 have z5 := (blk_cell HM.out.hf 5).trans HF5.out
 have z3 := (blk_cell HM.out.hf 3).trans HF3.out
 obtain ⟨ad5, ea5, hsl⟩ := C_int (HS5.out _ HM.out.mp.kp).reads.2.2 i.f4 n0 n1
 obtain ⟨ad3, ea3, hsz⟩ := C_int (Kd.C_below HS3.out HM.out.mp.st.below) i.f4 n0 n2
 subst ea5
 subst ea3
 obtain ⟨f, hf⟩ : ∃ f, rd fr.slots i.f4 = f := ⟨_, rfl⟩
 obtain ⟨n, hn⟩ : ∃ n, rd fr.sizes i.f4 = n := ⟨_, rfl⟩
 have HFV := Aside0.mk hf
 have HNV := Aside0.mk hn
 rw [hf] at hsl
 rw [hn] at hsz
 obtain ⟨q, hq⟩ : ∃ q : Nat, f = 4096 + (q : Int) := ⟨(f - 4096).toNat, by have := HBD.out; omega⟩
 obtain ⟨m, hm⟩ : ∃ m : Nat, n = (m : Int) := ⟨n.toNat, by have := HBD.out; omega⟩
 have qm : (q : Int) + (m : Int) <= 4190208 := by have := HBD.out; omega
 subst hq
 subst hm
 clear hf hn HS5
 go_upto_region 43 with (fail)
 go_loopg [17] m (fun gg v17 w' => ∃ (k : Nat) (l : List Int) (s1 : SV), k <= m /\ m - k <= gg /\ v17 = .int .u64 (4096 + (q : Int) + (k : Int)) /\ Aside0 (zrI (m - k) (q + k) l = zrI m q p.mem /\ l.length <= 4194304 /\ s1.lv = s.lv) /\ Aside0 (Mx w0 gt gf w w' s s1 { p with mem := l } (.slice A xs.length c) xs s1.cs fc ic (.slice Av i.f7.length cv) (i.f7.map (rd xs))))
 case atStart => exact ⟨0, p.mem, s, Nat.zero_le _, Nat.le_refl _, by first | rfl | (congr 1; omega) | simp, ⟨rfl, HML.out, rfl⟩, HM⟩
 case round =>
  clear HM y0 y4 z5 z3 hsl hsz
  obtain ⟨k, l, s1, hk, hgk, rfl, HV, HM⟩ := hrel
  by_cases hlt : k < m
  ·have k0 : (k : Int) < (m : Int) := by omega
   have k1 : (k : Int) <= 4190208 := by omega
   have HZ := Aside0.mk (show zrI (m - k) (q + k) l = zrI (m - (k + 1)) (q + (k + 1)) (if rd l ((q + k : Nat) : Int) = 0 then l else putL l (q + k) 0) by rw [show m - k = (m - (k + 1)) + 1 by omega]; rfl)
   have HBC := Aside0.mk (byteAt_calls s1 l (4096 + (q : Int) + (k : Int)) wr HM.out.mp.st.mem.readsC (by omega) (by omega) HV.out.2.1)
   rw [show 4096 + (q : Int) + (k : Int) - 4096 = ((q + k : Nat) : Int) by omega] at HBC
   by_cases hz : rd l ((q + k : Nat) : Int) = 0
   ·rw [if_pos hz] at HZ
    rw [hz] at HBC
    clear hz
    go_wp2_with (first | ((with_reducible refine gate_dst (N := 267) rfl ?_); refine load95 _ rfl rfl _ rfl _ HM.out.hg (Cs.of s1) ?_) | (go_at_call 68; (with_reducible refine HBC.out.mono ?_); rintro e w8 ⟨rfl, hb8⟩; have HM5 := Aside0.mk (HM.out.step hb8); clear hb8))
    go_roundg (m - (k + 1))
    case measure => omega
    case rel => exact ⟨k + 1, l, s1, by omega, Nat.le_refl _, by first | rfl | (congr 1; omega) | go_num, ⟨by rw [<- HZ.out]; exact HV.out.1, HV.out.2⟩, HM5⟩
   ·rw [if_neg hz] at HZ
    generalize rd l ((q + k : Nat) : Int) = b at HBC hz
    have HPC := Aside0.mk (fun W (hb : Below wr.heap.size wr W) => mput_calls s1 l (q + k) 0 w0 W (HM.out.step hb).mp.st.mem (HM.out.step hb).mp.st.below (by omega) HV.out.2.1)
    rw [show 4096 + ((q + k : Nat) : Int) = 4096 + (q : Int) + (k : Int) by omega] at HPC
    have HLN := Aside0.mk (putL_len2 (q + k) 0 HV.out.2.1 (by omega))
    go_wp2_with (first | ((with_reducible refine gate_dst (N := 267) rfl ?_); refine load95 _ rfl rfl _ rfl _ HM.out.hg (Cs.of s1) ?_) | ((with_reducible refine gate_dst (N := 271) rfl ?_); refine load95 _ rfl rfl _ rfl _ HM5.out.hg (Cs.of s1) ?_) | (go_at_call 68; (with_reducible refine HBC.out.mono ?_); rintro e w8 ⟨rfl, hb8⟩; have HM5 := Aside0.mk (HM.out.step hb8); have HB8 := Aside0.mk hb8; clear hb8) | (go_at_call 67; (with_reducible refine (HPC.out _ HB8.out).mono ?_); rintro e w7 ⟨A1, n1, c1, rfl, hrs, hb7⟩; have HM6 := Aside0.mk (HM5.out.pst (HM5.out.mp.st.setMem hrs)); clear hrs hb7) | ((with_reducible refine gate_store (t := 95) (p := 4) rfl ?_); refine storeS _ _ rfl rfl rfl _ rfl _ rfl _ HM6.out.hg (Cs.of s1).sz (Cs.of (s1.mem A1 n1 c1)) ?_; intro W5 h5 hk5; have HM7 := Aside0.mk (HM6.out.copy h5 hk5); clear h5 hk5))
    go_roundg (m - (k + 1))
    case measure => omega
    case rel => exact ⟨k + 1, putL l (q + k) 0, s1.mem A1 n1 c1, by omega, Nat.le_refl _, by first | rfl | (congr 1; omega) | go_num, ⟨by rw [<- HZ.out]; exact HV.out.1, HLN.out, HV.out.2.2⟩, HM7⟩
  ·obtain rfl : k = m := by omega
   have HV2 := Aside0.mk (show l = zrI k q p.mem by have h := HV.out.1; rwa [Nat.sub_self] at h)
   have x4 := (blk_cell HM.out.hg 4).trans (show _ = some (Value.slice s1.a4 s1.n4 s1.c4) from rfl)
   rw [HM.out.mp.st.L.reads.1] at x4
   have HLF := Aside0.mk (fun (hp : 0 < p.L.length) => Kd.R_form HM.out.mp.st.L hp)
   have HLC := Aside0.mk HM.out.mp.st.L.reads.2.2
   have HKB := Aside0.mk (show ∀ x : S139, keepB (4096 + (q : Int)) (4096 + (q : Int) + (k : Int)) x = (decide (x.f0 < 4096 + (q : Int)) || decide (4096 + (q : Int) + (k : Int) <= x.f0)) from fun _ => rfl)
   obtain ⟨kp, hkp⟩ : ∃ kp, kp = keepB (4096 + (q : Int)) (4096 + (q : Int) + (k : Int)) := ⟨_, rfl⟩
   rw [<- hkp] at HKB
   have HKP := Aside0.mk hkp
   clear hkp
   have HU139 := Aside0.mk Tryd.underlying139
   have HI139 := Aside0.mk (show (Tryd.prog.info? 139).map (·.size) = some 5 by kernel_rfl)
   have HLB := Aside0.mk (show (p.L.length : Int) <= 1048576 by have := HLL.out; omega)
   obtain ⟨wz, hwz⟩ : ∃ wz : World, wz = wr := ⟨_, rfl⟩
   subst hwz
   go_wp2
   go_loopg [18, 277] p.L.length (fun gg v18 v277 w' => ∃ (j : Nat) (Al : Option Addr) (cl : Nat) (acc : List S139), j <= p.L.length /\ p.L.length - j <= gg /\ v277 = .int .i64 (j : Int) /\ v18 = .slice Al acc.length cl /\ Aside0 (acc = (p.L.take j).filter kp /\ acc.length <= j) /\ Aside0 (Kd.R k139 139 w' wz.heap.size (fun _ => True) (.slice Al acc.length cl) acc) /\ Aside0 (Below wz.heap.size wz w'))
   case atStart => exact ⟨0, none, 0, [], Nat.zero_le _, Nat.le_refl _, rfl, rfl, ⟨rfl, Nat.le_refl _⟩, ⟨Kd.R_nil _ _ _ _ _⟩, ⟨Below.refl _ _⟩⟩
   case round =>
    obtain ⟨j, Al, cl, acc, hj, hgj, rfl, rfl, HA, HR, HB⟩ := hrel
    have x4 := pw_cell_below HB.out x4
    have jb : (p.L.length : Int) <= 1048576 := HLB.out
    by_cases hlt2 : j < p.L.length
    ·have j0 : 0 <= (j : Int) := by omega
     have j1 : (j : Int) < (p.L.length : Int) := by omega
     obtain ⟨gl, capl, el1, _, _, _⟩ := HLF.out (by omega)
     injection el1 with el1 el2 el3
     have hC := HLC.out
     rw [el1] at hC x4
     have hrg := cells139 hC j (by omega)
     have HRG := Aside0.mk (show wr.rangeAt gl (j * 5) [.int .u64 (p.L.getD j z139).f0, .int .u64 (p.L.getD j z139).f1, .int .u64 (p.L.getD j z139).f2, .int .u64 (p.L.getD j z139).f3, .int .u64 (p.L.getD j z139).f4] from fun e v hv => pw_cell_below HB.out (hrg e v hv))
     have yf : wr.cell? ⟨gl, j * 5, none⟩ = some (.int .u64 (p.L.getD j z139).f0) := pw_cell_below HB.out (hrg 0 _ rfl)
     have HF := Aside0.mk (filter_snoc kp hlt2)
     have HKX := Aside0.mk (HKB.out (p.L.getD j z139))
     clear hC hrg el1 el2 el3
     generalize p.L.getD j z139 = x at HRG yf HF HKX
     by_cases t1 : x.f0 < 4096 + (q : Int)
     ·have HT := Aside0.mk (show kp x = true by rw [HKX.out]; simp only [decide_eq_true t1, Bool.true_or, Bool.or_true])
      rw [if_pos HT.out] at HF
      go_wp2_with (first | ((with_reducible refine gate_dst (N := 303) rfl ?_); refine wpList_load_mid rfl 139 _ rfl gl (j * 5) rfl [.int .u64 x.f0, .int .u64 x.f1, .int .u64 x.f2, .int .u64 x.f3, .int .u64 x.f4] _ HRG.out HU139.out rfl HI139.out ?_) | ((with_reducible refine gate_builtin (b := .append) (xs := #[.tmp 298, .tmp 304]) rfl ?_); at_builtin; refine Kd.R_append k139 (w0 := wz) wz.heap.size rfl (.tmp 298) (.tmp 304) 92 139 (.agg #[.int .u64 0, .int .u64 0, .int .u64 0, .int .u64 0, .int .u64 0]) 40 rfl Tryd.underlying92 info139b rfl (by decide) (by decide) (.slice Al acc.length cl) acc x [.int .u64 x.f0, .int .u64 x.f1, .int .u64 x.f2, .int .u64 x.f3, .int .u64 x.f4] (fun _ => True) (fun _ => False) rfl rfl ?cP (fun _ hk => hk.elim) ?cF ?cO ?cB ?cS ?cL ?_; (case cP => exact k139_mkM _ _ _ x); (case cB => exact HB.out); (case cF => exact (fun _ _ => trivial)); (case cO => exact HR.out); (case cS => exact HB.out.size); (case cL => have := HA.out.2; omega); intro v1 w9 ho hb hg hat; have HO := Aside0.mk ho; have HB9 := Aside0.mk hb; clear ho hb hg hat; obtain ⟨A1, c1, e1⟩ := Kd.R_slice HO.out; subst e1))
      go_roundg (p.L.length - (j + 1))
      case measure => omega
      case rel => exact ⟨j + 1, A1, c1, acc ++ [x], by omega, Nat.le_refl _, by go_num, by first | rfl | (rw [List.length_append]; rfl) | simp, ⟨by rw [HF.out, <- HA.out.1], by rw [List.length_append]; have := HA.out.2; simp; omega⟩, HO, HB9⟩
     by_cases t2 : 4096 + (q : Int) + (k : Int) <= x.f0
     ·have HT := Aside0.mk (show kp x = true by rw [HKX.out]; simp only [decide_eq_true t2, Bool.true_or, Bool.or_true])
      rw [if_pos HT.out] at HF
      go_wp2_with (first | ((with_reducible refine gate_dst (N := 303) rfl ?_); refine wpList_load_mid rfl 139 _ rfl gl (j * 5) rfl [.int .u64 x.f0, .int .u64 x.f1, .int .u64 x.f2, .int .u64 x.f3, .int .u64 x.f4] _ HRG.out HU139.out rfl HI139.out ?_) | ((with_reducible refine gate_builtin (b := .append) (xs := #[.tmp 298, .tmp 304]) rfl ?_); at_builtin; refine Kd.R_append k139 (w0 := wz) wz.heap.size rfl (.tmp 298) (.tmp 304) 92 139 (.agg #[.int .u64 0, .int .u64 0, .int .u64 0, .int .u64 0, .int .u64 0]) 40 rfl Tryd.underlying92 info139b rfl (by decide) (by decide) (.slice Al acc.length cl) acc x [.int .u64 x.f0, .int .u64 x.f1, .int .u64 x.f2, .int .u64 x.f3, .int .u64 x.f4] (fun _ => True) (fun _ => False) rfl rfl ?dP (fun _ hk => hk.elim) ?dF ?dO ?dB ?dS ?dL ?_; (case dP => exact k139_mkM _ _ _ x); (case dB => exact HB.out); (case dF => exact (fun _ _ => trivial)); (case dO => exact HR.out); (case dS => exact HB.out.size); (case dL => have := HA.out.2; omega); intro v1 w9 ho hb hg hat; have HO := Aside0.mk ho; have HB9 := Aside0.mk hb; clear ho hb hg hat; obtain ⟨A1, c1, e1⟩ := Kd.R_slice HO.out; subst e1))
      go_roundg (p.L.length - (j + 1))
      case measure => omega
      case rel => exact ⟨j + 1, A1, c1, acc ++ [x], by omega, Nat.le_refl _, by go_num, by first | rfl | (rw [List.length_append]; rfl) | simp, ⟨by rw [HF.out, <- HA.out.1], by rw [List.length_append]; have := HA.out.2; simp; omega⟩, HO, HB9⟩
     ·have HT := Aside0.mk (show kp x = false by rw [HKX.out, decide_eq_false t1, decide_eq_false t2]; rfl)
      rw [if_neg (by rw [HT.out]; decide), List.append_nil] at HF
      go_wp2
      go_roundg (p.L.length - (j + 1))
      case measure => omega
      case rel => exact ⟨j + 1, Al, cl, acc, by omega, Nat.le_refl _, by go_num, rfl, ⟨by rw [HF.out, <- HA.out.1], by have := HA.out.2; omega⟩, HR, HB⟩
    ·obtain rfl : j = p.L.length := by omega
     have HQ := Aside0.mk (show zrP p (rd fr.slots i.f4) (rd fr.sizes i.f4) = { p with mem := l, L := acc } by
      unfold zrP
      rw [HFV.out, HNV.out, show (4096 + (q : Int) - 4096).toNat = q by omega, Int.toNat_natCast, <- HV2.out, <- HKP.out]
      have h := HA.out.1
      rw [List.take_length] at h
      rw [h])
     have HM2 := Aside0.mk ((HM.out.step HB.out).newL (Kd.R_lower HR.out HM.out.mp.kp.size))
     have q4 := blk_frozen HM2.out.hg 4
     have HM3 := Aside0.mk (show Mx w0 gt gf w (wr.setCell ⟨w.heap.size, 4, none⟩ (.slice Al acc.length cl)) s (s1.setL Al acc.length cl) { p with mem := l, L := acc } (.slice A xs.length c) xs (s1.setL Al acc.length cl).cs fc ic (.slice Av i.f7.length cv) (i.f7.map (rd xs)) from HM2.out.put 4 (.slice Al acc.length cl))
     clear HM HM2 HR HB
     go_wp2_with (first | ((with_reducible refine gate_dst (N := 446) rfl ?_); refine load95 _ rfl rfl _ rfl _ HM3.out.hg (Cs.of (s1.setL Al acc.length cl)) ?_) | ((with_reducible refine gate_store (t := 95) (p := 8) rfl ?_); refine storeS _ _ rfl rfl rfl _ rfl _ rfl _ HM3.out.hr rfl (Cs.of (s1.setL Al acc.length cl)) ?_; intro W3 h2 hk3))
     refine bodyPost_ret (results_cell_row rfl _ _ (w.heap.size + 3) 95 _ (0, 0) _ rfl h2 hu95 rfl (by kernel_rfl)) rfl ?_
     exact ⟨s1.setL Al acc.length cl, rfl, by rw [HQ.out]; exact HM3.out.fin hk3⟩
set_option maxHeartbeats 4000000 in
set_option maxRecDepth 20000 in
theorem mem40 (h : StI w0 gt gf w s p) (hx : XR w0 w s (.slice A xs.length c) xs) (hI : InI w0 i A7 A8 c8 xs.length) (hF : FrI w0 w fc fr) (hop : i.f0 = 40) (a : Nat) (ha : i.f2 = (a : Int)) (hal : a < xs.length) (hu0 : 0 <= rd xs (a : Int)) (hfr : 0 <= p.free /\ p.free <= 2097184) (hky : 0 <= p.keys /\ p.keys < 1048576) (hlk : p.locks.length <= 1048576) (hbl : p.blocks.length <= 1048576) (hl8 : i.f8.length = 5) :
  Calls Tryd.prog 57 #[.agg s.cs, .agg fc, .agg (icOf i A7 c7 A8 c8), .slice A xs.length c] w (MPost w0 gt gf w s (alP p (rd xs (a : Int))) (.slice A xs.length c) (alX p xs i.f8 (rd xs (a : Int)))) := by
 have hu95 := Tryd.underlying95
 have hu44 := Tryd.underlying44
 have hu71 := Tryd.underlying71
 have hu112 := Tryd.underlying112
 have hu22 := Tryd.underlying22
 have HS := Aside0.mk h
 have HXR := Aside0.mk hx
 have HI := Aside0.mk hI
 have HF := Aside0.mk hF
 have HVC := Aside0.mk (fun W (hb : Below w.heap.size w W) => vals_calls W A c xs A7 c7 i.f7 (hx.row.keep rfl (Kp.below hb (fun _ => False)) (fun _ _ h => h)).reads.2.2 (Kd.C_below hI.a7 (gt_below h hb)) hI.r7 hI.l7)
 have HC := Aside0.mk (show (icOf i A7 c7 A8 c8)[0]? = some (.int .i64 40) /\ (icOf i A7 c7 A8 c8)[2]? = some (.int .i64 (a : Int)) /\ (icOf i A7 c7 A8 c8)[7]? = some (.slice A7 i.f7.length c7) /\ (icOf i A7 c7 A8 c8)[8]? = some (.slice A8 i.f8.length c8) from ⟨by rw [<- hop]; rfl, by rw [<- ha]; rfl, rfl, rfl⟩)
 have HU0 := Aside0.mk hu0
 have HFR := Aside0.mk hfr
 have HKY := Aside0.mk hky
 have HLK := Aside0.mk hlk
 have HBL := Aside0.mk hbl
 have HL8 := Aside0.mk hl8
 generalize icOf i A7 c7 A8 c8 = ic at HC
 have a0 : 0 <= (a : Int) := by omega
 have a1 : (a : Int) < (xs.length : Int) := by omega
 clear h hx hI hF hop ha hu0 hfr hky hlk hbl hl8
 go_enter Tryd.func57, Tryd.ntmps57
 go_upto_region 1 with (fail)
 generalize hW : World.alloc (World.alloc (World.alloc (World.alloc w (Obj.cells s.cs 95)) (Obj.cells fc 112)) (Obj.cells ic 44)) _ = W
 have H4 := Aside0.mk (show B4 w W s.cs fc ic by rw [<- hW]; exact B4.new w s.cs fc ic)
 clear hW
 have y7 := (blk_cell H4.out.b2 7).trans HC.out.2.2.1
 go_upto_region 2 with (first | (go_at_call 55; (with_reducible refine (HVC.out _ H4.out.below).mono ?_); rintro e w2 ⟨Av, cv, rfl, hv, hb⟩; have HM := Aside0.mk (Mx.start HS.out HXR.out H4.out hb hv); clear hv hb H4 y7))
 have y0 := (blk_cell HM.out.hi 0).trans HC.out.1
 have y2 := (blk_cell HM.out.hi 2).trans HC.out.2.1
 have y8 := (blk_cell HM.out.hi 8).trans HC.out.2.2.2
 obtain ⟨gx, capx, ex1, hgbx, hglx, clx, hgcx⟩ := Kd.R_form HM.out.mp.xr.row (by omega)
 injection ex1 with ex1 ex2 ex3
 subst ex1
 subst ex3
 obtain ⟨hxa, hfa⟩ := Kd.R_celln 0 HM.out.mp.xr.row (a : Int) a0 a1
 obtain ⟨u, hu⟩ : ∃ u, rd xs (a : Int) = u := ⟨_, rfl⟩
 rw [Int.toNat_natCast, show rdOf (0 : Int) xs (a : Int) = u from hu] at hxa
 have HU := Aside0.mk hu
 have u0 : 0 <= u := by rw [<- hu]; exact HU0.out
 clear hgbx hglx hgcx ex2 hu
 have x8 := (blk_cell HM.out.hg 8).trans (show _ = some (Value.int .i64 s.free) from rfl)
 rw [HM.out.mp.st.num.free] at x8
 have f0 : 0 <= p.free := HFR.out.1
 have f1 : p.free <= 2097184 := HFR.out.2
 have HAB := Aside0.mk (show alB p u = (decide (u < 1) || (decide (4194304 < u) || decide (2097152 < p.free + u))) from rfl)
 have HX := Aside0.mk (show u < 1 ∨ ¬ u < 1 /\ 4194304 < u ∨ ¬ u < 1 /\ ¬ 4194304 < u /\ 2097152 < p.free + u ∨ ¬ u < 1 /\ ¬ 4194304 < u /\ ¬ 2097152 < p.free + u by omega)
 rcases HX.out with t1 | ⟨t1, t2⟩ | ⟨t1, t2, t3⟩ | ⟨t1, t2, t3⟩
 case inr.inr.inr =>
  clear HX
  have HAF := Aside0.mk (show alB p u = false by rw [HAB.out, decide_eq_false t1, decide_eq_false t2, decide_eq_false t3]; rfl)
  have HQ := Aside0.mk (show alP p (rd xs (a : Int)) = { p with locks := p.locks ++ [p.keys + 1], keys := p.keys + 1, blocks := p.blocks ++ [⟨p.free, p.free + u, false⟩], free := upI (p.free + u) } /\ alX p xs i.f8 (rd xs (a : Int)) = wrL xs i.f8 (alV p u) by unfold alP alX; rw [HU.out, HAF.out]; exact ⟨rfl, rfl⟩)
  have HFC := Aside0.mk (fresh_calls s p.locks w0 w2 HM.out.mp.st.locks HM.out.mp.st.below (by rw [HM.out.mp.st.num.keys]; exact HKY.out.1) (by rw [HM.out.mp.st.num.keys]; have := HKY.out.2; omega) (by have := HLK.out; omega))
  rw [HM.out.mp.st.num.keys] at HFC
  go_upto_region 59 with (fail)
  clear x8 hxa hfa
  go_upto_region 60 with (first | ((with_reducible refine gate_dst (N := 332) rfl ?_); refine load95 _ rfl rfl _ rfl _ HM.out.hg (Cs.of s) ?_) | (go_at_call 54; (with_reducible refine HFC.out.mono ?_); rintro e w5 ⟨A1, c1, rfl, hrs⟩; have HM2 := Aside0.mk (HM.out.fresh hrs); clear hrs) | ((with_reducible refine gate_store (t := 95) (p := 4) rfl ?_); refine storeS _ _ rfl rfl rfl _ rfl _ rfl _ HM2.out.hg (Cs.of s).sz (Cs.of (s.fresh A1 (p.locks.length + 1) c1)) ?_; intro W5 h5 hk5; have HM3 := Aside0.mk (HM2.out.copy h5 hk5); clear h5 hk5))
  obtain ⟨s2, es2⟩ : ∃ s2 : SV, s2 = s.fresh A1 (p.locks.length + 1) c1 := ⟨_, rfl⟩
  rw [<- es2] at HM3
  have HK5 := Aside0.mk (show s2.n5 = p.locks.length + 1 by rw [es2]; rfl)
  clear es2 HM HM2
  have x8 := (blk_cell HM3.out.hg 8).trans (show s2.cs[8]? = some (.int .i64 p.free) by show some (Value.int .i64 s2.free) = _; rw [show s2.free = p.free from HM3.out.mp.st.num.free])
  have x7 := (blk_cell HM3.out.hg 7).trans (show _ = some (Value.slice s2.a6 s2.n6 s2.c6) from rfl)
  go_upto_region 62 with (first | ((with_reducible refine gate_builtin (b := .append) (xs := #[.tmp 338, .tmp 344]) rfl ?_); at_builtin; refine Kd.R_append k141 (w0 := w0) w0.heap.size rfl (.tmp 338) (.tmp 344) 93 141 (.agg #[.int .u64 0, .int .u64 0, .bool false]) 24 rfl Tryd.underlying93 info141 rfl (by decide) (by decide) (.slice s2.a6 s2.n6 s2.c6) p.blocks ⟨p.free, p.free + u, false⟩ [.int .u64 p.free, .int .u64 (p.free + u), .bool false] (fun _ => True) (fun _ => False) rfl rfl ?aP (fun _ hk => hk.elim) ?aF ?aO ?aB ?aS ?aL ?_; (case aP => exact k141_mkM _ _ _ ⟨p.free, p.free + u, false⟩); (case aB => exact HM3.out.mp.st.below); (case aF => exact (fun _ _ => trivial)); (case aO => exact HM3.out.mp.st.blocks); (case aS => exact HM3.out.mp.st.below.size); (case aL => have := HBL.out; omega); intro v1 w9 ho hb hg hat; obtain ⟨A2, c2, e2⟩ := Kd.R_slice ho; rw [show (p.blocks ++ [(⟨p.free, p.free + u, false⟩ : S141)]).length = p.blocks.length + 1 by simp] at e2; have HRS := Aside0.mk ((RowSt.start HM3.out.mp.st.blocks (Below.refl _ _)).next ho hg hat); clear ho hb hg hat; subst e2; have HM4 := Aside0.mk (HM3.out.pst (HM3.out.mp.st.setB HRS.out)); have q7 := blk_frozen HM4.out.hg 7; have y7c := (blk_cell HM4.out.hg 7).trans (show _ = some (Value.slice s2.a6 s2.n6 s2.c6) from rfl)))
  have HM5 := Aside0.mk (show Mx w0 gt gf w (w9.setCell ⟨w.heap.size, 7, none⟩ (.slice A2 (p.blocks.length + 1) c2)) s (s2.setB A2 (p.blocks.length + 1) c2) { p with locks := p.locks ++ [p.keys + 1], keys := p.keys + 1, blocks := p.blocks ++ [⟨p.free, p.free + u, false⟩] } (.slice (some ⟨gx, 0, none⟩) xs.length c) xs (s2.setB A2 (p.blocks.length + 1) c2).cs fc ic (.slice Av i.f7.length cv) (i.f7.map (rd xs)) from HM4.out.put 7 _)
  obtain ⟨s3, es3⟩ : ∃ s3 : SV, s3 = s2.setB A2 (p.blocks.length + 1) c2 := ⟨_, rfl⟩
  rw [<- es3] at HM5
  have HK6 := Aside0.mk (show s3.n5 = p.locks.length + 1 by rw [es3]; exact HK5.out)
  clear es3 HM3 HM4 q7 y7c x8 x7 HRS
  generalize w9.setCell ⟨w.heap.size, 7, none⟩ (.slice A2 (p.blocks.length + 1) c2) = W6 at HM5 ⊢
  have x8 := (blk_cell HM5.out.hg 8).trans (show s3.cs[8]? = some (.int .i64 p.free) by show some (Value.int .i64 s3.free) = _; rw [show s3.free = p.free from HM5.out.mp.st.num.free])
  have q8 := blk_frozen HM5.out.hg 8
  have HUP := Aside0.mk (fun W => up_calls (p.free + u) W (by omega) (by omega))
  go_upto_region 63 with (first | (go_at_call 39; (with_reducible refine (HUP.out _).mono ?_); rintro e w8 ⟨rfl, rfl⟩))
  have HM6 := Aside0.mk (show Mx w0 gt gf w (W6.setCell ⟨w.heap.size, 8, none⟩ (.int .i64 (upI (p.free + u)))) s { s3 with free := upI (p.free + u) } { p with locks := p.locks ++ [p.keys + 1], keys := p.keys + 1, blocks := p.blocks ++ [⟨p.free, p.free + u, false⟩], free := upI (p.free + u) } (.slice (some ⟨gx, 0, none⟩) xs.length c) xs ({ s3 with free := upI (p.free + u) } : SV).cs fc ic (.slice Av i.f7.length cv) (i.f7.map (rd xs)) from (HM5.out.put 8 _).free _)
  obtain ⟨s4, es4⟩ : ∃ s4 : SV, s4 = { s3 with free := upI (p.free + u) } := ⟨_, rfl⟩
  rw [<- es4] at HM6
  have HK7 := Aside0.mk (show s4.n5 = p.locks.length + 1 by rw [es4]; exact HK6.out)
  clear es4 HM5 x8 q8 HUP HK6 HK5
  generalize W6.setCell ⟨w.heap.size, 8, none⟩ (.int .i64 (upI (p.free + u))) = W7 at HM6 ⊢
  have x6 := (blk_cell HM6.out.hg 6).trans (show s4.cs[6]? = some (.int .u64 (p.keys + 1)) by show some (Value.int .u64 s4.keys) = _; rw [show s4.keys = p.keys + 1 from HM6.out.mp.st.num.keys])
  have x5 := (blk_cell HM6.out.hg 5).trans (show s4.cs[5]? = some (.slice s4.a5 (p.locks.length + 1) s4.c5) by show some (Value.slice s4.a5 s4.n5 s4.c5) = _; rw [HK7.out])
  have y8 := (blk_cell HM6.out.hi 8).trans HC.out.2.2.2
  have lk1 : (p.locks.length : Int) <= 1048576 := by have := HLK.out; omega
  have HWC := Aside0.mk (out5 HM6.out HI.out HL8.out p.free p.free (p.free + u) (p.keys + 1) (p.locks.length : Int))
  have HM7 := Aside0.mk (HM6.out.step ((Below.refl _ _).alloc (Nat.le_refl _) (Obj.cells #[.int .u64 p.free, .int .u64 p.free, .int .u64 (p.free + u), .int .u64 (p.keys + 1), .int .u64 (p.locks.length : Int)] 42)))
  go_wp2_with (first | (go_at_call 52; (with_reducible refine HWC.out.mono ?_); rintro e w8 ⟨rfl, hr8⟩; have HM8 := Aside0.mk (HM7.out.regs hr8); clear hr8) | ((with_reducible refine gate_dst (N := 446) rfl ?_); refine load95 _ rfl rfl _ rfl _ HM8.out.hg (Cs.of s4) ?_) | ((with_reducible refine gate_store (t := 95) (p := 8) rfl ?_); refine storeS _ _ rfl rfl rfl _ rfl _ rfl _ HM8.out.hr rfl (Cs.of s4) ?_; intro W3 h2 hk3))
  refine bodyPost_ret (results_cell_row rfl _ _ (w.heap.size + 3) 95 _ (0, 0) _ rfl h2 hu95 rfl (by kernel_rfl)) rfl ?_
  exact ⟨s4, rfl, by rw [HQ.out.1, HQ.out.2]; exact HM8.out.fin hk3⟩
 all_goals
  clear HX
  have HAT := Aside0.mk (show alB p u = true by rw [HAB.out]; simp [*])
  have HQ := Aside0.mk (show alP p (rd xs (a : Int)) = p.stopped 3 /\ alX p xs i.f8 (rd xs (a : Int)) = xs by unfold alP alX; rw [HU.out, HAT.out]; exact ⟨rfl, rfl⟩)
  go_wp2_with (first | ((with_reducible refine gate_dst (N := 330) rfl ?_); refine load95 _ rfl rfl _ rfl _ HM.out.hg (Cs.of s) ?_) | (go_at_call 53; (with_reducible refine (stop_calls s 3 _).mono ?_); rintro e w9 ⟨rfl, hb9⟩; have HM4 := Aside0.mk ((HM.out.step hb9).stopped 3); clear hb9) | ((with_reducible refine gate_store (t := 95) (p := 8) rfl ?_); refine storeS _ _ rfl rfl rfl _ rfl _ rfl _ HM4.out.hr rfl (Cs.of _) ?_; intro W3 h2 hk3))
  refine bodyPost_ret (results_cell_row rfl _ _ (w.heap.size + 3) 95 _ (0, 0) _ rfl h2 hu95 rfl (by kernel_rfl)) rfl ?_
  exact ⟨s.stopped 3, rfl, by rw [HQ.out.1, HQ.out.2]; exact HM4.out.fin hk3⟩
end
end
end Go.Proofs.YtjfleaekljapeaaDoor.K
