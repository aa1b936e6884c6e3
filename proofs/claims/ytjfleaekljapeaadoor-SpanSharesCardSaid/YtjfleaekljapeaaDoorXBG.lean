import Derived.Test.YtjfleaekljapeaaDoorXAK
import Derived.Test.YtjfleaekljapeaaDoorXAR
import Derived.Deep.DeepMust
import Derived.Test.YtjfleaekljapeaaDoorProg
import Derived.Below
import Derived.Deep.Draws
import Derived.Deep.AppendLies
import Derived.Maps.AppendAt
import Derived.OwnWalk
import Derived.Laws.BytesArg
import Derived.Laws.MakeOwn
import Derived.Laws.OwnMore
import Derived.Deep.OwnRows
import Derived.Tactics
import Derived.Lib.ConvBytes
import Derived.Laws.Slices
import Derived.WalkKit
import Derived.KernelRfl
import Derived.RowKit3
import Derived.Deep.LoopGhost
import Derived.Deep.QuietTactic
import Derived.BigQuiet
import Derived.WideLaws
import Derived.Deep.DeepCutAuto
import Derived.Deep.CutBlock
import Derived.Deep.RegionHeld3
import Derived.Deep.MidRow
import Derived.Laws.Tables
import Derived.StillTailTactics
import Derived.Laws.Rows
import Derived.Lib.AppendStr
import Derived.ArgAppend
import Derived.Laws.IdiomCopy
import Derived.OrdersHeld
import Derived.Laws.BitsLemmas
import Derived.Laws.BitsAllLaws
import Derived.RowKit
import Derived.RegionTactic
import Derived.Deep.RegionWith
import Derived.Lib.Hide
import Derived.Test.YtjfleaekljapeaaDoorXAA
import Derived.Test.YtjfleaekljapeaaDoorXAB
import Derived.Test.YtjfleaekljapeaaDoorXAC
import Derived.Deep.RegionLaw
import Derived.Laws.CopyOwn
import Derived.Shelf.Spec.TrailingZeros
import Derived.Test.YtjfleaekljapeaaDoorXAJ
namespace Go.Proofs.YtjfleaekljapeaaDoor.K
open Go.RowKit Go.Proofs.YtjfleaekljapeaaDoorW.PrintWords Go.Proofs.YtjfleaekljapeaaDoorW.PrintLast Go.Proofs.YtjfleaekljapeaaDoorW.PrintMore
attribute [local go_sem] max2_int min2_int max_two min_two max_three min_three max_four min_four   -- for this text's walks alone
set_option linter.unusedVariables false
set_option linter.unusedSimpArgs false
set_option linter.unusedSectionVars false
section
section
variable (w0 : World) (gt gf : Nat) (w : World) (s : SV) (p : PS) (i : S44) (A7 : Option Addr) (c7 : Nat) (A8 : Option Addr) (c8 : Nat) (xs : List Int) (A : Option Addr) (c : Nat) (fc : Array Value) (fr : FP)
set_option maxHeartbeats 4000000 in
set_option maxRecDepth 20000 in
theorem mem34 (h : StI w0 gt gf w s p) (hx : XR w0 w s (.slice A xs.length c) xs) (hI : InI w0 i A7 A8 c8 xs.length) (hF : FrI w0 w fc fr) (hop : i.f0 = 34) (hl5 : i.f7.length = 5) (hrg : ∀ k ∈ i.f7.map (rd xs), 0 <= k /\ k < 18446744073709551616) (hlk : p.locks.length < 4611686018427387904) (k0 : 0 <= s.checks) (k1 : s.checks < 4611686018427387904) (k2 : 0 <= i.f5) (k3 : i.f5 <= 4194304) :
  Calls Tryd.prog 57 #[.agg s.cs, .agg fc, .agg (icOf i A7 c7 A8 c8), .slice A xs.length c] w (MPost w0 gt gf w s (chkP p i.f5 (i.f7.map (rd xs))) (.slice A xs.length c) xs) := by
 have hu95 := Tryd.underlying95
 have hu44 := Tryd.underlying44
 have hu71 := Tryd.underlying71
 have hu112 := Tryd.underlying112
 have hu22 := Tryd.underlying22
 have HS := Aside0.mk h
 have HXR := Aside0.mk hx
 have HI := Aside0.mk hI
 have HF := Aside0.mk hF
 have HVC := Aside0.mk (fun W (hb : Below w.heap.size w W) => vals_calls W A c xs A7 c7 i.f7 (hx.row.keep rfl (Kp.below hb (fun _ => False)) (fun _ _ h => h)).reads.2.2 (Kd.C_below hI.a7 (gt_below h hb)) hI.r7 hI.l7)
 have HC := Aside0.mk (show (icOf i A7 c7 A8 c8)[0]? = some (.int .i64 34) /\ (icOf i A7 c7 A8 c8)[5]? = some (.int .i64 i.f5) /\ (icOf i A7 c7 A8 c8)[7]? = some (.slice A7 i.f7.length c7) from ⟨by rw [<- hop]; rfl, rfl, rfl⟩)
 have HL5 := Aside0.mk hl5
 have HRG := Aside0.mk hrg
 have HPL := Aside0.mk (show (p.locks.length : Int) < 4611686018427387904 by omega)
 generalize icOf i A7 c7 A8 c8 = ic at HC
 clear h hx hI hF hop hl5 hrg hlk
 go_enter Tryd.func57, Tryd.ntmps57
 go_upto_region 1 with (fail)
 generalize hW : World.alloc (World.alloc (World.alloc (World.alloc w (Obj.cells s.cs 95)) (Obj.cells fc 112)) (Obj.cells ic 44)) _ = W
 have H4 := Aside0.mk (show B4 w W s.cs fc ic by rw [<- hW]; exact B4.new w s.cs fc ic)
 clear hW
 have y7 := (blk_cell H4.out.b2 7).trans HC.out.2.2
 go_upto_region 2 with (first | (go_at_call 55; (with_reducible refine (HVC.out _ H4.out.below).mono ?_); rintro e w2 ⟨Av, cv, rfl, hv, hb⟩; have HM := Aside0.mk (Mx.start HS.out HXR.out H4.out hb hv); clear hv hb H4 y7))
 have y0 := (blk_cell HM.out.hi 0).trans HC.out.1
 have y5 := (blk_cell HM.out.hi 5).trans HC.out.2.1
 have x14 := (blk_cell HM.out.hg 14).trans (show _ = some (Value.int .i64 s.checks) from rfl)
 have q14 := blk_frozen HM.out.hg 14
 obtain ⟨v0, v1, v2, v3, v4, ev⟩ : ∃ v0 v1 v2 v3 v4, i.f7.map (rd xs) = [v0, v1, v2, v3, v4] := five (by rw [List.length_map]; exact HL5.out)
 rw [ev] at HM
 have HEV := Aside0.mk ev
 rw [HL5.out] at HM ⊢
 have hrg : ∀ k, k ∈ [v0, v1, v2, v3, v4] -> 0 <= k /\ k < 18446744073709551616 := fun k hk => HRG.out k (by rw [ev]; exact hk)
 obtain ⟨⟨g0, _⟩, ⟨g1, _⟩, ⟨g2, g3⟩, _, ⟨g4, _⟩⟩ : (0 <= v0 /\ v0 < 18446744073709551616) /\ (0 <= v1 /\ v1 < 18446744073709551616) /\ (0 <= v2 /\ v2 < 18446744073709551616) /\ (0 <= v3 /\ v3 < 18446744073709551616) /\ (0 <= v4 /\ v4 < 18446744073709551616) := ⟨hrg v0 (by simp), hrg v1 (by simp), hrg v2 (by simp), hrg v3 (by simp), hrg v4 (by simp)⟩
 have HG0 := Aside0.mk g0
 have HG2 := Aside0.mk g2
 have HG3 := Aside0.mk g3
 have HG4 := Aside0.mk g4
 clear ev hrg g0 g1 g2 g3 g4
 obtain ⟨gv, capv, ev1, hgbv, hglv, clv, hgcv⟩ := Kd.R_form HM.out.vr (by simp)
 injection ev1 with ev1 ev2 ev3
 subst ev1
 subst ev3
 clear hgbv hglv hgcv ev2
 go_upto_region 13 with (fail)
 obtain ⟨s1, es1⟩ : ∃ s1 : SV, s1 = { s with checks := s.checks + 1 } := ⟨_, rfl⟩
 have HM1 := Aside0.mk (show Mx w0 gt gf w (w2.setCell ⟨w.heap.size, 14, none⟩ (.int .i64 (s.checks + 1))) s s1 { p with checks := p.checks + 1 } (.slice A xs.length c) xs s1.cs fc ic (.slice (some ⟨gv, 0, none⟩) 5 cv) [v0, v1, v2, v3, v4] by
  subst es1
  exact (HM.out.put 14 _).nums ⟨HM.out.mp.st.num.1, HM.out.mp.st.num.2, HM.out.mp.st.num.3, HM.out.mp.st.num.4, HM.out.mp.st.num.5, HM.out.mp.st.num.6, HM.out.mp.st.num.7, congrArg (· + 1) HM.out.mp.st.num.8, HM.out.mp.st.num.9, HM.out.mp.st.num.10⟩ ⟨rfl, rfl, rfl, rfl, rfl, rfl, rfl, rfl, rfl⟩ ⟨rfl, rfl, rfl, rfl, rfl, rfl, rfl⟩)
 clear HM x14 q14 y0 y5 es1
 generalize w2.setCell ⟨w.heap.size, 14, none⟩ (.int .i64 (s.checks + 1)) = W1 at HM1 ⊢
 have y5 := (blk_cell HM1.out.hi 5).trans HC.out.2.1
 have u0 : W1.cell? ⟨gv, 0, none⟩ = some (.int .u64 v0) := (Kd.R_celln 0 HM1.out.vr (0 : Int) (by decide) (by decide)).1
 have u1 : W1.cell? ⟨gv, 1, none⟩ = some (.int .u64 v1) := (Kd.R_celln 0 HM1.out.vr (1 : Int) (by decide) (by decide)).1
 have u2 : W1.cell? ⟨gv, 2, none⟩ = some (.int .u64 v2) := (Kd.R_celln 0 HM1.out.vr (2 : Int) (by decide) (by decide)).1
 have u3 : W1.cell? ⟨gv, 3, none⟩ = some (.int .u64 v3) := (Kd.R_celln 0 HM1.out.vr (3 : Int) (by decide) (by decide)).1
 have u4 : W1.cell? ⟨gv, 4, none⟩ = some (.int .u64 v4) := (Kd.R_celln 0 HM1.out.vr (4 : Int) (by decide) (by decide)).1
 have HHC := Aside0.mk (held_calls s1 p.locks v4 v3 W1.drew (HM1.out.step (below_drew (Below.refl _ _))).mp.st.locks.readsC HG4.out HPL.out)
 have HCB := Aside0.mk (show chkB p i.f5 [v0, v1, v2, v3, v4] = (!(heldB p.locks v4 v3) || (decide (v0 < v1) || (decide (v2 < v0) || decide (v2 - v0 < i.f5)))) from rfl)
 generalize heldB p.locks v4 v3 = hb at HHC HCB
 have HX := Aside0.mk (show hb = false ∨ hb = true /\ v0 < v1 ∨ hb = true /\ ¬ v0 < v1 /\ v2 < v0 ∨ hb = true /\ ¬ v0 < v1 /\ ¬ v2 < v0 /\ v2 - v0 < i.f5 /\ IntKind.u64.wrap (v2 - v0) = v2 - v0 ∨ hb = true /\ ¬ v0 < v1 /\ ¬ v2 < v0 /\ ¬ v2 - v0 < i.f5 /\ IntKind.u64.wrap (v2 - v0) = v2 - v0 by
  have hw : ¬ v2 < v0 -> IntKind.u64.wrap (v2 - v0) = v2 - v0 := fun h => by have := HG0.out; have := HG3.out; rw [IntKind.wrap_u64]; omega
  cases hb
  ·exact .inl rfl
  ·by_cases h1 : v0 < v1
   ·exact .inr (.inl ⟨rfl, h1⟩)
   ·by_cases h2 : v2 < v0
    ·exact .inr (.inr (.inl ⟨rfl, h1, h2⟩))
    ·by_cases h3 : v2 - v0 < i.f5
     ·exact .inr (.inr (.inr (.inl ⟨rfl, h1, h2, h3, hw h2⟩)))
     ·exact .inr (.inr (.inr (.inr ⟨rfl, h1, h2, h3, hw h2⟩))))
 have hsz : IntKind.u64.wrap i.f5 = i.f5 := by rw [IntKind.wrap_u64]; omega
 rcases HX.out with rfl | ⟨rfl, t1⟩ | ⟨rfl, t1, t2⟩ | ⟨rfl, t1, t2, t3, hw⟩ | ⟨rfl, t1, t2, t3, hw⟩
 all_goals
  clear HX
  refine wp_seg 7 (by kernel_rfl) (by kernel_rfl) _ rfl ?_
  simp only [List.take_succ_cons, List.take_zero, List.drop_succ_cons, List.drop_zero]
  refine StW.load95 _ rfl rfl _ rfl _ HM1.out.hg (Cs.of s1) ?_
  repeat (refine StW.step (fun K hK => ?_); go_simp; refine hK _ ?_; clear hK K)
  refine StW.nil ?_
  refine (fun K hK => ?_)
  go_simp
  (go_at_call 65; (with_reducible refine (HHC.out).mono ?_); rintro e w3 ⟨rfl, hb⟩)
  go_simp
  refine hK _ _ ?_
  clear hK K
  have HM3 := Aside0.mk (HM1.out.step (below_step (below_drew (Below.refl _ _)) hb))
  have y5 := pw_cell_below hb y5
  have u0 := pw_cell_below hb u0
  have u1 := pw_cell_below hb u1
  have u2 := pw_cell_below hb u2
  clear HM1 hb HHC
  repeat (refine StW.step (fun K hK => ?_); go_simp; refine hK _ ?_; clear hK K)
  refine StW.nil ?_
 case inr.inr.inr.inr =>
  have HCK := Aside0.mk (show chkP p i.f5 [v0, v1, v2, v3, v4] = { p with checks := p.checks + 1 } by unfold chkP; rw [HCB.out]; simp [t1, t2, t3])
  go_wp2_with (first | ((with_reducible refine gate_dst (N := 446) rfl ?_); refine load95 _ rfl rfl _ rfl _ HM3.out.hg (Cs.of s1) ?_) | ((with_reducible refine gate_store (t := 95) (p := 8) rfl ?_); refine storeS _ _ rfl rfl rfl _ rfl _ rfl _ HM3.out.hr rfl (Cs.of s1) ?_; intro W3 h2 hk3))
  refine bodyPost_ret (results_cell_row rfl _ _ (w.heap.size + 3) 95 _ (0, 0) _ rfl h2 hu95 rfl (by kernel_rfl)) rfl ?_
  exact ⟨s1, rfl, by rw [HEV.out, HCK.out]; exact HM3.out.fin hk3⟩
 all_goals
  have HCK := Aside0.mk (show chkP p i.f5 [v0, v1, v2, v3, v4] = ({ p with checks := p.checks + 1 } : PS).stopped 2 by unfold chkP; rw [HCB.out]; simp [*])
  go_wp2_with (first | ((with_reducible refine gate_dst (N := 122) rfl ?_); refine load95 _ rfl rfl _ rfl _ HM3.out.hg (Cs.of s1) ?_) | (go_at_call 53; (with_reducible refine (stop_calls s1 2 _).mono ?_); rintro e w9 ⟨rfl, hb9⟩; have HM4 := Aside0.mk ((HM3.out.step hb9).stopped 2); clear hb9) | ((with_reducible refine gate_store (t := 95) (p := 8) rfl ?_); refine storeS _ _ rfl rfl rfl _ rfl _ rfl _ HM4.out.hr rfl (Cs.of _) ?_; intro W3 h2 hk3))
  refine bodyPost_ret (results_cell_row rfl _ _ (w.heap.size + 3) 95 _ (0, 0) _ rfl h2 hu95 rfl (by kernel_rfl)) rfl ?_
  exact ⟨s1.stopped 2, rfl, by rw [HEV.out, HCK.out]; exact HM4.out.fin hk3⟩
end
end
section
section
variable (w0 : World) (gt gf : Nat) (w : World) (s : SV) (p : PS) (i : S44) (A7 : Option Addr) (c7 : Nat) (A8 : Option Addr) (c8 : Nat) (xs : List Int) (A : Option Addr) (c : Nat) (fc : Array Value) (fr : FP)
set_option maxHeartbeats 4000000 in
set_option maxRecDepth 20000 in
theorem mem30 (h : StI w0 gt gf w s p) (hx : XR w0 w s (.slice A xs.length c) xs) (hI : InI w0 i A7 A8 c8 xs.length) (hF : FrI w0 w fc fr) (hop : i.f0 = 30) (d : Nat) (hd : i.f1 = (d : Int)) (hdl : d < xs.length) (hT : ∀ W, Below w0.heap.size w0 W -> Calls Tryd.prog 36 #[unV gt gf, .string i.f6] W fun e w' => e = .returned (.int .i64 (topI i.f6)) /\ Below W.heap.size W w') (t0 : 0 <= topI i.f6) (t1 : topI i.f6 < p.tops.length) :
  Calls Tryd.prog 57 #[.agg s.cs, .agg fc, .agg (icOf i A7 c7 A8 c8), .slice A xs.length c] w (MPost w0 gt gf w s p (.slice A xs.length c) (xs.set d (IntKind.u64.wrap (rd p.tops (topI i.f6))))) := by
 have hu95 := Tryd.underlying95
 have hu44 := Tryd.underlying44
 have hu71 := Tryd.underlying71
 have hu112 := Tryd.underlying112
 have hu22 := Tryd.underlying22
 have HS := Aside0.mk h
 have HXR := Aside0.mk hx
 have HI := Aside0.mk hI
 have HF := Aside0.mk hF
 have HVC := Aside0.mk (fun W (hb : Below w.heap.size w W) => vals_calls W A c xs A7 c7 i.f7 (hx.row.keep rfl (Kp.below hb (fun _ => False)) (fun _ _ h => h)).reads.2.2 (Kd.C_below hI.a7 (gt_below h hb)) hI.r7 hI.l7)
 have HC := Aside0.mk (show (icOf i A7 c7 A8 c8)[0]? = some (.int .i64 30) /\ (icOf i A7 c7 A8 c8)[1]? = some (.int .i64 (d : Int)) /\ (icOf i A7 c7 A8 c8)[6]? = some (.string i.f6) /\ (icOf i A7 c7 A8 c8)[7]? = some (.slice A7 i.f7.length c7) from ⟨by rw [<- hop]; rfl, by rw [<- hd]; rfl, rfl, rfl⟩)
 unfold unV at hT
 have HTP := Aside0.mk hT
 generalize icOf i A7 c7 A8 c8 = ic at HC
 have d0 : 0 <= (d : Int) := by omega
 have d1 : (d : Int) < (xs.length : Int) := by omega
 clear h hx hI hF hop hd hT
 go_enter Tryd.func57, Tryd.ntmps57
 go_upto_region 1 with (fail)
 generalize hW : World.alloc (World.alloc (World.alloc (World.alloc w (Obj.cells s.cs 95)) (Obj.cells fc 112)) (Obj.cells ic 44)) _ = W
 have H4 := Aside0.mk (show B4 w W s.cs fc ic by rw [<- hW]; exact B4.new w s.cs fc ic)
 clear hW
 have y7 := (blk_cell H4.out.b2 7).trans HC.out.2.2.2
 go_upto_region 2 with (first | (go_at_call 55; (with_reducible refine (HVC.out _ H4.out.below).mono ?_); rintro e w2 ⟨Av, cv, rfl, hv, hb⟩; have HM := Aside0.mk (Mx.start HS.out HXR.out H4.out hb hv); clear hv hb H4 y7))
 have y0 := (blk_cell HM.out.hi 0).trans HC.out.1
 have y1 := (blk_cell HM.out.hi 1).trans HC.out.2.1
 have y6 := (blk_cell HM.out.hi 6).trans HC.out.2.2.1
 have HN := Aside0.mk (Below.refl w2.heap.size w2)
 have HTC := Aside0.mk (fun W (hb : Below w2.heap.size w2 W) => HTP.out W (gt_below HM.out.mp.st hb))
 obtain ⟨u, hu⟩ : ∃ u, rd p.tops (topI i.f6) = u := ⟨_, rfl⟩
 have HU := Aside0.mk hu
 clear hu HTP
 obtain ⟨tI, htI⟩ : ∃ tI, topI i.f6 = tI := ⟨_, rfl⟩
 rw [htI] at HTC HU t0 t1
 have HTI := Aside0.mk htI
 clear htI
 obtain ⟨g, cap, e1, hgb, hgl, cl, hgc⟩ := Kd.R_form HM.out.mp.xr.row (by omega)
 injection e1 with e1 e2 e3
 subst e1
 subst e3
 have HTR := Aside0.mk (show ∃ ad, s.a2 = some ad by
  obtain ⟨ad, ea, _⟩ := C_int HM.out.mp.st.tops.reads.2.2 tI t0 t1
  exact ⟨ad, ea⟩)
 obtain ⟨ad, ea⟩ := HTR.out
 obtain ⟨ad0, ea0, hs0⟩ := C_int HM.out.mp.st.tops.reads.2.2 tI t0 t1
 rw [ea] at ea0
 obtain rfl := Option.some.inj ea0
 rw [HU.out] at hs0
 have HX0 := Aside0.mk HM.out.mp.st.num.c0
 have HX1 := Aside0.mk HM.out.mp.st.num.c1
 have HX2 := Aside0.mk (show s.cs[2]? = some (.slice (some ad) p.tops.length s.c2) by rw [<- ea, <- HM.out.mp.st.tops.reads.1]; rfl)
 have x0 := (blk_cell HM.out.hg 0).trans HX0.out
 have x1 := (blk_cell HM.out.hg 1).trans HX1.out
 have x2 := (blk_cell HM.out.hg 2).trans HX2.out
 have hu56 := Tryd.underlying56
 have HEA := Aside0.mk ea
 clear ea ea0 HTR hgc
 go_upto_region 4 with (fail)
 first | go_region_held3 (fun w' => w'.cell? ⟨w.heap.size + 1 + 1, 1, none⟩ = some (.int .i64 (d : Int)) /\ w'.cell? ⟨w.heap.size + 1 + 1, 6, none⟩ = some (.string i.f6) /\ w'.cell? ⟨w.heap.size, 0, none⟩ = some (.slice (some ⟨gt, 0, none⟩) 2 2) /\ w'.cell? ⟨w.heap.size, 1, none⟩ = some (.slice (some ⟨gf, 0, none⟩) 1 1) /\ w'.cell? ⟨w.heap.size, 2, none⟩ = some (.slice (some ad) p.tops.length s.c2) /\ w'.cell? (ad.add tI.toNat) = some (.int .i64 u)) (go_keep) (first | (go_at_call 36; (with_reducible refine (HTC.out _ ?hb36).mono ?_); (case hb36 => (repeat (first | (with_reducible first | exact HN.out | apply below_alloc | apply pw_below_drewN | apply below_drew1) | exact HN.out))); rintro e w3 ⟨rfl, hb⟩; have n0_ := below_step (by (repeat (first | (with_reducible first | exact HN.out | apply below_alloc | apply pw_below_drewN | apply below_drew1) | exact HN.out))) hb; have HM3 := Aside0.mk (HM.out.step n0_); clear n0_ HM; have y1b := pw_cell_below hb y1; have y6b := pw_cell_below hb y6; have x0b := pw_cell_below hb x0; have x1b := pw_cell_below hb x1; have x2b := pw_cell_below hb x2; clear hb; obtain ⟨hx, hf⟩ := Kd.R_celln 0 HM3.out.mp.xr.row (d : Int) d0 d1; rw [Int.toNat_natCast] at hx hf; have hp := Kd.R_putg HM3.out.mp.xr.row (d : Int) (IntKind.u64.wrap u); rw [Int.toNat_natCast] at hp; obtain ⟨ad2, ea2, hsl⟩ := C_int HM3.out.mp.st.tops.reads.2.2 tI t0 t1; rw [HEA.out] at ea2; obtain rfl := Option.some.inj ea2; rw [HU.out] at hsl; have HM2 := Aside0.mk (HM3.out.regs ((RowSt.start HM3.out.mp.xr.row (Below.refl _ _)).next hp.1 hp.2 (.inl rfl))); clear hp ea2; obtain ⟨ad3, ea3, qt⟩ := C_int HM2.out.mp.st.tops.reads.2.2 tI t0 t1; rw [HEA.out] at ea3; obtain rfl := Option.some.inj ea3; rw [HU.out] at qt; clear ea3; have q1 := (blk_cell HM2.out.hi 1).trans HC.out.2.1; have q6 := (blk_cell HM2.out.hi 6).trans HC.out.2.2.1; have q0 := (blk_cell HM2.out.hg 0).trans HX0.out; have q1g := (blk_cell HM2.out.hg 1).trans HX1.out; have q2 := (blk_cell HM2.out.hg 2).trans HX2.out)) | fail
 all_goals
  go_wp2_with (first | ((with_reducible refine gate_dst (N := 446) rfl ?_); refine load95 _ rfl rfl _ rfl _ HM2.out.hg (Cs.of s) ?_) | ((with_reducible refine gate_store (t := 95) (p := 8) rfl ?_); refine storeS _ _ rfl rfl rfl _ rfl _ rfl _ HM2.out.hr rfl (Cs.of s) ?_; intro W3 h2 hk3))
  refine bodyPost_ret (results_cell_row rfl _ _ (w.heap.size + 3) 95 _ (0, 0) _ rfl h2 hu95 rfl (by kernel_rfl)) rfl ?_
  exact ⟨s, rfl, by rw [HTI.out, HU.out]; exact HM2.out.fin hk3⟩
set_option maxHeartbeats 4000000 in
set_option maxRecDepth 20000 in
theorem mem31 (h : StI w0 gt gf w s p) (hx : XR w0 w s (.slice A xs.length c) xs) (hI : InI w0 i A7 A8 c8 xs.length) (hF : FrI w0 w fc fr) (hop : i.f0 = 31) (d : Nat) (hd : i.f1 = (d : Int)) (hdl : d < xs.length) (hn0 : 0 <= i.f4) (hn1 : i.f4 < fr.slots.length) :
  Calls Tryd.prog 57 #[.agg s.cs, .agg fc, .agg (icOf i A7 c7 A8 c8), .slice A xs.length c] w (MPost w0 gt gf w s p (.slice A xs.length c) (xs.set d (IntKind.u64.wrap (rd fr.slots i.f4)))) := by
 have hu95 := Tryd.underlying95
 have hu44 := Tryd.underlying44
 have hu71 := Tryd.underlying71
 have hu112 := Tryd.underlying112
 have hu22 := Tryd.underlying22
 have HS := Aside0.mk h
 have HXR := Aside0.mk hx
 have HI := Aside0.mk hI
 have HF := Aside0.mk hF
 have HVC := Aside0.mk (fun W (hb : Below w.heap.size w W) => vals_calls W A c xs A7 c7 i.f7 (hx.row.keep rfl (Kp.below hb (fun _ => False)) (fun _ _ h => h)).reads.2.2 (Kd.C_below hI.a7 (gt_below h hb)) hI.r7 hI.l7)
 have HC := Aside0.mk (show (icOf i A7 c7 A8 c8)[0]? = some (.int .i64 31) /\ (icOf i A7 c7 A8 c8)[1]? = some (.int .i64 (d : Int)) /\ (icOf i A7 c7 A8 c8)[4]? = some (.int .u64 i.f4) /\ (icOf i A7 c7 A8 c8)[7]? = some (.slice A7 i.f7.length c7) from ⟨by rw [<- hop]; rfl, by rw [<- hd]; rfl, rfl, rfl⟩)
 obtain ⟨A5, c5, hf5, hs5⟩ := hF.f5
 have HF5 := Aside0.mk hf5
 have HNO := Aside0.mk hF.len
 have n0 := hn0
 have n1 : i.f4 < (fr.slots.length : Int) := hn1
 have HS5 := Aside0.mk (fun W (hk : Kp w W (fun k => Own s k ∨ (Value.slice A xs.length c).ownBlock = some k)) => hs5.keep rfl hk (fun k e e2 => e2.elim (fun q => h.not_own (hs5.lt e).2.2.choose_spec (by decide) q) (fun q => nrow (hs5.ne hx.row (by decide)) e q)))
 clear hf5 hs5
 generalize icOf i A7 c7 A8 c8 = ic at HC
 have d0 : 0 <= (d : Int) := by omega
 have d1 : (d : Int) < (xs.length : Int) := by omega
 clear h hx hI hF hop hd hn0 hn1
 go_enter Tryd.func57, Tryd.ntmps57
 go_upto_region 1 with (fail)
 generalize hW : World.alloc (World.alloc (World.alloc (World.alloc w (Obj.cells s.cs 95)) (Obj.cells fc 112)) (Obj.cells ic 44)) _ = W
 have H4 := Aside0.mk (show B4 w W s.cs fc ic by rw [<- hW]; exact B4.new w s.cs fc ic)
 clear hW
 have y7 := (blk_cell H4.out.b2 7).trans HC.out.2.2.2
 go_upto_region 2 with (first | (go_at_call 55; (with_reducible refine (HVC.out _ H4.out.below).mono ?_); rintro e w2 ⟨Av, cv, rfl, hv, hb⟩; have HM := Aside0.mk (Mx.start HS.out HXR.out H4.out hb hv); clear hv hb H4 y7))
 have y0 := (blk_cell HM.out.hi 0).trans HC.out.1
 have y1 := (blk_cell HM.out.hi 1).trans HC.out.2.1
 have y4 := (blk_cell HM.out.hi 4).trans HC.out.2.2.1
 have z5 := (blk_cell HM.out.hf 5).trans HF5.out
 have hsl := C_int (HS5.out _ HM.out.mp.kp).reads.2.2 i.f4 n0 (by exact n1)
 obtain ⟨ad5, ea5, hsl⟩ := hsl
 subst ea5
 obtain ⟨u, hu⟩ : ∃ u, rd fr.slots i.f4 = u := ⟨_, rfl⟩
 rw [hu] at hsl
 have HU := Aside0.mk hu
 clear hu
 have HMd := Aside0.mk (HM.out.step (below_drew (Below.refl _ _)))
 obtain ⟨g, cap, e1, hgb, hgl, cl, hgc⟩ := Kd.R_form HMd.out.mp.xr.row (by omega)
 injection e1 with e1 e2 e3
 subst e1
 subst e3
 obtain ⟨hx, hf⟩ := Kd.R_celln 0 HMd.out.mp.xr.row (d : Int) d0 d1
 rw [Int.toNat_natCast] at hx hf
 have hp := Kd.R_putg HMd.out.mp.xr.row (d : Int) (IntKind.u64.wrap u)
 rw [Int.toNat_natCast] at hp
 have HM2 := Aside0.mk (HMd.out.regs ((RowSt.start HMd.out.mp.xr.row (Below.refl _ _)).next hp.1 hp.2 (.inl rfl)))
 clear hp hgc
 have q1 : (w2.setCell ⟨g, d, none⟩ (.int .u64 (IntKind.u64.wrap u))).cell? ⟨w.heap.size + 1 + 1, 1, none⟩ = some (.int .i64 (d : Int)) := (blk_cell HM2.out.hi 1).trans HC.out.2.1
 have q5 : (w2.setCell ⟨g, d, none⟩ (.int .u64 (IntKind.u64.wrap u))).cell? ⟨w.heap.size + 1, 5, none⟩ = some (.slice (some ad5) fr.slots.length c5) := (blk_cell HM2.out.hf 5).trans HF5.out
 have q4 : (w2.setCell ⟨g, d, none⟩ (.int .u64 (IntKind.u64.wrap u))).cell? ⟨w.heap.size + 1 + 1, 4, none⟩ = some (.int .u64 i.f4) := (blk_cell HM2.out.hi 4).trans HC.out.2.2.1
 obtain ⟨ad6, ea6, qt⟩ := C_int (HS5.out _ HM2.out.mp.kp).reads.2.2 i.f4 n0 n1
 obtain rfl := Option.some.inj ea6
 rw [HU.out] at qt
 have qs : (w2.setCell ⟨g, d, none⟩ (.int .u64 (IntKind.u64.wrap u))).cell? (ad5.add i.f4.toNat) = some (.int .i64 u) := qt
 clear HS5 qt ea6
 clear HM HMd
 go_upto_region 6 with (fail)
 first | go_region_held3 (fun w' => w'.cell? ⟨w.heap.size + 1 + 1, 1, none⟩ = some (.int .i64 (d : Int)) /\ w'.cell? ⟨w.heap.size + 1, 5, none⟩ = some (.slice (some ad5) fr.slots.length c5) /\ w'.cell? ⟨w.heap.size + 1 + 1, 4, none⟩ = some (.int .u64 i.f4) /\ w'.cell? (ad5.add i.f4.toNat) = some (.int .i64 u)) (go_keep) (fail) | fail
 all_goals
  go_wp2_with (first | ((with_reducible refine gate_dst (N := 446) rfl ?_); refine load95 _ rfl rfl _ rfl _ HM2.out.hg (Cs.of s) ?_) | ((with_reducible refine gate_store (t := 95) (p := 8) rfl ?_); refine storeS _ _ rfl rfl rfl _ rfl _ rfl _ HM2.out.hr rfl (Cs.of s) ?_; intro W3 h2 hk3))
  refine bodyPost_ret (results_cell_row rfl _ _ (w.heap.size + 3) 95 _ (0, 0) _ rfl h2 hu95 rfl (by kernel_rfl)) rfl ?_
  exact ⟨s, rfl, by rw [HU.out]; exact HM2.out.fin hk3⟩
set_option maxHeartbeats 4000000 in
set_option maxRecDepth 20000 in
theorem mem33 (h : StI w0 gt gf w s p) (hx : XR w0 w s (.slice A xs.length c) xs) (hI : InI w0 i A7 A8 c8 xs.length) (hF : FrI w0 w fc fr) (hop : i.f0 = 33) (d : Nat) (hd : i.f1 = (d : Int)) (hdl : d < xs.length) :
  Calls Tryd.prog 57 #[.agg s.cs, .agg fc, .agg (icOf i A7 c7 A8 c8), .slice A xs.length c] w (MPost w0 gt gf w s p (.slice A xs.length c) (xs.set d fr.key)) := by
 have hu95 := Tryd.underlying95
 have hu44 := Tryd.underlying44
 have hu71 := Tryd.underlying71
 have hu112 := Tryd.underlying112
 have hu22 := Tryd.underlying22
 have HS := Aside0.mk h
 have HXR := Aside0.mk hx
 have HI := Aside0.mk hI
 have HF := Aside0.mk hF
 have HVC := Aside0.mk (fun W (hb : Below w.heap.size w W) => vals_calls W A c xs A7 c7 i.f7 (hx.row.keep rfl (Kp.below hb (fun _ => False)) (fun _ _ h => h)).reads.2.2 (Kd.C_below hI.a7 (gt_below h hb)) hI.r7 hI.l7)
 have HC := Aside0.mk (show (icOf i A7 c7 A8 c8)[0]? = some (.int .i64 33) /\ (icOf i A7 c7 A8 c8)[1]? = some (.int .i64 (d : Int)) /\ (icOf i A7 c7 A8 c8)[7]? = some (.slice A7 i.f7.length c7) from ⟨by rw [<- hop]; rfl, by rw [<- hd]; rfl, rfl⟩)
 have HF7 := Aside0.mk hF.f7
 generalize icOf i A7 c7 A8 c8 = ic at HC
 have d0 : 0 <= (d : Int) := by omega
 have d1 : (d : Int) < (xs.length : Int) := by omega
 clear h hx hI hF hop hd
 go_enter Tryd.func57, Tryd.ntmps57
 go_upto_region 1 with (fail)
 generalize hW : World.alloc (World.alloc (World.alloc (World.alloc w (Obj.cells s.cs 95)) (Obj.cells fc 112)) (Obj.cells ic 44)) _ = W
 have H4 := Aside0.mk (show B4 w W s.cs fc ic by rw [<- hW]; exact B4.new w s.cs fc ic)
 clear hW
 have y7 := (blk_cell H4.out.b2 7).trans HC.out.2.2
 go_upto_region 2 with (first | (go_at_call 55; (with_reducible refine (HVC.out _ H4.out.below).mono ?_); rintro e w2 ⟨Av, cv, rfl, hv, hb⟩; have HM := Aside0.mk (Mx.start HS.out HXR.out H4.out hb hv); clear hv hb H4 y7))
 have y0 := (blk_cell HM.out.hi 0).trans HC.out.1
 have y1 := (blk_cell HM.out.hi 1).trans HC.out.2.1
 have z7 := (blk_cell HM.out.hf 7).trans HF7.out
 obtain ⟨g, cap, e1, hgb, hgl, cl, hgc⟩ := Kd.R_form HM.out.mp.xr.row (by omega)
 injection e1 with e1 e2 e3
 subst e1
 subst e3
 obtain ⟨hx, hf⟩ := Kd.R_celln 0 HM.out.mp.xr.row (d : Int) d0 d1
 rw [Int.toNat_natCast] at hx hf
 have hp := Kd.R_putg HM.out.mp.xr.row (d : Int) fr.key
 rw [Int.toNat_natCast] at hp
 have HM2 := Aside0.mk (HM.out.regs ((RowSt.start HM.out.mp.xr.row (Below.refl _ _)).next hp.1 hp.2 (.inl rfl)))
 clear hp hgc
 clear HM
 go_wp2_with (first | ((with_reducible refine gate_dst (N := 446) rfl ?_); refine load95 _ rfl rfl _ rfl _ HM2.out.hg (Cs.of s) ?_) | ((with_reducible refine gate_store (t := 95) (p := 8) rfl ?_); refine storeS _ _ rfl rfl rfl _ rfl _ rfl _ HM2.out.hr rfl (Cs.of s) ?_; intro W3 h2 hk3))
 refine bodyPost_ret (results_cell_row rfl _ _ (w.heap.size + 3) 95 _ (0, 0) _ rfl h2 hu95 rfl (by kernel_rfl)) rfl ?_
 exact ⟨s, rfl, HM2.out.fin hk3⟩
end
end
end Go.Proofs.YtjfleaekljapeaaDoor.K
