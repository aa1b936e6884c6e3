import Derived.Test.YtjfleaekljapeaaDoorXAK
import Derived.Test.YtjfleaekljapeaaDoorXAR
import Derived.Deep.DeepMust
import Derived.Test.YtjfleaekljapeaaDoorProg
import Derived.Below
import Derived.Deep.Draws
import Derived.Deep.AppendLies
import Derived.Maps.AppendAt
import Derived.OwnWalk
import Derived.Laws.BytesArg
import Derived.Laws.MakeOwn
import Derived.Laws.OwnMore
import Derived.Deep.OwnRows
import Derived.Tactics
import Derived.Lib.ConvBytes
import Derived.Laws.Slices
import Derived.WalkKit
import Derived.KernelRfl
import Derived.RowKit3
import Derived.Deep.LoopGhost
import Derived.Deep.QuietTactic
import Derived.BigQuiet
import Derived.WideLaws
import Derived.Deep.DeepCutAuto
import Derived.Deep.CutBlock
import Derived.Deep.RegionHeld3
import Derived.Deep.MidRow
import Derived.Laws.Tables
import Derived.StillTailTactics
import Derived.Laws.Rows
import Derived.Lib.AppendStr
import Derived.ArgAppend
import Derived.Laws.IdiomCopy
import Derived.OrdersHeld
import Derived.Laws.BitsLemmas
import Derived.Laws.BitsAllLaws
import Derived.RowKit
import Derived.RegionTactic
import Derived.Deep.RegionWith
import Derived.Lib.Hide
import Derived.Test.YtjfleaekljapeaaDoorXAA
import Derived.Test.YtjfleaekljapeaaDoorXAB
import Derived.Test.YtjfleaekljapeaaDoorXAC
import Derived.Deep.RegionLaw
import Derived.Laws.CopyOwn
import Derived.Shelf.Spec.TrailingZeros
import Derived.Test.YtjfleaekljapeaaDoorXAD
import Derived.Test.YtjfleaekljapeaaDoorXAL
import Derived.Test.YtjfleaekljapeaaDoorXAN
namespace Go.Proofs.YtjfleaekljapeaaDoor.K
open Go.RowKit Go.Proofs.YtjfleaekljapeaaDoorW.PrintWords Go.Proofs.YtjfleaekljapeaaDoorW.PrintLast Go.Proofs.YtjfleaekljapeaaDoorW.PrintMore
attribute [local go_sem] max2_int min2_int max_two min_two max_three min_three max_four min_four   -- for this text's walks alone
set_option linter.unusedVariables false
set_option linter.unusedSimpArgs false
set_option linter.unusedSectionVars false
section
def ldP (p : PS) (size at_ : Int) : PS := if placeB at_ size = true then p else p.stopped 4
def ldI (mem : List Int) (at_ : Int) : Nat -> Int -> Int
 | 0, n => n
 | k + 1, n => ldI mem at_ k (IntKind.u64.wrap (IntKind.u64.wrap (n * 256) + IntKind.u64.wrap (rd mem (at_ + (k : Int) - 4096))))
def ldX (p : PS) (xs : List Int) (d : Nat) (size at_ : Int) : List Int := if placeB at_ size = true then xs.set d (narI (ldI p.mem at_ size.toNat 0) (8 * size.toNat)) else xs
theorem ldI_nonneg (mem : List Int) (at_ : Int) : ∀ (k : Nat) (n : Int), 0 <= n -> 0 <= ldI mem at_ k n
 | 0, _, h => h
 | k + 1, n, _ => ldI_nonneg mem at_ k _ (wrap_rng _).1
def stI (q : Nat) : Nat -> Nat -> Int -> List Int -> List Int
 | 0, _, _, l => l
 | r + 1, k, n, l => stI q r (k + 1) (IntKind.u64.wrap (n.tdiv 256)) (putL l (q + k) (n % 256))
def stP (p : PS) (size at_ v : Int) : PS := if placeB at_ size = true then { p with mem := stI (at_ - 4096).toNat size.toNat 0 v p.mem } else p.stopped 4
section
variable (w0 : World) (gt gf : Nat) (w : World) (s : SV) (p : PS) (i : S44) (A7 : Option Addr) (c7 : Nat) (A8 : Option Addr) (c8 : Nat) (xs : List Int) (A : Option Addr) (c : Nat) (fc : Array Value) (fr : FP)
set_option maxHeartbeats 4000000 in
set_option maxRecDepth 20000 in
theorem mem35 (h : StI w0 gt gf w s p) (hx : XR w0 w s (.slice A xs.length c) xs) (hI : InI w0 i A7 A8 c8 xs.length) (hF : FrI w0 w fc fr) (hop : i.f0 = 35) (d : Nat) (hd : i.f1 = (d : Int)) (hdl : d < xs.length) (a : Nat) (ha : i.f2 = (a : Int)) (hal : a < xs.length) (hsz : i.f5 = 1 ∨ i.f5 = 4 ∨ i.f5 = 8) (hu0 : 0 <= rd xs (a : Int)) (hml : p.mem.length <= 4194304) :
  Calls Tryd.prog 57 #[.agg s.cs, .agg fc, .agg (icOf i A7 c7 A8 c8), .slice A xs.length c] w (MPost w0 gt gf w s (ldP p i.f5 (rd xs (a : Int))) (.slice A xs.length c) (ldX p xs d i.f5 (rd xs (a : Int)))) := by
 have hu95 := Tryd.underlying95
 have hu44 := Tryd.underlying44
 have hu71 := Tryd.underlying71
 have hu112 := Tryd.underlying112
 have hu22 := Tryd.underlying22
 have HS := Aside0.mk h
 have HXR := Aside0.mk hx
 have HI := Aside0.mk hI
 have HF := Aside0.mk hF
 have HVC := Aside0.mk (fun W (hb : Below w.heap.size w W) => vals_calls W A c xs A7 c7 i.f7 (hx.row.keep rfl (Kp.below hb (fun _ => False)) (fun _ _ h => h)).reads.2.2 (Kd.C_below hI.a7 (gt_below h hb)) hI.r7 hI.l7)
 have HC := Aside0.mk (show (icOf i A7 c7 A8 c8)[0]? = some (.int .i64 35) /\ (icOf i A7 c7 A8 c8)[1]? = some (.int .i64 (d : Int)) /\ (icOf i A7 c7 A8 c8)[2]? = some (.int .i64 (a : Int)) /\ (icOf i A7 c7 A8 c8)[5]? = some (.int .i64 i.f5) /\ (icOf i A7 c7 A8 c8)[7]? = some (.slice A7 i.f7.length c7) from ⟨by rw [<- hop]; rfl, by rw [<- hd]; rfl, by rw [<- ha]; rfl, rfl, rfl⟩)
 have HSZ := Aside0.mk hsz
 have HU0 := Aside0.mk hu0
 have HML := Aside0.mk hml
 generalize icOf i A7 c7 A8 c8 = ic at HC
 have d0 : 0 <= (d : Int) := by omega
 have d1 : (d : Int) < (xs.length : Int) := by omega
 have a0 : 0 <= (a : Int) := by omega
 have a1 : (a : Int) < (xs.length : Int) := by omega
 clear h hx hI hF hop hd ha hsz hu0 hml
 go_enter Tryd.func57, Tryd.ntmps57
 go_upto_region 1 with (fail)
 generalize hW : World.alloc (World.alloc (World.alloc (World.alloc w (Obj.cells s.cs 95)) (Obj.cells fc 112)) (Obj.cells ic 44)) _ = W
 have H4 := Aside0.mk (show B4 w W s.cs fc ic by rw [<- hW]; exact B4.new w s.cs fc ic)
 clear hW
 have y7 := (blk_cell H4.out.b2 7).trans HC.out.2.2.2.2
 go_upto_region 2 with (first | (go_at_call 55; (with_reducible refine (HVC.out _ H4.out.below).mono ?_); rintro e w2 ⟨Av, cv, rfl, hv, hb⟩; have HM := Aside0.mk (Mx.start HS.out HXR.out H4.out hb hv); clear hv hb H4 y7))
 have y0 := (blk_cell HM.out.hi 0).trans HC.out.1
 have y1 := (blk_cell HM.out.hi 1).trans HC.out.2.1
 have y2 := (blk_cell HM.out.hi 2).trans HC.out.2.2.1
 have y5 := (blk_cell HM.out.hi 5).trans HC.out.2.2.2.1
 obtain ⟨gx, capx, ex1, hgbx, hglx, clx, hgcx⟩ := Kd.R_form HM.out.mp.xr.row (by omega)
 injection ex1 with ex1 ex2 ex3
 subst ex1
 subst ex3
 obtain ⟨hxa, hfa⟩ := Kd.R_celln 0 HM.out.mp.xr.row (a : Int) a0 a1
 rw [Int.toNat_natCast] at hxa hfa
 clear hgbx hglx hgcx ex2
 obtain ⟨u, hu⟩ : ∃ u, rd xs (a : Int) = u := ⟨_, rfl⟩
 have HU := Aside0.mk hu
 rw [show rdOf (0 : Int) xs (a : Int) = u from hu] at hxa
 have u0 : 0 <= u := by rw [<- hu]; exact HU0.out
 clear hu
 have HPC := Aside0.mk (place_calls u i.f5 w2 u0 HSZ.out)
 obtain ⟨b0_, hb0⟩ : ∃ b0_, placeB u i.f5 = b0_ := ⟨_, rfl⟩
 rw [hb0] at HPC
 have HPB := Aside0.mk hb0
 clear hb0
 cases b0_
 case false =>
  have HQ := Aside0.mk (show ldP p i.f5 (rd xs (a : Int)) = p.stopped 4 by unfold ldP; rw [HU.out, HPB.out]; rfl)
  have HQ2 := Aside0.mk (show ldX p xs d i.f5 (rd xs (a : Int)) = xs by unfold ldX; rw [HU.out, HPB.out]; rfl)
  go_wp2_with (first | (go_at_call 66; (with_reducible refine HPC.out.mono ?_); rintro e w8 ⟨rfl, rfl⟩) | ((with_reducible refine gate_dst (N := 137) rfl ?_); refine load95 _ rfl rfl _ rfl _ HM.out.hg (Cs.of s) ?_) | (go_at_call 53; (with_reducible refine (stop_calls s 4 _).mono ?_); rintro e w9 ⟨rfl, hb9⟩; have HM4 := Aside0.mk ((HM.out.step hb9).stopped 4); clear hb9) | ((with_reducible refine gate_store (t := 95) (p := 8) rfl ?_); refine storeS _ _ rfl rfl rfl _ rfl _ rfl _ HM4.out.hr rfl (Cs.of _) ?_; intro W3 h2 hk3))
  refine bodyPost_ret (results_cell_row rfl _ _ (w.heap.size + 3) 95 _ (0, 0) _ rfl h2 hu95 rfl (by kernel_rfl)) rfl ?_
  exact ⟨s.stopped 4, rfl, by rw [HQ.out, HQ2.out]; exact HM4.out.fin hk3⟩
 case true =>
  obtain ⟨p1, p2⟩ := placeB_is HPB.out
  obtain ⟨sz, hsz⟩ : ∃ sz : Nat, i.f5 = (sz : Int) := ⟨i.f5.toNat, by have := HSZ.out; omega⟩
  have HZ := Aside0.mk hsz
  have sz1 : (sz : Int) <= 8 := by have := HSZ.out; omega
  have p2' : u <= 4194304 - (sz : Int) := by rw [<- hsz]; exact p2
  rw [hsz] at HPC y5
  have HSZ' := Aside0.mk (show sz = 1 ∨ sz = 4 ∨ sz = 8 by have := HSZ.out; omega)
  have sz0 : 1 <= (sz : Int) := by have := HSZ'.out; omega
  clear p2 hsz
  go_wp2_with (first | (go_at_call 66; (with_reducible refine HPC.out.mono ?_); rintro e w8 ⟨rfl, rfl⟩))
  go_loopg [11, 13] sz (fun gg v11 v13 w' => ∃ (k : Nat) (n : Int), k <= sz /\ k <= gg /\ v13 = .int .i64 ((k : Int) - 1) /\ v11 = .int .u64 n /\ Aside0 (ldI p.mem u k n = ldI p.mem u sz 0) /\ Aside0 (Mx w0 gt gf w w' s s p (.slice (some ⟨gx, 0, none⟩) xs.length c) xs s.cs fc ic (.slice Av i.f7.length cv) (i.f7.map (rd xs))))
  case atStart => exact ⟨sz, 0, Nat.le_refl _, Nat.le_refl _, rfl, rfl, ⟨rfl⟩, HM⟩
  case round =>
   clear HM
   obtain ⟨k, n, hk, hgk, rfl, rfl, HV, HM⟩ := hrel
   cases k with
   | zero =>
    have k2 : ((0 : Nat) : Int) - 1 = -1 := by decide
    rw [k2]
    clear k2
    have HV2 := Aside0.mk (show n = ldI p.mem u sz 0 from HV.out)
    clear HV
    have y1 := (blk_cell HM.out.hi 1).trans HC.out.2.1
    have y5 := (blk_cell HM.out.hi 5).trans HC.out.2.2.2.1
    rw [HZ.out] at y5
    have sz4 : IntKind.i64.wrap (8 * (sz : Int)) = 8 * (sz : Int) := by rw [IntKind.wrap_i64]; omega
    have HMd := Aside0.mk (HM.out.step (below_drew (Below.refl _ _)))
    obtain ⟨hx, hf⟩ := Kd.R_celln 0 HMd.out.mp.xr.row (d : Int) d0 d1
    rw [Int.toNat_natCast] at hx hf
    have hp := Kd.R_putg HMd.out.mp.xr.row (d : Int) (narI n (8 * sz))
    rw [Int.toNat_natCast] at hp
    have HM2 := Aside0.mk (HMd.out.regs ((RowSt.start HMd.out.mp.xr.row (Below.refl _ _)).next hp.1 hp.2 (.inl rfl)))
    clear hp
    have HNC := Aside0.mk (fun W => (show Calls Tryd.prog 64 #[.int .u64 n, .int .i64 (8 * (sz : Int)), .bool true] W fun e w' => e = .returned (.tuple #[.int .u64 (narI n (8 * sz)), .bool true]) /\ W = w' by have h := nar_calls n (8 * sz) W (by rw [HV2.out]; exact ldI_nonneg _ _ _ _ (Int.le_refl _)) (by have := HSZ'.out; omega); rwa [show ((8 * sz : Nat) : Int) = 8 * (sz : Int) by omega] at h))
    have HE := Aside0.mk (show narI n (8 * sz) = narI (ldI p.mem u sz 0) (8 * sz) by rw [<- HV2.out])
    have HPL := Aside0.mk (show ldP p i.f5 (rd xs (a : Int)) = p by unfold ldP; rw [HU.out, HPB.out]; rfl)
    have HXL := Aside0.mk (show ldX p xs d i.f5 (rd xs (a : Int)) = xs.set d (narI (ldI p.mem u sz 0) (8 * sz)) by unfold ldX; rw [HU.out, HPB.out, HZ.out]; rfl)
    generalize narI n (8 * sz) = r at hx hf HM2 HNC HE ⊢
    have q1 : (wr.setCell ⟨gx, d, none⟩ (.int .u64 r)).cell? ⟨w.heap.size + 1 + 1, 1, none⟩ = some (.int .i64 (d : Int)) := (blk_cell HM2.out.hi 1).trans HC.out.2.1
    have q5 : (wr.setCell ⟨gx, d, none⟩ (.int .u64 r)).cell? ⟨w.heap.size + 1 + 1, 5, none⟩ = some (.int .i64 (sz : Int)) := (blk_cell HM2.out.hi 5).trans (by rw [HC.out.2.2.2.1, HZ.out])
    clear HM HMd
    go_upto_region 33 with (fail)
    first | go_region_held3 (fun w' => w'.cell? ⟨w.heap.size + 1 + 1, 1, none⟩ = some (.int .i64 (d : Int)) /\ w'.cell? ⟨w.heap.size + 1 + 1, 5, none⟩ = some (.int .i64 (sz : Int))) (go_keep) (first | (go_at_call 64; (with_reducible refine (HNC.out _).mono ?_); rintro e w9 ⟨rfl, rfl⟩)) | fail
    all_goals
     go_wp2_with (first | ((with_reducible refine gate_dst (N := 446) rfl ?_); refine load95 _ rfl rfl _ rfl _ HM2.out.hg (Cs.of s) ?_) | ((with_reducible refine gate_store (t := 95) (p := 8) rfl ?_); refine storeS _ _ rfl rfl rfl _ rfl _ rfl _ HM2.out.hr rfl (Cs.of s) ?_; intro W3 h2 hk3))
     refine bodyPost_ret (results_cell_row rfl _ _ (w.heap.size + 3) 95 _ (0, 0) _ rfl h2 hu95 rfl (by kernel_rfl)) rfl ?_
     exact ⟨s, rfl, by rw [HPL.out, HXL.out, <- HE.out]; exact HM2.out.fin hk3⟩
   | succ k =>
    have k0 : 0 <= (k : Int) := by omega
    have k1 : (k : Int) <= 8 := by omega
    have k2 : ((k + 1 : Nat) : Int) - 1 = (k : Int) := by omega
    rw [k2]
    clear k2
    have HBC := Aside0.mk (byteAt_calls s p.mem (u + (k : Int)) wr HM.out.mp.st.mem.readsC (by omega) (by omega) HML.out)
    go_wp2_with (first | ((with_reducible refine gate_dst (N := 174) rfl ?_); refine load95 _ rfl rfl _ rfl _ HM.out.hg (Cs.of s) ?_) | (go_at_call 68; (with_reducible refine HBC.out.mono ?_); rintro e w8 ⟨rfl, hb8⟩))
    have HM2 := Aside0.mk (HM.out.step hb8)
    clear hb8
    go_roundg k
    case measure => omega
    case rel => exact ⟨k, _, by omega, Nat.le_refl _, rfl, rfl, HV, HM2⟩
set_option maxHeartbeats 4000000 in
set_option maxRecDepth 20000 in
theorem mem36 (h : StI w0 gt gf w s p) (hx : XR w0 w s (.slice A xs.length c) xs) (hI : InI w0 i A7 A8 c8 xs.length) (hF : FrI w0 w fc fr) (hop : i.f0 = 36) (a : Nat) (ha : i.f2 = (a : Int)) (hal : a < xs.length) (b : Nat) (hb : i.f3 = (b : Int)) (hbl : b < xs.length) (hsz : i.f5 = 1 ∨ i.f5 = 4 ∨ i.f5 = 8) (hu0 : 0 <= rd xs (a : Int)) (hml : p.mem.length <= 4194304) (hu1 : 0 <= rd xs (b : Int)) :
  Calls Tryd.prog 57 #[.agg s.cs, .agg fc, .agg (icOf i A7 c7 A8 c8), .slice A xs.length c] w (MPost w0 gt gf w s (stP p i.f5 (rd xs (a : Int)) (rd xs (b : Int))) (.slice A xs.length c) xs) := by
 have hu95 := Tryd.underlying95
 have hu44 := Tryd.underlying44
 have hu71 := Tryd.underlying71
 have hu112 := Tryd.underlying112
 have hu22 := Tryd.underlying22
 have HS := Aside0.mk h
 have HXR := Aside0.mk hx
 have HI := Aside0.mk hI
 have HF := Aside0.mk hF
 have HVC := Aside0.mk (fun W (hb : Below w.heap.size w W) => vals_calls W A c xs A7 c7 i.f7 (hx.row.keep rfl (Kp.below hb (fun _ => False)) (fun _ _ h => h)).reads.2.2 (Kd.C_below hI.a7 (gt_below h hb)) hI.r7 hI.l7)
 have HC := Aside0.mk (show (icOf i A7 c7 A8 c8)[0]? = some (.int .i64 36) /\ (icOf i A7 c7 A8 c8)[2]? = some (.int .i64 (a : Int)) /\ (icOf i A7 c7 A8 c8)[3]? = some (.int .i64 (b : Int)) /\ (icOf i A7 c7 A8 c8)[5]? = some (.int .i64 i.f5) /\ (icOf i A7 c7 A8 c8)[7]? = some (.slice A7 i.f7.length c7) from ⟨by rw [<- hop]; rfl, by rw [<- ha]; rfl, by rw [<- hb]; rfl, rfl, rfl⟩)
 have HSZ := Aside0.mk hsz
 have HU0 := Aside0.mk hu0
 have HML := Aside0.mk hml
 have HU1 := Aside0.mk hu1
 generalize icOf i A7 c7 A8 c8 = ic at HC
 have a0 : 0 <= (a : Int) := by omega
 have a1 : (a : Int) < (xs.length : Int) := by omega
 have b0 : 0 <= (b : Int) := by omega
 have b1 : (b : Int) < (xs.length : Int) := by omega
 clear h hx hI hF hop ha hb hsz hu0 hml hu1
 go_enter Tryd.func57, Tryd.ntmps57
 go_upto_region 1 with (fail)
 generalize hW : World.alloc (World.alloc (World.alloc (World.alloc w (Obj.cells s.cs 95)) (Obj.cells fc 112)) (Obj.cells ic 44)) _ = W
 have H4 := Aside0.mk (show B4 w W s.cs fc ic by rw [<- hW]; exact B4.new w s.cs fc ic)
 clear hW
 have y7 := (blk_cell H4.out.b2 7).trans HC.out.2.2.2.2
 go_upto_region 2 with (first | (go_at_call 55; (with_reducible refine (HVC.out _ H4.out.below).mono ?_); rintro e w2 ⟨Av, cv, rfl, hv, hb⟩; have HM := Aside0.mk (Mx.start HS.out HXR.out H4.out hb hv); clear hv hb H4 y7))
 have y0 := (blk_cell HM.out.hi 0).trans HC.out.1
 have y2 := (blk_cell HM.out.hi 2).trans HC.out.2.1
 have y3 := (blk_cell HM.out.hi 3).trans HC.out.2.2.1
 have y5 := (blk_cell HM.out.hi 5).trans HC.out.2.2.2.1
 obtain ⟨gx, capx, ex1, hgbx, hglx, clx, hgcx⟩ := Kd.R_form HM.out.mp.xr.row (by omega)
 injection ex1 with ex1 ex2 ex3
 subst ex1
 subst ex3
 obtain ⟨hxa, hfa⟩ := Kd.R_celln 0 HM.out.mp.xr.row (a : Int) a0 a1
 rw [Int.toNat_natCast] at hxa hfa
 clear hgbx hglx hgcx ex2
 obtain ⟨u, hu⟩ : ∃ u, rd xs (a : Int) = u := ⟨_, rfl⟩
 have HU := Aside0.mk hu
 rw [show rdOf (0 : Int) xs (a : Int) = u from hu] at hxa
 have u0 : 0 <= u := by rw [<- hu]; exact HU0.out
 clear hu
 have HPC := Aside0.mk (place_calls u i.f5 w2 u0 HSZ.out)
 obtain ⟨b0_, hb0⟩ : ∃ b0_, placeB u i.f5 = b0_ := ⟨_, rfl⟩
 rw [hb0] at HPC
 have HPB := Aside0.mk hb0
 clear hb0
 cases b0_
 case false =>
  have HQ := Aside0.mk (show stP p i.f5 (rd xs (a : Int)) (rd xs (b : Int)) = p.stopped 4 by unfold stP; rw [HU.out, HPB.out]; rfl)
  go_wp2_with (first | (go_at_call 66; (with_reducible refine HPC.out.mono ?_); rintro e w8 ⟨rfl, rfl⟩) | ((with_reducible refine gate_dst (N := 137) rfl ?_); refine load95 _ rfl rfl _ rfl _ HM.out.hg (Cs.of s) ?_) | (go_at_call 53; (with_reducible refine (stop_calls s 4 _).mono ?_); rintro e w9 ⟨rfl, hb9⟩; have HM4 := Aside0.mk ((HM.out.step hb9).stopped 4); clear hb9) | ((with_reducible refine gate_store (t := 95) (p := 8) rfl ?_); refine storeS _ _ rfl rfl rfl _ rfl _ rfl _ HM4.out.hr rfl (Cs.of _) ?_; intro W3 h2 hk3))
  refine bodyPost_ret (results_cell_row rfl _ _ (w.heap.size + 3) 95 _ (0, 0) _ rfl h2 hu95 rfl (by kernel_rfl)) rfl ?_
  exact ⟨s.stopped 4, rfl, by rw [HQ.out]; exact HM4.out.fin hk3⟩
 case true =>
  obtain ⟨p1, p2⟩ := placeB_is HPB.out
  obtain ⟨sz, hsz⟩ : ∃ sz : Nat, i.f5 = (sz : Int) := ⟨i.f5.toNat, by have := HSZ.out; omega⟩
  have HZ := Aside0.mk hsz
  have sz1 : (sz : Int) <= 8 := by have := HSZ.out; omega
  have p2' : u <= 4194304 - (sz : Int) := by rw [<- hsz]; exact p2
  rw [hsz] at HPC y5
  have sz0 : 1 <= (sz : Int) := by have := HSZ.out; omega
  clear p2 hsz
  obtain ⟨q, hq⟩ : ∃ q : Nat, u = 4096 + (q : Int) := ⟨(u - 4096).toNat, by omega⟩
  have q9 : (q : Int) + (sz : Int) <= 4190208 := by omega
  subst hq
  obtain ⟨hxb, hfb⟩ := Kd.R_celln 0 HM.out.mp.xr.row (b : Int) b0 b1
  rw [Int.toNat_natCast] at hxb hfb
  obtain ⟨y, hy⟩ : ∃ y, rd xs (b : Int) = y := ⟨_, rfl⟩
  rw [show rdOf (0 : Int) xs (b : Int) = y from hy] at hxb
  have HY := Aside0.mk hy
  have y0_ : 0 <= y := by rw [<- hy]; exact HU1.out
  clear hy
  go_upto_region 23 with (first | (go_at_call 66; (with_reducible refine HPC.out.mono ?_); rintro e w8 ⟨rfl, rfl⟩))
  have HYN := Aside0.mk y0_
  clear y0_
  go_wp2
  go_loopg [11, 12] sz (fun gg v11 v12 w' => ∃ (k : Nat) (n : Int) (l : List Int) (s1 : SV), k <= sz /\ sz - k <= gg /\ v12 = .int .i64 (k : Int) /\ v11 = .int .u64 n /\ Aside0 (0 <= n) /\ Aside0 (stI q (sz - k) k n l = stI q sz 0 y p.mem /\ l.length <= 4194304) /\ Aside0 (Mx w0 gt gf w w' s s1 { p with mem := l } (.slice (some ⟨gx, 0, none⟩) xs.length c) xs s1.cs fc ic (.slice Av i.f7.length cv) (i.f7.map (rd xs))))
  case atStart => exact ⟨0, y, p.mem, s, Nat.zero_le _, Nat.le_refl _, rfl, rfl, HYN, ⟨rfl, HML.out⟩, HM⟩
  case round =>
   clear HM
   obtain ⟨k, n, l, s1, hk, hgk, rfl, rfl, HN0, HV, HM⟩ := hrel
   have y5 := (blk_cell HM.out.hi 5).trans HC.out.2.2.2.1
   rw [HZ.out] at y5
   by_cases hlt : k < sz
   ·have k0 : 0 <= (k : Int) := by omega
    have k1 : (k : Int) < (sz : Int) := by omega
    have k3 : (k : Int) <= 8 := by omega
    have n0 : 0 <= n := HN0.out
    have HBC := Aside0.mk (mput_calls s1 l (q + k) (n % 256) w0 wr HM.out.mp.st.mem HM.out.mp.st.below (by omega) HV.out.2)
    rw [show 4096 + ((q + k : Nat) : Int) = 4096 + (q : Int) + (k : Int) by omega] at HBC
    have HST := Aside0.mk (show stI q (sz - k) k n l = stI q (sz - (k + 1)) (k + 1) (IntKind.u64.wrap (n.tdiv 256)) (putL l (q + k) (n % 256)) by rw [show sz - k = (sz - (k + 1)) + 1 by omega]; rfl)
    have HLN := Aside0.mk (putL_len2 (q + k) (n % 256) HV.out.2 (by omega))
    have HN2 := Aside0.mk (wrap_rng (n.tdiv 256)).1
    go_wp2_with (first | ((with_reducible refine gate_dst (N := 153) rfl ?_); refine load95 _ rfl rfl _ rfl _ HM.out.hg (Cs.of s1) ?_) | (go_at_call 67; (with_reducible refine HBC.out.mono ?_); rintro e w8 ⟨A1, n1, c1, rfl, hrs, hb8⟩; have HM5 := Aside0.mk (HM.out.pst (HM.out.mp.st.setMem hrs)); clear hrs hb8) | ((with_reducible refine gate_store (t := 95) (p := 4) rfl ?_); refine storeS _ _ rfl rfl rfl _ rfl _ rfl _ HM5.out.hg (Cs.of s1).sz (Cs.of (s1.mem A1 n1 c1)) ?_; intro W5 h5 hk5; have HM6 := Aside0.mk (HM5.out.copy h5 hk5); clear h5 hk5))
    go_roundg (sz - (k + 1))
    case measure => omega
    case rel => exact ⟨k + 1, IntKind.u64.wrap (n.tdiv 256), putL l (q + k) (n % 256), s1.mem A1 n1 c1, by omega, Nat.le_refl _, by go_num, rfl, HN2, ⟨by rw [<- HST.out]; exact HV.out.1, HLN.out⟩, HM6⟩
   ·obtain rfl : k = sz := by omega
    have HV2 := Aside0.mk (show l = stI q k 0 y p.mem by have h := HV.out.1; rwa [Nat.sub_self] at h)
    have HPQ := Aside0.mk (show stP p i.f5 (rd xs (a : Int)) (rd xs (b : Int)) = { p with mem := l } by unfold stP; rw [HU.out, HPB.out, HY.out, HZ.out, HV2.out, show (4096 + (q : Int) - 4096).toNat = q by omega]; rfl)
    go_wp2_with (first | ((with_reducible refine gate_dst (N := 164) rfl ?_); refine load95 _ rfl rfl _ rfl _ HM.out.hg (Cs.of s1) ?_) | ((with_reducible refine gate_store (t := 95) (p := 8) rfl ?_); refine storeS _ _ rfl rfl rfl _ rfl _ rfl _ HM.out.hr rfl (Cs.of s1) ?_; intro W3 h2 hk3))
    refine bodyPost_ret (results_cell_row rfl _ _ (w.heap.size + 3) 95 _ (0, 0) _ rfl h2 hu95 rfl (by kernel_rfl)) rfl ?_
    exact ⟨s1, rfl, by rw [HPQ.out]; exact HM.out.fin hk3⟩
end
end
end Go.Proofs.YtjfleaekljapeaaDoor.K
