import Derived.Test.YtjfleaekljapeaaDoorXAY
import Derived.Deep.DeepMust
import Derived.Test.YtjfleaekljapeaaDoorProg
import Derived.Below
import Derived.Deep.Draws
import Derived.Deep.AppendLies
import Derived.Maps.AppendAt
import Derived.OwnWalk
import Derived.Laws.BytesArg
import Derived.Laws.MakeOwn
import Derived.Laws.OwnMore
import Derived.Deep.OwnRows
import Derived.Tactics
import Derived.Lib.ConvBytes
import Derived.Laws.Slices
import Derived.WalkKit
import Derived.KernelRfl
import Derived.RowKit3
import Derived.Deep.LoopGhost
import Derived.Deep.QuietTactic
import Derived.BigQuiet
import Derived.WideLaws
import Derived.Deep.DeepCutAuto
import Derived.Deep.CutBlock
import Derived.Deep.RegionHeld3
import Derived.Deep.MidRow
import Derived.Laws.Tables
import Derived.StillTailTactics
import Derived.Laws.Rows
import Derived.Lib.AppendStr
import Derived.ArgAppend
import Derived.Laws.IdiomCopy
import Derived.OrdersHeld
import Derived.Laws.BitsLemmas
import Derived.Laws.BitsAllLaws
import Derived.RowKit
import Derived.RegionTactic
import Derived.Deep.RegionWith
import Derived.Lib.Hide
import Derived.Test.YtjfleaekljapeaaDoorXAA
import Derived.Test.YtjfleaekljapeaaDoorXAB
import Derived.Test.YtjfleaekljapeaaDoorXAC
import Derived.Deep.RegionLaw
import Derived.Laws.CopyOwn
import Derived.Shelf.Spec.TrailingZeros
import Derived.Test.YtjfleaekljapeaaDoorXAX
namespace Go.Proofs.YtjfleaekljapeaaDoor.K
open Go.RowKit Go.Proofs.YtjfleaekljapeaaDoorW.PrintWords Go.Proofs.YtjfleaekljapeaaDoorW.PrintLast Go.Proofs.YtjfleaekljapeaaDoorW.PrintMore
attribute [local go_sem] max2_int min2_int max_two min_two max_three min_three max_four min_four   -- for this text's walks alone
set_option linter.unusedVariables false
set_option linter.unusedSimpArgs false
set_option linter.unusedSectionVars false
section
theorem Lx.gi_ne {w0 w W : World} {gt gf g gi : Nat} {s0 s : SV} {p : PS} {v fv : Value} {xs fl : List Int} {cs fnc fc ic : Array Value} (h : Lx w0 gt gf w W s0 s p v xs cs fnc g fc fv fl) (hb : W.heap[gi]? = some (.cells ic 44 (0, 0))) : ¬ gi = w.heap.size := fun e => by
 rw [e, h.hs] at hb
 injection hb with hb
 injection hb with _ hb
 cases hb
section
variable {w0 w W : World} {gt gf g gx gi : Nat} {f : Fr4} {s0 s : SV} {A5 A7 A8 : Option Addr} {c5 c7 c8 : Nat} {fr : FP} {was : Int} {p : PS} {xs : List Int} {q k : Nat} {i : S44} {u : Nat -> Value} {Q0 : Exit -> Act -> World -> Prop}
set_option maxHeartbeats 4000000 in
set_option maxRecDepth 20000 in
theorem sw_43a (hX : Lx w0 gt gf w W s0 s p (.slice (some ⟨gx, 0, none⟩) f.l2.length f.l2.length) xs s.cs f.cs g (f.fc A5 fr.slots.length c5 fr.lock fr.key) (.slice A5 fr.slots.length c5) fr.slots) (hB : W.heap[gi]? = some (.cells (icOf i A7 c7 A8 c8) 44 (0, 0))) (hI : InI w0 i A7 A8 c8 f.l2.length) (hlen : xs.length = f.l2.length) (hop : i.f0 = 43) (hl : 0 < fr.lock) (hl2 : fr.lock < p.locks.length) (hR : ∀ (l : List Value) (W2 : World) (v7 : Value), l.getD 6 undef = .pointer (some ⟨w.heap.size + 2, 0, none⟩) -> l.getD 7 undef = v7 -> RetOk w0 gt gf w s0 (retP p fr was, i.f7.map (rd xs)) W2 v7 -> Q0 .ret ⟨l.toArray, []⟩ W2) (hPn : ∀ c a d v W2, Q0 (.panic c) (a.put d v) W2 -> Q0 (.panic c) a W2) :
  Code.wp Tryd.prog sw40 Q0 (Fs40 w.heap.size g gx f.l2.length was (q + 1) gi i.f0 u) W := by
 have hu44 := Tryd.underlying44
 have hu95 := Tryd.underlying95
 have hu112 := Tryd.underlying112
 have hu71 := Tryd.underlying71
 have hu22 := Tryd.underlying22
 rw [hop]
 have HI := Aside0.mk hI
 have HLEN := Aside0.mk hlen
 have HR := Aside0.mk hR
 have HPN := Aside0.mk hPn
 have HX := Aside0.mk hX
 have HB := Aside0.mk hB
 clear hI hlen hop hR hX hB hPn
 have HRP := Aside0.mk (show retP p fr was = (({ p with locks := p.locks.set fr.lock.toNat 0 } : PS).atTop was) by unfold retP; rw [if_pos hl]; rfl)
 unfold Fs40 sw40
 conv => arg 2; arg 2; whnf
 have y6 := (blk_cell HX.out.hg 6).trans (show _ = some (Value.int .i64 fr.lock) from rfl)
 have l0 : 0 <= fr.lock := by omega
 have x5 := (blk_cell HX.out.hs 5).trans (show _ = some s.kv from rfl)
 obtain ⟨gk, capk, ek, _, _, _⟩ := Kd.R_form HX.out.st.locks (show 0 < p.locks.length by omega)
 have HEK := Aside0.mk ek
 have hlk := HX.out.st.locks
 rw [ek] at hlk x5
 obtain ⟨hkx, hkf⟩ := Kd.R_celln 0 hlk fr.lock l0 hl2
 have hp := Kd.R_putg hlk fr.lock 0
 have HX2 := Aside0.mk (show Lx w0 gt gf w (W.setCell ⟨gk, fr.lock.toNat, none⟩ (.int .u64 0)) s0 s { p with locks := p.locks.set fr.lock.toNat 0 } (.slice (some ⟨gx, 0, none⟩) f.l2.length f.l2.length) xs s.cs f.cs g (f.fc A5 fr.slots.length c5 fr.lock fr.key) (.slice A5 fr.slots.length c5) fr.slots from HX.out.mp ((MP.start HX.out.st HX.out.xr).pst (HX.out.st.setK ((RowSt.start HX.out.st.locks (Below.refl _ _)).next (v2 := .slice s.a5 s.n5 s.c5) (by rw [show Value.slice s.a5 s.n5 s.c5 = .slice (some ⟨gk, 0, none⟩) p.locks.length capk from HEK.out]; exact hp.1) (by rw [HEK.out]; exact hp.2) (.inl rfl)))))
 clear hp hlk ek
 have HBL := Aside0.mk (show (W.setCell ⟨gk, fr.lock.toNat, none⟩ (.int .u64 0)).heap[gi]? = some (.cells (icOf i A7 c7 A8 c8) 44 (0, 0)) from (Below.heap_setCell W ⟨gk, fr.lock.toNat, none⟩ (.int .u64 0) gi (fun e => HX.out.st.locks.not_at HB.out (by decide) (show (s.kv).ownBlock = some gi by rw [HEK.out, e]; rfl))).trans HB.out)
 go_upto_region 32 with (fail)
 clear x5 y6 hkx hkf HB
 generalize World.setCell W ⟨gk, fr.lock.toNat, none⟩ (.int .u64 0) = W2 at HX2 HBL ⊢
 clear HX
 obtain ⟨p2, hp2⟩ : ∃ p2 : PS, p2 = ({ p with locks := p.locks.set fr.lock.toNat 0 } : PS) := ⟨_, rfl⟩
 rw [<- hp2] at HX2
 rw [show ({ p with locks := p.locks.set fr.lock.toNat 0 } : PS) = p2 from hp2.symm] at HRP
 clear hp2
 have x9 := (blk_cell HX2.out.hs 9).trans (show _ = some (Value.int .i64 s.top) from rfl)
 have q9 := blk_frozen HX2.out.hs 9
 go_upto_region 33 with (fail)
 clear x9 q9
 have n0_ := Aside0.mk (HX2.out.top was)
 have HB2 := Aside0.mk (show (W2.setCell ⟨w.heap.size, 9, none⟩ (.int .i64 was)).heap[gi]? = some (.cells (icOf i A7 c7 A8 c8) 44 (0, 0)) from (kp_set _ w.heap.size 9 (.int .i64 was)).blk gi (blk_lt HBL.out) (HX2.out.gi_ne HBL.out) |>.trans HBL.out)
 clear HX2 HBL
 have HX := n0_
 clear n0_
 generalize World.setCell W2 ⟨w.heap.size, 9, none⟩ (.int .i64 was) = W4 at HX HB2 ⊢
 obtain ⟨s5, es5⟩ : ∃ s5 : SV, s5 = s.atTop was := ⟨_, rfl⟩
 rw [<- es5] at HX
 clear es5
 have HVC := Aside0.mk (fun W9 (hb : Below W4.heap.size W4 W9) => vals_calls W9 (some ⟨gx, 0, none⟩) f.l2.length xs A7 c7 i.f7 ((HX.out.step hb).xr.row.reads.2.2) (Kd.C_below HI.out.a7 (HX.out.step hb).st.below) (by rw [HLEN.out]; exact HI.out.r7) HI.out.l7)
 rw [HLEN.out] at HVC
 have HY7 := Aside0.mk (show ∀ w9, Below W4.heap.size W4 w9 -> w9.cell? ⟨gi, 7, none⟩ = some (.slice A7 i.f7.length c7) from fun w9 hb => (blk_cell (blk_below HB2.out hb) 7).trans rfl)
 have hS0 : Below W4.heap.size W4 W4.drew := below_drew (Below.refl _ _)
 go_upto_region 34 with (fail)
 refine sh_start (fun w9 => Below W4.heap.size W4 w9) (fun k => decide (k < 5)) (by kernel_rfl) ?_
 refine SH.loadK 95 0 rfl (by kernel_rfl) _ rfl w.heap.size rfl s5.cs (fun c a w h => HPN.out c a _ _ w h) hS0 (by rfl) (fun w9 hb => blk_below HX.out.hs hb) (fun w9 h => run_loadVar_row w9 _ 95 95 _ (0, 0) _ h hu95 rfl (by kernel_rfl)) ?_
 simp only [List.getElem_toArray, List.getElem_cons_succ, List.getElem_cons_zero, Act.put, List.setIfInBounds_toArray, List.set_cons_zero, List.set_cons_succ]
 refine SH.take 1 (v := ?_) rfl (by kernel_rfl) (fun c a w h => HPN.out c a _ _ w h) hS0 (by rfl) ?_ ?_
 rotate_left
 ·intro w9 hS9
  go_simp <;> (with_reducible rfl)
 simp only [List.getElem_toArray, List.getElem_cons_succ, List.getElem_cons_zero, Act.put, List.setIfInBounds_toArray, List.set_cons_zero, List.set_cons_succ]
 refine SH.take 2 (v := ?_) rfl (by kernel_rfl) (fun c a w h => HPN.out c a _ _ w h) hS0 (by rfl) ?_ ?_
 rotate_left
 ·intro w9 hS9
  go_simp <;> (with_reducible rfl)
 simp only [List.getElem_toArray, List.getElem_cons_succ, List.getElem_cons_zero, Act.put, List.setIfInBounds_toArray, List.set_cons_zero, List.set_cons_succ]
 refine SH.take 3 (v := ?_) rfl (by kernel_rfl) (fun c a w h => HPN.out c a _ _ w h) hS0 (by rfl) ?_ ?_
 rotate_left
 ·intro w9 hS9
  have y7 := HY7.out w9 hS9
  go_simp <;> (with_reducible rfl)
 simp only [List.getElem_toArray, List.getElem_cons_succ, List.getElem_cons_zero, Act.put, List.setIfInBounds_toArray, List.set_cons_zero, List.set_cons_succ]
 refine SH.act 4 rfl (by kernel_rfl) ?_
 intro K hK
 go_simp
 refine (HVC.out _ hS0).mono ?_
 rintro e w5 ⟨A2, c2, rfl, hr5, hb5⟩
 have HB5 := Aside0.mk (below_step hS0 hb5)
 have HR5 := Aside0.mk (show Rw (Kd.int .u64) 42 w w5 (.slice A2 i.f7.length c2) (i.f7.map (rd xs)) from Kd.R_lower hr5 (Nat.le_trans HX.out.kp.size hS0.size))
 refine hK _ _ (fun _ => HB5.out) ?_
 clear hK K hr5 hb5
 have HX5 := Aside0.mk (HX.out.step HB5.out)
 refine SH.storeT 5 rfl (by kernel_rfl) 95 17 info95 _ _ rfl rfl (by rfl) (w.heap.size + 2) rfl s5.cs rfl _ HX5.out.hr rfl rfl (Cs.of s5).one ?_
 intro W6 h6 hk6
 refine ⟨fun h => by simp at h, ?_⟩
 refine SH.pure 6 (v := ?_) rfl (by kernel_rfl) rfl (fun c a w h => HPN.out c a _ _ w h) (by rfl) ?_ ?_
 rotate_left
 ·intro w9
  go_simp <;> (with_reducible rfl)
 simp only [List.getElem_toArray, List.getElem_cons_succ, List.getElem_cons_zero, Act.put, List.setIfInBounds_toArray, List.set_cons_zero, List.set_cons_succ]
 refine SH.done (by kernel_rfl) ?_
 go_wp2
 refine HR.out _ _ _ rfl rfl ?_
 refine ⟨s5, A2, c2, h6, by rw [List.length_map]; rfl, by rw [HRP.out]; exact HX5.out.fin hk6, ?_⟩
 have h7 := HR5.out.keep rfl hk6 (fun k e he => HR5.out.not_at HX5.out.hr (by decide) (he ▸ e))
 rw [List.length_map]
 exact h7
set_option maxHeartbeats 4000000 in
set_option maxRecDepth 20000 in
theorem sw_43b (hX : Lx w0 gt gf w W s0 s p (.slice (some ⟨gx, 0, none⟩) f.l2.length f.l2.length) xs s.cs f.cs g (f.fc A5 fr.slots.length c5 fr.lock fr.key) (.slice A5 fr.slots.length c5) fr.slots) (hB : W.heap[gi]? = some (.cells (icOf i A7 c7 A8 c8) 44 (0, 0))) (hI : InI w0 i A7 A8 c8 f.l2.length) (hlen : xs.length = f.l2.length) (hop : i.f0 = 43) (hl : ¬ 0 < fr.lock) (hR : ∀ (l : List Value) (W2 : World) (v7 : Value), l.getD 6 undef = .pointer (some ⟨w.heap.size + 2, 0, none⟩) -> l.getD 7 undef = v7 -> RetOk w0 gt gf w s0 (retP p fr was, i.f7.map (rd xs)) W2 v7 -> Q0 .ret ⟨l.toArray, []⟩ W2) (hPn : ∀ c a d v W2, Q0 (.panic c) (a.put d v) W2 -> Q0 (.panic c) a W2) :
  Code.wp Tryd.prog sw40 Q0 (Fs40 w.heap.size g gx f.l2.length was (q + 1) gi i.f0 u) W := by
 have hu44 := Tryd.underlying44
 have hu95 := Tryd.underlying95
 have hu112 := Tryd.underlying112
 have hu71 := Tryd.underlying71
 have hu22 := Tryd.underlying22
 rw [hop]
 have HI := Aside0.mk hI
 have HLEN := Aside0.mk hlen
 have HR := Aside0.mk hR
 have HPN := Aside0.mk hPn
 have HX := Aside0.mk hX
 have HB := Aside0.mk hB
 clear hI hlen hop hR hX hB hPn
 have HRP := Aside0.mk (show retP p fr was = (({ p with locks := p.locks } : PS).atTop was) by unfold retP; rw [if_neg hl]; rfl)
 unfold Fs40 sw40
 conv => arg 2; arg 2; whnf
 have y6 := (blk_cell HX.out.hg 6).trans (show _ = some (Value.int .i64 fr.lock) from rfl)
 go_upto_region 32 with (fail)
 clear y6
 have HX2 := Aside0.mk HX.out
 have HBL := Aside0.mk HB.out
 clear HX HB
 have x9 := (blk_cell HX2.out.hs 9).trans (show _ = some (Value.int .i64 s.top) from rfl)
 have q9 := blk_frozen HX2.out.hs 9
 go_upto_region 33 with (fail)
 clear x9 q9
 have n0_ := Aside0.mk (HX2.out.top was)
 have HB2 := Aside0.mk (show (W.setCell ⟨w.heap.size, 9, none⟩ (.int .i64 was)).heap[gi]? = some (.cells (icOf i A7 c7 A8 c8) 44 (0, 0)) from (kp_set _ w.heap.size 9 (.int .i64 was)).blk gi (blk_lt HBL.out) (HX2.out.gi_ne HBL.out) |>.trans HBL.out)
 clear HX2 HBL
 have HX := n0_
 clear n0_
 generalize World.setCell W ⟨w.heap.size, 9, none⟩ (.int .i64 was) = W4 at HX HB2 ⊢
 obtain ⟨s5, es5⟩ : ∃ s5 : SV, s5 = s.atTop was := ⟨_, rfl⟩
 rw [<- es5] at HX
 clear es5
 have HVC := Aside0.mk (fun W9 (hb : Below W4.heap.size W4 W9) => vals_calls W9 (some ⟨gx, 0, none⟩) f.l2.length xs A7 c7 i.f7 ((HX.out.step hb).xr.row.reads.2.2) (Kd.C_below HI.out.a7 (HX.out.step hb).st.below) (by rw [HLEN.out]; exact HI.out.r7) HI.out.l7)
 rw [HLEN.out] at HVC
 have HY7 := Aside0.mk (show ∀ w9, Below W4.heap.size W4 w9 -> w9.cell? ⟨gi, 7, none⟩ = some (.slice A7 i.f7.length c7) from fun w9 hb => (blk_cell (blk_below HB2.out hb) 7).trans rfl)
 have hS0 : Below W4.heap.size W4 W4.drew := below_drew (Below.refl _ _)
 go_upto_region 34 with (fail)
 refine sh_start (fun w9 => Below W4.heap.size W4 w9) (fun k => decide (k < 5)) (by kernel_rfl) ?_
 refine SH.loadK 95 0 rfl (by kernel_rfl) _ rfl w.heap.size rfl s5.cs (fun c a w h => HPN.out c a _ _ w h) hS0 (by rfl) (fun w9 hb => blk_below HX.out.hs hb) (fun w9 h => run_loadVar_row w9 _ 95 95 _ (0, 0) _ h hu95 rfl (by kernel_rfl)) ?_
 simp only [List.getElem_toArray, List.getElem_cons_succ, List.getElem_cons_zero, Act.put, List.setIfInBounds_toArray, List.set_cons_zero, List.set_cons_succ]
 refine SH.take 1 (v := ?_) rfl (by kernel_rfl) (fun c a w h => HPN.out c a _ _ w h) hS0 (by rfl) ?_ ?_
 rotate_left
 ·intro w9 hS9
  go_simp <;> (with_reducible rfl)
 simp only [List.getElem_toArray, List.getElem_cons_succ, List.getElem_cons_zero, Act.put, List.setIfInBounds_toArray, List.set_cons_zero, List.set_cons_succ]
 refine SH.take 2 (v := ?_) rfl (by kernel_rfl) (fun c a w h => HPN.out c a _ _ w h) hS0 (by rfl) ?_ ?_
 rotate_left
 ·intro w9 hS9
  go_simp <;> (with_reducible rfl)
 simp only [List.getElem_toArray, List.getElem_cons_succ, List.getElem_cons_zero, Act.put, List.setIfInBounds_toArray, List.set_cons_zero, List.set_cons_succ]
 refine SH.take 3 (v := ?_) rfl (by kernel_rfl) (fun c a w h => HPN.out c a _ _ w h) hS0 (by rfl) ?_ ?_
 rotate_left
 ·intro w9 hS9
  have y7 := HY7.out w9 hS9
  go_simp <;> (with_reducible rfl)
 simp only [List.getElem_toArray, List.getElem_cons_succ, List.getElem_cons_zero, Act.put, List.setIfInBounds_toArray, List.set_cons_zero, List.set_cons_succ]
 refine SH.act 4 rfl (by kernel_rfl) ?_
 intro K hK
 go_simp
 refine (HVC.out _ hS0).mono ?_
 rintro e w5 ⟨A2, c2, rfl, hr5, hb5⟩
 have HB5 := Aside0.mk (below_step hS0 hb5)
 have HR5 := Aside0.mk (show Rw (Kd.int .u64) 42 w w5 (.slice A2 i.f7.length c2) (i.f7.map (rd xs)) from Kd.R_lower hr5 (Nat.le_trans HX.out.kp.size hS0.size))
 refine hK _ _ (fun _ => HB5.out) ?_
 clear hK K hr5 hb5
 have HX5 := Aside0.mk (HX.out.step HB5.out)
 refine SH.storeT 5 rfl (by kernel_rfl) 95 17 info95 _ _ rfl rfl (by rfl) (w.heap.size + 2) rfl s5.cs rfl _ HX5.out.hr rfl rfl (Cs.of s5).one ?_
 intro W6 h6 hk6
 refine ⟨fun h => by simp at h, ?_⟩
 refine SH.pure 6 (v := ?_) rfl (by kernel_rfl) rfl (fun c a w h => HPN.out c a _ _ w h) (by rfl) ?_ ?_
 rotate_left
 ·intro w9
  go_simp <;> (with_reducible rfl)
 simp only [List.getElem_toArray, List.getElem_cons_succ, List.getElem_cons_zero, Act.put, List.setIfInBounds_toArray, List.set_cons_zero, List.set_cons_succ]
 refine SH.done (by kernel_rfl) ?_
 go_wp2
 refine HR.out _ _ _ rfl rfl ?_
 refine ⟨s5, A2, c2, h6, by rw [List.length_map]; rfl, by rw [HRP.out]; exact HX5.out.fin hk6, ?_⟩
 have h7 := HR5.out.keep rfl hk6 (fun k e he => HR5.out.not_at HX5.out.hr (by decide) (he ▸ e))
 rw [List.length_map]
 exact h7
end
end
section
section
variable {w0 w W : World} {gt gf g gx gi : Nat} {f : Fr4} {s0 s : SV} {A5 A7 A8 : Option Addr} {c5 c7 c8 : Nat} {fr : FP} {was : Int} {p : PS} {xs : List Int} {q k : Nat} {i : S44} {u : Nat -> Value} {Q0 : Exit -> Act -> World -> Prop}
set_option maxHeartbeats 4000000 in
set_option maxRecDepth 20000 in
theorem sw_42 (hX : Lx w0 gt gf w W s0 s p (.slice (some ⟨gx, 0, none⟩) f.l2.length f.l2.length) xs s.cs f.cs g (f.fc A5 fr.slots.length c5 fr.lock fr.key) (.slice A5 fr.slots.length c5) fr.slots) (hB : W.heap[gi]? = some (.cells (icOf i A7 c7 A8 c8) 44 (0, 0))) (hSI : SI w0 gt gf f) (m : Nat) (hIH : CallOk w0 gt gf f m) (hP : PI 1 k p) (hst : p.steps = (k : Int)) (hk : k <= 400) (hkm : 400 < m + k) (hstop : p.stop < 0) (hlp : 0 < p.locks.length) (hI : InI w0 i A7 A8 c8 f.l2.length) (hlen : xs.length = f.l2.length) (hop : i.f0 = 42) (hnm : sameS f.nm i.f6 = true) (h7 : i.f7 = []) (R : PS × List Int) (hR : callP f.l2.length f.l3 f.code m p = R) (h8 : R.1.stop < 0 -> i.f8.length = R.2.length) (hPn : ∀ c a d v W2, Q0 (.panic c) (a.put d v) W2 -> Q0 (.panic c) a W2) (hK1 : R.1.stop < 0 -> ∀ u W2 s2, Lx w0 gt gf w W2 s0 s2 R.1 (.slice (some ⟨gx, 0, none⟩) f.l2.length f.l2.length) (wrL xs i.f8 R.2) s2.cs f.cs g (f.fc A5 fr.slots.length c5 fr.lock fr.key) (.slice A5 fr.slots.length c5) fr.slots -> Q0 .normal (Fr40 w.heap.size g gx f.l2.length was (q + 1) u) W2) (hK0 : ¬ R.1.stop < 0 -> ∀ u W2 s2, Lx w0 gt gf w W2 s0 s2 R.1 (.slice (some ⟨gx, 0, none⟩) f.l2.length f.l2.length) xs s2.cs f.cs g (f.fc A5 fr.slots.length c5 fr.lock fr.key) (.slice A5 fr.slots.length c5) fr.slots -> Q0 .normal (Fr40 w.heap.size g gx f.l2.length was (q + 1) u) W2) :
  Code.wp Tryd.prog sw40 Q0 (Fs40 w.heap.size g gx f.l2.length was (q + 1) gi i.f0 u) W := by
 have hu44 := Tryd.underlying44
 have hu95 := Tryd.underlying95
 have hu25 := Tryd.underlying25
 have hu56 := Tryd.underlying56
 have hu54 := Tryd.underlying54
 have hu71 := Tryd.underlying71
 have hu22 := Tryd.underlying22
 rw [hop]
 have HI := Aside0.mk hI
 have HLEN := Aside0.mk hlen
 have HPN := Aside0.mk hPn
 have HK1 := Aside0.mk hK1
 have HK0 := Aside0.mk hK0
 have HX := Aside0.mk hX
 have HB := Aside0.mk hB
 have H7 := Aside0.mk h7
 have H8 := Aside0.mk h8
 have HFU := Aside0.mk (show ∀ W9, Below w0.heap.size w0 W9 -> Calls Tryd.prog 38 #[.agg #[.slice (some ⟨gt, 0, none⟩) 2 2, .slice (some ⟨gf, 0, none⟩) 1 1], .string i.f6] W9 (fun e w' => e = .returned (.tuple #[.agg #[.string f.nm, .slice f.A1 0 f.c1, .slice f.A2 f.l2.length f.c2, .slice f.A3 f.l3.length f.c3, .slice f.A4 f.code.length f.c4], .bool true]) /\ Below W9.heap.size W9 w') from fun W9 hb => by
  have h := fun_calls (nm := f.nm) (A1 := f.A1) (c1 := f.c1) (l1 := []) (A2 := f.A2) (c2 := f.c2) (l2 := f.l2) (A3 := f.A3) (c3 := f.c3) (l3 := f.l3) (A4 := f.A4) (c4 := f.c4) (code := f.code) i.f6 gt gf W9 (hSI.un.step hb)
  rw [hnm] at h
  exact h)
 have HIH := Aside0.mk (fun (W9 : World) (A : Option Addr) (c : Nat) (h : StI w0 gt gf W9 s p) => hIH W9 s p k A c h hP hst hk hkm hstop hlp)
 rw [hR] at HIH
 clear hI hlen hop hPn hK1 hK0 hX hB h7 h8 hSI hIH hP hst hk hkm hstop hlp hnm hR
 unfold Fs40 sw40
 conv => arg 2; arg 2; whnf
 have x0 := (blk_cell HX.out.hs 0).trans HX.out.st.num.c0
 have x1 := (blk_cell HX.out.hs 1).trans HX.out.st.num.c1
 have y6 := (blk_cell HB.out 6).trans (show _ = some (Value.string i.f6) from rfl)
 go_upto_region 41 with (first | (go_at_call 38; (with_reducible refine (HFU.out _ HX.out.st.below).mono ?_); rintro e w1 ⟨rfl, hb1⟩; have HB1 := Aside0.mk hb1; clear hb1))
 clear x0 x1 y6
 have HBB := Aside0.mk (below_step HB1.out ((Below.refl _ _).alloc (Nat.le_refl _) (.cells f.cs 25)))
 have HH := Aside0.mk (show (w1.alloc (.cells f.cs 25)).heap[w1.heap.size]? = some (.cells f.cs 25 (0, 0)) from heap_alloc_new _ _)
 have n0_ := Aside0.mk (HX.out.step HBB.out)
 have n1_ := Aside0.mk (blk_below HB.out HBB.out)
 clear HX HB HBB HB1
 have HX := n0_
 have HB := n1_
 clear n0_ n1_
 rw [show (w1.alloc (.cells f.cs 25)) = w1.alloc (.cells #[.string f.nm, .slice f.A1 0 f.c1, .slice f.A2 f.l2.length f.c2, .slice f.A3 f.l3.length f.c3, .slice f.A4 f.code.length f.c4] 25) from rfl] at HX HB HH
 generalize hgh : w1.heap.size = gh at HH ⊢
 generalize w1.alloc (.cells #[.string f.nm, .slice f.A1 0 f.c1, .slice f.A2 f.l2.length f.c2, .slice f.A3 f.l3.length f.c3, .slice f.A4 f.code.length f.c4] 25) = W5 at HX HB HH ⊢
 clear hgh
 have hS0 : Kp W5 W5.drew (Own s) := Kp.below (below_drew (Below.refl _ _)) _
 have HS7 := Aside0.mk (show ∀ w9, Kp W5 w9 (Own s) -> w9.cell? ⟨gi, 7, none⟩ = some (.slice A7 0 c7) from fun w9 hb => (blk_cell (far_typed hb HB.out (HX.out.st.not_own HB.out (by decide))) 7).trans (show some (Value.slice A7 i.f7.length c7) = _ by rw [H7.out]; rfl))
 go_upto_region 43 with (fail)
 refine sh_start (fun w9 => Kp W5 w9 (Own s)) (fun k => decide (k < 7)) (by kernel_rfl) ?_
 refine SH.loadK 95 0 rfl (by kernel_rfl) _ rfl w.heap.size rfl s.cs (fun c a w h => HPN.out c a _ _ w h) hS0 (by rfl) (fun w9 hb => far_typed hb HX.out.hs (HX.out.st.not_own HX.out.hs (by decide))) (fun w9 h => run_loadVar_row w9 _ 95 95 _ (0, 0) _ h hu95 rfl (by kernel_rfl)) ?_
 simp only [List.getElem_toArray, List.getElem_cons_succ, List.getElem_cons_zero, Act.put, List.setIfInBounds_toArray, List.set_cons_zero, List.set_cons_succ]
 refine SH.loadK 25 1 rfl (by kernel_rfl) _ rfl gh rfl f.cs (fun c a w h => HPN.out c a _ _ w h) hS0 (by rfl) (fun w9 hb => far_typed hb HH.out (HX.out.st.not_own HH.out (by decide))) (fun w9 h => run_loadVar_row w9 _ 25 25 _ (0, 0) _ h hu25 rfl (by kernel_rfl)) ?_
 simp only [List.getElem_toArray, List.getElem_cons_succ, List.getElem_cons_zero, Act.put, List.setIfInBounds_toArray, List.set_cons_zero, List.set_cons_succ]
 refine SH.take 2 (v := ?_) rfl (by kernel_rfl) (fun c a w h => HPN.out c a _ _ w h) hS0 (by rfl) ?_ ?_
 rotate_left
 ·intro w9 hS9
  go_simp <;> (with_reducible rfl)
 simp only [List.getElem_toArray, List.getElem_cons_succ, List.getElem_cons_zero, Act.put, List.setIfInBounds_toArray, List.set_cons_zero, List.set_cons_succ]
 refine SH.take 3 (v := ?_) rfl (by kernel_rfl) (fun c a w h => HPN.out c a _ _ w h) hS0 (by rfl) ?_ ?_
 rotate_left
 ·intro w9 hS9
  go_simp <;> (with_reducible rfl)
 simp only [List.getElem_toArray, List.getElem_cons_succ, List.getElem_cons_zero, Act.put, List.setIfInBounds_toArray, List.set_cons_zero, List.set_cons_succ]
 refine SH.take 4 (v := ?_) rfl (by kernel_rfl) (fun c a w h => HPN.out c a _ _ w h) hS0 (by rfl) ?_ ?_
 rotate_left
 ·intro w9 hS9
  have y7 := HS7.out w9 hS9
  go_simp <;> (with_reducible rfl)
 simp only [List.getElem_toArray, List.getElem_cons_succ, List.getElem_cons_zero, Act.put, List.setIfInBounds_toArray, List.set_cons_zero, List.set_cons_succ]
 refine SH.act 5 rfl (by kernel_rfl) ?_
 intro K hK
 go_simp
 have HX5 := Aside0.mk (HX.out.step (below_drew (Below.refl W5.heap.size W5)))
 have hvc := vals_calls W5.drew (some ⟨gx, 0, none⟩) f.l2.length xs A7 c7 [] (HX5.out.xr.row.reads.2.2) c_nil (fun r hr => by cases hr) (by decide)
 rw [HLEN.out] at hvc
 refine hvc.mono ?_
 rintro e w6 ⟨A2, c2, rfl, _, hb6⟩
 have HX6 := Aside0.mk (HX5.out.step hb6)
 have HS6 := Aside0.mk (show Kp W5 w6 (Own s) from hS0.then_ (Kp.below hb6 (fun _ => False)) (fun _ h => h) (fun _ h => h.elim))
 refine hK _ _ (fun _ => HS6.out) ?_
 clear hK K hb6 hvc HX5
 refine SH.act 6 rfl (by kernel_rfl) ?_
 intro K hK
 go_simp
 refine (HIH.out w6 A2 c2 HX6.out.st).mono ?_
 rintro e w7 ⟨s7, A9, c9, rfl, hp7, hr7⟩
 have HP7 := Aside0.mk hp7
 have HR7 := Aside0.mk hr7
 have HX7 := Aside0.mk (HX6.out.mp ((MP.start HX6.out.st HX6.out.xr).pst hp7))
 refine hK _ _ (fun _ => HS6.out.then_ hp7.kp (fun _ h => h) (fun k h => .inl h)) ?_
 clear hK K hp7 hr7
 refine SH.pure 7 (v := ?_) rfl (by kernel_rfl) rfl (fun c a w h => HPN.out c a _ _ w h) (by rfl) ?_ ?_
 rotate_left
 ·intro w9
  go_simp <;> (with_reducible rfl)
 simp only [List.getElem_toArray, List.getElem_cons_succ, List.getElem_cons_zero, Act.put, List.setIfInBounds_toArray, List.set_cons_zero, List.set_cons_succ]
 refine SH.pure 8 (v := ?_) rfl (by kernel_rfl) rfl (fun c a w h => HPN.out c a _ _ w h) (by rfl) ?_ ?_
 rotate_left
 ·intro w9
  go_simp <;> (with_reducible rfl)
 simp only [List.getElem_toArray, List.getElem_cons_succ, List.getElem_cons_zero, Act.put, List.setIfInBounds_toArray, List.set_cons_zero, List.set_cons_succ]
 refine SH.pure 9 (v := ?_) rfl (by kernel_rfl) rfl (fun c a w h => HPN.out c a _ _ w h) (by rfl) ?_ ?_
 rotate_left
 ·intro w9
  go_simp <;> (with_reducible rfl)
 simp only [List.getElem_toArray, List.getElem_cons_succ, List.getElem_cons_zero, Act.put, List.setIfInBounds_toArray, List.set_cons_zero, List.set_cons_succ]
 refine SH.storeT 10 rfl (by kernel_rfl) 95 17 info95 _ _ rfl rfl (by rfl) w.heap.size rfl s7.cs rfl _ HX7.out.hs rfl rfl (Cs.of s7).one ?_
 intro W8 h8 hk8
 refine ⟨fun h => by simp at h, ?_⟩
 refine SH.pure 11 (v := ?_) rfl (by kernel_rfl) rfl (fun c a w h => HPN.out c a _ _ w h) (by rfl) ?_ ?_
 rotate_left
 ·intro w9
  go_simp <;> (with_reducible rfl)
 simp only [List.getElem_toArray, List.getElem_cons_succ, List.getElem_cons_zero, Act.put, List.setIfInBounds_toArray, List.set_cons_zero, List.set_cons_succ]
 refine SH.done (by kernel_rfl) ?_
 have HX8 := Aside0.mk (HX7.out.copy h8 hk8)
 have HB8 := Aside0.mk (show W8.heap[gi]? = some (.cells (icOf i A7 c7 A8 c8) 44 (0, 0)) from far_typed hk8 (far_typed HP7.out.kp (far_typed HS6.out HB.out (HX.out.st.not_own HB.out (by decide))) (HX6.out.st.not_own (far_typed HS6.out HB.out (HX.out.st.not_own HB.out (by decide))) (by decide))) (HX6.out.gi_ne (far_typed HS6.out HB.out (HX.out.st.not_own HB.out (by decide)))))
 have HR8 := Aside0.mk ((show Rw (Kd.int .u64) 42 w6 w7 (.slice A9 R.2.length c9) R.2 from HR7.out).keep rfl hk8 (fun k e he => (show Rw (Kd.int .u64) 42 w6 w7 (.slice A9 R.2.length c9) R.2 from HR7.out).not_at HX7.out.hs (by decide) (he ▸ e)))
 have x15 := (blk_cell HX8.out.hs 15).trans (show _ = some (Value.int .i64 s7.stop) from rfl)
 have hst7 := HX8.out.st.num.stop
 by_cases hz : R.1.stop < 0
 ·have hz7 : s7.stop < 0 := by rw [hst7]; exact hz
  have HZ := Aside0.mk hz
  have y8 := (blk_cell HB8.out 8).trans (show _ = some (Value.slice A8 i.f8.length c8) from rfl)
  have HWC := Aside0.mk (write_calls w0 W8 (some ⟨gx, 0, none⟩) f.l2.length xs A8 c8 i.f8 A9 c9 R.2 (by rw [HLEN.out]; exact HX8.out.xr.row) (Kd.C_below HI.out.a8 HX8.out.st.below) (fun W' hk => ⟨Kd.C_below HI.out.a8 (hk.toBelow HX8.out.st.below (fun k e => by have e : some gx = some k := e; exact (HX8.out.xr.row.lt e).2.1)), (HR8.out.keep rfl hk (fun k e e2 => by
   have e2 : some gx = some k := e2
   have h1 := (HR8.out.lt e).2.1
   have h2 := (HX6.out.xr.row.lt (k := k) e2).1
   omega)).readsC⟩) (by rw [HLEN.out]; exact HI.out.r8) (by rw [H8.out hz]; exact Nat.le_refl _))
  rw [HLEN.out] at HWC
  clear hst7 hz
  go_wp2_with (first | (go_at_call 52; (with_reducible refine HWC.out.mono ?_); rintro e w9 ⟨rfl, hr9⟩; have HX9 := Aside0.mk (HX8.out.mp ((MP.start HX8.out.st HX8.out.xr).regs hr9)); clear hr9))
  refine q_turn (fr40_of w.heap.size g gx f.l2.length was (q + 1) _ rfl rfl rfl rfl rfl rfl rfl rfl) ?_
  exact HK1.out HZ.out _ w9 s7 HX9.out
 ·have hz7 : ¬ s7.stop < 0 := by rw [hst7]; exact hz
  have HZ := Aside0.mk hz
  clear hst7 hz
  go_wp2
  refine q_turn (fr40_of w.heap.size g gx f.l2.length was (q + 1) _ rfl rfl rfl rfl rfl rfl rfl rfl) ?_
  exact HK0.out HZ.out _ W8 s7 HX8.out
end
end
theorem call_li {w0 w W : World} {gt gf g gx m k c5 : Nat} {A5 : Option Addr} {f : Fr4} {s s1 : SV} {p p1 : PS} {fr : FP} (hps : p.steps = (k : Int) /\ k <= 400 /\ 400 < m + k /\ p.stop < 0) (hef : (entP f.l3 p).2 ≠ false -> PI 2 k (entP f.l3 p).1.1 /\ EntI f.l3 p (entP f.l3 p).1.1 (entP f.l3 p).1.2) (hep : entP f.l3 p = ((p1, fr), true)) (htop : s.top = p.top) (hT : 4096 <= p.top /\ p.top <= 4194304)
  (hx : Lx w0 gt gf w W s s1 p1 (.slice (some ⟨gx, 0, none⟩) f.l2.length f.l2.length) (List.replicate f.l2.length 0) s1.cs f.cs g (f.fc A5 fr.slots.length c5 fr.lock fr.key) (.slice A5 fr.slots.length c5) fr.slots) (hpos : 0 < f.code.length) :
  FrOk f fr s.top /\ LI w0 gt gf f w s g gx A5 c5 fr s.top (callP f.l2.length f.l3 f.code m p) m W s1 p1 (List.replicate f.l2.length 0) 0 := by
 rw [hep] at hef
 obtain ⟨h1, h2⟩ := hef (by simp)
 refine ⟨⟨h2.fi, h2.sz, h2.len, by rw [htop]; exact hT⟩, ⟨hx, by rw [List.length_replicate], h2.lk, ?_, fun hs => ⟨hpos, k, h1, h2.steps.trans hps.1, hps.2.1, hps.2.2.1, xi_zero _⟩⟩⟩
 unfold callP
 rw [hep, if_neg (by simp), htop]
 rfl
set_option maxHeartbeats 4000000 in
set_option maxRecDepth 20000 in
theorem call40 (w0 : World) (gt gf : Nat) (f : Fr4) (m : Nat) (hSI : SI w0 gt gf f) (hloop : LoopOk w0 gt gf f m) : CallOk w0 gt gf f m := by
 intro w s p k A c hst hP hk hk4 hkm hstop hlp
 have hl2 := hSI.l2
 have hl3 := hSI.sz
 have h3 := hSI.fn.h3
 have ht := hP.top
 have hky : 0 <= s.keys /\ s.keys < 4611686018427387904 /\ p.locks.length < 17592186044000 := by
  have h1 := hst.num.keys
  have h2 := hP.keys
  have h3 := hP.locks
  omega
 have HLOOP := Aside0.mk hloop
 have HEF := Aside0.mk (fun he => ent_is hSI.sz hP (by omega) hlp he)
 have HPS := Aside0.mk (show p.steps = (k : Int) /\ k <= 400 /\ 400 < m + k /\ p.stop < 0 from ⟨hk, hk4, hkm, hstop⟩)
 have HSI := Aside0.mk hSI
 clear hloop hSI hP hk hk4 hkm hstop hlp
 have hu95 := Tryd.underlying95
 have hu25 := Tryd.underlying25
 have hu71 := Tryd.underlying71
 have hu22 := Tryd.underlying22
 have hu112 := Tryd.underlying112
 have HS := Aside0.mk hst
 have HT := Aside0.mk ht
 have HKY := Aside0.mk hky
 have HSZ := Aside0.mk hl3
 have H3C := Aside0.mk h3
 have hmk : ∀ W : World, (Instr.makeSlice 71 (.int .i64 (f.l2.length : Int)) (.int .i64 (f.l2.length : Int))).run Tryd.prog W = .ok (.slice (some ⟨W.heap.size, 0, none⟩) f.l2.length f.l2.length) (W.alloc (.cells (madeCells #[.int .u64 0] f.l2.length) 42)) := fun W => by
  exact print_make_of (P := Tryd.prog) 71 42 (.int .u64 0) 8 Tryd.underlying71 info42 rfl (by omega) f.l2.length (by omega) W
 have HL2 := Aside0.mk hl2
 have HKE := Aside0.mk (show s.keys = p.keys from hst.num.keys)
 have HTOP := Aside0.mk (show s.top = p.top from hst.num.top)
 clear hst hl2 ht hl3 h3 hky
 go_enter Tryd.func40, Tryd.ntmps40
 go_upto_region 1 with (fail)
 generalize hW : World.alloc (World.alloc (World.alloc w (Obj.cells s.cs 95)) _) _ = W
 have H3 := Aside0.mk (show (W.heap[w.heap.size]? = some (.cells s.cs 95 (0, 0)) /\ W.heap[w.heap.size + 1]? = some (.cells f.cs 25 (0, 0)) /\ W.heap[w.heap.size + 2]? = some (.cells z95 95 (0, 0))) /\ Below w.heap.size w W by rw [<- hW]; exact tri_new w _ _ _)
 clear hW
 have z2 := (blk_cell H3.out.1.2.1 2).trans (show _ = some (Value.slice f.A2 f.l2.length f.c2) from rfl)
 go_upto_region 2 with (fail)
 clear hmk z2
 have HR := Aside0.mk (regs_new w0 W f.l2.length (by have := HS.out.below.size; have := H3.out.2.size; omega) (by have := HL2.out; omega))
 have z1 := (blk_cell (blk_below H3.out.1.2.1 ((Below.refl W.heap.size W).alloc (Nat.le_refl _) (.cells (madeCells #[.int .u64 0] f.l2.length) 42))) 1).trans (show _ = some (Value.slice f.A1 0 f.c1) from rfl)
 have HWR := Aside0.mk (wr0_calls w0 _ (some ⟨W.heap.size, 0, none⟩) f.l2.length (List.replicate f.l2.length 0) f.A1 A f.c1 c (by rw [List.length_replicate]; exact HR.out))
 rw [List.length_replicate] at HWR
 go_upto_region 3 with (first | (go_at_call 52; (with_reducible refine HWR.out.mono ?_); rintro e w3 ⟨rfl, hr⟩; have HX := Aside0.mk (fun fc => Lx.new (fc := fc) HS.out H3.out.2 H3.out.1.1 H3.out.1.2.1 H3.out.1.2.2 hr); have HB3 := Aside0.mk (show w3.heap[w.heap.size]? = some (.cells s.cs 95 (0, 0)) /\ w3.heap[w.heap.size + 1]? = some (.cells f.cs 25 (0, 0)) from ⟨gb_old hr.grown H3.out.1.1 ((Below.refl _ _).alloc (Nat.le_refl _) _), gb_old hr.grown H3.out.1.2.1 ((Below.refl _ _).alloc (Nat.le_refl _) _)⟩); clear hr HWR HR z1 H3))
 have z9 := (blk_cell HB3.out.1 9).trans (show _ = some (Value.int .i64 s.top) from rfl)
 have z0 := (blk_cell HB3.out.2 0).trans (show _ = some (Value.string f.nm) from rfl)
 have z1 := (blk_cell HB3.out.2 1).trans (show _ = some (Value.slice f.A1 0 f.c1) from rfl)
 have z2 := (blk_cell HB3.out.2 2).trans (show _ = some (Value.slice f.A2 f.l2.length f.c2) from rfl)
 have z3 := (blk_cell HB3.out.2 3).trans (show _ = some (Value.slice f.A3 f.l3.length f.c3) from rfl)
 have z4 := (blk_cell HB3.out.2 4).trans (show _ = some (Value.slice f.A4 f.code.length f.c4) from rfl)
 go_upto_region 5 with (fail)
 clear z0 z1 z2 z3 z4 z9 HB3
 have HX1 := Aside0.mk (show Lx w0 gt gf w (w3.alloc (.cells (f.fc none 0 0 0 0) 112)) s s p (.slice (some ⟨W.heap.size, 0, none⟩) f.l2.length f.l2.length) (List.replicate f.l2.length 0) s.cs f.cs w3.heap.size (f.fc none 0 0 0 0) (.slice none 0 0) [] from HX.out _)
 clear HX
 generalize hg : w3.heap.size = g at HX1 ⊢
 generalize hw5 : (World.alloc w3 _) = w5
 rw [show w3.alloc (.cells (f.fc none 0 0 0 0) 112) = w5 from hw5] at HX1
 clear hg hw5
 have z3 := (blk_cell HX1.out.hf 3).trans (show _ = some (Value.slice f.A3 f.l3.length f.c3) from rfl)
 go_wp2
 clear z3
 have HTV := Aside0.mk (show ∀ k, s.tv.ownBlock = some k -> k < w.heap.size from fun k e => (HS.out.tops.lt e).1)
 generalize hgx : W.heap.size = gx at HX1 ⊢
 clear hgx
 go_loopg [33] f.l3.length (fun gg v33 w' => ∃ (j : Nat) (T : Int) (acc : List Int) (A5 : Option Addr) (c5 : Nat), j <= f.l3.length /\ f.l3.length - j <= gg /\ v33 = .int .i64 (j : Int) /\ Aside0 (4096 <= T /\ T <= 4194304 /\ acc.length = j /\ slG f.l3 p.top [] = slG (f.l3.drop j) T acc) /\ Aside0 (Lx w0 gt gf w w' s (s.atTop T) (p.atTop T) (.slice (some ⟨gx, 0, none⟩) f.l2.length f.l2.length) (List.replicate f.l2.length 0) (s.atTop T).cs f.cs g (f.fc A5 acc.length c5 0 0) (.slice A5 acc.length c5) acc))
 case atStart =>
  have e : s.atTop p.top = s := by
   have h := HX1.out.st.num.top
   unfold SV.atTop
   rw [<- h]
  exact ⟨0, p.top, [], none, 0, Nat.zero_le _, Nat.le_refl _, rfl, ⟨HT.out.1, HT.out.2, rfl, by rw [List.drop_zero]⟩, ⟨by rw [e]; exact HX1.out⟩⟩
 case round =>
  clear HX1
  obtain ⟨j, T, acc, A5, c5, hj, hgj, rfl, HN, HX⟩ := hrel
  by_cases hlt : j < f.l3.length
  ·have p0 : 0 <= (j : Int) := by omega
   have p1 : (j : Int) < (f.l3.length : Int) := by omega
   obtain ⟨t0, t1, ta, te⟩ := HN.out
   have hT := upI_bd (n := T) (by omega)
   have hnn := HSZ.out.2 (rd f.l3 (j : Int)) (rd_mem hlt)
   have HDR := Aside0.mk (show slG (f.l3.drop j) T acc = if 4194304 < upI T + rd f.l3 (j : Int) then (acc ++ [upI T], upI T + rd f.l3 (j : Int), false) else slG (f.l3.drop (j + 1)) (upI T + rd f.l3 (j : Int)) (acc ++ [upI T]) by
    rw [List.drop_eq_getElem_cons hlt, rd_lt hlt]; rfl)
   obtain ⟨ad, ea, hy⟩ := C_int H3C.out (j : Int) p0 p1
   rw [Int.toNat_natCast] at hy
   have HY := Aside0.mk hy
   have HEA := Aside0.mk ea
   generalize rd f.l3 (j : Int) = n at HDR HY hnn
   obtain ⟨n0, n1⟩ := hnn
   have HUP := Aside0.mk (fun W => up_calls T W (by omega) (by omega))
   obtain ⟨hT0, hT1⟩ := hT
   have hw1 : IntKind.i64.wrap (upI T + n) = upI T + n := by rw [IntKind.wrap_i64]; omega
   have HT0 := Aside0.mk hT0
   have HT1 := Aside0.mk hT1
   generalize upI T = u at HUP hw1 HDR HT0 HT1
   have HW1 := Aside0.mk hw1
   have HTB := Aside0.mk t0
   have HTE := Aside0.mk t1
   have HACC := Aside0.mk ta
   have HSE := Aside0.mk te
   clear hy ea hT0 hT1 hw1 t0 t1 ta te
   have x9 := (blk_cell HX.out.hs 9).trans (show _ = some (Value.int .i64 T) from rfl)
   have q9 := blk_frozen HX.out.hs 9
   go_upto_region 9 with (first | (go_at_call 39; (with_reducible refine (HUP.out _).mono ?_); rintro e w' ⟨rfl, rfl⟩))
   have n0_ := Aside0.mk (HX.out.top u)
   clear HX x9 q9
   have HX := n0_
   clear n0_
   generalize World.setCell _ ⟨w.heap.size, 9, none⟩ (.int .i64 u) = w6 at HX ⊢
   have x9 := (blk_cell HX.out.hs 9).trans (show _ = some (Value.int .i64 u) from rfl)
   have x5 := (blk_cell HX.out.hg 5).trans (show _ = some (Value.slice A5 acc.length c5) from rfl)
   have pj : (j : Int) <= 10 := by have := HSZ.out.1; omega
   have HFB := Aside0.mk (show acc.length <= 10 by have := HACC.out; have := HSZ.out.1; omega)
   go_upto_region 10 with (first | ((with_reducible refine gate_builtin (b := .append) (xs := #[.tmp 41, .tmp 44]) rfl ?_); at_builtin; refine Kd.R_append (Kd.int .i64) (w0 := w0) w0.heap.size rfl (.tmp 41) (.tmp 44) 22 3 (.int .i64 0) 8 rfl Tryd.underlying22 info3 rfl (by decide) (by omega) (.slice A5 acc.length c5) acc u [.int .i64 u] (fun _ => True) (fun _ => False) rfl rfl ?aP (fun _ hk => hk.elim) ?aF ?aO ?aB ?aS ?aL ?_; (case aP => exact rfl); (case aB => exact HX.out.st.below); (case aF => exact (fun _ _ => trivial)); (case aO => exact HX.out.fr); (case aS => exact (below_size HX.out.st.below)); (case aL => have := HFB.out; omega); intro v1 w9 ho hb hg hat; have HX9 := Aside0.mk (HX.out.slots ⟨ho, hg, hat⟩ HTV.out); obtain ⟨A1, c1, e1⟩ := Kd.R_slice ho; subst e1; clear ho hb hg hat HX x5 x9; have q5 := blk_frozen HX9.out.hg 5; have y5 := (blk_cell HX9.out.hg 5).trans (show _ = some (Value.slice A5 acc.length c5) from rfl)))
   have hl1 : (acc ++ [u]).length = acc.length + 1 := by simp
   rw [hl1] at HX9
   have n0_ := Aside0.mk (show Lx w0 gt gf w (w9.setCell ⟨g, 5, none⟩ (.slice A1 (acc.length + 1) c1)) s (s.atTop u) (p.atTop u) (.slice (some ⟨gx, 0, none⟩) f.l2.length f.l2.length) (List.replicate f.l2.length 0) (s.atTop u).cs f.cs g (f.fc A1 (acc.length + 1) c1 0 0) (.slice A1 (acc.length + 1) c1) (acc ++ [u]) from HX9.out.setf 5 _)
   clear HX9 q5 y5
   have HX := n0_
   clear n0_
   generalize World.setCell _ ⟨g, 5, none⟩ (.slice A1 (acc.length + 1) c1) = w10 at HX ⊢
   have HXD := Aside0.mk (HX.out.step (below_drew (Below.refl _ _)))
   have x9 := (blk_cell HXD.out.hs 9).trans (show _ = some (Value.int .i64 u) from rfl)
   have q9 := blk_frozen HXD.out.hs 9
   have z3 := (blk_cell HXD.out.hf 3).trans (show _ = some (Value.slice f.A3 f.l3.length f.c3) from rfl)
   have y0 := pw_cell_below HXD.out.st.below HY.out
   rw [HEA.out] at z3
   have hw1 := HW1.out
   go_upto_region 11 with (fail)
   first | go_region_with (fail) | fail
   all_goals
    clear x9 q9 z3 y0 hw1
    have HX2 := Aside0.mk (show Lx w0 gt gf w (w10.setCell ⟨w.heap.size, 9, none⟩ (.int .i64 (u + n))).drew s (s.atTop (u + n)) (p.atTop (u + n)) (.slice (some ⟨gx, 0, none⟩) f.l2.length f.l2.length) (List.replicate f.l2.length 0) (s.atTop (u + n)).cs f.cs g (f.fc A1 (acc.length + 1) c1 0 0) (.slice A1 (acc.length + 1) c1) (acc ++ [u]) from (HX.out.top (u + n)).step (below_drew (Below.refl _ _)))
    clear HX HXD
    generalize (World.setCell w10 ⟨w.heap.size, 9, none⟩ (.int .i64 (u + n))).drew = w11 at HX2 ⊢
    have x9 := (blk_cell HX2.out.hs 9).trans (show _ = some (Value.int .i64 (u + n)) from rfl)
    by_cases hbig : 4194304 < u + n
    ·have HE := Aside0.mk (show slG f.l3 p.top [] = (acc ++ [u], u + n, false) by rw [HSE.out, HDR.out, if_pos hbig])
     have HST := Aside0.mk (fun W => stop_calls (s.atTop (u + n)) 3 W)
     go_wp2_with (first | (go_at_call 53; (with_reducible refine (HST.out _).mono ?_); rintro e w' ⟨rfl, hb⟩; have HX3 := Aside0.mk (HX2.out.step hb); clear hb) | ((with_reducible refine gate_dst (N := 59) rfl ?_); refine load95 _ rfl rfl _ rfl _ HX2.out.hs (Cs.of (s.atTop (u + n))) ?_) | ((with_reducible refine gate_store (t := 95) (p := 6) rfl ?_); refine storeS _ _ rfl rfl rfl _ rfl _ rfl _ HX3.out.hr rfl (Cs.of ((s.atTop (u + n)).stopped 3)) ?_; intro W3 h2 hk3))
     refine bodyPost_ret (results_ct rfl _ _ (w.heap.size + 2) 95 _ (0, 0) _ rfl h2 hu95 rfl (by kernel_rfl)) rfl ?_
     have hep : entP f.l3 p = ((((p.atTop (u + n)).stopped 3, ⟨[], f.l3, 0, 0⟩), false)) := by
      unfold entP
      rw [HE.out]
      exact if_pos rfl
     have hcp : callP f.l2.length f.l3 f.code m p = ((p.atTop (u + n)).stopped 3, []) := by
      unfold callP
      rw [hep]
      exact if_pos rfl
     rw [hcp]
     exact ⟨(s.atTop (u + n)).stopped 3, none, 0, rfl, (HX3.out.nums (HX3.out.st.num.stopped 3) ⟨rfl, rfl, rfl, rfl, rfl, rfl, rfl, rfl, rfl⟩ ⟨rfl, rfl, rfl, rfl, rfl, rfl, rfl⟩).fin hk3, Kd.R_nil _ _ _ _ _⟩
    ·have HSN := Aside0.mk (show slG f.l3 p.top [] = slG (f.l3.drop (j + 1)) (u + n) (acc ++ [u]) by rw [HSE.out, HDR.out, if_neg hbig])
     have HNB := Aside0.mk hbig
     go_wp2
     go_roundg (f.l3.length - (j + 1))
     case measure => omega
     case rel =>
      have h0 := HNB.out
      have h1 := HT0.out
      have h2 := HTB.out
      refine ⟨j + 1, u + n, acc ++ [u], A1, c1, by omega, Nat.le_refl _, by go_num, ⟨by omega, by omega, by simp [HACC.out], HSN.out⟩, ⟨?_⟩⟩
      rw [show (acc ++ [u]).length = acc.length + 1 by simp]
      exact HX2.out
  ·obtain rfl : j = f.l3.length := by omega
   have HSE := Aside0.mk (show slG f.l3 p.top [] = (acc, T, true) by rw [HN.out.2.2.2, List.drop_length]; rfl)
   have z3 := (blk_cell HX.out.hf 3).trans (show _ = some (Value.slice f.A3 f.l3.length f.c3) from rfl)
   by_cases hz : 0 < (f.l3.length : Int)
   ·have HZ := Aside0.mk hz
    go_upto_region 15 with (fail)
    have HFC := Aside0.mk (fresh_calls (s.atTop T) p.locks w0 wr HX.out.st.locks HX.out.st.below HKY.out.1 HKY.out.2.1 HKY.out.2.2)
    go_upto_region 16 with (first | (go_at_call 54; (with_reducible refine HFC.out.mono ?_); rintro e w' ⟨A9, c9, rfl, hs⟩; have HX3 := Aside0.mk (HX.out.fresh hs); clear hs) | ((with_reducible refine gate_dst (N := 66) rfl ?_); refine load95 _ rfl rfl _ rfl _ HX.out.hs (Cs.of (s.atTop T)) ?_) | ((with_reducible refine gate_store (t := 95) (p := 3) rfl ?_); refine storeS _ _ rfl rfl rfl _ rfl _ rfl _ HX3.out.hs rfl (Cs.of _) ?_; intro W3 h2 hk3))
    clear z3 HFC
    have HX4 := Aside0.mk (HX3.out.copy h2 hk3)
    clear HX3 h2 hk3
    have HWL := Aside0.mk (show IntKind.i64.wrap (((p.locks.length + 1 : Nat) : Int) - 1) = (p.locks.length : Int) by rw [IntKind.wrap_i64]; have := HKY.out.2.2; omega)
    have x5 := (blk_cell HX4.out.hs 5).trans (show _ = some (Value.slice A9 (p.locks.length + 1) c9) from rfl)
    have q6 := blk_frozen HX4.out.hg 6
    have y6 := (blk_cell HX4.out.hg 6).trans (show _ = some (Value.int .i64 0) from rfl)
    have HLL := Aside0.mk (rfl : p.locks.length = p.locks.length)
    generalize hn9 : p.locks.length + 1 = n9 at x5 HWL
    generalize hll : (p.locks.length : Int) = ll at HWL
    have hwl := HWL.out
    have HLK := Aside0.mk hll
    have HN9 := Aside0.mk hn9
    clear hll hn9
    go_upto_region 17 with (fail)
    clear x5 q6 y6 hwl
    have n0_ := Aside0.mk (HX4.out.setf 6 (.int .i64 ll))
    clear HX4
    have HX4 := n0_
    clear n0_
    generalize World.setCell W3 ⟨g, 6, none⟩ (.int .i64 ll) = w12 at HX4 ⊢
    have x6 := (blk_cell HX4.out.hs 6).trans (show _ = some (Value.int .u64 (s.keys + 1)) from rfl)
    have q7 := blk_frozen HX4.out.hg 7
    have y7 := (blk_cell HX4.out.hg 7).trans (show _ = some (Value.int .u64 0) from rfl)
    go_upto_region 18 with (fail)
    clear x6 q7 y7
    have n0_ := Aside0.mk (HX4.out.setf 7 (.int .u64 (s.keys + 1)))
    clear HX4
    have HX4 := n0_
    clear n0_
    generalize World.setCell w12 ⟨g, 7, none⟩ (.int .u64 (s.keys + 1)) = w13 at HX4 ⊢
    go_upto_region 19 with (fail)
    have hep : entP f.l3 p = (((({ p.atTop T with locks := p.locks ++ [p.keys + 1], keys := p.keys + 1 } : PS), ⟨acc, f.l3, (p.locks.length : Int), p.keys + 1⟩), true)) := by
     unfold entP
     rw [HSE.out]
     rw [if_neg (by simp), if_pos (by have := HZ.out; omega)]
     rfl
    have h9 := HX4.out
    rw [HKE.out, <- HLK.out] at h9
    have HLI := Aside0.mk (call_li (m := m) (k := k) (fr := ⟨acc, f.l3, (p.locks.length : Int), p.keys + 1⟩) HPS.out HEF.out hep HTOP.out HT.out h9 HSI.out.ok.pos)
    clear h9
    refine wp_turn (c2 := .loop body40) (by kernel_rfl) (fr40_of w.heap.size g gx f.l2.length s.top 0 _ rfl rfl rfl rfl rfl rfl rfl rfl) ?_
    refine HLOOP.out _ _ _ _ _ _ _ _ _ _ _ _ _ 0 _ _ HLI.out.1 HLI.out.2 ?_
    refine ⟨fun u W2 s2 xs2 q2 hx hR2 => ?_, fun l W2 v7 h6 h7 hr => ?_, fun c a d v W2 h => by cases d <;> exact h⟩
    ·have HX := Aside0.mk hx
     have HR2 := Aside0.mk hR2
     clear hx hR2
     unfold Fr40
     go_wp2_with (first | ((with_reducible refine gate_dst (N := 170) rfl ?_); refine load95 _ rfl rfl _ rfl _ HX.out.hs (Cs.of s2) ?_) | ((with_reducible refine gate_store (t := 95) (p := 6) rfl ?_); refine storeS _ _ rfl rfl rfl _ rfl _ rfl _ HX.out.hr rfl (Cs.of s2) ?_; intro W3 h2 hk3))
     refine bodyPost_ret (results_ct rfl _ _ (w.heap.size + 2) 95 _ (0, 0) _ rfl h2 hu95 rfl (by kernel_rfl)) rfl ?_
     exact ⟨s2, none, 0, by rw [HR2.out]; rfl, HX.out.fin hk3, by rw [HR2.out]; exact Kd.R_nil _ _ _ _ _⟩
    ·obtain ⟨s2, A', c', hb, hv, hp, hr⟩ := hr
     refine bodyPost_ret (results_ct rfl _ _ (w.heap.size + 2) 95 _ (0, 0) _ (by simpa using h6) hb hu95 rfl (by kernel_rfl)) rfl ?_
     exact ⟨s2, A', c', by rw [<- hv, <- h7]; simp, hp, hr⟩
   ·have HZ := Aside0.mk hz
    go_upto_region 19 with (fail)
    have hep : entP f.l3 p = (((p.atTop T : PS), ⟨acc, f.l3, 0, 0⟩), true) := by
     unfold entP
     rw [HSE.out]
     rw [if_neg (by simp), if_neg (by have := HZ.out; omega)]
     rfl
    clear z3
    have HLI := Aside0.mk (call_li (m := m) (k := k) (fr := ⟨acc, f.l3, 0, 0⟩) HPS.out HEF.out hep HTOP.out HT.out HX.out HSI.out.ok.pos)
    refine wp_turn (c2 := .loop body40) (by kernel_rfl) (fr40_of w.heap.size g gx f.l2.length s.top 0 _ rfl rfl rfl rfl rfl rfl rfl rfl) ?_
    refine HLOOP.out _ _ _ _ _ _ _ _ _ _ _ _ _ 0 _ _ HLI.out.1 HLI.out.2 ?_
    refine ⟨fun u W2 s2 xs2 q2 hx hR2 => ?_, fun l W2 v7 h6 h7 hr => ?_, fun c a d v W2 h => by cases d <;> exact h⟩
    ·have HX := Aside0.mk hx
     have HR2 := Aside0.mk hR2
     clear hx hR2
     unfold Fr40
     go_wp2_with (first | ((with_reducible refine gate_dst (N := 170) rfl ?_); refine load95 _ rfl rfl _ rfl _ HX.out.hs (Cs.of s2) ?_) | ((with_reducible refine gate_store (t := 95) (p := 6) rfl ?_); refine storeS _ _ rfl rfl rfl _ rfl _ rfl _ HX.out.hr rfl (Cs.of s2) ?_; intro W3 h2 hk3))
     refine bodyPost_ret (results_ct rfl _ _ (w.heap.size + 2) 95 _ (0, 0) _ rfl h2 hu95 rfl (by kernel_rfl)) rfl ?_
     exact ⟨s2, none, 0, by rw [HR2.out]; rfl, HX.out.fin hk3, by rw [HR2.out]; exact Kd.R_nil _ _ _ _ _⟩
    ·obtain ⟨s2, A', c', hb, hv, hp, hr⟩ := hr
     refine bodyPost_ret (results_ct rfl _ _ (w.heap.size + 2) 95 _ (0, 0) _ (by simpa using h6) hb hu95 rfl (by kernel_rfl)) rfl ?_
     exact ⟨s2, A', c', by rw [<- hv, <- h7]; simp, hp, hr⟩
end Go.Proofs.YtjfleaekljapeaaDoor.K
