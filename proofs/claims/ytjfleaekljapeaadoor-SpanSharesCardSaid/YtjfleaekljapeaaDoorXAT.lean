import Derived.Test.YtjfleaekljapeaaDoorXAS
import Derived.Test.YtjfleaekljapeaaDoorXAR
import Derived.Deep.DeepMust
import Derived.Test.YtjfleaekljapeaaDoorProg
import Derived.Below
import Derived.Deep.Draws
import Derived.Deep.AppendLies
import Derived.Maps.AppendAt
import Derived.OwnWalk
import Derived.Laws.BytesArg
import Derived.Laws.MakeOwn
import Derived.Laws.OwnMore
import Derived.Deep.OwnRows
import Derived.Tactics
import Derived.Lib.ConvBytes
import Derived.Laws.Slices
import Derived.WalkKit
import Derived.KernelRfl
import Derived.RowKit3
import Derived.Deep.LoopGhost
import Derived.Deep.QuietTactic
import Derived.BigQuiet
import Derived.WideLaws
import Derived.Deep.DeepCutAuto
import Derived.Deep.CutBlock
import Derived.Deep.RegionHeld3
import Derived.Deep.MidRow
import Derived.Laws.Tables
import Derived.StillTailTactics
import Derived.Laws.Rows
import Derived.Lib.AppendStr
import Derived.ArgAppend
import Derived.Laws.IdiomCopy
import Derived.OrdersHeld
import Derived.Laws.BitsLemmas
import Derived.Laws.BitsAllLaws
import Derived.RowKit
import Derived.RegionTactic
import Derived.Deep.RegionWith
import Derived.Lib.Hide
import Derived.Test.YtjfleaekljapeaaDoorXAA
import Derived.Test.YtjfleaekljapeaaDoorXAB
import Derived.Test.YtjfleaekljapeaaDoorXAC
import Derived.Deep.RegionLaw
import Derived.Laws.CopyOwn
import Derived.Shelf.Spec.TrailingZeros
namespace Go.Proofs.YtjfleaekljapeaaDoor.K
open Go.RowKit Go.Proofs.YtjfleaekljapeaaDoorW.PrintWords Go.Proofs.YtjfleaekljapeaaDoorW.PrintLast Go.Proofs.YtjfleaekljapeaaDoorW.PrintMore
attribute [local go_sem] max2_int min2_int max_two min_two max_three min_three max_four min_four   -- for this text's walks alone
set_option linter.unusedVariables false
set_option linter.unusedSimpArgs false
set_option linter.unusedSectionVars false
section
def hitB (a b : Int) (x : S141) : Bool := (x.f0 == a) && ((x.f1 == b) && !x.f2)
def frP (p : PS) (vs : List Int) : PS := if (!(heldB p.locks (vsl vs 4) (vsl vs 3)) || !(vsl vs 0 == vsl vs 1)) = true then p.stopped 2 else match p.blocks.findIdx? (hitB (vsl vs 1) (vsl vs 2)) with
 | none => p.stopped 2
 | some k => { p with blocks := p.blocks.take k ++ p.blocks.drop (k + 1), locks := p.locks.set (vsl vs 4).toNat 0 }
theorem k141_open {w : World} {x : S141} {cs : List Value} (h : k141.K w x cs) : cs = [.int .u64 x.f0, .int .u64 x.f1, .bool x.f2] := by
 obtain ⟨_, _, rfl, rfl, ⟨_, _, rfl, rfl, rfl⟩⟩ := h
 exact rfl
theorem cells141 {w : World} {g n : Nat} {L : List S141} (h : Kd.C k141 w (some ⟨g, 0, none⟩) n L) (i : Nat) (hi : i < n) : w.rangeAt g (i * 3) [.int .u64 (L.getD i z141).f0, .int .u64 (L.getD i z141).f1, .bool (L.getD i z141).f2] := by
 obtain ⟨ad, c, e, _, hK, hc⟩ := Kd.C_get h z141 (i : Int) (by omega) (by omega)
 rw [Int.toNat_natCast] at hK hc
 obtain rfl := k141_open hK
 injection e with e
 subst e
 intro j v hv
 have := hc j v hv
 rw [Addr.add_mid, Nat.zero_add] at this
 exact this
theorem held_lt {lk : List Int} {l k : Int} (h : heldB lk l k = true) : l < (lk.length : Int) := by
 unfold heldB at h
 simp only [Bool.and_eq_true, decide_eq_true_eq] at h
 exact h.2.1
theorem st_start {P : Program} {id : Nat} {Q : Exit -> Act -> World -> Prop} {a : Act} {w : World} {l : List Oper} (hm : P.follows .mixedOrders = true) (hB : Region.lexB .any l.toArray = true) (h : StW P l.toArray w.drew (fun a' => Q .normal a' w.drew) l a) : (Code.region id l.toArray true).wp P Q a w := wp_region_still_lit hm hB h.out
theorem hit_succ {a b : Int} {l : List S141} {j : Nat} (h : ∀ e, e < j -> hitB a b (l.getD e z141) = false) (h2 : hitB a b (l.getD j z141) = false) : ∀ e, e < j + 1 -> hitB a b (l.getD e z141) = false := fun e he => by
 by_cases c : e = j
 ·subst c; exact h2
 ·exact h e (by omega)
theorem hit_found {a b : Int} {l : List S141} {j : Nat} (hj : j < l.length) (h : ∀ e, e < j -> hitB a b (l.getD e z141) = false) (h2 : hitB a b (l.getD j z141) = true) : l.findIdx? (hitB a b) = some j := by
 rw [List.findIdx?_eq_some_iff_getElem]
 have hg : ∀ e (he : e < l.length), l.getD e z141 = l[e] := fun e he => by rw [List.getD_eq_getElem?_getD, List.getElem?_eq_getElem he]; rfl
 exact ⟨hj, by rw [<- hg j hj]; exact h2, fun e he => by have := h e he; rw [hg e (by omega)] at this; rw [this]; decide⟩
theorem hit_none {a b : Int} {l : List S141} (h : ∀ e, e < l.length -> hitB a b (l.getD e z141) = false) : l.findIdx? (hitB a b) = none := by
 rw [List.findIdx?_eq_none_iff]
 intro x hx
 obtain ⟨e, he, rfl⟩ := List.mem_iff_getElem.1 hx
 have := h e he
 rwa [List.getD_eq_getElem?_getD, List.getElem?_eq_getElem he] at this
theorem R_lit0 {α : Type} (d : Kd α) (e base : Nat) (w : World) (hb : base <= w.heap.size) : d.R e (w.alloc (.cells #[] e)) base (fun _ => True) (.slice (some ⟨w.heap.size, 0, none⟩) 0 0) [] := by
 refine ⟨fun _ _ => trivial, [], ?_, ⟨by simp, fun j p hj => by simp at hj⟩⟩
 have h2 := World.ownsRow_lit (base := base) (e := e) (size := d.sz) w #[] 0 hb (by simp [maxLen]) (by simp)
 simpa using h2
section
variable (w0 : World) (gt gf : Nat) (w : World) (s : SV) (p : PS) (i : S44) (A7 : Option Addr) (c7 : Nat) (A8 : Option Addr) (c8 : Nat) (xs : List Int) (A : Option Addr) (c : Nat) (fc : Array Value) (fr : FP)
set_option maxHeartbeats 4000000 in
set_option maxRecDepth 20000 in
theorem mem41 (h : StI w0 gt gf w s p) (hx : XR w0 w s (.slice A xs.length c) xs) (hI : InI w0 i A7 A8 c8 xs.length) (hF : FrI w0 w fc fr) (hop : i.f0 = 41) (hl5 : i.f7.length = 5) (hrg : ∀ k ∈ i.f7.map (rd xs), 0 <= k /\ k < 18446744073709551616) (hlk : p.locks.length < 4611686018427387904) (hbl : p.blocks.length <= 1048576) :
  Calls Tryd.prog 57 #[.agg s.cs, .agg fc, .agg (icOf i A7 c7 A8 c8), .slice A xs.length c] w (MPost w0 gt gf w s (frP p (i.f7.map (rd xs))) (.slice A xs.length c) xs) := by
 have hu95 := Tryd.underlying95
 have hu44 := Tryd.underlying44
 have hu71 := Tryd.underlying71
 have hu112 := Tryd.underlying112
 have hu22 := Tryd.underlying22
 have HS := Aside0.mk h
 have HXR := Aside0.mk hx
 have HI := Aside0.mk hI
 have HF := Aside0.mk hF
 have HVC := Aside0.mk (fun W (hb : Below w.heap.size w W) => vals_calls W A c xs A7 c7 i.f7 (hx.row.keep rfl (Kp.below hb (fun _ => False)) (fun _ _ h => h)).reads.2.2 (Kd.C_below hI.a7 (gt_below h hb)) hI.r7 hI.l7)
 have HC := Aside0.mk (show (icOf i A7 c7 A8 c8)[0]? = some (.int .i64 41) /\ (icOf i A7 c7 A8 c8)[7]? = some (.slice A7 i.f7.length c7) from ⟨by rw [<- hop]; rfl, rfl⟩)
 have HL5 := Aside0.mk hl5
 have HRG := Aside0.mk hrg
 have HPL := Aside0.mk (show (p.locks.length : Int) < 4611686018427387904 by omega)
 have HBL := Aside0.mk hbl
 generalize icOf i A7 c7 A8 c8 = ic at HC
 clear h hx hI hF hop hl5 hrg hlk hbl
 go_enter Tryd.func57, Tryd.ntmps57
 go_upto_region 1 with (fail)
 generalize hW : World.alloc (World.alloc (World.alloc (World.alloc w (Obj.cells s.cs 95)) (Obj.cells fc 112)) (Obj.cells ic 44)) _ = W
 have H4 := Aside0.mk (show B4 w W s.cs fc ic by rw [<- hW]; exact B4.new w s.cs fc ic)
 clear hW
 have y7 := (blk_cell H4.out.b2 7).trans HC.out.2
 go_upto_region 2 with (first | (go_at_call 55; (with_reducible refine (HVC.out _ H4.out.below).mono ?_); rintro e w2 ⟨Av, cv, rfl, hv, hb⟩; have HM := Aside0.mk (Mx.start HS.out HXR.out H4.out hb hv); clear hv hb H4 y7))
 have y0 := (blk_cell HM.out.hi 0).trans HC.out.1
 obtain ⟨v0, v1, v2, v3, v4, ev⟩ : ∃ v0 v1 v2 v3 v4, i.f7.map (rd xs) = [v0, v1, v2, v3, v4] := five (by rw [List.length_map]; exact HL5.out)
 rw [ev] at HM
 have HEV := Aside0.mk ev
 rw [HL5.out] at HM ⊢
 have hrg : ∀ k, k ∈ [v0, v1, v2, v3, v4] -> 0 <= k /\ k < 18446744073709551616 := fun k hk => HRG.out k (by rw [ev]; exact hk)
 obtain ⟨⟨g0, _⟩, ⟨g1, _⟩, ⟨g2, g3⟩, _, ⟨g4, _⟩⟩ : (0 <= v0 /\ v0 < 18446744073709551616) /\ (0 <= v1 /\ v1 < 18446744073709551616) /\ (0 <= v2 /\ v2 < 18446744073709551616) /\ (0 <= v3 /\ v3 < 18446744073709551616) /\ (0 <= v4 /\ v4 < 18446744073709551616) := ⟨hrg v0 (by simp), hrg v1 (by simp), hrg v2 (by simp), hrg v3 (by simp), hrg v4 (by simp)⟩
 have HG0 := Aside0.mk g0
 have HG2 := Aside0.mk g2
 have HG3 := Aside0.mk g3
 have HG4 := Aside0.mk g4
 clear ev hrg g0 g1 g2 g3 g4
 obtain ⟨gv, capv, ev1, hgbv, hglv, clv, hgcv⟩ := Kd.R_form HM.out.vr (by simp)
 injection ev1 with ev1 ev2 ev3
 subst ev1
 subst ev3
 clear hgbv hglv hgcv ev2
 have u0 : w2.cell? ⟨gv, 0, none⟩ = some (.int .u64 v0) := (Kd.R_celln 0 HM.out.vr (0 : Int) (by decide) (by decide)).1
 have u1 : w2.cell? ⟨gv, 1, none⟩ = some (.int .u64 v1) := (Kd.R_celln 0 HM.out.vr (1 : Int) (by decide) (by decide)).1
 have u2 : w2.cell? ⟨gv, 2, none⟩ = some (.int .u64 v2) := (Kd.R_celln 0 HM.out.vr (2 : Int) (by decide) (by decide)).1
 have u3 : w2.cell? ⟨gv, 3, none⟩ = some (.int .u64 v3) := (Kd.R_celln 0 HM.out.vr (3 : Int) (by decide) (by decide)).1
 have u4 : w2.cell? ⟨gv, 4, none⟩ = some (.int .u64 v4) := (Kd.R_celln 0 HM.out.vr (4 : Int) (by decide) (by decide)).1
 have HHC := Aside0.mk (held_calls s p.locks v4 v3 w2.drew (HM.out.step (below_drew (Below.refl _ _))).mp.st.locks.readsC HG4.out HPL.out)
 have HFP := Aside0.mk (show frP p [v0, v1, v2, v3, v4] = if (!(heldB p.locks v4 v3) || !(v0 == v1)) = true then p.stopped 2 else match p.blocks.findIdx? (hitB v1 v2) with
  | none => p.stopped 2
  | some k => { p with blocks := p.blocks.take k ++ p.blocks.drop (k + 1), locks := p.locks.set v4.toNat 0 } from rfl)
 have HLT := Aside0.mk (fun h => held_lt (lk := p.locks) (l := v4) (k := v3) h)
 generalize heldB p.locks v4 v3 = hb at HHC HFP HLT
 go_upto_region 65 with (fail)
 have HX := Aside0.mk (show hb = false ∨ hb = true /\ ¬ v0 = v1 ∨ hb = true /\ v0 = v1 by
  cases hb
  ·exact .inl rfl
  ·by_cases h1 : v0 = v1
   ·exact .inr (.inr ⟨rfl, h1⟩)
   ·exact .inr (.inl ⟨rfl, h1⟩))
 rcases HX.out with rfl | ⟨rfl, t1⟩ | ⟨rfl, t1⟩
 all_goals
  clear HX
  refine wp_seg 7 (by kernel_rfl) (by kernel_rfl) _ rfl ?_
  simp only [List.take_succ_cons, List.take_zero, List.drop_succ_cons, List.drop_zero]
  refine StW.load95 _ rfl rfl _ rfl _ HM.out.hg (Cs.of s) ?_
  repeat (refine StW.step (fun K hK => ?_); go_simp; refine hK _ ?_; clear hK K)
  refine StW.nil ?_
  refine (fun K hK => ?_)
  go_simp
  (go_at_call 65; (with_reducible refine (HHC.out).mono ?_); rintro e w3 ⟨rfl, hb⟩)
  go_simp
  refine hK _ _ ?_
  clear hK K
  have HM3 := Aside0.mk (HM.out.step (below_step (below_drew (Below.refl _ _)) hb))
  have u0 := pw_cell_below hb u0
  have u1 := pw_cell_below hb u1
  have u2 := pw_cell_below hb u2
  have u4 := pw_cell_below hb u4
  clear HM hb HHC
  repeat (refine StW.step (fun K hK => ?_); go_simp; refine hK _ ?_; clear hK K)
  refine StW.nil ?_
 case inr.inr =>
  subst t1
  have HF2 := Aside0.mk (show frP p [v0, v0, v2, v3, v4] = (match p.blocks.findIdx? (hitB v0 v2) with
   | none => p.stopped 2
   | some k => { p with blocks := p.blocks.take k ++ p.blocks.drop (k + 1), locks := p.locks.set v4.toNat 0 }) by rw [HFP.out, if_neg (by simp)])
  have x7 := (blk_cell HM3.out.hg 7).trans (show _ = some (Value.slice s.a6 s.n6 s.c6) from rfl)
  rw [HM3.out.mp.st.blocks.reads.1] at x7
  have HBF := Aside0.mk (fun (hp : 0 < p.blocks.length) => Kd.R_form HM3.out.mp.st.blocks hp)
  have HBC := Aside0.mk HM3.out.mp.st.blocks.reads.2.2
  have HBB := Aside0.mk (show (p.blocks.length : Int) <= 1048576 by have := HBL.out; omega)
  have hu141 := Tryd.underlying141
  go_wp2
  go_loopg [22, 396] p.blocks.length (fun gg v22 v396 w9 => ∃ (j : Nat), j <= p.blocks.length /\ p.blocks.length - j <= gg /\ v396 = .int .i64 (j : Int) /\ Aside0 (∀ e, e < j -> hitB v0 v2 (p.blocks.getD e z141) = false) /\ Aside0 (Below w3.heap.size w3 w9))
  case atStart => exact ⟨0, Nat.zero_le _, Nat.le_refl _, rfl, ⟨fun e he => absurd he (Nat.not_lt_zero _)⟩, ⟨Below.refl _ _⟩⟩
  case round =>
   obtain ⟨j, hj, hgj, rfl, HN, HB⟩ := hrel
   have x7 := pw_cell_below HB.out x7
   have u1 := pw_cell_below HB.out u1
   have u2 := pw_cell_below HB.out u2
   have jb : (p.blocks.length : Int) <= 1048576 := HBB.out
   by_cases hlt2 : j < p.blocks.length
   ·have j0 : 0 <= (j : Int) := by omega
    have j1 : (j : Int) < (p.blocks.length : Int) := by omega
    obtain ⟨gb, capb, eb1, _, _, _⟩ := HBF.out (by omega)
    injection eb1 with eb1 eb2 eb3
    have hC := HBC.out
    rw [eb1] at hC x7
    have hrg := cells141 hC j (by omega)
    have c0_ : wr.cell? ⟨gb, j * 3, none⟩ = some (.int .u64 (p.blocks.getD j z141).f0) := pw_cell_below HB.out (hrg 0 _ rfl)
    have c1_ : wr.cell? ⟨gb, j * 3 + 1, none⟩ = some (.int .u64 (p.blocks.getD j z141).f1) := pw_cell_below HB.out (hrg 1 _ rfl)
    have c2_ : wr.cell? ⟨gb, j * 3 + 2, none⟩ = some (.bool (p.blocks.getD j z141).f2) := pw_cell_below HB.out (hrg 2 _ rfl)
    have HHJ := Aside0.mk (show hitB v0 v2 (p.blocks.getD j z141) = ((p.blocks.getD j z141).f0 == v0 && ((p.blocks.getD j z141).f1 == v2 && !(p.blocks.getD j z141).f2)) from rfl)
    have HHK := Aside0.mk (show hitB v0 v2 (p.blocks.getD j z141) = hitB v0 v2 (p.blocks.getD j z141) /\ True from ⟨rfl, trivial⟩)
    have HGB := Aside0.mk eb1
    clear hC hrg eb1 eb2 eb3 HHK
    obtain ⟨hh, hhe⟩ : ∃ hh, hitB v0 v2 (p.blocks.getD j z141) = hh := ⟨_, rfl⟩
    have HHE := Aside0.mk hhe
    rw [hhe] at HHJ
    clear hhe
    generalize p.blocks.getD j z141 = x at c0_ c1_ c2_ HHJ
    obtain ⟨xa, xb, xf⟩ := x
    go_upto_region 71 with (fail)
    have HB1 := Aside0.mk (below_step HB.out ((Below.refl _ _).alloc (Nat.le_refl _) (Obj.cells #[.int .u64 xa, .int .u64 xb, .bool xf] 141)))
    have HBX := Aside0.mk (heap_alloc_new wr (Obj.cells #[.int .u64 xa, .int .u64 xb, .bool xf] 141))
    have x7 := pw_cell_below ((Below.refl _ _).alloc (Nat.le_refl _) (Obj.cells #[.int .u64 xa, .int .u64 xb, .bool xf] 141)) x7
    have u1 := pw_cell_below ((Below.refl _ _).alloc (Nat.le_refl _) (Obj.cells #[.int .u64 xa, .int .u64 xb, .bool xf] 141)) u1
    have u2 := pw_cell_below ((Below.refl _ _).alloc (Nat.le_refl _) (Obj.cells #[.int .u64 xa, .int .u64 xb, .bool xf] 141)) u2
    clear c0_ c1_ c2_
    generalize wr.alloc (Obj.cells #[.int .u64 xa, .int .u64 xb, .bool xf] 141) = W1 at HB1 HBX x7 u1 u2 ⊢
    have d0 : W1.cell? ⟨wr.heap.size, 0, none⟩ = some (.int .u64 xa) := blk_cell HBX.out 0
    have d1 : W1.cell? ⟨wr.heap.size, 1, none⟩ = some (.int .u64 xb) := blk_cell HBX.out 1
    have d2 : W1.cell? ⟨wr.heap.size, 2, none⟩ = some (.bool xf) := blk_cell HBX.out 2
    generalize wr.heap.size = bb at d0 d1 d2 HBX ⊢
    have HX2 := Aside0.mk (show (hh = false /\ ¬ xa = v0) ∨ (hh = false /\ xa = v0 /\ ¬ xb = v2) ∨ (hh = false /\ xa = v0 /\ xb = v2 /\ xf = true) ∨ (hh = true /\ xa = v0 /\ xb = v2 /\ xf = false) by
     have h := HHJ.out
     by_cases e1 : xa = v0
     ·by_cases e2 : xb = v2
      ·cases xf
       ·exact .inr (.inr (.inr ⟨by rw [h, e1, e2]; simp, e1, e2, rfl⟩))
       ·exact .inr (.inr (.inl ⟨by rw [h]; simp, e1, e2, rfl⟩))
      ·exact .inr (.inl ⟨by rw [h]; simp [e2], e1, e2⟩)
     ·exact .inl ⟨by rw [h]; simp [e1], e1⟩)
    rcases HX2.out with ⟨rfl, s1⟩ | ⟨rfl, rfl, s2⟩ | ⟨rfl, rfl, rfl, rfl⟩ | ⟨rfl, rfl, rfl, rfl⟩
    all_goals
     clear HX2
     refine st_start (by kernel_rfl) (by kernel_rfl) ?_
     repeat (refine StW.step (fun K hK => ?_); go_simp; refine hK _ ?_; clear hK K)
     refine StW.nil ?_
    case inr.inr.inr =>
     have HBZ := Aside0.mk (below_step HB1.out (below_drew (Below.refl W1.heap.size W1)))
     have HM5 := Aside0.mk (HM3.out.step HBZ.out)
     have HFI := Aside0.mk (show frP p [xa, xa, xb, v3, v4] = { p with blocks := p.blocks.take j ++ p.blocks.drop (j + 1), locks := p.locks.set v4.toNat 0 } by rw [HF2.out, hit_found hlt2 HN.out HHE.out])
     have u4 := pw_cell_below HBZ.out u4
     have x7 : W1.drew.cell? ⟨w.heap.size, 7, none⟩ = some (.slice (some ⟨gb, 0, none⟩) p.blocks.length s.c6) := x7
     have HCC := Aside0.mk (show p.blocks.length <= s.c6 by have h := HM3.out.mp.st.blocks.reads; rw [<- h.1]; exact h.2.1)
     have HTC := Aside0.mk (show Kd.C k141 W1.drew (some ⟨gb, 0, none⟩) p.blocks.length p.blocks by have h := Kd.C_below HBC.out HBZ.out; rwa [HGB.out] at h)
     clear d0 d1 d2 HBX u1 u2
     generalize W1.drew = Wz at HBZ HM5 u4 x7 HTC ⊢
     have HT := Aside0.mk (show Kd.C k141 Wz (some ⟨gb, 0, none⟩) j (p.blocks.take j) by
      have h := Kd.C_take HTC.out (Nat.le_of_lt hlt2)
      rw [List.length_take, Nat.min_eq_left (Nat.le_of_lt hlt2)] at h
      exact h)
     have p4 : j <= s.c6 := by have := HCC.out; omega
     have p5 : j + 1 <= s.c6 := by have := HCC.out; omega
     have p6 : p.blocks.length <= s.c6 := HCC.out
     have p7 : j + 1 <= p.blocks.length := by omega
     have hw1 : IntKind.i64.wrap ((j : Int) + 1) = (j : Int) + 1 := by rw [IntKind.wrap_i64]; omega
     have hw2 : ((j : Int) + 1).toNat = j + 1 := by omega
     have hw3 : (0 : Int) <= (j : Int) + 1 := by omega
     have hw4 : (j : Int) + 1 <= (p.blocks.length : Int) := by omega
     have HD := Aside0.mk (show Kd.C k141 Wz (if s.c6 = j + 1 then (some ⟨gb, 0, none⟩ : Option Addr) else some ⟨gb, (j + 1) * 3, none⟩) (p.blocks.length - (j + 1)) (p.blocks.drop (j + 1)) by
      have h := Kd.C_drop (m := j + 1) (c := s.c6) HTC.out p7 p6
      rw [List.length_drop] at h
      by_cases c : s.c6 = j + 1
      ·rw [if_pos c] at h ⊢; exact h
      ·rw [if_neg c] at h ⊢
       have e : Option.map (fun q : Addr => q.add ((j + 1) * k141.sz)) (some ⟨gb, 0, none⟩) = (some ⟨gb, (j + 1) * 3, none⟩ : Option Addr) := by
        show some (Addr.add ⟨gb, 0, none⟩ ((j + 1) * 3)) = _
        rw [add_plain]
       rwa [e] at h)
     have hS0 : Below Wz.heap.size Wz Wz.drew := below_drew (Below.refl _ _)
     go_upto_region 72 with (fail)
     refine sg_start (fun w9 => Below Wz.heap.size Wz w9) 13 (by kernel_rfl) ?_
     refine SG.take 1 (v := ?_) rfl (by kernel_rfl) (fun _ _ _ h => h) hS0 (by rfl) ?_ ?_
     rotate_left
     ·intro w9 hS9
      go_simp <;> (with_reducible rfl)
     simp only [Act.put, List.setIfInBounds_toArray, List.set_cons_zero, List.set_cons_succ]
     refine SG.take 3 (v := ?_) rfl (by kernel_rfl) (fun _ _ _ h => h) hS0 (by rfl) ?_ ?_
     rotate_left
     ·intro w9 hS9
      go_simp <;> (with_reducible rfl)
     simp only [Act.put, List.setIfInBounds_toArray, List.set_cons_zero, List.set_cons_succ]
     refine SG.take 6 (v := ?_) rfl (by kernel_rfl) (fun _ _ _ h => h) hS0 (by rfl) ?_ ?_
     rotate_left
     ·intro w9 hS9
      go_simp <;> (with_reducible rfl)
     simp only [Act.put, List.setIfInBounds_toArray, List.set_cons_zero, List.set_cons_succ]
     refine SG.take 8 (v := ?_) rfl (by kernel_rfl) (fun _ _ _ h => h) hS0 (by rfl) ?_ ?_
     rotate_left
     ·intro w9 hS9
      go_simp <;> (with_reducible rfl)
     simp only [Act.put, List.setIfInBounds_toArray, List.set_cons_zero, List.set_cons_succ]
     refine SG.take 9 (v := ?_) rfl (by kernel_rfl) (fun _ _ _ h => h) hS0 (by rfl) ?_ ?_
     rotate_left
     ·intro w9 hS9
      go_simp <;> (with_reducible rfl)
     simp only [Act.put, List.setIfInBounds_toArray, List.set_cons_zero, List.set_cons_succ]
     refine SG.take 2 (v := ?_) rfl (by kernel_rfl) (fun _ _ _ h => h) hS0 (by rfl) ?_ ?_
     rotate_left
     ·intro w9 hS9
      have x7 := pw_cell_below hS9 x7
      go_simp <;> (with_reducible rfl)
     simp only [Act.put, List.setIfInBounds_toArray, List.set_cons_zero, List.set_cons_succ]
     refine SG.take 7 (v := ?_) rfl (by kernel_rfl) (fun _ _ _ h => h) hS0 (by rfl) ?_ ?_
     rotate_left
     ·intro w9 hS9
      have x7 := pw_cell_below hS9 x7
      go_simp <;> (with_reducible rfl)
     simp only [Act.put, List.setIfInBounds_toArray, List.set_cons_zero, List.set_cons_succ]
     refine SG.take 4 (v := ?_) rfl (by kernel_rfl) (fun _ _ _ h => h) hS0 (by rfl) ?_ ?_
     rotate_left
     ·intro w9 hS9
      go_simp <;> (with_reducible rfl)
     simp only [Act.put, List.setIfInBounds_toArray, List.set_cons_zero, List.set_cons_succ]
     refine SG.take 10 (v := ?_) rfl (by kernel_rfl) (fun _ _ _ h => h) hS0 (by rfl) ?_ ?_
     rotate_left
     ·intro w9 hS9
      go_simp <;> (with_reducible rfl)
     simp only [Act.put, List.setIfInBounds_toArray, List.set_cons_zero, List.set_cons_succ]
     refine SG.act 0 rfl (by kernel_rfl) ?_
     intro K hK
     go_simp
     refine hK _ _ (fun _ => (below_drew ((Below.refl _ _).alloc (Nat.le_refl _) _))) ?_
     clear hK K
     refine SG.act 5 rfl (by kernel_rfl) ?_
     intro K hK
     refine Kd.R_append_rows_step k141 (Rr := k141.K Wz) (w0 := Wz) Wz.heap.size (by rfl) (.tmp 423) (.tmp 427) 93 141 (.agg #[.int .u64 0, .int .u64 0, .bool false]) 24 rfl Tryd.underlying93 info141 rfl (by decide) (by decide) (.slice (some ⟨Wz.heap.size, 0, none⟩) 0 0) [] (p.blocks.take j) (some ⟨gb, 0, none⟩) j s.c6 (fun _ => True) (fun _ => False) rfl rfl ?aO ?aR ?aK (fun _ h => h.elim) (fun _ _ => trivial) ?aB ?aS ?aL ?_
     (case aO => exact (Kd.R_drew (R_lit0 _ _ _ _ (Nat.le_refl _)))); (case aR => exact ReadsRow.imp_ HT.out (below_drew ((Below.refl _ _).alloc (Nat.le_refl _) _)) (fun _ _ h => h)); (case aK => intro x cs h; obtain rfl := k141_open h; exact k141_mkM _ _ _ x); (case aB => exact (below_drew ((Below.refl _ _).alloc (Nat.le_refl _) _))); (case aS => exact (below_drew ((Below.refl _ _).alloc (Nat.le_refl _) _)).size); (case aL => (try simp only [List.length_nil]); (try rw [List.nil_append, List.length_take]); omega)
     intro av aw ho hb hg hat
     obtain ⟨aA, ac, e1⟩ := Kd.R_slice ho
     have HOa := Aside0.mk ho
     have hBa := hb
     clear ho hb hg hat
     rw [show ([] ++ p.blocks.take j : List S141).length = j by rw [List.nil_append, List.length_take]; omega] at e1
     subst e1
     refine hK _ _ (fun _ => hBa) ?_
     clear hK K
     simp only [Act.put, List.setIfInBounds_toArray, List.set_cons_zero, List.set_cons_succ]
     refine SG.act 11 rfl (by kernel_rfl) ?_
     intro K hK
     refine Kd.R_append_rows_step k141 (Rr := k141.K Wz) (w0 := Wz) Wz.heap.size (by rfl) (.tmp 428) (.tmp 433) 93 141 (.agg #[.int .u64 0, .int .u64 0, .bool false]) 24 rfl Tryd.underlying93 info141 rfl (by decide) (by decide) (.slice aA j ac) ([] ++ p.blocks.take j) (p.blocks.drop (j + 1)) (if s.c6 = j + 1 then (some ⟨gb, 0, none⟩ : Option Addr) else some ⟨gb, (j + 1) * 3, none⟩) (p.blocks.length - (j + 1)) (s.c6 - (j + 1)) (fun _ => True) (fun _ => False) rfl rfl ?bO ?bR ?bK (fun _ h => h.elim) (fun _ _ => trivial) ?bB ?bS ?bL ?_
     (case bO => exact HOa.out); (case bR => exact ReadsRow.imp_ HD.out hBa (fun _ _ h => h)); (case bK => intro x cs h; obtain rfl := k141_open h; exact k141_mkM _ _ _ x); (case bB => exact hBa); (case bS => exact hBa.size); (case bL => (try simp only [List.length_nil]); (try rw [List.nil_append, List.length_take]); omega)
     intro bv bw ho hb hg hat
     obtain ⟨bA, bc, e1⟩ := Kd.R_slice ho
     have HOb := Aside0.mk ho
     have hBb := hb
     clear ho hb hg hat
     obtain ⟨nb, hnb⟩ : ∃ nb, ([] ++ p.blocks.take j ++ p.blocks.drop (j + 1)).length = nb := ⟨_, rfl⟩
     rw [hnb] at e1
     clear hnb
     subst e1
     refine hK _ _ (fun _ => hBb) ?_
     clear hK K
     simp only [Act.put, List.setIfInBounds_toArray, List.set_cons_zero, List.set_cons_succ]
     have hl6 : [] ++ p.blocks.take j ++ p.blocks.drop (j + 1) = p.blocks.take j ++ p.blocks.drop (j + 1) := by rw [List.nil_append]
     rw [hl6] at HOb
     clear hl6 hS0
     have hS0 := hBb
     refine SG.take 12 (v := ?_) rfl (by kernel_rfl) (fun _ _ _ h => h) hS0 (by rfl) ?_ ?_
     rotate_left
     ·intro w9 hS9
      go_simp <;> (with_reducible rfl)
     simp only [Act.put, List.setIfInBounds_toArray, List.set_cons_zero, List.set_cons_succ]
     have HM6 := Aside0.mk ((HM5.out.step hBb).newB (Kd.R_lower HOb.out HM5.out.mp.kp.size))
     have q7 := blk_frozen HM6.out.hg 7
     have x7 := (blk_cell HM6.out.hg 7).trans (show _ = some (Value.slice s.a6 s.n6 s.c6) from rfl)
     refine SG.act 13 rfl (by kernel_rfl) ?_
     intro K hK
     go_simp
     refine hK _ _ (fun h => absurd rfl h) ?_
     clear hK K
     refine SG.done (by kernel_rfl) ?_
     have HM7 := Aside0.mk (show Mx w0 gt gf w (bw.setCell ⟨w.heap.size, 7, none⟩ (.slice bA nb bc)) s (s.setB bA nb bc) { p with blocks := p.blocks.take j ++ p.blocks.drop (j + 1) } (.slice A xs.length c) xs (s.setB bA nb bc).cs fc ic (.slice (some ⟨gv, 0, none⟩) 5 cv) [xa, xa, xb, v3, v4] from HM6.out.put 7 _)
     obtain ⟨s5, es5⟩ : ∃ s5 : SV, s5 = s.setB bA nb bc := ⟨_, rfl⟩
     rw [<- es5] at HM7
     clear HM5 HM6 q7 x7 es5 hS0 hBa hBb HOa HOb HT HD HTC HBZ hw1 hw2 hw3 hw4
     generalize bw.setCell ⟨w.heap.size, 7, none⟩ (.slice bA nb bc) = W8 at HM7 ⊢
     have l0 : 0 <= v4 := HG4.out
     have l1 : v4 < (p.locks.length : Int) := HLT.out (by first | rfl | trivial)
     obtain ⟨gk, capk, ek, _, _, _⟩ := Kd.R_form HM7.out.mp.st.locks (show 0 < p.locks.length by omega)
     have HEK := Aside0.mk ek
     have hlk := HM7.out.mp.st.locks
     rw [ek] at hlk
     have x5 := (blk_cell HM7.out.hg 5).trans (show s5.cs[5]? = some (.slice (some ⟨gk, 0, none⟩) p.locks.length capk) by show some s5.kv = _; rw [ek])
     have u4 : W8.cell? ⟨gv, 4, none⟩ = some (.int .u64 v4) := (Kd.R_celln 0 HM7.out.vr (4 : Int) (by decide) (by decide)).1
     obtain ⟨hkx, hkf⟩ := Kd.R_celln 0 hlk v4 l0 l1
     have hp := Kd.R_putg (Kd.R_drew hlk) v4 0
     have HM8 := Aside0.mk (HM7.out.pst (HM7.out.mp.st.setK ((RowSt.start HM7.out.mp.st.locks (below_drew (Below.refl _ _))).next (v2 := .slice s5.a5 s5.n5 s5.c5) (by rw [show Value.slice s5.a5 s5.n5 s5.c5 = .slice (some ⟨gk, 0, none⟩) p.locks.length capk from HEK.out]; exact hp.1) (by rw [HEK.out]; exact hp.2) (.inl rfl))))
     clear hp hlk ek HM7
     trace "R73"
     go_upto_region 73 with (fail)
     go_still_tail 6, (by kernel_rfl)
     go_wp2_with (first | ((with_reducible refine gate_dst (N := 442) rfl ?_); refine load95 _ rfl rfl _ rfl _ HM8.out.hg (Cs.of s5) ?_) | ((with_reducible refine gate_store (t := 95) (p := 8) rfl ?_); refine storeS _ _ rfl rfl rfl _ rfl _ rfl _ HM8.out.hr rfl (Cs.of s5) ?_; intro W3 h2 hk3))
     all_goals
      refine bodyPost_ret (results_cell_row rfl _ _ (w.heap.size + 3) 95 _ (0, 0) _ rfl h2 hu95 rfl (by kernel_rfl)) rfl ?_
      exact ⟨s5, rfl, by rw [HEV.out, HFI.out]; exact HM8.out.fin hk3⟩
    all_goals
     go_wp2
     go_roundg (p.blocks.length - (j + 1))
     case measure => omega
     case rel => exact ⟨j + 1, by omega, Nat.le_refl _, by go_num, ⟨hit_succ HN.out HHE.out⟩, ⟨below_step HB1.out (below_drew (Below.refl _ _))⟩⟩
   ·obtain rfl : j = p.blocks.length := by omega
    have HM5 := Aside0.mk (HM3.out.step HB.out)
    have HCK := Aside0.mk (show frP p [v0, v0, v2, v3, v4] = p.stopped 2 by rw [HF2.out, hit_none HN.out])
    go_wp2_with (first | ((with_reducible refine gate_dst (N := 444) rfl ?_); refine load95 _ rfl rfl _ rfl _ HM5.out.hg (Cs.of s) ?_) | (go_at_call 53; (with_reducible refine (stop_calls s 2 _).mono ?_); rintro e w9 ⟨rfl, hb9⟩; have HM4 := Aside0.mk ((HM5.out.step hb9).stopped 2); clear hb9) | ((with_reducible refine gate_store (t := 95) (p := 8) rfl ?_); refine storeS _ _ rfl rfl rfl _ rfl _ rfl _ HM4.out.hr rfl (Cs.of _) ?_; intro W3 h2 hk3))
    refine bodyPost_ret (results_cell_row rfl _ _ (w.heap.size + 3) 95 _ (0, 0) _ rfl h2 hu95 rfl (by kernel_rfl)) rfl ?_
    exact ⟨s.stopped 2, rfl, by rw [HEV.out, HCK.out]; exact HM4.out.fin hk3⟩
 all_goals
  have HCK := Aside0.mk (show frP p [v0, v1, v2, v3, v4] = p.stopped 2 by rw [HFP.out, if_pos (by simp [*])])
  go_wp2_with (first | ((with_reducible refine gate_dst (N := 391) rfl ?_); refine load95 _ rfl rfl _ rfl _ HM3.out.hg (Cs.of s) ?_) | (go_at_call 53; (with_reducible refine (stop_calls s 2 _).mono ?_); rintro e w9 ⟨rfl, hb9⟩; have HM4 := Aside0.mk ((HM3.out.step hb9).stopped 2); clear hb9) | ((with_reducible refine gate_store (t := 95) (p := 8) rfl ?_); refine storeS _ _ rfl rfl rfl _ rfl _ rfl _ HM4.out.hr rfl (Cs.of _) ?_; intro W3 h2 hk3))
  refine bodyPost_ret (results_cell_row rfl _ _ (w.heap.size + 3) 95 _ (0, 0) _ rfl h2 hu95 rfl (by kernel_rfl)) rfl ?_
  exact ⟨s.stopped 2, rfl, by rw [HEV.out, HCK.out]; exact HM4.out.fin hk3⟩
end
end
end Go.Proofs.YtjfleaekljapeaaDoor.K
