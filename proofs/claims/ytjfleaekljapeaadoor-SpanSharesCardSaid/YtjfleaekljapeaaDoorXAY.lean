import Derived.Test.YtjfleaekljapeaaDoorXAX
import Derived.Deep.DeepMust
import Derived.Test.YtjfleaekljapeaaDoorProg
import Derived.Below
import Derived.Deep.Draws
import Derived.Deep.AppendLies
import Derived.Maps.AppendAt
import Derived.OwnWalk
import Derived.Laws.BytesArg
import Derived.Laws.MakeOwn
import Derived.Laws.OwnMore
import Derived.Deep.OwnRows
import Derived.Tactics
import Derived.Lib.ConvBytes
import Derived.Laws.Slices
import Derived.WalkKit
import Derived.KernelRfl
import Derived.RowKit3
import Derived.Deep.LoopGhost
import Derived.Deep.QuietTactic
import Derived.BigQuiet
import Derived.WideLaws
import Derived.Deep.DeepCutAuto
import Derived.Deep.CutBlock
import Derived.Deep.RegionHeld3
import Derived.Deep.MidRow
import Derived.Laws.Tables
import Derived.StillTailTactics
import Derived.Laws.Rows
import Derived.Lib.AppendStr
import Derived.ArgAppend
import Derived.Laws.IdiomCopy
import Derived.OrdersHeld
import Derived.Laws.BitsLemmas
import Derived.Laws.BitsAllLaws
import Derived.RowKit
import Derived.RegionTactic
import Derived.Deep.RegionWith
import Derived.Lib.Hide
import Derived.Test.YtjfleaekljapeaaDoorXAA
import Derived.Test.YtjfleaekljapeaaDoorXAB
import Derived.Test.YtjfleaekljapeaaDoorXAC
import Derived.Deep.RegionLaw
import Derived.Laws.CopyOwn
import Derived.Shelf.Spec.TrailingZeros
import Derived.Test.YtjfleaekljapeaaDoorXAS
namespace Go.Proofs.YtjfleaekljapeaaDoor.K
open Go.RowKit Go.Proofs.YtjfleaekljapeaaDoorW.PrintWords Go.Proofs.YtjfleaekljapeaaDoorW.PrintLast Go.Proofs.YtjfleaekljapeaaDoorW.PrintMore
attribute [local go_sem] max2_int min2_int max_two min_two max_three min_three max_four min_four   -- for this text's walks alone
set_option linter.unusedVariables false
set_option linter.unusedSimpArgs false
set_option linter.unusedSectionVars false
section
def getBlock (n : Nat) : Code -> Option Code
 | .block k c => if k = n then some c else getBlock n c
 | .seq a b => (getBlock n a).or (getBlock n b)
 | .scope c => getBlock n c
 | .loop c => getBlock n c
 | .cond _ a b => (getBlock n a).or (getBlock n b)
 | _ => none
noncomputable def sw40i : Code := (getBlock 4 body40).getD .skip
noncomputable def sw40 : Code := .block 4 sw40i
set_option maxRecDepth 20000 in
def Fs40 (b g gx nk : Nat) (was at_ : Int) (gi : Nat) (op : Int) (u : Nat -> Value) : Act := ⟨#[u 0, u 1, u 2, .pointer (some ⟨b, 0, none⟩), .pointer (some ⟨b + 1, 0, none⟩), u 5, .pointer (some ⟨b + 1 + 1, 0, none⟩), u 7, .slice (some ⟨gx, 0, none⟩) nk nk, .int .i64 was, .pointer (some ⟨g, 0, none⟩), u 11, .int .i64 at_, .pointer (some ⟨gi, 0, none⟩), u 14, u 15, u 16, u 17, u 18, u 19, u 20, u 21, u 22, u 23, u 24, u 25, u 26, u 27, u 28, u 29, u 30, u 31, u 32, u 33, u 34, u 35, u 36, u 37, u 38, u 39, u 40, u 41, u 42, u 43, u 44, u 45, u 46, u 47, u 48, u 49, u 50, u 51, u 52, u 53, u 54, u 55, u 56, u 57, u 58, u 59, u 60, u 61, u 62, u 63, u 64, u 65, u 66, u 67, u 68, u 69, u 70, u 71, u 72, u 73, u 74, u 75, u 76, u 77, u 78, u 79, u 80, u 81, u 82, u 83, u 84, u 85, u 86, u 87, u 88, u 89, u 90, u 91, u 92, u 93, u 94, u 95, u 96, u 97, .int .i64 op, u 99, u 100, u 101, u 102, u 103, u 104, u 105, u 106, u 107, u 108, u 109, u 110, u 111, u 112, u 113, u 114, u 115, u 116, u 117, u 118, u 119, u 120, u 121, u 122, u 123, u 124, u 125, u 126, u 127, u 128, u 129, u 130, u 131, u 132, u 133, u 134, u 135, u 136, u 137, u 138, u 139, u 140, u 141, u 142, u 143, u 144, u 145, u 146, u 147, u 148, u 149, u 150, u 151, u 152, u 153, u 154, u 155, u 156, u 157, u 158, u 159, u 160, u 161, u 162, u 163, u 164, u 165, u 166, u 167, u 168, u 169, u 170], []⟩
def fs40_f (b g gx nk : Nat) (was at_ : Int) (gi : Nat) (op : Int) (u : Nat -> Value) : Nat -> Value := fun k => if k = 3 then .pointer (some ⟨b, 0, none⟩) else if k = 4 then .pointer (some ⟨b + 1, 0, none⟩) else if k = 6 then .pointer (some ⟨b + 1 + 1, 0, none⟩) else if k = 8 then .slice (some ⟨gx, 0, none⟩) nk nk else if k = 9 then .int .i64 was else if k = 10 then .pointer (some ⟨g, 0, none⟩) else if k = 12 then .int .i64 at_ else if k = 13 then .pointer (some ⟨gi, 0, none⟩) else if k = 98 then .int .i64 op else u k
set_option maxRecDepth 20000 in
theorem fs40_is (b g gx nk : Nat) (was at_ : Int) (gi : Nat) (op : Int) (u : Nat -> Value) : Fs40 b g gx nk was at_ gi op u = ⟨((List.range 171).map (fs40_f b g gx nk was at_ gi op u)).toArray, []⟩ := by kernel_rfl
theorem fs40_of (b g gx nk : Nat) (was at_ : Int) (gi : Nat) (op : Int) (l : List Value) (hl : l.length = 171) (h3 : l[3]? = some (.pointer (some ⟨b, 0, none⟩))) (h4 : l[4]? = some (.pointer (some ⟨b + 1, 0, none⟩))) (h6 : l[6]? = some (.pointer (some ⟨b + 1 + 1, 0, none⟩))) (h8 : l[8]? = some (.slice (some ⟨gx, 0, none⟩) nk nk)) (h9 : l[9]? = some (.int .i64 was)) (h10 : l[10]? = some (.pointer (some ⟨g, 0, none⟩))) (h12 : l[12]? = some (.int .i64 at_)) (h13 : l[13]? = some (.pointer (some ⟨gi, 0, none⟩))) (h98 : l[98]? = some (.int .i64 op)) : (⟨l.toArray, []⟩ : Act) = Fs40 b g gx nk was at_ gi op (fun k => l.getD k undef) := by
 rw [fs40_is]
 have e : l = (List.range 171).map (fs40_f b g gx nk was at_ gi op (fun k => l.getD k undef)) := by
  apply List.ext_getElem?
  intro k
  rw [List.getElem?_map]
  by_cases hk : k < 171
  ·rw [List.getElem?_range hk]
   show l[k]? = some (fs40_f b g gx nk was at_ gi op (fun k => l.getD k undef) k)
   unfold fs40_f
   by_cases c3 : k = 3
   ·rw [if_pos c3, c3]; exact h3
   rw [if_neg c3]
   by_cases c4 : k = 4
   ·rw [if_pos c4, c4]; exact h4
   rw [if_neg c4]
   by_cases c6 : k = 6
   ·rw [if_pos c6, c6]; exact h6
   rw [if_neg c6]
   by_cases c8 : k = 8
   ·rw [if_pos c8, c8]; exact h8
   rw [if_neg c8]
   by_cases c9 : k = 9
   ·rw [if_pos c9, c9]; exact h9
   rw [if_neg c9]
   by_cases c10 : k = 10
   ·rw [if_pos c10, c10]; exact h10
   rw [if_neg c10]
   by_cases c12 : k = 12
   ·rw [if_pos c12, c12]; exact h12
   rw [if_neg c12]
   by_cases c13 : k = 13
   ·rw [if_pos c13, c13]; exact h13
   rw [if_neg c13]
   by_cases c98 : k = 98
   ·rw [if_pos c98, c98]; exact h98
   rw [if_neg c98]
   show l[k]? = some (l.getD k undef)
   rw [List.getD_eq_getElem?_getD, List.getElem?_eq_getElem (by omega)]
   rfl
  ·rw [List.getElem?_eq_none (by omega), List.getElem?_eq_none (by rw [List.length_range]; omega)]
   rfl
 exact congrArg (fun x : List Value => (⟨x.toArray, []⟩ : Act)) e
def SV.tick (s : SV) : SV := { s with steps := s.steps + 1 }
theorem Lx.tick {w0 w W : World} {gt gf g : Nat} {s0 s : SV} {p : PS} {v fv : Value} {xs fl : List Int} {fnc fc : Array Value} (h : Lx w0 gt gf w W s0 s p v xs s.cs fnc g fc fv fl) : Lx w0 gt gf w (W.setCell ⟨w.heap.size, 13, none⟩ (.int .i64 (s.steps + 1))) s0 s.tick (_root_.Go.Proofs.YtjfleaekljapeaaDoor.K.tick p) v xs s.tick.cs fnc g fc fv fl :=
 (h.put 13 (.int .i64 (s.steps + 1))).nums ⟨h.st.num.1, h.st.num.2, h.st.num.3, h.st.num.4, h.st.num.5, h.st.num.6, by show s.steps + 1 = p.steps + 1; rw [h.st.num.7], h.st.num.8, h.st.num.9, h.st.num.10⟩ ⟨rfl, rfl, rfl, rfl, rfl, rfl, rfl, rfl, rfl⟩ ⟨rfl, rfl, rfl, rfl, rfl, rfl, rfl⟩
section
variable {w0 w W : World} {gt gf g gx : Nat} {f : Fr4} {s0 s : SV} {A5 : Option Addr} {c5 : Nat} {fr : FP} {was : Int} {p : PS} {xs : List Int}
set_option maxHeartbeats 4000000 in
set_option maxRecDepth 20000 in
theorem head40 (hSI : SI w0 gt gf f) (hX : Lx w0 gt gf w W s0 s p (.slice (some ⟨gx, 0, none⟩) f.l2.length f.l2.length) xs s.cs f.cs g (f.fc A5 fr.slots.length c5 fr.lock fr.key) (.slice A5 fr.slots.length c5) fr.slots) (q : Nat) (hq : q < f.code.length) (hs : p.stop < 0) (hfu : ¬ p.fuel <= p.steps) (hst : 0 <= p.steps /\ p.steps <= 400) (u : Nat -> Value) (K : Act -> World -> Prop) (Q0 : Exit -> Act -> World -> Prop)
  (hh : ∀ (u : Nat -> Value) (W2 : World) (gi : Nat) (A7 : Option Addr) (c7 : Nat) (A8 : Option Addr) (c8 : Nat), Lx w0 gt gf w W2 s0 s.tick (tick p) (.slice (some ⟨gx, 0, none⟩) f.l2.length f.l2.length) xs s.tick.cs f.cs g (f.fc A5 fr.slots.length c5 fr.lock fr.key) (.slice A5 fr.slots.length c5) fr.slots →
   W2.heap[gi]? = some (.cells (icOf (rd_T44 f.code q) A7 c7 A8 c8) 44 (0, 0)) -> w.heap.size <= gi -> InI w0 (rd_T44 f.code q) A7 A8 c8 f.l2.length -> Code.wp Tryd.prog sw40 (Exit.inBlock 3 (Exit.then K Q0)) (Fs40 w.heap.size g gx f.l2.length was (q + 1) gi (rd_T44 f.code q).f0 u) W2) :
  Code.wp Tryd.prog body40 (Exit.then K Q0) (Fr40 w.heap.size g gx f.l2.length was q u) W := by
 have hu95 := Tryd.underlying95
 have hu25 := Tryd.underlying25
 have hu23 := Tryd.underlying23
 have hu44 := Tryd.underlying44
 have hn := hX.st.num
 have hss : s.stop < 0 := by rw [hn.stop]; exact hs
 have hsf : ¬ s.fuel <= s.steps := by rw [hn.fuel, hn.steps]; exact hfu
 have hc80 := hSI.ok.len
 have hw1 : IntKind.i64.wrap (s.steps + 1) = s.steps + 1 := by rw [IntKind.wrap_i64]; have := hn.steps; omega
 have HIN := Aside0.mk (show ∀ A7 A8 c8, (rd_T44 f.code q).f8.length <= c8 -> (Kd.int .i64).C w0 A7 (rd_T44 f.code q).f7.length (rd_T44 f.code q).f7 -> (Kd.int .i64).C w0 A8 (rd_T44 f.code q).f8.length (rd_T44 f.code q).f8 -> InI w0 (rd_T44 f.code q) A7 A8 c8 f.l2.length from fun A7 A8 c8 h8 g7 g8 => ⟨g7, g8, (hSI.ins q hq).r7, (hSI.ins q hq).r8, hSI.a7 q hq, h8⟩)
 obtain ⟨ad, A7, c7, A8, c8, ea, y0, y1, y2, y3, y4, y5, y6, y7, y8, y9, l7, g7, l8, g8⟩ := at_T44 hSI.fn.h4 (q : Int) (by omega) (by omega)
 rw [Int.toNat_natCast] at y0 y1 y2 y3 y4 y5 y6 y7 y8 y9
 have HI := Aside0.mk (HIN.out A7 A8 c8 l8 g7 g8)
 have HH := Aside0.mk hh
 clear hh HIN l7 g7 l8 g8 hn hs hfu hst
 generalize rd_T44 f.code q = i at HH HI y0 y1 y2 y3 y4 y5 y6 y7 y8 y9
 have HX := Aside0.mk hX
 have HA := Aside0.mk ea
 have HY := Aside0.mk (show ∀ W3, Below w0.heap.size w0 W3 -> W3.cell? (ad.add (q * 10)) = some (.int .i64 i.f0) /\ W3.cell? ⟨(ad.add (q * 10)).block, (ad.add (q * 10)).off + 1, none⟩ = some (.int .i64 i.f1) /\ W3.cell? ⟨(ad.add (q * 10)).block, (ad.add (q * 10)).off + 2, none⟩ = some (.int .i64 i.f2) /\ W3.cell? ⟨(ad.add (q * 10)).block, (ad.add (q * 10)).off + 3, none⟩ = some (.int .i64 i.f3) /\ W3.cell? ⟨(ad.add (q * 10)).block, (ad.add (q * 10)).off + 4, none⟩ = some (.int .u64 i.f4) /\ W3.cell? ⟨(ad.add (q * 10)).block, (ad.add (q * 10)).off + 5, none⟩ = some (.int .i64 i.f5) /\ W3.cell? ⟨(ad.add (q * 10)).block, (ad.add (q * 10)).off + 6, none⟩ = some (.string i.f6) /\ W3.cell? ⟨(ad.add (q * 10)).block, (ad.add (q * 10)).off + 7, none⟩ = some (.slice A7 i.f7.length c7) /\ W3.cell? ⟨(ad.add (q * 10)).block, (ad.add (q * 10)).off + 8, none⟩ = some (.slice A8 i.f8.length c8) /\ W3.cell? ⟨(ad.add (q * 10)).block, (ad.add (q * 10)).off + 9, none⟩ = some (.int .i64 i.f9) from fun W3 hb => ⟨pw_cell_below hb y0, pw_cell_below hb y1, pw_cell_below hb y2, pw_cell_below hb y3, pw_cell_below hb y4, pw_cell_below hb y5, pw_cell_below hb y6, pw_cell_below hb y7, pw_cell_below hb y8, pw_cell_below hb y9⟩)
 clear hX ea y0 y1 y2 y3 y4 y5 y6 y7 y8 y9 hSI
 have q0 : 0 <= (q : Int) := by omega
 have q1 : (q : Int) < (f.code.length : Int) := by omega
 have q2 : (q : Int) <= 80 := by omega
 clear hq hc80
 unfold Fr40
 conv => arg 2; whnf
 have x15 := (blk_cell HX.out.hs 15).trans (show _ = some (Value.int .i64 s.stop) from rfl)
 have x13 := (blk_cell HX.out.hs 13).trans (show _ = some (Value.int .i64 s.steps) from rfl)
 have x12 := (blk_cell HX.out.hs 12).trans (show _ = some (Value.int .i64 s.fuel) from rfl)
 have p13 := blk_frozen HX.out.hs 13
 go_upto_region 23 with (fail)
 have n0_ := Aside0.mk HX.out.tick
 clear HX x15 x13 x12 p13 hw1 hss hsf
 have HX := n0_
 clear n0_
 generalize World.setCell _ ⟨w.heap.size, 13, none⟩ (.int .i64 (s.steps + 1)) = W2 at HX ⊢
 have z4 := (blk_cell HX.out.hf 4).trans (show _ = some (Value.slice f.A4 f.code.length f.c4) from rfl)
 rw [HA.out] at z4
 obtain ⟨y0, y1, y2, y3, y4, y5, y6, y7, y8, y9⟩ := HY.out W2 HX.out.st.below
 go_upto_region 24 with (fail)
 clear z4 y0 y1 y2 y3 y4 y5 y6 y7 y8 y9
 have HB := Aside0.mk (show (W2.alloc (.cells (icOf i A7 c7 A8 c8) 44)).heap[W2.heap.size]? = some (.cells (icOf i A7 c7 A8 c8) 44 (0, 0)) from heap_alloc_new _ _)
 have HLE := Aside0.mk (show w.heap.size <= W2.heap.size from HX.out.kp.size)
 have n0_ := Aside0.mk (HX.out.step ((Below.refl _ _).alloc (Nat.le_refl _) (.cells (icOf i A7 c7 A8 c8) 44)))
 clear HX
 have HX := n0_
 clear n0_
 generalize hgi : W2.heap.size = gi at HB HLE ⊢
 rw [show (W2.alloc (.cells (icOf i A7 c7 A8 c8) 44)) = W2.alloc (.cells #[.int .i64 i.f0, .int .i64 i.f1, .int .i64 i.f2, .int .i64 i.f3, .int .u64 i.f4, .int .i64 i.f5, .string i.f6, .slice A7 i.f7.length c7, .slice A8 i.f8.length c8, .int .i64 i.f9] 44) from rfl] at HX HB
 generalize W2.alloc (.cells #[.int .i64 i.f0, .int .i64 i.f1, .int .i64 i.f2, .int .i64 i.f3, .int .u64 i.f4, .int .i64 i.f5, .string i.f6, .slice A7 i.f7.length c7, .slice A8 i.f8.length c8, .int .i64 i.f9] 44) = W3 at HX HB ⊢
 clear hgi
 have v0 := (blk_cell HB.out 0).trans (show _ = some (Value.int .i64 i.f0) from rfl)
 go_upto_region 25 with (fail)
 rename_i K25 h25
 have H25 := Aside0.mk (show ∀ a w', Code.wp Tryd.prog sw40 (Exit.inBlock 3 (Exit.then K Q0)) a w' -> K25 a w' from fun a w' h => h25 a w' (wp_turn (c2 := sw40) (by kernel_rfl) rfl h))
 clear h25
 go_wp2
 refine H25.out _ _ ?_
 refine wp_turn rfl (fs40_of w.heap.size g gx f.l2.length was (q + 1) gi i.f0 _ rfl rfl rfl rfl rfl rfl rfl rfl rfl rfl) ?_
 exact HH.out _ W3 gi A7 c7 A8 c8 HX.out HB.out HLE.out HI.out
end
end
section
theorem q_turn {Q : Exit -> Act -> World -> Prop} {e : Exit} {a a2 : Act} {W : World} (ha : a = a2) (h : Q e a2 W) : Q e a W := by
 subst ha
 exact h
section
variable {w0 w W : World} {gt gf g gx gi : Nat} {f : Fr4} {s0 s : SV} {A5 A7 A8 : Option Addr} {c5 c7 c8 : Nat} {fr : FP} {was : Int} {p : PS} {xs : List Int} {q k : Nat} {i : S44} {u : Nat -> Value} {Q0 : Exit -> Act -> World -> Prop}
set_option maxHeartbeats 4000000 in
set_option maxRecDepth 20000 in
theorem sw_18 (hX : Lx w0 gt gf w W s0 s p (.slice (some ⟨gx, 0, none⟩) f.l2.length f.l2.length) xs s.cs f.cs g (f.fc A5 fr.slots.length c5 fr.lock fr.key) (.slice A5 fr.slots.length c5) fr.slots) (hB : W.heap[gi]? = some (.cells (icOf i A7 c7 A8 c8) 44 (0, 0))) (hop : i.f0 = 18) (hK : ∀ u W2, Lx w0 gt gf w W2 s0 s p (.slice (some ⟨gx, 0, none⟩) f.l2.length f.l2.length) xs s.cs f.cs g (f.fc A5 fr.slots.length c5 fr.lock fr.key) (.slice A5 fr.slots.length c5) fr.slots -> Q0 .normal (Fr40 w.heap.size g gx f.l2.length was i.f9 u) W2) :
  Code.wp Tryd.prog sw40 Q0 (Fs40 w.heap.size g gx f.l2.length was (q + 1) gi i.f0 u) W := by
 have hu44 := Tryd.underlying44
 rw [hop]
 clear hop
 have HK := Aside0.mk hK
 have HX := Aside0.mk hX
 have HB := Aside0.mk hB
 clear hK hX hB
 unfold Fs40 sw40
 conv => arg 2; arg 2; whnf
 have y9 := (blk_cell HB.out 9).trans (show _ = some (Value.int .i64 i.f9) from rfl)
 go_wp2
 refine q_turn (fr40_of w.heap.size g gx f.l2.length was i.f9 _ rfl rfl rfl rfl rfl rfl rfl rfl) ?_
 exact HK.out _ W HX.out
set_option maxHeartbeats 4000000 in
set_option maxRecDepth 20000 in
theorem sw_19 (hX : Lx w0 gt gf w W s0 s p (.slice (some ⟨gx, 0, none⟩) f.l2.length f.l2.length) xs s.cs f.cs g (f.fc A5 fr.slots.length c5 fr.lock fr.key) (.slice A5 fr.slots.length c5) fr.slots) (hB : W.heap[gi]? = some (.cells (icOf i A7 c7 A8 c8) 44 (0, 0))) (hop : i.f0 = 19) (a : Nat) (ha : i.f2 = (a : Int)) (hal : a < f.l2.length) (hK : ∀ q2 : Int, q2 = (if rd xs i.f2 = 0 then (q : Int) + 1 else i.f9) -> ∀ u W2, Lx w0 gt gf w W2 s0 s p (.slice (some ⟨gx, 0, none⟩) f.l2.length f.l2.length) xs s.cs f.cs g (f.fc A5 fr.slots.length c5 fr.lock fr.key) (.slice A5 fr.slots.length c5) fr.slots -> Q0 .normal (Fr40 w.heap.size g gx f.l2.length was q2 u) W2) :
  Code.wp Tryd.prog sw40 Q0 (Fs40 w.heap.size g gx f.l2.length was (q + 1) gi i.f0 u) W := by
 have hu44 := Tryd.underlying44
 have hu71 := Tryd.underlying71
 rw [hop]
 rw [ha] at hK
 have HA := Aside0.mk ha
 clear hop
 have HK := Aside0.mk hK
 have HX := Aside0.mk hX
 have HB := Aside0.mk hB
 clear hK hX hB
 unfold Fs40 sw40
 conv => arg 2; arg 2; whnf
 have y9 := (blk_cell HB.out 9).trans (show _ = some (Value.int .i64 i.f9) from rfl)
 have y2 := (blk_cell HB.out 2).trans (show _ = some (Value.int .i64 i.f2) from rfl)
 rw [HA.out] at y2
 have a0 : 0 <= (a : Int) := by omega
 have a1 : (a : Int) < (f.l2.length : Int) := by omega
 obtain ⟨hx, _⟩ := Kd.R_celln 0 HX.out.xr.row (a : Int) a0 a1
 rw [Int.toNat_natCast, show rdOf (0 : Int) xs (a : Int) = rd xs a from rfl] at hx
 clear ha hal HA
 generalize rd xs (a : Int) = v at hx HK
 by_cases hz : v = 0
 ·subst hz
  go_wp2
  refine q_turn (fr40_of w.heap.size g gx f.l2.length was ((q : Int) + 1) _ rfl rfl rfl rfl rfl rfl rfl rfl) ?_
  exact HK.out _ (by simp) _ W HX.out
 ·have hz2 : (v != 0) = true := by simpa using hz
  have HZ := Aside0.mk hz
  clear hz
  go_wp2
  refine q_turn (fr40_of w.heap.size g gx f.l2.length was i.f9 _ rfl rfl rfl rfl rfl rfl rfl rfl) ?_
  exact HK.out _ (by simp [HZ.out]) _ W HX.out
end
end
section
section
variable {w0 w W : World} {gt gf g gx gi : Nat} {f : Fr4} {s0 s : SV} {A5 A7 A8 : Option Addr} {c5 c7 c8 : Nat} {fr : FP} {was : Int} {p : PS} {xs : List Int} {q k : Nat} {i : S44} {u : Nat -> Value} {Q0 : Exit -> Act -> World -> Prop}
set_option maxHeartbeats 4000000 in
set_option maxRecDepth 20000 in
theorem sw_pl (hX : Lx w0 gt gf w W s0 s p (.slice (some ⟨gx, 0, none⟩) f.l2.length f.l2.length) xs s.cs f.cs g (f.fc A5 fr.slots.length c5 fr.lock fr.key) (.slice A5 fr.slots.length c5) fr.slots) (hB : W.heap[gi]? = some (.cells (icOf i A7 c7 A8 c8) 44 (0, 0))) (hF : InsF f.l2.length f.l3.length f.code.length i) (hI : InI w0 i A7 A8 c8 f.l2.length) (hP : PI 2 k p) (hk : k <= 400) (hXI : XI xs) (hlen : xs.length = f.l2.length) (hn : i.f0 ≠ 43 /\ i.f0 ≠ 18 /\ i.f0 ≠ 19 /\ i.f0 ≠ 42) (hop : i.f0 = 1 ∨ i.f0 = 2 ∨ i.f0 = 3 ∨ i.f0 = 4 ∨ i.f0 = 20 ∨ i.f0 = 21 ∨ i.f0 = 22) (hK : ∀ u W2 s2, Lx w0 gt gf w W2 s0 s2 (actI p fr i xs).1 (.slice (some ⟨gx, 0, none⟩) f.l2.length f.l2.length) (actX p fr i xs) s2.cs f.cs g (f.fc A5 fr.slots.length c5 fr.lock fr.key) (.slice A5 fr.slots.length c5) fr.slots -> Q0 .normal (Fr40 w.heap.size g gx f.l2.length was (q + 1) u) W2) :
  Code.wp Tryd.prog sw40 Q0 (Fs40 w.heap.size g gx f.l2.length was (q + 1) gi i.f0 u) W := by
 have hu44 := Tryd.underlying44
 have hu112 := Tryd.underlying112
 have HC := Aside0.mk (show Calls Tryd.prog 56 #[.agg s.cs, .agg (icOf i A7 c7 A8 c8), .slice (some ⟨gx, 0, none⟩) f.l2.length f.l2.length] W (MPost w0 gt gf W s (actI p fr i xs).1 (.slice (some ⟨gx, 0, none⟩) f.l2.length f.l2.length) (actX p fr i xs)) from by
  rw [<- hlen]
  exact act_plain (e := 2) (k := k) (ns := f.l3.length) (nc := f.code.length) hX.st (by rw [hlen]; exact hX.xr) (by rw [hlen]; exact hF) hP hk hXI fr hop)
 have n43 : (i.f0 == 43) = false := by simpa using hn.1
 have n18 : (i.f0 == 18) = false := by simpa using hn.2.1
 have n19 : (i.f0 == 19) = false := by simpa using hn.2.2.1
 have n42 : (i.f0 == 42) = false := by simpa using hn.2.2.2
 have n30 : i.f0 < 30 := by omega
 generalize (actI p fr i xs).1 = p2 at HC hK
 generalize actX p fr i xs = ys at HC hK
 have v0 := (blk_cell hB 0).trans (show _ = some (Value.int .i64 i.f0) from rfl)
 have h44 : (Tryd.prog.info? 44).map (·.size) = some (icOf i A7 c7 A8 c8).size := by kernel_rfl
 generalize icOf i A7 c7 A8 c8 = ic at HC hB h44
 clear hF hI hP hk hXI hlen hn hop
 have HK := Aside0.mk hK
 have HX := Aside0.mk hX
 have HB := Aside0.mk hB
 clear hK hX hB
 unfold Fs40 sw40
 conv => arg 2; arg 2; whnf
 go_wp2_with (first | ((with_reducible refine gate_dst (N := 102) rfl ?_); refine load95 _ rfl rfl _ rfl _ HX.out.hs (Cs.of s) ?_) | ((with_reducible refine gate_dst (N := 103) rfl ?_); refine wpList_load_row rfl 44 _ rfl gi rfl 44 (ic) (0, 0) _ HB.out hu44 rfl h44 ?_) | (go_at_call 56; (with_reducible refine HC.out.mono ?_); rintro e w' ⟨s', rfl, hm⟩; have HX2 := Aside0.mk (HX.out.mp hm); clear hm) | ((with_reducible refine gate_store (t := 95) (p := 3) rfl ?_); refine storeS _ _ rfl rfl rfl _ rfl _ rfl _ HX2.out.hs rfl (Cs.of s') ?_; intro W3 h2 hk3))
 refine q_turn (fr40_of w.heap.size g gx f.l2.length was (q + 1) _ rfl rfl rfl rfl rfl rfl rfl rfl) ?_
 exact HK.out _ W3 s' (HX2.out.copy h2 hk3)
set_option maxHeartbeats 4000000 in
set_option maxRecDepth 20000 in
theorem sw_mem (hX : Lx w0 gt gf w W s0 s p (.slice (some ⟨gx, 0, none⟩) f.l2.length f.l2.length) xs s.cs f.cs g (f.fc A5 fr.slots.length c5 fr.lock fr.key) (.slice A5 fr.slots.length c5) fr.slots) (hB : W.heap[gi]? = some (.cells (icOf i A7 c7 A8 c8) 44 (0, 0))) (hSI : SI w0 gt gf f) (hfr : FrOk f fr was) (hF : InsF f.l2.length f.l3.length f.code.length i) (hI : InI w0 i A7 A8 c8 f.l2.length) (hP : PI 2 k p) (hk : k <= 400) (hXI : XI xs) (hlen : xs.length = f.l2.length) (hn : i.f0 ≠ 43 /\ i.f0 ≠ 18 /\ i.f0 ≠ 19 /\ i.f0 ≠ 42) (hop : 30 <= i.f0 /\ i.f0 <= 41) (hn4 : R64 i.f4) (ht0 : i.f0 = 30 -> 0 <= topI i.f6) (hK : ∀ u W2 s2, Lx w0 gt gf w W2 s0 s2 (actI p fr i xs).1 (.slice (some ⟨gx, 0, none⟩) f.l2.length f.l2.length) (actX p fr i xs) s2.cs f.cs g (f.fc A5 fr.slots.length c5 fr.lock fr.key) (.slice A5 fr.slots.length c5) fr.slots -> Q0 .normal (Fr40 w.heap.size g gx f.l2.length was (q + 1) u) W2) :
  Code.wp Tryd.prog sw40 Q0 (Fs40 w.heap.size g gx f.l2.length was (q + 1) gi i.f0 u) W := by
 have hu44 := Tryd.underlying44
 have hu112 := Tryd.underlying112
 have HC := Aside0.mk (show Calls Tryd.prog 57 #[.agg s.cs, .agg (f.fc A5 fr.slots.length c5 fr.lock fr.key), .agg (icOf i A7 c7 A8 c8), .slice (some ⟨gx, 0, none⟩) f.l2.length f.l2.length] W (MPost w0 gt gf W s (actI p fr i xs).1 (.slice (some ⟨gx, 0, none⟩) f.l2.length f.l2.length) (actX p fr i xs)) from by
  rw [<- hlen]
  exact act_mem (e := 2) (k := k) (nc := f.code.length) hX.st (by rw [hlen]; exact hX.xr) (by rw [hlen]; exact hI) ⟨⟨f.A3, f.c3, by rw [hfr.sz]; rfl, by rw [hfr.sz]; exact hSI.fn.h3⟩, ⟨A5, c5, rfl, hX.fr⟩, rfl, rfl, hfr.len⟩ (by rw [hlen, hfr.sz]; exact hF) hP hk (Nat.le_refl _) hXI hfr.fi (by rw [hfr.sz]; exact hSI.sz.1) hn4 (fun W3 hb => top_calls (nm := f.nm) i.f6 (by exact hSI.un.step hb) (hSI.fn.below hb)) ht0 hop)
 have n43 : (i.f0 == 43) = false := by simpa using hn.1
 have n18 : (i.f0 == 18) = false := by simpa using hn.2.1
 have n19 : (i.f0 == 19) = false := by simpa using hn.2.2.1
 have n42 : (i.f0 == 42) = false := by simpa using hn.2.2.2
 have n30 : ¬ i.f0 < 30 := by omega
 generalize (actI p fr i xs).1 = p2 at HC hK
 generalize actX p fr i xs = ys at HC hK
 have v0 := (blk_cell hB 0).trans (show _ = some (Value.int .i64 i.f0) from rfl)
 have h44 : (Tryd.prog.info? 44).map (·.size) = some (icOf i A7 c7 A8 c8).size := by kernel_rfl
 have h112 : (Tryd.prog.info? 112).map (·.size) = some (f.fc A5 fr.slots.length c5 fr.lock fr.key).size := by kernel_rfl
 generalize icOf i A7 c7 A8 c8 = ic at HC hB h44
 clear hSI hfr hn4 ht0 hF hI hP hk hXI hlen hn hop
 generalize hfc : f.fc A5 fr.slots.length c5 fr.lock fr.key = fc at HC h112
 have HFC := Aside0.mk hfc
 clear hfc
 have HK := Aside0.mk hK
 have HX := Aside0.mk hX
 have HB := Aside0.mk hB
 clear hK hX hB
 unfold Fs40 sw40
 conv => arg 2; arg 2; whnf
 go_wp2_with (first | ((with_reducible refine gate_dst (N := 106) rfl ?_); refine load95 _ rfl rfl _ rfl _ HX.out.hs (Cs.of s) ?_) | ((with_reducible refine gate_dst (N := 107) rfl ?_); refine wpList_load_row rfl 112 _ rfl g rfl 112 (fc) (0, 0) _ (HFC.out ▸ HX.out.hg) hu112 rfl h112 ?_) | ((with_reducible refine gate_dst (N := 108) rfl ?_); refine wpList_load_row rfl 44 _ rfl gi rfl 44 (ic) (0, 0) _ HB.out hu44 rfl h44 ?_) | (go_at_call 57; (with_reducible refine HC.out.mono ?_); rintro e w' ⟨s', rfl, hm⟩; have HX2 := Aside0.mk (HX.out.mp hm); clear hm) | ((with_reducible refine gate_store (t := 95) (p := 3) rfl ?_); refine storeS _ _ rfl rfl rfl _ rfl _ rfl _ HX2.out.hs rfl (Cs.of s') ?_; intro W3 h2 hk3))
 refine q_turn (fr40_of w.heap.size g gx f.l2.length was (q + 1) _ rfl rfl rfl rfl rfl rfl rfl rfl) ?_
 exact HK.out _ W3 s' (HX2.out.copy h2 hk3)
end
end
section
def twB (ops : Array Oper) (i : Nat) : Nat -> Nat -> Bool
 | 0, _ => false
 | n + 1, j => match ops[j]? with
  | none => false
  | some oj => oj.after.any fun e => Region.binds .any e && (decide (e.on = i) || twB ops i n e.on)
theorem tw_blocked {ops : Array Oper} {listed : Array Bool} {i : Nat} (inv : HeadInv .any ops ops.size listed) (hi : listed.getD i false = false) : ∀ n j, twB ops i n j = true -> listed.getD j false = false /\ j ∉ Region.ready .any ops listed
 | 0, j, h => by cases h
 | n + 1, j, h => by
  unfold twB at h
  cases hj : ops[j]? with
  | none =>
   rw [hj] at h
   cases h
  | some oj =>
   rw [hj] at h
   simp only [Array.any_eq_true', Bool.and_eq_true, Bool.or_eq_true, decide_eq_true_eq] at h
   obtain ⟨e, he, hb, h2⟩ := h
   have hl : listed.getD e.on false = false := by
    rcases h2 with h2 | h2
    ·rw [h2]; exact hi
    ·exact (tw_blocked inv hi n e.on h2).1
   constructor
   ·cases c : listed.getD j false with
    | false => rfl
    | true =>
     have := inv.closed j oj hj c e he hb
     rw [hl] at this
     cases this
   ·intro hr
    obtain ⟨_, o2, ho2, hall⟩ := mem_ready.1 hr
    obtain rfl : o2 = oj := Option.some.inj (ho2.symm.trans hj)
    have := hall e he hb
    rw [hl] at this
    cases this
def wpAnyT (P : Program) (ops : Array Oper) (Q : Exit -> Act -> World -> Prop) (S : World -> Prop) (b : Nat -> Bool) : Nat -> Array Bool -> Act -> World -> Prop
 | 0, listed, a, w => Region.ready .any ops listed = [] /\ Q .normal a w
 | f + 1, listed, a, w => (Region.ready .any ops listed = [] -> Q .normal a w) /\ ∀ i ∈ Region.ready .any ops listed, wpOp P ops Q i (fun a2 w2 => (b i = true -> S w2) /\ wpAnyT P ops Q S b f (listed.setIfInBounds i true) a2 w2) a w
section
variable {P : Program} {ops : Array Oper} {Q : Exit -> Act -> World -> Prop} {S : World -> Prop} {b : Nat -> Bool}
theorem wpAny_of_T : ∀ (f : Nat) (listed : Array Bool) (a : Act) (w : World), wpAnyT P ops Q S b f listed a w -> wpAny P .any ops Q f listed a w
 | 0, _, _, _, h => h
 | f + 1, _, _, _, h => ⟨h.1, fun i hi => wpOp_mono (fun a2 w2 h2 => wpAny_of_T f _ a2 w2 h2.2) (h.2 i hi)⟩
theorem wpAnyT_first {i : Nat} {oi : Oper} {v : Value} (hi : ops[i]? = some oi) (hsel : ∀ (j : Nat) (o : Oper) cs b, ops[j]? = some o -> o.op ≠ .select cs b) (hw : ∀ j, j < ops.size -> b j = false -> twB ops i ops.size j = true)
  (hQ : ∀ c a w, Q (.panic c) (a.put oi.dst v) w -> Q (.panic c) a w) :
  ∀ (f : Nat) (listed : Array Bool) (a : Act) (w : World), HeadInv .any ops ops.size listed -> (∀ j oj, ops[j]? = some oj -> j ≠ i -> listed.getD j true = false -> (∀ e ∈ oj.after, Region.binds .any e = true -> e.on ≠ i) -> oi.apart ops oj = true) →
   i ∈ Region.ready .any ops listed -> YieldsIf P ops S oi v a -> S w -> wpAnyT P ops Q S b f (listed.setIfInBounds i true) (a.put oi.dst v) w -> wpAnyT P ops Q S b (f + 1) listed a w := by
 intro f
 induction f with
 | zero =>
  intro listed a w _ _ hr hy hS H
  refine ⟨fun h => (by rw [h] at hr; cases hr), fun j hj => ?_⟩
  by_cases hji : j = i
  ·subst hji; exact hy.wpOp hi hS ⟨fun _ => hS, H⟩
  ·have := ready_mono hj hji
   rw [H.1] at this
   cases this
 | succ f ih =>
  intro listed a w inv hfree hr hy hS H
  refine ⟨fun h => (by rw [h] at hr; cases hr), fun j hj => ?_⟩
  by_cases hji : j = i
  ·subst hji; exact hy.wpOp hi hS ⟨fun _ => hS, H⟩
  ·obtain ⟨hjun, oj, hoj, hall⟩ := mem_ready.1 hj
   have hjs : j < ops.size := (Array.getElem?_eq_some_iff.1 hoj).1
   have hnot : ∀ e ∈ oj.after, Region.binds .any e = true -> e.on ≠ i := fun e he hb heq => by
    have h1 := hall e he hb
    rw [heq, getD_both (mem_ready.1 hr).1] at h1
    cases h1
   have hjb : b j = true := by
    cases c : b j with
    | true => rfl
    | false => exact absurd hj (tw_blocked inv (getD_both (mem_ready.1 hr).1) _ j (hw j hjs c)).2
   have h2 := wpOp_putIf hoj (hfree j oj hoj hji hjun hnot) (fun cs b => hsel i oi cs b hi) (fun cs b => hsel j oj cs b hoj) hQ hy (H.2 j (ready_mono hj hji))
   refine wpOp_mono (fun a2 w2 h3 => ⟨fun _ => h3.2.1 hjb, ih (listed.setIfInBounds j true) a2 w2 (inv.set hj hjs) (fun k ok hk hki hun hno => hfree k ok hk hki (by
    by_cases hjk : j = k
    ·subst hjk; exact hjun
    ·rw [getD_set_ne true hjk] at hun; exact hun) hno) (ready_mono hr (Ne.symm hji)) h3.1 (h3.2.1 hjb) ?_⟩) h2
   rw [Array.setIfInBounds_comm _ _ hji]
   exact h3.2.2
theorem wpAnyT_pure {i : Nat} {oi : Oper} {v : Value} (hi : ops[i]? = some oi) (hsel : ∀ (j : Nat) (o : Oper) cs b, ops[j]? = some o -> o.op ≠ .select cs b) (hbi : b i = false)
  (hQ : ∀ c a w, Q (.panic c) (a.put oi.dst v) w -> Q (.panic c) a w) :
  ∀ (f : Nat) (listed : Array Bool) (a : Act) (w : World), (∀ j oj, ops[j]? = some oj -> j ≠ i -> listed.getD j true = false -> (∀ e ∈ oj.after, Region.binds .any e = true -> e.on ≠ i) -> oi.apart ops oj = true) →
   i ∈ Region.ready .any ops listed -> YieldsIf P ops (fun _ => True) oi v a -> wpAnyT P ops Q S b f (listed.setIfInBounds i true) (a.put oi.dst v) w -> wpAnyT P ops Q S b (f + 1) listed a w := by
 intro f
 induction f with
 | zero =>
  intro listed a w _ hr hy H
  refine ⟨fun h => (by rw [h] at hr; cases hr), fun j hj => ?_⟩
  by_cases hji : j = i
  ·subst hji; exact hy.wpOp hi trivial ⟨fun h => (by rw [hbi] at h; cases h), H⟩
  ·have := ready_mono hj hji
   rw [H.1] at this
   cases this
 | succ f ih =>
  intro listed a w hfree hr hy H
  refine ⟨fun h => (by rw [h] at hr; cases hr), fun j hj => ?_⟩
  by_cases hji : j = i
  ·subst hji; exact hy.wpOp hi trivial ⟨fun h => (by rw [hbi] at h; cases h), H⟩
  ·obtain ⟨hjun, oj, hoj, hall⟩ := mem_ready.1 hj
   have hnot : ∀ e ∈ oj.after, Region.binds .any e = true -> e.on ≠ i := fun e he hb heq => by
    have h1 := hall e he hb
    rw [heq, getD_both (mem_ready.1 hr).1] at h1
    cases h1
   have h2 := wpOp_putIf hoj (hfree j oj hoj hji hjun hnot) (fun cs b => hsel i oi cs b hi) (fun cs b => hsel j oj cs b hoj) hQ hy (H.2 j (ready_mono hj hji))
   refine wpOp_mono (fun a2 w2 h3 => ⟨h3.2.1, ih (listed.setIfInBounds j true) a2 w2 (fun k ok hk hki hun hno => hfree k ok hk hki (by
    by_cases hjk : j = k
    ·subst hjk; exact hjun
    ·rw [getD_set_ne true hjk] at hun; exact hun) hno) (ready_mono hr (Ne.symm hji)) h3.1 ?_⟩) h2
   rw [Array.setIfInBounds_comm _ _ hji]
   exact h3.2.2
end
structure SH (P : Program) (ops : Array Oper) (Q : Exit -> Act -> World -> Prop) (S : World -> Prop) (b : Nat -> Bool) (fuel : Nat) (listed : Array Bool) (a : Act) (w : World) : Prop where
 out : HeadInv .any ops ops.size listed -> wpAnyT P ops Q S b fuel listed a w
def thdB (ops : Array Oper) (b : Nat -> Bool) (listed : Array Bool) (i : Nat) : Bool := tkB ops listed i && (List.range ops.size).all fun j => b j || twB ops i ops.size j
section
variable {P : Program} {ops : Array Oper} {Q : Exit -> Act -> World -> Prop} {S : World -> Prop} {b : Nat -> Bool} {fuel : Nat} {listed : Array Bool} {a : Act} {w : World}
theorem sh_start {id : Nat} (S : World -> Prop) (b : Nat -> Bool) (hm : P.follows .mixedOrders = true) (h : SH P ops Q S b ops.size (Array.replicate ops.size false) a w.drew) : (Code.region id ops true).wp P Q a w :=
 wp_region_any hm (wpAny_of_T _ _ _ _ (h.out ⟨by simp, fun j oj _ hl => (by rw [getD_replicate_false] at hl; cases hl), fun t h1 h2 => absurd h2 (by omega)⟩))
theorem SH.take (i : Nat) {oi : Oper} {v : Value} (hi : ops[i]? = some oi) (hB : thdB ops b listed i = true) (hQ : ∀ c a w, Q (.panic c) (a.put oi.dst v) w -> Q (.panic c) a w) (hS : S w) (hw : Region.wanted oi (yielded ops a.tmps) = true) (hy : ∀ w, S w -> (execOp a.eval oi).run P w = .ok (.value v) w)
  (h : SH P ops Q S b fuel (listed.setIfInBounds i true) (a.put oi.dst v) w) : SH P ops Q S b (fuel + 1) listed a w := by
 simp only [thdB, tkB, Bool.and_eq_true] at hB
 have hr : i ∈ Region.ready .any ops listed := by simpa using hB.1.2.2
 exact ⟨fun inv => wpAnyT_first hi (Region.noSelect_spec hB.1.1) (fun j h1 h2 => by have h3 := List.all_eq_true.1 hB.2 j (List.mem_range.2 h1); rw [h2, Bool.false_or] at h3; exact h3) hQ fuel listed a w inv (Region.free_spec hi hB.1.2.1) hr (.inl ⟨hw, hy⟩) hS (h.out (inv.set hr (Array.getElem?_eq_some_iff.1 hi).1))⟩
theorem SH.pure (i : Nat) {oi : Oper} {v : Value} (hi : ops[i]? = some oi) (hB : tkB ops listed i = true) (hb : b i = false) (hQ : ∀ c a w, Q (.panic c) (a.put oi.dst v) w -> Q (.panic c) a w) (hw : Region.wanted oi (yielded ops a.tmps) = true) (hy : ∀ w, (execOp a.eval oi).run P w = .ok (.value v) w)
  (h : SH P ops Q S b fuel (listed.setIfInBounds i true) (a.put oi.dst v) w) : SH P ops Q S b (fuel + 1) listed a w := by
 simp only [tkB, Bool.and_eq_true] at hB
 have hr : i ∈ Region.ready .any ops listed := by simpa using hB.2.2
 exact ⟨fun inv => wpAnyT_pure hi (Region.noSelect_spec hB.1) hb hQ fuel listed a w (Region.free_spec hi hB.2.1) hr (.inl ⟨hw, fun w _ => hy w⟩) (h.out (inv.set hr (Array.getElem?_eq_some_iff.1 hi).1))⟩
theorem SH.act (i : Nat) {oi : Oper} (hi : ops[i]? = some oi) (hr : Region.ready .any ops listed = [i])
  (h : ∀ K : Act -> World -> Prop, (∀ a2 w2, (b i = true -> S w2) -> SH P ops Q S b fuel (listed.setIfInBounds i true) a2 w2 -> K a2 w2) -> if Region.wanted oi (yielded ops a.tmps) = true then oi.wp P a w K Q else K (a.put oi.dst undef) w) : SH P ops Q S b (fuel + 1) listed a w := by
 refine ⟨fun inv => ⟨fun h0 => (by rw [hr] at h0; cases h0), fun j hj => ?_⟩⟩
 have hj0 := hj
 rw [hr] at hj
 obtain rfl : j = i := List.mem_singleton.1 hj
 have hK := h (fun a2 w2 => (b j = true -> S w2) /\ wpAnyT P ops Q S b fuel (listed.setIfInBounds j true) a2 w2) (fun a2 w2 hS h2 => ⟨hS, h2.out (inv.set hj0 (Array.getElem?_eq_some_iff.1 hi).1)⟩)
 unfold wpOp
 simp only [hi]
 split
 ·rename_i hw; rw [if_pos hw] at hK; exact .inl hK
 ·rename_i hw; rw [if_neg hw] at hK; exact hK
theorem SH.done (hr : Region.ready .any ops listed = []) (h : Q .normal a w) : SH P ops Q S b fuel listed a w := ⟨fun _ => by
 cases fuel with
 | zero => exact ⟨hr, h⟩
 | succ f => exact ⟨fun _ => h, fun i hi => by rw [hr] at hi; cases hi⟩⟩
end
section
variable {ops : Array Oper} {Q : Exit -> Act -> World -> Prop} {S : World -> Prop} {b : Nat -> Bool} {fuel : Nat} {listed : Array Bool} {a : Act} {w : World}
theorem SH.loadK (t : Nat) (i : Nat) {oi : Oper} (hi : ops[i]? = some oi) (hB : thdB ops b listed i = true) (x : Operand) (ho : oi.op = .load t x) (g : Nat) (hx : a.eval x = .pointer (some ⟨g, 0, none⟩)) (cs : Array Value) (hQ : ∀ c a w, Q (.panic c) (a.put oi.dst (.agg cs)) w -> Q (.panic c) a w) (hS : S w) (hw : Region.wanted oi (yielded ops a.tmps) = true) (hb : ∀ w, S w -> w.heap[g]? = some (.cells cs t (0, 0))) (hc : ∀ w : World, w.heap[g]? = some (.cells cs t (0, 0)) -> (loadVar t ⟨g, 0, none⟩).run Tryd.prog w = .ok (.agg cs) w)
  (h : SH Tryd.prog ops Q S b fuel (listed.setIfInBounds i true) (a.put oi.dst (.agg cs)) w) : SH Tryd.prog ops Q S b (fuel + 1) listed a w := by
 refine SH.take i hi hB hQ hS hw (fun w hw => ?_) h
 have hr := hc w (hb w hw)
 unfold execOp
 simp only [ho, hx, Instr.loadAt, Instr.sureAddr, Sem.run_bind, Sem.run_pure, Result.andThen_ok, hr]
theorem SH.storeT (i : Nat) {oi : Oper} (hi : ops[i]? = some oi) (hr : Region.ready .any ops listed = [i]) (t n : Nat) (hin : (Tryd.prog.info? t).map (·.size) = some n) (x y : Operand) (ho : oi.op = .store t x y) (hd : oi.dst = none) (hw : Region.wanted oi (yielded ops a.tmps) = true) (g : Nat) (hx : a.eval x = .pointer (some ⟨g, 0, none⟩)) (cs : Array Value) (hy : a.eval y = .agg cs) (zs : Array Value) (hb : w.heap[g]? = some (.cells zs t (0, 0))) (hz : zs.size = n) (hc : cs.size = n) (h1 : cs.all (·.oneCell') = true)
  (h : ∀ W2 : World, W2.heap[g]? = some (.cells cs t (0, 0)) -> Kp w W2 (fun k => k = g) -> (b i = true -> S W2) /\ SH Tryd.prog ops Q S b fuel (listed.setIfInBounds i true) a W2) : SH Tryd.prog ops Q S b (fuel + 1) listed a w := by
 refine SH.act i hi hr (fun K hK => ?_)
 rw [if_pos hw]
 refine wp_store_mid t x y ho g 0 cs hx hy (there_blk hb (by rw [hz, hc])) (by rw [hin, hc]) h1 ?_
 have e : a.put oi.dst undef = a := by rw [hd]; rfl
 rw [e]
 have hh := h (w.setCells g 0 cs.toList) (by
  obtain ⟨cur, h1, h2, h3⟩ := setCells_row cs.toList 0 w zs hb (by rw [Array.length_toList, hz, hc]; omega)
  have e2 : cur = cs := by
   apply Array.toList_inj.1
   rw [h3, List.take_zero, List.nil_append, List.drop_of_length_le (by rw [Array.length_toList, Array.length_toList, hz, hc]; omega), List.append_nil]
  rw [e2] at h1
  exact h1) (by
  obtain ⟨h1, h2, h3, h4⟩ := setCells_same g cs.toList 0 w
  exact ⟨h1, h2, h3, by rw [h4]; exact Nat.le_refl _, fun k _ hn => setCells_far _ _ k hn⟩)
 exact hK _ _ hh.1 hh.2
end
end
end Go.Proofs.YtjfleaekljapeaaDoor.K
