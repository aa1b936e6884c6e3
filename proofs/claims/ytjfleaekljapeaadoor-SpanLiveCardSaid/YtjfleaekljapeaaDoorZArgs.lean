import Derived.Test.YtjfleaekljapeaaDoorZFlow
import Derived.Test.YtjfleaekljapeaaDoorZOpen
import Derived.Test.YtjfleaekljapeaaDoorRows
import Derived.Deep.DeepMust
import Derived.Test.YtjfleaekljapeaaDoorProg
import Derived.Below
import Derived.Deep.Draws
import Derived.Deep.AppendLies
import Derived.Maps.AppendAt
import Derived.OwnWalk
import Derived.Laws.BytesArg
import Derived.Laws.MakeOwn
import Derived.Laws.OwnMore
import Derived.Deep.OwnRows
import Derived.Tactics
import Derived.Lib.ConvBytes
import Derived.Laws.Slices
import Derived.WalkKit
import Derived.KernelRfl
import Derived.RowKit3
import Derived.Deep.LoopGhost
import Derived.Deep.QuietTactic
import Derived.BigQuiet
import Derived.WideLaws
import Derived.Deep.DeepCutAuto
import Derived.Deep.CutBlock
import Derived.Deep.RegionHeld3
import Derived.LaidMore
import Derived.OpenShut
import Derived.ProofKit
import Derived.Stop.Joined
import Derived.Laws.Rows
import Derived.Lib.AppendStr
import Derived.ArgAppend
import Derived.Laws.IdiomCopy
import Derived.OrdersHeld
import Derived.Laws.BitsLemmas
import Derived.RowKit
import Derived.RegionTactic
import Derived.Deep.RegionWith
import Derived.Lib.Hide
import Derived.Test.YtjfleaekljapeaaDoorWWords
import Derived.Test.YtjfleaekljapeaaDoorWLast
import Derived.Test.YtjfleaekljapeaaDoorWTab
import Derived.Test.YtjfleaekljapeaaDoorWFour
import Derived.Test.YtjfleaekljapeaaDoorWQPut
import Derived.Test.YtjfleaekljapeaaDoorWApart
import Derived.Test.YtjfleaekljapeaaDoorWArr
import Derived.Test.YtjfleaekljapeaaDoorWZeros
import Derived.Test.YtjfleaekljapeaaDoorWFoot
import Derived.Test.YtjfleaekljapeaaDoorWKept
import Derived.Test.YtjfleaekljapeaaDoorWShare
import Derived.Test.YtjfleaekljapeaaDoorWN
import Derived.Test.YtjfleaekljapeaaDoorWEqStruct
import Derived.Test.YtjfleaekljapeaaDoorWRepsOne
import Derived.Test.YtjfleaekljapeaaDoorWGuard
import Derived.Test.YtjfleaekljapeaaDoorWNEv
import Derived.Test.YtjfleaekljapeaaDoorWMore
import Derived.Deep.RegionLaw
import Derived.Laws.CopyOwn
import Derived.Shelf.Spec.TrailingZeros
import Derived.Deep.MidRow
import Derived.Laws.BitsAllLaws
namespace Go.Proofs.YtjfleaekljapeaaDoor.K
open Go.RowKit Go.Proofs.YtjfleaekljapeaaDoorW.PrintWords Go.Proofs.YtjfleaekljapeaaDoorW.PrintLast Go.Proofs.YtjfleaekljapeaaDoorW.PrintMore
attribute [local go_sem] max2_int min2_int max_two min_two max_three min_three max_four min_four   -- for this text's walks alone
set_option linter.unusedVariables false
set_option linter.unusedSimpArgs false
set_option linter.unusedSectionVars false
/-! ### What the table's variable gives a walk; two-cell arrays, opened -/
open Go.ChangeShapes Go.WideShapes Go.ChangeAt Go.RowKit Go.Proofs.YtjfleaekljapeaaDoor.Open
theorem gTab : Tryd.prog.globalNamed "math/bits.deBruijn64tab" = some 0 := by kernel_rfl
theorem tTab : (Tryd.prog.globals[0]?).map (·.type) = some 118 := by kernel_rfl
def laidT : List (String × DataW Unit) := [("math/bits.deBruijn64tab", Rows.laid_math_bits_deBruijn64tab)]
theorem door_met (os : Os) (args : Array Value) : laidMetH Tryd.prog laidT ((World.doorLaid Tryd.prog 400 os).forCall (fun _ _ => 0) ⟨#[], args, []⟩).memory :=
  laidMetH_of_parts3 (fuel := 8) (laidMet_of_run' 8 (by kernel_rfl) (by kernel_rfl)) (by kernel_rfl) (by kernel_rfl)
theorem tab_datum : (Rows.laid_math_bits_deBruijn64tab : DataW Unit) = .agg (Lib.deBruijn64tab.map fun k => .lit (.int .u8 (k : Nat))) := by rfl
set_option maxRecDepth 100000 in
theorem of_laid {W : World} (h : laidMetH Tryd.prog laidT W) : TzTab W ∧ 0 < W.heap.size := by
  have key : TzTab W := by
    rw [MakeChecks.laidMetH_plain _ _ _ (by kernel_rfl)] at h
    obtain ⟨ps, ⟨g0, t0, cs0, f0, p0, q0, hg0, ht0, hv0, hd0, _, _⟩, _, _⟩ := h
    obtain rfl := Option.some.inj (gTab.symm.trans hg0)
    obtain rfl := Option.some.inj (tTab.symm.trans ht0)
    obtain ⟨xs, m, _, hx, hlen, hn, hel⟩ := DataW.trod_array Tryd.underlying118 hd0
    have c1 : Tryd.prog.cellsOf 5 = 1 := by kernel_rfl
    have c64 : Tryd.prog.cellsOf 118 = 64 := by kernel_rfl
    rw [c64] at hlen
    intro j hj
    have hj64 : j < 64 := hj
    have h0 := hel j hj64
    rw [c1] at h0
    have hx1 : (Rows.laid_math_bits_deBruijn64tab : DataW Unit) = .agg (xs.map (·.1)) := by
      have := congrArg Prod.fst hx
      exact this
    rw [tab_datum] at hx1
    have hl := (DataW.agg.inj hx1)
    have hjx : j < xs.length := by omega
    rw [List.getElem?_eq_getElem hjx] at h0
    obtain ⟨k, e1, e2, _⟩ := DataW.trod_int Tryd.underlying5 h0
    have e3 : (xs.map (·.1))[j]? = some (.lit (.int .u8 k)) := by rw [List.getElem?_map, List.getElem?_eq_getElem hjx, e2]; rfl
    rw [← hl, List.getElem?_map] at e3
    have hjl : j < Lib.deBruijn64tab.length := hj
    rw [List.getElem?_eq_getElem hjl] at e3
    have e4 : ((Lib.deBruijn64tab[j] : Nat) : Int) = k := by simpa using e3
    have hv := World.var?_cell hg0 hv0 j
    rw [hv]
    have hcj : j < cs0.toList.length := by omega
    have e5 : cs0.toList[j]? = some (.int .u8 k) := by
      have : (cs0.toList.drop (j * 1)).take 1 = [cs0.toList[j]] := by
        rw [Nat.mul_one, List.drop_eq_getElem_cons hcj]; rfl
      rw [this] at e1
      rw [List.getElem?_eq_getElem hcj]
      simpa using e1
    rw [← Array.getElem?_toList, e5, ← e4]
    congr 2
    rw [List.getD_eq_getElem?_getD, List.getElem?_eq_getElem hjl]; rfl
  refine ⟨key, ?_⟩
  have := World.block_lt_of_cell? W ⟨0, 0, none⟩ (key 0 (by decide))
  exact this
theorem okWide_arr {P : Program} {w : World} {r : Reach} {base : Nat} {t : TypeId} {v : Value} {n : Nat} {e : TypeId} (ht : P.underlying t = some (.array n e)) (h : Value.okWide P w r base t v) : ∃ cs, v = .agg cs ∧ cs.size = P.cellsOf t := by
  simp only [Value.okWide, ht] at h
  obtain ⟨cs, h1, h2, _⟩ := h
  exact ⟨cs, h1, h2⟩
theorem opens_array2 {P : Program} {t e : TypeId} {α : Type} {d : Kd α} {G : α → Prop} (ht : P.underlying t = some (.array 2 e)) (hs : P.cellsOf e = 1) (hc : P.cellsOf t = 2) (h : Opens P e d G) :
    Opens P t (Kd.pair d d) (fun p => G p.1 ∧ G p.2) := by
  intro H enc w base spare held fuel cs x hx
  obtain ⟨xs, m, _, _, hl, hn, hf⟩ := DataW.trod_array ht hx
  rw [hc] at hl
  obtain ⟨c0, c1, rfl⟩ : ∃ a b, cs = [a, b] := by
    match cs, hl with
    | [a, b], _ => exact ⟨a, b, rfl⟩
  obtain ⟨x0, x1, rfl⟩ : ∃ a b, xs = [a, b] := by
    match xs, hn with
    | [a, b], _ => exact ⟨a, b, rfl⟩
  have h0 := hf 0 (by decide)
  have h1 := hf 1 (by decide)
  rw [hs] at h0 h1
  obtain ⟨y0, k0, g0⟩ := h enc w base spare held m _ x0 h0
  obtain ⟨y1, k1, g1⟩ := h enc w base spare held m _ x1 h1
  exact ⟨(y0, y1), ⟨[c0], [c1], rfl, k0, k1⟩, g0, g1⟩
theorem wf_i8 {a : Int} (h : (Lit.int .i8 a).wf = true) : -128 ≤ a ∧ a ≤ 127 := by
  simp [Lit.wf, IntKind.min, IntKind.max, IntKind.signed, IntKind.bits] at h
  omega
theorem wf_u8 {a : Int} (h : (Lit.int .u8 a).wf = true) : 0 ≤ a ∧ a < 256 := by
  simp [Lit.wf, IntKind.min, IntKind.max, IntKind.signed, IntKind.bits] at h
  omega
structure C47 where
  f0 : Int
  f1 : Int
def k47 : Kd C47 := Kd.iso (Kd.pair (Kd.int .i8) (Kd.int .i8)) (fun x : C47 => (x.f0, x.f1))
theorem k47_open {w : World} {x : C47} {cs : List Value} (h : k47.K w x cs) : cs = [.int .i8 x.f0, .int .i8 x.f1] := by
  obtain ⟨_, _, rfl, rfl, rfl⟩ := h
  exact rfl
theorem opens47 : Opens Tryd.prog 47 k47 (fun x => (-128 ≤ x.f0 ∧ x.f0 ≤ 127) ∧ (-128 ≤ x.f1 ∧ x.f1 ≤ 127)) :=
  opens_iso (fun x : C47 => (x.f0, x.f1)) (fun p => ⟨p.1, p.2⟩) (fun _ => rfl) (Opens.imp (opens_array2 Tryd.underlying47 (by kernel_rfl) (by kernel_rfl) (opens_int Tryd.underlying46)) (fun p h => ⟨wf_i8 h.1, wf_i8 h.2⟩))
end Go.Proofs.YtjfleaekljapeaaDoor.K
namespace Go.Proofs.YtjfleaekljapeaaDoor.K
open Go.RowKit Go.Proofs.YtjfleaekljapeaaDoorW.PrintWords Go.Proofs.YtjfleaekljapeaaDoorW.PrintLast Go.Proofs.YtjfleaekljapeaaDoorW.PrintMore
attribute [local go_sem] max2_int min2_int max_two min_two max_three min_three max_four min_four   -- for this text's walks alone
set_option linter.unusedVariables false
set_option linter.unusedSimpArgs false
set_option linter.unusedSectionVars false
/-! ### how a function reads, each list of a size that may be -/
open Go.ChangeShapes Go.WideShapes Go.ChangeAt Go.RowKit Go.Proofs.YtjfleaekljapeaaDoor.Open
theorem opens22 : Opens Tryd.prog 22 (Kd.slice 3 (Kd.int .i64)) (fun _ => True) :=
  Opens.imp (opens_slice Tryd.underlying22 (by kernel_rfl) (opens_int Tryd.underlying3)) (fun _ _ => trivial)
theorem zopens22 : OpensZ Tryd.prog 22 (Kd.slice 3 (Kd.int .i64)) (fun l => l.length ≤ 17592186043904) :=
  OpensZ.imp (zopens_slice (b := 8) Tryd.underlying22 (by kernel_rfl) (by kernel_rfl) (OpensZ.of (opens_int Tryd.underlying3))) (fun x h => by
    have := h.1
    unfold reachBytes at this
    omega)
theorem zopens44 : OpensZ Tryd.prog 44 k44 (fun x => x.f7.length ≤ 17592186043904) :=
  zopens_iso (fun x : S44 => (x.f0, x.f1, x.f2, x.f3, x.f4, x.f5, x.f6, x.f7, x.f8, x.f9)) (fun p => ⟨p.1, p.2.1, p.2.2.1, p.2.2.2.1, p.2.2.2.2.1, p.2.2.2.2.2.1, p.2.2.2.2.2.2.1, p.2.2.2.2.2.2.2.1, p.2.2.2.2.2.2.2.2.1, p.2.2.2.2.2.2.2.2.2⟩) (fun _ => rfl)
    (OpensZ.imp (zopens_struct Tryd.underlying44 (by kernel_rfl)
      (zopensFs_cons rfl (by kernel_rfl) (OpensZ.of (opens_int Tryd.underlying3))
      (zopensFs_cons rfl (by kernel_rfl) (OpensZ.of (opens_int Tryd.underlying3))
      (zopensFs_cons rfl (by kernel_rfl) (OpensZ.of (opens_int Tryd.underlying3))
      (zopensFs_cons rfl (by kernel_rfl) (OpensZ.of (opens_int Tryd.underlying3))
      (zopensFs_cons rfl (by kernel_rfl) (OpensZ.of (opens_int Tryd.underlying42))
      (zopensFs_cons rfl (by kernel_rfl) (OpensZ.of (opens_int Tryd.underlying3))
      (zopensFs_cons rfl (by kernel_rfl) (OpensZ.of (opens_string Tryd.underlying9))
      (zopensFs_cons rfl (by kernel_rfl) zopens22
      (zopensFs_cons rfl (by kernel_rfl) zopens22
      (zopensFs_one rfl (by kernel_rfl) (OpensZ.of (opens_int Tryd.underlying3))))))))))))) (fun p h => h.2.2.2.2.2.2.2.1))
theorem zopens25 : OpensZ Tryd.prog 25 k25 (fun x => ∀ i ∈ x.f4, i.f7.length ≤ 17592186043904) :=
  zopens_iso (fun x : S25 => (x.f0, x.f1, x.f2, x.f3, x.f4)) (fun p => ⟨p.1, p.2.1, p.2.2.1, p.2.2.2.1, p.2.2.2.2⟩) (fun _ => rfl)
    (OpensZ.imp (zopens_struct Tryd.underlying25 (by kernel_rfl)
      (zopensFs_cons rfl (by kernel_rfl) (OpensZ.of (opens_string Tryd.underlying9))
      (zopensFs_cons rfl (by kernel_rfl) zopens22
      (zopensFs_cons rfl (by kernel_rfl) zopens22
      (zopensFs_cons rfl (by kernel_rfl) zopens22
      (zopensFs_one rfl (by kernel_rfl) (zopens_slice (b := 120) Tryd.underlying23 (by kernel_rfl) (by kernel_rfl) zopens44))))))) (fun p h => h.2.2.2.2.2))
theorem fit_of {H : Type} {P : Program} {ts : List TypeId} {ds : List (DataW H)} (h : (DataW.weightsEach P ts ds).all (· ≤ reachBytes) = true) {j : Nat} {t : TypeId} {d : DataW H} (ht : ts[j]? = some t) (hd : ds[j]? = some d) : Fit P t d := by
  intro n hn
  have := List.all_eq_true.1 h n (DataW.weights_mem_each ht hd n hn)
  simpa using this
theorem args_at {code : List S44} (h : ∀ i ∈ code, i.f7.length ≤ 17592186043904) : ∀ n : Nat, n < code.length → (rd_T44 code n).f7.length ≤ 17592186043904 := by
  intro n hn
  unfold rd_T44
  rw [Int.toNat_natCast, List.getD_eq_getElem?_getD, List.getElem?_eq_getElem hn]
  exact h _ (List.getElem_mem hn)
end Go.Proofs.YtjfleaekljapeaaDoor.K
