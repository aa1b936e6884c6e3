import Derived.Test.YtpfbloddhfphiaaK0
import Derived.Test.YtpfbloddhfphiaaScanW
import Derived.Deep.DeepMust
import Derived.Test.YtpfbloddhfphiaaProg
import Derived.Below
import Derived.Deep.Draws
import Derived.Deep.AppendLies
import Derived.Maps.AppendAt
import Derived.OwnWalk
import Derived.Laws.BytesArg
import Derived.Laws.MakeOwn
import Derived.Laws.OwnMore
import Derived.Deep.OwnRows
import Derived.Tactics
import Derived.Lib.ConvBytes
import Derived.Laws.Slices
import Derived.WalkKit
import Derived.KernelRfl
import Derived.RowKit3
import Derived.Deep.LoopGhost
import Derived.Deep.QuietTactic
import Derived.BigQuiet
import Derived.WideLaws
import Derived.Deep.DeepCutAuto
import Derived.Deep.CutBlock
import Derived.Deep.RegionHeld3
import Derived.Deep.MidRow
import Derived.Laws.Rows
import Derived.Lib.AppendStr
import Derived.ArgAppend
import Derived.Laws.IdiomCopy
import Derived.OrdersHeld
import Derived.Laws.BitsLemmas
import Derived.RowKit
import Derived.RegionTactic
import Derived.Deep.RegionWith
import Derived.Lib.Hide
import Derived.Test.YtpfbloddhfphiaaWWords
import Derived.Test.YtpfbloddhfphiaaWLast
import Derived.Test.YtpfbloddhfphiaaWTab
import Derived.Test.YtpfbloddhfphiaaWFour
import Derived.Test.YtpfbloddhfphiaaWQPut
import Derived.Test.YtpfbloddhfphiaaWApart
import Derived.Test.YtpfbloddhfphiaaWArr
import Derived.Test.YtpfbloddhfphiaaWZeros
import Derived.Test.YtpfbloddhfphiaaWFoot
import Derived.Test.YtpfbloddhfphiaaWKept
import Derived.Test.YtpfbloddhfphiaaWShare
import Derived.Test.YtpfbloddhfphiaaWN
import Derived.Test.YtpfbloddhfphiaaWEqStruct
import Derived.Test.YtpfbloddhfphiaaWRepsOne
import Derived.Test.YtpfbloddhfphiaaWGuard
import Derived.Test.YtpfbloddhfphiaaWNEv
import Derived.Test.YtpfbloddhfphiaaWMore
import Derived.Deep.RegionLaw
import Derived.Laws.CopyOwn
namespace Go.Proofs.Ytpfbloddhfphiaa.K
open Go.RowKit Go.Proofs.YtpfbloddhfphiaaW.PrintWords Go.Proofs.YtpfbloddhfphiaaW.PrintLast Go.Proofs.YtpfbloddhfphiaaW.PrintMore
attribute [local go_sem] max2_int min2_int max_two min_two max_three min_three max_four min_four   -- for this text's walks alone
set_option linter.unusedVariables false
set_option linter.unusedSimpArgs false
set_option linter.unusedSectionVars false
/-! ### hauberklaw16.spans: function 9, typed by hand -/
structure C45 where
  f0 : Int
  f1 : Int
def z45 : C45 := ⟨0, 0⟩
def k45 : Kd C45 := Kd.iso (Kd.pair (Kd.int .u8) (Kd.int .u8)) (fun x : C45 => (x.f0, x.f1))
theorem k45_open {w : World} {x : C45} {cs : List Value} (h : k45.K w x cs) : cs = [.int .u8 x.f0, .int .u8 x.f1] := by
  obtain ⟨_, _, rfl, rfl, rfl⟩ := h
  exact rfl
def rd45 (xs : List C45) (k : Nat) : C45 := xs.getD k z45
theorem at_45 {w : World} {A : Option Addr} {n : Nat} {xs : List C45} (h : Kd.C k45 w A n xs) (k : Nat) (h1 : k < n) : ∃ ad , A = some ad ∧ w.cell? (ad.add (k * 2)) = some (.int .u8 (rd45 xs k).f0) ∧ w.cell? ⟨(ad.add (k * 2)).block, (ad.add (k * 2)).off + 1, none⟩ = some (.int .u8 (rd45 xs k).f1) := by
  obtain ⟨ad, c, e, _, hK, hc0⟩ := Kd.C_get h z45 (k : Int) (by omega) (by omega)
  have hc : ∀ j u, c[j]? = some u → w.cell? (ad.add (k * 2 + j)) = some u := hc0
  obtain rfl := k45_open hK
  exact ⟨ad, e, hc 0 _ rfl, by rw [← add_field _ _ 1 (by omega)]; exact hc 1 _ rfl⟩
def spA (l : List C45) : List S35 := l.map fun x => ⟨x.f0, x.f1⟩
def spB (l : List C45) : List S34 := l.map fun x => ⟨x.f0, x.f1⟩
theorem spA_len (l : List C45) : (spA l).length = l.length := by simp [spA]
theorem spB_len (l : List C45) : (spB l).length = l.length := by simp [spB]
theorem info35 : (Try.prog.info? 35).map (fun i => (i.zero, i.size, i.bytes)) = some (some (.agg #[.int .i64 0, .int .i64 0]), 2, 16) := by kernel_rfl
theorem info34 : (Try.prog.info? 34).map (fun i => (i.zero, i.size, i.bytes)) = some (some (.agg #[.int .i64 0, .int .i64 0]), 2, 16) := by kernel_rfl
structure SpRows (w0 w : World) (va vb : Value) (l : List C45) : Prop where
  ha : Kd.R k35 35 w w0.heap.size (fun _ => True) va (spA l)
  hb : Kd.R k34 34 w w0.heap.size (fun _ => True) vb (spB l)
  hB : Below w0.heap.size w0 w
def SpansPost (l : List C45) (w : World) (e : Ending) (w' : World) : Prop := ∃ va vb, e = .returned (.tuple #[va, vb]) ∧ SpRows w w' va vb l
set_option maxHeartbeats 4000000 in
set_option maxRecDepth 100000 in
theorem spans_calls (l : List C45) (A0 : Option Addr) (c0 : Nat) (w : World) (hl : ∀ x ∈ l, (0 ≤ x.f0 ∧ x.f0 < 256) ∧ (0 ≤ x.f1 ∧ x.f1 < 256)) (hr0 : Kd.C k45 w A0 l.length l) (hc0 : l.length ≤ c0) (hlen : l.length ≤ 60) :
    Calls Try.prog 9 #[.slice A0 l.length c0] w (SpansPost l w) := by
  have hu35 := Try.underlying35
  have hu34 := Try.underlying34
  have hu45 := Try.underlying45
  have hu22 := Try.underlying22
  have HR := Aside0.mk hr0
  have HL := Aside0.mk hl
  have HC := Aside0.mk hc0
  have HLEN := Aside0.mk hlen
  have HS := Aside0.mk (show SpRows w w (.slice none 0 0) (.slice none 0 0) (l.take 0) from ⟨Kd.R_nil _ _ _ _ _, Kd.R_nil _ _ _ _ _, Below.refl _ _⟩)
  clear hr0 hl hc0 hlen
  go_enter Try.func9, Try.ntmps9
  go_wp2
  go_loopg [4, 5, 10] l.length (fun gg v4 v5 v10 w' => ∃ (i : Nat), i ≤ l.length ∧ l.length - i ≤ gg ∧ v10 = .int .i64 i ∧ Aside0 (SpRows w w' v4 v5 (l.take i)))
  case atStart => exact ⟨0, Nat.zero_le _, by omega, rfl, HS⟩
  case round =>
    clear HS
    obtain ⟨i, hi, hg, rfl, HS⟩ := hrel
    by_cases hlt : i < l.length
    · obtain ⟨ad, eA, hx0, hx1⟩ := at_45 HR.out i hlt
      cases eA
      replace hx0 := (HS.out.hB.cell (World.block_lt_of_cell? w _ hx0)).trans hx0
      replace hx1 := (HS.out.hB.cell (World.block_lt_of_cell? w _ hx1)).trans hx1
      have hm : rd45 l i ∈ l := by unfold rd45; rw [List.getD_eq_getElem?_getD, List.getElem?_eq_getElem hlt]; exact List.getElem_mem _
      obtain ⟨⟨b1, b2⟩, b3, b4⟩ := HL.out _ hm
      have HNA := Aside0.mk (show spA (l.take (i + 1)) = spA (l.take i) ++ [⟨(rd45 l i).f0, (rd45 l i).f1⟩] by
        unfold spA rd45
        rw [List.take_add_one, List.map_append, List.getElem?_eq_getElem hlt, List.getD_eq_getElem?_getD, List.getElem?_eq_getElem hlt]; rfl)
      have HNB := Aside0.mk (show spB (l.take (i + 1)) = spB (l.take i) ++ [⟨(rd45 l i).f0, (rd45 l i).f1⟩] by
        unfold spB rd45
        rw [List.take_add_one, List.map_append, List.getElem?_eq_getElem hlt, List.getD_eq_getElem?_getD, List.getElem?_eq_getElem hlt]; rfl)
      generalize rd45 l i = x at hx0 hx1 b1 b2 b3 b4 HNA HNB
      have hw0 : IntKind.i64.wrap x.f0 = x.f0 := by rw [IntKind.wrap_i64]; omega
      have hw1 : IntKind.i64.wrap x.f1 = x.f1 := by rw [IntKind.wrap_i64]; omega
      have hwi : IntKind.i64.wrap ((i : Int) + 1) = ((i + 1 : Nat) : Int) := by have := HLEN.out; rw [IntKind.wrap_i64]; omega
      have HLA := Aside0.mk (show (spA (l.take i)).length ≤ 60 by have := HLEN.out; rw [spA_len, List.length_take]; omega)
      have HLB := Aside0.mk (show (spB (l.take i)).length ≤ 60 by have := HLEN.out; rw [spB_len, List.length_take]; omega)
      have p0 : (0 : Int) ≤ (i : Int) := by omega
      have q0 : (i : Int) < (l.length : Int) := by omega
      have q0b : decide ((i : Int) < (l.length : Int)) = true := decide_eq_true q0
      clear hm b1 b2 b3 b4
      go_upto_region 6 with (fail)
      have HA := Aside0.mk (Kd.R_alloc HS.out.ha (.cells #[.int .u8 x.f0, .int .u8 x.f1] 45))
      have HBb := Aside0.mk (Kd.R_alloc HS.out.hb (.cells #[.int .u8 x.f0, .int .u8 x.f1] 45))
      have HB := Aside0.mk (HS.out.hB.alloc (below_size HS.out.hB) (.cells #[.int .u8 x.f0, .int .u8 x.f1] 45))
      have HG := Aside0.mk (heap_alloc_new wr (.cells #[.int .u8 x.f0, .int .u8 x.f1] 45))
      have g5E : ∃ g5, wr.heap.size = g5 := ⟨_, rfl⟩
      obtain ⟨g5, hg5⟩ := g5E
      rw [hg5] at HG ⊢
      clear hg5
      generalize wr.alloc (.cells #[.int .u8 x.f0, .int .u8 x.f1] 45) = wc at HA HBb HB HG ⊢
      have hy0 : wc.cell? ⟨g5, 0, none⟩ = some (.int .u8 x.f0) := (blk_cell HG.out 0).trans rfl
      have hy1 : wc.cell? ⟨g5, 1, none⟩ = some (.int .u8 x.f1) := (blk_cell HG.out 1).trans rfl
      clear HS hx0 hx1
      go_upto_region 7 with (first | ((with_reducible refine gate_builtin (b := .append) (xs := #[.tmp 14, .tmp 22]) rfl ?_); at_builtin; refine Kd.R_append k35 (w0 := w) w.heap.size rfl (.tmp 14) (.tmp 22) 24 35 (.agg #[.int .i64 0, .int .i64 0]) 16 rfl Try.underlying24 info35 rfl (by decide) (by omega) u4 (spA (l.take i)) ⟨x.f0, x.f1⟩ [.int .i64 x.f0, .int .i64 x.f1] (fun _ => True) (fun _ => False) rfl rfl ?aP (fun _ hk => hk.elim) ?aF ?aO ?aB ?aS ?aL ?_; (case aP => exact k35_mkM _ _ _ _); (case aB => exact HB.out); (case aF => exact (fun _ _ => trivial)); (case aO => exact HA.out); (case aS => exact below_size HB.out); (case aL => have := HLA.out; omega); intro v23 w23 ho hb hg hat; rw [← HNA.out] at ho; have HB2 := Aside0.mk hb; have HA2 := Aside0.mk ho; have HBb2 := Aside0.mk (Kd.R_over' HBb.out (Kd.R_typed HA.out) (by decide) hg); have HG2 := Aside0.mk (blk_grown HG.out hg (Kd.R_ne HA.out HG.out (by decide))); have hy0 := (blk_cell HG2.out 0).trans (show _ = some (Value.int .u8 x.f0) from rfl); have hy1 := (blk_cell HG2.out 1).trans (show _ = some (Value.int .u8 x.f1) from rfl); clear ho hb hg hat HA HB HBb HG))
      go_wp2_with (first | ((with_reducible refine gate_builtin (b := .append) (xs := #[.tmp 24, .tmp 32]) rfl ?_); at_builtin; refine Kd.R_append k34 (w0 := w) w.heap.size rfl (.tmp 24) (.tmp 32) 25 34 (.agg #[.int .i64 0, .int .i64 0]) 16 rfl Try.underlying25 info34 rfl (by decide) (by omega) u5 (spB (l.take i)) ⟨x.f0, x.f1⟩ [.int .i64 x.f0, .int .i64 x.f1] (fun _ => True) (fun _ => False) rfl rfl ?aP (fun _ hk => hk.elim) ?aF ?aO ?aB ?aS ?aL ?_; (case aP => exact k34_mkM _ _ _ _); (case aB => exact HB2.out); (case aF => exact (fun _ _ => trivial)); (case aO => exact HBb2.out); (case aS => exact below_size HB2.out); (case aL => have := HLB.out; omega); intro v33 w33 ho hb hg hat; rw [← HNB.out] at ho; have HS := Aside0.mk (SpRows.mk (Kd.R_over' HA2.out (Kd.R_typed HBb2.out) (by decide) hg) ho hb); clear ho hb hg hat HA2 HB2 HBb2 HG2 hy0 hy1))
      go_roundg (l.length - (i + 1))
      case measure => omega
      case rel => exact ⟨i + 1, by omega, Nat.le_refl _, rfl, HS⟩
    · obtain rfl : i = l.length := by omega
      have q0b : decide ((l.length : Int) < (l.length : Int)) = false := decide_eq_false (by omega)
      rw [List.take_length] at HS
      clear hlt hg hi
      go_wp2
      go_ret2
      exact ⟨_, _, rfl, HS.out⟩
end Go.Proofs.Ytpfbloddhfphiaa.K
