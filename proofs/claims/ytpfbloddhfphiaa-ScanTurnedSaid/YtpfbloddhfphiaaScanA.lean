import Derived.Test.YtpfbloddhfphiaaK0
import Derived.Test.YtpfbloddhfphiaaK19
import Derived.Test.YtpfbloddhfphiaaScanW
import Derived.Deep.DeepMust
import Derived.Test.YtpfbloddhfphiaaProg
import Derived.Below
import Derived.Deep.Draws
import Derived.Deep.AppendLies
import Derived.Maps.AppendAt
import Derived.OwnWalk
import Derived.Laws.BytesArg
import Derived.Laws.MakeOwn
import Derived.Laws.OwnMore
import Derived.Deep.OwnRows
import Derived.Tactics
import Derived.Lib.ConvBytes
import Derived.Laws.Slices
import Derived.WalkKit
import Derived.KernelRfl
import Derived.RowKit3
import Derived.Deep.LoopGhost
import Derived.Deep.QuietTactic
import Derived.BigQuiet
import Derived.WideLaws
import Derived.Deep.DeepCutAuto
import Derived.Deep.CutBlock
import Derived.Deep.RegionHeld3
import Derived.Deep.MidRow
import Derived.Laws.Rows
import Derived.Lib.AppendStr
import Derived.ArgAppend
import Derived.Laws.IdiomCopy
import Derived.OrdersHeld
import Derived.Laws.BitsLemmas
import Derived.RowKit
import Derived.RegionTactic
import Derived.Deep.RegionWith
import Derived.Lib.Hide
import Derived.Test.YtpfbloddhfphiaaWWords
import Derived.Test.YtpfbloddhfphiaaWLast
import Derived.Test.YtpfbloddhfphiaaWTab
import Derived.Test.YtpfbloddhfphiaaWFour
import Derived.Test.YtpfbloddhfphiaaWQPut
import Derived.Test.YtpfbloddhfphiaaWApart
import Derived.Test.YtpfbloddhfphiaaWArr
import Derived.Test.YtpfbloddhfphiaaWZeros
import Derived.Test.YtpfbloddhfphiaaWFoot
import Derived.Test.YtpfbloddhfphiaaWKept
import Derived.Test.YtpfbloddhfphiaaWShare
import Derived.Test.YtpfbloddhfphiaaWN
import Derived.Test.YtpfbloddhfphiaaWEqStruct
import Derived.Test.YtpfbloddhfphiaaWRepsOne
import Derived.Test.YtpfbloddhfphiaaWGuard
import Derived.Test.YtpfbloddhfphiaaWNEv
import Derived.Test.YtpfbloddhfphiaaWMore
import Derived.Deep.RegionLaw
import Derived.Laws.CopyOwn
namespace Go.Proofs.Ytpfbloddhfphiaa.K
open Go.RowKit Go.Proofs.YtpfbloddhfphiaaW.PrintWords Go.Proofs.YtpfbloddhfphiaaW.PrintLast Go.Proofs.YtpfbloddhfphiaaW.PrintMore
attribute [local go_sem] max2_int min2_int max_two min_two max_three min_three max_four min_four   -- for this text's walks alone
set_option linter.unusedVariables false
set_option linter.unusedSimpArgs false
set_option linter.unusedSectionVars false
/-! ### hauberklaw16.awake: function 8, typed by hand -/
def awPost (w : World) (e : Ending) (w' : World) : Prop := e = .returned (.bool true) ∧ Below w.heap.size w w'
def awL : List S35 := [⟨0, 4⟩, ⟨1, 2⟩, ⟨3, 5⟩]
def awCells : List Value := [.int .i64 0, .int .i64 4, .int .i64 1, .int .i64 2, .int .i64 3, .int .i64 5]
theorem row_C {α : Type} {d : Kd α} {W : World} {g t : Nat} {cur : List Value} {xs : List α} (h : W.heap[g]? = some (.cells cur.toArray t (0, 0))) (hr : Reps (d.K W) d.sz xs cur) (hl : xs.length ≤ 9223372036854775807) : d.C W (some ⟨g, 0, none⟩) xs.length xs := by
  refine ⟨rfl, hl, fun _ => ⟨_, rfl, fun j p hj => ⟨(cur.drop (j * d.sz)).take d.sz, d.K_len (hr.2 j p hj), hr.2 j p hj, fun i u hi => ?_⟩⟩⟩
  have hi2 : i < d.sz := by have h1 := (List.getElem?_eq_some_iff.1 hi).1; rw [d.K_len (hr.2 j p hj)] at h1; exact h1
  rw [add_plain, blk_cell h, List.getElem?_toArray]
  rw [List.getElem?_take, if_pos hi2, List.getElem?_drop] at hi
  exact hi
theorem awC {W : World} {g : Nat} (h : W.heap[g]? = some (.cells awCells.toArray 35 (0, 0))) : Kd.C k35 W (some ⟨g, 0, none⟩) awL.length awL :=
  row_C h ⟨rfl, fun j p hj => by
    have hj3 : j < 3 := (List.getElem?_eq_some_iff.1 hj).1
    have : j = 0 ∨ j = 1 ∨ j = 2 := by omega
    rcases this with rfl | rfl | rfl
    · have e : (⟨0, 4⟩ : S35) = p := by simpa [awL] using hj
      subst e; exact k35_mk W ⟨0, 4⟩
    · have e : (⟨1, 2⟩ : S35) = p := by simpa [awL] using hj
      subst e; exact k35_mk W ⟨1, 2⟩
    · have e : (⟨3, 5⟩ : S35) = p := by simpa [awL] using hj
      subst e; exact k35_mk W ⟨3, 5⟩⟩ (by decide)
theorem rowI_C {W : World} {g : Nat} {xs : List Int} (h : W.heap[g]? = some (.cells (encs (Value.int .i64) xs).toArray 3 (0, 0))) (hl : xs.length ≤ 1000) : Kd.C (Kd.int .i64) W (some ⟨g, 0, none⟩) xs.length xs :=
  row_C (d := Kd.int .i64) h (Kd.reps_scalar xs) (by omega)
theorem aw_ord (ord : List Nat) (hp : ord.Perm (plOrd awL 3)) (hs : ord.Pairwise (fun a b => ff awL a ≤ ff awL b)) : ord = [0, 1, 2] := by
  have e : plOrd awL 3 = [0, 1, 2] := by decide +kernel
  rw [e] at hp
  have hl : ord.length = 3 := hp.length_eq
  match ord, hl with
  | [a, b, c], _ =>
    have ha : a ∈ [0, 1, 2] := hp.mem_iff.1 (by simp)
    have hb : b ∈ [0, 1, 2] := hp.mem_iff.1 (by simp)
    have hc : c ∈ [0, 1, 2] := hp.mem_iff.1 (by simp)
    have hn : [a, b, c].Nodup := hp.nodup_iff.2 (by decide)
    have f0 : ff awL 0 = 0 := rfl
    have f1 : ff awL 1 = 1 := rfl
    have f2 : ff awL 2 = 3 := rfl
    simp only [List.mem_cons, List.not_mem_nil, or_false] at ha hb hc
    simp only [List.nodup_cons, List.mem_cons, List.not_mem_nil, or_false, not_or] at hn
    simp only [List.pairwise_cons, List.mem_cons, List.not_mem_nil, or_false] at hs
    have h1 := hs.1 b (.inl rfl)
    have h2 := hs.1 c (.inr rfl)
    have h3 := hs.2.1 c rfl
    rcases ha with rfl | rfl | rfl <;> rcases hb with rfl | rfl | rfl <;> rcases hc with rfl | rfl | rfl <;> first | rfl | (exfalso; rw [f0, f1] at h1; omega) | (exfalso; omega) | (exfalso; simp_all)
theorem aw_run : (plRun awL 1 [0, 1, 2]).out = [-1, 0, 0] := by decide +kernel
theorem aw_good : scan_Good.f 10000 awL [-1, 0, 0] 1 = some true := by decide +kernel
theorem aw_bad : scan_Good.f 10000 awL [0, 0, -1] 1 = some false := by decide +kernel
def AwP (w : World) (e : Ending) (w1 : World) : Prop := ∃ go, e = .returned (.tuple #[.slice (some ⟨go, 0, none⟩) 3 3, .int .i64 0]) ∧ w1.heap[go]? = some (.cells #[.int .i64 (-1), .int .i64 0, .int .i64 0] 3 (0, 0)) ∧ w1.heap[w.heap.size]? = some (.cells awCells.toArray 35 (0, 0)) ∧ Below w.heap.size w w1
theorem aw_places (w : World) : Calls Try.prog 10 #[.slice (some ⟨w.heap.size, 0, none⟩) 3 3, .int .i64 1] (w.alloc (.cells #[.int .i64 0, .int .i64 4, .int .i64 1, .int .i64 2, .int .i64 3, .int .i64 5] 35)) (AwP w) := by
  refine Calls.mono (places_calls (some ⟨w.heap.size, 0, none⟩) 3 awL 1 (w.alloc (.cells awCells.toArray 35)) (awC (heap_alloc_new w _)) (by decide) (fun a ha => by injection ha with ha; subst ha; simp) (by decide) (by decide)) ?_
  rintro e w1 ⟨ord, go, hp, hs, rfl, ho, hlo, hb⟩
  obtain rfl := aw_ord ord hp hs
  rw [aw_run] at ho
  exact ⟨go, rfl, ho, (hb.block _ (by simp)).trans (heap_alloc_new w _), below_step ((Below.refl w.heap.size w).alloc (Nat.le_refl _) _) hb⟩
set_option maxHeartbeats 8000000 in
set_option maxRecDepth 100000 in
theorem awake_calls (w : World) : Calls Try.prog 8 #[] w (awPost w) := by
  have hu35 := Try.underlying35
  have hu28 := Try.underlying28
  have hu24 := Try.underlying24
  go_enter Try.func8, Try.ntmps8
  go_upto_region 3 with (first | (go_at_call 10; (with_reducible refine (aw_places w).mono ?_); rintro e w1 ⟨go, rfl, ho, hg, hb⟩; have HO := Aside0.mk ho; have HG := Aside0.mk hg; have HB := Aside0.mk hb; clear ho hg hb))
  have c0 : w1.cell? ⟨go, 0, none⟩ = some (.int .i64 (-1)) := (blk_cell HO.out 0).trans rfl
  have c1 : w1.cell? ⟨go, 1, none⟩ = some (.int .i64 0) := (blk_cell HO.out 1).trans rfl
  have c2 : w1.cell? ⟨go, 2, none⟩ = some (.int .i64 0) := (blk_cell HO.out 2).trans rfl
  have H1 : Aside0 (Calls Try.prog 12 #[.slice (some ⟨w.heap.size, 0, none⟩) 3 3, .slice (some ⟨go, 0, none⟩) 3 3, .int .i64 1] w1 fun e w' => e = .returned (.bool true) ∧ Below w1.heap.size w1 w') :=
    ⟨scan_Good.calls 10000 (some ⟨w.heap.size, 0, none⟩) 3 awL (some ⟨go, 0, none⟩) 3 [-1, 0, 0] 1 true w1 (awC HG.out) (by decide) (rowI_C (xs := [-1, 0, 0]) HO.out (by decide)) (by decide) aw_good⟩
  have H2 : Aside0 (∀ w2, Below w1.heap.size w1 w2 → Calls Try.prog 12 #[.slice (some ⟨w.heap.size, 0, none⟩) 3 3, .slice (some ⟨w2.heap.size, 0, none⟩) 3 3, .int .i64 1] (w2.alloc (.cells #[.int .i64 0, .int .i64 0, .int .i64 (-1)] 3)) fun e w' => e = .returned (.bool false) ∧ Below (w2.alloc (.cells #[.int .i64 0, .int .i64 0, .int .i64 (-1)] 3)).heap.size (w2.alloc (.cells #[.int .i64 0, .int .i64 0, .int .i64 (-1)] 3)) w') :=
    ⟨fun w2 hb => scan_Good.calls 10000 (some ⟨w.heap.size, 0, none⟩) 3 awL (some ⟨w2.heap.size, 0, none⟩) 3 [0, 0, -1] 1 false _ (awC (lv_al ((hb.block _ (blk_lt HG.out)).trans HG.out) _)) (by decide) (rowI_C (xs := [0, 0, -1]) (heap_alloc_new w2 _) (by decide)) (by decide) aw_bad⟩
  clear HO HG
  go_wp2_with (first | (go_at_call 12; first | ((with_reducible refine H1.out.mono ?_); rintro e w2 ⟨rfl, hb⟩; have HB2 := Aside0.mk hb; have HB3 := Aside0.mk (below_step HB.out hb); clear hb) | ((with_reducible refine (H2.out _ HB2.out).mono ?_); rintro e w3 ⟨rfl, hb⟩; have HB4 := Aside0.mk (below_step (HB3.out.alloc (below_size HB3.out) _) hb); clear hb)))
  go_ret
  exact ⟨rfl, HB4.out⟩
end Go.Proofs.Ytpfbloddhfphiaa.K
