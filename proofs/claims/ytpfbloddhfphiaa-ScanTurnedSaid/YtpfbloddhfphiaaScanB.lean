import Derived.Test.YtpfbloddhfphiaaK0
import Derived.Test.YtpfbloddhfphiaaScanC
import Derived.Test.YtpfbloddhfphiaaScanI
import Derived.Deep.DeepMust
import Derived.Test.YtpfbloddhfphiaaProg
import Derived.Below
import Derived.Deep.Draws
import Derived.Deep.AppendLies
import Derived.Maps.AppendAt
import Derived.OwnWalk
import Derived.Laws.BytesArg
import Derived.Laws.MakeOwn
import Derived.Laws.OwnMore
import Derived.Deep.OwnRows
import Derived.Tactics
import Derived.Lib.ConvBytes
import Derived.Laws.Slices
import Derived.WalkKit
import Derived.KernelRfl
import Derived.RowKit3
import Derived.Deep.LoopGhost
import Derived.Deep.QuietTactic
import Derived.BigQuiet
import Derived.WideLaws
import Derived.Deep.DeepCutAuto
import Derived.Deep.CutBlock
import Derived.Deep.RegionHeld3
import Derived.Deep.MidRow
import Derived.Laws.Rows
import Derived.Lib.AppendStr
import Derived.ArgAppend
import Derived.Laws.IdiomCopy
import Derived.OrdersHeld
import Derived.Laws.BitsLemmas
import Derived.RowKit
import Derived.RegionTactic
import Derived.Deep.RegionWith
import Derived.Lib.Hide
import Derived.Test.YtpfbloddhfphiaaWWords
import Derived.Test.YtpfbloddhfphiaaWLast
import Derived.Test.YtpfbloddhfphiaaWTab
import Derived.Test.YtpfbloddhfphiaaWFour
import Derived.Test.YtpfbloddhfphiaaWQPut
import Derived.Test.YtpfbloddhfphiaaWApart
import Derived.Test.YtpfbloddhfphiaaWArr
import Derived.Test.YtpfbloddhfphiaaWZeros
import Derived.Test.YtpfbloddhfphiaaWFoot
import Derived.Test.YtpfbloddhfphiaaWKept
import Derived.Test.YtpfbloddhfphiaaWShare
import Derived.Test.YtpfbloddhfphiaaWN
import Derived.Test.YtpfbloddhfphiaaWEqStruct
import Derived.Test.YtpfbloddhfphiaaWRepsOne
import Derived.Test.YtpfbloddhfphiaaWGuard
import Derived.Test.YtpfbloddhfphiaaWNEv
import Derived.Test.YtpfbloddhfphiaaWMore
import Derived.Deep.RegionLaw
import Derived.Laws.CopyOwn
namespace Go.Proofs.Ytpfbloddhfphiaa.K
open Go.RowKit Go.Proofs.YtpfbloddhfphiaaW.PrintWords Go.Proofs.YtpfbloddhfphiaaW.PrintLast Go.Proofs.YtpfbloddhfphiaaW.PrintMore
attribute [local go_sem] max2_int min2_int max_two min_two max_three min_three max_four min_four   -- for this text's walks alone
set_option linter.unusedVariables false
set_option linter.unusedSimpArgs false
set_option linter.unusedSectionVars false
/-! ### slices.BinarySearchFunc over the places' own closure (20, with 21) -/
open Go.Shelf Go.Sort
def zs (l : List Nat) : List Int := List.map (α := Nat) (β := Int) (fun k => (k : Int)) l
theorem zs_len (l : List Nat) : (zs l).length = l.length := by simp [zs]
theorem sw_grown {α : Type} [Inhabited α] (enc : α → Value) (w : World) (blk off m : Nat) (dk : Array α) (os : Array Obj) : w.grownBy (sortWorld enc w blk off m dk os) (some blk) := by
  refine ⟨rfl, rfl, rfl, by simp [sortWorld, grow, putRow, mapBlock, Go.Sort.ahead], fun k hk hne => ?_⟩
  show ((Go.Sort.ahead w m).heap.modify blk _ ++ os)[k]? = _
  rw [Array.getElem?_append_left (by simpa [Go.Sort.ahead] using hk), Array.getElem?_modify, if_neg (fun e => hne (by rw [e]))]
  rfl
theorem Bx.keep {w w' : World} {b : Nat} {A : Option Addr} {c g : Nat} {l : List S35} (h : Bx w b A c l) (hg : w.grownBy w' (some g)) (hb : b ≠ g) (hA : ∀ a, A = some a → a.block ≠ g) : Bx w' b A c l :=
  ⟨(hg.block b (blk_lt h.box) (fun e => hb (by injection e))).trans h.box, by
    obtain ⟨h1, h2, h3⟩ := h.row
    refine ⟨h1, h2, fun hp => ?_⟩
    obtain ⟨ad, e, hc⟩ := h3 hp
    refine ⟨ad, e, fun j p hj => ?_⟩
    obtain ⟨cs, hl, hK, hcc⟩ := hc j p hj
    refine ⟨cs, hl, hK, fun i u hi => hg.cell (hcc i u hi) (fun he => ?_)⟩
    have hb2 : (ad.add (j * k35.sz + i)).block = ad.block := by unfold Addr.add; split <;> rfl
    rw [hb2] at he
    exact hA ad e (by injection he), h.le⟩
def fins (n : Nat) (act : List Nat) (h : ∀ k ∈ act, k < n) : List (Fin n) := act.pmap Fin.mk h
theorem fins_val (n : Nat) (act : List Nat) (h : ∀ k ∈ act, k < n) : (fins n act h).map Fin.val = act := by
  unfold fins
  rw [List.map_pmap]
  simp
theorem fins_len (n : Nat) (act : List Nat) (h : ∀ k ∈ act, k < n) : (fins n act h).length = act.length := by simp [fins]
def encF (n : Nat) (x : Fin n) : Value := .int .i64 (x.val : Int)
theorem fins_at (n : Nat) [Inhabited (Fin n)] (act : List Nat) (h : ∀ k ∈ act, k < n) (j : Nat) (hj : j < act.length) : ((fins n act h).toArray[j]!).val = act.getD j 0 := by
  have h1 : j < (fins n act h).toArray.size := by simpa [fins_len] using hj
  rw [getElem!_pos _ j h1]
  have : (fins n act h)[j]'(by rw [fins_len]; exact hj) = ⟨act[j], h _ (List.getElem_mem hj)⟩ := by simp [fins]
  rw [List.getElem_toArray, this, List.getD_eq_getElem?_getD, List.getElem?_eq_getElem hj]
  rfl
theorem fins_holds {w : World} {base blk off cap n : Nat} [Inhabited (Fin n)] {act : List Nat} (h : ∀ k ∈ act, k < n) {cur : Array Value} (hg : w.heap[blk]? = some (.cells cur 3 (0, 0))) (hx : (cur.toList.drop off).take act.length = encs (Value.int .i64) (zs act)) :
    Holds (encF n) w blk off (fins n act h).toArray := by
  intro j hj
  have hj2 : j < act.length := by simpa [fins_len] using hj
  refine ⟨?_, blk_frozen hg _⟩
  refine row_cells (cap := cap) hg hx j _ ?_
  unfold encF
  rw [fins_at n act h j hj2]
  simp [encs, zs, List.getD_eq_getElem?_getD, List.getElem?_eq_getElem hj2]
theorem bs_calls (base b : Nat) (A : Option Addr) (c : Nat) (l : List S35) (act : List Nat) (t : Int) (v : Value) (w : World) (H : Bx w b A c l) (hA : ∀ a, A = some a → a.block < base) (hb : b < base)
    (hQ : IQ w base v (zs act)) (hact : ∀ k ∈ act, k < l.length) (hl : act.length ≤ 1000) (hs : ∀ i j, i ≤ j → j < act.length → tt l (act.getD j 0) < t → tt l (act.getD i 0) < t) :
    Calls Try.prog 20 #[v, .int .i64 t, .func (.func 21) #[] #[.pointer (some ⟨b, 0, none⟩)]] w fun e w' =>
      (∃ f, e = .returned (.tuple #[.int .i64 ((act.countP (fun k => decide (tt l k < t)) : Nat) : Int), .bool f])) ∧ w.grownBy w' none := by
  obtain ⟨hlen, hr⟩ := iq_row hQ
  rw [zs_len] at hr
  rcases hr with ⟨h0, A', rfl, _⟩ | ⟨g, off, cap, cur, rfl, hbg, hg, hn, hm, hsz, hx⟩
  · obtain rfl : act = [] := List.eq_nil_of_length_eq_zero h0
    have h := Any.slices_BinarySearchFunc_none bsL A' 0 (.int .i64 t) (.func (.func 21) #[] #[.pointer (some ⟨b, 0, none⟩)]) w
    refine Calls.mono h ?_
    rintro e w' ⟨rfl, rfl⟩
    exact ⟨⟨false, rfl⟩, World.grownBy.refl _ _⟩
  · rw [Nat.mul_one] at hx hsz ⊢
    rw [Nat.mul_one] at hx
    by_cases ha0 : act.length = 0
    · obtain rfl : act = [] := List.eq_nil_of_length_eq_zero ha0
      have h := Any.slices_BinarySearchFunc_none bsL (some ⟨g, off, none⟩) cap (.int .i64 t) (.func (.func 21) #[] #[.pointer (some ⟨b, 0, none⟩)]) w
      refine Calls.mono h ?_
      rintro e w' ⟨rfl, rfl⟩
      exact ⟨⟨false, rfl⟩, World.grownBy.refl _ _⟩
    · have hpos : 0 < l.length := by
        have : act.getD 0 0 ∈ act := by rw [List.getD_eq_getElem?_getD, List.getElem?_eq_getElem (by omega : 0 < act.length)]; exact List.getElem_mem _
        have := hact _ this; omega
      letI : Inhabited (Fin l.length) := ⟨⟨0, hpos⟩⟩
      have hH : Holds (encF l.length) w g off (fins l.length act hact).toArray := fins_holds (base := base) (cap := cap) hact hg hx
      have hdz : (fins l.length act hact).toArray.size = act.length := by simp [fins_len]
      have h := Any.slices_BinarySearchFunc bsL (encF l.length) (fun _ => rfl) (.int .i64 t) (fun x => cpi (tt l x.val) t) 21 #[.pointer (some ⟨b, 0, none⟩)] g off cap (fins l.length act hact).toArray w
        (enters_of Try.func21 (by kernel_rfl) rfl) (fun m os dk hdk x => by
          have hk := H.keep (sw_grown (encF l.length) w g off m dk os) (by omega) (fun a ha => by have := hA a ha; omega)
          refine (cl21_calls x.val t _ b A c l hk x.isLt).mono ?_
          rintro e w' ⟨rfl, rfl⟩
          exact ⟨rfl, 0, #[], by rw [grow_empty]; rfl⟩) hH (blk_lt hg) (by rw [hdz]; omega) (fun i j hij hj h => by
          rw [hdz] at hj
          rw [fins_at _ _ _ _ hj] at h
          rw [fins_at _ _ _ _ (by omega)]
          rw [cpi_neg] at h ⊢
          exact hs i j hij hj h)
      rw [hdz] at h
      refine Calls.mono h ?_
      rintro e w' ⟨rfl, m, os, rfl⟩
      have hcnt : (fins l.length act hact).toArray.toList.countP (fun x => decide (cpi (tt l x.val) t < 0)) = act.countP (fun k => decide (tt l k < t)) := by
        have e1 : (fun x : Fin l.length => decide (cpi (tt l x.val) t < 0)) = (fun k => decide (tt l k < t)) ∘ Fin.val := by
          funext x
          simp only [Function.comp]
          rw [decide_eq_decide]
          exact cpi_neg _ _
        rw [e1, ← List.countP_map]
        show ((fins l.length act hact).map Fin.val).countP _ = _
        rw [fins_val]
      refine ⟨⟨_, by rw [hcnt]⟩, ?_⟩
      have e2 : sortWorld (encF l.length) w g off m (fins l.length act hact).toArray os = grow (Go.Sort.ahead w m) os := by
        unfold sortWorld
        rw [putRow_self _ _ _ _ _ (show Holds (encF l.length) (Go.Sort.ahead w m) g off _ from hH)]
      rw [e2]
      refine ⟨rfl, rfl, rfl, by simp [grow, Go.Sort.ahead], fun k hk _ => ?_⟩
      show (w.heap ++ os)[k]? = _
      rw [Array.getElem?_append_left hk]
end Go.Proofs.Ytpfbloddhfphiaa.K
