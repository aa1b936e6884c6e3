import Derived.Test.YtpfbloddhfphiaaK0
import Derived.Test.YtpfbloddhfphiaaScanB
import Derived.Deep.DeepMust
import Derived.Test.YtpfbloddhfphiaaProg
import Derived.Below
import Derived.Deep.Draws
import Derived.Deep.AppendLies
import Derived.Maps.AppendAt
import Derived.OwnWalk
import Derived.Laws.BytesArg
import Derived.Laws.MakeOwn
import Derived.Laws.OwnMore
import Derived.Deep.OwnRows
import Derived.Tactics
import Derived.Lib.ConvBytes
import Derived.Laws.Slices
import Derived.WalkKit
import Derived.KernelRfl
import Derived.RowKit3
import Derived.Deep.LoopGhost
import Derived.Deep.QuietTactic
import Derived.BigQuiet
import Derived.WideLaws
import Derived.Deep.DeepCutAuto
import Derived.Deep.CutBlock
import Derived.Deep.RegionHeld3
import Derived.Deep.MidRow
import Derived.Laws.Rows
import Derived.Lib.AppendStr
import Derived.ArgAppend
import Derived.Laws.IdiomCopy
import Derived.OrdersHeld
import Derived.Laws.BitsLemmas
import Derived.RowKit
import Derived.RegionTactic
import Derived.Deep.RegionWith
import Derived.Lib.Hide
import Derived.Test.YtpfbloddhfphiaaWWords
import Derived.Test.YtpfbloddhfphiaaWLast
import Derived.Test.YtpfbloddhfphiaaWTab
import Derived.Test.YtpfbloddhfphiaaWFour
import Derived.Test.YtpfbloddhfphiaaWQPut
import Derived.Test.YtpfbloddhfphiaaWApart
import Derived.Test.YtpfbloddhfphiaaWArr
import Derived.Test.YtpfbloddhfphiaaWZeros
import Derived.Test.YtpfbloddhfphiaaWFoot
import Derived.Test.YtpfbloddhfphiaaWKept
import Derived.Test.YtpfbloddhfphiaaWShare
import Derived.Test.YtpfbloddhfphiaaWN
import Derived.Test.YtpfbloddhfphiaaWEqStruct
import Derived.Test.YtpfbloddhfphiaaWRepsOne
import Derived.Test.YtpfbloddhfphiaaWGuard
import Derived.Test.YtpfbloddhfphiaaWNEv
import Derived.Test.YtpfbloddhfphiaaWMore
import Derived.Deep.RegionLaw
import Derived.Laws.CopyOwn
namespace Go.Proofs.Ytpfbloddhfphiaa.K
open Go.RowKit Go.Proofs.YtpfbloddhfphiaaW.PrintWords Go.Proofs.YtpfbloddhfphiaaW.PrintLast Go.Proofs.YtpfbloddhfphiaaW.PrintMore
attribute [local go_sem] max2_int min2_int max_two min_two max_three min_three max_four min_four   -- for this text's walks alone
set_option linter.unusedVariables false
set_option linter.unusedSimpArgs false
set_option linter.unusedSectionVars false
/-! ### slices.SortStableFunc over the places' own closure (17, 27, 33, with 18): rows of less than 20 -/
open Go.Shelf Go.Sort
def cfF (l : List S35) (x y : Fin l.length) : Int := cpi (ff l x.val) (ff l y.val)
theorem ltF (l : List S35) (x y : Fin l.length) : ltOf (cfF l) x y = decide (ff l x.val < ff l y.val) := by
  unfold ltOf cfF
  rw [decide_eq_decide]
  exact cpi_neg _ _
theorem swoF (l : List S35) : SWO (ltOf (cfF l)) :=
  ⟨fun x => by rw [ltF]; simp, fun x y z h1 h2 => by rw [ltF, decide_eq_true_eq] at *; omega, fun x y z h1 h2 => by rw [ltF, decide_eq_false_iff_not] at *; omega⟩
theorem lays18 {w : World} {base b g off : Nat} {A : Option Addr} {c : Nat} {l : List S35} [Inhabited (Fin l.length)] (size : Nat) (H : Bx w b A c l) (hA : ∀ a, A = some a → a.block < base) (hb : b < base) (hg : base ≤ g) :
    CmpLays1 Try.prog 18 #[.pointer (some ⟨b, 0, none⟩)] (encF l.length) (cfF l) g off size w := fun m os dk hdk x y => by
  have hk := H.keep (sw_grown (encF l.length) w g off m dk os) (by omega) (fun a ha => by have := hA a ha; omega)
  refine (cl18_calls x.val y.val _ b A c l hk x.isLt y.isLt).mono ?_
  rintro e w' ⟨rfl, q, rfl⟩
  exact ⟨rfl, q, #[], by rw [grow_empty]⟩
theorem eg18 : ∀ args w, (callFunc 18 args).run Try.prog w = .ok (.enter 18 args) w := enters_of Try.func18 (by kernel_rfl) rfl
def SrtPost {l : List S35} [Inhabited (Fin l.length)] (w : World) (g off : Nat) (d : Array (Fin l.length)) (e : Ending) (w' : World) : Prop :=
  e = .returned (.tuple #[]) ∧ ∃ d', PermIn 0 d.size d d' ∧ SortedIn (ltOf (cfF l)) 0 d.size d' ∧ SW (encF l.length) w g off d' w'
set_option maxHeartbeats 4000000 in
set_option maxRecDepth 100000 in
theorem stb_calls {w : World} {base b g off cap : Nat} {A : Option Addr} {c : Nat} {l : List S35} [Inhabited (Fin l.length)] (d : Array (Fin l.length)) (H : Bx w b A c l) (hA : ∀ a, A = some a → a.block < base) (hb : b < base) (hg : base ≤ g) (hlt : g < w.heap.size)
    (hH : Holds (encF l.length) w g off d) (hn : d.size < 20) :
    Calls Try.prog 27 #[.slice (some ⟨g, off, none⟩) d.size cap, .int .i64 (d.size : Int), .func (.func 18) #[] #[.pointer (some ⟨b, 0, none⟩)]] w (SrtPost w g off d) := by
  have h := Any.insertionSortCmpFunc_s isoL (encF l.length) (cfF l) 18 #[.pointer (some ⟨b, 0, none⟩)] g off cap 0 d.size d d w w eg18 (lays18 d.size H hA hb hg) ⟨fun _ => rfl, hH, hlt⟩ rfl (SW.start hH) (Nat.zero_le _) (Nat.le_refl _) (by omega)
  have hs := insertionSort_holds (lt := ltOf (cfF l)) (swoF l) d 0 d.size (Nat.zero_le _) (Nat.le_refl _)
  have hc : Aside0 (Calls Try.prog 33 #[.slice (some ⟨g, off, none⟩) d.size cap, .int .i64 0, .int .i64 (d.size : Int), .func (.func 18) #[] #[.pointer (some ⟨b, 0, none⟩)]] w (SrtPost w g off d)) :=
    ⟨Calls.mono h (fun e w' hh => ⟨hh.1, _, hs.1, hs.2, hh.2⟩)⟩
  clear h hs H hH
  generalize hN : d.size = N at *
  have n1 : ¬ ((20 : Int) ≤ (N : Int)) := by omega
  have n2 : ¬ ((20 : Int) < (N : Int)) := by omega
  go_enter Try.func27, Try.ntmps27
  go_wp2
  refine wp_loop_rounds 1 ?_
  rw [rounds_succ]
  go_wp2_with (first | (go_at_call 33; (with_reducible refine hc.out.mono ?_); rintro e w1 ⟨rfl, hp⟩; have HP := Aside0.mk hp; clear hp))
  refine wp_loop_rounds 1 ?_
  rw [rounds_succ]
  go_wp2
  subst hN
  refine bodyPost_ret (v := .tuple #[]) (by simp [results, Try.results27, go_sem]) rfl ⟨rfl, HP.out⟩
theorem sw_row {w w' : World} {g off cap n : Nat} [Inhabited (Fin n)] {d' : Array (Fin n)} {cur : Array Value} (hg : w.heap[g]? = some (.cells cur 3 (0, 0))) (hs : cur.size = off + cap) (hd : d'.size ≤ cap) (h : SW (encF n) w g off d' w') :
    ∃ cur', w'.heap[g]? = some (.cells cur' 3 (0, 0)) ∧ cur'.size = off + cap ∧ (cur'.toList.drop off).take d'.size = encs (Value.int .i64) (zs (d'.toList.map Fin.val)) := by
  obtain ⟨m, os, rfl⟩ := h
  refine ⟨putCells (encF n) off d' cur, ?_, by simp [putCells, hs], ?_⟩
  · show ((Go.Sort.ahead w m).heap.modify g _ ++ os)[g]? = _
    have hlt : g < w.heap.size := blk_lt hg
    rw [Array.getElem?_append_left (by simpa [Go.Sort.ahead] using hlt), Array.getElem?_modify, if_pos rfl]
    show Option.map _ w.heap[g]? = _
    rw [hg]
    rfl
  · refine List.ext_getElem? fun j => ?_
    by_cases hj : j < d'.size
    · rw [List.getElem?_take, if_pos hj, List.getElem?_drop, Array.getElem?_toList]
      have h1 : off + j < cur.size := by omega
      have h2 : d'[j]! = d'[j] := getElem!_pos d' j hj
      simp [putCells, encs, zs, h1, hj, h2, encF]
    · rw [List.getElem?_eq_none (by rw [List.length_take]; omega), List.getElem?_eq_none (by simp [encs, zs]; omega)]
theorem perm_of {n N : Nat} [Inhabited (Fin n)] {d d' : Array (Fin n)} (hN : d.size = N) (h : PermIn 0 N d d') : d'.toList.Perm d.toList := by
  have h1 := h.2.2
  have e1 : d.extract 0 N = d := by rw [← hN]; simp
  have e2 : d'.extract 0 N = d' := by rw [← hN, ← h.1]; simp
  rw [e1, e2] at h1
  exact h1
theorem sorted_of {l : List S35} [Inhabited (Fin l.length)] {d' : Array (Fin l.length)} (h : SortedIn (ltOf (cfF l)) 0 d'.size d') : (d'.toList.map Fin.val).Pairwise (fun a b => ff l a ≤ ff l b) := by
  rw [List.pairwise_map, List.pairwise_iff_getElem]
  intro i j hi hj hij
  rw [Array.length_toList] at hi hj
  have h1 := h i j (Nat.zero_le _) hij hj
  rw [ltF, decide_eq_false_iff_not, getElem!_pos d' i hi, getElem!_pos d' j hj] at h1
  rw [Array.getElem_toList, Array.getElem_toList]
  omega
def SrtDone (base : Nat) (l : List S35) (ord : List Nat) (v : Value) (w : World) (e : Ending) (w' : World) : Prop :=
  e = .returned (.tuple #[]) ∧ ∃ ord' : List Nat, ord'.Perm ord ∧ ord'.Pairwise (fun a b => ff l a ≤ ff l b) ∧ IQ w' base v (zs ord') ∧ w.grownBy w' v.ownBlock
set_option maxHeartbeats 4000000 in
set_option maxRecDepth 100000 in
theorem stb_none (A : Option Addr) (c : Nat) (fv : Value) (w : World) : Calls Try.prog 27 #[.slice A 0 c, .int .i64 0, fv] w fun e w' => e = .returned (.tuple #[]) ∧ w' = w := by
  have h33 : Calls Try.prog 33 #[.slice A 0 c, .int .i64 0, .int .i64 0, fv] w fun e w' => e = .returned (.tuple #[]) ∧ w' = w := by
    go_enter Try.func33, Try.ntmps33
    go_wp2
    refine wp_loop_rounds 1 ?_
    rw [rounds_succ]
    go_wp2
    refine bodyPost_end (v := .tuple #[]) (by simp [results, Try.results33, go_sem]) rfl ⟨rfl, rfl⟩
  go_enter Try.func27, Try.ntmps27
  go_wp2
  refine wp_loop_rounds 1 ?_
  rw [rounds_succ]
  go_wp2_with (first | (go_at_call 33; (with_reducible refine h33.mono ?_); rintro e w1 ⟨rfl, rfl⟩))
  refine wp_loop_rounds 1 ?_
  rw [rounds_succ]
  go_wp2
  refine bodyPost_end (v := .tuple #[]) (by simp [results, Try.results27, go_sem]) rfl ⟨rfl, rfl⟩
set_option maxHeartbeats 4000000 in
set_option maxRecDepth 100000 in
theorem srt_calls (base b : Nat) (A : Option Addr) (c : Nat) (l : List S35) (ord : List Nat) (v : Value) (w : World) (H : Bx w b A c l) (hA : ∀ a, A = some a → a.block < base) (hb : b < base)
    (hQ : IQ w base v (zs ord)) (hord : ∀ k ∈ ord, k < l.length) (hn : ord.length < 20) :
    Calls Try.prog 17 #[v, .func (.func 18) #[] #[.pointer (some ⟨b, 0, none⟩)]] w (SrtDone base l ord v w) := by
  have key : ∃ A' n c', v = .slice A' n c' ∧ n = ord.length ∧ Calls Try.prog 27 #[.slice A' n c', .int .i64 (n : Int), .func (.func 18) #[] #[.pointer (some ⟨b, 0, none⟩)]] w (SrtDone base l ord v w) := by
    obtain ⟨hlen, hr⟩ := iq_row hQ
    rw [zs_len] at hr
    have h0case : ∀ A' c', v = .slice A' 0 c' → ord.length = 0 → ∃ A' n c', v = .slice A' n c' ∧ n = ord.length ∧ Calls Try.prog 27 #[.slice A' n c', .int .i64 (n : Int), .func (.func 18) #[] #[.pointer (some ⟨b, 0, none⟩)]] w (SrtDone base l ord v w) := by
      rintro A' c' rfl h0
      obtain rfl : ord = [] := List.eq_nil_of_length_eq_zero h0
      refine ⟨A', 0, c', rfl, rfl, (stb_none A' c' _ w).mono ?_⟩
      rintro e w' ⟨rfl, rfl⟩
      exact ⟨rfl, [], List.Perm.refl _, List.Pairwise.nil, hQ, World.grownBy.refl _ _⟩
    rcases hr with ⟨h0, A', rfl, _⟩ | ⟨g, off, cap, cur, rfl, hbg, hg, hnc, hm, hsz, hx⟩
    · exact h0case A' 0 rfl h0
    · rw [Nat.mul_one] at hx hsz ⊢
      rw [Nat.mul_one] at hx
      by_cases h0 : ord.length = 0
      · refine Nat.mul_one off ▸ h0case (some ⟨g, off * 1, none⟩) cap ?_ h0
        rw [h0]
      · have hpos : 0 < l.length := by
          have : ord.getD 0 0 ∈ ord := by rw [List.getD_eq_getElem?_getD, List.getElem?_eq_getElem (by omega : 0 < ord.length)]; exact List.getElem_mem _
          have := hord _ this; omega
        letI : Inhabited (Fin l.length) := ⟨⟨0, hpos⟩⟩
        have hdz : (fins l.length ord hord).toArray.size = ord.length := by simp [fins_len]
        have hst := stb_calls (cap := cap) (fins l.length ord hord).toArray H hA hb hbg (blk_lt hg) (fins_holds (base := base) (cap := cap) hord hg hx) (by rw [hdz]; exact hn)
        rw [hdz] at hst
        refine ⟨some ⟨g, off, none⟩, ord.length, cap, rfl, rfl, hst.mono ?_⟩
        rintro e w' ⟨rfl, d', hp, hs, hS⟩
        have hd' : d'.size = ord.length := by rw [hp.1, hdz]
        obtain ⟨cur', h1, h2, h3⟩ := sw_row hg hsz (by rw [hd']; exact hnc) hS
        refine ⟨rfl, d'.toList.map Fin.val, ?_, sorted_of (by rw [hp.1]; exact hs), ?_, ?_⟩
        · have := (perm_of rfl hp).map Fin.val
          rw [List.toList_toArray, fins_val] at this
          exact this
        · have hzl : (zs (d'.toList.map Fin.val)).length = ord.length := by rw [zs_len, List.length_map, Array.length_toList, hd']
          rw [← hzl]
          refine iq_mk hbg h1 (by rw [hzl]; exact hnc) hm h2 ?_
          rw [hzl, ← hd']
          exact h3
        · obtain ⟨m, os, rfl⟩ := hS
          exact sw_grown _ w g off m d' os
  obtain ⟨A', n, c', rfl, hnl, hc⟩ := key
  clear hnl hord hn
  have HC := Aside0.mk hc
  clear H hQ hc
  go_enter Try.func17, Try.ntmps17
  go_wp2_with (first | (go_at_call 27; (with_reducible refine HC.out.mono ?_); rintro e w1 ⟨rfl, hp⟩; have HP := Aside0.mk hp; clear hp))
  refine bodyPost_ret (v := .tuple #[]) (by simp [results, Try.results17, go_sem]) rfl ⟨rfl, HP.out⟩
end Go.Proofs.Ytpfbloddhfphiaa.K
