import Derived.Test.YtpfbloddhfphiaaK0
import Derived.Test.YtpfbloddhfphiaaScanS
import Derived.Deep.DeepMust
import Derived.Test.YtpfbloddhfphiaaProg
import Derived.Below
import Derived.Deep.Draws
import Derived.Deep.AppendLies
import Derived.Maps.AppendAt
import Derived.OwnWalk
import Derived.Laws.BytesArg
import Derived.Laws.MakeOwn
import Derived.Laws.OwnMore
import Derived.Deep.OwnRows
import Derived.Tactics
import Derived.Lib.ConvBytes
import Derived.Laws.Slices
import Derived.WalkKit
import Derived.KernelRfl
import Derived.RowKit3
import Derived.Deep.LoopGhost
import Derived.Deep.QuietTactic
import Derived.BigQuiet
import Derived.WideLaws
import Derived.Deep.DeepCutAuto
import Derived.Deep.CutBlock
import Derived.Deep.RegionHeld3
import Derived.Deep.MidRow
import Derived.Laws.Rows
import Derived.Lib.AppendStr
import Derived.ArgAppend
import Derived.Laws.IdiomCopy
import Derived.OrdersHeld
import Derived.Laws.BitsLemmas
import Derived.RowKit
import Derived.RegionTactic
import Derived.Deep.RegionWith
import Derived.Lib.Hide
import Derived.Test.YtpfbloddhfphiaaWWords
import Derived.Test.YtpfbloddhfphiaaWLast
import Derived.Test.YtpfbloddhfphiaaWTab
import Derived.Test.YtpfbloddhfphiaaWFour
import Derived.Test.YtpfbloddhfphiaaWQPut
import Derived.Test.YtpfbloddhfphiaaWApart
import Derived.Test.YtpfbloddhfphiaaWArr
import Derived.Test.YtpfbloddhfphiaaWZeros
import Derived.Test.YtpfbloddhfphiaaWFoot
import Derived.Test.YtpfbloddhfphiaaWKept
import Derived.Test.YtpfbloddhfphiaaWShare
import Derived.Test.YtpfbloddhfphiaaWN
import Derived.Test.YtpfbloddhfphiaaWEqStruct
import Derived.Test.YtpfbloddhfphiaaWRepsOne
import Derived.Test.YtpfbloddhfphiaaWGuard
import Derived.Test.YtpfbloddhfphiaaWNEv
import Derived.Test.YtpfbloddhfphiaaWMore
import Derived.Deep.RegionLaw
import Derived.Laws.CopyOwn
namespace Go.Proofs.Ytpfbloddhfphiaa.K
open Go.RowKit Go.Proofs.YtpfbloddhfphiaaW.PrintWords Go.Proofs.YtpfbloddhfphiaaW.PrintLast Go.Proofs.YtpfbloddhfphiaaW.PrintMore
attribute [local go_sem] max2_int min2_int max_two min_two max_three min_three max_four min_four   -- for this text's walks alone
set_option linter.unusedVariables false
set_option linter.unusedSimpArgs false
set_option linter.unusedSectionVars false
/-! ### scan.Places: what it computes; its state in memory -/
def plExp (l : List S35) (x : Int) (out : List Int) : List Nat → List Int → List Nat × List Int
  | [], f => ([], f)
  | a :: r, f => if tt l a < x then plExp l x out r (f ++ [out.getD a 0]) else (a :: r, f)
structure PS where
  out : List Int
  act : List Nat
  free : List Int
def plCnt (l : List S35) (i : Nat) (act : List Nat) : Nat := act.countP (fun k => decide (tt l k < tt l i))
def plIns (l : List S35) (i : Nat) (act : List Nat) : List Nat := act.take (plCnt l i act) ++ i :: act.drop (plCnt l i act)
def lastN (xs : List Nat) : Nat := xs.getD (xs.length - 1) 0
def lastI (xs : List Int) : Int := xs.getD (xs.length - 1) 0
/-- What follows once i stands among the active. -/
def plFin (s : PS) (i : Nat) : PS :=
  if s.free.length = 0 then
    (if lastN s.act = i then ⟨s.out, s.act.take (s.act.length - 1), s.free⟩
     else ⟨(s.out.set i (s.out.getD (lastN s.act) 0)).set (lastN s.act) (-1), s.act.take (s.act.length - 1), s.free⟩)
  else ⟨s.out.set i (lastI s.free), s.act, s.free.take (s.free.length - 1)⟩
def plStep (l : List S35) (s : PS) (i : Nat) : PS :=
  plFin ⟨s.out, plIns l i (plExp l (ff l i) s.out s.act s.free).1, (plExp l (ff l i) s.out s.act s.free).2⟩ i
def plOut0 (l : List S35) (n : Int) (i : Nat) : List Int := (List.range l.length).map fun k => if k < i ∧ ¬ ff l k ≤ tt l k ∧ 0 < n then 0 else -1
def plOrd (l : List S35) (i : Nat) : List Nat := (List.range i).filter fun k => decide (ff l k ≤ tt l k)
def plFree (n : Nat) : List Int := (List.range n).map fun k => ((n - 1 - k : Nat) : Int)
def plRun (l : List S35) (n : Nat) (ord : List Nat) : PS := ord.foldl (plStep l) ⟨plOut0 l n l.length, [], plFree n⟩
/-- What the state keeps to. -/
structure PInv (l : List S35) (n : Nat) (s : PS) : Prop where
  olen : s.out.length = l.length
  alt : ∀ k ∈ s.act, k < l.length
  srt : s.act.Pairwise (fun a b => tt l a ≤ tt l b)
  tot : s.act.length + s.free.length = n
theorem plExp_inv (l : List S35) (x : Int) (out : List Int) : ∀ (act : List Nat) (f : List Int), (plExp l x out act f).1.length + (plExp l x out act f).2.length = act.length + f.length ∧ (∃ d, (plExp l x out act f).1 = act.drop d)
  | [], f => ⟨rfl, 0, rfl⟩
  | a :: r, f => by
    unfold plExp
    split
    · obtain ⟨h1, d, h2⟩ := plExp_inv l x out r (f ++ [out.getD a 0])
      exact ⟨by rw [h1]; simp; omega, d + 1, by rw [h2]; rfl⟩
    · exact ⟨rfl, 0, rfl⟩
theorem plCnt_le (l : List S35) (i : Nat) (act : List Nat) : plCnt l i act ≤ act.length := List.countP_le_length
theorem plIns_len (l : List S35) (i : Nat) (act : List Nat) : (plIns l i act).length = act.length + 1 := by
  have := plCnt_le l i act
  unfold plIns
  simp; omega
theorem plIns_mem (l : List S35) (i : Nat) (act : List Nat) (k : Nat) : k ∈ plIns l i act ↔ k = i ∨ k ∈ act := by
  unfold plIns
  rw [List.mem_append, List.mem_cons]
  constructor
  · rintro (h | rfl | h)
    · exact .inr (List.mem_of_mem_take h)
    · exact .inl rfl
    · exact .inr (List.mem_of_mem_drop h)
  · rintro (rfl | h)
    · exact .inr (.inl rfl)
    · rw [← List.take_append_drop (plCnt l i act) act, List.mem_append] at h
      rcases h with h | h
      · exact .inl h
      · exact .inr (.inr h)
theorem cnt_split (p : Nat → Bool) : ∀ (act : List Nat), (act.Pairwise (fun a b => p b = true → p a = true)) → (∀ k ∈ act.take (act.countP p), p k = true) ∧ (∀ k ∈ act.drop (act.countP p), p k = false)
  | [], _ => ⟨fun k hk => by simp at hk, fun k hk => by simp at hk⟩
  | a :: r, h => by
    rw [List.pairwise_cons] at h
    obtain ⟨h1, h2⟩ := cnt_split p r h.2
    by_cases ha : p a = true
    · rw [List.countP_cons_of_pos ha]
      refine ⟨fun k hk => ?_, fun k hk => h2 k hk⟩
      rw [List.take_succ_cons, List.mem_cons] at hk
      rcases hk with rfl | hk
      · exact ha
      · exact h1 k hk
    · rw [List.countP_cons_of_neg ha]
      have hr : ∀ k ∈ r, p k = false := fun k hk => by
        cases hp : p k with
        | false => rfl
        | true => exact absurd (h.1 k hk hp) ha
      have h0 : r.countP p = 0 := by rw [List.countP_eq_zero]; intro k hk; rw [hr k hk]; simp
      rw [h0]
      refine ⟨fun k hk => by simp at hk, fun k hk => ?_⟩
      rw [List.drop_zero, List.mem_cons] at hk
      rcases hk with rfl | hk
      · exact Bool.eq_false_iff.2 ha
      · exact hr k hk
theorem plIns_srt (l : List S35) (i : Nat) (act : List Nat) (h : act.Pairwise (fun a b => tt l a ≤ tt l b)) : (plIns l i act).Pairwise (fun a b => tt l a ≤ tt l b) := by
  obtain ⟨h1, h2⟩ := cnt_split (fun k => decide (tt l k < tt l i)) act (h.imp (fun {a b} hab hb => by rw [decide_eq_true_eq] at *; omega))
  unfold plIns
  have h3 := h
  rw [← List.take_append_drop (plCnt l i act) act, List.pairwise_append] at h3
  rw [List.pairwise_append, List.pairwise_cons]
  refine ⟨h3.1, ⟨fun k hk => ?_, h3.2.1⟩, fun a ha b hb => ?_⟩
  · have := h2 k hk
    rw [decide_eq_false_iff_not] at this; omega
  · have h4 := h1 a ha
    rw [decide_eq_true_eq] at h4
    rw [List.mem_cons] at hb
    rcases hb with rfl | hb
    · omega
    · exact h3.2.2 a ha b hb
theorem plIns_ne (l : List S35) (i : Nat) (act : List Nat) : 0 < (plIns l i act).length := by rw [plIns_len]; omega
theorem lastN_mem (xs : List Nat) (h : 0 < xs.length) : lastN xs ∈ xs := by
  unfold lastN
  rw [List.getD_eq_getElem?_getD, List.getElem?_eq_getElem (by omega)]
  exact List.getElem_mem _
theorem plMid_inv {l : List S35} {n : Nat} {s : PS} (h : PInv l n s) (i : Nat) (hi : i < l.length) :
    let p := plExp l (ff l i) s.out s.act s.free
    (∀ k ∈ p.1, k < l.length) ∧ p.1.Pairwise (fun a b => tt l a ≤ tt l b) ∧ p.1.length + p.2.length = n ∧ (∀ k ∈ plIns l i p.1, k < l.length) ∧ (plIns l i p.1).Pairwise (fun a b => tt l a ≤ tt l b) ∧ (plIns l i p.1).length + p.2.length = n + 1 := by
  intro p
  obtain ⟨h1, d, h2⟩ := plExp_inv l (ff l i) s.out s.act s.free
  have a1 : ∀ k ∈ p.1, k < l.length := fun k hk => h.alt k (List.mem_of_mem_drop (by rw [← h2]; exact hk))
  have a2 : p.1.Pairwise (fun a b => tt l a ≤ tt l b) := by show (plExp _ _ _ _ _).1.Pairwise _; rw [h2]; exact h.srt.sublist (List.drop_sublist _ _)
  have a3 : p.1.length + p.2.length = n := h1.trans h.tot
  refine ⟨a1, a2, a3, fun k hk => ?_, plIns_srt l i p.1 a2, by rw [plIns_len]; omega⟩
  rcases (plIns_mem l i p.1 k).1 hk with rfl | hk
  · exact hi
  · exact a1 k hk
theorem plStep_inv {l : List S35} {n : Nat} {s : PS} (h : PInv l n s) (i : Nat) (hi : i < l.length) : PInv l n (plStep l s i) := by
  obtain ⟨_, _, _, a4, a5, a6⟩ := plMid_inv h i hi
  have hp := plIns_ne l i (plExp l (ff l i) s.out s.act s.free).1
  unfold plStep plFin
  split
  · rename_i h0
    simp only at h0
    split
    · exact ⟨h.olen, fun k hk => a4 k (List.mem_of_mem_take hk), a5.sublist (List.take_sublist _ _), by rw [List.length_take]; simp only; omega⟩
    · exact ⟨by rw [List.length_set, List.length_set]; exact h.olen, fun k hk => a4 k (List.mem_of_mem_take hk), a5.sublist (List.take_sublist _ _), by rw [List.length_take]; simp only; omega⟩
  · rename_i h0
    simp only at h0
    exact ⟨by rw [List.length_set]; exact h.olen, a4, a5, by rw [List.length_take]; simp only; omega⟩
theorem plInit_inv (l : List S35) (n : Nat) : PInv l n ⟨plOut0 l n l.length, [], plFree n⟩ := ⟨by simp [plOut0], fun k hk => by simp at hk, List.Pairwise.nil, by simp [plFree]⟩
def plAt (l : List S35) (n : Nat) (ord : List Nat) (j : Nat) : PS := (ord.take j).foldl (plStep l) ⟨plOut0 l n l.length, [], plFree n⟩
theorem plAt_succ (l : List S35) (n : Nat) (ord : List Nat) (j : Nat) (hj : j < ord.length) : plAt l n ord (j + 1) = plStep l (plAt l n ord j) (ord.getD j 0) := by
  unfold plAt
  rw [List.take_add_one, List.getElem?_eq_getElem hj, List.foldl_append, List.getD_eq_getElem?_getD, List.getElem?_eq_getElem hj]
  rfl
theorem plAt_all (l : List S35) (n : Nat) (ord : List Nat) : plAt l n ord ord.length = plRun l n ord := by unfold plAt plRun; rw [List.take_length]
theorem plAt_inv (l : List S35) (n : Nat) (ord : List Nat) (h : ∀ k ∈ ord, k < l.length) : ∀ j, j ≤ ord.length → PInv l n (plAt l n ord j)
  | 0, _ => plInit_inv l n
  | j + 1, hj => by
    rw [plAt_succ l n ord j (by omega)]
    refine plStep_inv (plAt_inv l n ord h j (by omega)) _ (h _ ?_)
    rw [List.getD_eq_getElem?_getD, List.getElem?_eq_getElem (by omega)]
    exact List.getElem_mem _
def plMore (l : List S35) (x : Int) : List Nat → Bool
  | [] => false
  | a :: _ => decide (tt l a < x)
theorem plExp_stop (l : List S35) (x : Int) (out : List Int) (act : List Nat) (f : List Int) (h : plMore l x act = false) : plExp l x out act f = (act, f) := by
  cases act with
  | nil => rfl
  | cons a r => unfold plExp; rw [if_neg (by unfold plMore at h; simpa using h)]
theorem plExp_go (l : List S35) (x : Int) (out : List Int) (a : Nat) (r : List Nat) (f : List Int) (h : tt l a < x) : plExp l x out (a :: r) f = plExp l x out r (f ++ [out.getD a 0]) := by
  rw [plExp, if_pos h]
theorem plFin_a (out : List Int) (act : List Nat) (i p : Nat) (hp : act.length = p + 1) (h : lastN act = i) : plFin ⟨out, act, []⟩ i = ⟨out, act.take p, []⟩ := by
  simp [plFin, h, hp]
theorem plFin_b (out : List Int) (act : List Nat) (i p la : Nat) (hp : act.length = p + 1) (h : lastN act = la) (hne : la ≠ i) : plFin ⟨out, act, []⟩ i = ⟨(out.set i (out.getD la 0)).set la (-1), act.take p, []⟩ := by
  simp [plFin, h, hp, hne]
theorem plFin_c (out : List Int) (act : List Nat) (free : List Int) (i m : Nat) (hm : free.length = m + 1) : plFin ⟨out, act, free⟩ i = ⟨out.set i (free.getD m 0), act, free.take m⟩ := by
  have h0 : free ≠ [] := fun h => by rw [h] at hm; simp at hm
  simp [plFin, lastI, hm, h0]
end Go.Proofs.Ytpfbloddhfphiaa.K
