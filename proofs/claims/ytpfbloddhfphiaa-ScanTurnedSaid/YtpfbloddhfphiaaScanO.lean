import Derived.Test.YtpfbloddhfphiaaK0
import Derived.Test.YtpfbloddhfphiaaScanQ
import Derived.Deep.DeepMust
import Derived.Test.YtpfbloddhfphiaaProg
import Derived.Below
import Derived.Deep.Draws
import Derived.Deep.AppendLies
import Derived.Maps.AppendAt
import Derived.OwnWalk
import Derived.Laws.BytesArg
import Derived.Laws.MakeOwn
import Derived.Laws.OwnMore
import Derived.Deep.OwnRows
import Derived.Tactics
import Derived.Lib.ConvBytes
import Derived.Laws.Slices
import Derived.WalkKit
import Derived.KernelRfl
import Derived.RowKit3
import Derived.Deep.LoopGhost
import Derived.Deep.QuietTactic
import Derived.BigQuiet
import Derived.WideLaws
import Derived.Deep.DeepCutAuto
import Derived.Deep.CutBlock
import Derived.Deep.RegionHeld3
import Derived.Deep.MidRow
import Derived.Laws.Rows
import Derived.Lib.AppendStr
import Derived.ArgAppend
import Derived.Laws.IdiomCopy
import Derived.OrdersHeld
import Derived.Laws.BitsLemmas
import Derived.RowKit
import Derived.RegionTactic
import Derived.Deep.RegionWith
import Derived.Lib.Hide
import Derived.Test.YtpfbloddhfphiaaWWords
import Derived.Test.YtpfbloddhfphiaaWLast
import Derived.Test.YtpfbloddhfphiaaWTab
import Derived.Test.YtpfbloddhfphiaaWFour
import Derived.Test.YtpfbloddhfphiaaWQPut
import Derived.Test.YtpfbloddhfphiaaWApart
import Derived.Test.YtpfbloddhfphiaaWArr
import Derived.Test.YtpfbloddhfphiaaWZeros
import Derived.Test.YtpfbloddhfphiaaWFoot
import Derived.Test.YtpfbloddhfphiaaWKept
import Derived.Test.YtpfbloddhfphiaaWShare
import Derived.Test.YtpfbloddhfphiaaWN
import Derived.Test.YtpfbloddhfphiaaWEqStruct
import Derived.Test.YtpfbloddhfphiaaWRepsOne
import Derived.Test.YtpfbloddhfphiaaWGuard
import Derived.Test.YtpfbloddhfphiaaWNEv
import Derived.Test.YtpfbloddhfphiaaWMore
import Derived.Deep.RegionLaw
import Derived.Laws.CopyOwn
namespace Go.Proofs.Ytpfbloddhfphiaa.K
open Go.RowKit Go.Proofs.YtpfbloddhfphiaaW.PrintWords Go.Proofs.YtpfbloddhfphiaaW.PrintLast Go.Proofs.YtpfbloddhfphiaaW.PrintMore
attribute [local go_sem] max2_int min2_int max_two min_two max_three min_three max_four min_four   -- for this text's walks alone
set_option linter.unusedVariables false
set_option linter.unusedSimpArgs false
set_option linter.unusedSectionVars false
/-! ### Places' choice is the least: plain law -/
theorem nd_len {l1 l2 : List Nat} : ∀ (_ : l1.Nodup) (_ : ∀ a ∈ l1, a ∈ l2), l1.length ≤ l2.length := by
  induction l1 generalizing l2 with
  | nil => intro _ _; exact Nat.zero_le _
  | cons a r ih =>
    intro hn hs
    rw [List.nodup_cons] at hn
    have ha := hs a (List.mem_cons_self ..)
    have := ih (l2 := l2.erase a) hn.2 (fun b hb => (List.mem_erase_of_ne (fun e => hn.1 (by subst e; exact hb))).2 (hs b (List.mem_cons_of_mem _ hb)))
    rw [List.length_erase_of_mem ha] at this
    have hp : 0 < l2.length := List.length_pos_of_mem ha
    rw [List.length_cons]; omega
theorem cnt_ge {act pre : List Nat} {p : Nat → Bool} (hn : act.Nodup) (h : ∀ a ∈ act, a ∈ pre ∧ p a = true) : act.length ≤ pre.countP p := by
  rw [List.countP_eq_length_filter]
  exact nd_len hn fun a ha => List.mem_filter.2 (h a ha)
theorem cnt_le {act pre : List Nat} {p : Nat → Bool} (hn : pre.Nodup) (h : ∀ a ∈ pre, p a = true → a ∈ act) : pre.countP p ≤ act.length := by
  rw [List.countP_eq_length_filter]
  exact nd_len (hn.sublist List.filter_sublist) fun a ha => h a (List.mem_filter.1 ha).1 (List.mem_filter.1 ha).2
theorem plExp_spec (l : List S35) (x : Int) (out : List Int) : ∀ (act : List Nat) (f : List Int), ∃ d, (plExp l x out act f).1 = act.drop d ∧ (∀ a ∈ act.take d, tt l a < x) ∧ (plExp l x out act f).2 = f ++ (act.take d).map (fun a => out.getD a 0) ∧ plMore l x (act.drop d) = false
  | [], f => ⟨0, rfl, fun a ha => by simp at ha, by simp [plExp], rfl⟩
  | a :: r, f => by
    unfold plExp
    split
    · rename_i h
      obtain ⟨d, h1, h2, h3, h4⟩ := plExp_spec l x out r (f ++ [out.getD a 0])
      refine ⟨d + 1, h1, fun b hb => ?_, by rw [h3]; simp, h4⟩
      rw [List.take_succ_cons, List.mem_cons] at hb
      rcases hb with rfl | hb
      · exact h
      · exact h2 b hb
    · rename_i h
      exact ⟨0, rfl, fun b hb => by simp at hb, by simp, by simp [plMore, h]⟩
theorem more_all (l : List S35) (x : Int) (act : List Nat) (hs : act.Pairwise (fun a b => tt l a ≤ tt l b)) (h : plMore l x act = false) : ∀ a ∈ act, x ≤ tt l a := by
  cases act with
  | nil => intro a ha; simp at ha
  | cons b r =>
    have hb : ¬ tt l b < x := by simpa [plMore] using h
    rw [List.pairwise_cons] at hs
    intro a ha
    rw [List.mem_cons] at ha
    rcases ha with rfl | ha
    · omega
    · have := hs.1 a ha; omega
theorem last_max (l : List S35) (act : List Nat) (hs : act.Pairwise (fun a b => tt l a ≤ tt l b)) : ∀ a ∈ act, tt l a ≤ tt l (lastN act) := by
  intro a ha
  obtain ⟨i, hi, rfl⟩ := List.getElem_of_mem ha
  unfold lastN
  rw [List.getD_eq_getElem?_getD, List.getElem?_eq_getElem (by omega : act.length - 1 < act.length)]
  show tt l act[i] ≤ tt l (act[act.length - 1])
  rcases Nat.lt_or_eq_of_le (by omega : i ≤ act.length - 1) with h | h
  · exact List.pairwise_iff_getElem.1 hs i (act.length - 1) hi (by omega) h
  · subst h; exact Int.le_refl _
theorem ins_nodup (l : List S35) (i : Nat) (act : List Nat) (h : act.Nodup) (hi : i ∉ act) : (plIns l i act).Nodup := by
  unfold plIns
  rw [List.nodup_append, List.nodup_cons]
  have h2 := h
  rw [← List.take_append_drop (plCnt l i act) act, List.nodup_append] at h2
  refine ⟨h2.1, ⟨fun hm => hi (List.mem_of_mem_drop hm), h2.2.1⟩, fun a ha b hb => ?_⟩
  rw [List.mem_cons] at hb
  rcases hb with rfl | hb
  · intro e; subst e; exact hi (List.mem_of_mem_take ha)
  · exact h2.2.2 a ha b hb
theorem dropLast_mem {act : List Nat} (hn : act.Nodup) (hp : 0 < act.length) (a : Nat) : a ∈ act.take (act.length - 1) ↔ a ∈ act ∧ a ≠ lastN act := by
  have hl : act = act.take (act.length - 1) ++ [lastN act] := by
    have h1 : act.drop (act.length - 1) = [lastN act] := by
      rw [List.drop_eq_getElem_cons (by omega), List.drop_of_length_le (by omega)]
      unfold lastN
      rw [List.getD_eq_getElem?_getD, List.getElem?_eq_getElem (by omega : act.length - 1 < act.length)]
      rfl
    rw [← h1, List.take_append_drop]
  have hn2 := hn
  rw [hl, List.nodup_append] at hn2
  constructor
  · intro h
    exact ⟨List.mem_of_mem_take h, fun e => hn2.2.2 a h (lastN act) (List.mem_singleton.2 rfl) e⟩
  · rintro ⟨h1, h2⟩
    rw [hl, List.mem_append] at h1
    rcases h1 with h1 | h1
    · exact h1
    · exact absurd (List.mem_singleton.1 h1) h2
def kp (s : PS) (k : Nat) : Bool := decide (0 ≤ s.out.getD k 0)
structure GI (l : List S35) (n : Nat) (pre : List Nat) (s : PS) : Prop where
  inv : PInv l n s
  sub : ∀ a ∈ s.act, a ∈ pre
  nd : s.act.Nodup
  pos : ∀ a ∈ s.act, kp s a = true
  fpos : ∀ f ∈ s.free, 0 ≤ f
  gone : ∀ k ∈ pre, kp s k = true → k ∈ s.act ∨ ∃ p ∈ pre, tt l k < ff l p
  neg : ∀ k, k < l.length → ff l k ≤ tt l k → k ∉ pre → kp s k = false
/-- What one step does to what is kept. -/
structure StepK (l : List S35) (n : Nat) (pre : List Nat) (i : Nat) (s s' : PS) : Prop where
  gi : GI l n (pre ++ [i]) s'
  k3 : ∀ k ∈ pre, kp s' k = true → kp s k = true
  -- either nothing is spilled, or z is, which ends last of the n + 1 that stand at i's beginning
  sp : (kp s' i = true ∧ ∀ k ∈ pre, kp s k = true → kp s' k = true) ∨
    (∃ z, (z = i ∨ kp s' i = true) ∧ ff l i ≤ tt l z ∧ (∀ k ∈ pre, kp s k = true → kp s' k = true ∨ k = z) ∧ s'.act.length = n ∧ (∀ a ∈ s'.act, ff l i ≤ tt l a ∧ tt l a ≤ tt l z))
theorem getD_set (out : List Int) (i k : Nat) (x : Int) (hi : i < out.length) : (out.set i x).getD k 0 = if k = i then x else out.getD k 0 := by
  rw [List.getD_eq_getElem?_getD, List.getElem?_set, List.getD_eq_getElem?_getD]
  by_cases h : k = i
  · subst h; rw [if_pos rfl, if_pos hi, if_pos rfl]; rfl
  · rw [if_neg (fun e => h e.symm), if_neg h]
theorem lastI_mem (xs : List Int) (h : 0 < xs.length) : lastI xs ∈ xs := by
  unfold lastI
  rw [List.getD_eq_getElem?_getD, List.getElem?_eq_getElem (by omega)]
  exact List.getElem_mem _
theorem step_k {l : List S35} {n : Nat} {pre : List Nat} {s : PS} (h : GI l n pre s) (i : Nat) (hi : i < l.length) (hne : ff l i ≤ tt l i) (hni : i ∉ pre) (hpl : ∀ p ∈ pre, p < l.length) : StepK l n pre i s (plStep l s i) := by
  obtain ⟨d, e1, e2, e3, e4⟩ := plExp_spec l (ff l i) s.out s.act s.free
  obtain ⟨a1, a2, a3, a4, a5, a6⟩ := plMid_inv h.inv i hi
  have hinv := plStep_inv h.inv i hi
  have hge : ∀ a ∈ (plExp l (ff l i) s.out s.act s.free).1, ff l i ≤ tt l a := more_all l _ _ a2 (by rw [e1]; exact e4)
  have hsub1 : ∀ a ∈ (plExp l (ff l i) s.out s.act s.free).1, a ∈ s.act := fun a ha => by rw [e1] at ha; exact List.mem_of_mem_drop ha
  have hnd1 : (plExp l (ff l i) s.out s.act s.free).1.Nodup := by rw [e1]; exact h.nd.sublist (List.drop_sublist _ _)
  have hni1 : i ∉ (plExp l (ff l i) s.out s.act s.free).1 := fun hm => hni (h.sub i (hsub1 i hm))
  have hnd2 := ins_nodup l i _ hnd1 hni1
  have hf1 : ∀ f ∈ (plExp l (ff l i) s.out s.act s.free).2, 0 ≤ f := fun f hf => by
    rw [e3, List.mem_append] at hf
    rcases hf with hf | hf
    · exact h.fpos f hf
    · obtain ⟨a, ha, rfl⟩ := List.mem_map.1 hf
      have := h.pos a (List.mem_of_mem_take ha)
      unfold kp at this
      exact of_decide_eq_true this
  have hout : ∀ a ∈ s.act, a ∈ (plExp l (ff l i) s.out s.act s.free).1 ∨ tt l a < ff l i := fun a ha => by
    rw [← List.take_append_drop d s.act, List.mem_append] at ha
    rcases ha with ha | ha
    · exact .inr (e2 a ha)
    · exact .inl (by rw [e1]; exact ha)
  have hki : kp s i = false := h.neg i hi hne hni
  have holen := h.inv.olen
  have hgone2 : ∀ k ∈ pre, kp s k = true → k ∈ (plExp l (ff l i) s.out s.act s.free).1 ∨ ∃ p ∈ pre ++ [i], tt l k < ff l p := fun k hk hkk => by
    rcases h.gone k hk hkk with hg | ⟨p, hp, hp2⟩
    · rcases hout k hg with h1 | h1
      · exact .inl h1
      · exact .inr ⟨i, by simp, h1⟩
    · exact .inr ⟨p, by simp [hp], hp2⟩
  have hp2 := plIns_ne l i (plExp l (ff l i) s.out s.act s.free).1
  unfold plStep at *
  generalize plExp l (ff l i) s.out s.act s.free = E at *
  obtain ⟨A1, F1⟩ := E
  simp only at *
  have hmem := plIns_mem l i A1
  by_cases hF : F1.length = 0
  · obtain rfl : F1 = [] := List.eq_nil_of_length_eq_zero hF
    obtain ⟨z, hz⟩ : ∃ z, lastN (plIns l i A1) = z := ⟨_, rfl⟩
    have hzm : z ∈ plIns l i A1 := by rw [← hz]; exact lastN_mem _ hp2
    have hzmax := last_max l _ a5
    rw [hz] at hzmax
    have hdl := dropLast_mem hnd2 hp2
    rw [hz] at hdl
    have hzge : ff l i ≤ tt l z := by
      rcases (hmem z).1 hzm with rfl | hz1
      · exact hne
      · exact hge z hz1
    have hlen : (plIns l i A1).length = n + 1 := by simpa using a6
    by_cases hzi : z = i
    · have e : plFin ⟨s.out, plIns l i A1, []⟩ i = ⟨s.out, (plIns l i A1).take ((plIns l i A1).length - 1), []⟩ := by simp [plFin, hz, hzi]
      rw [e] at hinv ⊢
      have hk : ∀ k, kp ⟨s.out, (plIns l i A1).take ((plIns l i A1).length - 1), []⟩ k = kp s k := fun k => rfl
      refine ⟨⟨hinv, fun a ha => ?_, hnd2.sublist (List.take_sublist _ _), fun a ha => ?_, fun f hf => by simp at hf, fun k hk1 hk2 => ?_, fun k h1 h2 h3 => ?_⟩, fun k _ hk2 => hk2, .inr ⟨z, .inl hzi, hzge, fun k _ hk2 => .inl hk2, by rw [List.length_take]; omega, fun a ha => ?_⟩⟩
      · obtain ⟨h1, h2⟩ := (hdl a).1 ha
        rcases (hmem a).1 h1 with rfl | h1
        · exact absurd hzi.symm h2
        · exact List.mem_append.2 (.inl (h.sub a (hsub1 a h1)))
      · obtain ⟨h1, h2⟩ := (hdl a).1 ha
        rw [hk]
        rcases (hmem a).1 h1 with rfl | h1
        · exact absurd hzi.symm h2
        · exact h.pos a (hsub1 a h1)
      · rw [hk] at hk2
        rw [List.mem_append, List.mem_singleton] at hk1
        rcases hk1 with hk1 | rfl
        · rcases hgone2 k hk1 hk2 with h1 | h1
          · exact .inl ((hdl k).2 ⟨(hmem k).2 (.inr h1), fun e => hni (by rw [← hzi, ← e]; exact hk1)⟩)
          · exact .inr h1
        · rw [hki] at hk2; exact absurd hk2 (by simp)
      · rw [hk]
        exact h.neg k h1 h2 (fun h4 => h3 (List.mem_append.2 (.inl h4)))
      · obtain ⟨h1, h2⟩ := (hdl a).1 ha
        refine ⟨?_, hzmax a h1⟩
        rcases (hmem a).1 h1 with rfl | h1
        · exact hne
        · exact hge a h1
    · have e : plFin ⟨s.out, plIns l i A1, []⟩ i = ⟨(s.out.set i (s.out.getD z 0)).set z (-1), (plIns l i A1).take ((plIns l i A1).length - 1), []⟩ := by simp [plFin, hz, hzi]
      rw [e] at hinv ⊢
      have hz1 : z ∈ A1 := ((hmem z).1 hzm).resolve_left hzi
      have hzp := h.pos z (hsub1 z hz1)
      have hzl : z < l.length := a4 z hzm
      have hk : ∀ k, kp ⟨(s.out.set i (s.out.getD z 0)).set z (-1), (plIns l i A1).take ((plIns l i A1).length - 1), []⟩ k = if k = z then false else if k = i then true else kp s k := fun k => by
        unfold kp
        simp only
        rw [getD_set _ _ _ _ (by rw [List.length_set]; omega), getD_set _ _ _ _ (by omega)]
        split
        · rfl
        · split
          · unfold kp at hzp; exact hzp
          · rfl
      have hpz : ∀ k, k ∈ pre → k ≠ i := fun k hk e => hni (e ▸ hk)
      refine ⟨⟨hinv, fun a ha => ?_, hnd2.sublist (List.take_sublist _ _), fun a ha => ?_, fun f hf => by simp at hf, fun k hk1 hk2 => ?_, fun k h1 h2 h3 => ?_⟩, fun k hk1 hk2 => ?_, .inr ⟨z, .inr ?_, hzge, fun k hk1 hk2 => ?_, by rw [List.length_take]; omega, fun a ha => ?_⟩⟩
      · obtain ⟨h1, h2⟩ := (hdl a).1 ha
        rcases (hmem a).1 h1 with rfl | h1
        · simp
        · exact List.mem_append.2 (.inl (h.sub a (hsub1 a h1)))
      · obtain ⟨h1, h2⟩ := (hdl a).1 ha
        rw [hk, if_neg h2]
        split
        · rfl
        · rename_i h3
          exact h.pos a (hsub1 a (((hmem a).1 h1).resolve_left h3))
      · rw [hk] at hk2
        by_cases hkz : k = z
        · rw [if_pos hkz] at hk2; exact absurd hk2 (by simp)
        · rw [if_neg hkz] at hk2
          rw [List.mem_append, List.mem_singleton] at hk1
          by_cases hki2 : k = i
          · exact .inl ((hdl k).2 ⟨(hmem k).2 (.inl hki2), hkz⟩)
          · rw [if_neg hki2] at hk2
            rcases hgone2 k (hk1.resolve_right hki2) hk2 with h1 | h1
            · exact .inl ((hdl k).2 ⟨(hmem k).2 (.inr h1), hkz⟩)
            · exact .inr h1
      · rw [hk]
        rw [List.mem_append, List.mem_singleton, not_or] at h3
        split
        · rfl
        · rw [if_neg h3.2]; exact h.neg k h1 h2 h3.1
      · rw [hk] at hk2
        split at hk2
        · exact absurd hk2 (by simp)
        · rw [if_neg (hpz k hk1)] at hk2; exact hk2
      · rw [hk, if_neg (fun e => hzi e.symm), if_pos rfl]
      · rw [hk]
        by_cases hkz : k = z
        · exact .inr hkz
        · rw [if_neg hkz, if_neg (hpz k hk1)]; exact .inl hk2
      · obtain ⟨h1, h2⟩ := (hdl a).1 ha
        refine ⟨?_, hzmax a h1⟩
        rcases (hmem a).1 h1 with rfl | h1
        · exact hne
        · exact hge a h1
  · have hF0 : F1 ≠ [] := fun e => hF (by rw [e]; rfl)
    have e : plFin ⟨s.out, plIns l i A1, F1⟩ i = ⟨s.out.set i (lastI F1), plIns l i A1, F1.take (F1.length - 1)⟩ := by simp [plFin, hF0]
    rw [e] at hinv ⊢
    have hlp := hf1 (lastI F1) (lastI_mem F1 (by omega))
    have hk : ∀ k, kp ⟨s.out.set i (lastI F1), plIns l i A1, F1.take (F1.length - 1)⟩ k = if k = i then true else kp s k := fun k => by
      unfold kp
      simp only
      rw [getD_set _ _ _ _ (by omega)]
      split
      · exact decide_eq_true hlp
      · rfl
    have hpz : ∀ k, k ∈ pre → k ≠ i := fun k hk e => hni (e ▸ hk)
    refine ⟨⟨hinv, fun a ha => ?_, hnd2, fun a ha => ?_, fun f hf => hf1 f (List.mem_of_mem_take hf), fun k hk1 hk2 => ?_, fun k h1 h2 h3 => ?_⟩, fun k hk1 hk2 => ?_, .inl ⟨by rw [hk, if_pos rfl], fun k hk1 hk2 => by rw [hk, if_neg (hpz k hk1)]; exact hk2⟩⟩
    · rcases (hmem a).1 ha with rfl | h1
      · simp
      · exact List.mem_append.2 (.inl (h.sub a (hsub1 a h1)))
    · rw [hk]
      split
      · rfl
      · rename_i h3
        exact h.pos a (hsub1 a (((hmem a).1 ha).resolve_left h3))
    · rw [hk] at hk2
      rw [List.mem_append, List.mem_singleton] at hk1
      by_cases hki2 : k = i
      · exact .inl ((hmem k).2 (.inl hki2))
      · rw [if_neg hki2] at hk2
        rcases hgone2 k (hk1.resolve_right hki2) hk2 with h1 | h1
        · exact .inl ((hmem k).2 (.inr h1))
        · exact .inr h1
    · rw [List.mem_append, List.mem_singleton, not_or] at h3
      rw [hk, if_neg h3.2]; exact h.neg k h1 h2 h3.1
    · rw [hk, if_neg (hpz k hk1)] at hk2; exact hk2
def cG (l : List S35) (q : Nat → Bool) (pre : List Nat) (t : Int) : Nat := pre.countP (fun k => q k && decide (tt l k < t))
theorem cG_snoc (l : List S35) (q : Nat → Bool) (pre : List Nat) (i : Nat) (t : Int) : cG l q (pre ++ [i]) t = cG l q pre t + (if (q i && decide (tt l i < t)) = true then 1 else 0) := by
  unfold cG
  rw [List.countP_append, List.countP_cons, List.countP_nil, Nat.zero_add]
theorem cG_split (l : List S35) (q : Nat → Bool) (pre : List Nat) (x : Int) : pre.countP q = cG l q pre x + pre.countP (fun k => q k && decide (x ≤ tt l k)) := by
  unfold cG
  induction pre with
  | nil => rfl
  | cons a r ih =>
    rw [List.countP_cons, List.countP_cons, List.countP_cons, ih]
    cases hq : q a with
    | false => simp
    | true =>
      by_cases h : tt l a < x
      · rw [decide_eq_true h, decide_eq_false (by omega : ¬ x ≤ tt l a)]; simp; omega
      · rw [decide_eq_false h, decide_eq_true (by omega : x ≤ tt l a)]; simp; omega
/-- How many of the chosen stand where i begins. -/
def stand (l : List S35) (q : Nat → Bool) (ord : List Nat) (x : Int) : Nat := ord.countP (fun k => q k && decide (ff l k ≤ x) && decide (x ≤ tt l k))
theorem alive_le {l : List S35} {q : Nat → Bool} {ord pre : List Nat} {i n : Nat} (hsub : (pre ++ [i]).Sublist ord) (hs : (pre ++ [i]).Pairwise (fun a b => ff l a ≤ ff l b)) (hf : ∀ m ∈ ord, q m = true → stand l q ord (ff l m) ≤ n) :
    (pre ++ [i]).countP (fun k => q k && decide (ff l i ≤ tt l k)) ≤ n := by
  by_cases h0 : (pre ++ [i]).countP (fun k => q k && decide (ff l i ≤ tt l k)) = 0
  · omega
  · have hfl : (pre ++ [i]).filter (fun k => q k && decide (ff l i ≤ tt l k)) ≠ [] := fun e => h0 (by rw [List.countP_eq_length_filter, e]; rfl)
    have hsrt := hs.sublist (List.filter_sublist (p := fun k => q k && decide (ff l i ≤ tt l k)))
    obtain ⟨B, m, hB⟩ : ∃ B m, (pre ++ [i]).filter (fun k => q k && decide (ff l i ≤ tt l k)) = B ++ [m] := ⟨_, _, (List.dropLast_concat_getLast hfl).symm⟩
    have hm : m ∈ (pre ++ [i]).filter (fun k => q k && decide (ff l i ≤ tt l k)) := by rw [hB]; simp
    obtain ⟨hm1, hm2⟩ := List.mem_filter.1 hm
    rw [Bool.and_eq_true, decide_eq_true_eq] at hm2
    have hmi : ff l m ≤ ff l i := by
      rw [List.mem_append, List.mem_singleton] at hm1
      rcases hm1 with h | h
      · rw [List.pairwise_append] at hs
        exact hs.2.2 m h i (by simp)
      · subst h; exact Int.le_refl _
    have hall : ∀ k ∈ pre ++ [i], (q k && decide (ff l i ≤ tt l k)) = true → (q k && decide (ff l k ≤ ff l m) && decide (ff l m ≤ tt l k)) = true := fun k hk hh => by
      have hkB : k ∈ B ++ [m] := by rw [← hB]; exact List.mem_filter.2 ⟨hk, hh⟩
      rw [Bool.and_eq_true, decide_eq_true_eq] at hh
      rw [hB, List.pairwise_append] at hsrt
      have hkm : ff l k ≤ ff l m := by
        rw [List.mem_append, List.mem_singleton] at hkB
        rcases hkB with h | h
        · exact hsrt.2.2 k h m (by simp)
        · subst h; exact Int.le_refl _
      rw [Bool.and_eq_true, Bool.and_eq_true, decide_eq_true_eq, decide_eq_true_eq]
      exact ⟨⟨hh.1, hkm⟩, by omega⟩
    refine Nat.le_trans (List.countP_mono_left hall) (Nat.le_trans (hsub.countP_le) (hf m (hsub.subset hm1) hm2.1))
theorem ahead_step {l : List S35} {q : Nat → Bool} {ord pre : List Nat} {i n : Nat} {s s' : PS} (hst : StepK l n pre i s s') (hsub : (pre ++ [i]).Sublist ord) (hs : (pre ++ [i]).Pairwise (fun a b => ff l a ≤ ff l b)) (hne : ff l i ≤ tt l i)
    (hf : ∀ m ∈ ord, q m = true → stand l q ord (ff l m) ≤ n) (ih : ∀ t, cG l q pre t ≤ cG l (kp s) pre t) : ∀ t, cG l q (pre ++ [i]) t ≤ cG l (kp s') (pre ++ [i]) t := by
  intro t
  have simple : (∀ k ∈ pre, tt l k < t → kp s k = true → kp s' k = true) → (tt l i < t → kp s' i = true) → cG l q (pre ++ [i]) t ≤ cG l (kp s') (pre ++ [i]) t := fun h1 h2 => by
    rw [cG_snoc, cG_snoc]
    have h3 : cG l (kp s) pre t ≤ cG l (kp s') pre t := by
      unfold cG
      refine List.countP_mono_left fun k hk hh => ?_
      rw [Bool.and_eq_true, decide_eq_true_eq] at hh ⊢
      exact ⟨h1 k hk hh.2 hh.1, hh.2⟩
    have h4 := ih t
    by_cases ht : tt l i < t
    · rw [h2 ht, decide_eq_true ht]
      simp only [Bool.and_true, if_true]
      split <;> omega
    · rw [decide_eq_false ht]; simp; omega
  rcases hst.sp with ⟨k1, k2⟩ | ⟨z, z1, z2, z3, z4, z5⟩
  · exact simple (fun k hk _ hkk => k2 k hk hkk) (fun _ => k1)
  · by_cases ht : t ≤ tt l z
    · refine simple (fun k hk hkt hkk => ?_) (fun hit => ?_)
      · rcases z3 k hk hkk with h | rfl
        · exact h
        · omega
      · rcases z1 with rfl | h
        · omega
        · exact h
    · -- all of the n that stand are told by t
      have hL : cG l q (pre ++ [i]) t ≤ cG l q pre (ff l i) + n := by
        have h1 : cG l q (pre ++ [i]) t ≤ (pre ++ [i]).countP q := List.countP_mono_left fun k _ hh => by rw [Bool.and_eq_true] at hh; exact hh.1
        have h2 := cG_split l q (pre ++ [i]) (ff l i)
        have h3 := alive_le (n := n) hsub hs hf
        have h4 : cG l q (pre ++ [i]) (ff l i) = cG l q pre (ff l i) := by
          rw [cG_snoc, decide_eq_false (by omega : ¬ tt l i < ff l i)]; simp
        omega
      have hR : cG l (kp s) pre (ff l i) + n ≤ cG l (kp s') (pre ++ [i]) t := by
        have h2 := cG_split l (fun k => kp s' k && decide (tt l k < t)) (pre ++ [i]) (ff l i)
        have h3 : (pre ++ [i]).countP (fun k => kp s' k && decide (tt l k < t)) = cG l (kp s') (pre ++ [i]) t := rfl
        have h4 : cG l (kp s) pre (ff l i) ≤ cG l (fun k => kp s' k && decide (tt l k < t)) (pre ++ [i]) (ff l i) := by
          rw [cG_snoc]
          refine Nat.le_trans ?_ (Nat.le_add_right _ _)
          unfold cG
          refine List.countP_mono_left fun k hk hh => ?_
          rw [Bool.and_eq_true, decide_eq_true_eq] at hh
          have hkz : kp s' k = true := by
            rcases z3 k hk hh.1 with h | rfl
            · exact h
            · omega
          show (kp s' k && decide (tt l k < t) && decide (tt l k < ff l i)) = true
          rw [hkz, decide_eq_true (by omega : tt l k < t), decide_eq_true hh.2]; rfl
        have h5 : n ≤ (pre ++ [i]).countP (fun k => (kp s' k && decide (tt l k < t)) && decide (ff l i ≤ tt l k)) := by
          rw [← z4]
          refine cnt_ge hst.gi.nd fun a ha => ⟨hst.gi.sub a ha, ?_⟩
          obtain ⟨y1, y2⟩ := z5 a ha
          rw [hst.gi.pos a ha, decide_eq_true (by omega : tt l a < t), decide_eq_true y1]; rfl
        omega
      have := ih (ff l i)
      omega

/-- An order in which Places may go. -/
structure Ord (l : List S35) (ord : List Nat) : Prop where
  nd : ord.Nodup
  mem : ∀ k, k ∈ ord ↔ k < l.length ∧ ff l k ≤ tt l k
  srt : ord.Pairwise (fun a b => ff l a ≤ ff l b)
theorem ord_of {l : List S35} {ord : List Nat} (hp : ord.Perm (plOrd l l.length)) (hs : ord.Pairwise (fun a b => ff l a ≤ ff l b)) : Ord l ord := by
  refine ⟨hp.nodup_iff.2 ?_, fun k => ?_, hs⟩
  · unfold plOrd
    exact List.nodup_range.sublist List.filter_sublist
  · rw [hp.mem_iff]
    unfold plOrd
    rw [List.mem_filter, List.mem_range, decide_eq_true_eq]
theorem take_snoc {ord : List Nat} {j : Nat} (hj : j < ord.length) : ord.take (j + 1) = ord.take j ++ [ord.getD j 0] := by
  rw [List.take_add_one, List.getElem?_eq_getElem hj, List.getD_eq_getElem?_getD, List.getElem?_eq_getElem hj]; rfl
theorem getD_mem {ord : List Nat} {j : Nat} (hj : j < ord.length) : ord.getD j 0 ∈ ord := by
  rw [List.getD_eq_getElem?_getD, List.getElem?_eq_getElem hj]; exact List.getElem_mem _
theorem not_in_take {ord : List Nat} {j : Nat} (hn : ord.Nodup) (hj : j < ord.length) : ord.getD j 0 ∉ ord.take j := by
  have h := hn.sublist (List.take_sublist (j + 1) ord)
  rw [take_snoc hj, List.nodup_append] at h
  exact fun hm => h.2.2 _ hm (ord.getD j 0) (by simp) rfl
theorem gi_start (l : List S35) (n : Nat) : GI l n [] ⟨plOut0 l n l.length, [], plFree n⟩ := by
  refine ⟨plInit_inv l n, fun a ha => by simp at ha, List.nodup_nil, fun a ha => by simp at ha, fun f hf => ?_, fun k hk => by simp at hk, fun k h1 h2 _ => ?_⟩
  · simp only [plFree, List.mem_map] at hf
    obtain ⟨a, _, rfl⟩ := hf
    omega
  · unfold kp
    simp only
    rw [decide_eq_false_iff_not]
    unfold plOut0
    rw [List.getD_eq_getElem?_getD, List.getElem?_map, List.getElem?_range h1]
    show ¬ 0 ≤ (if k < l.length ∧ ¬ ff l k ≤ tt l k ∧ 0 < (n : Int) then (0 : Int) else -1)
    rw [if_neg (fun h => h.2.1 h2)]
    omega
theorem step_at {l : List S35} {n : Nat} {ord : List Nat} (ho : Ord l ord) : ∀ j, j ≤ ord.length → GI l n (ord.take j) (plAt l n ord j)
  | 0, _ => gi_start l n
  | j + 1, hj => by
    have ih := step_at (n := n) ho j (by omega)
    have hm := (ho.mem _).1 (getD_mem (by omega : j < ord.length))
    rw [take_snoc (by omega), plAt_succ l n ord j (by omega)]
    exact (step_k ih _ hm.1 hm.2 (not_in_take ho.nd (by omega)) (fun p hp => ((ho.mem p).1 (List.mem_of_mem_take hp)).1)).gi
theorem stepk_at {l : List S35} {n : Nat} {ord : List Nat} (ho : Ord l ord) (j : Nat) (hj : j < ord.length) : StepK l n (ord.take j) (ord.getD j 0) (plAt l n ord j) (plAt l n ord (j + 1)) := by
  have hm := (ho.mem _).1 (getD_mem hj)
  rw [plAt_succ l n ord j hj]
  exact step_k (step_at ho j (by omega)) _ hm.1 hm.2 (not_in_take ho.nd hj) (fun p hp => ((ho.mem p).1 (List.mem_of_mem_take hp)).1)
theorem ahead_at {l : List S35} {n : Nat} {ord : List Nat} (ho : Ord l ord) {q : Nat → Bool} (hf : ∀ m ∈ ord, q m = true → stand l q ord (ff l m) ≤ n) : ∀ j, j ≤ ord.length → ∀ t, cG l q (ord.take j) t ≤ cG l (kp (plAt l n ord j)) (ord.take j) t
  | 0, _, t => Nat.le_refl _
  | j + 1, hj, t => by
    have hst := stepk_at (n := n) ho j (by omega)
    have hsub := List.take_sublist (j + 1) ord
    rw [take_snoc (by omega : j < ord.length)] at hsub ⊢
    exact ahead_step hst hsub (ho.srt.sublist hsub) ((ho.mem _).1 (getD_mem (by omega))).2 hf (ahead_at ho hf j (by omega)) t
/-- No choice that fits keeps more. -/
theorem most_kept {l : List S35} {n : Nat} {ord : List Nat} (ho : Ord l ord) (ht : ∀ k ∈ ord, tt l k < 1000) {q : Nat → Bool} (hf : ∀ m ∈ ord, q m = true → stand l q ord (ff l m) ≤ n) : ord.countP q ≤ ord.countP (kp (plRun l n ord)) := by
  have h := ahead_at (n := n) ho hf ord.length (Nat.le_refl _) 1000
  rw [List.take_length, plAt_all] at h
  refine Nat.le_trans (Nat.le_trans ?_ h) ?_
  · unfold cG
    refine List.countP_mono_left fun k hk hh => ?_
    rw [hh, decide_eq_true (ht k hk)]; rfl
  · unfold cG
    refine List.countP_mono_left fun k _ hh => ?_
    rw [Bool.and_eq_true] at hh; exact hh.1
theorem kept_back {l : List S35} {n : Nat} {ord : List Nat} (ho : Ord l ord) (m : Nat) : ∀ d, m + d ≤ ord.length → ∀ k ∈ ord.take m, kp (plAt l n ord (m + d)) k = true → kp (plAt l n ord m) k = true
  | 0, _, k, _, h => h
  | d + 1, hd, k, hk, h => by
    have hst := stepk_at (n := n) ho (m + d) (by omega)
    have hk2 : k ∈ ord.take (m + d) := (List.take_sublist_take_left (by omega : m ≤ m + d)).subset hk
    exact kept_back ho m d (by omega) k hk (hst.k3 k hk2 h)
/-- What is kept fits. -/
theorem kept_fits {l : List S35} {n : Nat} {ord : List Nat} (ho : Ord l ord) (x : Int) : stand l (kp (plRun l n ord)) ord x ≤ n := by
  obtain ⟨h1, h2⟩ := cnt_split (fun k => decide (ff l k ≤ x)) ord (ho.srt.imp (fun {a b} hab hb => by rw [decide_eq_true_eq] at *; omega))
  obtain ⟨m, hm⟩ : ∃ m, ord.countP (fun k => decide (ff l k ≤ x)) = m := ⟨_, rfl⟩
  rw [hm] at h1 h2
  have hml : m ≤ ord.length := by rw [← hm]; exact List.countP_le_length
  have hg := step_at (n := n) ho m hml
  have hle : (plAt l n ord m).act.length ≤ n := by have := hg.inv.tot; omega
  refine Nat.le_trans (cnt_le ho.nd fun k hk hh => ?_) hle
  rw [Bool.and_eq_true, Bool.and_eq_true, decide_eq_true_eq, decide_eq_true_eq] at hh
  obtain ⟨⟨c1, c2⟩, c3⟩ := hh
  have hkm : k ∈ ord.take m := by
    have hk2 := hk
    rw [← List.take_append_drop m ord, List.mem_append] at hk2
    rcases hk2 with h | h
    · exact h
    · have := h2 k h
      rw [decide_eq_false_iff_not] at this
      exact absurd c2 this
  have hkk : kp (plAt l n ord m) k = true := by
    refine kept_back ho m (ord.length - m) (by omega) k hkm ?_
    rw [show m + (ord.length - m) = ord.length by omega, plAt_all]; exact c1
  rcases hg.gone k hkm hkk with h | ⟨p, hp, hp2⟩
  · exact h
  · have := h1 p hp
    rw [decide_eq_true_eq] at this
    omega
end Go.Proofs.Ytpfbloddhfphiaa.K
