import Derived.Test.YtpfbloddhfphiaaK0
import Derived.Test.YtpfbloddhfphiaaScanE
import Derived.Deep.DeepMust
import Derived.Test.YtpfbloddhfphiaaProg
import Derived.Below
import Derived.Deep.Draws
import Derived.Deep.AppendLies
import Derived.Maps.AppendAt
import Derived.OwnWalk
import Derived.Laws.BytesArg
import Derived.Laws.MakeOwn
import Derived.Laws.OwnMore
import Derived.Deep.OwnRows
import Derived.Tactics
import Derived.Lib.ConvBytes
import Derived.Laws.Slices
import Derived.WalkKit
import Derived.KernelRfl
import Derived.RowKit3
import Derived.Deep.LoopGhost
import Derived.Deep.QuietTactic
import Derived.BigQuiet
import Derived.WideLaws
import Derived.Deep.DeepCutAuto
import Derived.Deep.CutBlock
import Derived.Deep.RegionHeld3
import Derived.Deep.MidRow
import Derived.Laws.Rows
import Derived.Lib.AppendStr
import Derived.ArgAppend
import Derived.Laws.IdiomCopy
import Derived.OrdersHeld
import Derived.Laws.BitsLemmas
import Derived.RowKit
import Derived.RegionTactic
import Derived.Deep.RegionWith
import Derived.Lib.Hide
import Derived.Test.YtpfbloddhfphiaaWWords
import Derived.Test.YtpfbloddhfphiaaWLast
import Derived.Test.YtpfbloddhfphiaaWTab
import Derived.Test.YtpfbloddhfphiaaWFour
import Derived.Test.YtpfbloddhfphiaaWQPut
import Derived.Test.YtpfbloddhfphiaaWApart
import Derived.Test.YtpfbloddhfphiaaWArr
import Derived.Test.YtpfbloddhfphiaaWZeros
import Derived.Test.YtpfbloddhfphiaaWFoot
import Derived.Test.YtpfbloddhfphiaaWKept
import Derived.Test.YtpfbloddhfphiaaWShare
import Derived.Test.YtpfbloddhfphiaaWN
import Derived.Test.YtpfbloddhfphiaaWEqStruct
import Derived.Test.YtpfbloddhfphiaaWRepsOne
import Derived.Test.YtpfbloddhfphiaaWGuard
import Derived.Test.YtpfbloddhfphiaaWNEv
import Derived.Test.YtpfbloddhfphiaaWMore
import Derived.Deep.RegionLaw
import Derived.Laws.CopyOwn
namespace Go.Proofs.Ytpfbloddhfphiaa.K
open Go.RowKit Go.Proofs.YtpfbloddhfphiaaW.PrintWords Go.Proofs.YtpfbloddhfphiaaW.PrintLast Go.Proofs.YtpfbloddhfphiaaW.PrintMore
attribute [local go_sem] max2_int min2_int max_two min_two max_three min_three max_four min_four   -- for this text's walks alone
set_option linter.unusedVariables false
set_option linter.unusedSimpArgs false
set_option linter.unusedSectionVars false
/-! ### the places of the run fit: plain law -/
structure FI (l : List S35) (n : Nat) (pre : List Nat) (s : PS) : Prop where
  gi : GI l n pre s
  inj : ∀ a ∈ s.act, ∀ b ∈ s.act, s.out.getD a 0 = s.out.getD b 0 → a = b
  sep : ∀ a ∈ s.act, s.out.getD a 0 ∉ s.free
  fnd : s.free.Nodup
  flt : ∀ f ∈ s.free, f < (n : Int)
  rg : ∀ k, k < l.length → -1 ≤ s.out.getD k 0 ∧ s.out.getD k 0 < (n : Int)
  cf : ∀ k ∈ pre, ∀ k' ∈ pre, k ≠ k' → kp s k = true → kp s k' = true → s.out.getD k 0 = s.out.getD k' 0 → tt l k < ff l k' ∨ tt l k' < ff l k
theorem step_f {l : List S35} {n : Nat} {pre : List Nat} {s : PS} (h : FI l n pre s) (i : Nat) (hi : i < l.length) (hne : ff l i ≤ tt l i) (hni : i ∉ pre) (hpl : ∀ p ∈ pre, p < l.length) (hpi : ∀ p ∈ pre, ff l p ≤ ff l i) : FI l n (pre ++ [i]) (plStep l s i) := by
  have hst := step_k h.gi i hi hne hni hpl
  -- what is one of two that share a place has ended: told by the places of the active alone
  have core : (∀ a ∈ (plStep l s i).act, ∀ b ∈ (plStep l s i).act, (plStep l s i).out.getD a 0 = (plStep l s i).out.getD b 0 → a = b) →
      (∀ k ∈ pre, kp (plStep l s i) k = true → (plStep l s i).out.getD k 0 = s.out.getD k 0) →
      (kp (plStep l s i) i = true → i ∈ (plStep l s i).act) →
      ∀ k ∈ pre ++ [i], ∀ k' ∈ pre ++ [i], k ≠ k' → kp (plStep l s i) k = true → kp (plStep l s i) k' = true → (plStep l s i).out.getD k 0 = (plStep l s i).out.getD k' 0 → tt l k < ff l k' ∨ tt l k' < ff l k := by
    intro hinj hsame hia
    have hle : ∀ p ∈ pre ++ [i], ff l p ≤ ff l i := fun p hp => by
      rw [List.mem_append, List.mem_singleton] at hp
      rcases hp with hp | rfl
      · exact hpi p hp
      · exact Int.le_refl _
    have one : ∀ k ∈ pre, kp (plStep l s i) k = true → kp (plStep l s i) i = true → (plStep l s i).out.getD k 0 = (plStep l s i).out.getD i 0 → tt l k < ff l i := fun k hk h1 h2 h3 => by
      rcases hst.gi.gone k (List.mem_append.2 (.inl hk)) h1 with hg | ⟨p, hp, hp2⟩
      · have := hinj k hg i (hia h2) h3
        exact absurd (this ▸ hk) hni
      · have := hle p hp; omega
    intro k hk k' hk' hkk h1 h2 h3
    rw [List.mem_append, List.mem_singleton] at hk hk'
    rcases hk with hk | rfl
    · rcases hk' with hk' | rfl
      · exact h.cf k hk k' hk' hkk (hst.k3 k hk h1) (hst.k3 k' hk' h2) (by rw [← hsame k hk h1, ← hsame k' hk' h2]; exact h3)
      · exact .inl (one k hk h1 h2 h3)
    · rcases hk' with hk' | rfl
      · exact .inr (one k' hk' h2 h1 h3.symm)
      · exact absurd rfl hkk
  obtain ⟨d, e1, e2, e3, e4⟩ := plExp_spec l (ff l i) s.out s.act s.free
  obtain ⟨a1, a2, a3, a4, a5, a6⟩ := plMid_inv h.gi.inv i hi
  have hsub1 : ∀ a ∈ (plExp l (ff l i) s.out s.act s.free).1, a ∈ s.act := fun a ha => by rw [e1] at ha; exact List.mem_of_mem_drop ha
  have hsplit : (s.act.take d ++ s.act.drop d).Nodup := by rw [List.take_append_drop]; exact h.gi.nd
  rw [List.nodup_append] at hsplit
  have hsep1 : ∀ a ∈ (plExp l (ff l i) s.out s.act s.free).1, s.out.getD a 0 ∉ (plExp l (ff l i) s.out s.act s.free).2 := fun a ha hm => by
    have haa := hsub1 a ha
    rw [e3, List.mem_append] at hm
    rcases hm with hm | hm
    · exact h.sep a haa hm
    · obtain ⟨b, hb, he⟩ := List.mem_map.1 hm
      have := h.inj b (List.mem_of_mem_take hb) a haa he
      rw [e1] at ha
      exact hsplit.2.2 b hb a ha this
  have hfnd1 : (plExp l (ff l i) s.out s.act s.free).2.Nodup := by
    rw [e3, List.nodup_append]
    refine ⟨h.fnd, ?_, fun a ha b hb e => ?_⟩
    · rw [List.Nodup, List.pairwise_map]
      refine hsplit.1.imp_of_mem fun {a b} ha hb hab he => hab ?_
      exact h.inj a (List.mem_of_mem_take ha) b (List.mem_of_mem_take hb) he
    · obtain ⟨c, hc, rfl⟩ := List.mem_map.1 hb
      exact h.sep c (List.mem_of_mem_take hc) (e ▸ ha)
  have hflt1 : ∀ f ∈ (plExp l (ff l i) s.out s.act s.free).2, 0 ≤ f ∧ f < (n : Int) := fun f hf => by
    rw [e3, List.mem_append] at hf
    rcases hf with hf | hf
    · exact ⟨h.gi.fpos f hf, h.flt f hf⟩
    · obtain ⟨a, ha, rfl⟩ := List.mem_map.1 hf
      have haa := List.mem_of_mem_take ha
      have h1 := h.gi.pos a haa
      unfold kp at h1
      exact ⟨of_decide_eq_true h1, (h.rg a (h.gi.inv.alt a haa)).2⟩
  have hni1 : i ∉ (plExp l (ff l i) s.out s.act s.free).1 := fun hm => hni (h.gi.sub i (hsub1 i hm))
  have hnd2 := ins_nodup l i _ (by rw [e1]; exact h.gi.nd.sublist (List.drop_sublist _ _)) hni1
  have hki : kp s i = false := h.gi.neg i hi hne hni
  have holen := h.gi.inv.olen
  have hp2 := plIns_ne l i (plExp l (ff l i) s.out s.act s.free).1
  have hgi := hst.gi
  have hpz : ∀ k, k ∈ pre → k ≠ i := fun k hk e => hni (e ▸ hk)
  unfold plStep at *
  generalize plExp l (ff l i) s.out s.act s.free = E at *
  obtain ⟨A1, F1⟩ := E
  simp only at *
  have hmem := plIns_mem l i A1
  by_cases hF : F1.length = 0
  · obtain rfl : F1 = [] := List.eq_nil_of_length_eq_zero hF
    obtain ⟨z, hz⟩ : ∃ z, lastN (plIns l i A1) = z := ⟨_, rfl⟩
    have hzm : z ∈ plIns l i A1 := by rw [← hz]; exact lastN_mem _ hp2
    have hdl := dropLast_mem hnd2 hp2
    rw [hz] at hdl
    by_cases hzi : z = i
    · have e : plFin ⟨s.out, plIns l i A1, []⟩ i = ⟨s.out, (plIns l i A1).take ((plIns l i A1).length - 1), []⟩ := by simp [plFin, hz, hzi]
      rw [e] at core hgi ⊢
      have hact : ∀ a ∈ (plIns l i A1).take ((plIns l i A1).length - 1), a ∈ A1 := fun a ha => by
        obtain ⟨h1, h2⟩ := (hdl a).1 ha
        exact ((hmem a).1 h1).resolve_left (fun e2 => h2 (by rw [e2, hzi]))
      have hinj : ∀ a ∈ (plIns l i A1).take ((plIns l i A1).length - 1), ∀ b ∈ (plIns l i A1).take ((plIns l i A1).length - 1), s.out.getD a 0 = s.out.getD b 0 → a = b := fun a ha b hb he => h.inj a (hsub1 a (hact a ha)) b (hsub1 b (hact b hb)) he
      refine ⟨hgi, hinj, fun a _ hm => by simp at hm, List.nodup_nil, fun f hf => by simp at hf, h.rg, core hinj (fun k _ _ => rfl) (fun hk => ?_)⟩
      have hk2 : kp s i = true := hk
      rw [hki] at hk2
      exact absurd hk2 (by simp)
    · have e : plFin ⟨s.out, plIns l i A1, []⟩ i = ⟨(s.out.set i (s.out.getD z 0)).set z (-1), (plIns l i A1).take ((plIns l i A1).length - 1), []⟩ := by simp [plFin, hz, hzi]
      rw [e] at core hgi ⊢
      have hz1 : z ∈ A1 := ((hmem z).1 hzm).resolve_left hzi
      have hzl : z < l.length := a4 z hzm
      have ho : ∀ k, ((s.out.set i (s.out.getD z 0)).set z (-1)).getD k 0 = if k = z then -1 else if k = i then s.out.getD z 0 else s.out.getD k 0 := fun k => by
        rw [getD_set _ _ _ _ (by rw [List.length_set]; omega), getD_set _ _ _ _ (by omega)]
      have hact : ∀ a ∈ (plIns l i A1).take ((plIns l i A1).length - 1), a ≠ z ∧ (a = i ∨ a ∈ A1) := fun a ha => by
        obtain ⟨h1, h2⟩ := (hdl a).1 ha
        exact ⟨h2, (hmem a).1 h1⟩
      have hinj : ∀ a ∈ (plIns l i A1).take ((plIns l i A1).length - 1), ∀ b ∈ (plIns l i A1).take ((plIns l i A1).length - 1), ((s.out.set i (s.out.getD z 0)).set z (-1)).getD a 0 = ((s.out.set i (s.out.getD z 0)).set z (-1)).getD b 0 → a = b := fun a ha b hb he => by
        obtain ⟨h1, h2⟩ := hact a ha
        obtain ⟨h3, h4⟩ := hact b hb
        rw [ho, ho, if_neg h1, if_neg h3] at he
        by_cases c1 : a = i
        · by_cases c2 : b = i
          · rw [c1, c2]
          · rw [if_pos c1, if_neg c2] at he
            exact absurd (h.inj z (hsub1 z hz1) b (hsub1 b (h4.resolve_left c2)) he).symm h3
        · by_cases c2 : b = i
          · rw [if_neg c1, if_pos c2] at he
            exact absurd (h.inj a (hsub1 a (h2.resolve_left c1)) z (hsub1 z hz1) he) h1
          · rw [if_neg c1, if_neg c2] at he
            exact h.inj a (hsub1 a (h2.resolve_left c1)) b (hsub1 b (h4.resolve_left c2)) he
      refine ⟨hgi, hinj, fun a _ hm => by simp at hm, List.nodup_nil, fun f hf => by simp at hf, fun k hk => ?_, core hinj (fun k hk hkk => ?_) (fun _ => ?_)⟩
      · show -1 ≤ ((s.out.set i (s.out.getD z 0)).set z (-1)).getD k 0 ∧ _
        rw [ho]
        have := h.rg z hzl
        have := h.rg k hk
        split
        · omega
        · split <;> omega
      · show ((s.out.set i (s.out.getD z 0)).set z (-1)).getD k 0 = _
        unfold kp at hkk
        simp only at hkk
        rw [ho] at hkk ⊢
        by_cases hkz : k = z
        · rw [if_pos hkz] at hkk; exact absurd hkk (by decide)
        · rw [if_neg hkz, if_neg (hpz k hk)]
      · exact (hdl i).2 ⟨(hmem i).2 (.inl rfl), fun e2 => hzi e2.symm⟩
  · have hF0 : F1 ≠ [] := fun e => hF (by rw [e]; rfl)
    have e : plFin ⟨s.out, plIns l i A1, F1⟩ i = ⟨s.out.set i (lastI F1), plIns l i A1, F1.take (F1.length - 1)⟩ := by simp [plFin, hF0]
    rw [e] at core hgi ⊢
    have hlm := lastI_mem F1 (by omega)
    have hlp := hflt1 (lastI F1) hlm
    have ho : ∀ k, (s.out.set i (lastI F1)).getD k 0 = if k = i then lastI F1 else s.out.getD k 0 := fun k => getD_set _ _ _ _ (by omega)
    have hFl : F1 = F1.take (F1.length - 1) ++ [lastI F1] := by
      have h1 : F1.drop (F1.length - 1) = [lastI F1] := by
        rw [List.drop_eq_getElem_cons (by omega), List.drop_of_length_le (by omega)]
        unfold lastI
        rw [List.getD_eq_getElem?_getD, List.getElem?_eq_getElem (by omega : F1.length - 1 < F1.length)]
        rfl
      rw [← h1, List.take_append_drop]
    have hfn := hfnd1
    rw [hFl, List.nodup_append] at hfn
    have hinj : ∀ a ∈ plIns l i A1, ∀ b ∈ plIns l i A1, (s.out.set i (lastI F1)).getD a 0 = (s.out.set i (lastI F1)).getD b 0 → a = b := fun a ha b hb he => by
      have h2 := (hmem a).1 ha
      have h4 := (hmem b).1 hb
      rw [ho, ho] at he
      by_cases c1 : a = i
      · by_cases c2 : b = i
        · rw [c1, c2]
        · rw [if_pos c1, if_neg c2] at he
          exact absurd (he ▸ hlm) (hsep1 b (h4.resolve_left c2))
      · by_cases c2 : b = i
        · rw [if_neg c1, if_pos c2] at he
          exact absurd (he ▸ hlm) (hsep1 a (h2.resolve_left c1))
        · rw [if_neg c1, if_neg c2] at he
          exact h.inj a (hsub1 a (h2.resolve_left c1)) b (hsub1 b (h4.resolve_left c2)) he
    refine ⟨hgi, hinj, fun a ha hm => ?_, hfnd1.sublist (List.take_sublist _ _), fun f hf => (hflt1 f (List.mem_of_mem_take hf)).2, fun k hk => ?_, core hinj (fun k hk hkk => ?_) (fun _ => (hmem i).2 (.inl rfl))⟩
    · have hm2 : (s.out.set i (lastI F1)).getD a 0 ∈ F1.take (F1.length - 1) := hm
      rw [ho] at hm2
      by_cases c1 : a = i
      · rw [if_pos c1] at hm2
        exact hfn.2.2 _ hm2 (lastI F1) (by simp) rfl
      · rw [if_neg c1] at hm2
        exact hsep1 a (((hmem a).1 ha).resolve_left c1) (List.mem_of_mem_take hm2)
    · show -1 ≤ (s.out.set i (lastI F1)).getD k 0 ∧ _
      rw [ho]
      have := h.rg k hk
      split <;> omega
    · show (s.out.set i (lastI F1)).getD k 0 = _
      rw [ho, if_neg (hpz k hk)]
theorem step_keep {l : List S35} {n : Nat} {pre : List Nat} {s : PS} (h : GI l n pre s) (i : Nat) (hi : i < l.length) (k : Nat) (hk : k ∉ pre ++ [i]) : (plStep l s i).out.getD k 0 = s.out.getD k 0 := by
  obtain ⟨d, e1, _⟩ := plExp_inv l (ff l i) s.out s.act s.free
  obtain ⟨_, d2, e2⟩ := plExp_inv l (ff l i) s.out s.act s.free
  obtain ⟨_, _, _, a4, _, _⟩ := plMid_inv h.inv i hi
  have holen := h.inv.olen
  rw [List.mem_append, List.mem_singleton, not_or] at hk
  have hp2 := plIns_ne l i (plExp l (ff l i) s.out s.act s.free).1
  have hzm := lastN_mem _ hp2
  have hzk : k ≠ lastN (plIns l i (plExp l (ff l i) s.out s.act s.free).1) := fun e => by
    rcases (plIns_mem l i _ _).1 hzm with h1 | h1
    · exact hk.2 (e.trans h1)
    · rw [← e, e2] at h1
      exact hk.1 (h.sub k (List.mem_of_mem_drop h1))
  have hzl := a4 _ hzm
  unfold plStep plFin
  split
  · split
    · rfl
    · show ((s.out.set i _).set _ (-1)).getD k 0 = _
      have hzl2 : lastN (plIns l i (plExp l (ff l i) s.out s.act s.free).1) < s.out.length := by rw [holen]; exact hzl
      rw [getD_set _ _ _ _ (by rw [List.length_set]; exact hzl2), getD_set _ _ _ _ (by omega), if_neg hzk, if_neg hk.2]
  · show (s.out.set i _).getD k 0 = _
    rw [getD_set _ _ _ _ (by omega), if_neg hk.2]
theorem plOut0_at (l : List S35) (n : Nat) (k : Nat) (hk : k < l.length) : (plOut0 l n l.length).getD k 0 = if ¬ ff l k ≤ tt l k ∧ 0 < (n : Int) then 0 else -1 := by
  unfold plOut0
  rw [List.getD_eq_getElem?_getD, List.getElem?_map, List.getElem?_range hk]
  show (if k < l.length ∧ ¬ ff l k ≤ tt l k ∧ 0 < (n : Int) then (0 : Int) else -1) = _
  by_cases h : ¬ ff l k ≤ tt l k ∧ 0 < (n : Int)
  · rw [if_pos ⟨hk, h⟩, if_pos h]
  · rw [if_neg (fun h2 => h h2.2), if_neg h]
theorem fi_start (l : List S35) (n : Nat) : FI l n [] ⟨plOut0 l n l.length, [], plFree n⟩ := by
  refine ⟨gi_start l n, fun a ha => by simp at ha, fun a ha => by simp at ha, ?_, fun f hf => ?_, fun k hk => ?_, fun k hk => by simp at hk⟩
  · show ((List.range n).map fun k => ((n - 1 - k : Nat) : Int)).Nodup
    rw [List.Nodup, List.pairwise_map]
    refine List.nodup_range.imp_of_mem fun {a b} ha hb hab he => hab ?_
    rw [List.mem_range] at ha hb
    omega
  · simp only [plFree, List.mem_map, List.mem_range] at hf
    obtain ⟨a, ha, rfl⟩ := hf
    omega
  · show -1 ≤ (plOut0 l n l.length).getD k 0 ∧ (plOut0 l n l.length).getD k 0 < (n : Int)
    rw [plOut0_at l n k hk]
    split <;> omega
theorem fi_at {l : List S35} {n : Nat} {ord : List Nat} (ho : Ord l ord) : ∀ j, j ≤ ord.length → FI l n (ord.take j) (plAt l n ord j)
  | 0, _ => fi_start l n
  | j + 1, hj => by
    have ih := fi_at (n := n) ho j (by omega)
    have hm := (ho.mem _).1 (getD_mem (by omega : j < ord.length))
    have hsrt := ho.srt.sublist (List.take_sublist (j + 1) ord)
    rw [take_snoc (by omega), List.pairwise_append] at hsrt
    rw [take_snoc (by omega), plAt_succ l n ord j (by omega)]
    exact step_f ih _ hm.1 hm.2 (not_in_take ho.nd (by omega)) (fun p hp => ((ho.mem p).1 (List.mem_of_mem_take hp)).1) (fun p hp => hsrt.2.2 p hp _ (by simp))
theorem keep_at {l : List S35} {n : Nat} {ord : List Nat} (ho : Ord l ord) (k : Nat) (hk : k ∉ ord) : ∀ j, j ≤ ord.length → (plAt l n ord j).out.getD k 0 = (plOut0 l n l.length).getD k 0
  | 0, _ => rfl
  | j + 1, hj => by
    have ih := keep_at (n := n) ho k hk j (by omega)
    have hm := (ho.mem _).1 (getD_mem (by omega : j < ord.length))
    rw [plAt_succ l n ord j (by omega), ← ih]
    refine step_keep (step_at ho j (by omega)) _ hm.1 k ?_
    rw [← take_snoc (by omega)]
    exact fun h => hk (List.mem_of_mem_take h)
theorem gd1_true (c : Nat → Bool) : ∀ d j, (∀ k, j ≤ k → k < j + d → c k = false) → gd1 c d j = true
  | 0, _, _ => rfl
  | d + 1, j, h => by
    unfold gd1
    rw [h j (Nat.le_refl _) (by omega), if_neg (by simp)]
    exact gd1_true c d (j + 1) (fun k h1 h2 => h k (by omega) (by omega))
theorem gd0_true (l : List C45) (P : List Int) (n : Int) : ∀ d i, (∀ k, i ≤ k → k < i + d → badP P n k = false ∧ ∀ j, j < k → conf l P k j = false) → gd0 l P n d i = true
  | 0, _, _ => rfl
  | d + 1, i, h => by
    obtain ⟨h1, h2⟩ := h i (Nat.le_refl _) (by omega)
    unfold gd0
    rw [h1, if_neg (by simp), gd1_true _ i 0 (fun k _ hk => h2 k (by omega)), if_pos rfl]
    exact gd0_true l P n d (i + 1) (fun k h3 h4 => h k (by omega) (by omega))
/-- The places of the run fit. -/
theorem fits_good {l : List C45} {n : Nat} {ord : List Nat} (hp : ord.Perm (plOrd (spA l) l.length)) (hs : ord.Pairwise (fun a b => ff (spA l) a ≤ ff (spA l) b)) : goodB l (plRun (spA l) n ord).out (n : Int) = true := by
  have ho : Ord (spA l) ord := ord_of (by rw [spA_len]; exact hp) hs
  have hf := fi_at (n := n) ho ord.length (Nat.le_refl _)
  rw [List.take_length, plAt_all] at hf
  have hlen : (plRun (spA l) n ord).out.length = l.length := by rw [hf.gi.inv.olen, spA_len]
  unfold goodB
  rw [if_pos hlen]
  refine gd0_true _ _ _ _ _ fun i _ hi => ⟨?_, fun j hj => ?_⟩
  · have := hf.rg i (by rw [spA_len]; omega)
    unfold badP
    rw [decide_eq_false (by omega), decide_eq_false (by omega)]; rfl
  · refine Bool.eq_false_iff.2 fun hc => ?_
    unfold conf at hc
    simp only [Bool.and_eq_true, decide_eq_true_eq] at hc
    obtain ⟨⟨h1, h2⟩, h3⟩ := hc
    unfold meetB at h3
    simp only [Bool.and_eq_true, decide_eq_true_eq] at h3
    have hki : kp (plRun (spA l) n ord) i = true := decide_eq_true h1
    have hkj : kp (plRun (spA l) n ord) j = true := decide_eq_true (by rw [h2]; exact h1)
    have hmi : i ∈ ord := (ho.mem i).2 ⟨by rw [spA_len]; omega, by rw [ffA, ttA]; exact h3.1.1.1⟩
    have hmj : j ∈ ord := (ho.mem j).2 ⟨by rw [spA_len]; omega, by rw [ffA, ttA]; exact h3.1.1.2⟩
    have := hf.cf i hmi j hmj (by omega) hki hkj h2.symm
    rw [ffA, ttA, ffA, ttA] at this
    omega
theorem fits_empty {l : List C45} {n : Nat} {ord : List Nat} (hp : ord.Perm (plOrd (spA l) l.length)) (hs : ord.Pairwise (fun a b => ff (spA l) a ≤ ff (spA l) b)) (k : Nat) (hk : k < l.length) (he : (l.getD k z45).f1 < (l.getD k z45).f0) : (plRun (spA l) n ord).out.getD k 0 = min 0 ((n : Int) - 1) := by
  have ho : Ord (spA l) ord := ord_of (by rw [spA_len]; exact hp) hs
  have hno : k ∉ ord := fun h => by
    have := ((ho.mem k).1 h).2
    rw [ffA, ttA] at this; omega
  have h1 := keep_at (n := n) ho k hno ord.length (Nat.le_refl _)
  rw [plAt_all, plOut0_at _ _ _ (by rw [spA_len]; exact hk), ffA, ttA] at h1
  rw [h1]
  by_cases hn : 0 < (n : Int)
  · rw [if_pos ⟨by omega, hn⟩]; omega
  · rw [if_neg (fun h => hn h.2)]; omega
end Go.Proofs.Ytpfbloddhfphiaa.K
