import Derived.Test.YtjfleaekljapeaaDoorZGood
import Derived.Deep.DeepMust
import Derived.Test.YtjfleaekljapeaaDoorProg
import Derived.Below
import Derived.Deep.Draws
import Derived.Deep.AppendLies
import Derived.Maps.AppendAt
import Derived.OwnWalk
import Derived.Laws.BytesArg
import Derived.Laws.MakeOwn
import Derived.Laws.OwnMore
import Derived.Deep.OwnRows
import Derived.Tactics
import Derived.Lib.ConvBytes
import Derived.Laws.Slices
import Derived.WalkKit
import Derived.KernelRfl
import Derived.RowKit3
import Derived.Deep.LoopGhost
import Derived.Deep.QuietTactic
import Derived.BigQuiet
import Derived.WideLaws
import Derived.Deep.DeepCutAuto
import Derived.Deep.CutBlock
import Derived.Deep.RegionHeld3
import Derived.Deep.MidRow
import Derived.Laws.Rows
import Derived.Lib.AppendStr
import Derived.ArgAppend
import Derived.Laws.IdiomCopy
import Derived.OrdersHeld
import Derived.Laws.BitsLemmas
import Derived.RowKit
import Derived.RegionTactic
import Derived.Deep.RegionWith
import Derived.Lib.Hide
import Derived.Test.YtjfleaekljapeaaDoorWWords
import Derived.Test.YtjfleaekljapeaaDoorWLast
import Derived.Test.YtjfleaekljapeaaDoorWTab
import Derived.Test.YtjfleaekljapeaaDoorWFour
import Derived.Test.YtjfleaekljapeaaDoorWQPut
import Derived.Test.YtjfleaekljapeaaDoorWApart
import Derived.Test.YtjfleaekljapeaaDoorWArr
import Derived.Test.YtjfleaekljapeaaDoorWZeros
import Derived.Test.YtjfleaekljapeaaDoorWFoot
import Derived.Test.YtjfleaekljapeaaDoorWKept
import Derived.Test.YtjfleaekljapeaaDoorWShare
import Derived.Test.YtjfleaekljapeaaDoorWN
import Derived.Test.YtjfleaekljapeaaDoorWEqStruct
import Derived.Test.YtjfleaekljapeaaDoorWRepsOne
import Derived.Test.YtjfleaekljapeaaDoorWGuard
import Derived.Test.YtjfleaekljapeaaDoorWNEv
import Derived.Test.YtjfleaekljapeaaDoorWMore
import Derived.Deep.RegionLaw
import Derived.Laws.CopyOwn
import Derived.Shelf.Spec.TrailingZeros
import Derived.Test.YtjfleaekljapeaaDoorK35
import Derived.Laws.BitsAllLaws
import Derived.Test.YtjfleaekljapeaaDoorZFlow
import Derived.Test.YtjfleaekljapeaaDoorZSpan
import Derived.Test.YtjfleaekljapeaaDoorK36
import Derived.Test.YtjfleaekljapeaaDoorK37
namespace Go.Proofs.YtjfleaekljapeaaDoor.K
open Go.RowKit Go.Proofs.YtjfleaekljapeaaDoorW.PrintWords Go.Proofs.YtjfleaekljapeaaDoorW.PrintLast Go.Proofs.YtjfleaekljapeaaDoorW.PrintMore
attribute [local go_sem] max2_int min2_int max_two min_two max_three min_three max_four min_four   -- for this text's walks alone
set_option linter.unusedVariables false
set_option linter.unusedSimpArgs false
set_option linter.unusedSectionVars false
/-! ### what a well formed function is -/
theorem us0_wop (op : Int) : us0 op = lvWop op := by
  rw [Bool.eq_iff_iff]
  unfold us0 lvWop
  simp only [Bool.or_eq_true, beq_iff_eq]
  omega
theorem us1_ra (op : Int) : us1 op = (lvRa op || lvRab op) := by
  rw [Bool.eq_iff_iff]
  unfold us1 lvRa lvRab
  simp only [Bool.or_eq_true, beq_iff_eq]
  omega
theorem us2_rab (op : Int) : us2 op = lvRab op := rfl
theorem ra_not_rab (op : Int) (h : lvRa op = true) : lvRab op = false := by
  cases h2 : lvRab op with
  | false => rfl
  | true =>
    exfalso
    unfold lvRa at h
    unfold lvRab at h2
    simp only [Bool.or_eq_true, beq_iff_eq] at h h2
    omega
theorem mem_getD {l : List Int} {r : Int} (h : r ∈ l) : ∃ q, q < l.length ∧ l.getD q 0 = r := by
  obtain ⟨q, hq, e⟩ := List.mem_iff_getElem.1 h
  exact ⟨q, hq, by rw [List.getD_eq_getElem?_getD, List.getElem?_eq_getElem hq]; exact e⟩
theorem all_mem {nk : Nat} {l : List Int} {once : Bool} (h : allB nk l once = true) : ∀ r ∈ l, 0 ≤ r ∧ r < nk := by
  intro r hr
  obtain ⟨q, hq, e⟩ := mem_getD hr
  have := (((allB_iff _ _ _).1 h) q (Nat.zero_le _) hq).1
  rwa [e] at this
theorem all_nodup {nk : Nat} {l : List Int} (h : allB nk l true = true) : l.Nodup := by
  refine List.pairwise_iff_getElem.2 fun i j hi hj hij e => ?_
  have := (((allB_iff _ _ _).1 h) j (Nat.zero_le _) hj).2 rfl i hij
  apply this
  rw [List.getD_eq_getElem?_getD, List.getD_eq_getElem?_getD, List.getElem?_eq_getElem hi, List.getElem?_eq_getElem hj, e]
theorem nodup_len : ∀ (n : Nat) (l : List Int), l.Nodup → (∀ x ∈ l, 0 ≤ x ∧ x < n) → l.length ≤ n
  | 0, l, _, h => by
    cases l with
    | nil => simp
    | cons a t => have := h a (by simp); omega
  | n + 1, l, hn, h => by
    by_cases hm : (n : Int) ∈ l
    · have ih := nodup_len n (l.erase n) (hn.erase _) (fun x hx => by
        have h1 := (hn.mem_erase_iff).1 hx
        have h2 := h x h1.2
        have h3 := h1.1
        omega)
      rw [List.length_erase_of_mem hm] at ih
      omega
    · have ih := nodup_len n l hn (fun x hx => by
        have h2 := h x hx
        have h3 : x ≠ n := fun e => hm (e ▸ hx)
        omega)
      omega
structure InsP (nk ns nc : Nat) (i : S44) : Prop where
  r1 : lvWop i.f0 = true → 0 ≤ i.f1 ∧ i.f1 < nk
  o0 : lvWop i.f0 = true → i.f8 = []
  r2 : (lvRa i.f0 || lvRab i.f0) = true → 0 ≤ i.f2 ∧ i.f2 < nk
  r3 : lvRab i.f0 = true → 0 ≤ i.f3 ∧ i.f3 < nk
  args : ∀ r ∈ i.f7, 0 ≤ r ∧ r < nk
  outs : ∀ r ∈ i.f8, 0 ≤ r ∧ r < nk
  ol : i.f8.length ≤ nk
  tgt : 0 ≤ i.f9 ∧ i.f9 < nc
theorem ins_p {nk ns nc : Nat} {i : S44} (h : insB nk ns nc i = true) : InsP nk ns nc i := by
  unfold insB at h
  simp only [Bool.and_eq_true] at h
  obtain ⟨_, h1, h2, h3, _, h5, h6, h7, _, h9, _, _⟩ := h
  rw [us0_wop] at h1
  rw [us1_ra] at h2
  rw [us2_rab] at h3
  unfold regB at h1 h2 h3
  have hO := all_mem h7
  refine ⟨fun e => ?_, fun e => ?_, fun e => ?_, fun e => ?_, all_mem h6, hO, nodup_len nk _ (all_nodup h7) hO, ?_⟩
  · rw [e, if_pos rfl, th_iff] at h1; exact h1
  · unfold lenB at h5
    have e0 : liO i.f0 = 0 := by
      unfold lvWop at e
      simp only [Bool.or_eq_true, beq_iff_eq] at e
      unfold liO
      rw [if_neg (by omega), if_neg (by omega), if_neg (by omega)]
    rw [e0] at h5
    simp at h5
    exact List.length_eq_zero_iff.1 (by simpa using h5)
  · rw [e, if_pos rfl, th_iff] at h2; exact h2
  · rw [e, if_pos rfl, th_iff] at h3; exact h3
  · unfold toB at h9
    simp only [Bool.and_eq_true, Bool.not_eq_true', decide_eq_false_iff_not] at h9
    omega
structure CodeOk (nk : Nat) (code : List S44) : Prop where
  pos : 0 < code.length
  len : code.length ≤ 80
  next : ∀ n, n < code.length → ∀ m ∈ lvNext code n, ∃ q : Nat, m = q ∧ q < code.length
  wr : ∀ n, n < code.length → ∀ r ∈ lvWrites (rd_T44 code n), 0 ≤ r ∧ r < nk
  rds : ∀ n, n < code.length → ∀ r ∈ lvReads (rd_T44 code n), 0 ≤ r ∧ r < nk
  outs : ∀ n, n < code.length → (rd_T44 code n).f8.length ≤ 40
  wrm : ∀ n, n < code.length → ∀ r, r ∈ lvWrites (rd_T44 code n) ↔ wrB (rd_T44 code n) r = true
  rdm : ∀ n, n < code.length → ∀ r, r ∈ lvReads (rd_T44 code n) ↔ rdB (rd_T44 code n) r = true
theorem code_ok {l2 l3 : List Int} {code : List S44} (h : fitsB l2 l3 code = true) : l2.length ≤ 40 ∧ CodeOk l2.length code := by
  unfold fitsB goodB fnB at h
  simp only [Bool.and_eq_true, decide_eq_true_eq] at h
  obtain ⟨hc, hk, _, ⟨_, hc0, _, _, _, hcode, hlast⟩, _⟩ := h
  have hins : ∀ n, n < code.length → InsP l2.length l3.length code.length (rd_T44 code n) := fun n hn => ins_p (List.all_eq_true.1 hcode n (List.mem_range.2 hn))
  refine ⟨hk, ?_⟩
  constructor
  · omega
  · exact hc
  · intro n hn m hm
    have hi := hins n hn
    have hto : ∃ q : Nat, (rd_T44 code n).f9 = q ∧ q < code.length := ⟨(rd_T44 code n).f9.toNat, by have := hi.tgt; omega, by have := hi.tgt; omega⟩
    have hlt : ¬ ((rd_T44 code n).f0 = 43 ∨ (rd_T44 code n).f0 = 22) → (rd_T44 code n).f0 ≠ 18 → n + 1 < code.length := by
      intro h1 h2
      by_cases e : n = code.length - 1
      · unfold lastB at hlast
        rw [← e] at hlast
        simp only [Bool.or_eq_true, beq_iff_eq] at hlast
        omega
      · omega
    unfold lvNext at hm
    split at hm
    · cases hm
    · rename_i h1
      split at hm
      · simp only [List.mem_singleton] at hm; subst hm; exact hto
      · rename_i h2
        split at hm
        · simp only [List.mem_cons, List.not_mem_nil, or_false] at hm
          rcases hm with rfl | rfl
          · exact ⟨n + 1, by omega, hlt h1 h2⟩
          · exact hto
        · simp only [List.mem_singleton] at hm; subst hm
          exact ⟨n + 1, by omega, hlt h1 h2⟩
  · intro n hn r hr
    have hi := hins n hn
    unfold lvWrites at hr
    split at hr
    · rename_i h1
      simp only [List.mem_singleton] at hr; subst hr
      exact hi.r1 h1
    · exact hi.outs r hr
  · intro n hn r hr
    have hi := hins n hn
    unfold lvReads lvPre at hr
    rw [List.mem_append] at hr
    rcases hr with hr | hr
    · split at hr
      · rename_i h1
        simp only [List.mem_singleton] at hr; subst hr
        exact hi.r2 (by rw [h1]; rfl)
      · split at hr
        · rename_i h1
          simp only [List.mem_cons, List.not_mem_nil, or_false] at hr
          rcases hr with rfl | rfl
          · exact hi.r2 (by rw [h1, Bool.or_true])
          · exact hi.r3 h1
        · cases hr
    · exact hi.args r hr
  · intro n hn
    have := (hins n hn).ol
    omega
  · intro n hn r
    have hi := hins n hn
    unfold lvWrites wrB
    rw [us0_wop]
    cases e : lvWop (rd_T44 code n).f0 with
    | true =>
      rw [hi.o0 e]
      simp
      exact ⟨fun h => h.symm, fun h => h.symm⟩
    | false => simp
  · intro n hn r
    unfold lvReads lvPre rdB
    rw [us1_ra, us2_rab]
    cases e : lvRa (rd_T44 code n).f0 with
    | true =>
      rw [ra_not_rab _ e]
      simp
      constructor <;> rintro (h | h)
      · exact .inl h.symm
      · exact .inr h
      · exact .inl h.symm
      · exact .inr h
    | false =>
      cases e2 : lvRab (rd_T44 code n).f0 with
      | true =>
        simp
        constructor <;> rintro (h | h | h)
        · exact .inl h.symm
        · exact .inr (.inl h.symm)
        · exact .inr (.inr h)
        · exact .inl h.symm
        · exact .inr (.inl h.symm)
        · exact .inr (.inr h)
      | false => simp
end Go.Proofs.YtjfleaekljapeaaDoor.K
namespace Go.Proofs.YtjfleaekljapeaaDoor.K
open Go.RowKit Go.Proofs.YtjfleaekljapeaaDoorW.PrintWords Go.Proofs.YtjfleaekljapeaaDoorW.PrintLast Go.Proofs.YtjfleaekljapeaaDoorW.PrintMore
attribute [local go_sem] max2_int min2_int max_two min_two max_three min_three max_four min_four   -- for this text's walks alone
set_option linter.unusedVariables false
set_option linter.unusedSimpArgs false
set_option linter.unusedSectionVars false
/-! ### which registers are live: the least sets, by the program's sweep and by the document's -/
open Go.Proofs.YtjfleaekljapeaaDoor.EvLib
def stp (code : List S44) (r : Int) (S : Nat → Bool) (n : Nat) : Bool := rdB (rd_T44 code n) r || ((lvNext code n).any (fun m => S m.toNat) && !wrB (rd_T44 code n) r)
theorem stp_mono {code : List S44} {r : Int} {S T : Nat → Bool} {n : Nat} (h : ∀ m ∈ lvNext code n, S m.toNat = true → T m.toNat = true) (hs : stp code r S n = true) : stp code r T n = true := by
  unfold stp at hs ⊢
  rw [Bool.or_eq_true, Bool.and_eq_true, List.any_eq_true] at hs ⊢
  rcases hs with h1 | ⟨⟨m, h1, h2⟩, h3⟩
  · exact .inl h1
  · exact .inr ⟨⟨m, h1, h m h1 h2⟩, h3⟩
def IsFix (code : List S44) (r : Int) (S : Nat → Bool) : Prop := ∀ n, n < code.length → S n = stp code r S n
structure Least (code : List S44) (r : Int) (S : Nat → Bool) : Prop where
  fix : IsFix code r S
  le : ∀ T, IsFix code r T → ∀ n, n < code.length → S n = true → T n = true
theorem Least.uniq {code : List S44} {r : Int} {S T : Nat → Bool} (hs : Least code r S) (ht : Least code r T) (n : Nat) (hn : n < code.length) : S n = T n := by
  rw [Bool.eq_iff_iff]
  exact ⟨hs.le T ht.fix n hn, ht.le S hs.fix n hn⟩
theorem countP_less {α : Type} {p q : α → Bool} : ∀ {l : List α}, (∀ x ∈ l, p x = true → q x = true) → ∀ {x}, x ∈ l → q x = true → p x = false → l.countP p < l.countP q
  | a :: l, h, x, hx, hq, hp => by
    have hl : l.countP p ≤ l.countP q := List.countP_mono_left (fun y hy hpy => h y (List.mem_cons_of_mem _ hy) hpy)
    rw [List.countP_cons, List.countP_cons]
    rcases List.mem_cons.1 hx with rfl | hx
    · rw [hp, hq]; simp; omega
    · have ih := countP_less (fun y hy => h y (List.mem_cons_of_mem _ hy)) hx hq hp
      have ha := h a List.mem_cons_self
      cases e : p a with
      | true => rw [ha e]; simp; omega
      | false => cases q a <;> simp <;> omega
/-- While the document's sweep runs: no bit too many, none without cause. -/
structure Inv (code : List S44) (r : Int) (S : Nat → Bool) : Prop where
  post : ∀ n, n < code.length → S n = true → stp code r S n = true
  le : ∀ T, IsFix code r T → ∀ n, n < code.length → S n = true → T n = true
def upd (S : Nat → Bool) (n : Nat) (b : Bool) (m : Nat) : Bool := if m = n then b else S m
section
variable {nk : Nat} {code : List S44} (hok : CodeOk nk code) {r : Int}
include hok
theorem Inv.add {S : Nat → Bool} (h : Inv code r S) {n : Nat} (hn : n < code.length) (hs : stp code r S n = true) : Inv code r (upd S n true) := by
  have hup : ∀ m, S m = true → upd S n true m = true := fun m hm => by unfold upd; split <;> simp [hm]
  refine ⟨fun m hm hmt => ?_, fun T hT m hm hmt => ?_⟩
  · refine stp_mono (fun q _ => hup _) ?_
    by_cases e : m = n
    · subst e; exact hs
    · unfold upd at hmt
      rw [if_neg e] at hmt
      exact h.post m hm hmt
  · by_cases e : m = n
    · subst e
      rw [hT m hm]
      refine stp_mono (fun q hq hsq => ?_) hs
      obtain ⟨q', e, hq'⟩ := hok.next m hm q hq
      subst e
      exact h.le T hT _ hq' hsq
    · unfold upd at hmt
      rw [if_neg e] at hmt
      exact h.le T hT m hm hmt
theorem inv_zero : Inv code r (fun _ => false) := ⟨fun _ _ h => (by cases h), fun _ _ _ _ h => (by cases h)⟩
omit hok in
theorem Inv.least {S : Nat → Bool} (h : Inv code r S) (hf : ∀ n, n < code.length → stp code r S n = true → S n = true) : Least code r S :=
  ⟨fun n hn => by rw [Bool.eq_iff_iff]; exact ⟨h.post n hn, hf n hn⟩, h.le⟩
end
/-! the document's Of -/
def bl (o : List Bool) (n : Nat) : Bool := o.getD n false
theorem bl_set (o : List Bool) (n : Nat) (hn : n < o.length) : bl (o.set n true) = upd (bl o) n true := by
  funext m
  show (o.set n true).getD m false = if m = n then true else o.getD m false
  rw [List.getD_eq_getElem?_getD, List.getD_eq_getElem?_getD]
  by_cases e : m = n
  · subst e; rw [if_pos rfl, List.getElem?_set_self hn]; rfl
  · rw [if_neg e, List.getElem?_set_ne (fun h => e h.symm)]
theorem rdOf_bl (o : List Bool) (n : Nat) : rdOf false o (n : Int) = bl o n := by unfold rdOf bl; rw [Int.toNat_natCast]
def falses (len : Nat) (o : List Bool) : Nat := (List.range len).countP fun n => !(bl o n)
section
variable {nk : Nat} {code : List S44} (hok : CodeOk nk code) (nm : ByteArray) (l1 l2 l3 : List Int) (r : Int)
include hok
/-- The document's inner loop: what comes behind it is handed over. -/
theorem of_ev2' (o : List Bool) (ho : o.length = code.length) (again : Bool) (n : Nat) (hn : n < code.length) (R : List Bool) (l : List Int) (hl : ∀ m ∈ l, ∃ q : Nat, m = q ∧ q < code.length) (hll : l.length ≤ 2) :
    ∀ (d j : Nat) (b : Bool), l.length - j = d → j ≤ l.length →
      (Ev (fun k => hauberkref15_Of.l2 k r o again (n : Int) (b || ((l.drop j).any (fun m => bl o m.toNat) && !wrB (rd_T44 code n) r)) l (code.length : Int) (n : Int) (l.length : Int) (l.length : Int) nm l1 l2 l3 code) R) →
      Ev (fun k => hauberkref15_Of.l2 k r o again (n : Int) b l (code.length : Int) (n : Int) (l.length : Int) (j : Int) nm l1 l2 l3 code) R
  | 0, j, b, hd, hj, h => by
    obtain rfl : j = l.length := by omega
    rw [List.drop_length] at h
    simpa using h
  | d + 1, j, b, hd, hj, h => by
    have c : j < l.length := by omega
    have hdr : l.drop j = l.getD j 0 :: l.drop (j + 1) := by rw [List.drop_eq_getElem_cons c, List.getD_eq_getElem?_getD, List.getElem?_eq_getElem c]; rfl
    obtain ⟨q, eq, hq⟩ := hl _ (getD_mem l j c)
    rw [hdr, List.any_cons] at h
    refine Ev.succ ?_
    simp only [hauberkref15_Of.l2]
    rw [w64_nat j (by omega)]
    refine Ev.pos (by omega) ?_
    cases b with
    | true =>
      refine Ev.pos rfl ?_
      refine of_ev2' o ho again n hn R l hl hll d (j + 1) true (by omega) (by omega) ?_
      simpa using h
    | false =>
      rw [rd_nat, eq, rdOf_bl]
      rw [eq, Int.toNat_natCast] at h
      refine Ev.neg (by decide) (Ev.pos (by omega) (Ev.pos (by omega) (Ev.pos (by omega) (Ev.pos (by rw [ho]; omega) ?_))))
      cases hb : bl o q with
      | true =>
        refine Ev.pos rfl (Ev.pos (by omega) (Ev.pos (by omega) ?_))
        refine Ev.bind (a := wrB (rd_T44 code n) r) (Ev.now _) ?_
        refine of_ev2' o ho again n hn R l hl hll d (j + 1) _ (by omega) (by omega) ?_
        rw [hb] at h
        cases hw : wrB (rd_T44 code n) r with
        | true => rw [hw] at h; simpa using h
        | false => rw [hw] at h; simpa using h
      | false =>
        refine Ev.neg (by decide) ?_
        refine of_ev2' o ho again n hn R l hl hll d (j + 1) false (by omega) (by omega) ?_
        rw [hb] at h
        simpa using h
/-- One instruction of the document's sweep. -/
theorem of_ev1 (o : List Bool) (ho : o.length = code.length) (again : Bool) (n : Nat) (hn : n < code.length) (R : List Bool)
    (h : Ev (fun k => hauberkref15_Of.l1 k r (if (stp code r (bl o) n && !(bl o n)) = true then o.set n true else o) (if (stp code r (bl o) n && !(bl o n)) = true then true else again) (code.length : Int) ((n + 1 : Nat) : Int) nm l1 l2 l3 code) R) :
    Ev (fun k => hauberkref15_Of.l1 k r o again (code.length : Int) (n : Int) nm l1 l2 l3 code) R := by
  have hlen := hok.len
  refine Ev.succ ?_
  simp only [hauberkref15_Of.l1]
  refine Ev.pos (by omega) (Ev.pos (by omega) (Ev.pos (by omega) ?_))
  refine Ev.bind (a := rdB (rd_T44 code n) r) (Ev.now _) ?_
  refine Ev.bind (a := lvNext code n) ⟨1, fun k hk => by obtain ⟨k', rfl⟩ : ∃ k', k = k' + 1 := ⟨k - 1, by omega⟩; exact follow_f k' nm l1 l2 l3 code n hn (by omega)⟩ ?_
  refine of_ev2' hok nm l1 l2 l3 r o ho again n hn R (lvNext code n) (hok.next n hn) (lvNext_len code n) (lvNext code n).length 0 (rdB (rd_T44 code n) r) (by omega) (by omega) ?_
  rw [List.drop_zero]
  have e : (rdB (rd_T44 code n) r || ((lvNext code n).any (fun m => bl o m.toNat) && !wrB (rd_T44 code n) r)) = stp code r (bl o) n := rfl
  rw [e]
  refine Ev.succ ?_
  simp only [hauberkref15_Of.l2]
  rw [w64_nat n (by omega), rdOf_bl]
  refine Ev.neg (by omega) ?_
  cases hs : stp code r (bl o) n with
  | false =>
    rw [hs, Bool.false_and, if_neg (by decide), if_neg (by decide)] at h
    exact Ev.neg (by decide) h
  | true =>
    rw [hs, Bool.true_and] at h
    refine Ev.pos rfl (Ev.pos (by omega) (Ev.pos (by rw [ho]; omega) ?_))
    cases hb : bl o n with
    | true =>
      rw [hb, if_neg (by decide), if_neg (by decide)] at h
      exact Ev.pos rfl h
    | false =>
      rw [hb, if_pos (by decide), if_pos (by decide)] at h
      rw [Int.toNat_natCast]
      exact Ev.neg (by decide) h
theorem of_pass : ∀ (c0 d n : Nat) (o : List Bool) (again : Bool), code.length - n = d → n ≤ code.length → o.length = code.length → Inv code r (bl o) → falses code.length o ≤ c0 → (again = true → falses code.length o < c0) → (again = false → ∀ i, i < n → stp code r (bl o) i = true → bl o i = true) →
    ∃ R, Ev (fun k => hauberkref15_Of.l1 k r o again (code.length : Int) (n : Int) nm l1 l2 l3 code) R ∧ R.length = code.length ∧ Least code r (bl R)
  | 0, 0, n, o, true, hd, hn, ho, hI, hc, ha, hf => by
    have := ha rfl
    omega
  | c0 + 1, 0, n, o, true, hd, hn, ho, hI, hc, ha, hf => by
    obtain rfl : n = code.length := by omega
    have hlt := ha rfl
    obtain ⟨R, h1, h2, h3⟩ := of_pass c0 code.length 0 o false (by omega) (by omega) ho hI (by omega) (fun h => by cases h) (fun _ i hi => by omega)
    refine ⟨R, ?_, h2, h3⟩
    refine Ev.succ ?_
    simp only [hauberkref15_Of.l1]
    refine Ev.neg (by omega) (Ev.succ ?_)
    simp only [hauberkref15_Of.l0]
    exact Ev.pos trivial h1
  | c0, 0, n, o, false, hd, hn, ho, hI, hc, ha, hf => by
    obtain rfl : n = code.length := by omega
    refine ⟨o, ?_, ho, hI.least (hf rfl)⟩
    refine Ev.succ ?_
    simp only [hauberkref15_Of.l1]
    refine Ev.neg (by omega) (Ev.succ ?_)
    simp only [hauberkref15_Of.l0]
    exact Ev.neg (by decide) (Ev.now _)
  | c0, d + 1, n, o, again, hd, hn, ho, hI, hc, ha, hf => by
    have hlt : n < code.length := by omega
    cases hs : (stp code r (bl o) n && !(bl o n)) with
    | false =>
      obtain ⟨R, h1, h2, h3⟩ := of_pass c0 d (n + 1) o again (by omega) (by omega) ho hI hc ha (fun e i hi hst => by
        by_cases e2 : i = n
        · subst e2
          rw [hst, Bool.true_and] at hs
          cases hb : bl o i with
          | true => rfl
          | false => rw [hb] at hs; cases hs
        · exact hf e i (by omega) hst)
      refine ⟨R, of_ev1 hok nm l1 l2 l3 r o ho again n hlt R ?_, h2, h3⟩
      rw [hs, if_neg (by decide), if_neg (by decide)]
      exact h1
    | true =>
      rw [Bool.and_eq_true] at hs
      have hb : bl o n = false := by simpa using hs.2
      have ho2 : (o.set n true).length = code.length := by rw [List.length_set]; exact ho
      have hfl : falses code.length (o.set n true) < falses code.length o := by
        unfold falses
        refine countP_less (fun m _ hm => ?_) (List.mem_range.2 hlt) (x := n) (by rw [hb]; rfl) (by rw [bl_set o n (by omega)]; simp [upd])
        rw [bl_set o n (by omega)] at hm
        unfold upd at hm
        split at hm
        · simp at hm
        · exact hm
      obtain ⟨R, h1, h2, h3⟩ := of_pass c0 d (n + 1) (o.set n true) true (by omega) (by omega) ho2 (by rw [bl_set o n (by omega)]; exact hI.add hok hlt hs.1) (by omega) (fun _ => by omega) (fun e => by cases e)
      refine ⟨R, of_ev1 hok nm l1 l2 l3 r o ho again n hlt R ?_, h2, h3⟩
      rw [hs.1, hb, if_pos (by decide), if_pos (by decide)]
      exact h1
termination_by c0 d => (c0, d)
theorem of_is : ∃ R, Ev (fun k => hauberkref15_Of.f k nm l1 l2 l3 code r) R ∧ R.length = code.length ∧ Least code r (bl R) := by
  have hlen := hok.len
  have hz : bl (List.replicate code.length false) = fun _ => false := by
    funext m
    unfold bl
    rw [List.getD_eq_getElem?_getD, List.getElem?_replicate]
    split <;> rfl
  obtain ⟨R, h1, h2, h3⟩ := of_pass hok nm l1 l2 l3 r (falses code.length (List.replicate code.length false)) code.length 0 (List.replicate code.length false) false (by omega) (by omega) (by simp) (by rw [hz]; exact inv_zero hok) (Nat.le_refl _) (fun h => by cases h) (fun _ i hi => by omega)
  refine ⟨R, ?_, h2, h3⟩
  unfold hauberkref15_Of.f
  rw [Int.toNat_natCast]
  refine Ev.pos (by omega) (Ev.pos (by omega) (Ev.succ ?_))
  simp only [hauberkref15_Of.l0]
  exact Ev.pos trivial h1
end
end Go.Proofs.YtjfleaekljapeaaDoor.K
namespace Go.Proofs.YtjfleaekljapeaaDoor.K
open Go.RowKit Go.Proofs.YtjfleaekljapeaaDoorW.PrintWords Go.Proofs.YtjfleaekljapeaaDoorW.PrintLast Go.Proofs.YtjfleaekljapeaaDoorW.PrintMore
attribute [local go_sem] max2_int min2_int max_two min_two max_three min_three max_four min_four   -- for this text's walks alone
set_option linter.unusedVariables false
set_option linter.unusedSimpArgs false
set_option linter.unusedSectionVars false
/-! ### the program's sets, bit by bit -/
theorem and_not_bit (a b : Nat) (ha : a < 18446744073709551616) (hb : b < 18446744073709551616) : ∃ y : Nat, Go.bits .andNot .u64 (a : Int) (b : Int) = (y : Int) ∧ y < 18446744073709551616 ∧ ∀ i, y.testBit i = (a.testBit i && !b.testBit i) := by
  refine ⟨a &&& (18446744073709551615 - b), u64_andNot_nat a b ha hb, Nat.lt_of_le_of_lt Nat.and_le_left ha, fun i => ?_⟩
  rw [Nat.testBit_and]
  have e : 18446744073709551615 - b = 2 ^ 64 - (b + 1) := by omega
  rw [e, Nat.testBit_two_pow_sub_succ (by omega)]
  by_cases hi : i < 64
  · simp [hi]
  · have h0 : a.testBit i = false := Nat.testBit_lt_two_pow (Nat.lt_of_lt_of_le ha (by
      have : 2 ^ 64 ≤ 2 ^ i := Nat.pow_le_pow_right (by omega) (by omega)
      exact this))
    simp [h0]
theorem or_bit (a b : Nat) (ha : a < 18446744073709551616) (hb : b < 18446744073709551616) : ∃ y : Nat, Go.bits .or .u64 (a : Int) (b : Int) = (y : Int) ∧ y < 18446744073709551616 ∧ ∀ i, y.testBit i = (a.testBit i || b.testBit i) :=
  ⟨a ||| b, bits_or_u64_nat a b ha hb, Nat.or_lt_two_pow (n := 64) ha hb, fun i => Nat.testBit_or a b i⟩
theorem two_pow_nat (q : Nat) : (2 : Int) ^ q = ((2 ^ q : Nat) : Int) := by simp
theorem put_bit (x : Nat) (hx : x < 18446744073709551616) (q : Nat) (hq : q < 64) (b : Bool) : ∃ y : Nat, lvPut (x : Int) (q : Int) b = (y : Int) ∧ y < 18446744073709551616 ∧ ∀ i, y.testBit i = if i = q then b else x.testBit i := by
  have hp : 2 ^ q < 18446744073709551616 := Nat.pow_lt_pow_right (show 1 < 2 by omega) hq
  unfold lvPut
  rw [Int.toNat_natCast, two_pow_nat]
  obtain ⟨y, e1, h1, h2⟩ := and_not_bit x (2 ^ q) hx hp
  rw [e1]
  cases b with
  | false =>
    refine ⟨y, by rw [if_neg (by decide)], h1, fun i => ?_⟩
    rw [h2, Nat.testBit_two_pow]
    by_cases e : i = q
    · subst e; simp
    · rw [if_neg e]
      have : decide (q = i) = false := by simp; omega
      rw [this]; simp
  | true =>
    obtain ⟨z, e2, h3, h4⟩ := or_bit y (2 ^ q) h1 hp
    refine ⟨z, by rw [if_pos rfl]; exact e2, h3, fun i => ?_⟩
    rw [h4, h2, Nat.testBit_two_pow]
    by_cases e : i = q
    · subst e; simp
    · rw [if_neg e]
      have : decide (q = i) = false := by simp; omega
      rw [this]; simp
theorem puts_bit (b : Bool) : ∀ (l : List Int) (x : Nat), x < 18446744073709551616 → (∀ r ∈ l, 0 ≤ r ∧ r < 64) → ∃ y : Nat, lvPuts b (x : Int) l = (y : Int) ∧ y < 18446744073709551616 ∧ ∀ i : Nat, y.testBit i = if (i : Int) ∈ l then b else x.testBit i
  | [], x, hx, _ => ⟨x, rfl, hx, fun i => by simp⟩
  | r :: t, x, hx, h => by
    obtain ⟨h0, h1⟩ := h r List.mem_cons_self
    obtain ⟨q, rfl⟩ := Int.eq_ofNat_of_zero_le h0
    obtain ⟨y, e1, hy, hb⟩ := put_bit x hx q (by omega) b
    obtain ⟨z, e2, hz, hb2⟩ := puts_bit b t y hy (fun r hr => h r (List.mem_cons_of_mem _ hr))
    refine ⟨z, ?_, hz, fun i => ?_⟩
    · have e3 : lvPuts b (x : Int) ((q : Int) :: t) = lvPuts b (lvPut (x : Int) (q : Int) b) t := rfl
      rw [e3, e1]
      exact e2
    · rw [hb2, hb]
      by_cases h1 : (i : Int) ∈ t
      · rw [if_pos h1, if_pos (List.mem_cons_of_mem _ h1)]
      · rw [if_neg h1]
        by_cases h2 : i = q
        · subst h2
          rw [if_pos rfl, if_pos List.mem_cons_self]
        · rw [if_neg h2, if_neg (by
            intro h3
            rcases List.mem_cons.1 h3 with h4 | h4
            · exact h2 (by omega)
            · exact h1 h4)]
/-- All entries are words. -/
def Words (L : List Int) : Prop := ∀ n : Nat, ∃ x : Nat, rd L (n : Int) = (x : Int) ∧ x < 18446744073709551616
def lb (L : List Int) (r : Nat) (n : Nat) : Bool := (rd L (n : Int)).toNat.testBit r
theorem ors_bit {L : List Int} (hL : Words L) : ∀ (l : List Int) (x : Nat), x < 18446744073709551616 → (∀ m ∈ l, ∃ q : Nat, m = q) → ∃ y : Nat, l.foldl (lvOr L) (x : Int) = (y : Int) ∧ y < 18446744073709551616 ∧ ∀ i : Nat, y.testBit i = (x.testBit i || l.any (fun m => lb L i m.toNat))
  | [], x, hx, _ => ⟨x, rfl, hx, fun i => by simp⟩
  | m :: t, x, hx, h => by
    obtain ⟨q, rfl⟩ := h m List.mem_cons_self
    obtain ⟨u, eu, hu⟩ := hL q
    obtain ⟨y, e1, hy, hb⟩ := or_bit x u hx hu
    obtain ⟨z, e2, hz, hb2⟩ := ors_bit hL t y hy (fun r hr => h r (List.mem_cons_of_mem _ hr))
    refine ⟨z, ?_, hz, fun i => ?_⟩
    · rw [List.foldl_cons]
      have e3 : lvOr L (x : Int) (q : Int) = (y : Int) := by unfold lvOr; rw [eu]; exact e1
      rw [e3]
      exact e2
    · rw [hb2, hb, List.any_cons]
      unfold lb
      rw [Int.toNat_natCast, eu, Int.toNat_natCast, Bool.or_assoc]
section
variable {nk : Nat} {code : List S44} (hok : CodeOk nk code) (h64 : nk ≤ 64)
include hok h64
theorem now_bit {L : List Int} (hL : Words L) (n : Nat) (hn : n < code.length) : ∃ y : Nat, lvNow code L n = (y : Int) ∧ y < 18446744073709551616 ∧ ∀ i : Nat, y.testBit i = stp code (i : Int) (lb L i) n := by
  obtain ⟨x, e1, hx, hb1⟩ := ors_bit hL (lvNext code n) 0 (by omega) (fun m hm => by obtain ⟨q, e, _⟩ := hok.next n hn m hm; exact ⟨q, e⟩)
  obtain ⟨y, e2, hy, hb2⟩ := puts_bit false (lvWrites (rd_T44 code n)) x hx (fun r hr => by have := hok.wr n hn r hr; omega)
  obtain ⟨z, e3, hz, hb3⟩ := puts_bit true (lvReads (rd_T44 code n)) y hy (fun r hr => by have := hok.rds n hn r hr; omega)
  refine ⟨z, ?_, hz, fun i => ?_⟩
  · unfold lvNow
    rw [show ((0 : Int)) = ((0 : Nat) : Int) from rfl, e1, e2, e3]
  · rw [hb3, hb2, hb1]
    unfold stp
    by_cases hr : (i : Int) ∈ lvReads (rd_T44 code n)
    · rw [if_pos hr, (hok.rdm n hn i).1 hr, Bool.true_or]
    · rw [if_neg hr]
      have e4 : rdB (rd_T44 code n) i = false := by
        cases e : rdB (rd_T44 code n) i with
        | false => rfl
        | true => exact absurd ((hok.rdm n hn i).2 e) hr
      rw [e4, Bool.false_or]
      by_cases hw : (i : Int) ∈ lvWrites (rd_T44 code n)
      · rw [if_pos hw, (hok.wrm n hn i).1 hw]; simp
      · have e5 : wrB (rd_T44 code n) i = false := by
          cases e : wrB (rd_T44 code n) i with
          | false => rfl
          | true => exact absurd ((hok.wrm n hn i).2 e) hw
        rw [if_neg hw, e5]; simp
end
end Go.Proofs.YtjfleaekljapeaaDoor.K
namespace Go.Proofs.YtjfleaekljapeaaDoor.K
open Go.RowKit Go.Proofs.YtjfleaekljapeaaDoorW.PrintWords Go.Proofs.YtjfleaekljapeaaDoorW.PrintLast Go.Proofs.YtjfleaekljapeaaDoorW.PrintMore
attribute [local go_sem] max2_int min2_int max_two min_two max_three min_three max_four min_four   -- for this text's walks alone
set_option linter.unusedVariables false
set_option linter.unusedSimpArgs false
set_option linter.unusedSectionVars false
/-! ### the program's sweep ends at the least sets -/
structure Inv2 (code : List S44) (L : List Int) : Prop where
  words : Words L
  len : L.length = code.length + 1
  inv : ∀ r : Nat, Inv code (r : Int) (lb L r)
def pairs (len : Nat) : List (Nat × Nat) := (List.range len).flatMap fun n => (List.range 64).map fun r => (n, r)
theorem mem_pairs {len n r : Nat} (hn : n < len) (hr : r < 64) : (n, r) ∈ pairs len := by
  unfold pairs
  rw [List.mem_flatMap]
  exact ⟨n, List.mem_range.2 hn, List.mem_map.2 ⟨r, List.mem_range.2 hr, rfl⟩⟩
def pot (len : Nat) (L : List Int) : Nat := (pairs len).countP fun p => !(lb L p.2 p.1)
theorem lb_set (L : List Int) (n : Nat) (y : Nat) (hn : n < L.length) (r : Nat) : lb (L.set n (y : Int)) r = upd (lb L r) n (y.testBit r) := by
  funext m
  show (rd (L.set n (y : Int)) (m : Int)).toNat.testBit r = if m = n then y.testBit r else lb L r m
  by_cases e : m = n
  · subst e
    rw [if_pos rfl, rd_set_eq L m _ hn, Int.toNat_natCast]
  · rw [if_neg e, rd_set_ne L n m _ (fun h => e h.symm)]
    rfl
theorem words_set {L : List Int} (h : Words L) (n : Nat) (y : Nat) (hy : y < 18446744073709551616) : Words (L.set n (y : Int)) := by
  intro m
  by_cases e : n = m
  · subst e
    by_cases hn : n < L.length
    · exact ⟨y, by rw [rd_set_eq L n _ hn], hy⟩
    · rw [List.set_eq_of_length_le (by omega)]
      exact h n
  · rw [rd_set_ne L n m _ e]
    exact h m
theorem bits_big (x : Nat) (hx : x < 18446744073709551616) (i : Nat) (hi : 64 ≤ i) : x.testBit i = false := Nat.testBit_lt_two_pow (Nat.lt_of_lt_of_le hx (by
  have : 2 ^ 64 ≤ 2 ^ i := Nat.pow_le_pow_right (by omega) hi
  exact this))
section
variable {nk : Nat} {code : List S44} (hok : CodeOk nk code) (h64 : nk ≤ 64)
include hok h64
/-- One instruction of the program's sweep. -/
theorem in_step {L : List Int} (h : Inv2 code L) (n : Nat) (hn : n < code.length) : ∃ y : Nat, lvNow code L n = (y : Int) ∧ Inv2 code (L.set n (y : Int)) ∧ pot code.length (L.set n (y : Int)) ≤ pot code.length L ∧ (lvNow code L n ≠ rd L (n : Int) → pot code.length (L.set n (y : Int)) < pot code.length L) := by
  obtain ⟨y, e, hy, hb⟩ := now_bit hok h64 h.words n hn
  have hlb : ∀ r : Nat, lb (L.set n (y : Int)) r = upd (lb L r) n (stp code (r : Int) (lb L r) n) := fun r => by rw [lb_set L n y (by rw [h.len]; omega) r, hb]
  have hup : ∀ (r m : Nat), lb L r m = true → lb (L.set n (y : Int)) r m = true := fun r m hm => by
    rw [hlb]
    unfold upd
    split
    · rename_i e2
      subst e2
      exact (h.inv r).post m hn hm
    · exact hm
  refine ⟨y, e, ⟨words_set h.words n y hy, by rw [List.length_set]; exact h.len, fun r => ?_⟩, ?_, fun hne => ?_⟩
  · rw [hlb]
    cases hs : stp code (r : Int) (lb L r) n with
    | true => exact (h.inv r).add hok hn hs
    | false =>
      have e2 : upd (lb L r) n false = lb L r := by
        funext m
        unfold upd
        split
        · rename_i e3
          subst e3
          cases h0 : lb L r m with
          | false => rfl
          | true =>
            have := (h.inv r).post m hn h0
            rw [hs] at this
            cases this
        · rfl
      rw [e2]
      exact h.inv r
  · unfold pot
    refine List.countP_mono_left fun p _ hp => ?_
    cases h0 : lb L p.2 p.1 with
    | false => rfl
    | true =>
      rw [hup _ _ h0] at hp
      cases hp
  · obtain ⟨x, ex, hx⟩ := h.words n
    have hxy : x ≠ y := fun e2 => hne (by rw [e, ex, e2])
    obtain ⟨i, hi⟩ : ∃ i, x.testBit i ≠ y.testBit i := by
      refine Classical.byContradiction fun hc => hxy (Nat.eq_of_testBit_eq fun i => ?_)
      exact Classical.byContradiction fun h1 => hc ⟨i, h1⟩
    have hi64 : i < 64 := by
      refine Classical.byContradiction fun hc => hi ?_
      rw [bits_big x hx i (by omega), bits_big y hy i (by omega)]
    have hxl : lb L i n = x.testBit i := by unfold lb; rw [ex, Int.toNat_natCast]
    have hyl : lb (L.set n (y : Int)) i n = y.testBit i := by rw [lb_set L n y (by rw [h.len]; omega)]; simp [upd]
    have hx0 : lb L i n = false := by
      cases h0 : lb L i n with
      | false => rfl
      | true =>
        have h1 := hup i n h0
        rw [hyl] at h1
        rw [hxl] at h0
        exact absurd (h0.trans h1.symm) hi
    have hy1 : lb (L.set n (y : Int)) i n = true := by
      rw [hyl]
      rw [hxl] at hx0
      rw [hx0] at hi
      cases h0 : y.testBit i with
      | true => rfl
      | false => exact absurd h0.symm hi
    unfold pot
    refine countP_less (fun p _ hp => ?_) (mem_pairs hn hi64) (by rw [hx0]; rfl) (by rw [hy1]; rfl)
    cases h0 : lb L p.2 p.1 with
    | false => rfl
    | true =>
      rw [hup _ _ h0] at hp
      cases hp
theorem in_spec : ∀ (p : Nat) (L : List Int) (m : Bool), p ≤ code.length → Inv2 code L →
    Inv2 code (lvIn code p L m).1 ∧ pot code.length (lvIn code p L m).1 ≤ pot code.length L ∧ ((lvIn code p L m).2 = true → m = true ∨ pot code.length (lvIn code p L m).1 < pot code.length L) ∧
      ((lvIn code p L m).2 = false → m = false ∧ (lvIn code p L m).1 = L ∧ ∀ i, i < p → lvNow code L i = rd L (i : Int))
  | 0, L, m, hp, h => ⟨h, Nat.le_refl _, fun hm => .inl hm, fun hm => ⟨hm, rfl, fun i hi => by omega⟩⟩
  | p + 1, L, m, hp, h => by
    obtain ⟨y, e, hI, hle, hlt⟩ := in_step hok h64 h p (by omega)
    rw [lvIn]
    by_cases c : lvNow code L p = rd L (p : Int)
    · rw [if_pos c]
      obtain ⟨h1, h2, h3, h4⟩ := in_spec p L m (by omega) h
      refine ⟨h1, h2, h3, fun hm => ?_⟩
      obtain ⟨h5, h6, h7⟩ := h4 hm
      refine ⟨h5, h6, fun i hi => ?_⟩
      by_cases e2 : i = p
      · subst e2; exact c
      · exact h7 i (by omega)
    · rw [if_neg c, e]
      obtain ⟨h1, h2, h3, h4⟩ := in_spec p (L.set p (y : Int)) true (by omega) hI
      have h5 := hlt c
      refine ⟨h1, by omega, fun _ => .inr (by omega), fun hm => ?_⟩
      have := (h4 hm).1
      cases this
theorem run_is : ∀ (c : Nat) (L : List Int), pot code.length L ≤ c → Inv2 code L → ∃ K R, lvRun code K L = some R ∧ Words R ∧ R.length = code.length + 1 ∧ ∀ r : Nat, _root_.Go.Proofs.YtjfleaekljapeaaDoor.K.Least code (r : Int) (lb R r)
  | c, L, hc, h => by
    obtain ⟨h1, h2, h3, h4⟩ := in_spec hok h64 code.length L false (Nat.le_refl _) h
    cases hm : (lvIn code code.length L false).2 with
    | false =>
      obtain ⟨_, h6, h7⟩ := h4 hm
      refine ⟨1, (lvIn code code.length L false).1, by rw [lvRun, hm, if_neg (by decide)], h1.words, h1.len, fun r => (h1.inv r).least fun n hn hs => ?_⟩
      rw [h6] at hs ⊢
      obtain ⟨y, e, _, hb⟩ := now_bit hok h64 h.words n hn
      unfold lb
      rw [← h7 n hn, e, Int.toNat_natCast, hb]
      exact hs
    | true =>
      have hlt : pot code.length (lvIn code code.length L false).1 < pot code.length L := by
        rcases h3 hm with h5 | h5
        · cases h5
        · exact h5
      match c, hc with
      | 0, hc => omega
      | c + 1, hc =>
        obtain ⟨K, R, h5, h6⟩ := run_is c (lvIn code code.length L false).1 (by omega) h1
        exact ⟨K + 1, R, by rw [lvRun, hm, if_pos rfl]; exact h5, h6⟩
theorem live_run : ∃ K R, lvRun code K (List.replicate (code.length + 1) 0) = some R ∧ Words R ∧ R.length = code.length + 1 ∧ ∀ r : Nat, Least code (r : Int) (lb R r) := by
  have hz : ∀ m : Nat, rd (List.replicate (code.length + 1) (0 : Int)) (m : Int) = 0 := fun m => by
    unfold rd
    rw [Int.toNat_natCast, List.getD_eq_getElem?_getD, List.getElem?_replicate]
    split <;> rfl
  refine run_is hok h64 (pot code.length (List.replicate (code.length + 1) 0)) _ (Nat.le_refl _) ⟨fun n => ⟨0, by rw [hz]; rfl, by omega⟩, by simp, fun r => ?_⟩
  have e : lb (List.replicate (code.length + 1) 0) r = fun _ => false := by
    funext m
    unfold lb
    rw [hz]
    simp
  rw [e]
  exact inv_zero hok
end
end Go.Proofs.YtjfleaekljapeaaDoor.K
namespace Go.Proofs.YtjfleaekljapeaaDoor.K
open Go.RowKit Go.Proofs.YtjfleaekljapeaaDoorW.PrintWords Go.Proofs.YtjfleaekljapeaaDoorW.PrintLast Go.Proofs.YtjfleaekljapeaaDoorW.PrintMore
attribute [local go_sem] max2_int min2_int max_two min_two max_three min_three max_four min_four   -- for this text's walks alone
set_option linter.unusedVariables false
set_option linter.unusedSimpArgs false
set_option linter.unusedSectionVars false
/-! ### the spans, register by register -/
open Go.Proofs.YtjfleaekljapeaaDoor.EvLib
theorem spWith_twice (p : Int × Int) (n : Int) : spWith (spWith p n) n = spWith p n := by
  obtain ⟨a, b⟩ := p
  unfold spWith mn mx
  by_cases h : b < a
  · simp [h]
  · simp only [h, if_false]
    repeat' split
    all_goals first | rfl | (exfalso; omega) | (congr 1 <;> omega)
theorem put_getD (n : Int) (l : List (Int × Int)) (q r : Nat) (hr : r < l.length) : (spPut n l (q : Int)).getD r (0, -1) = if q = r then spWith (l.getD r (0, -1)) n else l.getD r (0, -1) := by
  unfold spPut
  rw [Int.toNat_natCast, List.getD_eq_getElem?_getD]
  by_cases e : q = r
  · subst e
    rw [if_pos rfl, List.getElem?_set_self hr]; rfl
  · rw [if_neg e, List.getElem?_set_ne e, List.getD_eq_getElem?_getD]
theorem fold_at (n : Int) : ∀ (rs : List Int) (l : List (Int × Int)) (r : Nat), (∀ x ∈ rs, 0 ≤ x) → r < l.length → (rs.foldl (spPut n) l).getD r (0, -1) = if (r : Int) ∈ rs then spWith (l.getD r (0, -1)) n else l.getD r (0, -1)
  | [], l, r, _, _ => by simp
  | x :: t, l, r, h, hr => by
    obtain ⟨q, rfl⟩ := Int.eq_ofNat_of_zero_le (h x List.mem_cons_self)
    rw [List.foldl_cons, fold_at n t _ r (fun y hy => h y (List.mem_cons_of_mem _ hy)) (by rw [spPut_length]; exact hr), put_getD n l q r hr]
    by_cases e : q = r
    · subst e
      rw [if_pos rfl, if_pos List.mem_cons_self]
      split
      · exact spWith_twice _ _
      · rfl
    · rw [if_neg e]
      by_cases ht : (r : Int) ∈ t
      · rw [if_pos ht, if_pos (List.mem_cons_of_mem _ ht)]
      · rw [if_neg ht, if_neg (by
          intro h2
          rcases List.mem_cons.1 h2 with h3 | h3
          · exact e (by omega)
          · exact ht h3)]
theorem spw_new (n : Int) : spWith (0, -1) n = (n, n) := by
  unfold spWith
  rw [if_pos (by show (-1 : Int) < 0; omega)]
theorem spw_up (a b n : Int) (h1 : a ≤ b) (h2 : b < n) : spWith (a, b) n = (a, n) := by
  unfold spWith mn mx
  show (if b < a then _ else ((if n < a then n else a), (if b < n then n else b))) = _
  rw [if_neg (by omega), if_neg (by omega), if_pos h2]
theorem spw_zero (a b : Int) (h0 : 0 ≤ a) (h1 : a ≤ b) : spWith (a, b) 0 = (0, b) := by
  unfold spWith mn mx
  show (if b < a then _ else ((if 0 < a then 0 else a), (if b < 0 then 0 else b))) = _
  rw [if_neg (by omega), if_neg (show ¬ b < 0 by omega)]
  congr 1
  split <;> omega
/-- Of one register: the span after k instructions. -/
def spOne (ev : Nat → Bool) : Nat → Int × Int
  | 0 => (0, -1)
  | k + 1 => if ev k = true then spWith (spOne ev k) k else spOne ev k
theorem spOne_shape (ev : Nat → Bool) : ∀ k : Nat, spOne ev k = (0, -1) ∨ ∃ a b : Int, spOne ev k = (a, b) ∧ 0 ≤ a ∧ a ≤ b ∧ b < k
  | 0 => .inl rfl
  | k + 1 => by
    have ih := spOne_shape ev k
    unfold spOne
    split
    · right
      rcases ih with e | ⟨a, b, e, h1, h2, h3⟩
      · rw [e]
        exact ⟨k, k, spw_new _, by omega, by omega, by omega⟩
      · rw [e]
        exact ⟨a, k, spw_up a b k h2 h3, by omega, by omega, by omega⟩
    · rcases ih with e | ⟨a, b, e, h1, h2, h3⟩
      · exact .inl e
      · exact .inr ⟨a, b, e, h1, h2, by omega⟩
/-- The document's. -/
def rfOne (ev : Nat → Bool) (p : Bool) : Nat → Int × Int
  | 0 => (0, -1)
  | k + 1 => if (ev k || (k == 0 && p)) = true then (if (rfOne ev p k).2 < 0 then ((k : Int), (k : Int)) else ((rfOne ev p k).1, (k : Int))) else rfOne ev p k
theorem rf_is (ev : Nat → Bool) (p : Bool) : ∀ k : Nat, rfOne ev p (k + 1) = if p = true then spWith (spOne ev (k + 1)) 0 else spOne ev (k + 1)
  | 0 => by
    simp only [rfOne, spOne]
    cases ev 0 <;> cases p <;> simp [spWith, mn, mx]
  | k + 1 => by
    have ih := rf_is ev p k
    have hs := spOne_shape ev (k + 1)
    have e1 : rfOne ev p (k + 1 + 1) = if ev (k + 1) = true then (if (rfOne ev p (k + 1)).2 < 0 then (((k + 1 : Nat) : Int), ((k + 1 : Nat) : Int)) else ((rfOne ev p (k + 1)).1, ((k + 1 : Nat) : Int))) else rfOne ev p (k + 1) := by
      rw [rfOne]
      have : ((k + 1 == 0) && p) = false := by simp
      rw [this, Bool.or_false]
    have e2 : spOne ev (k + 1 + 1) = if ev (k + 1) = true then spWith (spOne ev (k + 1)) ((k + 1 : Nat) : Int) else spOne ev (k + 1) := rfl
    rw [e1, e2, ih]
    have hkk : (0 : Int) ≤ ((k + 1 : Nat) : Int) := by omega
    generalize ((k + 1 : Nat) : Int) = kk at *
    cases hev : ev (k + 1) with
    | false => simp
    | true =>
      rw [if_pos rfl, if_pos rfl]
      rcases hs with e | ⟨a, b, e, h1, h2, h3⟩
      · rw [e]
        cases p with
        | true =>
          rw [if_pos rfl, if_pos rfl, spw_new, spw_new]
          show (if (0 : Int) < 0 then _ else ((0 : Int), kk)) = _
          rw [if_neg (by omega), spw_zero kk kk hkk (Int.le_refl _)]
        | false =>
          simp only [Bool.false_eq_true, if_false, spw_new]
          simp
      · rw [e]
        cases p with
        | true =>
          rw [if_pos rfl, if_pos rfl, spw_zero a b h1 h2, spw_up a b kk h2 h3, spw_zero a kk h1 (by omega)]
          show (if b < 0 then _ else ((0 : Int), kk)) = _
          rw [if_neg (by omega)]
        | false =>
          simp only [Bool.false_eq_true, if_false]
          rw [spw_up a b kk h2 h3]
          show (if b < 0 then _ else (a, kk)) = _
          rw [if_neg (by omega)]
/-! the program's lists -/
theorem lvLists_get {R : List Int} (len n : Nat) (hR : R.length = len + 1) (hn : n < len) : (lvLists R len).getD n [] = lvMem (rd R (n : Int)).toNat := by
  unfold lvLists rd
  rw [List.getD_eq_getElem?_getD, List.getElem?_map, List.getElem?_take, if_pos hn, Int.toNat_natCast, List.getD_eq_getElem?_getD, List.getElem?_eq_getElem (by omega)]
  rfl
def evOf (code : List S44) (R : List Int) (r n : Nat) : Bool := lb R r n || wrB (rd_T44 code n) (r : Int)
section
variable {nk : Nat} {code : List S44} (hok : CodeOk nk code) (h64 : nk ≤ 64) {R : List Int} (hW : Words R) (hlen : R.length = code.length + 1)
include hok h64 hW hlen
theorem line_mem (n : Nat) (hn : n < code.length) (r : Nat) : ((r : Int) ∈ (lvLists R code.length).getD n [] ++ lvWrites (rd_T44 code n)) ↔ evOf code R r n = true := by
  obtain ⟨x, ex, hx⟩ := hW n
  rw [List.mem_append, lvLists_get code.length n hlen hn, hok.wrm n hn, ex, Int.toNat_natCast, mem_lvMem 64 x (Nat.le_refl _) hx r]
  unfold evOf lb
  rw [ex, Int.toNat_natCast, Bool.or_eq_true]
theorem line_nonneg (n : Nat) (hn : n < code.length) : ∀ x ∈ (lvLists R code.length).getD n [] ++ lvWrites (rd_T44 code n), 0 ≤ x := by
  intro x hx
  rcases List.mem_append.1 hx with h | h
  · rw [lvLists_get code.length n hlen hn] at h
    exact lvMem_nonneg _ x h
  · exact (hok.wr n hn x h).1
theorem lines_len : ∀ k : Nat, (spLines (lvLists R code.length) code nk k).length = nk
  | 0 => by simp [spLines]
  | k + 1 => by
    unfold spLines
    rw [List.range_succ, List.foldl_append]
    show (spLine _ _ (spLines (lvLists R code.length) code nk k) k).length = nk
    unfold spLine
    rw [spFold_length]
    exact lines_len k
theorem lines_at (r : Nat) (hr : r < nk) : ∀ k : Nat, k ≤ code.length → (spLines (lvLists R code.length) code nk k).getD r (0, -1) = spOne (evOf code R r) k
  | 0, _ => by
    unfold spLines spOne
    rw [List.range_zero, List.foldl_nil, List.getD_eq_getElem?_getD, List.getElem?_replicate]
    split <;> rfl
  | k + 1, hk => by
    have e : spLines (lvLists R code.length) code nk (k + 1) = spLine (lvLists R code.length) code (spLines (lvLists R code.length) code nk k) k := by
      unfold spLines
      rw [List.range_succ, List.foldl_append]
      rfl
    rw [e]
    unfold spLine
    rw [fold_at (k : Int) _ _ r (line_nonneg hok h64 hW hlen k (by omega)) (by rw [lines_len hok h64 hW hlen]; exact hr), lines_at r hr k (by omega)]
    show _ = if evOf code R r k = true then _ else _
    by_cases h : evOf code R r k = true
    · rw [if_pos h, if_pos ((line_mem hok h64 hW hlen k (by omega) r).2 h)]
    · rw [if_neg h, if_neg (fun h2 => h ((line_mem hok h64 hW hlen k (by omega) r).1 h2))]
theorem res_at (params : List Int) (hp : ∀ x ∈ params, 0 ≤ x) (r : Nat) (hr : r < nk) : (spRes (lvLists R code.length) code nk params).getD r (0, -1) = rfOne (evOf code R r) (decide ((r : Int) ∈ params)) code.length := by
  have hpos := hok.pos
  obtain ⟨k, hk⟩ : ∃ k, code.length = k + 1 := ⟨code.length - 1, by omega⟩
  unfold spRes
  rw [fold_at 0 params _ r hp (by rw [lines_len hok h64 hW hlen]; exact hr), lines_at hok h64 hW hlen r hr code.length (Nat.le_refl _), hk, rf_is]
  by_cases h : (r : Int) ∈ params
  · rw [if_pos h, if_pos (decide_eq_true h)]
  · rw [if_neg h, if_neg (by simpa using h)]
theorem res_len (params : List Int) : (spRes (lvLists R code.length) code nk params).length = nk := by
  unfold spRes
  rw [spFold_length]
  exact lines_len hok h64 hW hlen code.length
end
end Go.Proofs.YtjfleaekljapeaaDoor.K
namespace Go.Proofs.YtjfleaekljapeaaDoor.K
open Go.RowKit Go.Proofs.YtjfleaekljapeaaDoorW.PrintWords Go.Proofs.YtjfleaekljapeaaDoorW.PrintLast Go.Proofs.YtjfleaekljapeaaDoorW.PrintMore
attribute [local go_sem] max2_int min2_int max_two min_two max_three min_three max_four min_four   -- for this text's walks alone
set_option linter.unusedVariables false
set_option linter.unusedSimpArgs false
set_option linter.unusedSectionVars false
/-! ### hauberklaw15.SpanSpans (4), typed by hand -/
open Go.Proofs.YtjfleaekljapeaaDoor.EvLib
theorem words_mem {R : List Int} (h : Words R) : ∀ x ∈ R, 0 ≤ x ∧ x < 18446744073709551616 := by
  intro x hx
  obtain ⟨n, hn, e⟩ := List.mem_iff_getElem.1 hx
  obtain ⟨y, h1, h2⟩ := h n
  have h3 : rd R (n : Int) = x := by
    unfold rd
    rw [Int.toNat_natCast, List.getD_eq_getElem?_getD, List.getElem?_eq_getElem hn, ← e]; rfl
  rw [h3] at h1
  omega
theorem live_ok {nk : Nat} {code : List S44} (h : CodeOk nk code) (h64 : nk < 64) (ha : ∀ n, n < code.length → (rd_T44 code n).f7.length ≤ 17592186043904) : LvOk code where
  len := by have := h.len; omega
  next := fun n hn m hm => by obtain ⟨q, e, hq⟩ := h.next n hn m hm; omega
  wr := fun n hn r hr => by have := h.wr n hn r hr; omega
  rds := fun n hn r hr => by have := h.rds n hn r hr; omega
  args := ha
  outs := fun n hn => by have := h.outs n hn; omega
theorem lb_high {nk : Nat} {code : List S44} (hok : CodeOk nk code) {R : List Int} (hL : ∀ r : Nat, Least code (r : Int) (lb R r)) (r : Nat) (hr : nk ≤ r) (n : Nat) (hn : n < code.length) : lb R r n = false := by
  have hf : IsFix code (r : Int) (fun _ => false) := by
    intro m hm
    unfold stp
    have h1 : rdB (rd_T44 code m) (r : Int) = false := by
      cases e : rdB (rd_T44 code m) (r : Int) with
      | false => rfl
      | true => have := hok.rds m hm _ ((hok.rdm m hm _).2 e); omega
    rw [h1]; simp
  cases e : lb R r n with
  | false => rfl
  | true => exact absurd ((hL r).le _ hf n hn e) (by simp)
structure LwSt (w0 w : World) (g : Nat) (fc : Array Value) : Prop where
  hf : w.heap[g]? = some (.cells fc 25 (0, 0))
  lo : w0.heap.size ≤ g
  below : Below w0.heap.size w0 w
theorem LwSt.step {w0 w w' : World} {g : Nat} {fc : Array Value} (h : LwSt w0 w g fc) (hb : Below w.heap.size w w') : LwSt w0 w' g fc := ⟨blk_below h.hf hb, h.lo, below_step h.below hb⟩
theorem LwSt.put5 {w0 w : World} {g : Nat} {a0 a1 a2 a3 a4 : Value} (h : LwSt w0 w g #[a0, a1, a2, a3, a4]) (b0 b1 b2 b3 b4 : Value) : LwSt w0 (((((w.setCell ⟨g, 0, none⟩ b0).setCell ⟨g, 1, none⟩ b1).setCell ⟨g, 2, none⟩ b2).setCell ⟨g, 3, none⟩ b3).setCell ⟨g, 4, none⟩ b4) g #[b0, b1, b2, b3, b4] :=
  ⟨fn_put5 h.hf _ _ _ _ _, h.lo, fn_below5 h.below h.lo _ _ _ _ _⟩
end Go.Proofs.YtjfleaekljapeaaDoor.K
namespace Go.Proofs.YtjfleaekljapeaaDoor.K
open Go.RowKit Go.Proofs.YtjfleaekljapeaaDoorW.PrintWords Go.Proofs.YtjfleaekljapeaaDoorW.PrintLast Go.Proofs.YtjfleaekljapeaaDoorW.PrintMore
attribute [local go_sem] max2_int min2_int max_two min_two max_three min_three max_four min_four   -- for this text's walks alone
set_option linter.unusedVariables false
set_option linter.unusedSimpArgs false
set_option linter.unusedSectionVars false
/-! ### the document's Live in plain words; the members of a word -/
open Go.Proofs.YtjfleaekljapeaaDoor.EvLib
theorem mem_filter : ∀ (n x : Nat), n ≤ 64 → x < 2 ^ n → lvMem x = ((List.range n).filter fun r => x.testBit r).map (fun (r : Nat) => (r : Int))
  | 0, x, _, hx => by
    obtain rfl : x = 0 := by omega
    rw [lvMem_zero]; rfl
  | n + 1, x, hn, hx => by
    rw [Nat.pow_succ] at hx
    have h64 : 2 ^ n * 2 ≤ 18446744073709551616 := by
      have : 2 ^ (n + 1) ≤ 2 ^ 64 := Nat.pow_le_pow_right (by omega) hn
      rw [Nat.pow_succ] at this
      exact this
    have ih := mem_filter n (x / 2) (by omega) (by omega)
    have hf : ((List.range n).map Nat.succ).filter (fun r => x.testBit r) = ((List.range n).filter fun r => (x / 2).testBit r).map Nat.succ := by
      rw [List.filter_map]
      congr 1
      refine List.filter_congr fun r _ => ?_
      show x.testBit (r + 1) = _
      rw [Nat.testBit_succ]
    have hmm : (((List.range n).filter fun r => (x / 2).testBit r).map Nat.succ).map (fun (r : Nat) => (r : Int)) = (((List.range n).filter fun r => (x / 2).testBit r).map (fun (r : Nat) => (r : Int))).map (· + 1) := by
      rw [List.map_map, List.map_map]
      refine List.map_congr_left fun r _ => ?_
      show ((r + 1 : Nat) : Int) = (r : Int) + 1
      omega
    rw [List.range_succ_eq_map, List.filter_cons, hf]
    rcases Nat.mod_two_eq_zero_or_one x with h | h
    · have hb : x.testBit 0 = false := by simp [Nat.testBit_zero, h]
      rw [hb, if_neg (by decide), hmm, ← ih]
      conv => lhs; rw [show x = 2 * (x / 2) by omega, lvMem_double _ (by omega)]
    · have hb : x.testBit 0 = true := by simp [Nat.testBit_zero, h]
      rw [hb, if_pos rfl, List.map_cons, hmm, ← ih]
      conv => lhs; rw [show x = 2 * (x / 2) + 1 by omega, lvMem_odd _ (by omega)]
      rfl
/-- Of one instruction the registers below nk that are live. -/
def liveAt (R : List Int) (nk n : Nat) : List Int := ((List.range nk).filter fun r => lb R r n).map (fun (r : Nat) => (r : Int))
def wantL (R : List Int) (len nk : Nat) : List (List Int) := (List.range len).map fun n => liveAt R nk n
theorem liveAt_succ (R : List Int) (r n : Nat) : liveAt R (r + 1) n = if lb R r n = true then liveAt R r n ++ [(r : Int)] else liveAt R r n := by
  unfold liveAt
  rw [List.range_succ, List.filter_append]
  by_cases h : lb R r n = true
  · simp [h, List.filter]
  · simp [h, List.filter]
theorem liveAt_len (R : List Int) (r n : Nat) : (liveAt R r n).length ≤ r := by
  unfold liveAt
  rw [List.length_map]
  exact Nat.le_trans (List.length_filter_le _ _) (by simp)
def mixL (R : List Int) (len r n : Nat) : List (List Int) := (List.range len).map fun m => if m < n then liveAt R (r + 1) m else liveAt R r m
theorem mix_zero (R : List Int) (len r : Nat) : mixL R len r 0 = wantL R len r := by
  unfold mixL wantL
  refine List.map_congr_left fun m _ => by rw [if_neg (by omega)]
theorem mix_end (R : List Int) (len r : Nat) : mixL R len r len = wantL R len (r + 1) := by
  unfold mixL wantL
  refine List.map_congr_left fun m hm => by rw [if_pos (List.mem_range.1 hm)]
theorem mix_len (R : List Int) (len r n : Nat) : (mixL R len r n).length = len := by unfold mixL; simp
theorem mix_get (R : List Int) (len r n : Nat) (hn : n < len) : rd_L3 (mixL R len r n) (n : Int) = liveAt R r n := by
  unfold rd_L3 mixL
  rw [Int.toNat_natCast, List.getD_eq_getElem?_getD, List.getElem?_map, List.getElem?_range hn]
  show (if n < n then _ else liveAt R r n) = _
  rw [if_neg (by omega)]
theorem mix_set (R : List Int) (len r n : Nat) (hn : n < len) : (mixL R len r n).set n (liveAt R (r + 1) n) = mixL R len r (n + 1) := by
  unfold mixL
  refine List.ext_getElem (by simp) fun m h1 h2 => ?_
  rw [List.getElem_set]
  simp only [List.getElem_map, List.getElem_range]
  by_cases e : n = m
  · subst e
    rw [if_pos rfl, if_pos (by omega)]
  · rw [if_neg e]
    by_cases h : m < n
    · rw [if_pos h, if_pos (by omega)]
    · rw [if_neg h, if_neg (by omega)]
theorem mix_same (R : List Int) (len r n : Nat) (h : lb R r n = false) : mixL R len r (n + 1) = mixL R len r n := by
  unfold mixL
  refine List.map_congr_left fun m _ => ?_
  by_cases e : m = n
  · subst e
    rw [if_pos (by omega), if_neg (by omega), liveAt_succ, h, if_neg (by decide)]
  · by_cases h2 : m < n
    · rw [if_pos (by omega), if_pos h2]
    · rw [if_neg (by omega), if_neg h2]
section
variable {nk : Nat} {code : List S44} (hok : CodeOk nk code) (nm : ByteArray) (l1 l2 l3 : List Int)
include hok
theorem lv_ev1 {R : List Int} (r : Nat) (hr : r < 40) (o : List Bool) (ho : o.length = code.length) (hb : ∀ n, n < code.length → bl o n = lb R r n) (Rs : List (List Int))
    (h : Ev (fun k => hauberkref15_Live.l0 k (wantL R code.length (r + 1)) (l2.length : Int) ((r + 1 : Nat) : Int) nm l1 l2 l3 code) Rs) :
    ∀ (d n : Nat), code.length - n = d → n ≤ code.length → Ev (fun k => hauberkref15_Live.l1 k (mixL R code.length r n) (r : Int) o (l2.length : Int) (r : Int) (code.length : Int) (n : Int) nm l1 l2 l3 code) Rs
  | 0, n, hd, hn => by
    obtain rfl : n = code.length := by omega
    refine Ev.succ ?_
    simp only [hauberkref15_Live.l1]
    rw [w64_nat r (by omega), mix_end]
    exact Ev.neg (by omega) h
  | d + 1, n, hd, hn => by
    have c : n < code.length := by omega
    have hlen := hok.len
    have ih := lv_ev1 r hr o ho hb Rs h d (n + 1) (by omega) (by omega)
    refine Ev.succ ?_
    simp only [hauberkref15_Live.l1]
    rw [w64_nat n (by omega), rdOf_bl, hb n c, mix_get R code.length r n c, mix_len, Int.toNat_natCast]
    refine Ev.pos (by omega) (Ev.pos (by omega) (Ev.pos (by rw [ho]; omega) ?_))
    cases hl : lb R r n with
    | true =>
      have hs := liveAt_succ R r n
      rw [hl, if_pos rfl] at hs
      have hll := liveAt_len R r n
      rw [← mix_set R code.length r n c, hs] at ih
      exact Ev.pos rfl (Ev.pos (by omega) (Ev.pos (by omega) ih))
    | false =>
      rw [mix_same R code.length r n hl] at ih
      exact Ev.neg (by decide) ih
theorem lv_ev0 {R : List Int} (hL : ∀ r : Nat, Least code (r : Int) (lb R r)) (hnk : l2.length ≤ 40) : ∀ (d r : Nat), l2.length - r = d → r ≤ l2.length →
    Ev (fun k => hauberkref15_Live.l0 k (wantL R code.length r) (l2.length : Int) (r : Int) nm l1 l2 l3 code) (wantL R code.length l2.length)
  | 0, r, hd, hr => by
    obtain rfl : r = l2.length := by omega
    refine Ev.succ ?_
    simp only [hauberkref15_Live.l0]
    exact Ev.neg (by omega) (Ev.now _)
  | d + 1, r, hd, hr => by
    have c : r < l2.length := by omega
    have ih := lv_ev0 hL hnk d (r + 1) (by omega) (by omega)
    obtain ⟨o, h1, h2, h3⟩ := of_is hok nm l1 l2 l3 (r : Int)
    refine Ev.succ ?_
    simp only [hauberkref15_Live.l0]
    refine Ev.pos (by omega) (Ev.bind h1 ?_)
    rw [h2, ← mix_zero]
    exact lv_ev1 hok nm l1 l2 l3 r (by omega) o h2 (fun n hn => ((hL r).uniq h3 n hn).symm) _ ih code.length 0 (by omega) (by omega)
theorem lv_is {R : List Int} (hL : ∀ r : Nat, Least code (r : Int) (lb R r)) (hnk : l2.length ≤ 40) : Ev (fun k => hauberkref15_Live.f k nm l1 l2 l3 code) (wantL R code.length l2.length) := by
  have hlen := hok.len
  unfold hauberkref15_Live.f
  have h0 : wantL R code.length 0 = List.replicate code.length [] := by
    unfold wantL liveAt
    refine List.ext_getElem (by simp) fun m h1 h2 => by simp
  have := lv_ev0 hok nm l1 l2 l3 hL hnk l2.length 0 (by omega) (by omega)
  rw [h0] at this
  rw [Int.toNat_natCast]
  exact Ev.pos (by omega) (Ev.pos (by omega) this)
/-- What the program tells and what the document tells are the same lists. -/
theorem lists_want {R : List Int} (h64 : nk ≤ 64) (hW : Words R) (hlen : R.length = code.length + 1) (hL : ∀ r : Nat, Least code (r : Int) (lb R r)) : lvLists R code.length = wantL R code.length nk := by
  refine List.ext_getElem (by unfold lvLists wantL; simp; omega) fun n h1 h2 => ?_
  have hn : n < code.length := by unfold wantL at h2; simpa using h2
  have e1 : (lvLists R code.length)[n] = (lvLists R code.length).getD n [] := by rw [List.getD_eq_getElem?_getD, List.getElem?_eq_getElem h1]; rfl
  have e2 : (wantL R code.length nk)[n] = (wantL R code.length nk).getD n [] := by rw [List.getD_eq_getElem?_getD, List.getElem?_eq_getElem h2]; rfl
  have e3 : (wantL R code.length nk).getD n [] = liveAt R nk n := by unfold wantL; rw [List.getD_eq_getElem?_getD, List.getElem?_map, List.getElem?_range hn]; rfl
  rw [e1, e2, e3, lvLists_get code.length n hlen hn]
  obtain ⟨x, ex, hx⟩ := hW n
  rw [ex, Int.toNat_natCast]
  have hx2 : x < 2 ^ nk := by
    refine Nat.lt_pow_two_of_testBit x fun i hi => ?_
    have := lb_high hok hL i hi n hn
    unfold lb at this
    rw [ex, Int.toNat_natCast] at this
    exact this
  rw [mem_filter nk x h64 hx2]
  unfold liveAt lb
  rw [ex, Int.toNat_natCast]
end
end Go.Proofs.YtjfleaekljapeaaDoor.K
namespace Go.Proofs.YtjfleaekljapeaaDoor.K
open Go.RowKit Go.Proofs.YtjfleaekljapeaaDoorW.PrintWords Go.Proofs.YtjfleaekljapeaaDoorW.PrintLast Go.Proofs.YtjfleaekljapeaaDoorW.PrintMore
attribute [local go_sem] max2_int min2_int max_two min_two max_three min_three max_four min_four   -- for this text's walks alone
set_option linter.unusedVariables false
set_option linter.unusedSimpArgs false
set_option linter.unusedSectionVars false
/-! ### span.Live once more: its lists lie apart -/
/-- While the lists are put in. -/
structure OpSt (w0 w : World) (go m : Nat) (vs : List Value) (xs : List (List Int)) : Prop where
  ho : w.heap[go]? = some (.cells (vs ++ List.replicate (m - vs.length) (Value.slice none 0 0)).toArray 22 (0, 0))
  ln : vs.length = xs.length
  hv : ∀ (j : Nat) (v : Value) (x : List Int), vs[j]? = some v → xs[j]? = some x → Kd.R (Kd.int .i64) 3 w w0.heap.size (fun k => k ≠ go) v x
  lo : w0.heap.size ≤ go
  below : Below w0.heap.size w0 w
  ap : ∀ (i j : Nat) (u v : Value) (k : Nat), i < j → vs[i]? = some u → vs[j]? = some v → u.ownBlock = some k → v.ownBlock ≠ some k
theorem op_start (w : World) (o : Obj) (n : Nat) : OpSt w ((w.alloc o).alloc (.cells (Array.replicate n (Value.slice none 0 0)) 22)) (w.heap.size + 1) n [] [] := by
  refine ⟨?_, rfl, fun j v x h => by simp at h, Nat.le_succ _, ((Below.refl _ _).alloc (Nat.le_refl _) _).alloc (by simp) _, fun i j u v k _ h => by simp at h⟩
  have e : (([] : List Value) ++ List.replicate (n - ([] : List Value).length) (Value.slice none 0 0)).toArray = Array.replicate n (Value.slice none 0 0) := by simp
  rw [e]
  exact two_new w o _
theorem OpSt.step {w0 w w' : World} {go m : Nat} {vs : List Value} {xs : List (List Int)} (h : OpSt w0 w go m vs xs) (hb : Below w.heap.size w w') : OpSt w0 w' go m vs xs :=
  ⟨blk_below h.ho hb, h.ln, fun j v x h1 h2 => Kd.R_below (h.hv j v x h1 h2) hb, h.lo, below_step h.below hb, h.ap⟩
theorem OpSt.cell {w0 w : World} {go m : Nat} {vs : List Value} {xs : List (List Int)} (h : OpSt w0 w go m vs xs) (hl : vs.length < m) : w.cell? ⟨go, vs.length, none⟩ = some (.slice none 0 0) := by
  rw [blk_cell h.ho, List.getElem?_toArray, List.getElem?_append_right (Nat.le_refl _), Nat.sub_self, List.getElem?_replicate, if_pos (by omega)]
theorem OpSt.put {w0 w : World} {go m : Nat} {vs : List Value} {xs : List (List Int)} (h : OpSt w0 w go m vs xs) (hl : vs.length < m) (n : Nat) (hn : n = vs.length) {v : Value} {x : List Int} (hv : Kd.R (Kd.int .i64) 3 w w0.heap.size (fun k => k ≠ go) v x) (hap : ∀ (i : Nat) (u : Value) (k : Nat), vs[i]? = some u → u.ownBlock = some k → v.ownBlock ≠ some k) :
    OpSt w0 (w.setCell ⟨go, n, none⟩ v) go m (vs ++ [v]) (xs ++ [x]) := by
  subst hn
  refine ⟨blk_put h.ho vs.length _ ?_, by simp [h.ln], fun j u y h1 h2 => ?_, h.lo, below_set h.below h.lo, fun i j u v' k hij h1 h2 h3 => ?_⟩
  · rw [List.setIfInBounds_toArray]
    congr 1
    rw [List.set_append_right _ _ (Nat.le_refl _), Nat.sub_self, List.append_assoc, List.length_append, List.length_singleton]
    congr 1
    obtain ⟨d, hd⟩ : ∃ d, m - vs.length = d + 1 := ⟨m - vs.length - 1, by omega⟩
    rw [hd, show m - (vs.length + 1) = d by omega, List.replicate_succ]
    rfl
  · refine Kd.R_far (p := ⟨go, vs.length, none⟩) ?_ (fun k hk => hk) v
    by_cases hj : j < vs.length
    · rw [List.getElem?_append_left hj] at h1
      rw [List.getElem?_append_left (by rw [← h.ln]; exact hj)] at h2
      exact h.hv j u y h1 h2
    · have hj2 : j < (vs ++ [v]).length := (List.getElem?_eq_some_iff.1 h1).1
      obtain rfl : j = vs.length := by simp at hj2; omega
      rw [List.getElem?_append_right (Nat.le_refl _), Nat.sub_self] at h1
      rw [List.getElem?_append_right (by rw [h.ln]; exact Nat.le_refl _), h.ln, Nat.sub_self] at h2
      obtain rfl : v = u := by simpa using h1
      obtain rfl : x = y := by simpa using h2
      exact hv
  · have hj2 : j < (vs ++ [v]).length := (List.getElem?_eq_some_iff.1 h2).1
    have hi : i < vs.length := by simp at hj2; omega
    rw [List.getElem?_append_left hi] at h1
    by_cases hj : j < vs.length
    · rw [List.getElem?_append_left hj] at h2
      exact h.ap i j u v' k hij h1 h2 h3
    · obtain rfl : j = vs.length := by simp at hj2; omega
      rw [List.getElem?_append_right (Nat.le_refl _), Nat.sub_self] at h2
      obtain rfl : v = v' := by simpa using h2
      exact hap i u k h1 h3
theorem OpSt.apart {w0 w : World} {go m : Nat} {vs : List Value} {xs : List (List Int)} (h : OpSt w0 w go m vs xs) {v : Value} (hb : ∀ k, v.ownBlock = some k → w.heap.size ≤ k) : ∀ (i : Nat) (u : Value) (k : Nat), vs[i]? = some u → u.ownBlock = some k → v.ownBlock ≠ some k := by
  intro i u k h1 h2 h3
  have hi : i < vs.length := (List.getElem?_eq_some_iff.1 h1).1
  have hx : xs[i]? = some (xs[i]'(by have := h.ln; omega)) := List.getElem?_eq_getElem _
  have h4 := Kd.R_lt (h.hv i u _ h1 hx) k h2
  have h5 := hb k h3
  omega
/-- The lists of span.Live, no two in one block. -/
def SLive2Post (xs : List (List Int)) (w : World) (e : Ending) (w' : World) : Prop := ∃ (go : Nat) (vs : List Value), e = .returned (.slice (some ⟨go, 0, none⟩) xs.length xs.length) ∧ OpSt w w' go xs.length vs xs ∧ vs.length = xs.length
set_option maxHeartbeats 2000000 in
set_option maxRecDepth 100000 in
theorem slive2_calls (nm : ByteArray) (A1 : Option Addr) (c1 : Nat) (l1 : List Int) (A2 : Option Addr) (c2 : Nat) (l2 : List Int) (A3 : Option Addr) (c3 : Nat) (l3 : List Int) (A4 : Option Addr) (c4 : Nat) (code : List S44) (w : World)
    (hr1 : Kd.C (Kd.int .i64) w A1 l1.length l1) (hc1 : l1.length ≤ c1) (hr2 : Kd.C (Kd.int .i64) w A2 l2.length l2) (hc2 : l2.length ≤ c2) (hr3 : Kd.C (Kd.int .i64) w A3 l3.length l3) (hc3 : l3.length ≤ c3) (hr4 : Kd.C k44 w A4 code.length code) (hc4 : code.length ≤ c4)
    (h64 : l2.length < 64) (hok : LvOk code) (K : Nat) (R : List Int) (hrun : lvRun code K (List.replicate (code.length + 1) 0) = some R) (hbits : ∀ x ∈ R, 0 ≤ x ∧ x < 18446744073709551616) (hT : TzTab w) (h1 : 0 < w.heap.size) :
    Calls Tryd.prog 11 #[.agg #[.string nm, .slice A1 l1.length c1, .slice A2 l2.length c2, .slice A3 l3.length c3, .slice A4 code.length c4]] w (SLive2Post (lvLists R code.length) w) := by
  have hu25 := Tryd.underlying25
  have HXN := Aside0.mk (show (lvLists R code.length).length = code.length by unfold lvLists; rw [List.length_map, List.length_take, lvRun_length code K _ R hrun]; simp)
  have HRL := Aside0.mk (show R.length = code.length + 1 by rw [lvRun_length code K _ R hrun]; simp)
  have HR1 := Aside0.mk hr1
  have HR2 := Aside0.mk hr2
  have HR3 := Aside0.mk hr3
  have HR4 := Aside0.mk hr4
  have HC1 := Aside0.mk hc1
  have HC2 := Aside0.mk hc2
  have HC3 := Aside0.mk hc3
  have HC4 := Aside0.mk hc4
  have HOK := Aside0.mk hok
  have HRUN := Aside0.mk hrun
  have HBITS := Aside0.mk hbits
  have HT := Aside0.mk hT
  have hcl : code.length ≤ 1000000 := hok.len
  have hmk := sl_make code.length (by omega)
  clear hr1 hr2 hr3 hr4 hc1 hc2 hc3 hc4 hok hrun hbits hT
  obtain ⟨fc, hfc⟩ : ∃ fc, fc = lvBox nm (.slice A1 l1.length c1) (.slice A2 l2.length c2) (.slice A3 l3.length c3) (.slice A4 code.length c4) := ⟨_, rfl⟩
  have HFC := Aside0.mk hfc
  clear hfc
  go_enter Tryd.func11, Tryd.ntmps11
  go_upto_region 1 with (fail)
  go_cut [3] (fun v3 wc => ∃ go, v3 = .slice (some ⟨go, 0, none⟩) code.length code.length ∧ Aside0 (wc.heap[w.heap.size]? = some (.cells fc 25 (0, 0))) ∧ Aside0 (OpSt w wc go code.length [] []))
  case first =>
    go_wp2
    go_meet
    case rel => exact ⟨w.heap.size + 1, rfl, ⟨by rw [HFC.out]; exact lv_al (heap_alloc_new w _) _⟩, ⟨op_start w _ code.length⟩⟩
  case rest =>
    obtain ⟨go, rfl, H1, HOL⟩ := hcut
    go_upto_region 2 with (fail)
    go_cut [4] (fun v4 wc => ∃ Ai ci, v4 = .slice Ai R.length ci ∧ Aside0 (Kd.R kSets 72 wc w.heap.size (fun _ => True) (.slice Ai R.length ci) (R.map fun x => [x])) ∧ Aside0 (OpSt w wc go code.length [] []))
    case first =>
      have hg0 : wc.cell? ⟨w.heap.size, 0, none⟩ = some (.string nm) := (blk_cell H1.out 0).trans (by rw [HFC.out]; rfl)
      have hg1 : wc.cell? ⟨w.heap.size, 1, none⟩ = some (.slice A1 l1.length c1) := (blk_cell H1.out 1).trans (by rw [HFC.out]; rfl)
      have hg2 : wc.cell? ⟨w.heap.size, 2, none⟩ = some (.slice A2 l2.length c2) := (blk_cell H1.out 2).trans (by rw [HFC.out]; rfl)
      have hg3 : wc.cell? ⟨w.heap.size, 3, none⟩ = some (.slice A3 l3.length c3) := (blk_cell H1.out 3).trans (by rw [HFC.out]; rfl)
      have hg4 : wc.cell? ⟨w.heap.size, 4, none⟩ = some (.slice A4 code.length c4) := (blk_cell H1.out 4).trans (by rw [HFC.out]; rfl)
      go_wp2_with (first | (go_at_call 24; (with_reducible refine (live_calls nm A1 c1 l1 A2 c2 l2 A3 c3 l3 A4 c4 code _ (Kd.C_below HR1.out HOL.out.below) HC1.out (Kd.C_below HR2.out HOL.out.below) HC2.out (Kd.C_below HR3.out HOL.out.below) HC3.out (Kd.C_below HR4.out HOL.out.below) HC4.out h64 HOK.out K R HRUN.out).mono ?_); rintro e w11 ⟨v11, rfl, hr, hb⟩; obtain ⟨Ai, ci, ei⟩ := Kd.R_slice hr; rw [List.length_map] at ei; subst ei; have n0_ := Aside0.mk (HOL.out.step hb); have n1_ := Aside0.mk (Kd.R_lower hr HOL.out.below.size); clear HOL hr hb; have HOL := n0_; have HIN := n1_; clear n0_ n1_))
      go_meet
      case rel => exact ⟨Ai, ci, rfl, HIN, HOL⟩
    case rest =>
      clear HOL
      obtain ⟨Ai, ci, rfl, HIN, HOL⟩ := hcut
      go_wp2
      go_loopg [14] code.length (fun gg v14 w' => ∃ (k : Nat) (vs : List Value), vs.length = k ∧ k ≤ code.length ∧ code.length - k ≤ gg ∧ v14 = .int .i64 k ∧ Aside0 (Kd.R kSets 72 w' w.heap.size (fun _ => True) (.slice Ai R.length ci) (R.map fun x => [x])) ∧ Aside0 (OpSt w w' go code.length vs (lvLists R k)))
      case atStart => exact ⟨0, [], rfl, Nat.zero_le _, by omega, rfl, HIN, ⟨by simpa [lvLists] using HOL.out⟩⟩
      case round =>
        clear HIN HOL
        obtain ⟨k, vs, hvk, hkl, hkg, rfl, HIN, HOL⟩ := hrel
        have HVK := Aside0.mk hvk
        clear hvk
        by_cases hlt : k < code.length
        · have k0 : 0 ≤ (k : Int) := by omega
          have k1 : (k : Int) < (code.length : Int) := by omega
          have hkR : k < R.length := by have := HRL.out; omega
          have k2 : (k : Int) < (R.length : Int) := by omega
          obtain ⟨adi, A', c', eai, hci, hCi⟩ := sets_at (Kd.R_reads' HIN.out).2.2 (by rw [List.length_map]) k hkR
          subst eai
          obtain ⟨hx0, hx1⟩ := HBITS.out _ (rd_mem' R k hkR)
          obtain ⟨x, hx⟩ := Int.eq_ofNat_of_zero_le hx0
          rw [hx] at hCi hx1
          have hx1' : x < 18446744073709551616 := by omega
          have HX := Aside0.mk hx
          have HCI := Aside0.mk hCi
          have HMC := Aside0.mk (mem_calls A' c' x hx1')
          clear hx hx0 hx1 hx1' hCi
          have hks : (k : Int) ≤ 1000000 := by omega
          have hcell : wr.cell? ⟨go, k, none⟩ = some (.slice none 0 0) := by rw [← HVK.out]; exact HOL.out.cell (by rw [HVK.out]; exact hlt)
          have hfro := blk_frozen HOL.out.ho k
          go_wp2_with (first | (go_at_call 25; (with_reducible refine (HMC.out _ (HT.out.below h1 HOL.out.below) (Nat.lt_of_lt_of_le h1 HOL.out.below.size) HCI.out).mono ?_); rintro e w23 ⟨v23, rfl, hr, hb⟩; obtain ⟨Am, cm, em⟩ := Kd.R_slice hr; subst em; have n0_ := Aside0.mk (HOL.out.step hb); have n1_ := Aside0.mk (Kd.R_below HIN.out hb); have HAP := Aside0.mk (HOL.out.apart (Kd.R_base hr)); have n2_ := Aside0.mk (Kd.R_lower hr HOL.out.below.size); clear HOL HIN hr hb; have HOL := n0_; have HIN := n1_; have HM := n2_; clear n0_ n1_ n2_; have hcell : w23.cell? ⟨go, k, none⟩ = some (.slice none 0 0) := (by rw [← HVK.out]; exact HOL.out.cell (by rw [HVK.out]; exact hlt)); have hfro := blk_frozen HOL.out.ho k))
          go_roundg (code.length - (k + 1))
          case measure => omega
          case rel => exact ⟨k + 1, vs ++ [.slice Am (lvMem x).length cm], by simp [HVK.out], by omega, by omega, by go_num, ⟨Kd.R_set HIN.out HOL.out.ho (by decide) k _⟩, ⟨by rw [lvLists_succ R k x hkR HX.out]; exact HOL.out.put (by rw [HVK.out]; exact hlt) k HVK.out.symm (Kd.R_mono (Kd.R_types HM.out HOL.out.ho (by decide)) (fun k hk => hk.2)) HAP.out⟩⟩
        · obtain rfl : k = code.length := by omega
          go_wp2
          refine bodyPost_ret (v := .slice (some ⟨go, 0, none⟩) code.length code.length) (by simp [results, Tryd.results11, go_sem]) rfl ⟨go, vs, by rw [HXN.out], by rw [HXN.out]; exact HOL.out, by rw [HXN.out]; exact HVK.out⟩
end Go.Proofs.YtjfleaekljapeaaDoor.K
namespace Go.Proofs.YtjfleaekljapeaaDoor.K
open Go.RowKit Go.Proofs.YtjfleaekljapeaaDoorW.PrintWords Go.Proofs.YtjfleaekljapeaaDoorW.PrintLast Go.Proofs.YtjfleaekljapeaaDoorW.PrintMore
attribute [local go_sem] max2_int min2_int max_two min_two max_three min_three max_four min_four   -- for this text's walks alone
set_option linter.unusedVariables false
set_option linter.unusedSimpArgs false
set_option linter.unusedSectionVars false
/-! ### hauberklaw15.SpanLive (3), typed by hand -/
open Go.Proofs.YtjfleaekljapeaaDoor.EvLib
theorem rowI_at {w : World} {base : Nat} {ok : Nat → Prop} {A : Option Addr} {n c : Nat} {xs : List Int} (h : Kd.R (Kd.int .i64) 3 w base ok (.slice A n c) xs) : n = xs.length := (Kd.R_reads' h).1
/-- The program's lists from place p on, as the law goes through them: what stands behind p is as it was; the document's lists lie behind block B. -/
structure GoSt (b0 B : Nat) (w : World) (go p : Nat) (vs : List Value) (u : Value) (xs : List (List Int)) : Prop where
  ho : w.heap[go]? = some (.cells vs.toArray 22 (0, 0))
  ln : vs.length = xs.length
  hv : ∀ (j : Nat) (v : Value) (x : List Int), p ≤ j → vs[j]? = some v → xs[j]? = some x → Kd.R (Kd.int .i64) 3 w b0 (fun k => k ≠ go) v x
  ap : ∀ (i j : Nat) (u v : Value) (k : Nat), i < j → vs[i]? = some u → vs[j]? = some v → u.ownBlock = some k → v.ownBlock ≠ some k
  lo : b0 ≤ go
  glt : go < B
  hi : ∀ (j : Nat) (v : Value) (k : Nat), vs[j]? = some v → v.ownBlock = some k → k < B
  hw : Kd.R (Kd.slice 3 (Kd.int .i64)) 22 w B (fun k => B ≤ k) u xs
theorem GoSt.of {b0 B : Nat} {W0 w6 w7 : World} {go : Nat} {vs : List Value} {u : Value} {xs : List (List Int)} (h : OpSt W0 w6 go xs.length vs xs) (hl : vs.length = xs.length) (hb : Below w6.heap.size w6 w7)
    (hs : Kd.S (Kd.slice 3 (Kd.int .i64)) 22 w7 B (fun _ => True) u xs) (hB : B = w6.heap.size) (h0 : b0 ≤ W0.heap.size) : GoSt b0 B w7 go 0 vs u xs := by
  have ho := h.ho
  rw [hl, Nat.sub_self, List.replicate_zero, List.append_nil] at ho
  refine ⟨blk_below ho hb, h.ln, fun j v x _ h1 h2 => Kd.R_lower (Kd.R_below (h.hv j v x h1 h2) hb) h0, h.ap, Nat.le_trans h0 h.lo, by rw [hB]; exact blk_lt ho, fun j v k h1 h3 => ?_, Kd.R_mono (Kd.R_bound (Kd.S_R hs)) (fun k hk => hk.2.1)⟩
  have hj : j < vs.length := (List.getElem?_eq_some_iff.1 h1).1
  have hx : xs[j]? = some (xs[j]'(by have := h.ln; omega)) := List.getElem?_eq_getElem _
  rw [hB]
  exact Kd.R_lt (h.hv j v _ h1 hx) k h3
theorem GoSt.step {b0 B : Nat} {w w' : World} {go p : Nat} {vs : List Value} {u : Value} {xs : List (List Int)} (h : GoSt b0 B w go p vs u xs) (hb : Below w.heap.size w w') : GoSt b0 B w' go p vs u xs :=
  ⟨blk_below h.ho hb, h.ln, fun j v x h0 h1 h2 => Kd.R_below (h.hv j v x h0 h1 h2) hb, h.ap, h.lo, h.glt, h.hi, Kd.R_below h.hw hb⟩
theorem GoSt.next {b0 B : Nat} {w : World} {go p : Nat} {vs : List Value} {u : Value} {xs : List (List Int)} (h : GoSt b0 B w go p vs u xs) : GoSt b0 B w go (p + 1) vs u xs :=
  ⟨h.ho, h.ln, fun j v x h0 h1 h2 => h.hv j v x (by omega) h1 h2, h.ap, h.lo, h.glt, h.hi, h.hw⟩
/-- A store into the list at p: those behind are as they were. -/
theorem GoSt.put {b0 B : Nat} {w : World} {go p g : Nat} {vs : List Value} {u : Value} {xs : List (List Int)} (h : GoSt b0 B w go (p + 1) vs u xs) {v : Value} (hv : vs[p]? = some v) (hg : v.ownBlock = some g) (hne : g ≠ go) (k : Nat) (c : Value) : GoSt b0 B (w.setCell ⟨g, k, none⟩ c) go (p + 1) vs u xs :=
  ⟨blk_far h.ho (fun e => hne e.symm) c, h.ln, fun j y x h0 h1 h2 => by
    have hr := h.hv j y x h0 h1 h2
    have hap := h.ap p j v y g (by omega) hv h1 hg
    exact Kd.R_mono (Kd.R_far (p := ⟨g, k, none⟩) (Kd.R_tight2 rfl hr) (fun q hq e => hap (by rw [← hq.1]; exact congrArg some e)) c) (fun q hq => hq.2), h.ap, h.lo, h.glt, h.hi,
    Kd.R_far (p := ⟨g, k, none⟩) h.hw (fun q hq => by have := h.hi p v g hv hg; show q ≠ g; omega) c⟩
theorem LwSt.far {w0 w : World} {g g2 : Nat} {fc : Array Value} (h : LwSt w0 w g fc) (hne : g2 ≠ g) (hlo : w0.heap.size ≤ g2) (k : Nat) (c : Value) : LwSt w0 (w.setCell ⟨g2, k, none⟩ c) g fc :=
  ⟨blk_far h.hf (fun e => hne e.symm) c, h.lo, below_set h.below hlo⟩
theorem ints_calls (A0 : Option Addr) (c0 : Nat) (l : List Int) (A1 : Option Addr) (c1 : Nat) (w : World) (h0 : Kd.C (Kd.int .i64) w A0 l.length l) (g0 : l.length ≤ c0) (h1 : Kd.C (Kd.int .i64) w A1 l.length l) (g1 : l.length ≤ c1) :
    Calls Tryd.prog 13 #[.slice A0 l.length c0, .slice A1 l.length c1] w fun e w' => e = .returned (.bool true) ∧ Drawn0 w w' := by
  obtain ⟨k, hk⟩ := (ints_f l h0.2.1).rounds
  exact hauberkref01_Ints.calls k A0 c0 l A1 c1 l true w h0 g0 h1 g1 hk
section
variable {nm : ByteArray} {A1 : Option Addr} {c1 : Nat} {l1 : List Int} {A2 : Option Addr} {c2 : Nat} {l2 : List Int} {A3 : Option Addr} {c3 : Nat} {l3 : List Int} {A4 : Option Addr} {c4 : Nat} {code : List S44}
set_option maxHeartbeats 8000000 in
set_option maxRecDepth 100000 in
theorem law_live (w : World) (hf : FnC A1 c1 l1 A2 c2 l2 A3 c3 l3 A4 c4 code w) (ha : ∀ n, n < code.length → (rd_T44 code n).f7.length ≤ 17592186043904) (hT : TzTab w) (h1 : 0 < w.heap.size) :
    Calls Tryd.prog 3 #[.agg #[.string nm, .slice A1 l1.length c1, .slice A2 l2.length c2, .slice A3 l3.length c3, .slice A4 code.length c4]] w (AwPost w) := by
  have hu25 := Tryd.underlying25
  have hu22 := Tryd.underlying22
  have HF := Aside0.mk hf
  have HA := Aside0.mk ha
  have HT := Aside0.mk hT
  have HFT := Aside0.mk (fun W (hb : Below w.heap.size w W) => fits_calls (nm := nm) W (hf.below hb))
  have HAW := Aside0.mk (fun W (hb : Below w.heap.size w W) => awake_calls W (hT.below h1 hb) (Nat.lt_of_lt_of_le h1 hb.size))
  have HS := Aside0.mk (show LwSt w (w.alloc (.cells #[.string nm, .slice A1 l1.length c1, .slice A2 l2.length c2, .slice A3 l3.length c3, .slice A4 code.length c4] 25)) w.heap.size #[.string nm, .slice A1 l1.length c1, .slice A2 l2.length c2, .slice A3 l3.length c3, .slice A4 code.length c4] from ⟨heap_alloc_new w _, Nat.le_refl _, us_new w _ _⟩)
  have HO := Aside0.mk (fun h => code_ok (l2 := l2) (l3 := l3) (code := code) h)
  unfold FtPost at HFT
  generalize fitsB l2 l3 code = b at HFT HO
  clear hf ha hT
  go_enter Tryd.func3, Tryd.ntmps3
  go_upto_region 1 with (fail)
  generalize w.alloc (.cells #[.string nm, .slice A1 l1.length c1, .slice A2 l2.length c2, .slice A3 l3.length c3, .slice A4 code.length c4] 25) = w1 at HS ⊢
  have z0 := (blk_cell HS.out.hf 0).trans (show _ = some (Value.string nm) from rfl)
  have z1 := (blk_cell HS.out.hf 1).trans (show _ = some (Value.slice A1 l1.length c1) from rfl)
  have z2 := (blk_cell HS.out.hf 2).trans (show _ = some (Value.slice A2 l2.length c2) from rfl)
  have z3 := (blk_cell HS.out.hf 3).trans (show _ = some (Value.slice A3 l3.length c3) from rfl)
  have z4 := (blk_cell HS.out.hf 4).trans (show _ = some (Value.slice A4 code.length c4) from rfl)
  go_upto_region 2 with (first | (go_at_call 9; (with_reducible refine (HFT.out _ HS.out.below).mono ?_); rintro e w2 ⟨rfl, hb⟩; have n0_ := Aside0.mk (HS.out.step hb); clear HS; have HS := n0_; clear n0_; have z0 := pw_cell_below hb z0; have z1 := pw_cell_below hb z1; have z2 := pw_cell_below hb z2; have z3 := pw_cell_below hb z3; have z4 := pw_cell_below hb z4; have q0 := blk_frozen HS.out.hf 0; have q1 := blk_frozen HS.out.hf 1; have q2 := blk_frozen HS.out.hf 2; have q3 := blk_frozen HS.out.hf 3; have q4 := blk_frozen HS.out.hf 4; clear hb))
  have n0_ := Aside0.mk (HS.out.put5 (.string ⟨#[109, 97, 105, 110]⟩) (.slice none 0 0) (.slice A2 l2.length c2) (.slice A3 l3.length c3) (.slice A4 code.length c4))
  clear HS z0 z1 z2 z3 z4 q0 q1 q2 q3 q4 HFT
  have HS := n0_
  clear n0_
  generalize (((((w2.setCell ⟨w.heap.size, 0, none⟩ (.string ⟨#[109, 97, 105, 110]⟩)).setCell ⟨w.heap.size, 1, none⟩ (.slice none 0 0)).setCell ⟨w.heap.size, 2, none⟩ (.slice A2 l2.length c2)).setCell ⟨w.heap.size, 3, none⟩ (.slice A3 l3.length c3)).setCell ⟨w.heap.size, 4, none⟩ (.slice A4 code.length c4)) = w3 at HS ⊢
  cases b with
  | false =>
    go_wp2_with (first | (go_at_call 10; (with_reducible refine (HAW.out _ HS.out.below).mono ?_); rintro e w4 ⟨rfl, hb⟩; have n0_ := Aside0.mk (HS.out.step hb); clear hb HS; have HS := n0_; clear n0_))
    go_ret
    exact ⟨rfl, HS.out.below⟩
  | true =>
    obtain ⟨hk40, hok⟩ := HO.out rfl
    have HOK := Aside0.mk hok
    have HK40 := Aside0.mk hk40
    clear HO hok hk40
    go_upto_region 4 with (first | (go_at_call 10; (with_reducible refine (HAW.out _ HS.out.below).mono ?_); rintro e w4 ⟨rfl, hb⟩; have n0_ := Aside0.mk (HS.out.step hb); clear hb HS; have HS := n0_; clear n0_))
    obtain ⟨K, R, hrun, hW, hRl, hL⟩ := live_run HOK.out (by have := HK40.out; omega)
    have HLV := Aside0.mk (fun W (hb : Below w.heap.size w W) => slive2_calls ⟨#[109, 97, 105, 110]⟩ none 0 [] A2 c2 l2 A3 c3 l3 A4 c4 code W (HF.out.bare.below hb).h1 (Nat.le_refl _) (HF.out.below hb).h2 HF.out.g2 (HF.out.below hb).h3 HF.out.g3 (HF.out.below hb).h4 HF.out.g4 (by have := HK40.out; omega) (live_ok HOK.out (by have := HK40.out; omega) HA.out) K R hrun (words_mem hW) (HT.out.below h1 hb) (Nat.lt_of_lt_of_le h1 hb.size))
    have HRF := Aside0.mk (fun W (hb : Below w.heap.size w W) => by
      obtain ⟨kk, hkk⟩ := (lv_is HOK.out ⟨#[109, 97, 105, 110]⟩ [] l2 l3 hL HK40.out).rounds
      exact hauberkref15_Live.calls kk ⟨#[109, 97, 105, 110]⟩ none 0 [] A2 c2 l2 A3 c3 l3 A4 c4 code _ W (HF.out.bare.below hb).h1 (Nat.le_refl _) (HF.out.below hb).h2 HF.out.g2 (HF.out.below hb).h3 HF.out.g3 (HF.out.below hb).h4 HF.out.g4 hkk)
    have hsame := lists_want HOK.out (by have := HK40.out; omega) hW hRl hL
    have HXL := Aside0.mk (show (wantL R code.length l2.length).length = code.length by unfold wantL; rw [List.length_map, List.length_range])
    have HXM := Aside0.mk (show ∀ n, n < code.length → ((wantL R code.length l2.length).getD n []).length ≤ 40 by
      intro n hn
      have e : (wantL R code.length l2.length).getD n [] = liveAt R l2.length n := by unfold wantL; rw [List.getD_eq_getElem?_getD, List.getElem?_map, List.getElem?_range hn]; rfl
      rw [e]
      have := liveAt_len R l2.length n
      have := HK40.out
      omega)
    unfold SLive2Post at HLV
    rw [hsame] at HLV
    generalize wantL R code.length l2.length = xs at HLV HRF HXL HXM
    simp only [List.length_nil] at HLV HRF
    have hk80 : (code.length : Int) ≤ 80 := by have := HOK.out.len; omega
    have HCL := Aside0.mk HOK.out.len
    clear hrun hW hRl hL hsame
    go_wp2
    go_loopg [20] 2 (fun gg v20 w' => ∃ (t : Nat), t ≤ 2 ∧ 2 - t ≤ gg ∧ v20 = .int .i64 t ∧ Aside0 (LwSt w w' w.heap.size #[.string ⟨#[109, 97, 105, 110]⟩, .slice none 0 0, .slice A2 l2.length c2, .slice A3 l3.length c3, .slice A4 code.length c4]))
    case atStart => exact ⟨0, by omega, by omega, rfl, HS⟩
    case round =>
      clear HS
      obtain ⟨t, ht, hgt, rfl, HS⟩ := hrel
      by_cases htl : t < 2
      · have t0 : 0 ≤ (t : Int) := by omega
        have t1 : (t : Int) < 2 := by omega
        have z0 := (blk_cell HS.out.hf 0).trans (show _ = some (Value.string ⟨#[109, 97, 105, 110]⟩) from rfl)
        have z1 := (blk_cell HS.out.hf 1).trans (show _ = some (Value.slice none 0 0) from rfl)
        have z2 := (blk_cell HS.out.hf 2).trans (show _ = some (Value.slice A2 l2.length c2) from rfl)
        have z3 := (blk_cell HS.out.hf 3).trans (show _ = some (Value.slice A3 l3.length c3) from rfl)
        have z4 := (blk_cell HS.out.hf 4).trans (show _ = some (Value.slice A4 code.length c4) from rfl)
        have HB := Aside0.mk HS.out.below
        have HN := Aside0.mk (Below.refl wr.heap.size wr)
        go_upto_region 6 with (fail)
        first | go_region_held3 (fun w' => w'.cell? ⟨w.heap.size, 0, none⟩ = some (.string ⟨#[109, 97, 105, 110]⟩) ∧ w'.cell? ⟨w.heap.size, 1, none⟩ = some (.slice none 0 0) ∧ w'.cell? ⟨w.heap.size, 2, none⟩ = some (.slice A2 l2.length c2) ∧ w'.cell? ⟨w.heap.size, 3, none⟩ = some (.slice A3 l3.length c3) ∧ w'.cell? ⟨w.heap.size, 4, none⟩ = some (.slice A4 code.length c4)) (go_keep) (first | (go_at_call 11; (with_reducible refine (HLV.out _ ?hb11).mono ?_); (case hb11 => (repeat (first | (with_reducible first | exact HB.out | apply below_alloc | apply pw_below_drewN | apply below_drew1) | exact HB.out))); rintro e w6 ⟨go, vs, rfl, hop, hvl⟩; have hb := hop.below; have HOP := Aside0.mk hop; have HVL := Aside0.mk hvl; have HM := Aside0.mk (Below.refl w6.heap.size w6); have n0_ := Aside0.mk (below_step (by (repeat (first | (with_reducible first | exact HB.out | apply below_alloc | apply pw_below_drewN | apply below_drew1) | exact HB.out))) hb); have n1_ := Aside0.mk (below_step (by (repeat (first | (with_reducible first | exact HN.out | apply below_alloc | apply pw_below_drewN | apply below_drew1) | exact HN.out))) hb); have z0w6 := pw_cell_below hb z0; have z1w6 := pw_cell_below hb z1; have z2w6 := pw_cell_below hb z2; have z3w6 := pw_cell_below hb z3; have z4w6 := pw_cell_below hb z4; clear HB HN hop hvl hb; have HB := n0_; have HN := n1_; clear n0_ n1_) | (go_at_call 12; (with_reducible refine (HRF.out _ ?hb12).mono ?_); (case hb12 => (repeat (first | (with_reducible first | exact HB.out | apply below_alloc | apply pw_below_drewN | apply below_drew1) | exact HB.out))); rintro e w7 ⟨v12, rfl, hr, hb⟩; have HG := Aside0.mk (GoSt.of (b0 := wr.heap.size) HOP.out HVL.out (below_step (by (repeat (first | (with_reducible first | exact HM.out | apply below_alloc | apply pw_below_drewN | apply below_drew1) | exact HM.out))) hb) hr rfl (Nat.le_refl _)); have n0_ := Aside0.mk (below_step (by (repeat (first | (with_reducible first | exact HB.out | apply below_alloc | apply pw_below_drewN | apply below_drew1) | exact HB.out))) hb); have n1_ := Aside0.mk (below_step (by (repeat (first | (with_reducible first | exact HN.out | apply below_alloc | apply pw_below_drewN | apply below_drew1) | exact HN.out))) hb); clear HB HN hr HOP HVL HM; have HB := n0_; have HN := n1_; clear n0_ n1_; have z0w7 := pw_cell_below hb z0w6; have z1w7 := pw_cell_below hb z1w6; have z2w7 := pw_cell_below hb z2w6; have z3w7 := pw_cell_below hb z3w6; have z4w7 := pw_cell_below hb z4w6; clear hb)) | fail
        have n0_ := Aside0.mk (HS.out.step HN.out)
        have HWL := Aside0.mk (blk_lt HS.out.hf)
        clear HS HB HN
        have HS := n0_
        clear n0_
        generalize wr.heap.size = b0 at HG HWL
        obtain ⟨B, HG⟩ : ∃ B, Aside0 (GoSt b0 B w7 go 0 vs v12 xs) := ⟨_, HG⟩
        obtain ⟨A12, c12, e12⟩ := Kd.R_slice HG.out.hw
        subst e12
        have hne : ((xs.length : Int) != (xs.length : Int)) = false := by simp
        have hx80 : (xs.length : Int) ≤ 80 := by have := HXL.out; omega
        clear z0 z1 z2 z3 z4 z0w6 z1w6 z2w6 z3w6 z4w6 z0w7 z1w7 z2w7 z3w7 z4w7
        go_wp2
        go_loopg [33] xs.length (fun gg v33 w' => ∃ (n : Nat), n ≤ xs.length ∧ xs.length - n ≤ gg ∧ v33 = .int .i64 n ∧ Aside0 (LwSt w w' w.heap.size #[.string ⟨#[109, 97, 105, 110]⟩, .slice none 0 0, .slice A2 l2.length c2, .slice A3 l3.length c3, .slice A4 code.length c4]) ∧ Aside0 (GoSt b0 B w' go n vs (.slice A12 xs.length c12) xs))
        case atStart => exact ⟨0, by omega, by omega, rfl, HS, HG⟩
        case round =>
          clear HS HG
          obtain ⟨n, hn, hgn, rfl, HS, HG⟩ := hrel
          by_cases hnl : n < xs.length
          · have n0 : 0 ≤ (n : Int) := by omega
            have n1 : (n : Int) < (xs.length : Int) := by omega
            obtain ⟨v, ev⟩ : ∃ v, vs[n]? = some v := ⟨vs[n]'(by have := HG.out.ln; omega), List.getElem?_eq_getElem _⟩
            obtain ⟨x, ex⟩ : ∃ x, xs[n]? = some x := ⟨xs[n]'(by omega), List.getElem?_eq_getElem _⟩
            have hrow := HG.out.hv n v x (Nat.le_refl _) ev ex
            obtain ⟨A, c, rfl, hlc, hC⟩ := Kd.R_reads hrow
            have x0 : wr.cell? ⟨go, n, none⟩ = some (.slice A x.length c) := by
              rw [blk_cell HG.out.ho, List.getElem?_toArray]
              exact ev
            obtain ⟨ad, A0, c0, ea, y0, hc0, hC0⟩ := at_L3 (Kd.R_reads' HG.out.hw).2.2 (n : Int) n0 n1
            subst ea
            have hrd : rd_L3 xs (n : Int) = x := by
              unfold rd_L3
              rw [Int.toNat_natCast, List.getD_eq_getElem?_getD, ex]
              rfl
            rw [hrd] at y0 hc0 hC0
            rw [Int.toNat_natCast] at y0
            have hx40 : (x.length : Int) ≤ 40 := by
              have h := HXM.out n (by have := HXL.out; omega)
              rw [List.getD_eq_getElem?_getD, ex] at h
              have h : x.length ≤ 40 := h
              omega
            have HQ := Aside0.mk (fun W (hb : Below wr.heap.size wr W) => ints_calls A c x A0 c0 W (Kd.C_below hC hb) hlc (Kd.C_below hC0 hb) hc0)
            have HRW := Aside0.mk hrow
            have HEV := Aside0.mk ev
            clear hrd hc0 hC0 hC hrow ev ex
            go_wp2
            have hdw := pw_below_drewN (Below.refl wr.heap.size wr)
            go_quiet (first | (go_at_call 13; exact Calls.quiet_of ((HQ.out _ (hdw _)).mono fun _ _ ⟨he, hd⟩ => ⟨he, hd.out⟩)))
            go_wp2
            go_loopg [51] x.length (fun gg v51 w' => ∃ (k : Nat), k ≤ x.length ∧ x.length - k ≤ gg ∧ v51 = .int .i64 k ∧ Aside0 (LwSt w w' w.heap.size #[.string ⟨#[109, 97, 105, 110]⟩, .slice none 0 0, .slice A2 l2.length c2, .slice A3 l3.length c3, .slice A4 code.length c4]) ∧ Aside0 (GoSt b0 B w' go (n + 1) vs (.slice (some ad) xs.length c12) xs) ∧ Aside0 (∃ y : List Int, y.length = x.length ∧ Kd.R (Kd.int .i64) 3 w' b0 (fun k => k ≠ go) (.slice A x.length c) y))
            case atStart => exact ⟨0, by omega, by omega, rfl, ⟨HS.out.step (hdw _)⟩, ⟨(HG.out.step (hdw _)).next⟩, ⟨x, rfl, Kd.R_below HRW.out (hdw _)⟩⟩
            case round =>
              clear HS HG HRW HQ x0 y0 hdw
              obtain ⟨k, hk, hgk, rfl, HS, HG, HR⟩ := hrel
              by_cases hkl : k < x.length
              · obtain ⟨y, hy, hry⟩ := HR.out
                have k0 : 0 ≤ (k : Int) := by omega
                have k1 : (k : Int) < (x.length : Int) := by omega
                rw [← hy] at hry
                obtain ⟨g, cap, e1, hgb, hgl, cl, hgc⟩ := Kd.R_form hry (by omega)
                injection e1 with e1 e2 e3
                subst e1
                subst e3
                rw [hy] at hry
                have x0 : wr.cell? ⟨go, n, none⟩ = some (.slice (some ⟨g, 0, none⟩) x.length c) := by
                  rw [blk_cell HG.out.ho, List.getElem?_toArray]
                  exact HEV.out
                obtain ⟨hx, hf⟩ := Kd.R_celln 0 hry (k : Int) k0 k1
                rw [Int.toNat_natCast] at hx hf
                have hgne : g ≠ go := hry.1 g rfl
                have hp := Kd.R_putn hry (k : Int) (-1)
                rw [Int.toNat_natCast] at hp
                have N1 := Aside0.mk (HG.out.put HEV.out rfl hgne k (.int .i64 (-1)))
                have N2 := Aside0.mk (HS.out.far (g2 := g) (by have := HWL.out; omega) (by have := HWL.out; omega) k (.int .i64 (-1)))
                have N3 := Aside0.mk (show ∃ y : List Int, y.length = x.length ∧ Kd.R (Kd.int .i64) 3 (wr.setCell ⟨g, k, none⟩ (.int .i64 (-1))) b0 (fun k => k ≠ go) (.slice (some ⟨g, 0, none⟩) x.length c) y from ⟨y.set k (-1), by rw [List.length_set, hy], hp⟩)
                clear hp hry HR HS HG HEV hgc hgne
                go_wp2
                go_roundg (x.length - (k + 1))
                case measure => omega
                case rel => exact ⟨k + 1, by omega, Nat.le_refl _, by go_num, N2, N1, N3⟩
              · obtain rfl : k = x.length := by omega
                go_wp2
                go_roundg (xs.length - (n + 1))
                case measure => omega
                case rel => exact ⟨n + 1, by omega, Nat.le_refl _, by go_num, HS, HG⟩
          · obtain rfl : n = xs.length := by omega
            go_wp2
            go_roundg (2 - (t + 1))
            case measure => omega
            case rel => exact ⟨t + 1, by omega, Nat.le_refl _, by go_num, HS⟩
      · obtain rfl : t = 2 := by omega
        go_wp2
        go_ret
        exact ⟨rfl, HS.out.below⟩
end
end Go.Proofs.YtjfleaekljapeaaDoor.K
