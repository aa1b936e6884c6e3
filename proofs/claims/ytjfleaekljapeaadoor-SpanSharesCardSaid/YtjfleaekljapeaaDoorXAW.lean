import Derived.Test.YtjfleaekljapeaaDoorXAR
import Derived.Deep.DeepMust
import Derived.Test.YtjfleaekljapeaaDoorProg
import Derived.Below
import Derived.Deep.Draws
import Derived.Deep.AppendLies
import Derived.Maps.AppendAt
import Derived.OwnWalk
import Derived.Laws.BytesArg
import Derived.Laws.MakeOwn
import Derived.Laws.OwnMore
import Derived.Deep.OwnRows
import Derived.Tactics
import Derived.Lib.ConvBytes
import Derived.Laws.Slices
import Derived.WalkKit
import Derived.KernelRfl
import Derived.RowKit3
import Derived.Deep.LoopGhost
import Derived.Deep.QuietTactic
import Derived.BigQuiet
import Derived.WideLaws
import Derived.Deep.DeepCutAuto
import Derived.Deep.CutBlock
import Derived.Deep.RegionHeld3
import Derived.Deep.MidRow
import Derived.Laws.Rows
import Derived.Lib.AppendStr
import Derived.ArgAppend
import Derived.Laws.IdiomCopy
import Derived.OrdersHeld
import Derived.Laws.BitsLemmas
import Derived.RowKit
import Derived.RegionTactic
import Derived.Deep.RegionWith
import Derived.Lib.Hide
import Derived.Test.YtjfleaekljapeaaDoorXAA
import Derived.Test.YtjfleaekljapeaaDoorXAB
import Derived.Test.YtjfleaekljapeaaDoorXAC
import Derived.Deep.RegionLaw
import Derived.Laws.CopyOwn
import Derived.Shelf.Spec.TrailingZeros
import Derived.Test.YtjfleaekljapeaaDoorXAV
import Derived.Laws.BitsAllLaws
import Derived.Test.YtjfleaekljapeaaDoorXAE
import Derived.Test.YtjfleaekljapeaaDoorXAG
import Derived.Test.YtjfleaekljapeaaDoorXAN
import Derived.Test.YtjfleaekljapeaaDoorXAS
import Derived.Test.YtjfleaekljapeaaDoorXAT
import Derived.Test.YtjfleaekljapeaaDoorXAU
import Derived.Test.YtjfleaekljapeaaDoorXBG
import Derived.Laws.Tables
import Derived.StillTailTactics
namespace Go.Proofs.YtjfleaekljapeaaDoor.K
open Go.RowKit Go.Proofs.YtjfleaekljapeaaDoorW.PrintWords Go.Proofs.YtjfleaekljapeaaDoorW.PrintLast Go.Proofs.YtjfleaekljapeaaDoorW.PrintMore
attribute [local go_sem] max2_int min2_int max_two min_two max_three min_three max_four min_four   -- for this text's walks alone
set_option linter.unusedVariables false
set_option linter.unusedSimpArgs false
set_option linter.unusedSectionVars false
theorem us0_wop (op : Int) : us0 op = lvWop op := by
 rw [Bool.eq_iff_iff]
 unfold us0 lvWop
 simp only [Bool.or_eq_true, beq_iff_eq]
 omega
theorem us1_ra (op : Int) : us1 op = (lvRa op || lvRab op) := by
 rw [Bool.eq_iff_iff]
 unfold us1 lvRa lvRab
 simp only [Bool.or_eq_true, beq_iff_eq]
 omega
theorem us2_rab (op : Int) : us2 op = lvRab op := rfl
theorem ra_not_rab (op : Int) (h : lvRa op = true) : lvRab op = false := by
 cases h2 : lvRab op with
 | false => rfl
 | true =>
  exfalso
  unfold lvRa at h
  unfold lvRab at h2
  simp only [Bool.or_eq_true, beq_iff_eq] at h h2
  omega
theorem mem_getD {l : List Int} {r : Int} (h : r ∈ l) : ∃ q, q < l.length /\ l.getD q 0 = r := by
 obtain ⟨q, hq, e⟩ := List.mem_iff_getElem.1 h
 exact ⟨q, hq, by rw [List.getD_eq_getElem?_getD, List.getElem?_eq_getElem hq]; exact e⟩
theorem all_mem {nk : Nat} {l : List Int} {once : Bool} (h : allB nk l once = true) : ∀ r ∈ l, 0 <= r /\ r < nk := by
 intro r hr
 obtain ⟨q, hq, e⟩ := mem_getD hr
 have := (((allB_iff _ _ _).1 h) q (Nat.zero_le _) hq).1
 rwa [e] at this
theorem all_nodup {nk : Nat} {l : List Int} (h : allB nk l true = true) : l.Nodup := by
 refine List.pairwise_iff_getElem.2 fun i j hi hj hij e => ?_
 have := (((allB_iff _ _ _).1 h) j (Nat.zero_le _) hj).2 rfl i hij
 apply this
 rw [List.getD_eq_getElem?_getD, List.getD_eq_getElem?_getD, List.getElem?_eq_getElem hi, List.getElem?_eq_getElem hj, e]
theorem nodup_len : ∀ (n : Nat) (l : List Int), l.Nodup -> (∀ x ∈ l, 0 <= x /\ x < n) -> l.length <= n
 | 0, l, _, h => by
  cases l with
  | nil => simp
  | cons a t => have := h a (by simp); omega
 | n + 1, l, hn, h => by
  by_cases hm : (n : Int) ∈ l
  ·have ih := nodup_len n (l.erase n) (hn.erase _) (fun x hx => by
    have h1 := (hn.mem_erase_iff).1 hx
    have h2 := h x h1.2
    have h3 := h1.1
    omega)
   rw [List.length_erase_of_mem hm] at ih
   omega
  ·have ih := nodup_len n l hn (fun x hx => by
    have h2 := h x hx
    have h3 : x ≠ n := fun e => hm (e ▸ hx)
    omega)
   omega
structure InsP (nk ns nc : Nat) (i : S44) : Prop where
 r1 : lvWop i.f0 = true -> 0 <= i.f1 /\ i.f1 < nk
 o0 : lvWop i.f0 = true -> i.f8 = []
 r2 : (lvRa i.f0 || lvRab i.f0) = true -> 0 <= i.f2 /\ i.f2 < nk
 r3 : lvRab i.f0 = true -> 0 <= i.f3 /\ i.f3 < nk
 args : ∀ r ∈ i.f7, 0 <= r /\ r < nk
 outs : ∀ r ∈ i.f8, 0 <= r /\ r < nk
 ol : i.f8.length <= nk
 tgt : 0 <= i.f9 /\ i.f9 < nc
theorem ins_p {nk ns nc : Nat} {i : S44} (h : insB nk ns nc i = true) : InsP nk ns nc i := by
 unfold insB at h
 simp only [Bool.and_eq_true] at h
 obtain ⟨_, h1, h2, h3, _, h5, h6, h7, _, h9, _, _⟩ := h
 rw [us0_wop] at h1
 rw [us1_ra] at h2
 rw [us2_rab] at h3
 unfold regB at h1 h2 h3
 have hO := all_mem h7
 refine ⟨fun e => ?_, fun e => ?_, fun e => ?_, fun e => ?_, all_mem h6, hO, nodup_len nk _ (all_nodup h7) hO, ?_⟩
 ·rw [e, if_pos rfl, th_iff] at h1; exact h1
 ·unfold lenB at h5
  have e0 : liO i.f0 = 0 := by
   unfold lvWop at e
   simp only [Bool.or_eq_true, beq_iff_eq] at e
   unfold liO
   rw [if_neg (by omega), if_neg (by omega), if_neg (by omega)]
  rw [e0] at h5
  simp at h5
  exact List.length_eq_zero_iff.1 (by simpa using h5)
 ·rw [e, if_pos rfl, th_iff] at h2; exact h2
 ·rw [e, if_pos rfl, th_iff] at h3; exact h3
 ·unfold toB at h9
  simp only [Bool.and_eq_true, Bool.not_eq_true', decide_eq_false_iff_not] at h9
  omega
structure CodeOk (nk : Nat) (code : List S44) : Prop where
 pos : 0 < code.length
 len : code.length <= 80
 next : ∀ n, n < code.length -> ∀ m ∈ lvNext code n, ∃ q : Nat, m = q /\ q < code.length
 wr : ∀ n, n < code.length -> ∀ r ∈ lvWrites (rd_T44 code n), 0 <= r /\ r < nk
 rds : ∀ n, n < code.length -> ∀ r ∈ lvReads (rd_T44 code n), 0 <= r /\ r < nk
 outs : ∀ n, n < code.length -> (rd_T44 code n).f8.length <= 40
 wrm : ∀ n, n < code.length -> ∀ r, r ∈ lvWrites (rd_T44 code n) <-> wrB (rd_T44 code n) r = true
 rdm : ∀ n, n < code.length -> ∀ r, r ∈ lvReads (rd_T44 code n) <-> rdB (rd_T44 code n) r = true
theorem code_ok {l2 l3 : List Int} {code : List S44} (h : fitsB l2 l3 code = true) : l2.length <= 40 /\ CodeOk l2.length code := by
 unfold fitsB goodB fnB at h
 simp only [Bool.and_eq_true, decide_eq_true_eq] at h
 obtain ⟨hc, hk, _, ⟨_, hc0, _, _, _, hcode, hlast⟩, _⟩ := h
 have hins : ∀ n, n < code.length -> InsP l2.length l3.length code.length (rd_T44 code n) := fun n hn => ins_p (List.all_eq_true.1 hcode n (List.mem_range.2 hn))
 refine ⟨hk, ?_⟩
 constructor
 ·omega
 ·exact hc
 ·intro n hn m hm
  have hi := hins n hn
  have hto : ∃ q : Nat, (rd_T44 code n).f9 = q /\ q < code.length := ⟨(rd_T44 code n).f9.toNat, by have := hi.tgt; omega, by have := hi.tgt; omega⟩
  have hlt : ¬ ((rd_T44 code n).f0 = 43 ∨ (rd_T44 code n).f0 = 22) -> (rd_T44 code n).f0 ≠ 18 -> n + 1 < code.length := by
   intro h1 h2
   by_cases e : n = code.length - 1
   ·unfold lastB at hlast
    rw [<- e] at hlast
    simp only [Bool.or_eq_true, beq_iff_eq] at hlast
    omega
   ·omega
  unfold lvNext at hm
  split at hm
  ·cases hm
  ·rename_i h1
   split at hm
   ·simp only [List.mem_singleton] at hm; subst hm; exact hto
   ·rename_i h2
    split at hm
    ·simp only [List.mem_cons, List.not_mem_nil, or_false] at hm
     rcases hm with rfl | rfl
     ·exact ⟨n + 1, by omega, hlt h1 h2⟩
     ·exact hto
    ·simp only [List.mem_singleton] at hm; subst hm
     exact ⟨n + 1, by omega, hlt h1 h2⟩
 ·intro n hn r hr
  have hi := hins n hn
  unfold lvWrites at hr
  split at hr
  ·rename_i h1
   simp only [List.mem_singleton] at hr; subst hr
   exact hi.r1 h1
  ·exact hi.outs r hr
 ·intro n hn r hr
  have hi := hins n hn
  unfold lvReads lvPre at hr
  rw [List.mem_append] at hr
  rcases hr with hr | hr
  ·split at hr
   ·rename_i h1
    simp only [List.mem_singleton] at hr; subst hr
    exact hi.r2 (by rw [h1]; rfl)
   ·split at hr
    ·rename_i h1
     simp only [List.mem_cons, List.not_mem_nil, or_false] at hr
     rcases hr with rfl | rfl
     ·exact hi.r2 (by rw [h1, Bool.or_true])
     ·exact hi.r3 h1
    ·cases hr
  ·exact hi.args r hr
 ·intro n hn
  have := (hins n hn).ol
  omega
 ·intro n hn r
  have hi := hins n hn
  unfold lvWrites wrB
  rw [us0_wop]
  cases e : lvWop (rd_T44 code n).f0 with
  | true =>
   rw [hi.o0 e]
   simp
   exact ⟨fun h => h.symm, fun h => h.symm⟩
  | false => simp
 ·intro n hn r
  unfold lvReads lvPre rdB
  rw [us1_ra, us2_rab]
  cases e : lvRa (rd_T44 code n).f0 with
  | true =>
   rw [ra_not_rab _ e]
   simp
   constructor <;> rintro (h | h)
   ·exact .inl h.symm
   ·exact .inr h
   ·exact .inl h.symm
   ·exact .inr h
  | false =>
   cases e2 : lvRab (rd_T44 code n).f0 with
   | true =>
    simp
    constructor <;> rintro (h | h | h)
    ·exact .inl h.symm
    ·exact .inr (.inl h.symm)
    ·exact .inr (.inr h)
    ·exact .inl h.symm
    ·exact .inr (.inl h.symm)
    ·exact .inr (.inr h)
   | false => simp
section
open Go.Proofs.YtjfleaekljapeaaDoor.EvLib
def stp (code : List S44) (r : Int) (S : Nat -> Bool) (n : Nat) : Bool := rdB (rd_T44 code n) r || ((lvNext code n).any (fun m => S m.toNat) && !wrB (rd_T44 code n) r)
theorem stp_mono {code : List S44} {r : Int} {S T : Nat -> Bool} {n : Nat} (h : ∀ m ∈ lvNext code n, S m.toNat = true -> T m.toNat = true) (hs : stp code r S n = true) : stp code r T n = true := by
 unfold stp at hs ⊢
 rw [Bool.or_eq_true, Bool.and_eq_true, List.any_eq_true] at hs ⊢
 rcases hs with h1 | ⟨⟨m, h1, h2⟩, h3⟩
 ·exact .inl h1
 ·exact .inr ⟨⟨m, h1, h m h1 h2⟩, h3⟩
def IsFix (code : List S44) (r : Int) (S : Nat -> Bool) : Prop := ∀ n, n < code.length -> S n = stp code r S n
structure Least (code : List S44) (r : Int) (S : Nat -> Bool) : Prop where
 fix : IsFix code r S
 le : ∀ T, IsFix code r T -> ∀ n, n < code.length -> S n = true -> T n = true
theorem countP_less {α : Type} {p q : α -> Bool} : ∀ {l : List α}, (∀ x ∈ l, p x = true -> q x = true) -> ∀ {x}, x ∈ l -> q x = true -> p x = false -> l.countP p < l.countP q
 | a :: l, h, x, hx, hq, hp => by
  have hl : l.countP p <= l.countP q := List.countP_mono_left (fun y hy hpy => h y (List.mem_cons_of_mem _ hy) hpy)
  rw [List.countP_cons, List.countP_cons]
  rcases List.mem_cons.1 hx with rfl | hx
  ·rw [hp, hq]; simp; omega
  ·have ih := countP_less (fun y hy => h y (List.mem_cons_of_mem _ hy)) hx hq hp
   have ha := h a List.mem_cons_self
   cases e : p a with
   | true => rw [ha e]; simp; omega
   | false => cases q a <;> simp <;> omega
structure Inv (code : List S44) (r : Int) (S : Nat -> Bool) : Prop where
 post : ∀ n, n < code.length -> S n = true -> stp code r S n = true
 le : ∀ T, IsFix code r T -> ∀ n, n < code.length -> S n = true -> T n = true
def upd (S : Nat -> Bool) (n : Nat) (b : Bool) (m : Nat) : Bool := if m = n then b else S m
section
variable {nk : Nat} {code : List S44} (hok : CodeOk nk code) {r : Int}
include hok
theorem Inv.add {S : Nat -> Bool} (h : Inv code r S) {n : Nat} (hn : n < code.length) (hs : stp code r S n = true) : Inv code r (upd S n true) := by
 have hup : ∀ m, S m = true -> upd S n true m = true := fun m hm => by unfold upd; split <;> simp [hm]
 refine ⟨fun m hm hmt => ?_, fun T hT m hm hmt => ?_⟩
 ·refine stp_mono (fun q _ => hup _) ?_
  by_cases e : m = n
  ·subst e; exact hs
  ·unfold upd at hmt
   rw [if_neg e] at hmt
   exact h.post m hm hmt
 ·by_cases e : m = n
  ·subst e
   rw [hT m hm]
   refine stp_mono (fun q hq hsq => ?_) hs
   obtain ⟨q', e, hq'⟩ := hok.next m hm q hq
   subst e
   exact h.le T hT _ hq' hsq
  ·unfold upd at hmt
   rw [if_neg e] at hmt
   exact h.le T hT m hm hmt
theorem inv_zero : Inv code r (fun _ => false) := ⟨fun _ _ h => (by cases h), fun _ _ _ _ h => (by cases h)⟩
omit hok in
theorem Inv.least {S : Nat -> Bool} (h : Inv code r S) (hf : ∀ n, n < code.length -> stp code r S n = true -> S n = true) : Least code r S :=
 ⟨fun n hn => by rw [Bool.eq_iff_iff]; exact ⟨h.post n hn, hf n hn⟩, h.le⟩
end
def bl (o : List Bool) (n : Nat) : Bool := o.getD n false
end
section
theorem and_not_bit (a b : Nat) (ha : a < 18446744073709551616) (hb : b < 18446744073709551616) : ∃ y : Nat, Go.bits .andNot .u64 (a : Int) (b : Int) = (y : Int) /\ y < 18446744073709551616 /\ ∀ i, y.testBit i = (a.testBit i && !b.testBit i) := by
 refine ⟨a &&& (18446744073709551615 - b), u64_andNot_nat a b ha hb, Nat.lt_of_le_of_lt Nat.and_le_left ha, fun i => ?_⟩
 rw [Nat.testBit_and]
 have e : 18446744073709551615 - b = 2 ^ 64 - (b + 1) := by omega
 rw [e, Nat.testBit_two_pow_sub_succ (by omega)]
 by_cases hi : i < 64
 ·simp [hi]
 ·have h0 : a.testBit i = false := Nat.testBit_lt_two_pow (Nat.lt_of_lt_of_le ha (by
   have : 2 ^ 64 <= 2 ^ i := Nat.pow_le_pow_right (by omega) (by omega)
   exact this))
  simp [h0]
theorem or_bit (a b : Nat) (ha : a < 18446744073709551616) (hb : b < 18446744073709551616) : ∃ y : Nat, Go.bits .or .u64 (a : Int) (b : Int) = (y : Int) /\ y < 18446744073709551616 /\ ∀ i, y.testBit i = (a.testBit i || b.testBit i) :=
 ⟨a ||| b, bits_or_u64_nat a b ha hb, Nat.or_lt_two_pow (n := 64) ha hb, fun i => Nat.testBit_or a b i⟩
theorem two_pow_nat (q : Nat) : (2 : Int) ^ q = ((2 ^ q : Nat) : Int) := by simp
theorem put_bit (x : Nat) (hx : x < 18446744073709551616) (q : Nat) (hq : q < 64) (b : Bool) : ∃ y : Nat, lvPut (x : Int) (q : Int) b = (y : Int) /\ y < 18446744073709551616 /\ ∀ i, y.testBit i = if i = q then b else x.testBit i := by
 have hp : 2 ^ q < 18446744073709551616 := Nat.pow_lt_pow_right (show 1 < 2 by omega) hq
 unfold lvPut
 rw [Int.toNat_natCast, two_pow_nat]
 obtain ⟨y, e1, h1, h2⟩ := and_not_bit x (2 ^ q) hx hp
 rw [e1]
 cases b with
 | false =>
  refine ⟨y, by rw [if_neg (by decide)], h1, fun i => ?_⟩
  rw [h2, Nat.testBit_two_pow]
  by_cases e : i = q
  ·subst e; simp
  ·rw [if_neg e]
   have : decide (q = i) = false := by simp; omega
   rw [this]; simp
 | true =>
  obtain ⟨z, e2, h3, h4⟩ := or_bit y (2 ^ q) h1 hp
  refine ⟨z, by rw [if_pos rfl]; exact e2, h3, fun i => ?_⟩
  rw [h4, h2, Nat.testBit_two_pow]
  by_cases e : i = q
  ·subst e; simp
  ·rw [if_neg e]
   have : decide (q = i) = false := by simp; omega
   rw [this]; simp
theorem puts_bit (b : Bool) : ∀ (l : List Int) (x : Nat), x < 18446744073709551616 -> (∀ r ∈ l, 0 <= r /\ r < 64) -> ∃ y : Nat, lvPuts b (x : Int) l = (y : Int) /\ y < 18446744073709551616 /\ ∀ i : Nat, y.testBit i = if (i : Int) ∈ l then b else x.testBit i
 | [], x, hx, _ => ⟨x, rfl, hx, fun i => by simp⟩
 | r :: t, x, hx, h => by
  obtain ⟨h0, h1⟩ := h r List.mem_cons_self
  obtain ⟨q, rfl⟩ := Int.eq_ofNat_of_zero_le h0
  obtain ⟨y, e1, hy, hb⟩ := put_bit x hx q (by omega) b
  obtain ⟨z, e2, hz, hb2⟩ := puts_bit b t y hy (fun r hr => h r (List.mem_cons_of_mem _ hr))
  refine ⟨z, ?_, hz, fun i => ?_⟩
  ·have e3 : lvPuts b (x : Int) ((q : Int) :: t) = lvPuts b (lvPut (x : Int) (q : Int) b) t := rfl
   rw [e3, e1]
   exact e2
  ·rw [hb2, hb]
   by_cases h1 : (i : Int) ∈ t
   ·rw [if_pos h1, if_pos (List.mem_cons_of_mem _ h1)]
   ·rw [if_neg h1]
    by_cases h2 : i = q
    ·subst h2
     rw [if_pos rfl, if_pos List.mem_cons_self]
    ·rw [if_neg h2, if_neg (by
      intro h3
      rcases List.mem_cons.1 h3 with h4 | h4
      ·exact h2 (by omega)
      ·exact h1 h4)]
def Words (L : List Int) : Prop := ∀ n : Nat, ∃ x : Nat, rd L (n : Int) = (x : Int) /\ x < 18446744073709551616
def lb (L : List Int) (r : Nat) (n : Nat) : Bool := (rd L (n : Int)).toNat.testBit r
theorem ors_bit {L : List Int} (hL : Words L) : ∀ (l : List Int) (x : Nat), x < 18446744073709551616 -> (∀ m ∈ l, ∃ q : Nat, m = q) -> ∃ y : Nat, l.foldl (lvOr L) (x : Int) = (y : Int) /\ y < 18446744073709551616 /\ ∀ i : Nat, y.testBit i = (x.testBit i || l.any (fun m => lb L i m.toNat))
 | [], x, hx, _ => ⟨x, rfl, hx, fun i => by simp⟩
 | m :: t, x, hx, h => by
  obtain ⟨q, rfl⟩ := h m List.mem_cons_self
  obtain ⟨u, eu, hu⟩ := hL q
  obtain ⟨y, e1, hy, hb⟩ := or_bit x u hx hu
  obtain ⟨z, e2, hz, hb2⟩ := ors_bit hL t y hy (fun r hr => h r (List.mem_cons_of_mem _ hr))
  refine ⟨z, ?_, hz, fun i => ?_⟩
  ·rw [List.foldl_cons]
   have e3 : lvOr L (x : Int) (q : Int) = (y : Int) := by unfold lvOr; rw [eu]; exact e1
   rw [e3]
   exact e2
  ·rw [hb2, hb, List.any_cons]
   unfold lb
   rw [Int.toNat_natCast, eu, Int.toNat_natCast, Bool.or_assoc]
section
variable {nk : Nat} {code : List S44} (hok : CodeOk nk code) (h64 : nk <= 64)
include hok h64
theorem now_bit {L : List Int} (hL : Words L) (n : Nat) (hn : n < code.length) : ∃ y : Nat, lvNow code L n = (y : Int) /\ y < 18446744073709551616 /\ ∀ i : Nat, y.testBit i = stp code (i : Int) (lb L i) n := by
 obtain ⟨x, e1, hx, hb1⟩ := ors_bit hL (lvNext code n) 0 (by omega) (fun m hm => by obtain ⟨q, e, _⟩ := hok.next n hn m hm; exact ⟨q, e⟩)
 obtain ⟨y, e2, hy, hb2⟩ := puts_bit false (lvWrites (rd_T44 code n)) x hx (fun r hr => by have := hok.wr n hn r hr; omega)
 obtain ⟨z, e3, hz, hb3⟩ := puts_bit true (lvReads (rd_T44 code n)) y hy (fun r hr => by have := hok.rds n hn r hr; omega)
 refine ⟨z, ?_, hz, fun i => ?_⟩
 ·unfold lvNow
  rw [show ((0 : Int)) = ((0 : Nat) : Int) from rfl, e1, e2, e3]
 ·rw [hb3, hb2, hb1]
  unfold stp
  by_cases hr : (i : Int) ∈ lvReads (rd_T44 code n)
  ·rw [if_pos hr, (hok.rdm n hn i).1 hr, Bool.true_or]
  ·rw [if_neg hr]
   have e4 : rdB (rd_T44 code n) i = false := by
    cases e : rdB (rd_T44 code n) i with
    | false => rfl
    | true => exact absurd ((hok.rdm n hn i).2 e) hr
   rw [e4, Bool.false_or]
   by_cases hw : (i : Int) ∈ lvWrites (rd_T44 code n)
   ·rw [if_pos hw, (hok.wrm n hn i).1 hw]; simp
   ·have e5 : wrB (rd_T44 code n) i = false := by
     cases e : wrB (rd_T44 code n) i with
     | false => rfl
     | true => exact absurd ((hok.wrm n hn i).2 e) hw
    rw [if_neg hw, e5]; simp
end
end
section
structure Inv2 (code : List S44) (L : List Int) : Prop where
 words : Words L
 len : L.length = code.length + 1
 inv : ∀ r : Nat, Inv code (r : Int) (lb L r)
def pairs (len : Nat) : List (Nat × Nat) := (List.range len).flatMap fun n => (List.range 64).map fun r => (n, r)
theorem mem_pairs {len n r : Nat} (hn : n < len) (hr : r < 64) : (n, r) ∈ pairs len := by
 unfold pairs
 rw [List.mem_flatMap]
 exact ⟨n, List.mem_range.2 hn, List.mem_map.2 ⟨r, List.mem_range.2 hr, rfl⟩⟩
def pot (len : Nat) (L : List Int) : Nat := (pairs len).countP fun p => !(lb L p.2 p.1)
theorem lb_set (L : List Int) (n : Nat) (y : Nat) (hn : n < L.length) (r : Nat) : lb (L.set n (y : Int)) r = upd (lb L r) n (y.testBit r) := by
 funext m
 show (rd (L.set n (y : Int)) (m : Int)).toNat.testBit r = if m = n then y.testBit r else lb L r m
 by_cases e : m = n
 ·subst e
  rw [if_pos rfl, rd_set_eq L m _ hn, Int.toNat_natCast]
 ·rw [if_neg e, rd_set_ne L n m _ (fun h => e h.symm)]
  rfl
theorem words_set {L : List Int} (h : Words L) (n : Nat) (y : Nat) (hy : y < 18446744073709551616) : Words (L.set n (y : Int)) := by
 intro m
 by_cases e : n = m
 ·subst e
  by_cases hn : n < L.length
  ·exact ⟨y, by rw [rd_set_eq L n _ hn], hy⟩
  ·rw [List.set_eq_of_length_le (by omega)]
   exact h n
 ·rw [rd_set_ne L n m _ e]
  exact h m
theorem bits_big (x : Nat) (hx : x < 18446744073709551616) (i : Nat) (hi : 64 <= i) : x.testBit i = false := Nat.testBit_lt_two_pow (Nat.lt_of_lt_of_le hx (by
 have : 2 ^ 64 <= 2 ^ i := Nat.pow_le_pow_right (by omega) hi
 exact this))
section
variable {nk : Nat} {code : List S44} (hok : CodeOk nk code) (h64 : nk <= 64)
include hok h64
theorem in_step {L : List Int} (h : Inv2 code L) (n : Nat) (hn : n < code.length) : ∃ y : Nat, lvNow code L n = (y : Int) /\ Inv2 code (L.set n (y : Int)) /\ pot code.length (L.set n (y : Int)) <= pot code.length L /\ (lvNow code L n ≠ rd L (n : Int) -> pot code.length (L.set n (y : Int)) < pot code.length L) := by
 obtain ⟨y, e, hy, hb⟩ := now_bit hok h64 h.words n hn
 have hlb : ∀ r : Nat, lb (L.set n (y : Int)) r = upd (lb L r) n (stp code (r : Int) (lb L r) n) := fun r => by rw [lb_set L n y (by rw [h.len]; omega) r, hb]
 have hup : ∀ (r m : Nat), lb L r m = true -> lb (L.set n (y : Int)) r m = true := fun r m hm => by
  rw [hlb]
  unfold upd
  split
  ·rename_i e2
   subst e2
   exact (h.inv r).post m hn hm
  ·exact hm
 refine ⟨y, e, ⟨words_set h.words n y hy, by rw [List.length_set]; exact h.len, fun r => ?_⟩, ?_, fun hne => ?_⟩
 ·rw [hlb]
  cases hs : stp code (r : Int) (lb L r) n with
  | true => exact (h.inv r).add hok hn hs
  | false =>
   have e2 : upd (lb L r) n false = lb L r := by
    funext m
    unfold upd
    split
    ·rename_i e3
     subst e3
     cases h0 : lb L r m with
     | false => rfl
     | true =>
      have := (h.inv r).post m hn h0
      rw [hs] at this
      cases this
    ·rfl
   rw [e2]
   exact h.inv r
 ·unfold pot
  refine List.countP_mono_left fun p _ hp => ?_
  cases h0 : lb L p.2 p.1 with
  | false => rfl
  | true =>
   rw [hup _ _ h0] at hp
   cases hp
 ·obtain ⟨x, ex, hx⟩ := h.words n
  have hxy : x ≠ y := fun e2 => hne (by rw [e, ex, e2])
  obtain ⟨i, hi⟩ : ∃ i, x.testBit i ≠ y.testBit i := by
   refine Classical.byContradiction fun hc => hxy (Nat.eq_of_testBit_eq fun i => ?_)
   exact Classical.byContradiction fun h1 => hc ⟨i, h1⟩
  have hi64 : i < 64 := by
   refine Classical.byContradiction fun hc => hi ?_
   rw [bits_big x hx i (by omega), bits_big y hy i (by omega)]
  have hxl : lb L i n = x.testBit i := by unfold lb; rw [ex, Int.toNat_natCast]
  have hyl : lb (L.set n (y : Int)) i n = y.testBit i := by rw [lb_set L n y (by rw [h.len]; omega)]; simp [upd]
  have hx0 : lb L i n = false := by
   cases h0 : lb L i n with
   | false => rfl
   | true =>
    have h1 := hup i n h0
    rw [hyl] at h1
    rw [hxl] at h0
    exact absurd (h0.trans h1.symm) hi
  have hy1 : lb (L.set n (y : Int)) i n = true := by
   rw [hyl]
   rw [hxl] at hx0
   rw [hx0] at hi
   cases h0 : y.testBit i with
   | true => rfl
   | false => exact absurd h0.symm hi
  unfold pot
  refine countP_less (fun p _ hp => ?_) (mem_pairs hn hi64) (by rw [hx0]; rfl) (by rw [hy1]; rfl)
  cases h0 : lb L p.2 p.1 with
  | false => rfl
  | true =>
   rw [hup _ _ h0] at hp
   cases hp
theorem in_spec : ∀ (p : Nat) (L : List Int) (m : Bool), p <= code.length -> Inv2 code L →
  Inv2 code (lvIn code p L m).1 /\ pot code.length (lvIn code p L m).1 <= pot code.length L /\ ((lvIn code p L m).2 = true -> m = true ∨ pot code.length (lvIn code p L m).1 < pot code.length L) ∧
   ((lvIn code p L m).2 = false -> m = false /\ (lvIn code p L m).1 = L /\ ∀ i, i < p -> lvNow code L i = rd L (i : Int))
 | 0, L, m, hp, h => ⟨h, Nat.le_refl _, fun hm => .inl hm, fun hm => ⟨hm, rfl, fun i hi => by omega⟩⟩
 | p + 1, L, m, hp, h => by
  obtain ⟨y, e, hI, hle, hlt⟩ := in_step hok h64 h p (by omega)
  rw [lvIn]
  by_cases c : lvNow code L p = rd L (p : Int)
  ·rw [if_pos c]
   obtain ⟨h1, h2, h3, h4⟩ := in_spec p L m (by omega) h
   refine ⟨h1, h2, h3, fun hm => ?_⟩
   obtain ⟨h5, h6, h7⟩ := h4 hm
   refine ⟨h5, h6, fun i hi => ?_⟩
   by_cases e2 : i = p
   ·subst e2; exact c
   ·exact h7 i (by omega)
  ·rw [if_neg c, e]
   obtain ⟨h1, h2, h3, h4⟩ := in_spec p (L.set p (y : Int)) true (by omega) hI
   have h5 := hlt c
   refine ⟨h1, by omega, fun _ => .inr (by omega), fun hm => ?_⟩
   have := (h4 hm).1
   cases this
theorem run_is : ∀ (c : Nat) (L : List Int), pot code.length L <= c -> Inv2 code L -> ∃ K R, lvRun code K L = some R /\ Words R /\ R.length = code.length + 1 /\ ∀ r : Nat, _root_.Go.Proofs.YtjfleaekljapeaaDoor.K.Least code (r : Int) (lb R r)
 | c, L, hc, h => by
  obtain ⟨h1, h2, h3, h4⟩ := in_spec hok h64 code.length L false (Nat.le_refl _) h
  cases hm : (lvIn code code.length L false).2 with
  | false =>
   obtain ⟨_, h6, h7⟩ := h4 hm
   refine ⟨1, (lvIn code code.length L false).1, by rw [lvRun, hm, if_neg (by decide)], h1.words, h1.len, fun r => (h1.inv r).least fun n hn hs => ?_⟩
   rw [h6] at hs ⊢
   obtain ⟨y, e, _, hb⟩ := now_bit hok h64 h.words n hn
   unfold lb
   rw [<- h7 n hn, e, Int.toNat_natCast, hb]
   exact hs
  | true =>
   have hlt : pot code.length (lvIn code code.length L false).1 < pot code.length L := by
    rcases h3 hm with h5 | h5
    ·cases h5
    ·exact h5
   match c, hc with
   | 0, hc => omega
   | c + 1, hc =>
    obtain ⟨K, R, h5, h6⟩ := run_is c (lvIn code code.length L false).1 (by omega) h1
    exact ⟨K + 1, R, by rw [lvRun, hm, if_pos rfl]; exact h5, h6⟩
theorem live_run : ∃ K R, lvRun code K (List.replicate (code.length + 1) 0) = some R /\ Words R /\ R.length = code.length + 1 /\ ∀ r : Nat, Least code (r : Int) (lb R r) := by
 have hz : ∀ m : Nat, rd (List.replicate (code.length + 1) (0 : Int)) (m : Int) = 0 := fun m => by
  unfold rd
  rw [Int.toNat_natCast, List.getD_eq_getElem?_getD, List.getElem?_replicate]
  split <;> rfl
 refine run_is hok h64 (pot code.length (List.replicate (code.length + 1) 0)) _ (Nat.le_refl _) ⟨fun n => ⟨0, by rw [hz]; rfl, by omega⟩, by simp, fun r => ?_⟩
 have e : lb (List.replicate (code.length + 1) 0) r = fun _ => false := by
  funext m
  unfold lb
  rw [hz]
  simp
 rw [e]
 exact inv_zero hok
end
end
section
open Go.Proofs.YtjfleaekljapeaaDoor.EvLib
theorem spWith_twice (p : Int × Int) (n : Int) : spWith (spWith p n) n = spWith p n := by
 obtain ⟨a, b⟩ := p
 unfold spWith mn mx
 by_cases h : b < a
 ·simp [h]
 ·simp only [h, if_false]
  repeat' split
  all_goals first | rfl | (exfalso; omega) | (congr 1 <;> omega)
theorem put_getD (n : Int) (l : List (Int × Int)) (q r : Nat) (hr : r < l.length) : (spPut n l (q : Int)).getD r (0, -1) = if q = r then spWith (l.getD r (0, -1)) n else l.getD r (0, -1) := by
 unfold spPut
 rw [Int.toNat_natCast, List.getD_eq_getElem?_getD]
 by_cases e : q = r
 ·subst e
  rw [if_pos rfl, List.getElem?_set_self hr]; rfl
 ·rw [if_neg e, List.getElem?_set_ne e, List.getD_eq_getElem?_getD]
theorem fold_at (n : Int) : ∀ (rs : List Int) (l : List (Int × Int)) (r : Nat), (∀ x ∈ rs, 0 <= x) -> r < l.length -> (rs.foldl (spPut n) l).getD r (0, -1) = if (r : Int) ∈ rs then spWith (l.getD r (0, -1)) n else l.getD r (0, -1)
 | [], l, r, _, _ => by simp
 | x :: t, l, r, h, hr => by
  obtain ⟨q, rfl⟩ := Int.eq_ofNat_of_zero_le (h x List.mem_cons_self)
  rw [List.foldl_cons, fold_at n t _ r (fun y hy => h y (List.mem_cons_of_mem _ hy)) (by rw [spPut_length]; exact hr), put_getD n l q r hr]
  by_cases e : q = r
  ·subst e
   rw [if_pos rfl, if_pos List.mem_cons_self]
   split
   ·exact spWith_twice _ _
   ·rfl
  ·rw [if_neg e]
   by_cases ht : (r : Int) ∈ t
   ·rw [if_pos ht, if_pos (List.mem_cons_of_mem _ ht)]
   ·rw [if_neg ht, if_neg (by
     intro h2
     rcases List.mem_cons.1 h2 with h3 | h3
     ·exact e (by omega)
     ·exact ht h3)]
theorem spw_new (n : Int) : spWith (0, -1) n = (n, n) := by
 unfold spWith
 rw [if_pos (by show (-1 : Int) < 0; omega)]
theorem spw_up (a b n : Int) (h1 : a <= b) (h2 : b < n) : spWith (a, b) n = (a, n) := by
 unfold spWith mn mx
 show (if b < a then _ else ((if n < a then n else a), (if b < n then n else b))) = _
 rw [if_neg (by omega), if_neg (by omega), if_pos h2]
theorem spw_zero (a b : Int) (h0 : 0 <= a) (h1 : a <= b) : spWith (a, b) 0 = (0, b) := by
 unfold spWith mn mx
 show (if b < a then _ else ((if 0 < a then 0 else a), (if b < 0 then 0 else b))) = _
 rw [if_neg (by omega), if_neg (show ¬ b < 0 by omega)]
 congr 1
 split <;> omega
def spOne (ev : Nat -> Bool) : Nat -> Int × Int
 | 0 => (0, -1)
 | k + 1 => if ev k = true then spWith (spOne ev k) k else spOne ev k
theorem spOne_shape (ev : Nat -> Bool) : ∀ k : Nat, spOne ev k = (0, -1) ∨ ∃ a b : Int, spOne ev k = (a, b) /\ 0 <= a /\ a <= b /\ b < k
 | 0 => .inl rfl
 | k + 1 => by
  have ih := spOne_shape ev k
  unfold spOne
  split
  ·right
   rcases ih with e | ⟨a, b, e, h1, h2, h3⟩
   ·rw [e]
    exact ⟨k, k, spw_new _, by omega, by omega, by omega⟩
   ·rw [e]
    exact ⟨a, k, spw_up a b k h2 h3, by omega, by omega, by omega⟩
  ·rcases ih with e | ⟨a, b, e, h1, h2, h3⟩
   ·exact .inl e
   ·exact .inr ⟨a, b, e, h1, h2, by omega⟩
def rfOne (ev : Nat -> Bool) (p : Bool) : Nat -> Int × Int
 | 0 => (0, -1)
 | k + 1 => if (ev k || (k == 0 && p)) = true then (if (rfOne ev p k).2 < 0 then ((k : Int), (k : Int)) else ((rfOne ev p k).1, (k : Int))) else rfOne ev p k
theorem rf_is (ev : Nat -> Bool) (p : Bool) : ∀ k : Nat, rfOne ev p (k + 1) = if p = true then spWith (spOne ev (k + 1)) 0 else spOne ev (k + 1)
 | 0 => by
  simp only [rfOne, spOne]
  cases ev 0 <;> cases p <;> simp [spWith, mn, mx]
 | k + 1 => by
  have ih := rf_is ev p k
  have hs := spOne_shape ev (k + 1)
  have e1 : rfOne ev p (k + 1 + 1) = if ev (k + 1) = true then (if (rfOne ev p (k + 1)).2 < 0 then (((k + 1 : Nat) : Int), ((k + 1 : Nat) : Int)) else ((rfOne ev p (k + 1)).1, ((k + 1 : Nat) : Int))) else rfOne ev p (k + 1) := by
   rw [rfOne]
   have : ((k + 1 == 0) && p) = false := by simp
   rw [this, Bool.or_false]
  have e2 : spOne ev (k + 1 + 1) = if ev (k + 1) = true then spWith (spOne ev (k + 1)) ((k + 1 : Nat) : Int) else spOne ev (k + 1) := rfl
  rw [e1, e2, ih]
  have hkk : (0 : Int) <= ((k + 1 : Nat) : Int) := by omega
  generalize ((k + 1 : Nat) : Int) = kk at *
  cases hev : ev (k + 1) with
  | false => simp
  | true =>
   rw [if_pos rfl, if_pos rfl]
   rcases hs with e | ⟨a, b, e, h1, h2, h3⟩
   ·rw [e]
    cases p with
    | true =>
     rw [if_pos rfl, if_pos rfl, spw_new, spw_new]
     show (if (0 : Int) < 0 then _ else ((0 : Int), kk)) = _
     rw [if_neg (by omega), spw_zero kk kk hkk (Int.le_refl _)]
    | false =>
     simp only [Bool.false_eq_true, if_false, spw_new]
     simp
   ·rw [e]
    cases p with
    | true =>
     rw [if_pos rfl, if_pos rfl, spw_zero a b h1 h2, spw_up a b kk h2 h3, spw_zero a kk h1 (by omega)]
     show (if b < 0 then _ else ((0 : Int), kk)) = _
     rw [if_neg (by omega)]
    | false =>
     simp only [Bool.false_eq_true, if_false]
     rw [spw_up a b kk h2 h3]
     show (if b < 0 then _ else (a, kk)) = _
     rw [if_neg (by omega)]
theorem lvLists_get {R : List Int} (len n : Nat) (hR : R.length = len + 1) (hn : n < len) : (lvLists R len).getD n [] = lvMem (rd R (n : Int)).toNat := by
 unfold lvLists rd
 rw [List.getD_eq_getElem?_getD, List.getElem?_map, List.getElem?_take, if_pos hn, Int.toNat_natCast, List.getD_eq_getElem?_getD, List.getElem?_eq_getElem (by omega)]
 rfl
def evOf (code : List S44) (R : List Int) (r n : Nat) : Bool := lb R r n || wrB (rd_T44 code n) (r : Int)
section
variable {nk : Nat} {code : List S44} (hok : CodeOk nk code) (h64 : nk <= 64) {R : List Int} (hW : Words R) (hlen : R.length = code.length + 1)
include hok h64 hW hlen
theorem line_mem (n : Nat) (hn : n < code.length) (r : Nat) : ((r : Int) ∈ (lvLists R code.length).getD n [] ++ lvWrites (rd_T44 code n)) <-> evOf code R r n = true := by
 obtain ⟨x, ex, hx⟩ := hW n
 rw [List.mem_append, lvLists_get code.length n hlen hn, hok.wrm n hn, ex, Int.toNat_natCast, mem_lvMem 64 x (Nat.le_refl _) hx r]
 unfold evOf lb
 rw [ex, Int.toNat_natCast, Bool.or_eq_true]
theorem line_nonneg (n : Nat) (hn : n < code.length) : ∀ x ∈ (lvLists R code.length).getD n [] ++ lvWrites (rd_T44 code n), 0 <= x := by
 intro x hx
 rcases List.mem_append.1 hx with h | h
 ·rw [lvLists_get code.length n hlen hn] at h
  exact lvMem_nonneg _ x h
 ·exact (hok.wr n hn x h).1
theorem lines_len : ∀ k : Nat, (spLines (lvLists R code.length) code nk k).length = nk
 | 0 => by simp [spLines]
 | k + 1 => by
  unfold spLines
  rw [List.range_succ, List.foldl_append]
  show (spLine _ _ (spLines (lvLists R code.length) code nk k) k).length = nk
  unfold spLine
  rw [spFold_length]
  exact lines_len k
theorem lines_at (r : Nat) (hr : r < nk) : ∀ k : Nat, k <= code.length -> (spLines (lvLists R code.length) code nk k).getD r (0, -1) = spOne (evOf code R r) k
 | 0, _ => by
  unfold spLines spOne
  rw [List.range_zero, List.foldl_nil, List.getD_eq_getElem?_getD, List.getElem?_replicate]
  split <;> rfl
 | k + 1, hk => by
  have e : spLines (lvLists R code.length) code nk (k + 1) = spLine (lvLists R code.length) code (spLines (lvLists R code.length) code nk k) k := by
   unfold spLines
   rw [List.range_succ, List.foldl_append]
   rfl
  rw [e]
  unfold spLine
  rw [fold_at (k : Int) _ _ r (line_nonneg hok h64 hW hlen k (by omega)) (by rw [lines_len hok h64 hW hlen]; exact hr), lines_at r hr k (by omega)]
  show _ = if evOf code R r k = true then _ else _
  by_cases h : evOf code R r k = true
  ·rw [if_pos h, if_pos ((line_mem hok h64 hW hlen k (by omega) r).2 h)]
  ·rw [if_neg h, if_neg (fun h2 => h ((line_mem hok h64 hW hlen k (by omega) r).1 h2))]
theorem res_at (params : List Int) (hp : ∀ x ∈ params, 0 <= x) (r : Nat) (hr : r < nk) : (spRes (lvLists R code.length) code nk params).getD r (0, -1) = rfOne (evOf code R r) (decide ((r : Int) ∈ params)) code.length := by
 have hpos := hok.pos
 obtain ⟨k, hk⟩ : ∃ k, code.length = k + 1 := ⟨code.length - 1, by omega⟩
 unfold spRes
 rw [fold_at 0 params _ r hp (by rw [lines_len hok h64 hW hlen]; exact hr), lines_at hok h64 hW hlen r hr code.length (Nat.le_refl _), hk, rf_is]
 by_cases h : (r : Int) ∈ params
 ·rw [if_pos h, if_pos (decide_eq_true h)]
 ·rw [if_neg h, if_neg (by simpa using h)]
end
end
section
open Go.Proofs.YtjfleaekljapeaaDoor.EvLib
theorem words_mem {R : List Int} (h : Words R) : ∀ x ∈ R, 0 <= x /\ x < 18446744073709551616 := by
 intro x hx
 obtain ⟨n, hn, e⟩ := List.mem_iff_getElem.1 hx
 obtain ⟨y, h1, h2⟩ := h n
 have h3 : rd R (n : Int) = x := by
  unfold rd
  rw [Int.toNat_natCast, List.getD_eq_getElem?_getD, List.getElem?_eq_getElem hn, <- e]; rfl
 rw [h3] at h1
 omega
theorem live_ok {nk : Nat} {code : List S44} (h : CodeOk nk code) (h64 : nk < 64) (ha : ∀ n, n < code.length -> (rd_T44 code n).f7.length <= 17592186043904) : LvOk code where
 len := by have := h.len; omega
 next := fun n hn m hm => by obtain ⟨q, e, hq⟩ := h.next n hn m hm; omega
 wr := fun n hn r hr => by have := h.wr n hn r hr; omega
 rds := fun n hn r hr => by have := h.rds n hn r hr; omega
 args := ha
 outs := fun n hn => by have := h.outs n hn; omega
theorem lb_high {nk : Nat} {code : List S44} (hok : CodeOk nk code) {R : List Int} (hL : ∀ r : Nat, Least code (r : Int) (lb R r)) (r : Nat) (hr : nk <= r) (n : Nat) (hn : n < code.length) : lb R r n = false := by
 have hf : IsFix code (r : Int) (fun _ => false) := by
  intro m hm
  unfold stp
  have h1 : rdB (rd_T44 code m) (r : Int) = false := by
   cases e : rdB (rd_T44 code m) (r : Int) with
   | false => rfl
   | true => have := hok.rds m hm _ ((hok.rdm m hm _).2 e); omega
  rw [h1]; simp
 cases e : lb R r n with
 | false => rfl
 | true => exact absurd ((hL r).le _ hf n hn e) (by simp)
structure LwSt (w0 w : World) (g : Nat) (fc : Array Value) : Prop where
 hf : w.heap[g]? = some (.cells fc 25 (0, 0))
 lo : w0.heap.size <= g
 below : Below w0.heap.size w0 w
theorem LwSt.step {w0 w w' : World} {g : Nat} {fc : Array Value} (h : LwSt w0 w g fc) (hb : Below w.heap.size w w') : LwSt w0 w' g fc := ⟨blk_below h.hf hb, h.lo, below_step h.below hb⟩
theorem LwSt.put5 {w0 w : World} {g : Nat} {a0 a1 a2 a3 a4 : Value} (h : LwSt w0 w g #[a0, a1, a2, a3, a4]) (b0 b1 b2 b3 b4 : Value) : LwSt w0 (((((w.setCell ⟨g, 0, none⟩ b0).setCell ⟨g, 1, none⟩ b1).setCell ⟨g, 2, none⟩ b2).setCell ⟨g, 3, none⟩ b3).setCell ⟨g, 4, none⟩ b4) g #[b0, b1, b2, b3, b4] :=
 ⟨fn_put5 h.hf _ _ _ _ _, h.lo, fn_below5 h.below h.lo _ _ _ _ _⟩
end
section
open Go.Proofs.YtjfleaekljapeaaDoor.EvLib
end
section
open Go.Proofs.YtjfleaekljapeaaDoor.EvLib
end
def R64 (x : Int) : Prop := 0 <= x /\ x < 18446744073709551616
open Classical in
noncomputable def doV (n a b : Int) : Int := if h : DoB n a b then h.choose else 0
noncomputable def actP (p : PS) (fr : FP) (op n size : Int) (nm : ByteArray) (a b : Int) (vs : List Int) : PS × List Int :=
 if op = 1 then (p, [n])
 else if op = 2 then (p, [a])
 else if op = 3 then (p, [doV n a b])
 else if op = 4 then (p, [narI a (8 * size.toNat)])
 else if op = 20 then ({ p with out := p.out ++ [by8 a] }, [])
 else if op = 21 then (match p.input with
  | [] => (p, [18446744073709551615])
  | c :: inp => ({ p with input := inp }, [IntKind.u64.wrap c]))
 else if op = 22 then (({ p with code := by8 a } : PS).stopped 1, [])
 else if op = 30 then (p, [IntKind.u64.wrap (rd p.tops (topI nm))])
 else if op = 31 then (p, [IntKind.u64.wrap (rd fr.slots n)])
 else if op = 32 then (p, [fr.lock])
 else if op = 33 then (p, [fr.key])
 else if op = 34 then (chkP p size vs, [])
 else if op = 35 then (ldP p size a, if placeB a size = true then [narI (ldI p.mem a size.toNat 0) (8 * size.toNat)] else [])
 else if op = 36 then (stP p size a b, [])
 else if op = 37 then (p, [(shV p.L a p.L.length).f1, (shV p.L a p.L.length).f2, (shV p.L a p.L.length).f3, (shV p.L a p.L.length).f4])
 else if op = 38 then ({ p with L := p.L ++ [⟨a, vsl vs 0, vsl vs 1, vsl vs 2, vsl vs 3⟩] }, [])
 else if op = 39 then (zrP p (rd fr.slots n) (rd fr.sizes n), [])
 else if op = 40 then (alP p a, if alB p a = true then [] else alV p a)
 else if op = 41 then (frP p vs, [])
 else (p, [])
noncomputable def actI (p : PS) (fr : FP) (i : S44) (xs : List Int) : PS × List Int := actP p fr i.f0 i.f4 i.f5 i.f6 (rd xs i.f2) (rd xs i.f3) (i.f7.map (rd xs))
noncomputable def actX (p : PS) (fr : FP) (i : S44) (xs : List Int) : List Int := wrL xs (lvWrites i) (actI p fr i xs).2
structure PI (e k : Nat) (p : PS) : Prop where
 tops : p.tops = [4096, 4112]
 mem : p.mem.length <= 4190208
 L : p.L.length <= k
 Lr : ∀ x ∈ p.L, R64 x.f1 /\ R64 x.f2 /\ R64 x.f3 /\ R64 x.f4
 locks : p.locks.length <= e + k
 keys : 0 <= p.keys /\ p.keys <= ((e + k : Nat) : Int)
 blocks : p.blocks.length <= k
 out : p.out.length <= k
 free : 0 <= p.free /\ p.free <= 2097152
 checks : 0 <= p.checks /\ p.checks <= (k : Int)
 top : 4096 <= p.top /\ p.top <= 4194304
 fuel : p.fuel = 400
structure FI (fr : FP) : Prop where
 lock : 0 <= fr.lock /\ fr.lock < 4611686018427387904
 key : R64 fr.key
 slots : ∀ n : Int, 0 <= n -> n < fr.slots.length -> 4096 <= rd fr.slots n /\ 0 <= rd fr.sizes n /\ rd fr.slots n + rd fr.sizes n <= 4194304
def XI (xs : List Int) : Prop := ∀ r : Int, R64 (rd xs r)
structure InsF (nk ns nc : Nat) (i : S44) : Prop where
 is : isB i.f0 = true
 d : us0 i.f0 = true -> ∃ d : Nat, i.f1 = (d : Int) /\ d < nk
 a : us1 i.f0 = true -> ∃ d : Nat, i.f2 = (d : Int) /\ d < nk
 b : us2 i.f0 = true -> ∃ d : Nat, i.f3 = (d : Int) /\ d < nk
 l7 : liA i.f0 < 0 ∨ (i.f7.length : Int) = liA i.f0
 l8 : liO i.f0 < 0 ∨ (i.f8.length : Int) = liO i.f0
 r7 : ∀ r ∈ i.f7, 0 <= r /\ r < nk
 r8 : ∀ r ∈ i.f8, 0 <= r /\ r < nk
 nd : i.f8.Nodup
 tgt : 0 <= i.f9 /\ i.f9 < nc
 sz : (i.f0 = 4 ∨ i.f0 = 35 ∨ i.f0 = 36) -> i.f5 = 1 ∨ i.f5 = 4 ∨ i.f5 = 8
 s34 : i.f0 = 34 -> 1 <= i.f5 /\ i.f5 <= 4194304
 n3 : i.f0 = 3 -> 1 <= i.f4 /\ i.f4 <= 27
 n31 : (i.f0 = 31 ∨ i.f0 = 39) -> i.f4 < IntKind.u64.wrap (ns : Int)
theorem reg_nat {u : Bool} {nk : Nat} {r : Int} (h : regB u nk r = true) (hu : u = true) : ∃ d : Nat, r = (d : Int) /\ d < nk := by
 unfold regB at h
 rw [if_pos hu, th_iff] at h
 exact ⟨r.toNat, by omega, by omega⟩
theorem len_or {x : Int} {n : Nat} (h : lenB x n = true) : x < 0 ∨ (n : Int) = x := by
 unfold lenB at h
 rw [Bool.or_eq_true, decide_eq_true_eq, beq_iff_eq] at h
 exact h
theorem ins_facts {nk ns nc : Nat} {i : S44} (h : insB nk ns nc i = true) : InsF nk ns nc i := by
 unfold insB at h
 simp only [Bool.and_eq_true] at h
 obtain ⟨h0, h1, h2, h3, h4, h5, h6, h7, _, h9, h10, h11⟩ := h
 refine ⟨h0, reg_nat h1, reg_nat h2, reg_nat h3, len_or h4, len_or h5, all_mem h6, all_mem h7, all_nodup h7, ?_, fun e => ?_, fun e => ?_, fun e => ?_, fun e => ?_⟩
 ·unfold toB at h9
  simp only [Bool.and_eq_true, Bool.not_eq_true', decide_eq_false_iff_not] at h9
  omega
 ·unfold sizeB at h10
  rw [if_pos e] at h10
  simpa using h10
 ·unfold sizeB at h10
  rw [if_neg (by omega), if_pos e] at h10
  simp at h10
  omega
 ·unfold nB at h11
  rw [if_neg (by omega), if_pos e] at h11
  simpa using h11
 ·unfold nB at h11
  rw [if_neg (by omega), if_neg (by omega), if_pos e] at h11
  simpa using h11
theorem wrL_one (xs : List Int) (d : Nat) (v : Int) : wrL xs [(d : Int)] [v] = xs.set d v := by
 show xs.set (d : Int).toNat v = _
 rw [Int.toNat_natCast]
theorem wrL_nil (xs ds : List Int) : wrL xs ds [] = xs := by cases ds <;> rfl
theorem lvW_one {i : S44} {d : Nat} (h : us0 i.f0 = true) (hd : i.f1 = (d : Int)) : lvWrites i = [(d : Int)] := by
 unfold lvWrites
 rw [<- us0_wop, if_pos h, hd]
theorem lvW_outs {i : S44} (h : us0 i.f0 = false) : lvWrites i = i.f8 := by
 unfold lvWrites
 rw [<- us0_wop, h]
 rfl
theorem doV_is {n a b : Int} (h : DoB n a b) : R64 (doV n a b) /\ ∃ ok, ∀ w, Calls Tryd.prog 63 #[.int .i64 n, .int .u64 a, .int .u64 b] w fun e w' => e = .returned (.tuple #[.int .u64 (doV n a b), .bool ok]) /\ Below w.heap.size w w' := by
 unfold doV
 rw [dif_pos h]
 obtain ⟨ok, h1, h2⟩ := h.choose_spec
 exact ⟨h1, ok, h2⟩
section
section
variable {w0 w : World} {gt gf : Nat} {s : SV} {p : PS} {i : S44} {A7 : Option Addr} {c7 : Nat} {A8 : Option Addr} {c8 : Nat} {xs : List Int} {A : Option Addr} {c e k ns nc : Nat}
theorem act_plain (h : StI w0 gt gf w s p) (hx : XR w0 w s (.slice A xs.length c) xs) (hF : InsF xs.length ns nc i) (hP : PI e k p) (hk : k <= 400) (hX : XI xs) (fr : FP)
  (hop : i.f0 = 1 ∨ i.f0 = 2 ∨ i.f0 = 3 ∨ i.f0 = 4 ∨ i.f0 = 20 ∨ i.f0 = 21 ∨ i.f0 = 22) :
  Calls Tryd.prog 56 #[.agg s.cs, .agg (icOf i A7 c7 A8 c8), .slice A xs.length c] w (MPost w0 gt gf w s (actI p fr i xs).1 (.slice A xs.length c) (actX p fr i xs)) := by
 unfold actX actI
 rcases hop with e0 | e0 | e0 | e0 | e0 | e0 | e0
 ·obtain ⟨d, hd, hdl⟩ := hF.d (by rw [e0]; rfl)
  rw [lvW_one (by rw [e0]; rfl) hd, e0]
  show Calls _ _ _ _ (MPost w0 gt gf w s p _ (wrL xs [(d : Int)] [i.f4]))
  rw [wrL_one]
  exact pl1 w0 gt gf w s p i A7 c7 A8 c8 xs A c h hx d e0 hd hdl
 ·obtain ⟨d, hd, hdl⟩ := hF.d (by rw [e0]; rfl)
  obtain ⟨a, ha, hal⟩ := hF.a (by rw [e0]; rfl)
  rw [lvW_one (by rw [e0]; rfl) hd, e0, ha]
  show Calls _ _ _ _ (MPost w0 gt gf w s p _ (wrL xs [(d : Int)] [rd xs (a : Int)]))
  rw [wrL_one]
  exact pl2 w0 gt gf w s p i A7 c7 A8 c8 xs A c h hx d a e0 hd hdl ha hal
 ·obtain ⟨d, hd, hdl⟩ := hF.d (by rw [e0]; rfl)
  obtain ⟨a, ha, hal⟩ := hF.a (by rw [e0]; rfl)
  obtain ⟨b, hb, hbl⟩ := hF.b (by rw [e0]; rfl)
  rw [lvW_one (by rw [e0]; rfl) hd, e0, ha, hb]
  show Calls _ _ _ _ (MPost w0 gt gf w s p _ (wrL xs [(d : Int)] [doV i.f4 (rd xs (a : Int)) (rd xs (b : Int))]))
  rw [wrL_one]
  have hn := hF.n3 e0
  obtain ⟨_, ok, hN⟩ := doV_is (do_all i.f4 (rd xs (a : Int)) (rd xs (b : Int)) hn.1 hn.2 (hX _) (hX _))
  exact pl3 w0 gt gf w s p i A7 c7 A8 c8 xs A c h hx d a b e0 hd hdl ha hal hb hbl hn.1 hn.2 _ ok hN
 ·obtain ⟨d, hd, hdl⟩ := hF.d (by rw [e0]; rfl)
  obtain ⟨a, ha, hal⟩ := hF.a (by rw [e0]; rfl)
  rw [lvW_one (by rw [e0]; rfl) hd, e0, ha]
  show Calls _ _ _ _ (MPost w0 gt gf w s p _ (wrL xs [(d : Int)] [narI (rd xs (a : Int)) (8 * i.f5.toNat)]))
  rw [wrL_one]
  exact pl4 w0 gt gf w s p i A7 c7 A8 c8 xs A c h hx d a e0 hd hdl ha hal (hF.sz (.inl e0)) (hX _).1
 ·obtain ⟨a, ha, hal⟩ := hF.a (by rw [e0]; rfl)
  rw [e0, ha]
  show Calls _ _ _ _ (MPost w0 gt gf w s { p with out := p.out ++ [by8 (rd xs (a : Int))] } _ (wrL xs (lvWrites i) []))
  rw [wrL_nil]
  exact pl20 w0 gt gf w s p i A7 c7 A8 c8 xs A c h hx a e0 ha hal (by have := hP.out; omega)
 ·obtain ⟨d, hd, hdl⟩ := hF.d (by rw [e0]; rfl)
  rw [lvW_one (by rw [e0]; rfl) hd, e0]
  cases hi : p.input with
  | nil =>
   have e1 : actP p fr 21 i.f4 i.f5 i.f6 (rd xs i.f2) (rd xs i.f3) (i.f7.map (rd xs)) = (p, [18446744073709551615]) := by
    show (match p.input with | [] => _ | c :: inp => _) = _
    rw [hi]
   rw [e1]
   show Calls _ _ _ _ (MPost w0 gt gf w s p _ (wrL xs [(d : Int)] [18446744073709551615]))
   rw [wrL_one]
   exact pl21n w0 gt gf w s p i A7 c7 A8 c8 xs A c h hx d hi e0 hd hdl
  | cons b inp =>
   have e1 : actP p fr 21 i.f4 i.f5 i.f6 (rd xs i.f2) (rd xs i.f3) (i.f7.map (rd xs)) = ({ p with input := inp }, [IntKind.u64.wrap b]) := by
    show (match p.input with | [] => _ | c :: inp => _) = _
    rw [hi]
   rw [e1]
   show Calls _ _ _ _ (MPost w0 gt gf w s { p with input := inp } _ (wrL xs [(d : Int)] [IntKind.u64.wrap b]))
   rw [wrL_one]
   exact pl21c w0 gt gf w s p i A7 c7 A8 c8 xs A c h hx d b inp hi e0 hd hdl
 ·obtain ⟨a, ha, hal⟩ := hF.a (by rw [e0]; rfl)
  rw [e0, ha]
  show Calls _ _ _ _ (MPost w0 gt gf w s (({ p with code := by8 (rd xs (a : Int)) } : PS).stopped 1) _ (wrL xs (lvWrites i) []))
  rw [wrL_nil]
  exact pl22 w0 gt gf w s p i A7 c7 A8 c8 xs A c h hx a e0 ha hal
end
end
end Go.Proofs.YtjfleaekljapeaaDoor.K
