import Derived.Test.YtjfleaekljapeaaDoorXAX
import Derived.Deep.DeepMust
import Derived.Test.YtjfleaekljapeaaDoorProg
import Derived.Below
import Derived.Deep.Draws
import Derived.Deep.AppendLies
import Derived.Maps.AppendAt
import Derived.OwnWalk
import Derived.Laws.BytesArg
import Derived.Laws.MakeOwn
import Derived.Laws.OwnMore
import Derived.Deep.OwnRows
import Derived.Tactics
import Derived.Lib.ConvBytes
import Derived.Laws.Slices
import Derived.WalkKit
import Derived.KernelRfl
import Derived.RowKit3
import Derived.Deep.LoopGhost
import Derived.Deep.QuietTactic
import Derived.BigQuiet
import Derived.WideLaws
import Derived.Deep.DeepCutAuto
import Derived.Deep.CutBlock
import Derived.Deep.RegionHeld3
import Derived.Deep.MidRow
import Derived.Laws.Tables
import Derived.StillTailTactics
import Derived.Laws.Rows
import Derived.Lib.AppendStr
import Derived.ArgAppend
import Derived.Laws.IdiomCopy
import Derived.OrdersHeld
import Derived.Laws.BitsLemmas
import Derived.Laws.BitsAllLaws
import Derived.RowKit
import Derived.RegionTactic
import Derived.Deep.RegionWith
import Derived.Lib.Hide
import Derived.Test.YtjfleaekljapeaaDoorXAA
import Derived.Test.YtjfleaekljapeaaDoorXAB
import Derived.Test.YtjfleaekljapeaaDoorXAC
import Derived.Deep.RegionLaw
import Derived.Laws.CopyOwn
import Derived.Shelf.Spec.TrailingZeros
import Derived.Test.YtjfleaekljapeaaDoorXAZ
namespace Go.Proofs.YtjfleaekljapeaaDoor.K
open Go.RowKit Go.Proofs.YtjfleaekljapeaaDoorW.PrintWords Go.Proofs.YtjfleaekljapeaaDoorW.PrintLast Go.Proofs.YtjfleaekljapeaaDoorW.PrintMore
attribute [local go_sem] max2_int min2_int max_two min_two max_three min_three max_four min_four   -- for this text's walks alone
set_option linter.unusedVariables false
set_option linter.unusedSimpArgs false
set_option linter.unusedSectionVars false
section
def renI (rn : Int -> Int) (i : S44) : S44 := { i with f1 := if us0 i.f0 = true then rn i.f1 else i.f1, f2 := if us1 i.f0 = true then rn i.f2 else i.f2, f3 := if us2 i.f0 = true then rn i.f3 else i.f3, f7 := i.f7.map rn, f8 := i.f8.map rn }
theorem renI_wr (rn : Int -> Int) (i : S44) : lvWrites (renI rn i) = (lvWrites i).map rn := by
 unfold lvWrites renI
 dsimp only
 rw [us0_wop]
 cases lvWop i.f0 <;> rfl
theorem actP_a (p : PS) (fr : FP) (op n size : Int) (nm : ByteArray) (a a' b : Int) (vs : List Int) (h : us1 op = false) : actP p fr op n size nm a b vs = actP p fr op n size nm a' b vs := by
 have k : ∀ x : Int, us1 x = true -> ¬ op = x := fun x hx e => by rw [e, hx] at h; cases h
 unfold actP
 rw [if_neg (k 2 rfl), if_neg (k 3 rfl), if_neg (k 4 rfl), if_neg (k 20 rfl), if_neg (k 22 rfl), if_neg (k 35 rfl), if_neg (k 36 rfl), if_neg (k 37 rfl), if_neg (k 38 rfl), if_neg (k 40 rfl), if_neg (k 2 rfl), if_neg (k 3 rfl), if_neg (k 4 rfl), if_neg (k 20 rfl), if_neg (k 22 rfl), if_neg (k 35 rfl), if_neg (k 36 rfl), if_neg (k 37 rfl), if_neg (k 38 rfl), if_neg (k 40 rfl)]
theorem actP_b (p : PS) (fr : FP) (op n size : Int) (nm : ByteArray) (a b b' : Int) (vs : List Int) (h : us2 op = false) : actP p fr op n size nm a b vs = actP p fr op n size nm a b' vs := by
 have k : ∀ x : Int, us2 x = true -> ¬ op = x := fun x hx e => by rw [e, hx] at h; cases h
 unfold actP
 rw [if_neg (k 3 rfl), if_neg (k 36 rfl), if_neg (k 3 rfl), if_neg (k 36 rfl)]
theorem act_len {nk ns nc : Nat} {i : S44} (hF : InsF nk ns nc i) (p : PS) (fr : FP) (xs : List Int) (h42 : i.f0 ≠ 42) (hs : (actI p fr i xs).1.stop < 0) : (lvWrites i).length = (actI p fr i xs).2.length := by
 have k0 : ∀ o : Int, i.f0 = o -> us0 o = true -> ∀ v : Int, (lvWrites i).length = [v].length := fun o e h v => by
  obtain ⟨d, hd, _⟩ := hF.d (by rw [e]; exact h)
  rw [lvW_one (by rw [e]; exact h) hd]
  rfl
 have k1 : us0 i.f0 = false -> liO i.f0 = 0 -> (lvWrites i).length = ([] : List Int).length := fun h hl => by
  have h8 := hF.l8
  rw [hl] at h8
  rw [lvW_outs h]
  simp
  exact List.length_eq_zero_iff.1 (by omega)
 unfold actI actP at hs ⊢
 by_cases e0 : i.f0 = 1
 ·rw [if_pos e0]
  exact k0 _ e0 rfl _
 rw [if_neg e0] at hs ⊢
 by_cases e0 : i.f0 = 2
 ·rw [if_pos e0]
  exact k0 _ e0 rfl _
 rw [if_neg e0] at hs ⊢
 by_cases e0 : i.f0 = 3
 ·rw [if_pos e0]
  exact k0 _ e0 rfl _
 rw [if_neg e0] at hs ⊢
 by_cases e0 : i.f0 = 4
 ·rw [if_pos e0]
  exact k0 _ e0 rfl _
 rw [if_neg e0] at hs ⊢
 by_cases e0 : i.f0 = 20
 ·rw [if_pos e0]
  exact k1 (by rw [e0]; rfl) (by rw [e0]; rfl)
 rw [if_neg e0] at hs ⊢
 by_cases e0 : i.f0 = 21
 ·rw [if_pos e0]
  cases p.input <;> exact k0 _ e0 rfl _
 rw [if_neg e0] at hs ⊢
 by_cases e0 : i.f0 = 22
 ·rw [if_pos e0]
  exact k1 (by rw [e0]; rfl) (by rw [e0]; rfl)
 rw [if_neg e0] at hs ⊢
 by_cases e0 : i.f0 = 30
 ·rw [if_pos e0]
  exact k0 _ e0 rfl _
 rw [if_neg e0] at hs ⊢
 by_cases e0 : i.f0 = 31
 ·rw [if_pos e0]
  exact k0 _ e0 rfl _
 rw [if_neg e0] at hs ⊢
 by_cases e0 : i.f0 = 32
 ·rw [if_pos e0]
  exact k0 _ e0 rfl _
 rw [if_neg e0] at hs ⊢
 by_cases e0 : i.f0 = 33
 ·rw [if_pos e0]
  exact k0 _ e0 rfl _
 rw [if_neg e0] at hs ⊢
 by_cases e0 : i.f0 = 34
 ·rw [if_pos e0]
  exact k1 (by rw [e0]; rfl) (by rw [e0]; rfl)
 rw [if_neg e0] at hs ⊢
 by_cases e0 : i.f0 = 35
 ·rw [if_pos e0] at hs ⊢
  dsimp only at hs ⊢
  split
  ·exact k0 _ e0 rfl _
  ·rename_i hp
   exfalso
   unfold ldP at hs
   rw [if_neg hp] at hs
   unfold PS.stopped at hs
   dsimp only at hs
   split at hs <;> omega
 rw [if_neg e0] at hs ⊢
 by_cases e0 : i.f0 = 36
 ·rw [if_pos e0]
  exact k1 (by rw [e0]; rfl) (by rw [e0]; rfl)
 rw [if_neg e0] at hs ⊢
 by_cases e0 : i.f0 = 37
 ·rw [if_pos e0]
  have h8 := hF.l8
  rw [e0, show liO 37 = 4 from rfl] at h8
  rw [lvW_outs (by rw [e0]; rfl)]
  show i.f8.length = 4
  omega
 rw [if_neg e0] at hs ⊢
 by_cases e0 : i.f0 = 38
 ·rw [if_pos e0]
  exact k1 (by rw [e0]; rfl) (by rw [e0]; rfl)
 rw [if_neg e0] at hs ⊢
 by_cases e0 : i.f0 = 39
 ·rw [if_pos e0]
  exact k1 (by rw [e0]; rfl) (by rw [e0]; rfl)
 rw [if_neg e0] at hs ⊢
 by_cases e0 : i.f0 = 40
 ·rw [if_pos e0] at hs ⊢
  dsimp only at hs ⊢
  split
  ·rename_i hp
   exfalso
   unfold alP at hs
   rw [if_pos hp] at hs
   unfold PS.stopped at hs
   dsimp only at hs
   split at hs <;> omega
  ·have h8 := hF.l8
   rw [e0, show liO 40 = 5 from rfl] at h8
   rw [lvW_outs (by rw [e0]; rfl)]
   show i.f8.length = 5
   omega
 rw [if_neg e0] at hs ⊢
 by_cases e0 : i.f0 = 41
 ·rw [if_pos e0]
  exact k1 (by rw [e0]; rfl) (by rw [e0]; rfl)
 rw [if_neg e0]
 have his := hF.is
 unfold isB at his
 simp only [Bool.or_eq_true, Bool.and_eq_true, decide_eq_true_eq] at his
 refine k1 ?_ ?_
 ·unfold us0
  simp only [Bool.or_eq_false_iff, beq_eq_false_iff_ne]
  omega
 ·unfold liO
  rw [if_neg (by omega), if_neg (by omega), if_neg h42]
structure Ren (nk nk' : Nat) (code : List S44) (rn : Int -> Int) (lv : Nat -> Nat -> Bool) : Prop where
 fix : ∀ r n : Nat, n < code.length -> stp code (r : Int) (lv r) n = true -> lv r n = true
 rng : ∀ r : Int, 0 <= r -> r < nk -> 0 <= rn r /\ rn r < nk'
 apart : ∀ n, n < code.length -> ∀ d ∈ lvWrites (rd_T44 code n), ∀ r : Nat, r < nk -> d ≠ (r : Int) -> ((lvNext code n).any (fun m => lv r m.toNat) = true ∨ (r : Int) ∈ lvWrites (rd_T44 code n)) -> rn d ≠ rn r
def RelR (nk : Nat) (rn : Int -> Int) (lv : Nat -> Nat -> Bool) (q : Nat) (xs ys : List Int) : Prop := ∀ r : Nat, r < nk -> lv r q = true -> rd xs r = rd ys (rn r)
theorem wrL_rel (rn : Int -> Int) (r : Nat) (hr0 : 0 <= rn r) : ∀ (ds vs xs ys : List Int), ds.length = vs.length -> (∀ d ∈ ds, 0 <= d /\ d < xs.length /\ 0 <= rn d /\ rn d < ys.length) -> (∀ d ∈ ds, d ≠ (r : Int) -> rn d ≠ rn r) -> ((r : Int) ∈ ds ∨ rd xs r = rd ys (rn r)) -> rd (wrL xs ds vs) r = rd (wrL ys (ds.map rn) vs) (rn r)
 | [], [], xs, ys, _, _, _, h => by
  rcases h with h | h
  ·cases h
  ·exact h
 | [], _ :: _, _, _, h, _, _, _ => by simp at h
 | _ :: _, [], _, _, h, _, _, _ => by simp at h
 | d :: ds, v :: vs, xs, ys, hl, hd, ha, h => by
  obtain ⟨d0, d1, d2, d3⟩ := hd d List.mem_cons_self
  show rd (wrL (xs.set d.toNat v) ds vs) r = rd (wrL (ys.set (rn d).toNat v) (ds.map rn) vs) (rn r)
  refine wrL_rel rn r hr0 ds vs _ _ (by simpa using hl) (fun x hx => ?_) (fun x hx => ha x (List.mem_cons_of_mem _ hx)) ?_
  ·rw [List.length_set, List.length_set]
   exact hd x (List.mem_cons_of_mem _ hx)
  ·by_cases hm : (r : Int) ∈ ds
   ·exact .inl hm
   ·right
    obtain ⟨q, rfl⟩ := Int.eq_ofNat_of_zero_le d0
    obtain ⟨q', eq'⟩ := Int.eq_ofNat_of_zero_le d2
    obtain ⟨t, et⟩ := Int.eq_ofNat_of_zero_le hr0
    rw [Int.toNat_natCast, eq', Int.toNat_natCast]
    by_cases e : q = r
    ·subst e
     rw [rd_set_eq xs q v (by omega), eq', rd_set_eq ys q' v (by omega)]
    ·have h2 := ha _ List.mem_cons_self (show (q : Int) ≠ (r : Int) by omega)
     rw [et, rd_set_ne xs q r v e, rd_set_ne ys q' t v (by omega)]
     rcases h with h | h
     ·rcases List.mem_cons.1 h with h3 | h3
      ·exact absurd h3 (by omega)
      ·exact absurd h3 hm
     ·rw [h, et]
theorem ren_get {code : List S44} (rn : Int -> Int) {n : Nat} (hn : n < code.length) : rd_T44 (code.map (renI rn)) (n : Int) = renI rn (rd_T44 code n) := by
 unfold rd_T44
 rw [Int.toNat_natCast, List.getD_eq_getElem?_getD, List.getD_eq_getElem?_getD, List.getElem?_map, List.getElem?_eq_getElem hn]
 rfl
section
variable {nk nk' ns : Nat} {code : List S44} {rn : Int -> Int} {lv : Nat -> Nat -> Bool} (hR : Ren nk nk' code rn lv) (hok : CodeOk nk code) (hF : ∀ n, n < code.length -> InsF nk ns code.length (rd_T44 code n))
include hR hok hF
theorem rel_read {n : Nat} (hn : n < code.length) {xs ys : List Int} (h : RelR nk rn lv n xs ys) (r : Int) (h0 : 0 <= r) (h1 : r < nk) (hr : rdB (rd_T44 code n) r = true) : rd ys (rn r) = rd xs r := by
 obtain ⟨q, rfl⟩ := Int.eq_ofNat_of_zero_le h0
 refine (h q (by omega) (hR.fix q n hn ?_)).symm
 unfold stp
 rw [hr, Bool.true_or]
theorem act_ren {n : Nat} (hn : n < code.length) {xs ys : List Int} (h : RelR nk rn lv n xs ys) (p : PS) (fr : FP) : actI p fr (renI rn (rd_T44 code n)) ys = actI p fr (rd_T44 code n) xs := by
 have hf := hF n hn
 have H := fun r h0 h1 hr => rel_read hR hok hF hn h r h0 h1 hr
 generalize rd_T44 code n = i at hf H
 have e7 : (i.f7.map rn).map (rd ys) = i.f7.map (rd xs) := by
  rw [List.map_map]
  refine List.map_congr_left fun r hr => ?_
  have h7 := hf.r7 r hr
  exact H r h7.1 h7.2 (by unfold rdB; simp [hr])
 unfold actI renI
 dsimp only
 rw [e7]
 cases hb : us2 i.f0 with
 | false =>
  rw [actP_b p fr i.f0 _ _ _ _ _ (rd xs i.f3) _ hb]
  cases ha : us1 i.f0 with
  | false => exact actP_a p fr i.f0 _ _ _ _ (rd xs i.f2) _ _ ha
  | true =>
   obtain ⟨a, e, hl⟩ := hf.a ha
   rw [if_pos rfl, H i.f2 (by omega) (by omega) (by unfold rdB; rw [ha]; simp)]
 | true =>
  obtain ⟨b, e3, hl3⟩ := hf.b hb
  rw [if_pos rfl, H i.f3 (by omega) (by omega) (by unfold rdB; rw [hb]; simp)]
  cases ha : us1 i.f0 with
  | false => exact actP_a p fr i.f0 _ _ _ _ (rd xs i.f2) _ _ ha
  | true =>
   obtain ⟨a, e, hl⟩ := hf.a ha
   rw [if_pos rfl, H i.f2 (by omega) (by omega) (by unfold rdB; rw [ha]; simp)]
theorem rel_next {n m : Nat} (hn : n < code.length) (hm : (m : Int) ∈ lvNext code n) {xs ys vs : List Int} (h : RelR nk rn lv n xs ys) (hx : xs.length = nk) (hy : ys.length = nk') (hv : (lvWrites (rd_T44 code n)).length = vs.length) : RelR nk rn lv m (wrL xs (lvWrites (rd_T44 code n)) vs) (wrL ys (lvWrites (renI rn (rd_T44 code n))) vs) := by
 intro r hr hl
 have hnx : (lvNext code n).any (fun m => lv r m.toNat) = true := List.any_eq_true.2 ⟨_, hm, by rw [Int.toNat_natCast]; exact hl⟩
 rw [renI_wr]
 refine wrL_rel rn r (hR.rng r (by omega) (by omega)).1 _ vs xs ys hv (fun d hd => ?_) (fun d hd hne => hR.apart n hn d hd r hr hne (.inl hnx)) ?_
 ·have h1 := hok.wr n hn d hd
  have h2 := hR.rng d h1.1 h1.2
  exact ⟨h1.1, by rw [hx]; exact h1.2, h2.1, by rw [hy]; exact h2.2⟩
 ·by_cases hw : (r : Int) ∈ lvWrites (rd_T44 code n)
  ·exact .inl hw
  ·refine .inr (h r hr (hR.fix r n hn ?_))
   have e : wrB (rd_T44 code n) r = false := by
    cases e : wrB (rd_T44 code n) r with
    | false => rfl
    | true => exact absurd ((hok.wrm n hn r).2 e) hw
   unfold stp
   rw [hnx, e]
   simp
omit hR hok hF in
theorem ret_len (sizes : List Int) (k : Nat) (h43 : ∀ n : Nat, n < code.length -> (rd_T44 code n).f0 = 43 -> (rd_T44 code n).f7.length = k) (hto : ∀ n : Nat, n < code.length -> ∀ m ∈ lvNext code n, ∃ q : Nat, m = q /\ q < code.length) : ∀ (m : Nat) (p : PS) (fr : FP) (was : Int) (xs : List Int) (q : Nat), q < code.length -> (loopP nk sizes code m p fr was xs q).1.stop < 0 -> (loopP nk sizes code m p fr was xs q).2.length = k
 | 0, p, fr, was, xs, q, hq, h => by
  exfalso
  unfold loopP PS.stopped at h
  dsimp only at h
  split at h <;> omega
 | m + 1, p, fr, was, xs, q, hq, h => by
  have hnx := hto q hq
  unfold lvNext at hnx
  unfold loopP at h ⊢
  by_cases c0 : ¬ p.stop < 0
  ·rw [if_pos c0] at h
   exact absurd h c0
  rw [if_neg c0] at h ⊢
  by_cases c1 : p.fuel <= p.steps
  ·rw [if_pos c1] at h
   exfalso
   unfold PS.stopped at h
   dsimp only at h
   split at h <;> omega
  rw [if_neg c1] at h ⊢
  by_cases c2 : (rd_T44 code q).f0 = 43
  ·rw [if_pos c2]
   rw [List.length_map]
   exact h43 q hq c2
  rw [if_neg c2] at h ⊢
  by_cases c3 : (rd_T44 code q).f0 = 18
  ·rw [if_pos c3] at h ⊢
   obtain ⟨q', e, hq'⟩ := hnx (rd_T44 code q).f9 (by rw [if_neg (by omega), if_pos c3]; simp)
   rw [e] at h ⊢
   exact ret_len sizes k h43 hto m _ _ _ _ q' hq' h
  rw [if_neg c3] at h ⊢
  by_cases c4 : (rd_T44 code q).f0 = 19
  ·rw [if_pos c4] at h ⊢
   obtain ⟨q', e, hq'⟩ := hnx (rd_T44 code q).f9 (by rw [if_neg (by omega), if_neg c3, if_pos c4]; simp)
   obtain ⟨q2, e2, hq2⟩ := hnx ((q : Int) + 1) (by rw [if_neg (by omega), if_neg c3, if_pos c4]; simp)
   by_cases c : rd xs (rd_T44 code q).f2 = 0
   ·rw [if_pos c, e2] at h ⊢
    exact ret_len sizes k h43 hto m _ _ _ _ q2 hq2 h
   ·rw [if_neg c, e] at h ⊢
    exact ret_len sizes k h43 hto m _ _ _ _ q' hq' h
  rw [if_neg c4] at h ⊢
  by_cases c5 : (rd_T44 code q).f0 = 42
  ·rw [if_pos c5] at h ⊢
   obtain ⟨q2, e2, hq2⟩ := hnx ((q : Int) + 1) (by rw [if_neg (by omega), if_neg c3, if_neg c4]; simp)
   by_cases c6 : (entP sizes (tick p)).2 = false
   ·rw [if_pos c6] at h
    exfalso
    unfold entP at h c6
    split at h
    ·unfold PS.stopped at h
     dsimp only at h
     split at h <;> omega
    ·rename_i h7
     rw [if_neg h7] at c6
     split at c6 <;> cases c6
   rw [if_neg c6] at h ⊢
   split at h
   ·rename_i h8
    rw [if_pos h8]
    rw [e2] at h ⊢
    exact ret_len sizes k h43 hto m _ _ _ _ q2 hq2 h
   ·rename_i h8
    exact absurd h h8
  rw [if_neg c5] at h ⊢
  by_cases c7 : (rd_T44 code q).f0 = 22
  ·exfalso
   have e1 : (actI (tick p) fr (rd_T44 code q) xs).1.stop = 1 := by
    unfold actI actP
    rw [c7, if_neg (by decide), if_neg (by decide), if_neg (by decide), if_neg (by decide), if_neg (by decide), if_neg (by decide), if_pos rfl]
    unfold PS.stopped
    dsimp only
    exact if_pos (show p.stop < 0 by omega)
   cases m with
   | zero =>
    unfold loopP PS.stopped at h
    dsimp only at h
    split at h <;> omega
   | succ m =>
    unfold loopP at h
    rw [if_pos (by omega)] at h
    dsimp only at h
    omega
  ·obtain ⟨q2, e2, hq2⟩ := hnx ((q : Int) + 1) (by rw [if_neg (by omega), if_neg c3, if_neg c4]; simp)
   rw [e2] at h ⊢
   exact ret_len sizes k h43 hto m _ _ _ _ q2 hq2 h
end
section
variable {nk nk' ns : Nat} {code : List S44} {rn : Int -> Int} {lv : Nat -> Nat -> Bool} (hR : Ren nk nk' code rn lv) (hok : CodeOk nk code) (hF : ∀ n, n < code.length -> InsF nk ns code.length (rd_T44 code n))
include hR hok hF
theorem sim (sizes : List Int) (hout : ∀ n n' : Nat, n < code.length -> n' < code.length -> (rd_T44 code n).f0 = 42 -> (rd_T44 code n').f0 = 43 -> (rd_T44 code n').f7.length = (rd_T44 code n).f8.length) :
  ∀ (m : Nat) (p : PS) (fr : FP) (was : Int) (xs ys : List Int) (q : Nat), q < code.length -> xs.length = nk -> ys.length = nk' -> RelR nk rn lv q xs ys -> loopP nk' sizes (code.map (renI rn)) m p fr was ys q = loopP nk sizes code m p fr was xs q
 | 0, p, fr, was, xs, ys, q, hq, hx, hy, h => rfl
 | m + 1, p, fr, was, xs, ys, q, hq, hx, hy, h => by
  have hnx := hok.next q hq
  have hw := fun {m' : Nat} (hm : (m' : Int) ∈ lvNext code q) {vs : List Int} => rel_next hR hok hF hq hm (vs := vs) h hx hy
  unfold loopP
  rw [ren_get rn hq]
  have e0 : (renI rn (rd_T44 code q)).f0 = (rd_T44 code q).f0 := rfl
  have e9 : (renI rn (rd_T44 code q)).f9 = (rd_T44 code q).f9 := rfl
  rw [e0, e9]
  by_cases c0 : ¬ p.stop < 0
  ·rw [if_pos c0, if_pos c0]
  rw [if_neg c0, if_neg c0]
  by_cases c1 : p.fuel <= p.steps
  ·rw [if_pos c1, if_pos c1]
  rw [if_neg c1, if_neg c1]
  by_cases c2 : (rd_T44 code q).f0 = 43
  ·rw [if_pos c2, if_pos c2]
   refine Prod.ext rfl ?_
   show ((rd_T44 code q).f7.map rn).map (rd ys) = _
   rw [List.map_map]
   refine List.map_congr_left fun r hr => ?_
   have h7 := (hF q hq).r7 r hr
   exact rel_read hR hok hF hq h r h7.1 h7.2 (by unfold rdB; simp [hr])
  rw [if_neg c2, if_neg c2]
  have hstep : ∀ {m' : Nat}, (m' : Int) ∈ lvNext code q -> lvWrites (rd_T44 code q) = [] -> RelR nk rn lv m' xs ys := fun {m'} hm he => by
   have := hw hm (vs := []) (by rw [he])
   rw [wrL_nil, wrL_nil] at this
   exact this
  by_cases c3 : (rd_T44 code q).f0 = 18
  ·rw [if_pos c3, if_pos c3]
   have hm : (rd_T44 code q).f9 ∈ lvNext code q := by unfold lvNext; rw [if_neg (by omega), if_pos c3]; simp
   obtain ⟨q', e, hq'⟩ := hnx _ hm
   rw [e] at hm ⊢
   refine sim sizes hout m _ _ _ _ _ q' hq' hx hy (hstep hm ?_)
   have h8 := (hF q hq).l8
   rw [c3, show liO 18 = 0 from rfl] at h8
   rw [lvW_outs (by rw [c3]; rfl)]
   exact List.length_eq_zero_iff.1 (by omega)
  rw [if_neg c3, if_neg c3]
  by_cases c4 : (rd_T44 code q).f0 = 19
  ·rw [if_pos c4, if_pos c4]
   have hm : (rd_T44 code q).f9 ∈ lvNext code q := by unfold lvNext; rw [if_neg (by omega), if_neg c3, if_pos c4]; simp
   have hm2 : (q : Int) + 1 ∈ lvNext code q := by unfold lvNext; rw [if_neg (by omega), if_neg c3, if_pos c4]; simp
   obtain ⟨q', e, hq'⟩ := hnx _ hm
   obtain ⟨q2, e2, hq2⟩ := hnx _ hm2
   have he : lvWrites (rd_T44 code q) = [] := by
    have h8 := (hF q hq).l8
    rw [c4, show liO 19 = 0 from rfl] at h8
    rw [lvW_outs (by rw [c4]; rfl)]
    exact List.length_eq_zero_iff.1 (by omega)
   have ha : us1 (rd_T44 code q).f0 = true := by rw [c4]; rfl
   obtain ⟨a, ea, hal⟩ := (hF q hq).a ha
   have e3 : rd ys (renI rn (rd_T44 code q)).f2 = rd xs (rd_T44 code q).f2 := by
    show rd ys (if us1 (rd_T44 code q).f0 = true then rn (rd_T44 code q).f2 else _) = _
    rw [if_pos ha]
    exact rel_read hR hok hF hq h _ (by omega) (by omega) (by unfold rdB; rw [ha]; simp)
   rw [e3]
   by_cases c : rd xs (rd_T44 code q).f2 = 0
   ·rw [if_pos c]
    rw [e2] at hm2 ⊢
    exact sim sizes hout m _ _ _ _ _ q2 hq2 hx hy (hstep hm2 he)
   ·rw [if_neg c]
    rw [e] at hm ⊢
    exact sim sizes hout m _ _ _ _ _ q' hq' hx hy (hstep hm he)
  rw [if_neg c4, if_neg c4]
  by_cases c5 : (rd_T44 code q).f0 = 42
  ·rw [if_pos c5, if_pos c5]
   have hm2 : (q : Int) + 1 ∈ lvNext code q := by unfold lvNext; rw [if_neg (by omega), if_neg c3, if_neg c4]; simp
   obtain ⟨q2, e2, hq2⟩ := hnx _ hm2
   rw [e2] at hm2 ⊢
   by_cases c6 : (entP sizes (tick p)).2 = false
   ·rw [if_pos c6, if_pos c6]
   rw [if_neg c6, if_neg c6]
   have hz : ∀ (k : Nat) (j : Int), rd (List.replicate k (0 : Int)) j = 0 := fun k j => by
    unfold rd
    rw [List.getD_eq_getElem?_getD, List.getElem?_replicate]
    split <;> rfl
   have hin := sim sizes hout m (entP sizes (tick p)).1.1 (entP sizes (tick p)).1.2 p.top (List.replicate nk 0) (List.replicate nk' 0) 0 hok.pos (by simp) (by simp) (fun r _ _ => by rw [hz, hz])
   have hin' : loopP nk' sizes (code.map (renI rn)) m (entP sizes (tick p)).1.1 (entP sizes (tick p)).1.2 p.top (List.replicate nk' 0) 0 = loopP nk sizes code m (entP sizes (tick p)).1.1 (entP sizes (tick p)).1.2 p.top (List.replicate nk 0) 0 := hin
   rw [hin']
   by_cases c7 : (loopP nk sizes code m (entP sizes (tick p)).1.1 (entP sizes (tick p)).1.2 p.top (List.replicate nk 0) 0).1.stop < 0
   ·rw [if_pos c7, if_pos c7]
    have hl := ret_len (nk := nk) (code := code) sizes (rd_T44 code q).f8.length (fun n hn h43 => hout q n hq hn c5 h43) hok.next m (entP sizes (tick p)).1.1 (entP sizes (tick p)).1.2 p.top (List.replicate nk 0) 0 hok.pos c7
    have hwo := lvW_outs (i := rd_T44 code q) (by rw [c5]; rfl)
    have hwo' := lvW_outs (i := renI rn (rd_T44 code q)) (by rw [e0, c5]; rfl)
    have hrel := hw hm2 (vs := (loopP nk sizes code m (entP sizes (tick p)).1.1 (entP sizes (tick p)).1.2 p.top (List.replicate nk 0) 0).2) (by rw [hwo]; exact hl.symm)
    rw [hwo, hwo'] at hrel
    exact sim sizes hout m _ _ _ _ _ q2 hq2 (by rw [wrL_len]; exact hx) (by rw [wrL_len]; exact hy) hrel
   ·rw [if_neg c7, if_neg c7]
  rw [if_neg c5, if_neg c5]
  have ea := act_ren hR hok hF hq h (tick p) fr
  unfold actX
  rw [ea]
  by_cases c8 : (actI (tick p) fr (rd_T44 code q) xs).1.stop < 0
  ·by_cases c9 : (rd_T44 code q).f0 = 22
   ·exfalso
    have e1 : (actI (tick p) fr (rd_T44 code q) xs).1.stop = 1 := by
     unfold actI actP
     rw [c9, if_neg (by decide), if_neg (by decide), if_neg (by decide), if_neg (by decide), if_neg (by decide), if_neg (by decide), if_pos rfl]
     unfold PS.stopped
     dsimp only
     exact if_pos (show p.stop < 0 by omega)
    omega
   have hm2 : (q : Int) + 1 ∈ lvNext code q := by unfold lvNext; rw [if_neg (by omega), if_neg c3, if_neg c4]; simp
   obtain ⟨q2, e2, hq2⟩ := hnx _ hm2
   rw [e2] at hm2 ⊢
   exact sim sizes hout m _ _ _ _ _ q2 hq2 (by rw [wrL_len]; exact hx) (by rw [wrL_len]; exact hy) (hw hm2 (act_len (hF q hq) _ _ _ c5 c8))
  ·cases m with
   | zero => unfold loopP; rfl
   | succ m => unfold loopP; rw [if_pos c8, if_pos c8]
end
end
section
section
variable {w0 w W : World} {gt gf g gx gi : Nat} {f : Fr4} {s0 s : SV} {A5 A7 A8 : Option Addr} {c5 c7 c8 : Nat} {fr : FP} {was : Int} {p : PS} {xs : List Int} {q k m : Nat} {R : PS × List Int} {K : Act -> World -> Prop} {i : S44} {u : Nat -> Value} {Q0 : Exit -> Act -> World -> Prop}
set_option maxHeartbeats 4000000 in
set_option maxRecDepth 20000 in
theorem exit40 (hX : Lx w0 gt gf w W s0 s p (.slice (some ⟨gx, 0, none⟩) f.l2.length f.l2.length) xs s.cs f.cs g (f.fc A5 fr.slots.length c5 fr.lock fr.key) (.slice A5 fr.slots.length c5) fr.slots) (hs : ¬ p.stop < 0) (hE : ∀ u W2, Lx w0 gt gf w W2 s0 s p (.slice (some ⟨gx, 0, none⟩) f.l2.length f.l2.length) xs s.cs f.cs g (f.fc A5 fr.slots.length c5 fr.lock fr.key) (.slice A5 fr.slots.length c5) fr.slots -> Q0 (.exit 2) (Fr40 w.heap.size g gx f.l2.length was q u) W2) :
  Code.wp Tryd.prog body40 (Exit.then K Q0) (Fr40 w.heap.size g gx f.l2.length was q u) W := by
 have hu95 := Tryd.underlying95
 have hss : ¬ s.stop < 0 := by rw [hX.st.num.stop]; exact hs
 have HX := Aside0.mk hX
 have HE := Aside0.mk hE
 clear hX hE hs
 unfold Fr40
 conv => arg 2; whnf
 have x15 := (blk_cell HX.out.hs 15).trans (show _ = some (Value.int .i64 s.stop) from rfl)
 go_wp2
 refine q_turn (fr40_of w.heap.size g gx f.l2.length was q _ rfl rfl rfl rfl rfl rfl rfl rfl) ?_
 exact HE.out _ W HX.out
set_option maxHeartbeats 4000000 in
set_option maxRecDepth 20000 in
theorem fuel40 (hX : Lx w0 gt gf w W s0 s p (.slice (some ⟨gx, 0, none⟩) f.l2.length f.l2.length) xs s.cs f.cs g (f.fc A5 fr.slots.length c5 fr.lock fr.key) (.slice A5 fr.slots.length c5) fr.slots) (hs : p.stop < 0) (hfu : p.fuel <= p.steps) (hR : ∀ (l : List Value) (W2 : World) (v7 : Value), l.getD 6 undef = .pointer (some ⟨w.heap.size + 2, 0, none⟩) -> l.getD 7 undef = v7 -> RetOk w0 gt gf w s0 (p.stopped 0, []) W2 v7 -> Q0 .ret ⟨l.toArray, []⟩ W2) :
  Code.wp Tryd.prog body40 (Exit.then K Q0) (Fr40 w.heap.size g gx f.l2.length was q u) W := by
 have hu95 := Tryd.underlying95
 have hn := hX.st.num
 have hss : s.stop < 0 := by rw [hn.stop]; exact hs
 have hsf : s.fuel <= s.steps := by rw [hn.fuel, hn.steps]; exact hfu
 have HX := Aside0.mk hX
 have HR := Aside0.mk hR
 have HST := Aside0.mk (fun W => stop_calls s 0 W)
 clear hX hR hs hfu hn
 unfold Fr40
 conv => arg 2; whnf
 have x15 := (blk_cell HX.out.hs 15).trans (show _ = some (Value.int .i64 s.stop) from rfl)
 have x13 := (blk_cell HX.out.hs 13).trans (show _ = some (Value.int .i64 s.steps) from rfl)
 have x12 := (blk_cell HX.out.hs 12).trans (show _ = some (Value.int .i64 s.fuel) from rfl)
 go_wp2_with (first | (go_at_call 53; (with_reducible refine (HST.out _).mono ?_); rintro e w' ⟨rfl, hb⟩; have HX3 := Aside0.mk (HX.out.step hb); clear hb) | ((with_reducible refine gate_dst (N := 84) rfl ?_); refine load95 _ rfl rfl _ rfl _ HX.out.hs (Cs.of s) ?_) | ((with_reducible refine gate_store (t := 95) (p := 6) rfl ?_); refine storeS _ _ rfl rfl rfl _ rfl _ rfl _ HX3.out.hr rfl (Cs.of (s.stopped 0)) ?_; intro W3 h2 hk3))
 refine HR.out _ _ _ rfl rfl ?_
 exact ⟨s.stopped 0, none, 0, h2, rfl, (HX3.out.nums (HX3.out.st.num.stopped 0) ⟨rfl, rfl, rfl, rfl, rfl, rfl, rfl, rfl, rfl⟩ ⟨rfl, rfl, rfl, rfl, rfl, rfl, rfl⟩).fin hk3, Kd.R_nil _ _ _ _ _⟩
theorem call_pi (hSI : SI w0 gt gf f) (hP : PI 1 k p) (hst : p.steps = (k : Int)) (hk : k <= 400) (hlp : 0 < p.locks.length) : LpI p (callP f.l2.length f.l3 f.code m p) := by
 unfold callP
 by_cases c6 : (entP f.l3 p).2 = false
 ·rw [if_pos c6]
  have e7 : ¬ (entP f.l3 p).1.1.stop < 0 /\ (entP f.l3 p).1.1.locks = p.locks := by
   unfold entP at c6 ⊢
   split
   ·refine ⟨?_, rfl⟩
    unfold PS.stopped
    dsimp only
    split <;> omega
   ·rename_i h7
    rw [if_neg h7] at c6
    split at c6 <;> cases c6
  exact ⟨by show p.locks.length <= (entP f.l3 p).1.1.locks.length; rw [e7.2]; exact Nat.le_refl _, fun h => absurd h e7.1⟩
 ·rw [if_neg c6]
  obtain ⟨hE, hI⟩ := ent_is hSI.sz hP (by omega) hlp c6
  exact (loop_pi hSI.ok hSI.ins hSI.f4 hSI.sz m (entP f.l3 p).1.1 (entP f.l3 p).1.2 p.top (List.replicate f.l2.length 0) 0 k hSI.ok.pos hE (hI.steps.trans hst) hk (xi_zero _) (by simp) hI.fi hI.sz hI.len hP.top (by have := hI.mono; omega)).then_ hI.mono (by rw [hI.steps]; exact Int.le_refl _)
theorem call_len (hSI : SI w0 gt gf f) (hq : q < f.code.length) (h42 : (rd_T44 f.code q).f0 = 42) (h : (callP f.l2.length f.l3 f.code m p).1.stop < 0) : (rd_T44 f.code q).f8.length = (callP f.l2.length f.l3 f.code m p).2.length := by
 unfold callP at h ⊢
 by_cases c6 : (entP f.l3 p).2 = false
 ·rw [if_pos c6] at h
  exfalso
  unfold entP at c6 h
  split at h
  ·unfold PS.stopped at h
   dsimp only at h
   split at h <;> omega
  ·rename_i h7
   rw [if_neg h7] at c6
   split at c6 <;> cases c6
 ·rw [if_neg c6] at h ⊢
  exact (ret_len (nk := f.l2.length) (code := f.code) f.l3 (rd_T44 f.code q).f8.length (fun n hn h43 => (hSI.c42 q hq h42).2.2 n hn h43) hSI.ok.next m _ _ _ _ 0 hSI.ok.pos h).symm
theorem loop_42 (nk : Nat) (sizes : List Int) (code : List S44) (q : Int) (hs : p.stop < 0) (hfu : ¬ p.fuel <= p.steps) (h42 : (rd_T44 code q).f0 = 42) : loopP nk sizes code (m + 1) p fr was xs q = if (callP nk sizes code m (tick p)).1.stop < 0 then loopP nk sizes code m (callP nk sizes code m (tick p)).1 fr was (wrL xs (rd_T44 code q).f8 (callP nk sizes code m (tick p)).2) (q + 1) else ((callP nk sizes code m (tick p)).1, []) := by
 rw [loopP]
 rw [if_neg (fun h => h hs), if_neg hfu, if_neg (by omega), if_neg (by omega), if_neg (by omega), if_pos h42]
 unfold callP
 by_cases c6 : (entP sizes (tick p)).2 = false
 ·rw [if_pos c6, if_pos c6]
  have e7 : ¬ (entP sizes (tick p)).1.1.stop < 0 := by
   unfold entP at c6 ⊢
   split
   ·unfold PS.stopped
    dsimp only
    split <;> omega
   ·rename_i h7
    rw [if_neg h7] at c6
    split at c6 <;> cases c6
  rw [if_neg e7]
 ·rw [if_neg c6, if_neg c6]
  rfl
theorem round40 (hSI : SI w0 gt gf f) (hfr : FrOk f fr was) (n : Nat) (hIH : ∀ m, m < n -> CallOk w0 gt gf f m) (hI : LI w0 gt gf f w s0 g gx A5 c5 fr was R n W s p xs q) (hEx : ExitOk w0 gt gf f w s0 g gx A5 c5 fr was R Q0)
  (hK : ∀ (n2 : Nat) (W2 : World) (s2 : SV) (p2 : PS) (xs2 : List Int) (q2 : Nat) (u2 : Nat -> Value), n2 < n -> LI w0 gt gf f w s0 g gx A5 c5 fr was R n2 W2 s2 p2 xs2 q2 -> K (Fr40 w.heap.size g gx f.l2.length was q2 u2) W2) :
  Code.wp Tryd.prog body40 (Exit.then K Q0) (Fr40 w.heap.size g gx f.l2.length was q u) W := by
 by_cases hs : ¬ p.stop < 0
 ·have hrun := hI.run
  rw [loop_zero _ _ _ _ _ _ _ _ _ hs] at hrun
  refine exit40 hI.lx hs (fun u2 W2 h => hEx.1 u2 W2 s xs q ?_ (by rw [<- hrun]))
  rw [<- hrun]
  exact h
 have hs : p.stop < 0 := by omega
 obtain ⟨hq, k, hP, hst, hk, hkn, hXI⟩ := hI.on hs
 obtain ⟨m, rfl⟩ : ∃ m, n = m + 1 := ⟨n - 1, by omega⟩
 have hlp : 0 < p.locks.length := by have := hI.lk; have := hfr.fi.lock; omega
 by_cases hfu : p.fuel <= p.steps
 ·have hrun := hI.run
  rw [loopP, if_neg (fun h => h hs), if_pos hfu] at hrun
  refine fuel40 hI.lx hs hfu (fun l W2 v7 h6 h7 hr => hEx.2.1 l W2 v7 h6 h7 ?_)
  rw [<- hrun]
  exact hr
 have hfl := hP.fuel
 have hF := hSI.ins q hq
 have hT0 : PI 2 k (tick p) := ⟨hP.1, hP.2, hP.3, hP.4, hP.5, hP.6, hP.7, hP.8, hP.9, hP.10, hP.11, hP.12⟩
 have hT2 : PI 2 (k + 1) (tick p) := hP.tick.mono (by omega)
 have hstt : (tick p).steps = ((k + 1 : Nat) : Int) := by show p.steps + 1 = _; omega
 have hnx := hSI.ok.next q hq
 refine head40 hSI hI.lx q hq hs hfu ⟨by omega, by omega⟩ u K Q0 (fun u2 W2 gi A7 c7 A8 c8 hX hB hgi hIn => ?_)
 have hrun := hI.run
 by_cases c43 : (rd_T44 f.code q).f0 = 43
 ·rw [loopP, if_neg (fun h => h hs), if_neg hfu, if_pos c43] at hrun
  have hret : ∀ (l : List Value) (W2 : World) (v7 : Value), l.getD 6 undef = .pointer (some ⟨w.heap.size + 2, 0, none⟩) -> l.getD 7 undef = v7 -> RetOk w0 gt gf w s0 (retP (tick p) fr was, (rd_T44 f.code q).f7.map (rd xs)) W2 v7 -> Q0 .ret ⟨l.toArray, []⟩ W2 := fun l W3 v7 h6 h7 hr => hEx.2.1 l W3 v7 h6 h7 (by rw [<- hrun]; exact hr)
  by_cases hl : 0 < fr.lock
  ·exact sw_43a hX hB hIn hI.len c43 hl hI.lk hret hEx.2.2
  ·exact sw_43b hX hB hIn hI.len c43 hl hret hEx.2.2
 by_cases c18 : (rd_T44 f.code q).f0 = 18
 ·rw [loopP, if_neg (fun h => h hs), if_neg hfu, if_neg c43, if_pos c18] at hrun
  obtain ⟨q2, e, hq2⟩ := hnx (rd_T44 f.code q).f9 (by unfold lvNext; rw [if_neg (by omega), if_pos c18]; simp)
  refine sw_18 hX hB c18 (fun u3 W3 h => ?_)
  rw [e] at hrun ⊢
  exact hK m W3 _ (tick p) xs q2 u3 (by omega) ⟨h, hI.len, hI.lk, hrun, fun _ => ⟨hq2, k + 1, hT2, hstt, by omega, by omega, hXI⟩⟩
 by_cases c19 : (rd_T44 f.code q).f0 = 19
 ·rw [loopP, if_neg (fun h => h hs), if_neg hfu, if_neg c43, if_neg c18, if_pos c19] at hrun
  obtain ⟨q2, e, hq2⟩ := hnx (rd_T44 f.code q).f9 (by unfold lvNext; rw [if_neg (by omega), if_neg c18, if_pos c19]; simp)
  obtain ⟨q3, e3, hq3⟩ := hnx ((q : Int) + 1) (by unfold lvNext; rw [if_neg (by omega), if_neg c18, if_pos c19]; simp)
  obtain ⟨a, ha, hal⟩ := hF.a (by rw [c19]; rfl)
  refine sw_19 hX hB c19 a ha hal (fun qn hqn u3 W3 h => ?_)
  rw [<- hqn] at hrun
  obtain ⟨q4, e4, hq4⟩ : ∃ q4 : Nat, qn = q4 /\ q4 < f.code.length := by
   rw [hqn]
   split
   ·exact ⟨q3, e3, hq3⟩
   ·exact ⟨q2, e, hq2⟩
  rw [e4] at hrun ⊢
  exact hK m W3 _ (tick p) xs q4 u3 (by omega) ⟨h, hI.len, hI.lk, hrun, fun _ => ⟨hq4, k + 1, hT2, hstt, by omega, by omega, hXI⟩⟩
 by_cases c42 : (rd_T44 f.code q).f0 = 42
 ·rw [loop_42 _ _ _ _ hs hfu c42] at hrun
  obtain ⟨q3, e3, hq3⟩ := hnx ((q : Int) + 1) (by unfold lvNext; rw [if_neg (by omega), if_neg c18, if_neg c19]; simp)
  have hpi := call_pi (m := m) hSI hP.tick hstt (by omega) hlp
  have hc := hSI.c42 q hq c42
  refine sw_42 (k := k + 1) hX hB hSI m (hIH m (by omega)) hP.tick hstt (by omega) (by omega) hs hlp hIn hI.len c42 hc.1 hc.2.1 _ rfl (call_len hSI hq c42) hEx.2.2 (fun h1 u3 W3 s3 h => ?_) (fun h1 u3 W3 s3 h => ?_)
  ·rw [if_pos h1] at hrun
   obtain ⟨k2, hk2, hst2, hP2, hv2, hsk⟩ := hpi.ok h1
   rw [e3] at hrun ⊢
   exact hK m W3 s3 _ _ q3 u3 (by omega) ⟨h, by rw [wrL_len]; exact hI.len, by have := hpi.lk; have : (tick p).locks.length = p.locks.length := rfl; have := hI.lk; omega, hrun, fun _ => ⟨hq3, k2, hP2, hst2, hk2, by omega, hXI.wr hv2⟩⟩
  ·rw [if_neg h1] at hrun
   rw [e3]
   refine hK m W3 s3 _ xs q3 u3 (by omega) ⟨h, hI.len, by have := hpi.lk; have : (tick p).locks.length = p.locks.length := rfl; have := hI.lk; omega, ?_, fun h2 => absurd h2 h1⟩
   rw [loop_zero _ _ _ _ _ _ _ _ _ h1]
   exact hrun
 have hops := hF.is
 unfold isB at hops
 simp only [Bool.or_eq_true, Bool.and_eq_true, decide_eq_true_eq] at hops
 rw [loopP, if_neg (fun h => h hs), if_neg hfu, if_neg c43, if_neg c18, if_neg c19, if_neg c42] at hrun
 have ha := act_pi (k := k) (e := 2) (fr := fr) (p := tick p) (i := rd_T44 f.code q) (xs := xs) (nc := f.code.length) (by rw [hI.len, hfr.sz]; exact hF) hT0 (by omega) hXI hfr.fi (by rw [hfr.sz]; exact hSI.sz.1) hfr.len (hSI.f4 q hq)
 have hlk : p.locks.length <= (actI (tick p) fr (rd_T44 f.code q) xs).1.locks.length := act_lk (tick p) fr (rd_T44 f.code q) xs
 have hnext : ∀ (u3 : Nat -> Value) (W3 : World) (s3 : SV), Lx w0 gt gf w W3 s0 s3 (actI (tick p) fr (rd_T44 f.code q) xs).1 (.slice (some ⟨gx, 0, none⟩) f.l2.length f.l2.length) (actX (tick p) fr (rd_T44 f.code q) xs) s3.cs f.cs g (f.fc A5 fr.slots.length c5 fr.lock fr.key) (.slice A5 fr.slots.length c5) fr.slots -> K (Fr40 w.heap.size g gx f.l2.length was ((q + 1 : Nat) : Int) u3) W3 := fun u3 W3 s3 h => by
  refine hK m W3 s3 _ _ (q + 1) u3 (by omega) ⟨h, by unfold actX; rw [wrL_len]; exact hI.len, by have := hI.lk; omega, hrun, fun h2 => ?_⟩
  refine ⟨?_, k + 1, ha.pi, ha.steps.trans hstt, by omega, by omega, hXI.wr ha.rng⟩
  by_cases c22 : (rd_T44 f.code q).f0 = 22
  ·have := act_22 (tick p) fr (rd_T44 f.code q) xs c22 hs
   omega
  ·obtain ⟨q3, e3, hq3⟩ := hnx ((q : Int) + 1) (by unfold lvNext; rw [if_neg (by omega), if_neg c18, if_neg c19]; simp)
   omega
 by_cases c30 : 30 <= (rd_T44 f.code q).f0
 ·exact sw_mem hX hB hSI hfr hF hIn hT0 hk hXI hI.len ⟨c43, c18, c19, c42⟩ (by omega) (hSI.f4 q hq) (hSI.t30 q hq) (fun u3 W3 s3 h => hnext u3 W3 s3 h)
 ·exact sw_pl hX hB hF hIn hT0 hk hXI hI.len ⟨c43, c18, c19, c42⟩ (by omega) (fun u3 W3 s3 h => hnext u3 W3 s3 h)
end
theorem loop_ok {w0 : World} {gt gf : Nat} {f : Fr4} (hSI : SI w0 gt gf f) (m : Nat) (hIH : ∀ n, n < m -> CallOk w0 gt gf f n) : LoopOk w0 gt gf f m := by
 intro w W s0 s p g gx A5 c5 fr was R xs q u Q0 hfr hLI hEx
 refine wp_loop_ghost (fun n a W' => n <= m /\ ∃ (s : SV) (p : PS) (xs : List Int) (q : Nat) (u : Nat -> Value), LI w0 gt gf f w s0 g gx A5 c5 fr was R n W' s p xs q /\ a = Fr40 w.heap.size g gx f.l2.length was q u) m ⟨Nat.le_refl _, s, p, xs, q, u, hLI, rfl⟩ ?_
 rintro n a W' ⟨hn, s, p, xs, q, u, hI, rfl⟩
 exact round40 hSI hfr n (fun m' hm' => hIH m' (by omega)) hI hEx (fun n2 W2 s2 p2 xs2 q2 u2 hlt h => ⟨n2, hlt, by omega, s2, p2, xs2, q2, u2, h, rfl⟩)
theorem call_ok {w0 : World} {gt gf : Nat} {f : Fr4} (hSI : SI w0 gt gf f) (m : Nat) : CallOk w0 gt gf f m := by
 induction m using Nat.strongRecOn with
 | _ m ih => exact call40 w0 gt gf f m hSI (loop_ok hSI m ih)
end
section
theorem StI.setT {w0 w W : World} {gt gf : Nat} {s : SV} {p : PS} {A : Option Addr} {n c : Nat} {l : List Int} (h : StI w0 gt gf w s p) (hs : RowSt (Kd.int .i64) 3 w0 w W s.tv (.slice A n c) l) : StI w0 gt gf W ({ s with a2 := A, n2 := n, c2 := c } : SV) { p with tops := l } := by
 have K := Kp.grown hs.grown
 exact ⟨K.toBelow h.below (fun k e => (h.tops.lt e).2.1), hs.row, h.mem.keep rfl K (fun k e he => nrow (h.mem.ne h.tops (by decide)) e he), h.L.keep rfl K (fun k e he => nrow (h.L.ne h.tops (by decide)) e he), h.locks.keep rfl K (fun k e he => nrow (h.locks.ne h.tops (by decide)) e he), h.blocks.keep rfl K (fun k e he => nrow (h.blocks.ne h.tops (by decide)) e he), h.out.keep rfl K (fun k e he => nrow (h.out.ne h.tops (by decide)) e he), h.inp, h.ne, ⟨h.num.1, h.num.2, h.num.3, h.num.4, h.num.5, h.num.6, h.num.7, h.num.8, h.num.9, h.num.10⟩⟩
def SV.setT (s : SV) (A : Option Addr) (n c : Nat) : SV := { s with a2 := A, n2 := n, c2 := c }
def SV.setFree (s : SV) (n : Int) : SV := { s with free := n }
def PS.setFree (p : PS) (n : Int) : PS := { p with free := n }
def z62 : Array Value := #[.int .i64 0, .int .u8 0, .int .i64 0, .slice none 0 0, .int .i64 0, .int .i64 0]
structure Rn (w0 : World) (gt gf : Nat) (W : World) (gs : Nat) (s : SV) (p : PS) (cs zs : Array Value) : Prop where
 hu : W.heap[w0.heap.size]? = some (.cells #[.slice (some ⟨gt, 0, none⟩) 2 2, .slice (some ⟨gf, 0, none⟩) 1 1] 56 (0, 0))
 hz : W.heap[w0.heap.size + 1]? = some (.cells zs 62 (0, 0))
 hs : W.heap[gs]? = some (.cells cs 95 (0, 0))
 lg : w0.heap.size <= gs
 st : StI w0 gt gf W s p
section
variable {w0 W W2 : World} {gt gf gs : Nat} {s s' : SV} {p p1 : PS} {cs zs : Array Value}
theorem Rn.step (h : Rn w0 gt gf W gs s p cs zs) (hb : Below W.heap.size W W2) : Rn w0 gt gf W2 gs s p cs zs := ⟨blk_below h.hu hb, blk_below h.hz hb, blk_below h.hs hb, h.lg, h.st.step hb⟩
theorem Rn.copy {cs2 : Array Value} (h : Rn w0 gt gf W gs s p cs zs) (hb : W2.heap[gs]? = some (.cells cs2 95 (0, 0))) (hk : Kp W W2 (fun k => k = gs)) : Rn w0 gt gf W2 gs s p cs2 zs := by
 have hne : ∀ {b t : Nat} {as_ : Array Value}, W.heap[b]? = some (.cells as_ t (0, 0)) -> t ≠ 95 -> ¬ b = gs := fun hb ht e => by
  rw [e, h.hs] at hb
  injection hb with hb
  injection hb with _ hb
  exact ht hb.symm
 have hno : ¬ Own s gs := h.st.not_own h.hs (by decide)
 have hl := h.lg
 exact ⟨far_typed hk h.hu (hne h.hu (by decide)), far_typed hk h.hz (hne h.hz (by decide)), hb, h.lg, h.st.keep hk (fun k e he => hno (he ▸ e)) (fun k e he => h.st.tops.not_at h.hs (by decide) (he ▸ e)) (fun k e => by omega)⟩
theorem Rn.put (h : Rn w0 gt gf W gs s p cs zs) (j : Nat) (u : Value) : Rn w0 gt gf (W.setCell ⟨gs, j, none⟩ u) gs s p (cs.setIfInBounds j u) zs := h.copy (blk_set h.hs j u) (kp_set W _ j u)
theorem Rn.nums (h : Rn w0 gt gf W gs s p cs zs) (hn : NumI gt gf s' p1) (e : s'.tv = s.tv /\ s'.mv = s.mv /\ s'.lv = s.lv /\ s'.kv = s.kv /\ s'.bv = s.bv /\ s'.ov = s.ov /\ s'.a7 = s.a7 /\ s'.n7 = s.n7 /\ s'.c7 = s.c7) (e2 : p1.tops = p.tops /\ p1.mem = p.mem /\ p1.L = p.L /\ p1.locks = p.locks /\ p1.blocks = p.blocks /\ p1.out = p.out /\ p1.input = p.input) : Rn w0 gt gf W gs s' p1 cs zs := ⟨h.hu, h.hz, h.hs, h.lg, h.st.nums hn e e2⟩
theorem Rn.free (h : Rn w0 gt gf W gs s p s.cs zs) (n : Int) : Rn w0 gt gf (W.setCell ⟨gs, 8, none⟩ (.int .i64 n)) gs (s.setFree n) (p.setFree n) (s.setFree n).cs zs :=
 (h.put 8 (.int .i64 n)).nums ⟨h.st.num.1, h.st.num.2, h.st.num.3, rfl, h.st.num.5, h.st.num.6, h.st.num.7, h.st.num.8, h.st.num.9, h.st.num.10⟩ ⟨rfl, rfl, rfl, rfl, rfl, rfl, rfl, rfl, rfl⟩ ⟨rfl, rfl, rfl, rfl, rfl, rfl, rfl⟩
theorem Rn.tops (h : Rn w0 gt gf W gs s p s.cs zs) {A : Option Addr} {n c : Nat} {l : List Int} (hr : RowSt (Kd.int .i64) 3 w0 W W2 s.tv (.slice A n c) l) : Rn w0 gt gf W2 gs (s.setT A n c) { p with tops := l } s.cs zs := by
 have K := Kp.grown hr.grown
 have hn : ∀ {b t : Nat} {as_ : Array Value}, W.heap[b]? = some (.cells as_ t (0, 0)) -> t ≠ 3 -> ¬ s.tv.ownBlock = some b := fun hb ht e => h.st.tops.not_at hb (fun e2 => ht e2.symm) e
 exact ⟨far_typed K h.hu (hn h.hu (by decide)), far_typed K h.hz (hn h.hz (by decide)), far_typed K h.hs (hn h.hs (by decide)), h.lg, h.st.setT hr⟩
theorem Rn.pst (h : Rn w0 gt gf W gs s p cs zs) (hp : Pst w0 gt gf W W2 s s' p1) : Rn w0 gt gf W2 gs s' p1 cs zs :=
 ⟨far_typed hp.kp h.hu (h.st.not_own h.hu (by decide)), far_typed hp.kp h.hz (h.st.not_own h.hz (by decide)), far_typed hp.kp h.hs (h.st.not_own h.hs (by decide)), h.lg, hp.st⟩
end
def p0 : PS := ⟨[], [], [], [1], [], [5, 6], [], 1, 4096, 2097152, 400, 0, 0, -1, 0⟩
def p1 : PS := ⟨[4096, 4112], [], [], [1], [], [5, 6], [], 1, 4128, 2097152, 400, 0, 0, -1, 0⟩
theorem p1_pi : PI 1 0 p1 := ⟨rfl, by decide, by decide, (fun x hx => absurd hx List.not_mem_nil), by decide, by decide, by decide, by decide, by decide, by decide, by decide, rfl⟩
noncomputable def runP (nk : Nat) (sizes : List Int) (code : List S44) : PS :=
 if (callP nk sizes code 401 p1).1.stop < 0 then { (callP nk sizes code 401 p1).1 with stop := 1, code := if (callP nk sizes code 401 p1).2 = [] then (callP nk sizes code 401 p1).1.code else by8 (rd (callP nk sizes code 401 p1).2 0) } else (callP nk sizes code 401 p1).1
def resV (r : PS) (A : Option Addr) (c : Nat) : Array Value := #[.int .i64 r.stop, .int .u8 r.code, .int .i64 0, .slice A r.out.length c, .int .i64 r.steps, .int .i64 r.checks]
def RunPost (R : PS) (w : World) (e : Ending) (w' : World) : Prop := ∃ (A : Option Addr) (c : Nat), e = .returned (.agg (resV R A c)) /\ Kd.C (Kd.int .u8) w' A R.out.length R.out /\ R.out.length <= c /\ Below w.heap.size w w'
def s0V (gt gf : Nat) (gk gi : Nat) : SV := ⟨some ⟨gt, 0, none⟩, some ⟨gf, 0, none⟩, none, none, none, some ⟨gk, 0, none⟩, none, some ⟨gi, 0, none⟩, none, 2, 1, 0, 0, 0, 1, 0, 2, 0, 2, 1, 0, 0, 0, 1, 0, 2, 0, 1, 4096, 2097152, 400, 0, 0, -1, 0⟩
theorem st_new {w0 W : World} {gt gf gi : Nat} (hb : Below w0.heap.size w0 W) (hi : Kd.C (Kd.int .u8) w0 (some ⟨gi, 0, none⟩) 2 [5, 6]) : StI w0 gt gf (W.alloc (.cells #[.int .u64 1] 42)) (s0V gt gf W.heap.size gi) p0 := by
 have hlk : Rw (Kd.int .u64) 42 w0 (W.alloc (.cells #[.int .u64 1] 42)) (.slice (some ⟨W.heap.size, 0, none⟩) 1 1) [1] := Kd.R_lower (lit_rw W [1] (by decide)) hb.size
 have hnil : ∀ {α : Type} (d : Kd α) (e : Nat) (W2 : World), Rw d e w0 W2 (.slice none 0 0) [] := fun d e W2 => Kd.R_nil _ _ _ _ _
 refine ⟨hb.alloc hb.size _, hnil _ _ _, hnil _ _ _, hnil _ _ _, hlk, hnil _ _ _, hnil _ _ _, ⟨hi, Nat.le_refl _⟩, fun k e _ => ?_, ⟨⟨rfl, rfl, rfl⟩, ⟨rfl, rfl, rfl⟩, rfl, rfl, rfl, rfl, rfl, rfl, rfl, rfl⟩⟩
 have e : (Value.slice none 0 0).ownBlock = some k := e
 simp [Value.ownBlock] at e
theorem rn_new {w0 : World} {gt gf gi : Nat} (hi : Kd.C (Kd.int .u8) w0 (some ⟨gi, 0, none⟩) 2 [5, 6]) : Rn w0 gt gf ((((w0.alloc (.cells #[.slice (some ⟨gt, 0, none⟩) 2 2, .slice (some ⟨gf, 0, none⟩) 1 1] 56)).alloc (.cells z62 62)).alloc (.cells #[.int .u64 1] 42)).alloc (.cells (s0V gt gf (w0.heap.size + 1 + 1) gi).cs 95)) (w0.heap.size + 1 + 1 + 1) (s0V gt gf (w0.heap.size + 1 + 1) gi) p0 (s0V gt gf (w0.heap.size + 1 + 1) gi).cs z62 := by
 have hb2 := two_below w0 (.cells #[.slice (some ⟨gt, 0, none⟩) 2 2, .slice (some ⟨gf, 0, none⟩) 1 1] 56) (.cells z62 62)
 have h2 := two_new w0 (.cells #[.slice (some ⟨gt, 0, none⟩) 2 2, .slice (some ⟨gf, 0, none⟩) 1 1] 56) (.cells z62 62)
 have h1 := blk_below (heap_alloc_new w0 (.cells #[.slice (some ⟨gt, 0, none⟩) 2 2, .slice (some ⟨gf, 0, none⟩) 1 1] 56)) ((Below.refl _ _).alloc (Nat.le_refl _) (.cells z62 62))
 have hsz : ((w0.alloc (.cells #[.slice (some ⟨gt, 0, none⟩) 2 2, .slice (some ⟨gf, 0, none⟩) 1 1] 56)).alloc (.cells z62 62)).heap.size = w0.heap.size + 1 + 1 := by simp
 have hst := st_new (W := (w0.alloc (.cells #[.slice (some ⟨gt, 0, none⟩) 2 2, .slice (some ⟨gf, 0, none⟩) 1 1] 56)).alloc (.cells z62 62)) (gt := gt) (gf := gf) hb2 hi
 rw [hsz] at hst
 generalize ((w0.alloc (.cells #[.slice (some ⟨gt, 0, none⟩) 2 2, .slice (some ⟨gf, 0, none⟩) 1 1] 56)).alloc (.cells z62 62)) = W2 at h1 h2 hst hsz ⊢
 have hb3 : Below W2.heap.size W2 (W2.alloc (.cells #[.int .u64 1] 42)) := (Below.refl _ _).alloc (Nat.le_refl _) _
 have hb4 : Below (W2.alloc (.cells #[.int .u64 1] 42)).heap.size (W2.alloc (.cells #[.int .u64 1] 42)) ((W2.alloc (.cells #[.int .u64 1] 42)).alloc (.cells (s0V gt gf (w0.heap.size + 1 + 1) gi).cs 95)) := (Below.refl _ _).alloc (Nat.le_refl _) _
 have hs3 : (W2.alloc (.cells #[.int .u64 1] 42)).heap.size = w0.heap.size + 1 + 1 + 1 := by simp [hsz]
 refine ⟨blk_below h1 (below_step hb3 hb4), blk_below h2 (below_step hb3 hb4), ?_, by omega, hst.step hb4⟩
 have := heap_alloc_new (W2.alloc (.cells #[.int .u64 1] 42)) (.cells (s0V gt gf (w0.heap.size + 1 + 1) gi).cs 95)
 rw [hs3] at this
 exact this
theorem info62 : (Tryd.prog.info? 62).map (·.size) = some 6 := by kernel_rfl
theorem run_end {w0 W W9 : World} {gt gf gs : Nat} {s : SV} {p : PS} {cs zs : Array Value} (h : Rn w0 gt gf W gs s p cs zs) (hk : Kp W W9 (fun k => k = w0.heap.size + 1)) : RunPost p w0 (.returned (.agg #[.int .i64 s.stop, .int .u8 s.code, .int .i64 0, .slice s.a8 s.n8 s.c8, .int .i64 s.steps, .int .i64 s.checks])) W9 := by
 have hn := h.st.num
 have ho : Rw (Kd.int .u8) 5 w0 W9 s.ov p.out := h.st.out.keep rfl hk (fun k e he => h.st.out.not_at h.hz (by decide) (he ▸ e))
 have hr := Rw.reads (A := s.a8) (n := s.n8) (c := s.c8) ho
 refine ⟨s.a8, s.c8, ?_, hr.2.2, by rw [<- hr.1]; exact hr.2.1, hk.toBelow h.st.below (fun k e => by omega)⟩
 unfold resV
 rw [hn.stop, hn.code, hn.steps, hn.checks, hr.1]
end
def rnP (pl : List Int) (most : Int) (r : Int) : Int := if rd pl r < 0 then most + r else rd pl r
structure Cap (W : World) (bp bm bt : Nat) (Ap : Option Addr) (cp : Nat) (pl : List Int) (most : Int) : Prop where
 hp : W.cell? ⟨bp, 0, none⟩ = some (.slice Ap pl.length cp)
 hm : W.cell? ⟨bm, 0, none⟩ = some (.int .i64 most)
 ht : W.cell? ⟨bt, 0, none⟩ = some (.func (.func 33) #[] #[.pointer (some ⟨bp, 0, none⟩), .pointer (some ⟨bm, 0, none⟩)])
 pl : Kd.C (Kd.int .i64) W Ap pl.length pl
theorem Cap.below {W W2 : World} {bp bm bt : Nat} {Ap : Option Addr} {cp : Nat} {pl : List Int} {most : Int} (h : Cap W bp bm bt Ap cp pl most) (hb : Below W.heap.size W W2) : Cap W2 bp bm bt Ap cp pl most :=
 ⟨pw_cell_below hb h.hp, pw_cell_below hb h.hm, pw_cell_below hb h.ht, Kd.C_below h.pl hb⟩
set_option maxHeartbeats 4000000 in
theorem to_calls {W : World} {bp bm bt : Nat} {Ap : Option Addr} {cp : Nat} {pl : List Int} {most : Int} (h : Cap W bp bm bt Ap cp pl most) (r : Int) (h0 : 0 <= r) (h1 : r < pl.length) (hm : 0 <= most /\ most <= 1000) (hl : pl.length <= 1000) : Calls Tryd.prog 33 #[.int .i64 r, .pointer (some ⟨bp, 0, none⟩), .pointer (some ⟨bm, 0, none⟩)] W fun e w' => e = .returned (.int .i64 (rnP pl most r)) /\ W = w' := by
 have hp := h.hp
 have hmm := h.hm
 obtain ⟨ad, ea, hy⟩ := C_int h.pl r h0 h1
 subst ea
 have HV := Aside0.mk (show rnP pl most r = if rd pl r < 0 then most + r else rd pl r from rfl)
 generalize rnP pl most r = v at HV ⊢
 generalize rd pl r = u at hy HV
 have hw : IntKind.i64.wrap (most + r) = most + r := by rw [IntKind.wrap_i64]; omega
 clear h
 by_cases hz : u < 0
 ·have HE := Aside0.mk (show v = most + r by rw [HV.out, if_pos hz])
  clear HV
  go_enter Tryd.func33, Tryd.ntmps33
  go_wp2
  go_ret
  exact ⟨by rw [HE.out]; rfl, rfl⟩
 ·have HE := Aside0.mk (show v = u by rw [HV.out, if_neg hz])
  clear HV
  go_enter Tryd.func33, Tryd.ntmps33
  go_wp2
  go_ret
  exact ⟨by rw [HE.out]; rfl, rfl⟩
set_option maxHeartbeats 4000000 in
set_option maxRecDepth 20000 in
theorem list_calls {w : World} {bp bm bt : Nat} {Ap : Option Addr} {cp : Nat} {pl : List Int} {most : Int} (h : Cap w bp bm bt Ap cp pl most) (hm : 0 <= most /\ most <= 1000) (hl : pl.length <= 1000) (Al : Option Addr) (cl : Nat) (l : List Int) (hr : Kd.C (Kd.int .i64) w Al l.length l) (hb : ∀ r ∈ l, 0 <= r /\ r < pl.length) (hn : l.length <= 17592186043904) :
  Calls Tryd.prog 34 #[.slice Al l.length cl, .pointer (some ⟨bt, 0, none⟩)] w fun e w' => ∃ A2 c2, e = .returned (.slice A2 l.length c2) /\ Kd.R (Kd.int .i64) 3 w' w.heap.size (fun _ => True) (.slice A2 l.length c2) (l.map (rnP pl most)) /\ Below w.heap.size w w' := by
 have hu22 := Tryd.underlying22
 have HC := Aside0.mk h
 have HL := Aside0.mk hr
 have HB := Aside0.mk hb
 have HN := Aside0.mk hn
 have HM := Aside0.mk hm
 have HPL := Aside0.mk hl
 clear h hr hb hn hm hl
 go_enter Tryd.func34, Tryd.ntmps34
 go_wp2
 go_loopg [4, 9] l.length (fun gg v4 v9 w' => ∃ (i : Nat) (Ao : Option Addr) (co : Nat), i <= l.length /\ l.length - i <= gg /\ v9 = .int .i64 i /\ v4 = .slice Ao i co /\ Aside0 (Kd.R (Kd.int .i64) 3 w' w.heap.size (fun _ => True) (.slice Ao i co) ((l.take i).map (rnP pl most))) /\ Aside0 (Below w.heap.size w w'))
 case atStart => exact ⟨0, none, 0, Nat.zero_le _, Nat.le_refl _, rfl, rfl, ⟨Kd.R_nil _ _ _ _ _⟩, ⟨Below.refl _ _⟩⟩
 case round =>
  obtain ⟨i, Ao, co, hi, hgi, rfl, rfl, HR, HBW⟩ := hrel
  by_cases hlt : i < l.length
  ·have p0 : 0 <= (i : Int) := by omega
   have p1 : (i : Int) < (l.length : Int) := by omega
   have pm : (i : Int) <= 17592186043904 := by have := HN.out; omega
   obtain ⟨ad, ea, hy⟩ := C_int (Kd.C_below HL.out HBW.out) (i : Int) p0 p1
   subst ea
   rw [Int.toNat_natCast] at hy
   have hr := HB.out (rd l (i : Int)) (rd_mem hlt)
   have HT := Aside0.mk (map_snoc (rnP pl most) hlt)
   generalize rd l (i : Int) = r at hy hr HT
   obtain ⟨r0, r1⟩ := hr
   have hct := (HC.out.below HBW.out).ht
   have HTO := Aside0.mk (to_calls (HC.out.below HBW.out) r r0 r1 HM.out HPL.out)
   have HE := Aside0.mk (show ((l.take i).map (rnP pl most)).length = i by rw [List.length_map, List.length_take]; omega)
   generalize rnP pl most r = u at HT HTO
   generalize (l.take i).map (rnP pl most) = ys at HR HT HE
   go_wp2_with (first | (go_at_call 33; (with_reducible refine HTO.out.mono ?_); rintro e w5 ⟨rfl, rfl⟩) | ((with_reducible refine gate_builtin (b := .append) (xs := #[.tmp 13, .tmp 17]) rfl ?_); at_builtin; refine Kd.R_append (Kd.int .i64) (w0 := w) w.heap.size rfl (.tmp 13) (.tmp 17) 22 3 (.int .i64 0) 8 rfl Tryd.underlying22 info3 rfl (by decide) (by omega) (.slice Ao i co) ys u [.int .i64 u] (fun _ => True) (fun _ => False) rfl rfl ?aP (fun _ hk => hk.elim) ?aF ?aO ?aB ?aS ?aL ?_; (case aP => exact rfl); (case aB => exact HBW.out); (case aF => exact (fun _ _ => trivial)); (case aO => exact HR.out); (case aS => exact (below_size HBW.out)); (case aL => have := HN.out; have := HE.out; omega); intro v1 w9 ho hb hg hat; have HO := Aside0.mk ho; have HB9 := Aside0.mk hb; clear ho hb hg hat; obtain ⟨A1, c1, e1⟩ := Kd.R_slice HO.out; subst e1))
   go_roundg (l.length - (i + 1))
   case measure => omega
   case rel =>
    have hE : (ys ++ [u]).length = i + 1 := by rw [List.length_append, HE.out]; rfl
    refine ⟨i + 1, A1, c1, by omega, Nat.le_refl _, by go_num, by first | rw [hE] | rw [HE.out], ?_, HB9⟩
    have h := HO.out
    rw [hE] at h
    rw [HT.out]
    exact ⟨h⟩
  ·obtain rfl : i = l.length := by omega
   have HR2 := Aside0.mk (show Kd.R (Kd.int .i64) 3 wr w.heap.size (fun _ => True) (.slice Ao l.length co) (l.map (rnP pl most)) by have h := HR.out; rwa [List.take_length] at h)
   go_wp2
   go_ret
   exact ⟨Ao, co, rfl, HR2.out, HBW.out⟩
end Go.Proofs.YtjfleaekljapeaaDoor.K
