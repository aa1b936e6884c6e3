import Derived.Test.YtpfbloddhfphiaaK0
import Derived.Test.YtpfbloddhfphiaaScanP
import Derived.Deep.DeepMust
import Derived.Test.YtpfbloddhfphiaaProg
import Derived.Below
import Derived.Deep.Draws
import Derived.Deep.AppendLies
import Derived.Maps.AppendAt
import Derived.OwnWalk
import Derived.Laws.BytesArg
import Derived.Laws.MakeOwn
import Derived.Laws.OwnMore
import Derived.Deep.OwnRows
import Derived.Tactics
import Derived.Lib.ConvBytes
import Derived.Laws.Slices
import Derived.WalkKit
import Derived.KernelRfl
import Derived.RowKit3
import Derived.Deep.LoopGhost
import Derived.Deep.QuietTactic
import Derived.BigQuiet
import Derived.WideLaws
import Derived.Deep.DeepCutAuto
import Derived.Deep.CutBlock
import Derived.Deep.RegionHeld3
import Derived.Deep.MidRow
import Derived.Laws.Rows
import Derived.Lib.AppendStr
import Derived.ArgAppend
import Derived.Laws.IdiomCopy
import Derived.OrdersHeld
import Derived.Laws.BitsLemmas
import Derived.RowKit
import Derived.RegionTactic
import Derived.Deep.RegionWith
import Derived.Lib.Hide
import Derived.Test.YtpfbloddhfphiaaWWords
import Derived.Test.YtpfbloddhfphiaaWLast
import Derived.Test.YtpfbloddhfphiaaWTab
import Derived.Test.YtpfbloddhfphiaaWFour
import Derived.Test.YtpfbloddhfphiaaWQPut
import Derived.Test.YtpfbloddhfphiaaWApart
import Derived.Test.YtpfbloddhfphiaaWArr
import Derived.Test.YtpfbloddhfphiaaWZeros
import Derived.Test.YtpfbloddhfphiaaWFoot
import Derived.Test.YtpfbloddhfphiaaWKept
import Derived.Test.YtpfbloddhfphiaaWShare
import Derived.Test.YtpfbloddhfphiaaWN
import Derived.Test.YtpfbloddhfphiaaWEqStruct
import Derived.Test.YtpfbloddhfphiaaWRepsOne
import Derived.Test.YtpfbloddhfphiaaWGuard
import Derived.Test.YtpfbloddhfphiaaWNEv
import Derived.Test.YtpfbloddhfphiaaWMore
import Derived.Deep.RegionLaw
import Derived.Laws.CopyOwn
namespace Go.Proofs.Ytpfbloddhfphiaa.K
open Go.RowKit Go.Proofs.YtpfbloddhfphiaaW.PrintWords Go.Proofs.YtpfbloddhfphiaaW.PrintLast Go.Proofs.YtpfbloddhfphiaaW.PrintMore
attribute [local go_sem] max2_int min2_int max_two min_two max_three min_three max_four min_four   -- for this text's walks alone
set_option linter.unusedVariables false
set_option linter.unusedSimpArgs false
set_option linter.unusedSectionVars false
/-! ### scan.Places: its state in memory, and how each step turns it -/
structure PlSt (w0 w : World) (base b : Nat) (A : Option Addr) (c : Nat) (l : List S35) (go : Nat) (vr va vf : Value) (ord : List Nat) (s : PS) : Prop where
  hB : Below w0.heap.size w0 w
  hx : Bx w b A c l
  ho : w.heap[go]? = some (.cells (encs (Value.int .i64) s.out).toArray 3 (0, 0))
  hr : IQ w base vr (zs ord)
  ha : IQ w base va (zs s.act)
  hf : IQ w base vf s.free
  og : base ≤ go
  ar : vr.ownBlock ≠ some go
  aa : va.ownBlock ≠ some go
  af : vf.ownBlock ≠ some go
  ra : ∀ k, va.ownBlock = some k → vr.ownBlock ≠ some k
  rf : ∀ k, vf.ownBlock = some k → vr.ownBlock ≠ some k
  fa : ∀ k, vf.ownBlock = some k → va.ownBlock ≠ some k
structure PlCx (w0 : World) (base b : Nat) (A : Option Addr) : Prop where
  hw : w0.heap.size ≤ base
  hb : b < base
  hA : ∀ a, A = some a → a.block < base
theorem Bx.grown {w w' : World} {base b : Nat} {A : Option Addr} {c : Nat} {l : List S35} {row : Option Nat} (h : Bx w b A c l) (hg : w.grownBy w' row) (hrow : ∀ k, row = some k → base ≤ k) (hb : b < base) (hA : ∀ a, A = some a → a.block < base) : Bx w' b A c l := by
  cases row with
  | none => exact h.below ⟨hg.os, hg.tape, hg.output, hg.size, fun k hk => hg.block k hk (by simp)⟩
  | some g => exact h.keep hg (by have := hrow g rfl; omega) (fun a ha => by have := hA a ha; have := hrow g rfl; omega)
theorem IQ.grown {w w' : World} {base : Nat} {v : Value} {xs : List Int} {row : Option Nat} (h : IQ w base v xs) (hg : w.grownBy w' row) (hne : ∀ k, row = some k → v.ownBlock ≠ some k) : IQ w' base v xs :=
  Kd.Q_grown2 h rfl hg (fun k hk he => hne k hk he.symm)
theorem IQ.lt {w : World} {base : Nat} {v : Value} {xs : List Int} (h : IQ w base v xs) : ∀ k, v.ownBlock = some k → k < w.heap.size := Kd.Q_lt h
theorem IQ.base {w : World} {base : Nat} {v : Value} {xs : List Int} (h : IQ w base v xs) : ∀ k, v.ownBlock = some k → base ≤ k := Kd.Q_base h
section
variable {w0 w w' : World} {base b : Nat} {A : Option Addr} {c : Nat} {l : List S35} {go : Nat} {vr va vf v' : Value} {ord : List Nat} {s : PS}
theorem grown_far {g : Nat} {o : Obj} {row : Option Nat} (h : w.heap[g]? = some o) (hg : w.grownBy w' row) (hne : row ≠ some g) : w'.heap[g]? = some o := (hg.block g (blk_lt h) (fun e => hne e.symm)).trans h
theorem PlSt.lo (h : PlSt w0 w base b A c l go vr va vf ord s) : go < w.heap.size := blk_lt h.ho
theorem PlSt.free_ (h : PlSt w0 w base b A c l go vr va vf ord s) (hc : PlCx w0 base b A) (hg : w.grownBy w' none) : PlSt w0 w' base b A c l go vr va vf ord s :=
  { hB := h.hB.grown hg (below_size h.hB) (fun k hk => by cases hk), hx := h.hx.grown hg (fun k hk => by cases hk) hc.hb hc.hA, ho := grown_far h.ho hg (by simp), hr := h.hr.grown hg (fun k hk => by cases hk), ha := h.ha.grown hg (fun k hk => by cases hk), hf := h.hf.grown hg (fun k hk => by cases hk), og := h.og, ar := h.ar, aa := h.aa, af := h.af, ra := h.ra, rf := h.rf, fa := h.fa }
theorem PlSt.putO (h : PlSt w0 w base b A c l go vr va vf ord s) (hc : PlCx w0 base b A) (k : Nat) (x : Int) : PlSt w0 (w.setCell ⟨go, k, none⟩ (.int .i64 x)) base b A c l go vr va vf ord ⟨s.out.set k x, s.act, s.free⟩ := by
  have hg : w.grownBy (w.setCell ⟨go, k, none⟩ (.int .i64 x)) (some go) := sc_grown go [.int .i64 x] k w
  exact { hB := h.hB.grown hg (below_size h.hB) (fun j hj => by have := hc.hw; have := h.og; injection hj with hj; omega), hx := h.hx.grown hg (fun j hj => by have := h.og; injection hj with hj; omega) hc.hb hc.hA, ho := blk_put h.ho k _ (by simp [encs, List.map_set]), hr := h.hr.grown hg (fun j hj => by injection hj with hj; subst hj; exact h.ar), ha := h.ha.grown hg (fun j hj => by injection hj with hj; subst hj; exact h.aa), hf := h.hf.grown hg (fun j hj => by injection hj with hj; subst hj; exact h.af), og := h.og, ar := h.ar, aa := h.aa, af := h.af, ra := h.ra, rf := h.rf, fa := h.fa }
theorem PlSt.putA (h : PlSt w0 w base b A c l go vr va vf ord s) (hc : PlCx w0 base b A) (hg : w.grownBy w' va.ownBlock) {act' : List Nat} (hq : IQ w' base v' (zs act')) (hv : v'.ownBlock = va.ownBlock ∨ ∃ k, v'.ownBlock = some k ∧ w.heap.size ≤ k) : PlSt w0 w' base b A c l go vr v' vf ord ⟨s.out, act', s.free⟩ :=
  { hB := h.hB.grown hg (below_size h.hB) (fun k hk => Nat.le_trans hc.hw (h.ha.base k hk)), hx := h.hx.grown hg (fun k hk => h.ha.base k hk) hc.hb hc.hA, ho := grown_far h.ho hg h.aa, hr := h.hr.grown hg h.ra, ha := hq, hf := h.hf.grown hg (fun k hk he => h.fa k he hk), og := h.og, ar := h.ar,
    aa := (by rcases hv with e | ⟨k, e, hk⟩ <;> rw [e]; exact h.aa; intro he; injection he with he; have := h.lo; omega), af := h.af,
    ra := (by rcases hv with e | ⟨k, e, hk⟩ <;> rw [e]; exact h.ra; intro j he hj; injection he with he; have := h.hr.lt j hj; omega), rf := h.rf,
    fa := (by intro j hj; rcases hv with e | ⟨k, e, hk⟩ <;> rw [e]; exact h.fa j hj; intro he; injection he with he; have := h.hf.lt j hj; omega) }
theorem PlSt.putF (h : PlSt w0 w base b A c l go vr va vf ord s) (hc : PlCx w0 base b A) (hg : w.grownBy w' vf.ownBlock) {free' : List Int} (hq : IQ w' base v' free') (hv : v'.ownBlock = vf.ownBlock ∨ ∃ k, v'.ownBlock = some k ∧ w.heap.size ≤ k) : PlSt w0 w' base b A c l go vr va v' ord ⟨s.out, s.act, free'⟩ :=
  { hB := h.hB.grown hg (below_size h.hB) (fun k hk => Nat.le_trans hc.hw (h.hf.base k hk)), hx := h.hx.grown hg (fun k hk => h.hf.base k hk) hc.hb hc.hA, ho := grown_far h.ho hg h.af, hr := h.hr.grown hg h.rf, ha := h.ha.grown hg h.fa, hf := hq, og := h.og, ar := h.ar, aa := h.aa,
    af := (by rcases hv with e | ⟨k, e, hk⟩ <;> rw [e]; exact h.af; intro he; injection he with he; have := h.lo; omega), ra := h.ra,
    rf := (by rcases hv with e | ⟨k, e, hk⟩ <;> rw [e]; exact h.rf; intro j he hj; injection he with he; have := h.hr.lt j hj; omega),
    fa := (by intro j hj; rcases hv with e | ⟨k, e, hk⟩ <;> rw [e] at hj; exact h.fa j hj; injection hj with hj; intro he; have := h.ha.lt j he; omega) }
theorem PlSt.putR (h : PlSt w0 w base b A c l go vr va vf ord s) (hc : PlCx w0 base b A) (hg : w.grownBy w' vr.ownBlock) {ord' : List Nat} (hq : IQ w' base v' (zs ord')) (hv : v'.ownBlock = vr.ownBlock ∨ ∃ k, v'.ownBlock = some k ∧ w.heap.size ≤ k) : PlSt w0 w' base b A c l go v' va vf ord' s :=
  { hB := h.hB.grown hg (below_size h.hB) (fun k hk => Nat.le_trans hc.hw (h.hr.base k hk)), hx := h.hx.grown hg (fun k hk => h.hr.base k hk) hc.hb hc.hA, ho := grown_far h.ho hg h.ar, hr := hq, ha := h.ha.grown hg (fun k hk he => h.ra k he hk), hf := h.hf.grown hg (fun k hk he => h.rf k he hk), og := h.og,
    ar := (by rcases hv with e | ⟨k, e, hk⟩ <;> rw [e]; exact h.ar; intro he; injection he with he; have := h.lo; omega), aa := h.aa, af := h.af,
    ra := (by intro j hj; rcases hv with e | ⟨k, e, hk⟩ <;> rw [e]; exact h.ra j hj; intro he; injection he with he; have := h.ha.lt j hj; omega),
    rf := (by intro j hj; rcases hv with e | ⟨k, e, hk⟩ <;> rw [e]; exact h.rf j hj; intro he; injection he with he; have := h.hf.lt j hj; omega), fa := h.fa }
theorem PlSt.out_at (h : PlSt w0 w base b A c l go vr va vf ord s) (k : Nat) (hk : k < s.out.length) : w.cell? ⟨go, k, none⟩ = some (.int .i64 (s.out.getD k 0)) := by
  rw [blk_cell h.ho]
  simp [encs, List.getD_eq_getElem?_getD, hk]
end
theorem iq_at {w : World} {base : Nat} {A : Option Addr} {n c : Nat} {xs : List Int} (h : IQ w base (.slice A n c) xs) (k : Nat) (hk : k < xs.length) : ∃ ad, A = some ad ∧ w.cell? (ad.add k) = some (.int .i64 (xs.getD k 0)) := by
  obtain ⟨_, _, hC⟩ := Kd.Q_reads' h
  obtain ⟨ad, e, hc⟩ := hC.2.2 (by omega)
  obtain ⟨cs, _, hK, hcc⟩ := hc k _ (List.getElem?_eq_getElem hk)
  obtain rfl : cs = [Value.int .i64 xs[k]] := hK
  have h2 := hcc 0 _ rfl
  rw [show (Kd.int .i64).sz = 1 from rfl, Nat.mul_one, Nat.add_zero] at h2
  refine ⟨ad, e, ?_⟩
  rw [h2, List.getD_eq_getElem?_getD, List.getElem?_eq_getElem hk]
  rfl
theorem iq_len {w : World} {base : Nat} {A : Option Addr} {n c : Nat} {xs : List Int} (h : IQ w base (.slice A n c) xs) : n = xs.length ∧ n ≤ c := ⟨(Kd.Q_reads' h).1, (Kd.Q_reads' h).2.1⟩
theorem iq_slice {w : World} {base : Nat} {v : Value} {xs : List Int} (h : IQ w base v xs) : ∃ A c, v = .slice A xs.length c ∧ xs.length ≤ c := Kd.Q_slice h
theorem iq_tail {w : World} {base : Nat} {A : Option Addr} {n c : Nat} {xs : List Int} (h : IQ w base (.slice A n c) xs) (hn : 1 ≤ xs.length) :
    ∃ A' c', (∀ W, (Instr.slice 28 (.slice A n c) (some (.int .i64 1)) none none).run Try.prog W = .ok (.slice A' (n - 1) c') W) ∧ IQ w base (.slice A' (n - 1) c') (xs.drop 1) ∧ (Value.slice A' (n - 1) c').ownBlock = (Value.slice A n c).ownBlock := by
  obtain ⟨i, hi, _, hz, _⟩ := info_parts rp_info3
  obtain ⟨hl, _⟩ := iq_len h
  have h1 := cut_from (P := Try.prog) 28 3 .i64 Try.underlying28 hi 1 hz A n c 1 (by omega) (by omega)
  have h2 := Kd.Q_drop (k := 1) h hn
  refine ⟨_, _, h1, h2, ?_⟩
  split <;> (cases A with
    | none => rfl
    | some a => first | rfl | (simp [Value.ownBlock]; unfold Addr.add; split <;> rfl))
theorem iq_cut {w : World} {base : Nat} {A : Option Addr} {n c : Nat} {xs : List Int} (h : IQ w base (.slice A n c) xs) (m : Nat) (hm : m ≤ xs.length) :
    (∀ W, (Instr.slice 28 (.slice A n c) none (some (.int .i64 (m : Int))) none).run Try.prog W = .ok (.slice A m c) W) ∧ IQ w base (.slice A m c) (xs.take m) ∧ (Value.slice A m c).ownBlock = (Value.slice A n c).ownBlock := by
  obtain ⟨i, hi, _, hz, _⟩ := info_parts rp_info3
  obtain ⟨hl, hc⟩ := iq_len h
  have h1 := cut_to (P := Try.prog) 28 3 .i64 Try.underlying28 hi A n c (m : Int) (by omega) (by omega) hc
  exact ⟨h1, Kd.Q_take h hm, by cases A <;> rfl⟩
theorem iq_app {ops : Array Oper} {rest : List Oper} {o : Oper} {a : Act} {Q' : Exit → Act → World → Prop} {W : World} (base : Nat) (hgd : o.guard = none) (s x : Operand) (ho : o.op = .call { callee := .builtin .append, args := #[s, x], argTypes := #[28, 28] })
    (v : Value) (xs : List Int) (p : Int) (hs : a.eval s = v) (hx : a.eval x = .slice (some ⟨W.heap.size, 0, none⟩) 1 1) (HO : IQ W base v xs) (hbase : base ≤ W.heap.size) (hl : xs.length ≤ 1000)
    (h : ∀ v1 w1, IQ w1 base v1 (xs ++ [p]) → W.grownBy w1 v.ownBlock → (v1.ownBlock = v.ownBlock ∨ ∃ b, v1.ownBlock = some b ∧ W.heap.size ≤ b) → wpList Try.prog ops Q' rest (a.put o.dst v1) w1) :
    wpList Try.prog ops Q' (o :: rest) a (W.alloc (.cells #[.int .i64 p] 3)) :=
  Kd.Q_append (P := Try.prog) (Kd.int .i64) (w0 := W) (W := W) base hgd s x 28 3 (.int .i64 0) 8 ho Try.underlying28 rp_info3 rfl (by decide) (by omega) v xs p [.int .i64 p] (fun _ => True) (fun _ => False) hs hx rfl (fun _ hk => hk.elim) (fun _ _ => trivial) HO (Below.refl _ _) hbase (by omega)
    (fun v1 w1 h1 _ h3 h4 => h v1 w1 h1 h3 h4)
theorem plOrd_succ (l : List S35) (i : Nat) : plOrd l (i + 1) = if ff l i ≤ tt l i then plOrd l i ++ [i] else plOrd l i := by
  unfold plOrd
  rw [List.range_succ, List.filter_append]
  split
  · rename_i h
    rw [List.filter_cons_of_pos (by simpa using h)]; rfl
  · rename_i h
    rw [List.filter_cons_of_neg (by simpa using h)]; simp
theorem plOrd_le (l : List S35) (i : Nat) : (plOrd l i).length ≤ i := by
  unfold plOrd
  exact Nat.le_trans (List.length_filter_le _ _) (by simp)
theorem plOrd_lt (l : List S35) : ∀ k ∈ plOrd l l.length, k < l.length := fun k hk => by
  unfold plOrd at hk
  rw [List.mem_filter, List.mem_range] at hk
  exact hk.1
theorem plOut0_zero (l : List S35) (n : Int) : plOut0 l n 0 = List.replicate l.length (-1) := by
  unfold plOut0
  refine List.ext_getElem (by simp) fun j h1 h2 => by simp
theorem plOut0_len (l : List S35) (n : Int) (i : Nat) : (plOut0 l n i).length = l.length := by simp [plOut0]
theorem plOut0_same (l : List S35) (n : Int) (i : Nat) (h : ff l i ≤ tt l i ∨ ¬ 0 < n) : plOut0 l n (i + 1) = plOut0 l n i := by
  unfold plOut0
  refine List.map_congr_left fun k _ => ?_
  by_cases hk : k = i
  · subst hk
    rw [if_neg (by rcases h with h | h <;> omega), if_neg (by omega)]
  · by_cases h1 : k < i
    · by_cases h2 : ¬ ff l k ≤ tt l k ∧ 0 < n
      · rw [if_pos ⟨by omega, h2.1, h2.2⟩, if_pos ⟨h1, h2.1, h2.2⟩]
      · rw [if_neg (fun h => h2 h.2), if_neg (fun h => h2 h.2)]
    · rw [if_neg (fun h => by omega), if_neg (fun h => by omega)]
theorem plOut0_set (l : List S35) (n : Int) (i : Nat) (hi : i < l.length) (h : ¬ ff l i ≤ tt l i) (hn : 0 < n) : plOut0 l n (i + 1) = (plOut0 l n i).set i 0 := by
  unfold plOut0
  refine List.ext_getElem (by simp) fun j h1 h2 => ?_
  rw [List.getElem_set]
  simp only [List.getElem_map, List.getElem_range]
  by_cases hk : i = j
  · subst hk
    rw [if_pos rfl, if_pos ⟨by omega, h, hn⟩]
  · rw [if_neg hk]
    by_cases h1 : j < i
    · by_cases h2 : ¬ ff l j ≤ tt l j ∧ 0 < n
      · rw [if_pos ⟨by omega, h2.1, h2.2⟩, if_pos ⟨h1, h2.1, h2.2⟩]
      · rw [if_neg (fun h => h2 h.2), if_neg (fun h => h2 h.2)]
    · rw [if_neg (fun h => by omega), if_neg (fun h => by omega)]
theorem zs_snoc (o : List Nat) (i : Nat) : zs (o ++ [i]) = zs o ++ [(i : Int)] := by simp [zs]
theorem plFree_snoc (n j : Nat) (hj : j < n) : ((plFree n).take j) ++ [((n - 1 - j : Nat) : Int)] = (plFree n).take (j + 1) := by
  unfold plFree
  rw [List.take_add_one, List.getElem?_map, List.getElem?_range hj]
  rfl
end Go.Proofs.Ytpfbloddhfphiaa.K
