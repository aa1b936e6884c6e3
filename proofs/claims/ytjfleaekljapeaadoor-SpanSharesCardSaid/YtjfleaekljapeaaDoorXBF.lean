import Derived.Test.YtjfleaekljapeaaDoorXAA
import Derived.ChangeArms
import Derived.Deep.Slices
import Derived.WalkKit
import Derived.ProofKit
import Derived.ChangeSame
import Derived.SizedLaws
import Derived.Test.YtjfleaekljapeaaDoorXAE
import Derived.Test.YtjfleaekljapeaaDoorRows
import Derived.Deep.DeepMust
import Derived.Test.YtjfleaekljapeaaDoorProg
import Derived.Below
import Derived.Deep.Draws
import Derived.Deep.AppendLies
import Derived.Maps.AppendAt
import Derived.OwnWalk
import Derived.Laws.BytesArg
import Derived.Laws.MakeOwn
import Derived.Laws.OwnMore
import Derived.Deep.OwnRows
import Derived.Tactics
import Derived.Lib.ConvBytes
import Derived.Laws.Slices
import Derived.KernelRfl
import Derived.RowKit3
import Derived.Deep.LoopGhost
import Derived.Deep.QuietTactic
import Derived.BigQuiet
import Derived.WideLaws
import Derived.Deep.DeepCutAuto
import Derived.Deep.CutBlock
import Derived.Deep.RegionHeld3
import Derived.LaidMore
import Derived.OpenShut
import Derived.Stop.Joined
import Derived.Laws.Rows
import Derived.Lib.AppendStr
import Derived.ArgAppend
import Derived.Laws.IdiomCopy
import Derived.OrdersHeld
import Derived.Laws.BitsLemmas
import Derived.RowKit
import Derived.RegionTactic
import Derived.Deep.RegionWith
import Derived.Lib.Hide
import Derived.Test.YtjfleaekljapeaaDoorXAB
import Derived.Test.YtjfleaekljapeaaDoorXAC
import Derived.Deep.RegionLaw
import Derived.Laws.CopyOwn
import Derived.Shelf.Spec.TrailingZeros
import Derived.Deep.MidRow
import Derived.Laws.BitsAllLaws
import Derived.Test.YtjfleaekljapeaaDoorXAW
import Derived.Laws.Tables
import Derived.StillTailTactics
import Derived.Laws.EntriesVeiled
namespace Go.Proofs.YtjfleaekljapeaaDoor.Open
open Go.RowKit Go.Proofs.YtjfleaekljapeaaDoorW.PrintWords Go.ChangeShapes Go.WideShapes Go.Deep
section
def Opens (P : Program) (t : TypeId) {α : Type} (d : Kd α) (G : α -> Prop) : Prop :=
 ∀ {H : Type} (enc : TypeId × Value -> H) (w : World) (base : Nat) (spare : Nat -> Bool) (held : Bool) (fuel : Nat) (cs : List Value) (x : DataW H × List MemPlace),
  DataW.trod enc P w base spare held fuel t cs = some x -> ∃ y, d.K w y cs /\ G y
variable {P : Program}
theorem opens_int {t : TypeId} {k : IntKind} (ht : P.underlying t = some (.int k)) : Opens P t (Kd.int k) (fun a => (Lit.int k a).wf = true) := by
 intro H enc w base spare held fuel cs x h
 obtain ⟨n, rfl, rfl, hw⟩ := DataW.trod_int ht h
 exact ⟨n, rfl, hw⟩
theorem opens_string {t : TypeId} (ht : P.underlying t = some .string) : Opens P t Kd.string (fun s => s.size <= maxLen) := by
 intro H enc w base spare held fuel cs x h
 obtain ⟨n, rfl, rfl, hw⟩ := DataW.trod_string ht h
 exact ⟨n, rfl, hw⟩
theorem some_list {α : Type} {Q : Nat -> α -> Prop} : ∀ n, (∀ i, i < n -> ∃ y, Q i y) -> ∃ l : List α, l.length = n /\ ∀ i y, l[i]? = some y -> Q i y
 | 0, _ => ⟨[], rfl, fun i y h => by simp at h⟩
 | n + 1, h => by
  obtain ⟨l, hl, hq⟩ := some_list n (fun i hi => h i (by omega))
  obtain ⟨y, hy⟩ := h n (by omega)
  refine ⟨l ++ [y], by simp [hl], fun i z hz => ?_⟩
  by_cases hi : i < n
  ·rw [List.getElem?_append_left (by omega)] at hz
   exact hq i z hz
  ·have hi2 : i < (l ++ [y]).length := (List.getElem?_eq_some_iff.1 hz).1
   obtain rfl : i = n := by simp [hl] at hi2; omega
   rw [List.getElem?_append_right (by omega), hl] at hz
   simp at hz
   exact hz ▸ hy
end
section
def Fit (P : Program) (t : TypeId) {H : Type} (d : DataW H) : Prop := ∀ n ∈ d.weights P t, n <= reachBytes
def OpensZ (P : Program) (t : TypeId) {α : Type} (d : Kd α) (G : α -> Prop) : Prop :=
 ∀ {H : Type} (enc : TypeId × Value -> H) (w : World) (base : Nat) (spare : Nat -> Bool) (held : Bool) (fuel : Nat) (cs : List Value) (x : DataW H × List MemPlace),
  DataW.trod enc P w base spare held fuel t cs = some x -> Fit P t x.1 -> ∃ y, d.K w y cs /\ G y
variable {P : Program}
theorem OpensZ.of {t : TypeId} {α : Type} {d : Kd α} {G : α -> Prop} (h : Opens P t d G) : OpensZ P t d G := by
 intro H enc w base spare held fuel cs x hx _
 exact h enc w base spare held fuel cs x hx
theorem zopens_iso {t : TypeId} {α β : Type} {d : Kd α} {G : β -> Prop} (f : β -> α) (g : α -> β) (hfg : ∀ a, f (g a) = a) (h : OpensZ P t d (fun a => G (g a))) : OpensZ P t (Kd.iso d f) G := by
 intro H enc w base spare held fuel cs x hx hz
 obtain ⟨y, hy, hG⟩ := h enc w base spare held fuel cs x hx hz
 exact ⟨g y, by show d.K w (f (g y)) cs; rw [hfg]; exact hy, hG⟩
theorem OpensZ.imp {t : TypeId} {α : Type} {d : Kd α} {G G' : α -> Prop} (h : OpensZ P t d G) (hG : ∀ x, G x -> G' x) : OpensZ P t d G' := by
 intro H enc w base spare held fuel cs x hx hz
 obtain ⟨y, hy, hg⟩ := h enc w base spare held fuel cs x hx hz
 exact ⟨y, hy, hG y hg⟩
def OpensFsZ (P : Program) (fs : List Field) (off : Nat) {α : Type} (d : Kd α) (G : α -> Prop) : Prop :=
 ∀ {H : Type} (enc : TypeId × Value -> H) (w : World) (base : Nat) (spare : Nat -> Bool) (held : Bool) (n : Nat) (cs : List Value),
  (∀ f ∈ fs, ∃ x, DataW.trod enc P w base spare held n f.type ((cs.drop f.offset).take (P.cellsOf f.type)) = some (x : DataW H × List MemPlace) /\ Fit P f.type x.1) -> ∃ y, d.K w y ((cs.drop off).take d.sz) /\ G y
theorem zopensFs_one {f : Field} {off : Nat} {α : Type} {d : Kd α} {G : α -> Prop} (ho : f.offset = off) (hs : P.cellsOf f.type = d.sz) (h : OpensZ P f.type d G) : OpensFsZ P [f] off d G := by
 intro H enc w base spare held n cs hf
 obtain ⟨x, hx, hz⟩ := hf f (by simp)
 rw [ho, hs] at hx
 exact h enc w base spare held n _ x hx hz
theorem zopensFs_cons {f : Field} {fs : List Field} {off : Nat} {α β : Type} {a : Kd α} {b : Kd β} {G1 : α -> Prop} {G2 : β -> Prop} (ho : f.offset = off) (hs : P.cellsOf f.type = a.sz) (h : OpensZ P f.type a G1)
  (hr : OpensFsZ P fs (off + a.sz) b G2) : OpensFsZ P (f :: fs) off (Kd.pair a b) (fun p => G1 p.1 /\ G2 p.2) := by
 intro H enc w base spare held n cs hf
 obtain ⟨x, hx, hz⟩ := hf f (by simp)
 rw [ho, hs] at hx
 obtain ⟨y1, k1, g1⟩ := h enc w base spare held n _ x hx hz
 obtain ⟨y2, k2, g2⟩ := hr enc w base spare held n cs (fun f' hf' => hf f' (by simp [hf']))
 refine ⟨(y1, y2), ⟨_, _, ?_, k1, k2⟩, g1, g2⟩
 show (cs.drop off).take (a.sz + b.sz) = _
 rw [List.take_add, List.drop_drop]
theorem zopens_struct {t : TypeId} {fs : Array Field} {α : Type} {d : Kd α} {G : α -> Prop} (ht : P.underlying t = some (.struct fs)) (hs : P.cellsOf t = d.sz) (h : OpensFsZ P fs.toList 0 d G) : OpensZ P t d G := by
 intro H enc w base spare held fuel cs x hx hz
 obtain ⟨xs, n, _, ex, hl, hxs, hf⟩ := DataW.trod_struct ht hx
 subst ex
 obtain ⟨y, hy, hG⟩ := h enc w base spare held n cs (fun f hf' => by
  obtain ⟨i, hi, e⟩ := List.mem_iff_getElem.1 hf'
  have hi2 : i < fs.size := by simpa using hi
  have h1 := hf i f (by rw [<- e]; simp [hi2])
  refine ⟨xs[i]'(by omega), by rw [h1]; exact List.getElem?_eq_getElem _, fun k hk => hz k ?_⟩
  have e2 : (DataW.agg (xs.map (·.1)) : DataW H).weights P t = DataW.weightsEach P (fs.toList.map (·.type)) (xs.map (·.1)) := by simp [DataW.weights, ht]
  show k ∈ (DataW.agg (xs.map (·.1)) : DataW H).weights P t
  rw [e2]
  refine DataW.weights_mem_each (j := i) (t := f.type) (d := (xs[i]'(by omega)).1) ?_ ?_ k hk
  ·rw [List.getElem?_map, List.getElem?_eq_getElem hi, e]; rfl
  ·rw [List.getElem?_map, List.getElem?_eq_getElem (by omega)]; rfl)
 refine ⟨y, ?_, hG⟩
 rw [<- hs, <- hl] at hy
 simpa using hy
theorem weights_mem_all {H : Type} {e : TypeId} : ∀ {l : List (DataW H)} {d : DataW H}, d ∈ l -> ∀ n ∈ d.weights P e, n ∈ DataW.weightsAll P e l
 | a :: l, d, h, n, hn => by
  simp only [DataW.weightsAll, List.mem_append]
  rcases List.mem_cons.1 h with rfl | h
  ·exact .inl hn
  ·exact .inr (weights_mem_all h n hn)
theorem zopens_slice {t e : TypeId} {b : Nat} {α : Type} {d : Kd α} {G : α -> Prop} (ht : P.underlying t = some (.slice e)) (hs : P.cellsOf e = d.sz) (hb : P.bytesOf e = b) (h : OpensZ P e d G) :
  OpensZ P t (Kd.slice e d) (fun xs => xs.length * b <= reachBytes /\ ∀ y ∈ xs, G y) := by
 intro H enc w base spare held fuel cs x hx hz
 rcases open_slice ht hx with ⟨rfl, _⟩ | ⟨a, len, cap, m, n, D, Pl, rfl, hb2, hl, hm, hmm, ex, hi⟩
 ·exact ⟨[], ⟨none, 0, rfl, Nat.le_refl _, rfl, by simp, fun hp => absurd hp (by simp)⟩, by simp⟩
 ·subst ex
  have hlm : len <= m := by rw [hmm]; split <;> omega
  have hw : ∀ k ∈ (len + (m - len)) * b :: (DataW.weightsAll P e ((List.range len).map D) ++ DataW.weightsAll P e ((List.range (m - len)).map fun j => D (len + j))), k <= reachBytes := by
   intro k hk
   refine hz k ?_
   simp only [DataW.weights, ht, List.length_map, List.length_range, hb]
   exact hk
  have hlen : len * b <= reachBytes := Nat.le_trans (Nat.mul_le_mul_right b (show len <= len + (m - len) by omega)) (hw _ List.mem_cons_self)
  have hfit : ∀ i, i < len -> Fit P e (D i) := fun i hil k hk => hw k (by
   refine List.mem_cons_of_mem _ (List.mem_append_left _ ?_)
   exact weights_mem_all (List.mem_map.2 ⟨i, List.mem_range.2 hil, rfl⟩) k hk)
  obtain ⟨xs, hxl, hq⟩ := some_list (Q := fun i y => G y /\ ∃ c, c.length = d.sz /\ d.K w y c /\ ∀ j u, c[j]? = some u -> w.cell? (a.add (i * d.sz + j)) = some u) len (fun i hil => by
   obtain ⟨cs', hc, ht'⟩ := hi i (by omega)
   obtain ⟨y, hy, hG⟩ := h enc w base spare held n cs' _ ht' (hfit i hil)
   rw [hs] at hc
   obtain ⟨_, hcl, hat⟩ := World.cells?_some hc
   refine ⟨y, hG, cs', d.K_len hy, hy, fun j u hu => ?_⟩
   have hj : j < d.sz := by rw [<- d.K_len hy]; exact (List.getElem?_eq_some_iff.1 hu).1
   have h1 := hat j hj
   rw [Go.Deep.add_add] at h1
   rw [h1, hu])
  have hmax : len <= maxLen := by omega
  refine ⟨xs, ⟨some a, cap, by rw [hxl], by omega, hxl ▸ rfl, by unfold maxLen at hmax; omega, fun hp => ⟨a, rfl, fun j p hj => ?_⟩⟩, by rw [hxl]; exact hlen, fun y hy => ?_⟩
  ·obtain ⟨_, c, h1, h2, h3⟩ := hq j p hj
   exact ⟨c, h1, h2, h3⟩
  ·obtain ⟨i, hil, e⟩ := List.mem_iff_getElem.1 hy
   exact (hq i y (by rw [<- e]; exact List.getElem?_eq_getElem hil)).1
end
end Go.Proofs.YtjfleaekljapeaaDoor.Open
namespace Go.Proofs.YtjfleaekljapeaaDoor.K
open Go.RowKit Go.Proofs.YtjfleaekljapeaaDoorW.PrintWords Go.Proofs.YtjfleaekljapeaaDoorW.PrintLast Go.Proofs.YtjfleaekljapeaaDoorW.PrintMore
attribute [local go_sem] max2_int min2_int max_two min_two max_three min_three max_four min_four   -- for this text's walks alone
set_option linter.unusedVariables false
set_option linter.unusedSimpArgs false
set_option linter.unusedSectionVars false
open Go.ChangeShapes Go.WideShapes Go.ChangeAt Go.RowKit Go.Proofs.YtjfleaekljapeaaDoor.Open
theorem gTab : Tryd.prog.globalNamed "math/bits.deBruijn64tab" = some 0 := by kernel_rfl
theorem tTab : (Tryd.prog.globals[0]?).map (·.type) = some 118 := by kernel_rfl
def laidT : List (String × DataW Unit) := [("math/bits.deBruijn64tab", Rows.laid_math_bits_deBruijn64tab)]
theorem door_met (os : Os) (args : Array Value) : laidMetH Tryd.prog laidT ((World.doorLaid Tryd.prog 400 os).forCall (fun _ _ => 0) ⟨#[], args, []⟩).memory :=
 laidMetH_of_parts3 (fuel := 8) (laidMet_of_run' 8 (by kernel_rfl) (by kernel_rfl)) (by kernel_rfl) (by kernel_rfl)
theorem tab_datum : (Rows.laid_math_bits_deBruijn64tab : DataW Unit) = .agg (Lib.deBruijn64tab.map fun k => .lit (.int .u8 (k : Nat))) := by rfl
set_option maxRecDepth 100000 in
theorem of_laid {W : World} (h : laidMetH Tryd.prog laidT W) : TzTab W /\ 0 < W.heap.size := by
 have key : TzTab W := by
  rw [MakeChecks.laidMetH_plain _ _ _ (by kernel_rfl)] at h
  obtain ⟨ps, ⟨g0, t0, cs0, f0, p0, q0, hg0, ht0, hv0, hd0, _, _⟩, _, _⟩ := h
  obtain rfl := Option.some.inj (gTab.symm.trans hg0)
  obtain rfl := Option.some.inj (tTab.symm.trans ht0)
  obtain ⟨xs, m, _, hx, hlen, hn, hel⟩ := DataW.trod_array Tryd.underlying118 hd0
  have c1 : Tryd.prog.cellsOf 5 = 1 := by kernel_rfl
  have c64 : Tryd.prog.cellsOf 118 = 64 := by kernel_rfl
  rw [c64] at hlen
  intro j hj
  have hj64 : j < 64 := hj
  have h0 := hel j hj64
  rw [c1] at h0
  have hx1 : (Rows.laid_math_bits_deBruijn64tab : DataW Unit) = .agg (xs.map (·.1)) := by
   have := congrArg Prod.fst hx
   exact this
  rw [tab_datum] at hx1
  have hl := (DataW.agg.inj hx1)
  have hjx : j < xs.length := by omega
  rw [List.getElem?_eq_getElem hjx] at h0
  obtain ⟨k, e1, e2, _⟩ := DataW.trod_int Tryd.underlying5 h0
  have e3 : (xs.map (·.1))[j]? = some (.lit (.int .u8 k)) := by rw [List.getElem?_map, List.getElem?_eq_getElem hjx, e2]; rfl
  rw [<- hl, List.getElem?_map] at e3
  have hjl : j < Lib.deBruijn64tab.length := hj
  rw [List.getElem?_eq_getElem hjl] at e3
  have e4 : ((Lib.deBruijn64tab[j] : Nat) : Int) = k := by simpa using e3
  have hv := World.var?_cell hg0 hv0 j
  rw [hv]
  have hcj : j < cs0.toList.length := by omega
  have e5 : cs0.toList[j]? = some (.int .u8 k) := by
   have : (cs0.toList.drop (j * 1)).take 1 = [cs0.toList[j]] := by
    rw [Nat.mul_one, List.drop_eq_getElem_cons hcj]; rfl
   rw [this] at e1
   rw [List.getElem?_eq_getElem hcj]
   simpa using e1
  rw [<- Array.getElem?_toList, e5, <- e4]
  congr 2
  rw [List.getD_eq_getElem?_getD, List.getElem?_eq_getElem hjl]; rfl
 refine ⟨key, ?_⟩
 have := World.block_lt_of_cell? W ⟨0, 0, none⟩ (key 0 (by decide))
 exact this
theorem zopens22 : OpensZ Tryd.prog 22 (Kd.slice 3 (Kd.int .i64)) (fun l => l.length <= 17592186043904) :=
 OpensZ.imp (zopens_slice (b := 8) Tryd.underlying22 (by kernel_rfl) (by kernel_rfl) (OpensZ.of (opens_int Tryd.underlying3))) (fun x h => by
  have := h.1
  unfold reachBytes at this
  omega)
theorem fit_of {H : Type} {P : Program} {ts : List TypeId} {ds : List (DataW H)} (h : (DataW.weightsEach P ts ds).all (· <= reachBytes) = true) {j : Nat} {t : TypeId} {d : DataW H} (ht : ts[j]? = some t) (hd : ds[j]? = some d) : Fit P t d := by
 intro n hn
 have := List.all_eq_true.1 h n (DataW.weights_mem_each ht hd n hn)
 simpa using this
theorem r64_wf {k : Int} (h : (Lit.int IntKind.u64 k).wf = true) : R64 k := by
 unfold R64
 simp [Lit.wf] at h
 have h1 : IntKind.u64.min = 0 := rfl
 have h2 : IntKind.u64.max = 18446744073709551615 := rfl
 omega
theorem zopens44k : OpensZ Tryd.prog 44 k44 (fun x => x.f7.length <= 17592186043904 /\ R64 x.f4) :=
 zopens_iso (fun x : S44 => (x.f0, x.f1, x.f2, x.f3, x.f4, x.f5, x.f6, x.f7, x.f8, x.f9)) (fun p => ⟨p.1, p.2.1, p.2.2.1, p.2.2.2.1, p.2.2.2.2.1, p.2.2.2.2.2.1, p.2.2.2.2.2.2.1, p.2.2.2.2.2.2.2.1, p.2.2.2.2.2.2.2.2.1, p.2.2.2.2.2.2.2.2.2⟩) (fun _ => rfl)
  (OpensZ.imp (zopens_struct Tryd.underlying44 (by kernel_rfl)
   (zopensFs_cons rfl (by kernel_rfl) (OpensZ.of (opens_int Tryd.underlying3))
   (zopensFs_cons rfl (by kernel_rfl) (OpensZ.of (opens_int Tryd.underlying3))
   (zopensFs_cons rfl (by kernel_rfl) (OpensZ.of (opens_int Tryd.underlying3))
   (zopensFs_cons rfl (by kernel_rfl) (OpensZ.of (opens_int Tryd.underlying3))
   (zopensFs_cons rfl (by kernel_rfl) (OpensZ.of (opens_int Tryd.underlying42))
   (zopensFs_cons rfl (by kernel_rfl) (OpensZ.of (opens_int Tryd.underlying3))
   (zopensFs_cons rfl (by kernel_rfl) (OpensZ.of (opens_string Tryd.underlying9))
   (zopensFs_cons rfl (by kernel_rfl) zopens22
   (zopensFs_cons rfl (by kernel_rfl) zopens22
   (zopensFs_one rfl (by kernel_rfl) (OpensZ.of (opens_int Tryd.underlying3))))))))))))) (fun p h => ⟨h.2.2.2.2.2.2.2.1, r64_wf h.2.2.2.2.1⟩))
theorem zopens25k : OpensZ Tryd.prog 25 k25 (fun x => ∀ i ∈ x.f4, i.f7.length <= 17592186043904 /\ R64 i.f4) :=
 zopens_iso (fun x : S25 => (x.f0, x.f1, x.f2, x.f3, x.f4)) (fun p => ⟨p.1, p.2.1, p.2.2.1, p.2.2.2.1, p.2.2.2.2⟩) (fun _ => rfl)
  (OpensZ.imp (zopens_struct Tryd.underlying25 (by kernel_rfl)
   (zopensFs_cons rfl (by kernel_rfl) (OpensZ.of (opens_string Tryd.underlying9))
   (zopensFs_cons rfl (by kernel_rfl) zopens22
   (zopensFs_cons rfl (by kernel_rfl) zopens22
   (zopensFs_cons rfl (by kernel_rfl) zopens22
   (zopensFs_one rfl (by kernel_rfl) (zopens_slice (b := 120) Tryd.underlying23 (by kernel_rfl) (by kernel_rfl) zopens44k))))))) (fun p h => h.2.2.2.2.2))
theorem args_k {code : List S44} (h : ∀ i ∈ code, i.f7.length <= 17592186043904 /\ R64 i.f4) : (∀ n : Nat, n < code.length -> (rd_T44 code n).f7.length <= 17592186043904) /\ (∀ n : Nat, n < code.length -> R64 (rd_T44 code n).f4) := by
 have : ∀ n : Nat, n < code.length -> (rd_T44 code n).f7.length <= 17592186043904 /\ R64 (rd_T44 code n).f4 := fun n hn => by
  unfold rd_T44
  rw [Int.toNat_natCast, List.getD_eq_getElem?_getD, List.getElem?_eq_getElem hn]
  exact h _ (List.getElem_mem hn)
 exact ⟨fun n hn => (this n hn).1, fun n hn => (this n hn).2⟩
end Go.Proofs.YtjfleaekljapeaaDoor.K
