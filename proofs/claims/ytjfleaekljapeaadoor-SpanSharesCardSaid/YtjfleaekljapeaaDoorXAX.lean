import Derived.Test.YtjfleaekljapeaaDoorXAW
import Derived.Deep.DeepMust
import Derived.Test.YtjfleaekljapeaaDoorProg
import Derived.Below
import Derived.Deep.Draws
import Derived.Deep.AppendLies
import Derived.Maps.AppendAt
import Derived.OwnWalk
import Derived.Laws.BytesArg
import Derived.Laws.MakeOwn
import Derived.Laws.OwnMore
import Derived.Deep.OwnRows
import Derived.Tactics
import Derived.Lib.ConvBytes
import Derived.Laws.Slices
import Derived.WalkKit
import Derived.KernelRfl
import Derived.RowKit3
import Derived.Deep.LoopGhost
import Derived.Deep.QuietTactic
import Derived.BigQuiet
import Derived.WideLaws
import Derived.Deep.DeepCutAuto
import Derived.Deep.CutBlock
import Derived.Deep.RegionHeld3
import Derived.Deep.MidRow
import Derived.Laws.Tables
import Derived.StillTailTactics
import Derived.Laws.Rows
import Derived.Lib.AppendStr
import Derived.ArgAppend
import Derived.Laws.IdiomCopy
import Derived.OrdersHeld
import Derived.Laws.BitsLemmas
import Derived.Laws.BitsAllLaws
import Derived.RowKit
import Derived.RegionTactic
import Derived.Deep.RegionWith
import Derived.Lib.Hide
import Derived.Test.YtjfleaekljapeaaDoorXAA
import Derived.Test.YtjfleaekljapeaaDoorXAB
import Derived.Test.YtjfleaekljapeaaDoorXAC
import Derived.Deep.RegionLaw
import Derived.Laws.CopyOwn
import Derived.Shelf.Spec.TrailingZeros
import Derived.Test.YtjfleaekljapeaaDoorXAJ
import Derived.Test.YtjfleaekljapeaaDoorXAK
namespace Go.Proofs.YtjfleaekljapeaaDoor.K
open Go.RowKit Go.Proofs.YtjfleaekljapeaaDoorW.PrintWords Go.Proofs.YtjfleaekljapeaaDoorW.PrintLast Go.Proofs.YtjfleaekljapeaaDoorW.PrintMore
attribute [local go_sem] max2_int min2_int max_two min_two max_three min_three max_four min_four   -- for this text's walks alone
set_option linter.unusedVariables false
set_option linter.unusedSimpArgs false
set_option linter.unusedSectionVars false
section
section
variable {w0 w : World} {gt gf : Nat} {s : SV} {p : PS} {i : S44} {A7 : Option Addr} {c7 : Nat} {A8 : Option Addr} {c8 : Nat} {xs : List Int} {A : Option Addr} {c e k nc : Nat} {fc : Array Value} {fr : FP}
theorem XI.map {xs : List Int} (h : XI xs) (l : List Int) : ∀ k ∈ l.map (rd xs), 0 <= k /\ k < 18446744073709551616 := by
 intro k hk
 obtain ⟨r, _, rfl⟩ := List.mem_map.1 hk
 exact h r
theorem topI_lt (nm : ByteArray) : topI nm < 2 := by unfold topI; split <;> (try split) <;> omega
theorem act_mem (h : StI w0 gt gf w s p) (hx : XR w0 w s (.slice A xs.length c) xs) (hI : InI w0 i A7 A8 c8 xs.length) (hR : FrI w0 w fc fr) (hF : InsF xs.length fr.sizes.length nc i) (hP : PI e k p) (hk : k <= 400) (he : e <= 2) (hX : XI xs) (hf : FI fr) (hsl : fr.sizes.length <= 10) (hn4 : R64 i.f4)
  (hT : ∀ W, Below w0.heap.size w0 W -> Calls Tryd.prog 36 #[unV gt gf, .string i.f6] W fun e w' => e = .returned (.int .i64 (topI i.f6)) /\ Below W.heap.size W w') (ht0 : i.f0 = 30 -> 0 <= topI i.f6)
  (hop : 30 <= i.f0 /\ i.f0 <= 41) :
  Calls Tryd.prog 57 #[.agg s.cs, .agg fc, .agg (icOf i A7 c7 A8 c8), .slice A xs.length c] w (MPost w0 gt gf w s (actI p fr i xs).1 (.slice A xs.length c) (actX p fr i xs)) := by
 have hop : i.f0 = 30 ∨ i.f0 = 31 ∨ i.f0 = 32 ∨ i.f0 = 33 ∨ i.f0 = 34 ∨ i.f0 = 35 ∨ i.f0 = 36 ∨ i.f0 = 37 ∨ i.f0 = 38 ∨ i.f0 = 39 ∨ i.f0 = 40 ∨ i.f0 = 41 := by omega
 have hml := hP.mem
 have hll := hP.L
 have hlk := hP.locks
 have hbk := hP.blocks
 have hch := hP.checks
 have hsc := h.num.checks
 have hn31 : (i.f0 = 31 ∨ i.f0 = 39) -> 0 <= i.f4 /\ i.f4 < fr.slots.length := fun e => ⟨hn4.1, by
  have h1 := hF.n31 e
  have h2 : IntKind.u64.wrap (fr.sizes.length : Int) = (fr.sizes.length : Int) := by rw [IntKind.wrap_u64]; omega
  rw [h2] at h1
  rw [hR.len]
  exact h1⟩
 unfold actX actI
 rcases hop with e0 | e0 | e0 | e0 | e0 | e0 | e0 | e0 | e0 | e0 | e0 | e0
 ·obtain ⟨d, hd, hdl⟩ := hF.d (by rw [e0]; rfl)
  rw [lvW_one (by rw [e0]; rfl) hd, e0]
  show Calls _ _ _ _ (MPost w0 gt gf w s p _ (wrL xs [(d : Int)] [IntKind.u64.wrap (rd p.tops (topI i.f6))]))
  rw [wrL_one]
  exact mem30 w0 gt gf w s p i A7 c7 A8 c8 xs A c fc fr h hx hI hR e0 d hd hdl hT (ht0 e0) (by rw [hP.tops]; exact topI_lt _)
 ·obtain ⟨d, hd, hdl⟩ := hF.d (by rw [e0]; rfl)
  rw [lvW_one (by rw [e0]; rfl) hd, e0]
  show Calls _ _ _ _ (MPost w0 gt gf w s p _ (wrL xs [(d : Int)] [IntKind.u64.wrap (rd fr.slots i.f4)]))
  rw [wrL_one]
  have hn := hn31 (.inl e0)
  exact mem31 w0 gt gf w s p i A7 c7 A8 c8 xs A c fc fr h hx hI hR e0 d hd hdl hn.1 hn.2
 ·obtain ⟨d, hd, hdl⟩ := hF.d (by rw [e0]; rfl)
  rw [lvW_one (by rw [e0]; rfl) hd, e0]
  show Calls _ _ _ _ (MPost w0 gt gf w s p _ (wrL xs [(d : Int)] [fr.lock]))
  rw [wrL_one]
  exact mem32 w0 gt gf w s p i A7 c7 A8 c8 xs A c fc fr h hx hI hR d e0 hd hdl hf.lock
 ·obtain ⟨d, hd, hdl⟩ := hF.d (by rw [e0]; rfl)
  rw [lvW_one (by rw [e0]; rfl) hd, e0]
  show Calls _ _ _ _ (MPost w0 gt gf w s p _ (wrL xs [(d : Int)] [fr.key]))
  rw [wrL_one]
  exact mem33 w0 gt gf w s p i A7 c7 A8 c8 xs A c fc fr h hx hI hR e0 d hd hdl
 ·rw [e0]
  show Calls _ _ _ _ (MPost w0 gt gf w s (chkP p i.f5 (i.f7.map (rd xs))) _ (wrL xs (lvWrites i) []))
  rw [wrL_nil]
  have h7 := hF.l7
  rw [e0, show liA 34 = 5 from rfl] at h7
  have h5 := hF.s34 e0
  exact mem34 w0 gt gf w s p i A7 c7 A8 c8 xs A c fc fr h hx hI hR e0 (by omega) (hX.map _) (by omega) (by omega) (by omega) (by omega) h5.2
 ·obtain ⟨d, hd, hdl⟩ := hF.d (by rw [e0]; rfl)
  obtain ⟨a, ha, hal⟩ := hF.a (by rw [e0]; rfl)
  rw [lvW_one (by rw [e0]; rfl) hd, e0, ha]
  have e1 : wrL xs [(d : Int)] (if placeB (rd xs (a : Int)) i.f5 = true then [narI (ldI p.mem (rd xs (a : Int)) i.f5.toNat 0) (8 * i.f5.toNat)] else []) = ldX p xs d i.f5 (rd xs (a : Int)) := by
   unfold ldX
   split
   ·exact wrL_one _ _ _
   ·rfl
  show Calls _ _ _ _ (MPost w0 gt gf w s (ldP p i.f5 (rd xs (a : Int))) _ (wrL xs [(d : Int)] (if placeB (rd xs (a : Int)) i.f5 = true then [narI (ldI p.mem (rd xs (a : Int)) i.f5.toNat 0) (8 * i.f5.toNat)] else [])))
  rw [e1]
  exact mem35 w0 gt gf w s p i A7 c7 A8 c8 xs A c fc fr h hx hI hR e0 d hd hdl a ha hal (hF.sz (.inr (.inl e0))) (hX _).1 (by omega)
 ·obtain ⟨a, ha, hal⟩ := hF.a (by rw [e0]; rfl)
  obtain ⟨b, hb, hbl⟩ := hF.b (by rw [e0]; rfl)
  rw [e0, ha, hb]
  show Calls _ _ _ _ (MPost w0 gt gf w s (stP p i.f5 (rd xs (a : Int)) (rd xs (b : Int))) _ (wrL xs (lvWrites i) []))
  rw [wrL_nil]
  exact mem36 w0 gt gf w s p i A7 c7 A8 c8 xs A c fc fr h hx hI hR e0 a ha hal b hb hbl (hF.sz (.inr (.inr e0))) (hX _).1 (by omega) (hX _).1
 ·obtain ⟨a, ha, hal⟩ := hF.a (by rw [e0]; rfl)
  rw [lvW_outs (by rw [e0]; rfl), e0, ha]
  have h8 := hF.l8
  rw [e0, show liO 37 = 4 from rfl] at h8
  exact mem37 w0 gt gf w s p i A7 c7 A8 c8 xs A c fc fr h hx hI hR e0 a ha hal (by omega) (by omega)
 ·obtain ⟨a, ha, hal⟩ := hF.a (by rw [e0]; rfl)
  rw [e0, ha]
  show Calls _ _ _ _ (MPost w0 gt gf w s { p with L := p.L ++ [⟨rd xs (a : Int), vsl (i.f7.map (rd xs)) 0, vsl (i.f7.map (rd xs)) 1, vsl (i.f7.map (rd xs)) 2, vsl (i.f7.map (rd xs)) 3⟩] } _ (wrL xs (lvWrites i) []))
  rw [wrL_nil]
  have h7 := hF.l7
  rw [e0, show liA 38 = 4 from rfl] at h7
  exact mem38 w0 gt gf w s p i A7 c7 A8 c8 xs A c fc fr h hx hI hR e0 a ha hal (by omega) (by omega)
 ·rw [e0]
  show Calls _ _ _ _ (MPost w0 gt gf w s (zrP p (rd fr.slots i.f4) (rd fr.sizes i.f4)) _ (wrL xs (lvWrites i) []))
  rw [wrL_nil]
  have hn := hn31 (.inr e0)
  exact mem39 w0 gt gf w s p i A7 c7 A8 c8 xs A c fc fr h hx hI hR e0 hn.1 hn.2 (hf.slots _ hn.1 hn.2) (by omega) (by omega)
 ·obtain ⟨a, ha, hal⟩ := hF.a (by rw [e0]; rfl)
  rw [lvW_outs (by rw [e0]; rfl), e0, ha]
  have h8 := hF.l8
  rw [e0, show liO 40 = 5 from rfl] at h8
  have e1 : wrL xs i.f8 (if alB p (rd xs (a : Int)) = true then [] else alV p (rd xs (a : Int))) = alX p xs i.f8 (rd xs (a : Int)) := by
   unfold alX
   split
   ·exact wrL_nil _ _
   ·rfl
  show Calls _ _ _ _ (MPost w0 gt gf w s (alP p (rd xs (a : Int))) _ (wrL xs i.f8 (if alB p (rd xs (a : Int)) = true then [] else alV p (rd xs (a : Int)))))
  rw [e1]
  have hfr := hP.free
  have hky := hP.keys
  exact mem40 w0 gt gf w s p i A7 c7 A8 c8 xs A c fc fr h hx hI hR e0 a ha hal (hX _).1 (by omega) (by omega) (by omega) (by omega) (by omega)
 ·rw [e0]
  show Calls _ _ _ _ (MPost w0 gt gf w s (frP p (i.f7.map (rd xs))) _ (wrL xs (lvWrites i) []))
  rw [wrL_nil]
  have h7 := hF.l7
  rw [e0, show liA 41 = 5 from rfl] at h7
  exact mem41 w0 gt gf w s p i A7 c7 A8 c8 xs A c fc fr h hx hI hR e0 (by omega) (hX.map _) (by omega) (by omega)
end
end
theorem nar_rg {a : Int} (h : R64 a) (n : Nat) : R64 (narI a n) := by
 unfold narI
 split
 ·exact h
 ·split
  ·exact wrap_rng _
  ·have := powW_rng n
   refine ⟨?_, ?_⟩
   ·rcases Int.lt_or_eq_of_le this.1 with h1 | h1
    ·exact Int.emod_nonneg _ (by omega)
    ·rw [<- h1, Int.emod_zero]; exact h.1
   ·rcases Int.lt_or_eq_of_le this.1 with h1 | h1
    ·have := Int.emod_lt_of_pos a h1; omega
    ·rw [<- h1, Int.emod_zero]; exact h.2
theorem ldI_rng (mem : List Int) (at_ : Int) : ∀ (k : Nat) (n : Int), R64 n -> R64 (ldI mem at_ k n)
 | 0, _, h => h
 | k + 1, n, _ => ldI_rng mem at_ k _ (wrap_rng _)
theorem putL_len (mm : List Int) (i : Nat) (b : Int) : (putL mm i b).length = max mm.length (i + 1) := by
 unfold putL padL
 simp
 omega
theorem stI_len (q : Nat) : ∀ (r k : Nat) (n : Int) (l : List Int) (B : Nat), l.length <= B -> q + k + r <= B -> (stI q r k n l).length <= B
 | 0, _, _, _, _, h, _ => h
 | r + 1, k, n, l, B, h, h2 => stI_len q r (k + 1) _ _ B (by rw [putL_len]; omega) (by omega)
theorem zrI_len : ∀ (r i : Nat) (l : List Int) (B : Nat), l.length <= B -> i + r <= B -> (zrI r i l).length <= B
 | 0, _, _, _, h, _ => h
 | r + 1, i, l, B, h, h2 => zrI_len r (i + 1) _ B (by split; exact h; rw [putL_len]; omega) (by omega)
theorem shV_rng {L : List S139} (h : ∀ x ∈ L, R64 x.f1 /\ R64 x.f2 /\ R64 x.f3 /\ R64 x.f4) (a : Int) : ∀ n, n <= L.length -> R64 (shV L a n).f1 /\ R64 (shV L a n).f2 /\ R64 (shV L a n).f3 /\ R64 (shV L a n).f4
 | 0, _ => by unfold shV; exact ⟨⟨by decide, by decide⟩, ⟨by decide, by decide⟩, ⟨by decide, by decide⟩, ⟨by decide, by decide⟩⟩
 | n + 1, hn => by
  unfold shV
  split
  ·rw [List.getD_eq_getElem?_getD, List.getElem?_eq_getElem (by omega)]
   exact h _ (List.getElem_mem _)
  ·exact shV_rng h a n (by omega)
theorem PI.up {e k : Nat} {p : PS} (h : PI e k p) : PI e (k + 1) p := by
 obtain ⟨h1, h2, h3, h4, h5, h6, h7, h8, h9, h10, h11, h12⟩ := h
 exact ⟨h1, h2, by omega, h4, by omega, by omega, by omega, by omega, h9, by omega, h11, h12⟩
theorem PI.stopped {e k : Nat} {p : PS} (h : PI e k p) (how : Int) : PI e k (p.stopped how) := ⟨h.1, h.2, h.3, h.4, h.5, h.6, h.7, h.8, h.9, h.10, h.11, h.12⟩
theorem vsl_rng {vs : List Int} (h : ∀ k ∈ vs, 0 <= k /\ k < 18446744073709551616) (k : Nat) : R64 (vsl vs k) := by
 unfold vsl
 rw [List.getD_eq_getElem?_getD]
 by_cases hk : k < vs.length
 ·rw [List.getElem?_eq_getElem hk]
  exact h _ (List.getElem_mem _)
 ·rw [List.getElem?_eq_none (by omega)]
  exact ⟨by decide, by decide⟩
theorem up_bd {n : Int} (h0 : 0 <= n) : n <= upI n /\ upI n <= n + 15 /\ (n <= 2097152 -> upI n <= 2097152) := by unfold upI; omega
structure ActP (e k : Nat) (p : PS) (r : PS × List Int) : Prop where
 pi : PI e k r.1
 rng : ∀ v ∈ r.2, R64 v
 steps : r.1.steps = p.steps
theorem ActP.mk1 {e k : Nat} {p : PS} (h : PI e k p) {v : Int} (hv : R64 v) : ActP e (k + 1) p (p, [v]) := ⟨h.up, fun x hx => by obtain rfl := List.mem_singleton.1 hx; exact hv, rfl⟩
theorem ActP.mk0 {e k : Nat} {p p' : PS} (h : PI e (k + 1) p') (hs : p'.steps = p.steps) : ActP e (k + 1) p (p', []) := ⟨h, fun x hx => absurd hx List.not_mem_nil, hs⟩
theorem act_pi {e k nc : Nat} {p : PS} {i : S44} {xs : List Int} {fr : FP} (hF : InsF xs.length fr.sizes.length nc i) (hP : PI e k p) (hk : e + k <= 10000) (hX : XI xs) (hf : FI fr) (hsl : fr.sizes.length <= 10) (hlen : fr.slots.length = fr.sizes.length) (hn4 : R64 i.f4) : ActP e (k + 1) p (actI p fr i xs) := by
 unfold actI actP
 have hz : R64 0 := ⟨by decide, by decide⟩
 have hn31 : (i.f0 = 31 ∨ i.f0 = 39) -> 0 <= i.f4 /\ i.f4 < fr.slots.length := fun e => ⟨hn4.1, by
  have h1 := hF.n31 e
  have h2 : IntKind.u64.wrap (fr.sizes.length : Int) = (fr.sizes.length : Int) := by rw [IntKind.wrap_u64]; omega
  rw [h2] at h1
  rw [hlen]
  exact h1⟩
 by_cases e0 : i.f0 = 1
 ·rw [if_pos e0]
  exact .mk1 hP hn4
 rw [if_neg e0]
 clear e0
 by_cases e0 : i.f0 = 2
 ·rw [if_pos e0]
  exact .mk1 hP (hX _)
 rw [if_neg e0]
 clear e0
 by_cases e0 : i.f0 = 3
 ·rw [if_pos e0]
  have hn := hF.n3 e0
  exact .mk1 hP (doV_is (do_all i.f4 _ _ hn.1 hn.2 (hX _) (hX _))).1
 rw [if_neg e0]
 clear e0
 by_cases e0 : i.f0 = 4
 ·rw [if_pos e0]
  exact .mk1 hP (nar_rg (hX _) _)
 rw [if_neg e0]
 clear e0
 by_cases e0 : i.f0 = 20
 ·rw [if_pos e0]
  have hQ := hP.up
  exact .mk0 ⟨hQ.1, hQ.2, hQ.3, hQ.4, hQ.5, hQ.6, hQ.7, by have := hP.out; simp; omega, hQ.9, hQ.10, hQ.11, hQ.12⟩ rfl
 rw [if_neg e0]
 clear e0
 by_cases e0 : i.f0 = 21
 ·rw [if_pos e0]
  cases p.input with
  | nil => exact .mk1 hP ⟨by decide, by decide⟩
  | cons b inp =>
   have hQ := hP.up
   exact ⟨⟨hQ.1, hQ.2, hQ.3, hQ.4, hQ.5, hQ.6, hQ.7, hQ.8, hQ.9, hQ.10, hQ.11, hQ.12⟩, fun x hx => by obtain rfl := List.mem_singleton.1 hx; exact wrap_rng _, rfl⟩
 rw [if_neg e0]
 clear e0
 by_cases e0 : i.f0 = 22
 ·rw [if_pos e0]
  have hQ := hP.up
  exact .mk0 (PI.stopped (p := { p with code := by8 (rd xs i.f2) }) ⟨hQ.1, hQ.2, hQ.3, hQ.4, hQ.5, hQ.6, hQ.7, hQ.8, hQ.9, hQ.10, hQ.11, hQ.12⟩ 1) rfl
 rw [if_neg e0]
 clear e0
 by_cases e0 : i.f0 = 30
 ·rw [if_pos e0]
  exact .mk1 hP (wrap_rng _)
 rw [if_neg e0]
 clear e0
 by_cases e0 : i.f0 = 31
 ·rw [if_pos e0]
  exact .mk1 hP (wrap_rng _)
 rw [if_neg e0]
 clear e0
 by_cases e0 : i.f0 = 32
 ·rw [if_pos e0]
  have := hf.lock
  exact .mk1 hP ⟨this.1, by omega⟩
 rw [if_neg e0]
 clear e0
 by_cases e0 : i.f0 = 33
 ·rw [if_pos e0]
  exact .mk1 hP hf.key
 rw [if_neg e0]
 clear e0
 by_cases e0 : i.f0 = 34
 ·rw [if_pos e0]
  have hQ := hP.up
  have hc := hP.checks
  have hR : PI e (k + 1) ({ p with checks := p.checks + 1 } : PS) := ⟨hQ.1, hQ.2, hQ.3, hQ.4, hQ.5, hQ.6, hQ.7, hQ.8, hQ.9, by constructor <;> (show _ <= _) <;> (try simp) <;> omega, hQ.11, hQ.12⟩
  refine .mk0 ?_ ?_
  ·unfold chkP
   split
   ·exact hR.stopped 2
   ·exact hR
  ·unfold chkP
   split <;> rfl
 rw [if_neg e0]
 clear e0
 by_cases e0 : i.f0 = 35
 ·rw [if_pos e0]
  refine ⟨?_, ?_, ?_⟩
  ·show PI e (k + 1) (ldP _ _ _)
   unfold ldP
   split
   ·exact hP.up
   ·exact hP.up.stopped 4
  ·intro v hv
   dsimp only at hv
   split at hv
   ·obtain rfl := List.mem_singleton.1 hv
    exact nar_rg (ldI_rng _ _ _ _ hz) _
   ·cases hv
  ·show (ldP _ _ _).steps = _
   unfold ldP
   split <;> rfl
 rw [if_neg e0]
 clear e0
 by_cases e0 : i.f0 = 36
 ·rw [if_pos e0]
  have hsz := hF.sz (.inr (.inr e0))
  refine .mk0 ?_ ?_
  ·unfold stP
   split
   ·rename_i hpl
    have hp := placeB_is hpl
    have hQ := hP.up
    exact ⟨hQ.1, stI_len _ _ _ _ _ _ hP.mem (by omega), hQ.3, hQ.4, hQ.5, hQ.6, hQ.7, hQ.8, hQ.9, hQ.10, hQ.11, hQ.12⟩
   ·exact hP.up.stopped 4
  ·unfold stP
   split <;> rfl
 rw [if_neg e0]
 clear e0
 by_cases e0 : i.f0 = 37
 ·rw [if_pos e0]
  have hs := shV_rng hP.Lr (rd xs i.f2) p.L.length (Nat.le_refl _)
  refine ⟨hP.up, fun v hv => ?_, rfl⟩
  simp only [List.mem_cons, List.not_mem_nil, or_false] at hv
  rcases hv with rfl | rfl | rfl | rfl
  ·exact hs.1
  ·exact hs.2.1
  ·exact hs.2.2.1
  ·exact hs.2.2.2
 rw [if_neg e0]
 clear e0
 by_cases e0 : i.f0 = 38
 ·rw [if_pos e0]
  have hQ := hP.up
  have hv := hX.map i.f7
  refine .mk0 ⟨hQ.1, hQ.2, by have := hP.L; simp; omega, fun x hx => ?_, hQ.5, hQ.6, hQ.7, hQ.8, hQ.9, hQ.10, hQ.11, hQ.12⟩ rfl
  rcases List.mem_append.1 hx with hx | hx
  ·exact hP.Lr x hx
  ·obtain rfl := List.mem_singleton.1 hx
   exact ⟨vsl_rng hv 0, vsl_rng hv 1, vsl_rng hv 2, vsl_rng hv 3⟩
 rw [if_neg e0]
 clear e0
 by_cases e0 : i.f0 = 39
 ·rw [if_pos e0]
  have hn := hn31 (.inr e0)
  have hs := hf.slots _ hn.1 hn.2
  have hQ := hP.up
  refine .mk0 ⟨hQ.1, zrI_len _ _ _ _ hP.mem (by omega), Nat.le_trans (List.length_filter_le _ _) hQ.3, fun x hx => hP.Lr x (List.mem_filter.1 hx).1, hQ.5, hQ.6, hQ.7, hQ.8, hQ.9, hQ.10, hQ.11, hQ.12⟩ rfl
 rw [if_neg e0]
 clear e0
 by_cases e0 : i.f0 = 40
 ·rw [if_pos e0]
  have hQ := hP.up
  have hky := hP.keys
  have hfr := hP.free
  have hlk := hP.locks
  have hbk := hP.blocks
  have ha := hX i.f2
  cases hb : alB p (rd xs i.f2) with
  | true =>
   unfold alP
   rw [hb, if_pos rfl, if_pos rfl]
   exact .mk0 (hQ.stopped 3) rfl
  | false =>
   have hb2 := hb
   unfold alB at hb2
   simp only [Bool.or_eq_false_iff, decide_eq_false_iff_not] at hb2
   have hu := up_bd (n := p.free + rd xs i.f2) (by omega)
   unfold alP
   rw [hb, if_neg (by decide), if_neg (by decide)]
   refine ⟨⟨hQ.1, hQ.2, hQ.3, hQ.4, by simp; omega, by constructor <;> (show _ <= _) <;> (try simp) <;> omega, by simp; omega, hQ.8, by constructor <;> (show _ <= _) <;> (try simp) <;> omega, hQ.10, hQ.11, hQ.12⟩, fun v hv => ?_, rfl⟩
   unfold alV at hv
   simp only [List.mem_cons, List.not_mem_nil, or_false] at hv
   rcases hv with rfl | rfl | rfl | rfl | rfl <;> exact ⟨by omega, by omega⟩
 rw [if_neg e0]
 clear e0
 by_cases e0 : i.f0 = 41
 ·rw [if_pos e0]
  have hQ := hP.up
  have hbk := hP.blocks
  refine .mk0 ?_ ?_
  ·unfold frP
   split
   ·exact hQ.stopped 2
   ·split
    ·exact hQ.stopped 2
    ·exact ⟨hQ.1, hQ.2, hQ.3, hQ.4, by have := hP.locks; simp; omega, hQ.6, by simp; omega, hQ.8, hQ.9, hQ.10, hQ.11, hQ.12⟩
  ·unfold frP
   split
   ·rfl
   ·split <;> rfl
 rw [if_neg e0]
 exact .mk0 hP.up rfl
def entP (sizes : List Int) (p : PS) : (PS × FP) × Bool :=
 if (slG sizes p.top []).2.2 = false then ((({ p with top := (slG sizes p.top []).2.1 } : PS).stopped 3, ⟨[], sizes, 0, 0⟩), false)
 else if 0 < sizes.length then (({ p with top := (slG sizes p.top []).2.1, keys := p.keys + 1, locks := p.locks ++ [p.keys + 1] }, ⟨(slG sizes p.top []).1, sizes, (p.locks.length : Int), p.keys + 1⟩), true)
 else (({ p with top := (slG sizes p.top []).2.1 }, ⟨(slG sizes p.top []).1, sizes, 0, 0⟩), true)
def retP (p : PS) (fr : FP) (was : Int) : PS := { p with locks := if 0 < fr.lock then p.locks.set fr.lock.toNat 0 else p.locks, top := was }
def tick (p : PS) : PS := { p with steps := p.steps + 1 }
noncomputable def loopP (nk : Nat) (sizes : List Int) (code : List S44) : Nat -> PS -> FP -> Int -> List Int -> Int -> PS × List Int
 | 0, p, _, _, _, _ => (p.stopped 0, [])
 | m + 1, p, fr, was, xs, at_ =>
  if ¬ p.stop < 0 then (p, [])
  else if p.fuel <= p.steps then (p.stopped 0, [])
  else if (rd_T44 code at_).f0 = 43 then (retP (tick p) fr was, (rd_T44 code at_).f7.map (rd xs))
  else if (rd_T44 code at_).f0 = 18 then loopP nk sizes code m (tick p) fr was xs (rd_T44 code at_).f9
  else if (rd_T44 code at_).f0 = 19 then loopP nk sizes code m (tick p) fr was xs (if rd xs (rd_T44 code at_).f2 = 0 then at_ + 1 else (rd_T44 code at_).f9)
  else if (rd_T44 code at_).f0 = 42 then
   if (entP sizes (tick p)).2 = false then ((entP sizes (tick p)).1.1, [])
   else if (loopP nk sizes code m (entP sizes (tick p)).1.1 (entP sizes (tick p)).1.2 p.top (List.replicate nk 0) 0).1.stop < 0 then
    loopP nk sizes code m (loopP nk sizes code m (entP sizes (tick p)).1.1 (entP sizes (tick p)).1.2 p.top (List.replicate nk 0) 0).1 fr was (wrL xs (rd_T44 code at_).f8 (loopP nk sizes code m (entP sizes (tick p)).1.1 (entP sizes (tick p)).1.2 p.top (List.replicate nk 0) 0).2) (at_ + 1)
   else ((loopP nk sizes code m (entP sizes (tick p)).1.1 (entP sizes (tick p)).1.2 p.top (List.replicate nk 0) 0).1, [])
  else loopP nk sizes code m (actI (tick p) fr (rd_T44 code at_) xs).1 fr was (actX (tick p) fr (rd_T44 code at_) xs) (at_ + 1)
section
theorem XI.wr : ∀ {ds vs xs : List Int}, XI xs -> (∀ v ∈ vs, R64 v) -> XI (wrL xs ds vs)
 | [], _, _, h, _ => h
 | _ :: _, [], _, h, _ => h
 | d :: ds, v :: vs, xs, h, hv => by
  refine XI.wr (ds := ds) (vs := vs) (xs := xs.set d.toNat v) (fun r => ?_) (fun x hx => hv x (List.mem_cons_of_mem _ hx))
  have e : rd (xs.set d.toNat v) r = if d.toNat = r.toNat /\ d.toNat < xs.length then v else rd xs r := by
   unfold rd
   rw [List.getD_eq_getElem?_getD, List.getD_eq_getElem?_getD, List.getElem?_set]
   by_cases c : d.toNat = r.toNat
   ·rw [if_pos c]
    by_cases c2 : d.toNat < xs.length
    ·rw [if_pos c2, if_pos ⟨c, c2⟩]; rfl
    ·rw [if_neg c2, if_neg (fun h => c2 h.2), List.getElem?_eq_none (by omega)]
   ·rw [if_neg c, if_neg (fun h => c h.1)]
  rw [e]
  split
  ·exact hv v List.mem_cons_self
  ·exact h r
theorem act_lk (p : PS) (fr : FP) (i : S44) (xs : List Int) : p.locks.length <= (actI p fr i xs).1.locks.length := by
 unfold actI actP
 by_cases e0 : i.f0 = 1
 ·rw [if_pos e0]
  exact Nat.le_refl _
 rw [if_neg e0]
 clear e0
 by_cases e0 : i.f0 = 2
 ·rw [if_pos e0]
  exact Nat.le_refl _
 rw [if_neg e0]
 clear e0
 by_cases e0 : i.f0 = 3
 ·rw [if_pos e0]
  exact Nat.le_refl _
 rw [if_neg e0]
 clear e0
 by_cases e0 : i.f0 = 4
 ·rw [if_pos e0]
  exact Nat.le_refl _
 rw [if_neg e0]
 clear e0
 by_cases e0 : i.f0 = 20
 ·rw [if_pos e0]
  exact Nat.le_refl _
 rw [if_neg e0]
 clear e0
 by_cases e0 : i.f0 = 21
 ·rw [if_pos e0]
  cases p.input <;> exact Nat.le_refl _
 rw [if_neg e0]
 clear e0
 by_cases e0 : i.f0 = 22
 ·rw [if_pos e0]
  exact Nat.le_refl _
 rw [if_neg e0]
 clear e0
 by_cases e0 : i.f0 = 30
 ·rw [if_pos e0]
  exact Nat.le_refl _
 rw [if_neg e0]
 clear e0
 by_cases e0 : i.f0 = 31
 ·rw [if_pos e0]
  exact Nat.le_refl _
 rw [if_neg e0]
 clear e0
 by_cases e0 : i.f0 = 32
 ·rw [if_pos e0]
  exact Nat.le_refl _
 rw [if_neg e0]
 clear e0
 by_cases e0 : i.f0 = 33
 ·rw [if_pos e0]
  exact Nat.le_refl _
 rw [if_neg e0]
 clear e0
 by_cases e0 : i.f0 = 34
 ·rw [if_pos e0]
  show _ <= (chkP _ _ _).locks.length
  unfold chkP
  split <;> exact Nat.le_refl _
 rw [if_neg e0]
 clear e0
 by_cases e0 : i.f0 = 35
 ·rw [if_pos e0]
  show _ <= (ldP _ _ _).locks.length
  unfold ldP
  split <;> exact Nat.le_refl _
 rw [if_neg e0]
 clear e0
 by_cases e0 : i.f0 = 36
 ·rw [if_pos e0]
  show _ <= (stP _ _ _ _).locks.length
  unfold stP
  split <;> exact Nat.le_refl _
 rw [if_neg e0]
 clear e0
 by_cases e0 : i.f0 = 37
 ·rw [if_pos e0]
  exact Nat.le_refl _
 rw [if_neg e0]
 clear e0
 by_cases e0 : i.f0 = 38
 ·rw [if_pos e0]
  exact Nat.le_refl _
 rw [if_neg e0]
 clear e0
 by_cases e0 : i.f0 = 39
 ·rw [if_pos e0]
  exact Nat.le_refl _
 rw [if_neg e0]
 clear e0
 by_cases e0 : i.f0 = 40
 ·rw [if_pos e0]
  show _ <= (alP _ _).locks.length
  unfold alP
  split
  (exact Nat.le_refl _)
  simp
 rw [if_neg e0]
 clear e0
 by_cases e0 : i.f0 = 41
 ·rw [if_pos e0]
  show _ <= (frP _ _).locks.length
  unfold frP
  split
  (exact Nat.le_refl _)
  split
  (exact Nat.le_refl _)
  simp
 rw [if_neg e0]
 clear e0
 exact Nat.le_refl _
theorem PI.mono {e e2 k : Nat} {p : PS} (h : PI e k p) (he : e <= e2) : PI e2 k p := ⟨h.1, h.2, h.3, h.4, by have := h.locks; omega, by have := h.keys; omega, h.7, h.8, h.9, h.10, h.11, h.12⟩
theorem PI.tick {e k : Nat} {p : PS} (h : PI (e + 1) k p) : PI e (k + 1) (tick p) :=
 ⟨h.1, h.2, Nat.le_succ_of_le h.3, h.4, by have := h.locks; show p.locks.length <= _; omega, by have := h.keys; show 0 <= p.keys /\ p.keys <= _; omega, Nat.le_succ_of_le h.7, Nat.le_succ_of_le h.8, h.9, by have := h.checks; show 0 <= p.checks /\ p.checks <= _; omega, h.11, h.12⟩
def SzI (sizes : List Int) : Prop := sizes.length <= 10 /\ ∀ n ∈ sizes, 1 <= n /\ n <= 65536
theorem slG_is : ∀ (sizes : List Int) (top : Int) (acc : List Int), 4096 <= top -> top <= 4194304 -> (∀ n ∈ sizes, 1 <= n /\ n <= 65536) -> (slG sizes top acc).2.2 = true →
  4096 <= (slG sizes top acc).2.1 /\ (slG sizes top acc).2.1 <= 4194304 /\ ∃ l : List Int, (slG sizes top acc).1 = acc ++ l /\ l.length = sizes.length /\ ∀ j : Nat, j < l.length -> 4096 <= l.getD j 0 /\ 0 <= sizes.getD j 0 /\ l.getD j 0 + sizes.getD j 0 <= 4194304
 | [], top, acc, h0, h1, _, _ => ⟨h0, h1, [], by simp [slG], rfl, fun j hj => by simp at hj⟩
 | n :: r, top, acc, h0, h1, hs, h => by
  have hn := hs n List.mem_cons_self
  have hu := upI_bd (n := top) (by omega)
  unfold slG at h ⊢
  by_cases c : 4194304 < upI top + n
  ·rw [if_pos c] at h
   cases h
  ·rw [if_neg c] at h ⊢
   obtain ⟨g1, g2, l, g3, g4, g5⟩ := slG_is r (upI top + n) (acc ++ [upI top]) (by omega) (by omega) (fun x hx => hs x (List.mem_cons_of_mem _ hx)) h
   refine ⟨g1, g2, upI top :: l, by rw [g3]; simp, by simp [g4], fun j hj => ?_⟩
   cases j with
   | zero => exact ⟨by show 4096 <= upI top; omega, by show 0 <= n; omega, by show upI top + n <= _; omega⟩
   | succ j => exact g5 j (by simpa using hj)
structure EntI (sizes : List Int) (p p' : PS) (fr : FP) : Prop where
 fi : FI fr
 sz : fr.sizes = sizes
 len : fr.slots.length = fr.sizes.length
 lk : fr.lock < p'.locks.length
 mono : p.locks.length <= p'.locks.length
 steps : p'.steps = p.steps
 stop : p'.stop = p.stop
theorem ent_is {sizes : List Int} (hs : SzI sizes) {k : Nat} {p : PS} (h : PI 1 k p) (hk : k <= 1000) (hl : 0 < p.locks.length) (he : (entP sizes p).2 ≠ false) : PI 2 k (entP sizes p).1.1 /\ EntI sizes p (entP sizes p).1.1 (entP sizes p).1.2 := by
 have hsl : (slG sizes p.top []).2.2 = true := by
  cases c : (slG sizes p.top []).2.2 with
  | true => rfl
  | false =>
   unfold entP at he
   rw [c, if_pos rfl] at he
   exact absurd rfl he
 obtain ⟨g1, g2, l, g3, g4, g5⟩ := slG_is sizes p.top [] h.top.1 h.top.2 hs.2 hsl
 rw [List.nil_append] at g3
 have hky := h.keys
 have hlk := h.locks
 have hslots : ∀ n : Int, 0 <= n -> n < l.length -> 4096 <= rd l n /\ 0 <= rd sizes n /\ rd l n + rd sizes n <= 4194304 := fun n h0 h1 => g5 n.toNat (by omega)
 unfold entP
 rw [hsl, if_neg (by decide)]
 by_cases c : 0 < sizes.length
 ·rw [if_pos c]
  refine ⟨⟨h.1, h.2, h.3, h.4, by simp; omega, by show 0 <= p.keys + 1 /\ p.keys + 1 <= _; omega, h.7, h.8, h.9, h.10, ⟨g1, g2⟩, h.12⟩, ⟨⟨?_, ?_, ?_⟩, rfl, ?_, ?_, ?_, rfl, rfl⟩⟩
  ·show 0 <= (p.locks.length : Int) /\ (p.locks.length : Int) < _
   omega
  ·show 0 <= p.keys + 1 /\ p.keys + 1 < _
   omega
  ·show ∀ n : Int, 0 <= n -> n < (slG sizes p.top []).1.length -> _
   rw [g3]
   exact hslots
  ·show (slG sizes p.top []).1.length = _
   rw [g3]
   exact g4
  ·show (p.locks.length : Int) < ((p.locks ++ [p.keys + 1]).length : Nat)
   have : (p.locks ++ [p.keys + 1]).length = p.locks.length + 1 := by simp
   omega
  ·show p.locks.length <= (p.locks ++ [p.keys + 1]).length
   simp
 ·rw [if_neg c]
  refine ⟨PI.mono (e := 1) ⟨h.1, h.2, h.3, h.4, h.5, h.6, h.7, h.8, h.9, h.10, ⟨g1, g2⟩, h.12⟩ (by omega), ⟨⟨?_, ?_, ?_⟩, rfl, ?_, ?_, ?_, rfl, rfl⟩⟩
  ·show (0 : Int) <= 0 /\ (0 : Int) < _
   omega
  ·show (0 : Int) <= 0 /\ (0 : Int) < _
   omega
  ·show ∀ n : Int, 0 <= n -> n < (slG sizes p.top []).1.length -> _
   rw [g3]
   exact hslots
  ·show (slG sizes p.top []).1.length = _
   rw [g3]
   exact g4
  ·show (0 : Int) < (p.locks.length : Nat)
   omega
  ·exact Nat.le_refl _
theorem xi_zero (n : Nat) : XI (List.replicate n 0) := fun r => by
 unfold rd
 rw [List.getD_eq_getElem?_getD, List.getElem?_replicate]
 split <;> exact ⟨by decide, by decide⟩
theorem loop_zero (nk : Nat) (sizes : List Int) (code : List S44) (m : Nat) (p : PS) (fr : FP) (was : Int) (xs : List Int) (at_ : Int) (h : ¬ p.stop < 0) : loopP nk sizes code m p fr was xs at_ = (p, []) := by
 cases m with
 | zero => unfold loopP PS.stopped; rw [if_neg h]
 | succ m => unfold loopP; rw [if_pos h]
theorem act_22 (p : PS) (fr : FP) (i : S44) (xs : List Int) (h : i.f0 = 22) (hs : p.stop < 0) : (actI p fr i xs).1.stop = 1 := by
 unfold actI actP
 rw [h, if_neg (by decide), if_neg (by decide), if_neg (by decide), if_neg (by decide), if_neg (by decide), if_neg (by decide), if_pos rfl]
 unfold PS.stopped
 exact if_pos hs
structure LpI (p : PS) (r : PS × List Int) : Prop where
 lk : p.locks.length <= r.1.locks.length
 ok : r.1.stop < 0 -> ∃ k : Nat, k <= 400 /\ r.1.steps = (k : Int) /\ PI 2 k r.1 /\ (∀ v ∈ r.2, R64 v) /\ p.steps <= (k : Int)
theorem LpI.then_ {p p1 : PS} {r : PS × List Int} (h : LpI p1 r) (hl : p.locks.length <= p1.locks.length) (hs : p.steps <= p1.steps) : LpI p r := ⟨Nat.le_trans hl h.lk, fun e => by
 obtain ⟨k, h1, h2, h3, h4, h5⟩ := h.ok e
 exact ⟨k, h1, h2, h3, h4, Int.le_trans hs h5⟩⟩
theorem LpI.tick {p : PS} {r : PS × List Int} (h : LpI (tick p) r) : LpI p r := h.then_ (Nat.le_refl _) (by show p.steps <= p.steps + 1; omega)
section
variable {nk : Nat} {sizes : List Int} {code : List S44} (hok : CodeOk nk code) (hF : ∀ n, n < code.length -> InsF nk sizes.length code.length (rd_T44 code n)) (h4 : ∀ n, n < code.length -> R64 (rd_T44 code n).f4) (hs : SzI sizes)
include hok hF h4 hs
theorem loop_pi : ∀ (m : Nat) (p : PS) (fr : FP) (was : Int) (xs : List Int) (q k : Nat), q < code.length -> PI 2 k p -> p.steps = (k : Int) -> k <= 400 -> XI xs -> xs.length = nk -> FI fr -> fr.sizes = sizes -> fr.slots.length = fr.sizes.length -> 4096 <= was /\ was <= 4194304 -> 0 < p.locks.length -> LpI p (loopP nk sizes code m p fr was xs q)
 | 0, p, fr, was, xs, q, k, hq, hP, hk, hk4, hX, hx, hf, hsz, hln, hw, hlp => by
  unfold loopP
  refine ⟨Nat.le_refl _, fun h => ?_⟩
  exfalso
  unfold PS.stopped at h
  dsimp only at h
  split at h <;> omega
 | m + 1, p, fr, was, xs, q, k, hq, hP, hk, hk4, hX, hx, hf, hsz, hln, hw, hlp => by
  have hnx := hok.next q hq
  unfold lvNext at hnx
  unfold loopP
  by_cases c0 : ¬ p.stop < 0
  ·rw [if_pos c0]
   exact ⟨Nat.le_refl _, fun h => absurd h c0⟩
  rw [if_neg c0]
  by_cases c1 : p.fuel <= p.steps
  ·rw [if_pos c1]
   refine ⟨Nat.le_refl _, fun h => ?_⟩
   exfalso
   unfold PS.stopped at h
   dsimp only at h
   split at h <;> omega
  rw [if_neg c1]
  have hfu := hP.fuel
  have hT : PI 1 (k + 1) (tick p) := hP.tick
  have hT2 : PI 2 (k + 1) (tick p) := hT.mono (by omega)
  have hst : (tick p).steps = ((k + 1 : Nat) : Int) := by show p.steps + 1 = _; omega
  by_cases c2 : (rd_T44 code q).f0 = 43
  ·rw [if_pos c2]
   refine ⟨?_, fun _ => ⟨k + 1, by omega, hst, ?_, ?_, by omega⟩⟩
   ·show p.locks.length <= (if 0 < fr.lock then _ else _ : List Int).length
    split
    ·rw [List.length_set]; exact Nat.le_refl _
    ·exact Nat.le_refl _
   ·refine ⟨hT2.1, hT2.2, hT2.3, hT2.4, ?_, hT2.6, hT2.7, hT2.8, hT2.9, hT2.10, hw, hT2.12⟩
    show (if 0 < fr.lock then _ else _ : List Int).length <= _
    split
    ·rw [List.length_set]; exact hT2.locks
    ·exact hT2.locks
   ·intro v hv
    obtain ⟨r, _, rfl⟩ := List.mem_map.1 hv
    exact hX r
  rw [if_neg c2]
  by_cases c3 : (rd_T44 code q).f0 = 18
  ·rw [if_pos c3]
   obtain ⟨q', e, hq'⟩ := hnx (rd_T44 code q).f9 (by rw [if_neg (by omega), if_pos c3]; simp)
   rw [e]
   exact (loop_pi m (tick p) fr was xs q' (k + 1) hq' hT2 hst (by omega) hX hx hf hsz hln hw hlp).tick
  rw [if_neg c3]
  by_cases c4 : (rd_T44 code q).f0 = 19
  ·rw [if_pos c4]
   obtain ⟨q', e, hq'⟩ := hnx (rd_T44 code q).f9 (by rw [if_neg (by omega), if_neg c3, if_pos c4]; simp)
   obtain ⟨q2, e2, hq2⟩ := hnx ((q : Int) + 1) (by rw [if_neg (by omega), if_neg c3, if_pos c4]; simp)
   by_cases c : rd xs (rd_T44 code q).f2 = 0
   ·rw [if_pos c, e2]
    exact (loop_pi m (tick p) fr was xs q2 (k + 1) hq2 hT2 hst (by omega) hX hx hf hsz hln hw hlp).tick
   ·rw [if_neg c, e]
    exact (loop_pi m (tick p) fr was xs q' (k + 1) hq' hT2 hst (by omega) hX hx hf hsz hln hw hlp).tick
  rw [if_neg c4]
  by_cases c5 : (rd_T44 code q).f0 = 42
  ·rw [if_pos c5]
   obtain ⟨q2, e2, hq2⟩ := hnx ((q : Int) + 1) (by rw [if_neg (by omega), if_neg c3, if_neg c4]; simp)
   rw [e2]
   by_cases c6 : (entP sizes (tick p)).2 = false
   ·rw [if_pos c6]
    have e7 : (entP sizes (tick p)).1.1.stop = 3 /\ (entP sizes (tick p)).1.1.locks = p.locks := by
     unfold entP at c6 ⊢
     split
     ·refine ⟨?_, rfl⟩
      unfold PS.stopped
      exact if_pos (show p.stop < 0 by omega)
     ·rename_i h7
      rw [if_neg h7] at c6
      split at c6 <;> cases c6
    refine ⟨by show p.locks.length <= (entP sizes (tick p)).1.1.locks.length; rw [e7.2]; exact Nat.le_refl _, fun h => ?_⟩
    exfalso
    have h : (entP sizes (tick p)).1.1.stop < 0 := h
    omega
   rw [if_neg c6]
   obtain ⟨hE, hI⟩ := ent_is hs hT (by omega) hlp c6
   have hin := loop_pi m (entP sizes (tick p)).1.1 (entP sizes (tick p)).1.2 p.top (List.replicate nk 0) 0 (k + 1) hok.pos hE (hI.steps.trans hst) (by omega) (xi_zero _) (by simp) hI.fi hI.sz hI.len hP.top (by have := hI.mono; have : 0 < (tick p).locks.length := hlp; omega)
   have hin' : LpI (entP sizes (tick p)).1.1 (loopP nk sizes code m (entP sizes (tick p)).1.1 (entP sizes (tick p)).1.2 p.top (List.replicate nk 0) 0) := hin
   have hm2 : p.locks.length <= (entP sizes (tick p)).1.1.locks.length := hI.mono
   generalize loopP nk sizes code m (entP sizes (tick p)).1.1 (entP sizes (tick p)).1.2 p.top (List.replicate nk 0) 0 = R at hin' ⊢
   by_cases c7 : R.1.stop < 0
   ·rw [if_pos c7]
    obtain ⟨k', hk', hst', hP', hv', hsk⟩ := hin'.ok c7
    have h9 := loop_pi m R.1 fr was (wrL xs (rd_T44 code q).f8 R.2) q2 k' hq2 hP' hst' hk' (hX.wr hv') (by rw [wrL_len]; exact hx) hf hsz hln hw (by have := hin'.lk; omega)
    exact h9.then_ (by have := hin'.lk; omega) (by have := hI.steps; omega)
   ·rw [if_neg c7]
    exact ⟨by have := hin'.lk; show p.locks.length <= R.1.locks.length; omega, fun h => absurd h c7⟩
  rw [if_neg c5]
  have hT0 : PI 2 k (tick p) := ⟨hP.1, hP.2, hP.3, hP.4, hP.5, hP.6, hP.7, hP.8, hP.9, hP.10, hP.11, hP.12⟩
  have ha := act_pi (k := k) (e := 2) (fr := fr) (p := tick p) (i := rd_T44 code q) (xs := xs) (nc := code.length) (by rw [hx, hsz]; exact hF q hq) hT0 (by omega) hX hf (by rw [hsz]; exact hs.1) hln (h4 q hq)
  have hlk : p.locks.length <= (actI (tick p) fr (rd_T44 code q) xs).1.locks.length := act_lk (tick p) fr (rd_T44 code q) xs
  by_cases c7 : (rd_T44 code q).f0 = 22
  ·have e1 : (actI (tick p) fr (rd_T44 code q) xs).1.stop = 1 := act_22 _ _ _ _ c7 (show p.stop < 0 by omega)
   rw [loop_zero _ _ _ _ _ _ _ _ _ (by omega)]
   exact ⟨hlk, fun h => by have h : (actI (tick p) fr (rd_T44 code q) xs).1.stop < 0 := h; omega⟩
  ·obtain ⟨q2, e2, hq2⟩ := hnx ((q : Int) + 1) (by rw [if_neg (by omega), if_neg c3, if_neg c4]; simp)
   rw [e2]
   have h9 := loop_pi m (actI (tick p) fr (rd_T44 code q) xs).1 fr was (actX (tick p) fr (rd_T44 code q) xs) q2 (k + 1) hq2 ha.pi (ha.steps.trans hst) (by omega) (hX.wr ha.rng) (by unfold actX; rw [wrL_len]; exact hx) hf hsz hln hw (by omega)
   exact h9.then_ (by omega) (by have := ha.steps; omega)
end
end
def loops : Code -> List Code
 | .loop c => [c]
 | .seq a b => loops a ++ loops b
 | .block _ c => loops c
 | .scope c => loops c
 | .cond _ a b => loops a ++ loops b
 | _ => []
noncomputable def body40 : Code := (Tryd.f40.body.bind fun c => (loops c)[1]?).getD .skip
set_option maxRecDepth 20000 in
/-- The loop's frame: what stands in the slots that are told. -/
def Fr40 (b g gx nk : Nat) (was at_ : Int) (u : Nat -> Value) : Act := ⟨#[u 0, u 1, u 2, .pointer (some ⟨b, 0, none⟩), .pointer (some ⟨b + 1, 0, none⟩), u 5, .pointer (some ⟨b + 1 + 1, 0, none⟩), u 7, .slice (some ⟨gx, 0, none⟩) nk nk, .int .i64 was, .pointer (some ⟨g, 0, none⟩), u 11, .int .i64 at_, u 13, u 14, u 15, u 16, u 17, u 18, u 19, u 20, u 21, u 22, u 23, u 24, u 25, u 26, u 27, u 28, u 29, u 30, u 31, u 32, u 33, u 34, u 35, u 36, u 37, u 38, u 39, u 40, u 41, u 42, u 43, u 44, u 45, u 46, u 47, u 48, u 49, u 50, u 51, u 52, u 53, u 54, u 55, u 56, u 57, u 58, u 59, u 60, u 61, u 62, u 63, u 64, u 65, u 66, u 67, u 68, u 69, u 70, u 71, u 72, u 73, u 74, u 75, u 76, u 77, u 78, u 79, u 80, u 81, u 82, u 83, u 84, u 85, u 86, u 87, u 88, u 89, u 90, u 91, u 92, u 93, u 94, u 95, u 96, u 97, u 98, u 99, u 100, u 101, u 102, u 103, u 104, u 105, u 106, u 107, u 108, u 109, u 110, u 111, u 112, u 113, u 114, u 115, u 116, u 117, u 118, u 119, u 120, u 121, u 122, u 123, u 124, u 125, u 126, u 127, u 128, u 129, u 130, u 131, u 132, u 133, u 134, u 135, u 136, u 137, u 138, u 139, u 140, u 141, u 142, u 143, u 144, u 145, u 146, u 147, u 148, u 149, u 150, u 151, u 152, u 153, u 154, u 155, u 156, u 157, u 158, u 159, u 160, u 161, u 162, u 163, u 164, u 165, u 166, u 167, u 168, u 169, u 170], []⟩
def fr40 (b g gx nk : Nat) (was at_ : Int) (u : Nat -> Value) : Nat -> Value := fun k => if k = 3 then .pointer (some ⟨b, 0, none⟩) else if k = 4 then .pointer (some ⟨b + 1, 0, none⟩) else if k = 6 then .pointer (some ⟨b + 1 + 1, 0, none⟩) else if k = 8 then .slice (some ⟨gx, 0, none⟩) nk nk else if k = 9 then .int .i64 was else if k = 10 then .pointer (some ⟨g, 0, none⟩) else if k = 12 then .int .i64 at_ else u k
set_option maxRecDepth 20000 in
theorem fr40_is (b g gx nk : Nat) (was at_ : Int) (u : Nat -> Value) : Fr40 b g gx nk was at_ u = ⟨((List.range 171).map (fr40 b g gx nk was at_ u)).toArray, []⟩ := by kernel_rfl
theorem fr40_of (b g gx nk : Nat) (was at_ : Int) (l : List Value) (hl : l.length = 171) (h3 : l[3]? = some (.pointer (some ⟨b, 0, none⟩))) (h4 : l[4]? = some (.pointer (some ⟨b + 1, 0, none⟩))) (h6 : l[6]? = some (.pointer (some ⟨b + 1 + 1, 0, none⟩))) (h8 : l[8]? = some (.slice (some ⟨gx, 0, none⟩) nk nk)) (h9 : l[9]? = some (.int .i64 was)) (h10 : l[10]? = some (.pointer (some ⟨g, 0, none⟩))) (h12 : l[12]? = some (.int .i64 at_)) : (⟨l.toArray, []⟩ : Act) = Fr40 b g gx nk was at_ (fun k => l.getD k undef) := by
 rw [fr40_is]
 have e : l = (List.range 171).map (fr40 b g gx nk was at_ (fun k => l.getD k undef)) := by
  apply List.ext_getElem?
  intro k
  rw [List.getElem?_map]
  by_cases hk : k < 171
  ·rw [List.getElem?_range hk]
   show l[k]? = some (fr40 b g gx nk was at_ (fun k => l.getD k undef) k)
   unfold fr40
   by_cases c3 : k = 3
   ·rw [if_pos c3, c3]; exact h3
   rw [if_neg c3]
   by_cases c4 : k = 4
   ·rw [if_pos c4, c4]; exact h4
   rw [if_neg c4]
   by_cases c6 : k = 6
   ·rw [if_pos c6, c6]; exact h6
   rw [if_neg c6]
   by_cases c8 : k = 8
   ·rw [if_pos c8, c8]; exact h8
   rw [if_neg c8]
   by_cases c9 : k = 9
   ·rw [if_pos c9, c9]; exact h9
   rw [if_neg c9]
   by_cases c10 : k = 10
   ·rw [if_pos c10, c10]; exact h10
   rw [if_neg c10]
   by_cases c12 : k = 12
   ·rw [if_pos c12, c12]; exact h12
   rw [if_neg c12]
   show l[k]? = some (l.getD k undef)
   rw [List.getD_eq_getElem?_getD, List.getElem?_eq_getElem (by omega)]
   rfl
  ·rw [List.getElem?_eq_none (by omega), List.getElem?_eq_none (by rw [List.length_range]; omega)]
   rfl
 exact congrArg (fun x : List Value => (⟨x.toArray, []⟩ : Act)) e
structure SI (w0 : World) (gt gf : Nat) (f : Fr4) : Prop where
 un : UnSt w0 gt gf f.cs
 fn : FnC f.A1 f.c1 [] f.A2 f.c2 f.l2 f.A3 f.c3 f.l3 f.A4 f.c4 f.code w0
 l2 : f.l2.length <= 80
 ok : CodeOk f.l2.length f.code
 ins : ∀ n : Nat, n < f.code.length -> InsF f.l2.length f.l3.length f.code.length (rd_T44 f.code n)
 f4 : ∀ n : Nat, n < f.code.length -> R64 (rd_T44 f.code n).f4
 sz : SzI f.l3
 c42 : ∀ n : Nat, n < f.code.length -> (rd_T44 f.code n).f0 = 42 -> sameS f.nm (rd_T44 f.code n).f6 = true /\ (rd_T44 f.code n).f7 = [] /\ ∀ n' : Nat, n' < f.code.length -> (rd_T44 f.code n').f0 = 43 -> (rd_T44 f.code n').f7.length = (rd_T44 f.code n).f8.length
 t30 : ∀ n : Nat, n < f.code.length -> (rd_T44 f.code n).f0 = 30 -> 0 <= topI (rd_T44 f.code n).f6
 a7 : ∀ n : Nat, n < f.code.length -> (rd_T44 f.code n).f7.length <= 17592186043904
def RetOk (w0 : World) (gt gf : Nat) (w : World) (s0 : SV) (R : PS × List Int) (W2 : World) (v7 : Value) : Prop :=
 ∃ (s2 : SV) (A : Option Addr) (c : Nat), W2.heap[w.heap.size + 2]? = some (.cells s2.cs 95 (0, 0)) /\ v7 = .slice A R.2.length c /\ Pst w0 gt gf w W2 s0 s2 R.1 /\ Kd.R (Kd.int .u64) 42 W2 w.heap.size (fun _ => True) (.slice A R.2.length c) R.2
structure FrOk (f : Fr4) (fr : FP) (was : Int) : Prop where
 fi : FI fr
 sz : fr.sizes = f.l3
 len : fr.slots.length = fr.sizes.length
 was : 4096 <= was /\ was <= 4194304
structure LI (w0 : World) (gt gf : Nat) (f : Fr4) (w : World) (s0 : SV) (g gx : Nat) (A5 : Option Addr) (c5 : Nat) (fr : FP) (was : Int) (R : PS × List Int) (n : Nat) (W : World) (s : SV) (p : PS) (xs : List Int) (q : Nat) : Prop where
 lx : Lx w0 gt gf w W s0 s p (.slice (some ⟨gx, 0, none⟩) f.l2.length f.l2.length) xs s.cs f.cs g (f.fc A5 fr.slots.length c5 fr.lock fr.key) (.slice A5 fr.slots.length c5) fr.slots
 len : xs.length = f.l2.length
 lk : fr.lock < p.locks.length
 run : loopP f.l2.length f.l3 f.code n p fr was xs q = R
 on : p.stop < 0 -> q < f.code.length /\ ∃ k : Nat, PI 2 k p /\ p.steps = (k : Int) /\ k <= 400 /\ 400 < n + k /\ XI xs
def ExitOk (w0 : World) (gt gf : Nat) (f : Fr4) (w : World) (s0 : SV) (g gx : Nat) (A5 : Option Addr) (c5 : Nat) (fr : FP) (was : Int) (R : PS × List Int) (Q0 : Exit -> Act -> World -> Prop) : Prop :=
 (∀ (u : Nat -> Value) (W2 : World) (s2 : SV) (xs2 : List Int) (q2 : Int), Lx w0 gt gf w W2 s0 s2 R.1 (.slice (some ⟨gx, 0, none⟩) f.l2.length f.l2.length) xs2 s2.cs f.cs g (f.fc A5 fr.slots.length c5 fr.lock fr.key) (.slice A5 fr.slots.length c5) fr.slots -> R.2 = [] -> Q0 (.exit 2) (Fr40 w.heap.size g gx f.l2.length was q2 u) W2) ∧
 (∀ (l : List Value) (W2 : World) (v7 : Value), l.getD 6 undef = .pointer (some ⟨w.heap.size + 2, 0, none⟩) -> l.getD 7 undef = v7 -> RetOk w0 gt gf w s0 R W2 v7 -> Q0 .ret ⟨l.toArray, []⟩ W2) ∧
 ∀ (c : List PanicEntry) (a : Act) (d : Option Tmp) (v : Value) (W2 : World), Q0 (.panic c) (a.put d v) W2 -> Q0 (.panic c) a W2
def LoopOk (w0 : World) (gt gf : Nat) (f : Fr4) (m : Nat) : Prop :=
 ∀ (w W : World) (s0 s : SV) (p : PS) (g gx : Nat) (A5 : Option Addr) (c5 : Nat) (fr : FP) (was : Int) (R : PS × List Int) (xs : List Int) (q : Nat) (u : Nat -> Value) (Q0 : Exit -> Act -> World -> Prop),
  FrOk f fr was -> LI w0 gt gf f w s0 g gx A5 c5 fr was R m W s p xs q -> ExitOk w0 gt gf f w s0 g gx A5 c5 fr was R Q0 -> Code.wp Tryd.prog (.loop body40) Q0 (Fr40 w.heap.size g gx f.l2.length was q u) W
noncomputable def callP (nk : Nat) (sizes : List Int) (code : List S44) (m : Nat) (p : PS) : PS × List Int :=
 if (entP sizes p).2 = false then ((entP sizes p).1.1, []) else loopP nk sizes code m (entP sizes p).1.1 (entP sizes p).1.2 p.top (List.replicate nk 0) 0
def CallOk (w0 : World) (gt gf : Nat) (f : Fr4) (m : Nat) : Prop :=
 ∀ (w : World) (s : SV) (p : PS) (k : Nat) (A : Option Addr) (c : Nat), StI w0 gt gf w s p -> PI 1 k p -> p.steps = (k : Int) -> k <= 400 -> 400 < m + k -> p.stop < 0 -> 0 < p.locks.length -> Calls Tryd.prog 40 #[.agg s.cs, .agg f.cs, .slice A 0 c] w (CPost w0 gt gf w s (callP f.l2.length f.l3 f.code m p))
theorem wp_turn {P : Program} {c c2 : Code} {Q : Exit -> Act -> World -> Prop} {a a2 : Act} {W : World} (hc : c2 = c) (ha : a = a2) (h : Code.wp P c2 Q a2 W) : Code.wp P c Q a W := by
 subst hc
 subst ha
 exact h
end Go.Proofs.YtjfleaekljapeaaDoor.K
