import Derived.Test.YtpfbloddhfphiaaK0
import Derived.Test.YtpfbloddhfphiaaScanX
import Derived.Test.YtpfbloddhfphiaaScanA
import Derived.Test.YtpfbloddhfphiaaScanE
import Derived.Test.YtpfbloddhfphiaaScanY
import Derived.Test.YtpfbloddhfphiaaScanU
import Derived.Test.YtpfbloddhfphiaaScanV
import Derived.Deep.DeepMust
import Derived.Test.YtpfbloddhfphiaaProg
import Derived.Below
import Derived.Deep.Draws
import Derived.Deep.AppendLies
import Derived.Maps.AppendAt
import Derived.OwnWalk
import Derived.Laws.BytesArg
import Derived.Laws.MakeOwn
import Derived.Laws.OwnMore
import Derived.Deep.OwnRows
import Derived.Tactics
import Derived.Lib.ConvBytes
import Derived.Laws.Slices
import Derived.WalkKit
import Derived.KernelRfl
import Derived.RowKit3
import Derived.Deep.LoopGhost
import Derived.Deep.QuietTactic
import Derived.BigQuiet
import Derived.WideLaws
import Derived.Deep.DeepCutAuto
import Derived.Deep.CutBlock
import Derived.Deep.RegionHeld3
import Derived.Deep.MidRow
import Derived.Laws.Rows
import Derived.Lib.AppendStr
import Derived.ArgAppend
import Derived.Laws.IdiomCopy
import Derived.OrdersHeld
import Derived.Laws.BitsLemmas
import Derived.RowKit
import Derived.RegionTactic
import Derived.Deep.RegionWith
import Derived.Lib.Hide
import Derived.Test.YtpfbloddhfphiaaWWords
import Derived.Test.YtpfbloddhfphiaaWLast
import Derived.Test.YtpfbloddhfphiaaWTab
import Derived.Test.YtpfbloddhfphiaaWFour
import Derived.Test.YtpfbloddhfphiaaWQPut
import Derived.Test.YtpfbloddhfphiaaWApart
import Derived.Test.YtpfbloddhfphiaaWArr
import Derived.Test.YtpfbloddhfphiaaWZeros
import Derived.Test.YtpfbloddhfphiaaWFoot
import Derived.Test.YtpfbloddhfphiaaWKept
import Derived.Test.YtpfbloddhfphiaaWShare
import Derived.Test.YtpfbloddhfphiaaWN
import Derived.Test.YtpfbloddhfphiaaWEqStruct
import Derived.Test.YtpfbloddhfphiaaWRepsOne
import Derived.Test.YtpfbloddhfphiaaWGuard
import Derived.Test.YtpfbloddhfphiaaWNEv
import Derived.Test.YtpfbloddhfphiaaWMore
import Derived.Deep.RegionLaw
import Derived.Laws.CopyOwn
namespace Go.Proofs.Ytpfbloddhfphiaa.K
open Go.RowKit Go.Proofs.YtpfbloddhfphiaaW.PrintWords Go.Proofs.YtpfbloddhfphiaaW.PrintLast Go.Proofs.YtpfbloddhfphiaaW.PrintMore
attribute [local go_sem] max2_int min2_int max_two min_two max_three min_three max_four min_four   -- for this text's walks alone
set_option linter.unusedVariables false
set_option linter.unusedSimpArgs false
set_option linter.unusedSectionVars false
/-! ### hauberklaw16.ScanTurned: function 6, typed by hand -/
theorem R_lit0 {α : Type} (d : Kd α) (e base : Nat) (w : World) (hb : base ≤ w.heap.size) : d.R e (w.alloc (.cells #[] e)) base (fun _ => True) (.slice (some ⟨w.heap.size, 0, none⟩) 0 0) [] := by
  refine ⟨fun _ _ => trivial, [], ?_, ⟨by simp, fun j p hj => by simp at hj⟩⟩
  have h2 := World.ownsRow_lit (base := base) (e := e) (size := d.sz) w #[] 0 hb (by simp [maxLen]) (by simp)
  simpa using h2
theorem info45 : (Try.prog.info? 45).map (fun i => (i.zero, i.size, i.bytes)) = some (some (.agg #[.int .u8 0, .int .u8 0]), 2, 2) := by kernel_rfl
/-- Places over any list of spans. -/
def PlG (L : List S35) (m N : Nat) (w : World) (e : Ending) (w' : World) : Prop :=
  ∃ (ord : List Nat) (go : Nat), ord.Perm (plOrd L m) ∧ ord.Pairwise (fun a b => ff L a ≤ ff L b) ∧ (plRun L N ord).out.length = m ∧ e = .returned (.tuple #[.slice (some ⟨go, 0, none⟩) m m, .int .i64 0]) ∧ Kd.C (Kd.int .i64) w' (some ⟨go, 0, none⟩) m (plRun L N ord).out ∧ Below w.heap.size w w'
theorem plg_calls (L : List S35) (m : Nat) (hm : L.length = m) (A : Option Addr) (c N : Nat) (w : World) (hrow : Kd.C k35 w A m L) (hc : m ≤ c) (hA : ∀ a, A = some a → a.block < w.heap.size) (hl : m ≤ 60) (hN : N ≤ 32) :
    Calls Try.prog 10 #[.slice A m c, .int .i64 (N : Int)] w (PlG L m N w) := by
  subst hm
  refine Calls.mono (places_calls60 A c L N w hrow hc hA hl hN) ?_
  rintro e w' ⟨ord, go, hp, hs, rfl, ho, hlo, hbl⟩
  have hol : (plRun L N ord).out.length = L.length := by
    have := (plAt_inv L N ord (fun k hk => by have := plOrd_lt L k (hp.mem_iff.1 hk); exact this) ord.length (Nat.le_refl _)).olen
    rw [plAt_all] at this
    exact this
  refine ⟨ord, go, hp, hs, hol, rfl, ?_, hbl⟩
  have h := rowI_C ho (by omega)
  rw [hol] at h
  exact h
theorem sp_turn (l : List C45) (k m : Nat) (hm : l.length = m) (A : Option Addr) (c : Nat) (w : World) (hl : ∀ x ∈ l, (0 ≤ x.f0 ∧ x.f0 < 256) ∧ (0 ≤ x.f1 ∧ x.f1 < 256)) (hr : Kd.C k45 w A m (turn l k)) (hc : m ≤ c) (hlen : m ≤ 60) :
    Calls Try.prog 9 #[.slice A m c] w (SpansPost (turn l k) w) := by
  subst hm
  have h := spans_calls (turn l k) A c w (fun x hx => hl x (turn_mem hx)) (by rw [turn_len]; exact hr) (by rw [turn_len]; exact hc) (by rw [turn_len]; exact hlen)
  rw [turn_len] at h
  exact h
theorem setCells_two (w : World) (g j : Nat) (u v : Value) : w.setCells g j [u, v] = (w.setCell ⟨g, j, none⟩ u).setCell ⟨g, j + 1, none⟩ v := rfl
/-- The first i spans are further on by seven. -/
def mvs (L : List S35) (i : Nat) : List S35 := (L.map mv).take i ++ L.drop i
theorem mvs_zero (L : List S35) : mvs L 0 = L := by simp [mvs]
theorem mvs_all (L : List S35) : mvs L L.length = L.map mv := by
  unfold mvs
  rw [List.drop_length, List.append_nil]
  exact List.take_of_length_le (by rw [List.length_map]; exact Nat.le_refl _)
theorem mvs_len (L : List S35) (i : Nat) (hi : i ≤ L.length) : (mvs L i).length = L.length := by
  unfold mvs
  rw [List.length_append, List.length_take, List.length_map, List.length_drop]; omega
theorem mvs_get (L : List S35) (i : Nat) (hi : i < L.length) : (mvs L i).getD i z35 = L.getD i z35 := by
  unfold mvs
  rw [List.getD_eq_getElem?_getD, List.getElem?_append_right (by rw [List.length_take, List.length_map]; omega), List.length_take, List.length_map, Nat.min_eq_left (by omega), Nat.sub_self, List.getElem?_drop, Nat.add_zero, List.getD_eq_getElem?_getD]
theorem mvs_set (L : List S35) (i : Nat) (hi : i < L.length) : (mvs L i).set i (mv (L.getD i z35)) = mvs L (i + 1) := by
  unfold mvs
  rw [List.set_append_right _ _ (by rw [List.length_take, List.length_map]; omega), List.length_take, List.length_map, Nat.min_eq_left (by omega), Nat.sub_self, List.drop_eq_getElem_cons hi, List.set_cons_zero, List.take_add_one, List.getElem?_map, List.getElem?_eq_getElem hi, List.getD_eq_getElem?_getD, List.getElem?_eq_getElem hi, List.append_assoc]
  rfl
theorem mvs_put {w : World} {base g c : Nat} {L : List S35} {i n : Nat} (h : k35.R 35 w base (fun _ => True) (.slice (some ⟨g, 0, none⟩) n c) (mvs L i)) (hn : n = L.length) (hi : i < L.length) {a b : Int} (ha : a = (L.getD i z35).f0 + 7) (hb : b = (L.getD i z35).f1 + 7) :
    k35.R 35 ((w.setCell ⟨g, i * 2, none⟩ (.int .i64 a)).setCell ⟨g, i * 2 + 1, none⟩ (.int .i64 b)) base (fun _ => True) (.slice (some ⟨g, 0, none⟩) n c) (mvs L (i + 1)) := by
  subst ha; subst hb
  obtain ⟨cs, hcl, _, hcc, _⟩ := Kd.R_elem h z35 (i : Int) (by omega) (by omega)
  have h2 := (Kd.R_seg (okp := fun _ => False) (x' := mv (L.getD i z35)) (seg := [.int .i64 ((L.getD i z35).f0 + 7), .int .i64 ((L.getD i z35).f1 + 7)]) (j := 0) h (i : Int) (by omega) (by omega) hcl hcc (by show 0 + 2 ≤ 2; omega) (by
    have e : cs.drop (0 + [Value.int .i64 ((L.getD i z35).f0 + 7), Value.int .i64 ((L.getD i z35).f1 + 7)].length) = [] := List.drop_eq_nil_of_le (by rw [hcl]; show 2 ≤ 0 + 2; omega)
    rw [e]
    exact k35_mkM w base (fun _ => False) (mv (L.getD i z35))) (fun _ hk => hk.elim)).1
  rw [Int.toNat_natCast, mvs_set L i hi] at h2
  exact h2
set_option maxHeartbeats 8000000 in
set_option maxRecDepth 100000 in
theorem turned_out (l : List C45) (A0 : Option Addr) (c0 : Nat) (bt n : Int) (w : World) (h : l.length = 0 ∨ 40 < l.length ∨ n < 0 ∨ 32 < n) :
    Calls Try.prog 6 #[.slice A0 l.length c0, .int .i64 bt, .int .i64 n] w (awPost w) := by
  have HB := Aside0.mk (Below.refl w.heap.size w)
  by_cases h1 : l.length = 0
  · have n1b : ((l.length : Int) == 0) = true := by simpa using h1
    clear h h1
    go_enter Try.func6, Try.ntmps6
    go_wp2_with (first | (go_at_call 8; (with_reducible refine (awake_calls _).mono ?_); rintro e w1 ⟨rfl, hb⟩; have n0_ := Aside0.mk (below_step HB.out hb); clear HB; have HB := n0_; clear n0_ hb))
    go_ret
    exact ⟨rfl, HB.out⟩
  have n1 : ¬ ((l.length : Int) = 0) := by omega
  have n1b : ((l.length : Int) == 0) = false := by simpa using n1
  by_cases h2 : 40 < l.length
  · have d1 : decide ((40 : Int) < (l.length : Int)) = true := decide_eq_true (by omega)
    clear h h1 h2
    go_enter Try.func6, Try.ntmps6
    go_wp2_with (first | (go_at_call 8; (with_reducible refine (awake_calls _).mono ?_); rintro e w1 ⟨rfl, hb⟩; have n0_ := Aside0.mk (below_step HB.out hb); clear HB; have HB := n0_; clear n0_ hb))
    go_ret
    exact ⟨rfl, HB.out⟩
  have d1 : decide ((40 : Int) < (l.length : Int)) = false := decide_eq_false (by omega)
  by_cases h3 : n < 0
  · have d2 : decide (n < 0) = true := decide_eq_true h3
    clear h h1 h2 h3
    go_enter Try.func6, Try.ntmps6
    go_wp2_with (first | (go_at_call 8; (with_reducible refine (awake_calls _).mono ?_); rintro e w1 ⟨rfl, hb⟩; have n0_ := Aside0.mk (below_step HB.out hb); clear HB; have HB := n0_; clear n0_ hb))
    go_ret
    exact ⟨rfl, HB.out⟩
  have d2 : decide (n < 0) = false := decide_eq_false h3
  have d3 : decide (32 < n) = true := decide_eq_true (by omega)
  clear h h1 h2 h3
  go_enter Try.func6, Try.ntmps6
  go_wp2_with (first | (go_at_call 8; (with_reducible refine (awake_calls _).mono ?_); rintro e w1 ⟨rfl, hb⟩; have n0_ := Aside0.mk (below_step HB.out hb); clear HB; have HB := n0_; clear n0_ hb))
  go_ret
  exact ⟨rfl, HB.out⟩
set_option maxHeartbeats 8000000 in
set_option maxRecDepth 100000 in
theorem turned_calls (l : List C45) (A0 : Option Addr) (c0 : Nat) (bt n : Int) (w : World) (hl : ∀ x ∈ l, (0 ≤ x.f0 ∧ x.f0 < 256) ∧ (0 ≤ x.f1 ∧ x.f1 < 256)) (hr0 : Kd.C k45 w A0 l.length l) (hc0 : l.length ≤ c0) :
    Calls Try.prog 6 #[.slice A0 l.length c0, .int .i64 bt, .int .i64 n] w (awPost w) := by
  have hu22 := Try.underlying22
  have hu45 := Try.underlying45
  have hu35 := Try.underlying35
  have hu24 := Try.underlying24
  have HR0 := Aside0.mk hr0
  have HL := Aside0.mk hl
  have HC0 := Aside0.mk hc0
  have HB := Aside0.mk (Below.refl w.heap.size w)
  clear hl hr0 hc0
  by_cases h1 : l.length = 0 ∨ 40 < l.length ∨ n < 0 ∨ 32 < n
  · exact turned_out l A0 c0 bt n w h1
  · obtain ⟨N, hN⟩ : ∃ N : Nat, n = (N : Int) := ⟨n.toNat, by omega⟩
    subst hN
    have n1 : ¬ ((l.length : Int) = 0) := by omega
    have n1b : ((l.length : Int) == 0) = false := by simpa using n1
    have d1 : decide ((40 : Int) < (l.length : Int)) = false := decide_eq_false (by omega)
    have d2 : decide ((N : Int) < 0) = false := decide_eq_false (by omega)
    have d3 : decide ((32 : Int) < (N : Int)) = false := decide_eq_false (by omega)
    have HLEN := Aside0.mk (show 0 < l.length ∧ l.length ≤ 40 by omega)
    have HN := Aside0.mk (show N ≤ 32 by omega)
    clear h1
    go_enter Try.func6, Try.ntmps6
    go_upto_region 3 with (first | (go_at_call 8; (with_reducible refine (awake_calls _).mono ?_); rintro e w1 ⟨rfl, hb⟩; have n0_ := Aside0.mk (below_step HB.out hb); clear HB; have HB := n0_; clear n0_ hb))
    clear d1 d2 d3
    have u1 : IntKind.u64.wrap (l.length : Int) = (l.length : Int) := by rw [IntKind.wrap_u64]; have := HLEN.out; omega
    have u2 : ¬ ((l.length : Int) = 0) := n1
    go_upto_region 4 with (fail)
    obtain ⟨k, hk, hkl⟩ : ∃ k : Nat, wrap64 ((IntKind.u64.wrap bt).tmod (l.length : Int)) = (k : Int) ∧ k < l.length := by
      have h0 := HLEN.out
      have h1 : (0 : Int) ≤ IntKind.u64.wrap bt := by rw [IntKind.wrap_u64]; omega
      have h2 : (IntKind.u64.wrap bt).tmod (l.length : Int) = IntKind.u64.wrap bt % (l.length : Int) := Int.tmod_eq_emod_of_nonneg h1
      have h3 := Int.emod_nonneg (IntKind.u64.wrap bt) (show (l.length : Int) ≠ 0 by omega)
      have h4 := Int.emod_lt_of_pos (IntKind.u64.wrap bt) (show (0 : Int) < (l.length : Int) by omega)
      rw [← h2] at h3 h4
      generalize (IntKind.u64.wrap bt).tmod (l.length : Int) = r at h3 h4
      exact ⟨r.toNat, by unfold wrap64; omega, by omega⟩
    simp only [hk]
    obtain ⟨ad, eA, _, _⟩ := at_45 HR0.out k hkl
    cases eA
    have HKL := Aside0.mk hkl
    have HK := Aside0.mk hk
    have p0 : (0 : Int) ≤ (k : Int) := by omega
    have p1 : k ≤ l.length := by omega
    have p2 : l.length ≤ c0 := HC0.out
    have p3 : ¬ (c0 = k) := by omega
    have p4 : k ≤ c0 := by omega
    clear hk hkl
    have HD := Aside0.mk (show k45.C w1 (some (ad.add (k * 2))) (l.length - k) (l.drop k) by
      have h := Kd.C_drop (Kd.C_below HR0.out HB.out) p1 p2
      rw [if_neg p3, List.length_drop] at h
      exact h)
    have HT := Aside0.mk (show k45.C w1 (some ad) k (l.take k) by
      have h := Kd.C_take (Kd.C_below HR0.out HB.out) p1
      rw [List.length_take, Nat.min_eq_left p1] at h
      exact h)
    go_cut [8] (fun v8 wc => Aside0 (Kd.R k45 45 wc w1.heap.size (fun _ => True) v8 (turn l k)) ∧ Aside0 (Below w1.heap.size w1 wc))
    case first =>
      go_region_law (first | (refine Kd.R_append_rows_step k45 (Rr := k45.K w1) (w0 := w1) w1.heap.size (by rfl) (.tmp 49) (.tmp 52) 22 45 (.agg #[.int .u8 0, .int .u8 0]) 2 rfl Try.underlying22 info45 rfl (by decide) (by omega) (.slice (some ⟨w1.heap.size, 0, none⟩) 0 0) [] (l.drop k) (some (ad.add (k * 2))) (l.length - k) (c0 - k) (fun _ => True) (fun _ => False) rfl rfl ?aO ?aR ?aK (fun _ h => h.elim) (fun _ _ => trivial) ?aB ?aS ?aL ?_; (case aO => first | exact Kd.R_drew (R_lit0 _ _ _ _ (Nat.le_refl _)) | exact R_lit0 _ _ _ _ (Nat.le_refl _) | exact Kd.R_drew (Kd.R_drew (R_lit0 _ _ _ _ (Nat.le_refl _)))); (case aR => exact ReadsRow.imp_ HD.out (by first | exact ((Below.refl _ _).alloc (Nat.le_refl _) _).drew | exact ((Below.refl _ _).alloc (Nat.le_refl _) _) | exact ((Below.refl _ _).alloc (Nat.le_refl _) _).drew.drew) (fun _ _ h => h)); (case aK => intro x cs h; obtain rfl := k45_open h; exact ⟨[.int .u8 x.f0], [.int .u8 x.f1], rfl, rfl, rfl⟩); (case aB => first | exact ((Below.refl _ _).alloc (Nat.le_refl _) _).drew | exact ((Below.refl _ _).alloc (Nat.le_refl _) _) | exact ((Below.refl _ _).alloc (Nat.le_refl _) _).drew.drew); (case aS => simp); (case aL => have := HLEN.out; simp only [List.length_nil]; omega); intro v53 w53 ho hb hg hat; have HO := Aside0.mk ho; have HB53 := Aside0.mk hb; clear ho hb hg hat) | (refine Kd.R_append_rows_step k45 (Rr := k45.K w1) (w0 := w1) w1.heap.size (by rfl) (.tmp 53) (.tmp 56) 22 45 (.agg #[.int .u8 0, .int .u8 0]) 2 rfl Try.underlying22 info45 rfl (by decide) (by omega) v53 (l.drop k) (l.take k) (some ad) k c0 (fun _ => True) (fun _ => False) rfl rfl ?aO ?aR ?aK (fun _ h => h.elim) (fun _ _ => trivial) ?aB ?aS ?aL ?_; (case aO => first | exact HO.out | exact Kd.R_drew HO.out); (case aR => exact ReadsRow.imp_ HT.out (by first | exact HB53.out | exact HB53.out.drew) (fun _ _ h => h)); (case aK => intro x cs h; obtain rfl := k45_open h; exact ⟨[.int .u8 x.f0], [.int .u8 x.f1], rfl, rfl, rfl⟩); (case aB => first | exact HB53.out | exact HB53.out.drew); (case aS => first | exact below_size HB53.out | exact below_size HB53.out.drew); (case aL => have := HLEN.out; rw [List.length_drop]; omega); intro v57 w57 ho hb hg hat; have HO2 := Aside0.mk ho; have HB57 := Aside0.mk hb; clear ho hb hg hat))
      all_goals go_wp2
      all_goals go_meet
      all_goals (case rel => exact ⟨HO2, HB57⟩)
    case rest =>
      obtain ⟨HO2, HBc⟩ := hcut
      obtain ⟨At, ct, et, hct, hrt⟩ := Kd.R_reads HO2.out
      rw [turn_len] at et hct hrt
      subst et
      have HB2 := Aside0.mk (below_step HB.out HBc.out)
      have HRT := Aside0.mk hrt
      have HCT := Aside0.mk hct
      clear hrt hct HO2 HD HT HBc p0 p1 p2 p3 p4
      have H9 := Aside0.mk (spans_calls l (some ad) c0 wc HL.out (Kd.C_below HR0.out HB2.out) HC0.out (by have := HLEN.out; omega))
      go_upto_region 6 with (first | (go_at_call 9; (with_reducible refine H9.out.mono ?_); rintro e w2 ⟨va, vb, rfl, hS⟩; have HS := Aside0.mk hS; clear hS))
      obtain ⟨Aa, ca, ea, hca, hra⟩ := Kd.R_reads HS.out.ha
      rw [spA_len] at ea hca hra
      subst ea
      have HRA := Aside0.mk hra
      have HCA := Aside0.mk hca
      have HBA := Aside0.mk HS.out.hB
      have HAL := Aside0.mk (r_lt HS.out.ha)
      clear hra hca HS H9
      have H9 := Aside0.mk (sp_turn l k l.length rfl At ct w2 HL.out (Kd.C_below HRT.out HBA.out) HCT.out (by have := HLEN.out; omega))
      go_upto_region 7 with (first | (go_at_call 9; (with_reducible refine H9.out.mono ?_); rintro e w3 ⟨va, vd, rfl, hS⟩; have HS := Aside0.mk hS; clear hS))
      obtain ⟨Ab, cb, eb, hcb, hrb⟩ := Kd.R_reads HS.out.ha
      rw [spA_len, turn_len] at eb hcb hrb
      subst eb
      have HRB := Aside0.mk hrb
      have HCB := Aside0.mk hcb
      have HBB := Aside0.mk HS.out.hB
      have HBL := Aside0.mk (r_lt HS.out.ha)
      have HB3 := Aside0.mk (below_step (below_step HB2.out HBA.out) HBB.out)
      have HRA3 := Aside0.mk (Kd.C_below HRA.out HBB.out)
      have HAL3 := Aside0.mk (fun a ha => Nat.lt_of_lt_of_le (HAL.out a ha) (below_size HBB.out))
      have HRT3 := Aside0.mk (Kd.C_below (Kd.C_below HRT.out HBA.out) HBB.out)
      clear hrb hcb HS H9 HRA HAL HBA HBB HRT HCT
      go_upto_region 8 with (first | ((with_reducible refine gate_builtin (b := .append) (xs := #[.tmp 68, .tmp 69]) rfl ?_); at_builtin; refine Kd.R_append_rows k35 (Rr := k35.K w3) (w0 := w3) w3.heap.size rfl (.tmp 68) (.tmp 69) 24 35 (.agg #[.int .i64 0, .int .i64 0]) 16 rfl Try.underlying24 info35 rfl (by decide) (by omega) (.slice (some ⟨w3.heap.size, 0, none⟩) 0 0) [] (spA l) Aa l.length ca (fun _ => True) (fun _ => False) rfl rfl ?aO ?aR ?aK (fun _ h => h.elim) (fun _ _ => trivial) ?aB ?aS ?aL ?_; (case aO => exact R_lit0 _ _ _ _ (Nat.le_refl _)); (case aR => exact ReadsRow.imp_ HRA3.out ((Below.refl _ _).alloc (Nat.le_refl _) _) (fun _ _ h => h)); (case aK => intro x cs h; obtain rfl := k35_open h; exact k35_mkM _ _ _ _); (case aB => exact ((Below.refl _ _).alloc (Nat.le_refl _) _)); (case aS => simp); (case aL => have := HLEN.out; simp only [List.length_nil]; omega); intro v70 w70 ho hb hg hat; have HO := Aside0.mk ho; have HBC := Aside0.mk hb; clear ho hb hg hat))
      rw [List.nil_append] at HO
      obtain ⟨g, cc, ev, hgb, _, _⟩ := Kd.R_form HO.out (by rw [spA_len]; exact HLEN.out.1)
      have HGB := Aside0.mk hgb
      clear hgb
      rw [spA_len] at ev
      subst ev
      have HO0 := Aside0.mk (show k35.R 35 w70 w3.heap.size (fun _ => True) (.slice (some ⟨g, 0, none⟩) l.length cc) (mvs (spA l) 0) by rw [mvs_zero]; exact HO.out)
      clear HO
      go_wp2
      go_loopg [14, 73] l.length (fun gg v14 v73 w' => ∃ (i : Nat), i ≤ l.length ∧ l.length - i ≤ gg ∧ v73 = .int .i64 i ∧ Aside0 (k35.R 35 w' w3.heap.size (fun _ => True) (.slice (some ⟨g, 0, none⟩) l.length cc) (mvs (spA l) i)) ∧ Aside0 (Below w3.heap.size w3 w'))
      case atStart => exact ⟨0, Nat.zero_le _, by omega, rfl, HO0, HBC⟩
      case round =>
        clear HO0 HBC
        obtain ⟨i, hi, hg, rfl, HO, HBC⟩ := hrel
        by_cases hlt : i < l.length
        · obtain ⟨cs, hcl, hM, hcc, hfz⟩ := Kd.R_elem HO.out z35 (i : Int) (by omega) (by omega)
          have e0 : (mvs (spA l) i).getD (i : Int).toNat z35 = (spA l).getD i z35 := mvs_get (spA l) i (by rw [spA_len]; exact hlt)
          rw [e0] at hM
          obtain ⟨_, _, rfl, rfl, rfl⟩ := hM
          have hx0 : wr.cell? ⟨g, i * 2, none⟩ = some (.int .i64 ((spA l).getD i z35).f0) := hcc 0 _ rfl
          have hx1 : wr.cell? ⟨g, i * 2 + 1, none⟩ = some (.int .i64 ((spA l).getD i z35).f1) := hcc 1 _ rfl
          have hf0 : wr.frozen? ⟨g, i * 2, none⟩ = false := hfz 0
          have hf1 : wr.frozen? ⟨g, i * 2 + 1, none⟩ = false := hfz 1
          have hb : (0 ≤ ((spA l).getD i z35).f0 ∧ ((spA l).getD i z35).f0 < 256) ∧ (0 ≤ ((spA l).getD i z35).f1 ∧ ((spA l).getD i z35).f1 < 256) := by
            have h := HL.out _ (List.getElem_mem hlt)
            have e : (spA l).getD i z35 = ⟨(l[i]).f0, (l[i]).f1⟩ := by unfold spA; rw [List.getD_eq_getElem?_getD, List.getElem?_map, List.getElem?_eq_getElem hlt]; rfl
            rw [e]; exact h
          have HE := Aside0.mk (show (spA l).getD i z35 = (spA l).getD i z35 from rfl)
          generalize hz : (spA l).getD i z35 = z at hx0 hx1 hb HE
          have HZ := Aside0.mk hz
          clear hz hcc hcl hfz e0 HE
          obtain ⟨z0, z1⟩ := z
          dsimp only at hx0 hx1 hb
          obtain ⟨⟨b1, b2⟩, b3, b4⟩ := hb
          have hw0 : IntKind.i64.wrap (z0 + 7) = z0 + 7 := by rw [IntKind.wrap_i64]; omega
          have hw1 : IntKind.i64.wrap (z1 + 7) = z1 + 7 := by rw [IntKind.wrap_i64]; omega
          have hwi : IntKind.i64.wrap ((i : Int) + 1) = ((i + 1 : Nat) : Int) := by have := HLEN.out; rw [IntKind.wrap_i64]; omega
          have hcg : (l.length : Int) ≤ 40 := by have := HLEN.out; omega
          have q0 : (i : Int) < (l.length : Int) := by omega
          have q1 : (0 : Int) ≤ (i : Int) := by omega
          clear b1 b2 b3 b4
          go_wp2
          go_region
          go_wp2
          go_roundg (l.length - (i + 1))
          case measure => omega
          case rel => exact ⟨i + 1, by omega, Nat.le_refl _, by go_num, ⟨Kd.R_drew (mvs_put HO.out (spA_len l).symm (by rw [spA_len]; exact hlt) (by rw [HZ.out]) (by rw [HZ.out]))⟩, ⟨((HBC.out.setCell HGB.out _).setCell HGB.out _).drew⟩⟩
        · obtain rfl : i = l.length := by omega
          have HO1 := Aside0.mk (show k35.R 35 wr w3.heap.size (fun _ => True) (.slice (some ⟨g, 0, none⟩) l.length cc) (spM l) by have h := HO.out; have e := mvs_all (spA l); rw [spA_len] at e; rw [e] at h; exact h)
          have q0b : decide ((l.length : Int) < (l.length : Int)) = false := decide_eq_false (by omega)
          clear HO hlt hg hi
          have HB4 := Aside0.mk (below_step HB3.out HBC.out)
          have H1 := Aside0.mk (plg_calls (spA l) l.length (spA_len l) Aa ca N wr (Kd.C_below HRA3.out HBC.out) HCA.out (fun a ha => Nat.lt_of_lt_of_le (HAL3.out a ha) (below_size HBC.out)) (by have := HLEN.out; omega) HN.out)
          have HRM := Aside0.mk (show k35.C wr (some ⟨g, 0, none⟩) l.length (spM l) by have h := (Kd.R_reads' HO1.out).2.2; rw [spM_len] at h; exact h)
          have HCM := Aside0.mk (show l.length ≤ cc from (Kd.R_reads' HO1.out).2.1)
          have HRB4 := Aside0.mk (Kd.C_below HRB.out HBC.out)
          have HBL4 := Aside0.mk (fun a ha => Nat.lt_of_lt_of_le (HBL.out a ha) (below_size HBC.out))
          have HGL := Aside0.mk (show ∀ a, some (⟨g, 0, none⟩ : Addr) = some a → a.block < wr.heap.size from r_lt HO1.out)
          have HRT4 := Aside0.mk (Kd.C_below HRT3.out HBC.out)
          clear HRA3 HRB HAL3 HBL HBC HO1 HGB HRT3
          go_upto_region 14 with (first | (go_at_call 10; (with_reducible refine H1.out.mono ?_); rintro e w5 ⟨o1, g1, hp1, hs1, hl1, rfl, hr1, hb⟩; have HP1 := Aside0.mk hp1; have HS1 := Aside0.mk hs1; have HL1 := Aside0.mk hl1; have HR1 := Aside0.mk hr1; have HB5 := Aside0.mk hb; clear hp1 hs1 hl1 hr1 hb))
          clear H1
          have H1 := Aside0.mk (plg_calls (spA (turn l k)) l.length (by rw [spA_len, turn_len]) Ab cb N w5 (Kd.C_below HRB4.out HB5.out) HCB.out (fun a ha => Nat.lt_of_lt_of_le (HBL4.out a ha) (below_size HB5.out)) (by have := HLEN.out; omega) HN.out)
          go_upto_region 15 with (first | (go_at_call 10; (with_reducible refine H1.out.mono ?_); rintro e w6 ⟨o2, g2, hp2, hs2, hl2, rfl, hr2, hb⟩; have HP2 := Aside0.mk hp2; have HS2 := Aside0.mk hs2; have HL2 := Aside0.mk hl2; have HR2 := Aside0.mk hr2; have HB6 := Aside0.mk hb; clear hp2 hs2 hl2 hr2 hb))
          clear H1
          have H1 := Aside0.mk (plg_calls (spM l) l.length (spM_len l) (some ⟨g, 0, none⟩) cc N w6 (Kd.C_below (Kd.C_below HRM.out HB5.out) HB6.out) HCM.out (fun a ha => Nat.lt_of_lt_of_le (HGL.out a ha) (Nat.le_trans (below_size HB5.out) (below_size HB6.out))) (by have := HLEN.out; omega) HN.out)
          go_upto_region 16 with (first | (go_at_call 10; (with_reducible refine H1.out.mono ?_); rintro e w7 ⟨o3, g3, hp3, hs3, hl3, rfl, hr3, hb⟩; have HP3 := Aside0.mk hp3; have HS3 := Aside0.mk hs3; have HL3 := Aside0.mk hl3; have HR3 := Aside0.mk hr3; have HB7 := Aside0.mk hb; clear hp3 hs3 hl3 hr3 hb))
          clear H1 HRB4 HBL4 HGL HRM
          obtain ⟨sp, hsp⟩ : ∃ sp, goneQ l (ps (plRun (spA l) N o1).out) l.length = sp := ⟨_, rfl⟩
          have hkl : k ≤ l.length := Nat.le_of_lt HKL.out
          have E2 : goneQ (turn l k) (ps (plRun (spA (turn l k)) N o2).out) l.length = sp := by
            have h := turn_gone (n := N) HL.out hkl HP1.out HS1.out (by rw [turn_len]; exact HP2.out) HS2.out
            rw [turn_len] at h
            exact h.symm.trans hsp
          have E3 : goneQ l (ps (plRun (spM l) N o3).out) l.length = sp := (moved_gone (n := N) HL.out HP1.out HS1.out HP3.out HS3.out).symm.trans hsp
          have HB57 := Aside0.mk (below_step (below_step HB5.out HB6.out) HB7.out)
          have HB8 := Aside0.mk (below_step HB4.out HB57.out)
          have X1 : Aside0 (∀ w', Below w7.heap.size w7 w' → Calls Try.prog 13 #[.slice (some ad) l.length c0, .slice (some ⟨g1, 0, none⟩) l.length l.length] w' (spillPost sp w')) := ⟨fun w' hb => by
            have h := spilled_calls l (some ad) c0 (plRun (spA l) N o1).out (some ⟨g1, 0, none⟩) l.length w' (Kd.C_below (Kd.C_below HR0.out HB8.out) hb) (by rw [HL1.out]; exact Kd.C_below (Kd.C_below (Kd.C_below HR1.out HB6.out) HB7.out) hb) HL1.out (by have := HLEN.out; omega)
            rw [hsp, HL1.out] at h
            exact h⟩
          have X2 : Aside0 (∀ w', Below w7.heap.size w7 w' → Calls Try.prog 13 #[.slice At l.length ct, .slice (some ⟨g2, 0, none⟩) l.length l.length] w' (spillPost sp w')) := ⟨fun w' hb => by
            have h := spilled_calls (turn l k) At ct (plRun (spA (turn l k)) N o2).out (some ⟨g2, 0, none⟩) l.length w' (by rw [turn_len]; exact Kd.C_below (Kd.C_below HRT4.out HB57.out) hb) (by rw [HL2.out]; exact Kd.C_below (Kd.C_below HR2.out HB7.out) hb) (by rw [turn_len]; exact HL2.out) (by rw [turn_len]; have := HLEN.out; omega)
            rw [turn_len, E2, HL2.out] at h
            exact h⟩
          have X3 : Aside0 (∀ w', Below w7.heap.size w7 w' → Calls Try.prog 13 #[.slice (some ad) l.length c0, .slice (some ⟨g3, 0, none⟩) l.length l.length] w' (spillPost sp w')) := ⟨fun w' hb => by
            have h := spilled_calls l (some ad) c0 (plRun (spM l) N o3).out (some ⟨g3, 0, none⟩) l.length w' (Kd.C_below (Kd.C_below HR0.out HB8.out) hb) (by rw [HL3.out]; exact Kd.C_below HR3.out hb) HL3.out (by have := HLEN.out; omega)
            rw [E3, HL3.out] at h
            exact h⟩
          have z2 : ((l.length : Int) == (l.length : Int)) = true := by simp
          have z3 : ((sp : Int) == (sp : Int)) = true := by simp
          have HN0 := Aside0.mk (Below.refl w7.heap.size w7)
          clear hsp E2 E3 hkl HP1 HP2 HP3 HS1 HS2 HS3 HR1 HR2 HR3 HL1 HL2 HL3 HRT4
          go_wp2_with (first | (go_at_call 13; (first | (with_reducible refine (X1.out _ HN0.out).mono ?_) | (with_reducible refine (X2.out _ HN0.out).mono ?_) | (with_reducible refine (X3.out _ HN0.out).mono ?_)); rintro e w8 ⟨rfl, hb⟩; have n0_ := Aside0.mk (below_step HN0.out hb); clear hb HN0; have HN0 := n0_; clear n0_))
          go_ret
          exact ⟨rfl, below_step HB8.out HN0.out⟩
end Go.Proofs.Ytpfbloddhfphiaa.K
