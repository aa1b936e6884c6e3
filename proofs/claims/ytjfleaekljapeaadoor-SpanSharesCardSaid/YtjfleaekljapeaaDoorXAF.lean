import Derived.Test.YtjfleaekljapeaaDoorXAD
import Derived.Test.YtjfleaekljapeaaDoorXAE
import Derived.Deep.DeepMust
import Derived.Test.YtjfleaekljapeaaDoorProg
import Derived.Below
import Derived.Deep.Draws
import Derived.Deep.AppendLies
import Derived.Maps.AppendAt
import Derived.OwnWalk
import Derived.Laws.BytesArg
import Derived.Laws.MakeOwn
import Derived.Laws.OwnMore
import Derived.Deep.OwnRows
import Derived.Tactics
import Derived.Lib.ConvBytes
import Derived.Laws.Slices
import Derived.WalkKit
import Derived.KernelRfl
import Derived.RowKit3
import Derived.Deep.LoopGhost
import Derived.Deep.QuietTactic
import Derived.BigQuiet
import Derived.WideLaws
import Derived.Deep.DeepCutAuto
import Derived.Deep.CutBlock
import Derived.Deep.RegionHeld3
import Derived.Deep.MidRow
import Derived.Laws.Rows
import Derived.Lib.AppendStr
import Derived.ArgAppend
import Derived.Laws.IdiomCopy
import Derived.OrdersHeld
import Derived.Laws.BitsLemmas
import Derived.RowKit
import Derived.RegionTactic
import Derived.Deep.RegionWith
import Derived.Lib.Hide
import Derived.Test.YtjfleaekljapeaaDoorXAA
import Derived.Test.YtjfleaekljapeaaDoorXAB
import Derived.Test.YtjfleaekljapeaaDoorXAC
import Derived.Deep.RegionLaw
import Derived.Laws.CopyOwn
import Derived.Shelf.Spec.TrailingZeros
namespace Go.Proofs.YtjfleaekljapeaaDoor.K
open Go.RowKit Go.Proofs.YtjfleaekljapeaaDoorW.PrintWords Go.Proofs.YtjfleaekljapeaaDoorW.PrintLast Go.Proofs.YtjfleaekljapeaaDoorW.PrintMore
attribute [local go_sem] max2_int min2_int max_two min_two max_three min_three max_four min_four   -- for this text's walks alone
set_option linter.unusedVariables false
set_option linter.unusedSimpArgs false
set_option linter.unusedSectionVars false
def kSets : Kd (List Int) := Kd.slice 42 (Kd.int .u64)
def LivePost (R : List Int) (w : World) (e : Ending) (w' : World) : Prop := ∃ v : Value, e = .returned v /\ Kd.R kSets 72 w' w.heap.size (fun _ => True) v (R.map fun x => [x]) /\ Below w.heap.size w w'
theorem lv_info42 : (Tryd.prog.info? 42).map (fun i => (i.zero, i.size, i.bytes)) = some (some (.int .u64 0), 1, 8) := by kernel_rfl
theorem lv_info72 : (Tryd.prog.info? 72).map (fun i => (i.zero, i.size, i.bytes)) = some (some (.slice none 0 0), 1, 24) := by kernel_rfl
theorem lv_make (m : Nat) (n : Int) (h : n = m) (hm : m <= 1000001) (W : World) : (Instr.makeSlice 69 (.int .i64 n) (.int .i64 n)).run Tryd.prog W = .ok (.slice (some ⟨W.heap.size, 0, none⟩) m m) (W.alloc (.cells (Array.replicate m (Value.slice none 0 0)) 72)) := by
 have := print_make_of (P := Tryd.prog) 69 72 (.slice none 0 0) 24 Tryd.underlying69 lv_info72 rfl (by omega) m (by omega) W
 rw [h, this]
 have e : madeCells #[Value.slice none 0 0] m = Array.replicate m (Value.slice none 0 0) := by
  apply Array.toList_inj.1
  rw [toList_madeCells_one, Array.toList_replicate]
 rw [e]
theorem lv_make1 (W : World) : (Instr.makeSlice 72 (.int .i64 1) (.int .i64 1)).run Tryd.prog W = .ok (.slice (some ⟨W.heap.size, 0, none⟩) 1 1) (W.alloc (.cells #[.int .u64 0] 42)) := by
 have := print_make_of (P := Tryd.prog) 72 42 (.int .u64 0) 8 Tryd.underlying72 lv_info42 rfl (by omega) 1 (by omega) W
 have e : madeCells #[Value.int .u64 0] 1 = #[.int .u64 0] := by
  apply Array.toList_inj.1
  rw [toList_madeCells_one]; rfl
 rw [e] at this
 exact this
theorem lv_clear (w : World) (g : Nat) (x : Int) (h : w.heap[g]? = some (.cells #[.int .u64 x] 42 (0, 0))) : Sem.run Tryd.prog (Builtin.clear_ #[72] 0 #[.slice (some ⟨g, 0, none⟩) 1 1]) w = .ok (.tuple #[]) (w.setRow g #[.int .u64 0]) := by
 have hz : (zeroValue 42).run Tryd.prog w = .ok (.int .u64 0) w := by kernel_rfl
 have hst := run_storeCells_at Tryd.prog g 0 42 [.int .u64 0] 0 #[.int .u64 x] w h (by simp) (by intro v hv; obtain rfl := List.mem_singleton.1 hv; rfl)
 have e : (Builtin.zeroCells (Value.int .u64 0).cells 1).toList = [.int .u64 0] := by kernel_rfl
 simp [Builtin.clear_, run_underlying Tryd.underlying72, hz, Result.andThen]
 rw [e, hst]
 rfl
theorem R_only {d : Kd Int} {g : Nat} {w w' : World} {base : Nat} {v : Value} {xs : List Int} (h : d.R 3 w base (fun k => k ≠ g) v xs) (o : OnlyAt g w w') : d.R 3 w' base (fun k => k ≠ g) v xs := Kd.R_step h (fun k hk _ => o.far k hk)
theorem LvSt.or {w0 w : World} {g1 gi gw : Nat} {fc : Array Value} {bs : List Nat} {L : List Int} {x : Int} (h : LvSt w0 w g1 gi gw fc bs L x) (y : Int) : LvSt w0 (w.setCell ⟨gw, 0, none⟩ (.int .u64 y)) g1 gi gw fc bs L y :=
 h.now (only_one gw w _) (blk_put h.hn 0 _ rfl)
theorem rd_mem' (ks : List Int) (i : Nat) (h : i < ks.length) : rd ks (i : Int) ∈ ks := by
 unfold rd
 rw [Int.toNat_natCast, List.getD_eq_getElem?_getD, List.getElem?_eq_getElem h]
 exact List.getElem_mem h
theorem foldl_take {β : Type} (f : β -> Int -> β) (a : β) (l : List Int) (j : Nat) (h : j < l.length) : (l.take (j + 1)).foldl f a = f ((l.take j).foldl f a) (rd l (j : Int)) := by
 rw [List.take_succ_eq_append_getElem h, List.foldl_append]
 unfold rd
 rw [Int.toNat_natCast, List.getD_eq_getElem?_getD, List.getElem?_eq_getElem h]
 rfl
theorem eq_calls (g b : Nat) (x y : Int) (w : World) (h1 : w.heap[g]? = some (.cells #[.int .u64 x] 42 (0, 0))) (h2 : w.heap[b]? = some (.cells #[.int .u64 y] 42 (0, 0))) :
  Calls Tryd.prog 44 #[.slice (some ⟨g, 0, none⟩) 1 1, .slice (some ⟨b, 0, none⟩) 1 1] w fun e w' => e = .returned (.bool (x == y)) /\ Drawn0 w w' :=
 flow_Set_uint64.calls 2 (some ⟨g, 0, none⟩) 1 [x] (some ⟨b, 0, none⟩) 1 [y] (x == y) w (one_int h1) (Nat.le_refl _) (one_int h2) (Nat.le_refl _) (equal_f 0 x y)
theorem pv_only {g : Nat} {w w' : World} (o : OnlyAt g w w') {ps : List Addr} {rs : List Int} (h : ∀ (j : Nat) (p : Addr), ps[j]? = some p -> ∃ v : Int, rs[j]? = some v /\ w.cell? p = some (.int .i64 v)) (hf : ∀ p ∈ ps, p.block ≠ g) :
  ∀ (j : Nat) (p : Addr), ps[j]? = some p -> ∃ v : Int, rs[j]? = some v /\ w'.cell? p = some (.int .i64 v) := by
 intro j p hj
 obtain ⟨v, h1, h2⟩ := h j p hj
 exact ⟨v, h1, o.cell h2 (hf p (List.mem_of_getElem? hj))⟩
theorem kP_at {w : World} {A : Option Addr} {n : Nat} {ps : List Addr} (h : kP.C w A n ps) (j : Nat) (p : Addr) (hj : ps[j]? = some p) (hn : j < n) : ∃ ad, A = some ad /\ w.cell? (ad.add j) = some (.pointer (some p)) := by
 obtain ⟨ad, e, hc⟩ := h.2.2 (by omega)
 obtain ⟨c, h1, h2, h3⟩ := hc j p hj
 obtain rfl : c = [.pointer (some p)] := h2
 have := h3 0 _ rfl
 rw [show j * kP.sz + 0 = j by show j * 1 + 0 = j; omega] at this
 exact ⟨ad, e, this⟩
theorem lvWrites_len (i : S44) : (lvWrites i).length <= i.f8.length + 1 := by
 unfold lvWrites
 split
 ·simp
 ·omega
theorem lvReads_len (i : S44) : (lvReads i).length <= i.f7.length + 2 := by
 unfold lvReads lvPre
 rw [List.length_append]
 (repeat' split) <;> simp <;> omega
theorem rd_get (l : List Int) (j : Nat) (v : Int) (h : l[j]? = some v) : rd l (j : Int) = v := by
 unfold rd
 rw [Int.toNat_natCast, List.getD_eq_getElem?_getD, h]
 rfl
def lvBox (nm : ByteArray) (v1 v2 v3 v4 : Value) : Array Value := #[.string nm, v1, v2, v3, v4]
theorem lvMk_start (w : World) (nm : ByteArray) (v1 v2 v3 v4 : Value) (m : Nat) : LvMk w ((w.alloc (.cells (lvBox nm v1 v2 v3 v4) 25)).alloc (.cells (Array.replicate m (Value.slice none 0 0)) 72)) w.heap.size (w.heap.size + 1) (lvBox nm v1 v2 v3 v4) m [] := by
 refine ⟨lv_al (heap_alloc_new w _) _, ?_, by simp, List.nodup_nil, Nat.le_refl _, Nat.le_succ _, by simp, ((Below.refl _ _).alloc (Nat.le_refl _) _).alloc (by simp) _⟩
 have := two_new w (.cells (lvBox nm v1 v2 v3 v4) 25) (.cells (Array.replicate m (Value.slice none 0 0)) 72)
 simpa [lvRow] using this
theorem lvMk_cell {w0 w : World} {g1 gi m : Nat} {fc : Array Value} {bs : List Nat} (h : LvMk w0 w g1 gi fc m bs) (hl : bs.length < m) : w.cell? ⟨gi, bs.length, none⟩ = some (.slice none 0 0) := by
 rw [blk_cell h.hi]
 unfold lvRow
 rw [List.getElem?_toArray, List.getElem?_append_right (by simp), List.length_map, Nat.sub_self, List.getElem?_replicate, if_pos (by omega)]
theorem LvSt.sets {w0 w : World} {g1 gi gw : Nat} {fc : Array Value} {bs : List Nat} {L : List Int} {x : Int} (h : LvSt w0 w g1 gi gw fc bs L x) (n : Nat) (hn : bs.length = n) (hm : n <= 1000001) :
  Kd.R kSets 72 w w0.heap.size (fun _ => True) (.slice (some ⟨gi, 0, none⟩) n n) (L.map fun x => [x]) := by
 subst hn
 refine ⟨fun _ _ => trivial, bs.map lvSl, ?_, ?_⟩
 ·refine ⟨by simp [h.ln, kSets, Kd.slice], .inr ⟨gi, bs.length, _, by simp [h.ln], h.loi, h.hi, by simp [h.ln], by simp only [maxLen]; omega, by simp [kSets, Kd.slice], ?_⟩⟩
  simp [h.ln, kSets, Kd.slice]
  rw [List.take_of_length_le (by simp)]
 ·refine ⟨by simp [h.ln, kSets, Kd.slice], fun j p hj => ?_⟩
  have hjl : j < bs.length := by have := (List.getElem?_eq_some_iff.1 hj).1; simpa [h.ln] using this
  have hp : [rd L (j : Int)] = p := by
   unfold rd
   rw [Int.toNat_natCast, List.getD_eq_getElem?_getD, List.getElem?_eq_getElem (by rw [h.ln]; exact hjl)]
   simpa [h.ln, hjl] using hj
  subst hp
  have e : ((bs.map lvSl).drop (j * kSets.sz)).take kSets.sz = [lvSl bs[j]] := by
   show ((bs.map lvSl).drop (j * 1)).take 1 = _
   rw [Nat.mul_one, List.drop_eq_getElem_cons (by simpa using hjl)]
   simp
  rw [e]
  refine ⟨lvSl bs[j], rfl, fun k hk => ⟨trivial, fun he => ?_⟩, [.int .u64 (rd L (j : Int))], ?_, ?_⟩
  ·have e1 : bs[j] = k := by simpa [lvSl, Value.ownBlock] using hk
   have e2 : k = gi := by simpa [Value.ownBlock] using he
   exact blk_ne (h.hb j hjl) h.hi (by decide) (e1.trans e2)
  ·exact ⟨rfl, .inr ⟨bs[j], 1, _, rfl, h.lob _ (List.getElem_mem hjl), h.hb j hjl, Nat.le_refl _, by simp [maxLen], rfl, rfl⟩⟩
  ·refine ⟨rfl, fun i q hi => ?_⟩
   obtain rfl : i = 0 := by have := (List.getElem?_eq_some_iff.1 hi).1; simp at this; exact this
   have : rd L (j : Int) = q := by simpa using hi
   subst this
   rfl
theorem lv_copied {w0 w : World} {g1 gi gw : Nat} {fc : Array Value} {bs : List Nat} {L : List Int} {x : Int} (h : LvSt w0 w g1 gi gw fc bs L x) (nq : Nat) {q bq : Nat} (hq : q < bs.length) (hb : bs[q] = bq) :
  LvSt w0 ((w.drewN nq).setRow bq #[.int .u64 x]) g1 gi gw fc bs (L.set q x) x := by
 subst hb
 have h2 := h.step (pw_below_drewN (Below.refl w.heap.size w) nq)
 exact h2.put hq (only_row _ _ _) (setRow_heap (w.drewN nq) bs[q] _ _ 42 _ (h2.hb q hq))
set_option maxHeartbeats 4000000 in
set_option maxRecDepth 100000 in
theorem live_calls (nm : ByteArray) (A1 : Option Addr) (c1 : Nat) (l1 : List Int) (A2 : Option Addr) (c2 : Nat) (l2 : List Int) (A3 : Option Addr) (c3 : Nat) (l3 : List Int) (A4 : Option Addr) (c4 : Nat) (code : List S44) (w : World)
  (hr1 : Kd.C (Kd.int .i64) w A1 l1.length l1) (hc1 : l1.length <= c1) (hr2 : Kd.C (Kd.int .i64) w A2 l2.length l2) (hc2 : l2.length <= c2) (hr3 : Kd.C (Kd.int .i64) w A3 l3.length l3) (hc3 : l3.length <= c3) (hr4 : Kd.C k44 w A4 code.length code) (hc4 : code.length <= c4)
  (h64 : l2.length < 64) (hok : LvOk code) (K : Nat) (R : List Int) (hrun : lvRun code K (List.replicate (code.length + 1) 0) = some R) :
  Calls Tryd.prog 24 #[.agg #[.string nm, .slice A1 l1.length c1, .slice A2 l2.length c2, .slice A3 l3.length c3, .slice A4 code.length c4]] w (LivePost R w) := by
 have hu25 := Tryd.underlying25
 have hu44 := Tryd.underlying44
 have HR1 := Aside0.mk hr1
 have HR2 := Aside0.mk hr2
 have HR3 := Aside0.mk hr3
 have HR4 := Aside0.mk hr4
 have HC1 := Aside0.mk hc1
 have HC2 := Aside0.mk hc2
 have HC3 := Aside0.mk hc3
 have HC4 := Aside0.mk hc4
 have HOK := Aside0.mk hok
 have HRUN := Aside0.mk hrun
 have hcl : code.length <= 1000000 := hok.len
 obtain ⟨m, hm⟩ : ∃ m, m = code.length + 1 := ⟨_, rfl⟩
 have hmk := lv_make m ((code.length : Int) + 1) (by omega) (by omega)
 have hmk1 := lv_make1
 have hm1 : m <= 1000001 := by omega
 have HM := Aside0.mk hm
 have hdiv : (l2.length : Int) / 64 = 0 := by omega
 have hdivn : l2.length / 64 = 0 := by omega
 clear hr1 hr2 hr3 hr4 hc1 hc2 hc3 hc4 hok hrun hm
 obtain ⟨fc, hfc⟩ : ∃ fc, fc = lvBox nm (.slice A1 l1.length c1) (.slice A2 l2.length c2) (.slice A3 l3.length c3) (.slice A4 code.length c4) := ⟨_, rfl⟩
 have HFC := Aside0.mk hfc
 clear hfc
 go_enter Tryd.func24, Tryd.ntmps24
 go_upto_region 1 with (fail)
 go_cut [3] (fun v3 wc => ∃ gi, v3 = .slice (some ⟨gi, 0, none⟩) m m /\ Aside0 (LvMk w wc w.heap.size gi fc m []))
 case first =>
  go_wp2
  go_meet
  case rel => exact ⟨w.heap.size + 1, rfl, ⟨by rw [HFC.out]; exact lvMk_start w nm _ _ _ _ m⟩⟩
 case rest =>
  obtain ⟨gi, rfl, HMK⟩ := hcut
  have hg2 : wc.cell? ⟨w.heap.size, 2, none⟩ = some (.slice A2 l2.length c2) := (blk_cell HMK.out.hf 2).trans (by rw [HFC.out]; rfl)
  go_upto_region 3 with (fail)
  go_wp2
  go_loopg [5, 30] m (fun gg v5 v30 w' => ∃ (n : Nat) (bs : List Nat), bs.length = n /\ n <= m /\ m - n <= gg /\ v30 = .int .i64 n /\ Aside0 (LvMk w w' w.heap.size gi fc m bs))
  case atStart => exact ⟨0, [], rfl, Nat.zero_le _, by omega, rfl, HMK⟩
  case round =>
   clear HMK hg2
   obtain ⟨n, bs, hbs, hnm, hgg, rfl, HMK⟩ := hrel
   by_cases hlt : n < m
   ·have hcell : wr.cell? ⟨gi, n, none⟩ = some (.slice none 0 0) := by rw [<- hbs]; exact lvMk_cell HMK.out (by omega)
    have hfro := blk_frozen HMK.out.hi n
    have hgil : gi < wr.heap.size := blk_lt HMK.out.hi
    have hn1 : (n : Int) <= 1000001 := by omega
    have HBS := Aside0.mk hbs
    clear hbs
    go_wp2
    go_roundg (m - (n + 1))
    case measure => omega
    case rel => exact ⟨n + 1, bs ++ [wr.heap.size], by simp [HBS.out], by omega, by omega, by go_num, ⟨HMK.out.step (by rw [HBS.out]; exact hlt) n HBS.out.symm⟩⟩
   ·obtain rfl : n = m := by omega
    have HBS := Aside0.mk hbs
    clear hbs
    go_upto_region 8 with (fail)
    go_cut [6] (fun v6 wc => ∃ gw, v6 = .slice (some ⟨gw, 0, none⟩) 1 1 /\ Aside0 (LvSt w wc w.heap.size gi gw fc bs (List.replicate n 0) 0))
    case first =>
     go_wp2
     go_meet
     case rel => exact ⟨_, rfl, ⟨HMK.out.done HBS.out⟩⟩
    case rest =>
     clear HMK
     obtain ⟨gw, rfl, HST⟩ := hcut
     go_wp2
     go_loopg [7] K (fun gg v7 w' => ∃ (b : Bool) (kq : Nat) (L : List Int) (x : Int), v7 = .bool b /\ kq <= gg /\ Aside0 (if b = true then lvRun code kq L = some R else L = R) /\ Aside0 (LvSt w w' w.heap.size gi gw fc bs L x))
     case atStart => exact ⟨true, K, _, 0, rfl, Nat.le_refl _, ⟨by rw [if_pos rfl, HM.out]; exact HRUN.out⟩, HST⟩
     case round =>
      clear HST
      obtain ⟨b, kq, L, x, rfl, hkq, HL, HST⟩ := hrel
      cases b with
      | false =>
       have HL2 := Aside0.mk (show L = R by have := HL.out; rwa [if_neg (by decide)] at this)
       go_wp2
       refine bodyPost_ret (v := .slice (some ⟨gi, 0, none⟩) n n) (by simp [results, Tryd.results24, go_sem]) rfl ⟨_, rfl, ?_, HST.out.below⟩
       rw [<- HL2.out]
       exact HST.out.sets n HBS.out (by omega)
      | true =>
       have HL2 := Aside0.mk (show lvRun code kq L = some R by have := HL.out; rwa [if_pos rfl] at this)
       clear HL
       cases kq with
       | zero => exact absurd HL2.out (by simp [lvRun])
       | succ k1 =>
        obtain ⟨⟨L', b'⟩, hin⟩ : ∃ y, lvIn code code.length L false = y := ⟨_, rfl⟩
        have HRN := Aside0.mk (show if b' = true then lvRun code k1 L' = some R else L' = R by
         have := HL2.out
         simp only [lvRun, hin] at this
         cases b' with
         | true => simpa using this
         | false => simpa using this)
        have HIN := Aside0.mk hin
        clear HL2 hin
        have hg4 : wr.cell? ⟨w.heap.size, 4, none⟩ = some (.slice A4 code.length c4) := (blk_cell HST.out.hf 4).trans (by rw [HFC.out]; rfl)
        go_wp2
        clear hg4
        go_loopg [7, 8] code.length (fun gg v7 v8 w' => ∃ (p : Nat) (z : Int) (b : Bool) (L1 : List Int) (x : Int), z + 1 = p /\ p <= code.length /\ p <= gg /\ v8 = .int .i64 z /\ v7 = .bool b /\ Aside0 (lvIn code p L1 b = (L', b')) /\ Aside0 (LvSt w w' w.heap.size gi gw fc bs L1 x))
        case atStart => exact ⟨code.length, _, false, L, x, by omega, Nat.le_refl _, Nat.le_refl _, rfl, rfl, HIN, HST⟩
        case round =>
         clear HST HIN
         obtain ⟨p, z, b, L1, x, hz, hpl, hpg, rfl, rfl, HIN, HST⟩ := hrel
         by_cases hz0 : 0 <= z
         ·obtain ⟨q, rfl⟩ := Int.eq_ofNat_of_zero_le hz0
          obtain rfl : p = q + 1 := by omega
          clear hz
          have hq : q < code.length := by omega
          have p0 : 0 <= (q : Int) := by omega
          have q0 : (q : Int) < (code.length : Int) := by omega
          obtain ⟨ad, A7, c7, A8, c8, ea, hx0, hx1, hx2, hx3, hx4, hx5, hx6, hx7, hx8, hx9, hl7, hi7, hl8, hi8⟩ := at_T44 HR4.out (q : Int) p0 q0
          subst ea
          rw [Int.toNat_natCast] at hx0 hx1 hx2 hx3 hx4 hx5 hx6 hx7 hx8 hx9
          replace hx0 := pw_cell_below HST.out.below hx0
          replace hx1 := pw_cell_below HST.out.below hx1
          replace hx2 := pw_cell_below HST.out.below hx2
          replace hx3 := pw_cell_below HST.out.below hx3
          replace hx4 := pw_cell_below HST.out.below hx4
          replace hx5 := pw_cell_below HST.out.below hx5
          replace hx6 := pw_cell_below HST.out.below hx6
          replace hx7 := pw_cell_below HST.out.below hx7
          replace hx8 := pw_cell_below HST.out.below hx8
          replace hx9 := pw_cell_below HST.out.below hx9
          have HI7 := Aside0.mk hi7
          have HI8 := Aside0.mk hi8
          have HL7 := Aside0.mk hl7
          have HL8 := Aside0.mk hl8
          clear hi7 hi8 hl7 hl8
          have hg4 : wr.cell? ⟨w.heap.size, 4, none⟩ = some (.slice (some ad) code.length c4) := (blk_cell HST.out.hf 4).trans (by rw [HFC.out]; rfl)
          go_upto_region 15 with (fail)
          go_cut [9] (fun v9 wc => ∃ g9, v9 = .pointer (some ⟨g9, 0, none⟩) /\ Aside0 (wc.heap[g9]? = some (.cells (i44 (rd_T44 code q) A7 c7 A8 c8) 44 (0, 0))) /\ Aside0 (LvSt w wc w.heap.size gi gw fc bs L1 x))
          case first =>
           go_wp2
           go_meet
           case rel => exact ⟨wr.heap.size, rfl, ⟨heap_alloc_new wr _⟩, ⟨HST.out.step ((Below.refl _ _).alloc (Nat.le_refl _) _)⟩⟩
          case rest =>
           clear HST hx0 hx1 hx2 hx3 hx4 hx5 hx6 hx7 hx8 hx9 hg4
           obtain ⟨g9, rfl, H9, HST⟩ := hcut
           have hcn := HST.out.cell_now
           have hfn := blk_frozen HST.out.hn 0
           go_upto_region 16 with (fail)
           go_cut [] (fun wc => Aside0 (wc.heap[g9]? = some (.cells (i44 (rd_T44 code q) A7 c7 A8 c8) 44 (0, 0))) /\ Aside0 (LvSt w wc w.heap.size gi gw fc bs L1 0))
           case first =>
            have hclr := lv_clear wc gw x HST.out.hn
            go_wp2
            go_meet
            case rel => exact ⟨⟨((only_row gw wc _).far _ (blk_ne H9.out HST.out.hn (by decide))).trans H9.out⟩, ⟨HST.out.now (only_row gw wc _) (setRow_heap wc gw _ _ 42 _ HST.out.hn)⟩⟩
           case rest =>
            clear hcn hfn H9 HST
            obtain ⟨H9, HST⟩ := hcut
            obtain ⟨ns, hns⟩ : ∃ y, y = lvNext code q := ⟨_, rfl⟩
            have HNX := Aside0.mk (show flow_Next.f 1 nm l1 l2 l3 code (q : Int) = some ns by rw [hns]; exact next_f 0 nm l1 l2 l3 code q hq hcl)
            have HNS := Aside0.mk hns
            have HNM := Aside0.mk (show ∀ m ∈ ns, 0 <= m /\ m <= code.length by rw [hns]; exact HOK.out.next q hq)
            clear hns
            go_upto_region 17 with (fail)
            go_cut [58, 59, 60] (fun v58 v59 v60 wc => ∃ An cn, v58 = .slice An ns.length cn /\ v59 = .int .i64 ns.length /\ v60 = .int .i64 0 /\ Aside0 (Kd.R (Kd.int .i64) 3 wc w.heap.size (fun k => k ≠ gw) (.slice An ns.length cn) ns) /\ Aside0 (wc.heap[g9]? = some (.cells (i44 (rd_T44 code q) A7 c7 A8 c8) 44 (0, 0))) /\ Aside0 (LvSt w wc w.heap.size gi gw fc bs L1 0))
            case first =>
             have hg0 : wc.cell? ⟨w.heap.size, 0, none⟩ = some (.string nm) := (blk_cell HST.out.hf 0).trans (by rw [HFC.out]; rfl)
             have hg1 : wc.cell? ⟨w.heap.size, 1, none⟩ = some (.slice A1 l1.length c1) := (blk_cell HST.out.hf 1).trans (by rw [HFC.out]; rfl)
             have hg2 : wc.cell? ⟨w.heap.size, 2, none⟩ = some (.slice A2 l2.length c2) := (blk_cell HST.out.hf 2).trans (by rw [HFC.out]; rfl)
             have hg3 : wc.cell? ⟨w.heap.size, 3, none⟩ = some (.slice A3 l3.length c3) := (blk_cell HST.out.hf 3).trans (by rw [HFC.out]; rfl)
             have hg4 : wc.cell? ⟨w.heap.size, 4, none⟩ = some (.slice (some ad) code.length c4) := (blk_cell HST.out.hf 4).trans (by rw [HFC.out]; rfl)
             go_wp2_with (first | (go_at_call 41; (with_reducible refine (flow_Next.calls 1 nm A1 c1 l1 A2 c2 l2 A3 c3 l3 (some ad) c4 code (q : Int) ns _ (Kd.C_below HR1.out HST.out.below) HC1.out (Kd.C_below HR2.out HST.out.below) HC2.out (Kd.C_below HR3.out HST.out.below) HC3.out (Kd.C_below HR4.out HST.out.below) HC4.out HNX.out).mono ?_); rintro e w58 ⟨v58, rfl, hr58, hb⟩; obtain ⟨An, cn, en⟩ := Kd.R_slice hr58; subst en; have n0_ := Aside0.mk (HST.out.step hb); have n1_ := Aside0.mk (blk_below H9.out hb); have n2_ := Aside0.mk (Kd.R_lower hr58 HST.out.below.size); clear HST H9 hr58 hb; have HST := n0_; have H9 := n1_; have RN := n2_; clear n0_ n1_ n2_))
             go_meet
             case rel => exact ⟨An, cn, rfl, rfl, rfl, ⟨Kd.R_mono (Kd.R_types RN.out HST.out.hn (by decide)) (fun k hk => hk.2)⟩, H9, HST⟩
            case rest =>
             clear H9 HST HNX
             obtain ⟨An, cn, rfl, rfl, rfl, RN, H9, HST⟩ := hcut
             go_wp2
             go_loopg [60] ns.length (fun gg v60 w' => ∃ j : Nat, j <= ns.length /\ ns.length - j <= gg /\ v60 = .int .i64 j /\ Aside0 (Kd.R (Kd.int .i64) 3 w' w.heap.size (fun k => k ≠ gw) (.slice An ns.length cn) ns) /\ Aside0 (w'.heap[g9]? = some (.cells (i44 (rd_T44 code q) A7 c7 A8 c8) 44 (0, 0))) /\ Aside0 (LvSt w w' w.heap.size gi gw fc bs L1 ((ns.take j).foldl (lvOr L1) 0)))
             case atStart => exact ⟨0, Nat.zero_le _, by omega, rfl, RN, H9, HST⟩
             case round =>
              clear RN H9 HST
              obtain ⟨j, hjl, hjg, rfl, RN, H9, HST⟩ := hrel
              by_cases hlt : j < ns.length
              ·obtain ⟨X, hX⟩ : ∃ y, y = (ns.take j).foldl (lvOr L1) 0 := ⟨_, rfl⟩
               rw [<- hX] at HST
               have HX := Aside0.mk hX
               clear hX
               have j0 : 0 <= (j : Int) := by omega
               have j1 : (j : Int) < (ns.length : Int) := by omega
               obtain ⟨adn, ean, hxn⟩ := Kd.at_int (Kd.R_reads' RN.out).2.2 (j : Int) j0 j1
               subst ean
               rw [Int.toNat_natCast] at hxn
               obtain ⟨hm0, hmc⟩ := HNM.out _ (rd_mem' ns j hlt)
               obtain ⟨mm, hmm⟩ := Int.eq_ofNat_of_zero_le hm0
               rw [hmm] at hxn hmc
               have HMM := Aside0.mk hmm
               clear hmm hm0
               have hmb : mm < bs.length := by have := HBS.out; have := HM.out; omega
               have hmn : (mm : Int) < (n : Int) := by have := HM.out; omega
               have hmn2 : mm < n := by omega
               have hjs : (j : Int) <= 3 := by have := lvNext_len code q; rw [<- HNS.out] at this; omega
               obtain ⟨bm, hbm⟩ : ∃ b, bs[mm] = b := ⟨_, rfl⟩
               have hrow : wr.cell? ⟨gi, mm, none⟩ = some (.slice (some ⟨bm, 0, none⟩) 1 1) := by rw [<- hbm]; exact HST.out.cell_row mm hmb
               have HBM := Aside0.mk hbm
               clear hbm
               go_wp2
               go_loopg [69] 1 (fun gg v69 w' => ∃ r : Nat, r <= 1 /\ 1 - r <= gg /\ v69 = .int .i64 r /\ Aside0 (Kd.R (Kd.int .i64) 3 w' w.heap.size (fun k => k ≠ gw) (.slice (some adn) ns.length cn) ns) /\ Aside0 (w'.heap[g9]? = some (.cells (i44 (rd_T44 code q) A7 c7 A8 c8) 44 (0, 0))) /\ Aside0 (LvSt w w' w.heap.size gi gw fc bs L1 (if r = 0 then X else lvOr L1 X mm)))
               case atStart => exact ⟨0, by omega, by omega, rfl, RN, H9, HST⟩
               case round =>
                clear RN H9 HST hrow hxn
                obtain ⟨r, hr1, hrg, rfl, RN, H9, HST⟩ := hrel
                have hr01 : r = 0 ∨ r = 1 := by omega
                clear hr1
                rcases hr01 with rfl | rfl
                ·have HST2 := Aside0.mk (show LvSt w wr w.heap.size gi gw fc bs L1 X by have := HST.out; rwa [if_pos rfl] at this)
                 clear HST
                 have hset : wr.cell? ⟨bm, 0, none⟩ = some (.int .u64 (rd L1 (mm : Int))) := by rw [<- HBM.out]; exact HST2.out.cell_set mm hmb
                 have hnow := HST2.out.cell_now
                 have hfro := blk_frozen HST2.out.hn 0
                 go_wp2
                 go_roundg 0
                 case measure => omega
                 case rel => exact ⟨1, by omega, by omega, by go_num, ⟨R_only RN.out (only_one gw wr _)⟩, ⟨((only_one gw wr _).far _ (blk_ne H9.out HST2.out.hn (by decide))).trans H9.out⟩, ⟨by rw [if_neg (by decide)]; exact HST2.out.or _⟩⟩
                ·have HST2 := Aside0.mk (show LvSt w wr w.heap.size gi gw fc bs L1 (lvOr L1 X mm) by have := HST.out; rwa [if_neg (by decide)] at this)
                 clear HST
                 go_wp2
                 go_roundg (ns.length - (j + 1))
                 case measure => omega
                 case rel => exact ⟨j + 1, by omega, by omega, by go_num, RN, H9, ⟨by rw [foldl_take _ _ _ _ hlt, <- HX.out, HMM.out]; exact HST2.out⟩⟩
              ·obtain rfl : j = ns.length := by omega
               obtain ⟨X1, hX1⟩ : ∃ y, y = ns.foldl (lvOr L1) 0 := ⟨_, rfl⟩
               rw [List.take_length, <- hX1] at HST
               have HX1 := Aside0.mk hX1
               obtain ⟨ws, hws⟩ : ∃ y, y = lvWrites (rd_T44 code q) := ⟨_, rfl⟩
               have HWS := Aside0.mk hws
               have HWM := Aside0.mk (show ∀ r ∈ ws, 0 <= r /\ r < 64 by rw [hws]; exact HOK.out.wr q hq)
               clear hX1 hws RN
               go_upto_region 26 with (fail)
               go_cut [84, 85, 86] (fun v84 v85 v86 wc => ∃ Aw cw, v84 = .slice Aw ws.length cw /\ v85 = .int .i64 ws.length /\ v86 = .int .i64 0 /\ Aside0 ((Kd.int .i64).C wc Aw ws.length ws) /\ Aside0 (∀ ad, Aw = some ad -> 0 < ws.length -> ad.block ≠ gw) /\ Aside0 (wc.heap[g9]? = some (.cells (i44 (rd_T44 code q) A7 c7 A8 c8) 44 (0, 0))) /\ Aside0 (LvSt w wc w.heap.size gi gw fc bs L1 X1))
               case first =>
                have hi0 : wr.cell? ⟨g9, 0, none⟩ = some (.int .i64 (rd_T44 code q).f0) := (blk_cell H9.out 0).trans rfl
                have hi1 : wr.cell? ⟨g9, 1, none⟩ = some (.int .i64 (rd_T44 code q).f1) := (blk_cell H9.out 1).trans rfl
                have hi2 : wr.cell? ⟨g9, 2, none⟩ = some (.int .i64 (rd_T44 code q).f2) := (blk_cell H9.out 2).trans rfl
                have hi3 : wr.cell? ⟨g9, 3, none⟩ = some (.int .i64 (rd_T44 code q).f3) := (blk_cell H9.out 3).trans rfl
                have hi4 : wr.cell? ⟨g9, 4, none⟩ = some (.int .u64 (rd_T44 code q).f4) := (blk_cell H9.out 4).trans rfl
                have hi5 : wr.cell? ⟨g9, 5, none⟩ = some (.int .i64 (rd_T44 code q).f5) := (blk_cell H9.out 5).trans rfl
                have hi6 : wr.cell? ⟨g9, 6, none⟩ = some (.string (rd_T44 code q).f6) := (blk_cell H9.out 6).trans rfl
                have hi7 : wr.cell? ⟨g9, 7, none⟩ = some (.slice A7 (rd_T44 code q).f7.length c7) := (blk_cell H9.out 7).trans rfl
                have hi8 : wr.cell? ⟨g9, 8, none⟩ = some (.slice A8 (rd_T44 code q).f8.length c8) := (blk_cell H9.out 8).trans rfl
                have hi9 : wr.cell? ⟨g9, 9, none⟩ = some (.int .i64 (rd_T44 code q).f9) := (blk_cell H9.out 9).trans rfl
                go_wp2_with (first | (go_at_call 29; (with_reducible refine (wr_calls (rd_T44 code q) A7 (rd_T44 code q).f7.length c7 A8 c8 _ HL8.out (Kd.C_below HI8.out HST.out.below)).mono ?_); rintro e w84 ⟨Aw, cw, rfl, hcw, hrw, hb, hfar⟩; have n0_ := Aside0.mk (HST.out.step hb); have n1_ := Aside0.mk (blk_below H9.out hb); have n2_ := Aside0.mk hrw; have n3_ := Aside0.mk (hfar gw (Kd.far_C (0 : Int) HI8.out HST.out.low) (blk_lt HST.out.hn)); clear HST H9 hrw hb hfar hcw; have HST := n0_; have H9 := n1_; have RW := n2_; have FW := n3_; clear n0_ n1_ n2_ n3_))
                rw [<- HWS.out] at RW FW
                go_meet
                case rel => exact ⟨Aw, cw, by rw [HWS.out], by rw [HWS.out], rfl, RW, FW, H9, HST⟩
               case rest =>
                clear H9 HST
                obtain ⟨Aw, cw, rfl, rfl, rfl, RW, FW, H9, HST⟩ := hcut
                go_wp2
                go_loopg [86] ws.length (fun gg v86 w' => ∃ j : Nat, j <= ws.length /\ ws.length - j <= gg /\ v86 = .int .i64 j /\ Aside0 ((Kd.int .i64).C w' Aw ws.length ws) /\ Aside0 (w'.heap[g9]? = some (.cells (i44 (rd_T44 code q) A7 c7 A8 c8) 44 (0, 0))) /\ Aside0 (LvSt w w' w.heap.size gi gw fc bs L1 (lvPuts false X1 (ws.take j))))
                case atStart => exact ⟨0, Nat.zero_le _, by omega, rfl, RW, H9, HST⟩
                case round =>
                 clear RW H9 HST
                 obtain ⟨j, hjl, hjg, rfl, RW, H9, HST⟩ := hrel
                 by_cases hlt : j < ws.length
                 ·obtain ⟨X, hX⟩ : ∃ y, y = lvPuts false X1 (ws.take j) := ⟨_, rfl⟩
                  rw [<- hX] at HST
                  have HX := Aside0.mk hX
                  clear hX
                  have j0 : 0 <= (j : Int) := by omega
                  have j1 : (j : Int) < (ws.length : Int) := by omega
                  obtain ⟨adw, eaw, hxw⟩ := Kd.at_int RW.out (j : Int) j0 j1
                  subst eaw
                  rw [Int.toNat_natCast] at hxw
                  obtain ⟨hr0, hr6⟩ := HWM.out _ (rd_mem' ws j hlt)
                  obtain ⟨rr, hrr⟩ : ∃ y, rd ws (j : Int) = y := ⟨_, rfl⟩
                  rw [hrr] at hxw hr0 hr6
                  have HRR := Aside0.mk hrr
                  clear hrr
                  have hjs : (j : Int) <= 1000001 := by have h1 := lvWrites_len (rd_T44 code q); rw [<- HWS.out] at h1; have := HOK.out.outs q hq; omega
                  go_wp2_with (first | (go_at_call 42; (with_reducible refine (put_calls gw X rr false _ HST.out.hn hr0 hr6).mono ?_); rintro e w92 ⟨rfl, hx, ho⟩; have n0_ := Aside0.mk (HST.out.now ho hx); have n1_ := Aside0.mk ((ho.far _ (blk_ne H9.out HST.out.hn (by decide))).trans H9.out); have n2_ := Aside0.mk (ho.reads (0 : Int) RW.out FW.out); clear HST H9 RW hx ho; have HST := n0_; have H9 := n1_; have RW := n2_; clear n0_ n1_ n2_))
                  go_roundg (ws.length - (j + 1))
                  case measure => omega
                  case rel => exact ⟨j + 1, by omega, by omega, by go_num, RW, H9, ⟨by unfold lvPuts; rw [foldl_take _ _ _ _ hlt, HRR.out]; have h1 := HST.out; rw [HX.out] at h1; exact h1⟩⟩
                 ·obtain rfl : j = ws.length := by omega
                  obtain ⟨X2, hX2⟩ : ∃ y, y = lvPuts false X1 ws := ⟨_, rfl⟩
                  rw [List.take_length, <- hX2] at HST
                  have HX2 := Aside0.mk hX2
                  obtain ⟨rs, hrs⟩ : ∃ y, y = lvReads (rd_T44 code q) := ⟨_, rfl⟩
                  have HRS := Aside0.mk hrs
                  have HRM := Aside0.mk (show ∀ r ∈ rs, 0 <= r /\ r < 64 by rw [hrs]; exact HOK.out.rds q hq)
                  clear hX2 hrs RW FW
                  go_upto_region 31 with (fail)
                  go_cut [94, 95, 96] (fun v94 v95 v96 wc => ∃ Ar cr ps, v94 = .slice Ar ps.length cr /\ v95 = .int .i64 ps.length /\ v96 = .int .i64 0 /\ Aside0 (kP.C wc Ar ps.length ps) /\ Aside0 (ps.length = rs.length) /\ Aside0 (∀ (j : Nat) (p : Addr), ps[j]? = some p -> ∃ v : Int, rs[j]? = some v /\ wc.cell? p = some (.int .i64 v)) /\ Aside0 ((∀ ad, Ar = some ad -> 0 < ps.length -> ad.block ≠ gw) /\ ∀ p ∈ ps, p.block ≠ gw) /\ Aside0 (wc.heap[g9]? = some (.cells (i44 (rd_T44 code q) A7 c7 A8 c8) 44 (0, 0))) /\ Aside0 (LvSt w wc w.heap.size gi gw fc bs L1 X2))
                  case first =>
                   go_wp2_with (first | (go_at_call 43; (with_reducible refine (rd_calls g9 (rd_T44 code q) A7 c7 A8 c8 _ H9.out HL7.out (Kd.C_below HI7.out HST.out.below) (HOK.out.args q hq)).mono ?_); rintro e w94 ⟨Ar, cr, ps, rfl, hcr, hrr, hpl, hpv, hb, hfar⟩; have n0_ := Aside0.mk (HST.out.step hb); have n1_ := Aside0.mk (blk_below H9.out hb); have n2_ := Aside0.mk hrr; have n3_ := Aside0.mk (hfar gw (blk_ne HST.out.hn H9.out (by decide)) (Kd.far_C (0 : Int) HI7.out HST.out.low) (blk_lt HST.out.hn)); have n4_ := Aside0.mk hpl; have n5_ := Aside0.mk hpv; clear HST H9 hrr hb hfar hcr hpl hpv; have HST := n0_; have H9 := n1_; have RP := n2_; have FP := n3_; have HPL := n4_; have HPV := n5_; clear n0_ n1_ n2_ n3_ n4_ n5_))
                   go_meet
                   case rel => exact ⟨Ar, cr, ps, rfl, rfl, rfl, RP, ⟨by rw [HRS.out]; exact HPL.out⟩, ⟨by rw [HRS.out]; exact HPV.out⟩, FP, H9, HST⟩
                  case rest =>
                   clear H9 HST
                   obtain ⟨Ar, cr, ps, rfl, rfl, rfl, RP, HPL, HPV, FP, H9, HST⟩ := hcut
                   go_wp2
                   go_loopg [96] ps.length (fun gg v96 w' => ∃ j : Nat, j <= ps.length /\ ps.length - j <= gg /\ v96 = .int .i64 j /\ Aside0 (kP.C w' Ar ps.length ps) /\ Aside0 (∀ (j : Nat) (p : Addr), ps[j]? = some p -> ∃ v : Int, rs[j]? = some v /\ w'.cell? p = some (.int .i64 v)) /\ Aside0 (w'.heap[g9]? = some (.cells (i44 (rd_T44 code q) A7 c7 A8 c8) 44 (0, 0))) /\ Aside0 (LvSt w w' w.heap.size gi gw fc bs L1 (lvPuts true X2 (rs.take j))))
                   case atStart => exact ⟨0, Nat.zero_le _, by omega, rfl, RP, HPV, H9, HST⟩
                   case round =>
                    clear RP HPV H9 HST
                    obtain ⟨j, hjl, hjg, rfl, RP, HPV, H9, HST⟩ := hrel
                    by_cases hlt : j < ps.length
                    ·obtain ⟨X, hX⟩ : ∃ y, y = lvPuts true X2 (rs.take j) := ⟨_, rfl⟩
                     rw [<- hX] at HST
                     have HX := Aside0.mk hX
                     clear hX
                     have hjp : ps[j]? = some ps[j] := List.getElem?_eq_getElem hlt
                     obtain ⟨pp, hpp⟩ : ∃ y, ps[j] = y := ⟨_, rfl⟩
                     rw [hpp] at hjp
                     obtain ⟨adr, ear, hxr⟩ := kP_at RP.out j pp hjp hlt
                     subst ear
                     obtain ⟨rr, hrr, hxp⟩ := HPV.out j pp hjp
                     have hlr : j < rs.length := (List.getElem?_eq_some_iff.1 hrr).1
                     obtain ⟨hr0, hr6⟩ := HRM.out rr (List.mem_of_getElem? hrr)
                     have HRR := Aside0.mk (rd_get rs j rr hrr)
                     have HLR := Aside0.mk hlr
                     have j0 : 0 <= (j : Int) := by omega
                     have j1 : (j : Int) < (ps.length : Int) := by omega
                     have hjs : (j : Int) <= 17592186043906 := by have h1 := lvReads_len (rd_T44 code q); rw [<- HRS.out] at h1; have := HOK.out.args q hq; omega
                     clear hrr hpp hjp hlr
                     go_wp2_with (first | (go_at_call 42; (with_reducible refine (put_calls gw X rr true _ HST.out.hn hr0 hr6).mono ?_); rintro e w104 ⟨rfl, hx, ho⟩; have n0_ := Aside0.mk (HST.out.now ho hx); have n1_ := Aside0.mk ((ho.far _ (blk_ne H9.out HST.out.hn (by decide))).trans H9.out); have n2_ := Aside0.mk (ho.reads (⟨0, 0, none⟩ : Addr) RP.out FP.out.1); have n3_ := Aside0.mk (pv_only ho HPV.out FP.out.2); clear HST H9 RP HPV hx ho; have HST := n0_; have H9 := n1_; have RP := n2_; have HPV := n3_; clear n0_ n1_ n2_ n3_))
                     go_roundg (ps.length - (j + 1))
                     case measure => omega
                     case rel => exact ⟨j + 1, by omega, by omega, by go_num, RP, HPV, H9, ⟨by unfold lvPuts; rw [foldl_take _ _ _ _ HLR.out, HRR.out]; have h1 := HST.out; rw [HX.out] at h1; exact h1⟩⟩
                    ·obtain rfl : j = ps.length := by omega
                     obtain ⟨X3, hX3⟩ : ∃ y, y = lvPuts true X2 rs := ⟨_, rfl⟩
                     rw [HPL.out, List.take_length, <- hX3] at HST
                     have HX3 := Aside0.mk (show lvNow code L1 q = X3 by unfold lvNow; rw [hX3, HX2.out, HX1.out, HRS.out, HWS.out, HNS.out])
                     clear hX3 RP HPV FP
                     have hqb : q < bs.length := by have := HBS.out; have := HM.out; omega
                     obtain ⟨bq, hbq⟩ : ∃ b, bs[q] = b := ⟨_, rfl⟩
                     have hrow : wr.cell? ⟨gi, q, none⟩ = some (.slice (some ⟨bq, 0, none⟩) 1 1) := by rw [<- hbq]; exact HST.out.cell_row q hqb
                     have HBK := Aside0.mk (show wr.heap[bq]? = some (.cells #[.int .u64 (rd L1 (q : Int))] 42 (0, 0)) by rw [<- hbq]; exact HST.out.hb q hqb)
                     have HBQ := Aside0.mk hbq
                     clear hbq
                     have hqn : (q : Int) < (n : Int) := by have := HM.out; omega
                     have hqn2 : q < n := by omega
                     by_cases hxy : X3 = rd L1 (q : Int)
                     ·have hb1 : (X3 == rd L1 (q : Int)) = true := by rw [hxy]; exact beq_self_eq_true _
                      have HXY := Aside0.mk hxy
                      clear hxy
                      go_wp2_with (first | (go_at_call 44; (with_reducible refine (eq_calls gw bq X3 (rd L1 (q : Int)) _ HST.out.hn HBK.out).mono ?_); rintro e w111 ⟨rfl, hd⟩; obtain ⟨nq, rfl⟩ := hd.out; rw [hb1]))
                      go_roundg q
                      case measure => omega
                      case rel => exact ⟨q, (q : Int) - 1, b, L1, X3, by omega, by omega, by omega, rfl, rfl, ⟨by have h1 := HIN.out; rw [lvIn, HX3.out, if_pos HXY.out] at h1; exact h1⟩, ⟨HST.out.step (pw_below_drewN (Below.refl _ _) nq)⟩⟩
                     ·have hb1 : (X3 == rd L1 (q : Int)) = false := by simpa using hxy
                      have HXY := Aside0.mk hxy
                      clear hxy
                      go_wp2_with (first | (go_at_call 44; (with_reducible refine (eq_calls gw bq X3 (rd L1 (q : Int)) _ HST.out.hn HBK.out).mono ?_); rintro e w111 ⟨rfl, hd⟩; obtain ⟨nq, rfl⟩ := hd.out; rw [hb1]) | ((with_reducible refine gate_builtin (b := .copy) (xs := #[.tmp 116, .tmp 117]) rfl ?_); refine wpList_copy_own rfl (.tmp 116) (.tmp 117) 72 72 rfl 42 Tryd.underlying72 (by kernel_rfl) bq 0 1 1 ⟨gw, 0, none⟩ 1 1 rfl rfl #[.int .u64 (rd L1 (q : Int))] 42 HBK.out [.int .u64 X3] rfl (by intro j v hj; obtain rfl : j = 0 := (by have := (List.getElem?_eq_some_iff.1 hj).1; simp at this; exact this); have e : Value.int .u64 X3 = v := (by simpa using hj); rw [<- e]; exact HST.out.cell_now) (by simp) (by intro v hv; obtain rfl := List.mem_singleton.1 hv; rfl) ?_))
                      go_roundg q
                      case measure => omega
                      case rel => exact ⟨q, (q : Int) - 1, true, L1.set q X3, X3, by omega, by omega, by omega, rfl, rfl, ⟨by have h1 := HIN.out; rw [lvIn, HX3.out, if_neg HXY.out] at h1; exact h1⟩, ⟨lv_copied HST.out nq hqb HBQ.out⟩⟩
         ·obtain rfl : p = 0 := by omega
          obtain rfl : z = -1 := by omega
          have HE := Aside0.mk (show L1 = L' /\ b = b' by have h1 := HIN.out; rw [lvIn] at h1; exact ⟨congrArg Prod.fst h1, congrArg Prod.snd h1⟩)
          clear hz hz0
          go_wp2
          go_roundg k1
          case measure => omega
          case rel => exact ⟨b, k1, L1, x, rfl, Nat.le_refl _, ⟨by rw [HE.out.1, HE.out.2]; exact HRN.out⟩, HST⟩
end Go.Proofs.YtjfleaekljapeaaDoor.K
namespace Go.Proofs.YtjfleaekljapeaaDoor.K
open Go.RowKit Go.Proofs.YtjfleaekljapeaaDoorW.PrintWords Go.Proofs.YtjfleaekljapeaaDoorW.PrintLast Go.Proofs.YtjfleaekljapeaaDoorW.PrintMore
attribute [local go_sem] max2_int min2_int max_two min_two max_three min_three max_four min_four   -- for this text's walks alone
set_option linter.unusedVariables false
set_option linter.unusedSimpArgs false
def bits_Mul64.f (a0 : Int) (a1 : Int) : Option (Int × Int) := some (IntKind.u64.wrap ((IntKind.u64.wrap ((IntKind.u64.wrap ((a0 / 4294967296) * (a1 / 4294967296))) + ((IntKind.u64.wrap ((IntKind.u64.wrap ((a0 / 4294967296) * (Go.bits .and .u64 a1 4294967295))) + ((IntKind.u64.wrap ((Go.bits .and .u64 a0 4294967295) * (Go.bits .and .u64 a1 4294967295))) / 4294967296))) / 4294967296))) + ((IntKind.u64.wrap ((Go.bits .and .u64 (IntKind.u64.wrap ((IntKind.u64.wrap ((a0 / 4294967296) * (Go.bits .and .u64 a1 4294967295))) + ((IntKind.u64.wrap ((Go.bits .and .u64 a0 4294967295) * (Go.bits .and .u64 a1 4294967295))) / 4294967296))) 4294967295) + (IntKind.u64.wrap ((Go.bits .and .u64 a0 4294967295) * (a1 / 4294967296))))) / 4294967296)), IntKind.u64.wrap (a0 * a1))
set_option maxHeartbeats 8000000 in
set_option maxRecDepth 100000 in
theorem bits_Mul64.calls (a0 : Int) (a1 : Int) (r1 : Int) (r2 : Int) (w : World) (h : bits_Mul64.f a0 a1 = some (r1, r2)) :
  Calls Tryd.prog 59 #[.int .u64 a0, .int .u64 a1] w fun e w' => e = .returned (.tuple #[.int .u64 r1, .int .u64 r2]) /\ Drawn0 w w' := by
 have H : (some (IntKind.u64.wrap ((IntKind.u64.wrap ((IntKind.u64.wrap ((a0 / 4294967296) * (a1 / 4294967296))) + ((IntKind.u64.wrap ((IntKind.u64.wrap ((a0 / 4294967296) * (Go.bits .and .u64 a1 4294967295))) + ((IntKind.u64.wrap ((Go.bits .and .u64 a0 4294967295) * (Go.bits .and .u64 a1 4294967295))) / 4294967296))) / 4294967296))) + ((IntKind.u64.wrap ((Go.bits .and .u64 (IntKind.u64.wrap ((IntKind.u64.wrap ((a0 / 4294967296) * (Go.bits .and .u64 a1 4294967295))) + ((IntKind.u64.wrap ((Go.bits .and .u64 a0 4294967295) * (Go.bits .and .u64 a1 4294967295))) / 4294967296))) 4294967295) + (IntKind.u64.wrap ((Go.bits .and .u64 a0 4294967295) * (a1 / 4294967296))))) / 4294967296)), IntKind.u64.wrap (a0 * a1))) = some (r1, r2) := h
 clear h
 simp only [Option.some.injEq, Prod.mk.injEq] at H
 obtain ⟨rfl, rfl⟩ := H
 go_enter Tryd.func59, Tryd.ntmps59
 go_wp2
 go_ret2
 exact ⟨by first | rfl | (simp; done) | (simp [*]; done), by repeat (first | exact Drawn0.refl _ | apply Drawn0.step)⟩
def bits_Mul.f (a0 : Int) (a1 : Int) : Option (Int × Int) := (bits_Mul64.f a0 a1).bind fun bt212 => (some (bt212.1, bt212.2))
set_option maxHeartbeats 8000000 in
set_option maxRecDepth 100000 in
theorem bits_Mul.calls (a0 : Int) (a1 : Int) (r1 : Int) (r2 : Int) (w : World) (h : bits_Mul.f a0 a1 = some (r1, r2)) :
  Calls Tryd.prog 48 #[.int .u64 a0, .int .u64 a1] w fun e w' => e = .returned (.tuple #[.int .u64 r1, .int .u64 r2]) /\ Drawn0 w w' := by
 have H : ((bits_Mul64.f a0 a1).bind fun bt212 => (some (bt212.1, bt212.2))) = some (r1, r2) := h
 clear h
 replace H := Option.bind_eq_some_iff.mp H
 obtain ⟨⟨t212, t213⟩, A30, H⟩ := H
 replace H : (some (t212, t213)) = some (r1, r2) := H
 have A3 := Aside0.mk A30
 clear A30
 simp only [Option.some.injEq, Prod.mk.injEq] at H
 obtain ⟨rfl, rfl⟩ := H
 go_enter Tryd.func48, Tryd.ntmps48
 go_wp2_with (first | ((with_reducible refine gate_callee (f := 59) rfl ?_); refine goesL_ (some 25) rfl rfl Tryd.func59 (by kernel_rfl) rfl #[.int .u64 a0, .int .u64 a1] rfl (by (try simp only [List.map_toArray, List.map_cons, List.map_nil]); first | done | rfl | (simp only [List.length_drop, List.length_take]; rfl)) ?_; (with_reducible refine (bits_Mul64.calls a0 a1 t212 t213 _ A3.out).mono ?_); rintro e w' ⟨rfl, ⟨nd, rfl⟩⟩; refine ⟨_, rfl, ?_⟩))
 go_ret2
 exact ⟨by first | rfl | (simp; done) | (simp [*]; done), by repeat (first | exact Drawn0.refl _ | apply Drawn0.step)⟩
def span_Span_with.f (a0_0 : Int) (a0_1 : Int) (a1 : Int) : Option (Int × Int) := if a0_1 < a0_0 then (some (a1, a1)) else (some (mn a0_0 a1, mx a0_1 a1))
set_option maxHeartbeats 8000000 in
set_option maxRecDepth 100000 in
theorem span_Span_with.calls (a0_0 : Int) (a0_1 : Int) (a1 : Int) (r1 : Int) (r2 : Int) (w : World) (h : span_Span_with.f a0_0 a0_1 a1 = some (r1, r2)) :
  Calls Tryd.prog 30 #[.agg #[.int .i64 a0_0, .int .i64 a0_1], .int .i64 a1] w fun e w' => e = .returned (.agg #[.int .i64 r1, .int .i64 r2]) /\ Below w.heap.size w w' := by
 have hu39 := Tryd.underlying39
 have HB := Aside0.mk (Below.refl w.heap.size w)
 have H : (if a0_1 < a0_0 then (some (a1, a1)) else (some (mn a0_0 a1, mx a0_1 a1))) = some (r1, r2) := h
 clear h
 by_cases c3 : a0_1 < a0_0
 ·rw [if_pos c3] at H
  have c3b0 : decide (a0_1 < a0_0) = true := decide_eq_true c3
  clear c3
  simp only [Option.some.injEq, Prod.mk.injEq] at H
  obtain ⟨rfl, rfl⟩ := H
  go_enter Tryd.func30, Tryd.ntmps30
  go_wp2_with (first | ((with_reducible refine gate_dst (N := 2) rfl ?_); refine box_event ?hg (N := 2) ?hd (cs := #[.int .i64 a0_0, .int .i64 a0_1]) (t := 39) ?hr ?_; (case hd => rfl); (case hg => rfl); (case hr => first | (go_simp; done) | (go_simp; rfl)); intro gb215 hg w4 hbox hb; have n0_ := Aside0.mk (below_step (by repeat (first | (with_reducible first | exact HB.out | apply below_alloc | apply pw_below_drewN | apply below_drew1) | exact HB.out)) hb); have n1_ := Aside0.mk (hbox); have n2_ := Aside0.mk ((by rw [hg]; exact (below_size (by repeat (first | (with_reducible first | exact HB.out | apply below_alloc | apply pw_below_drewN | apply below_drew1) | exact HB.out))) : w.heap.size <= gb215)); have n3_ := Aside0.mk ((by rw [hg]; exact (below_size (by repeat (first | (with_reducible first | exact HB.out | apply below_alloc | apply pw_below_drewN | apply below_drew1) | exact HB.out))) : w.heap.size <= gb215)); clear HB; have HB := n0_; have BK215 := n1_; have GW215 := n2_; have GE215 := n3_; clear n0_ n1_ n2_ n3_; clear hb hbox hg) | ((with_reducible refine gate_dst (N := 4) rfl ?_); refine box_event ?hg (N := 4) ?hd (cs := #[.int .i64 0, .int .i64 0]) (t := 39) ?hr ?_; (case hd => rfl); (case hg => rfl); (case hr => first | (go_simp; done) | (go_simp; rfl)); intro gb216 hg w5 hbox hb; have n0_ := Aside0.mk (blk_below (g := gb215) (o := .cells #[.int .i64 a0_0, .int .i64 a0_1] 39 (0, 0)) (by (with_reducible repeat (first | refine blk_drewN ?_ _ | refine blk_drew ?_ | refine blk_alloc ?_ _)); exact BK215.out) hb); have n1_ := Aside0.mk (below_step (by repeat (first | (with_reducible first | exact HB.out | apply below_alloc | apply pw_below_drewN | apply below_drew1 | refine below_set ?_ GE215.out) | exact HB.out)) hb); have n2_ := Aside0.mk (hbox); have n3_ := Aside0.mk ((by rw [hg]; exact (below_size (by repeat (first | (with_reducible first | exact HB.out | apply below_alloc | apply pw_below_drewN | apply below_drew1 | refine below_set ?_ GE215.out) | exact HB.out))) : w.heap.size <= gb216)); have n4_ := Aside0.mk ((by rw [hg]; exact (below_size (by repeat (first | (with_reducible first | exact HB.out | apply below_alloc | apply pw_below_drewN | apply below_drew1 | refine below_set ?_ GE215.out) | exact HB.out))) : w.heap.size <= gb216)); have n5_ := Aside0.mk ((by rw [hg]; exact Nat.ne_of_lt (blk_lt (g := gb215) (o := .cells #[.int .i64 a0_0, .int .i64 a0_1] 39 (0, 0)) (by (with_reducible repeat (first | refine blk_drewN ?_ _ | refine blk_drew ?_ | refine blk_alloc ?_ _)); exact BK215.out)) : gb215 ≠ gb216)); have n6_ := Aside0.mk ((by rw [hg]; exact Nat.ne_of_gt (blk_lt (g := gb215) (o := .cells #[.int .i64 a0_0, .int .i64 a0_1] 39 (0, 0)) (by (with_reducible repeat (first | refine blk_drewN ?_ _ | refine blk_drew ?_ | refine blk_alloc ?_ _)); exact BK215.out)) : gb216 ≠ gb215)); clear BK215; clear HB; have BK215 := n0_; have HB := n1_; have BK216 := n2_; have GW216 := n3_; have GE216 := n4_; have NB215_216 := n5_; have NB216_215 := n6_; clear n0_ n1_ n2_ n3_ n4_ n5_ n6_; clear hb hbox hg; have hnb6 := NB215_216.out; have hnc6 := NB216_215.out; have hcz7_0 : w5.cell? ⟨gb215, 0, none⟩ = some (.int .i64 a0_0) := (blk_cell BK215.out 0).trans rfl; have hcz7_1 : w5.cell? ⟨gb215, 1, none⟩ = some (.int .i64 a0_1) := (blk_cell BK215.out 1).trans rfl; have hfz7_0 := blk_frozen BK215.out 0; have hfz7_1 := blk_frozen BK215.out 1; have hcz8_0 : w5.cell? ⟨gb216, 0, none⟩ = some (.int .i64 0) := (blk_cell BK216.out 0).trans rfl; have hcz8_1 : w5.cell? ⟨gb216, 1, none⟩ = some (.int .i64 0) := (blk_cell BK216.out 1).trans rfl; have hfz8_0 := blk_frozen BK216.out 0; have hfz8_1 := blk_frozen BK216.out 1))
  refine bodyPost_ret (results_cell_row rfl _ _ gb216 39 #[.int .i64 a1, .int .i64 a1] (0, 0) _ rfl (by (with_reducible repeat (first | refine blk_drewN ?_ _ | refine blk_drew ?_ | refine blk_alloc ?_ _)); refine blk_put (cs := #[.int .i64 a1, .int .i64 0]) ?_ 1 _ rfl; (with_reducible repeat (first | refine blk_drewN ?_ _ | refine blk_drew ?_ | refine blk_alloc ?_ _)); refine blk_put (cs := #[.int .i64 0, .int .i64 0]) ?_ 0 _ rfl; (with_reducible repeat (first | refine blk_drewN ?_ _ | refine blk_drew ?_ | refine blk_alloc ?_ _)); exact BK216.out) Tryd.underlying39 rfl (by kernel_rfl)) rfl ?_
  exact ⟨by first | rfl | (simp [errW_none, errW_some] <;> rfl) | (simp [*, errW_none, errW_some] <;> rfl), by repeat (first | (with_reducible first | exact HB.out | apply below_alloc | apply pw_below_drewN | apply below_drew1 | refine below_set ?_ GE215.out | refine below_set ?_ GE216.out) | exact HB.out)⟩
 ·rw [if_neg c3] at H
  have c3b0 : decide (a0_1 < a0_0) = false := decide_eq_false c3
  clear c3
  obtain ⟨ji9, hji9⟩ : ∃ j_ : Int, (mn a0_0 a1) = j_ := ⟨_, rfl⟩
  replace H : (some (ji9, mx a0_1 a1)) = some (r1, r2) := by first | (rw [hji9] at H; exact H) | (simp only [hji9] at H ⊢; exact H)
  have hji9_ : (if a1 < a0_0 then a1 else a0_0) = ji9 := hji9
  obtain ⟨ji10, hji10⟩ : ∃ j_ : Int, (mx a0_1 a1) = j_ := ⟨_, rfl⟩
  replace H : (some (ji9, ji10)) = some (r1, r2) := by first | (rw [hji10] at H; exact H) | (simp only [hji10] at H ⊢; exact H)
  have hji10_ : (if a0_1 < a1 then a1 else a0_1) = ji10 := hji10
  simp only [Option.some.injEq, Prod.mk.injEq] at H
  obtain ⟨rfl, rfl⟩ := H
  go_enter Tryd.func30, Tryd.ntmps30
  go_wp2_with (first | ((with_reducible refine gate_dst (N := 2) rfl ?_); refine box_event ?hg (N := 2) ?hd (cs := #[.int .i64 a0_0, .int .i64 a0_1]) (t := 39) ?hr ?_; (case hd => rfl); (case hg => rfl); (case hr => first | (go_simp; done) | (go_simp; rfl)); intro gb215 hg w11 hbox hb; have n0_ := Aside0.mk (below_step (by repeat (first | (with_reducible first | exact HB.out | apply below_alloc | apply pw_below_drewN | apply below_drew1) | exact HB.out)) hb); have n1_ := Aside0.mk (hbox); have n2_ := Aside0.mk ((by rw [hg]; exact (below_size (by repeat (first | (with_reducible first | exact HB.out | apply below_alloc | apply pw_below_drewN | apply below_drew1) | exact HB.out))) : w.heap.size <= gb215)); have n3_ := Aside0.mk ((by rw [hg]; exact (below_size (by repeat (first | (with_reducible first | exact HB.out | apply below_alloc | apply pw_below_drewN | apply below_drew1) | exact HB.out))) : w.heap.size <= gb215)); clear HB; have HB := n0_; have BK215 := n1_; have GW215 := n2_; have GE215 := n3_; clear n0_ n1_ n2_ n3_; clear hb hbox hg) | ((with_reducible refine gate_dst (N := 4) rfl ?_); refine box_event ?hg (N := 4) ?hd (cs := #[.int .i64 0, .int .i64 0]) (t := 39) ?hr ?_; (case hd => rfl); (case hg => rfl); (case hr => first | (go_simp; done) | (go_simp; rfl)); intro gb216 hg w12 hbox hb; have n0_ := Aside0.mk (blk_below (g := gb215) (o := .cells #[.int .i64 a0_0, .int .i64 a0_1] 39 (0, 0)) (by (with_reducible repeat (first | refine blk_drewN ?_ _ | refine blk_drew ?_ | refine blk_alloc ?_ _)); exact BK215.out) hb); have n1_ := Aside0.mk (below_step (by repeat (first | (with_reducible first | exact HB.out | apply below_alloc | apply pw_below_drewN | apply below_drew1 | refine below_set ?_ GE215.out) | exact HB.out)) hb); have n2_ := Aside0.mk (hbox); have n3_ := Aside0.mk ((by rw [hg]; exact (below_size (by repeat (first | (with_reducible first | exact HB.out | apply below_alloc | apply pw_below_drewN | apply below_drew1 | refine below_set ?_ GE215.out) | exact HB.out))) : w.heap.size <= gb216)); have n4_ := Aside0.mk ((by rw [hg]; exact (below_size (by repeat (first | (with_reducible first | exact HB.out | apply below_alloc | apply pw_below_drewN | apply below_drew1 | refine below_set ?_ GE215.out) | exact HB.out))) : w.heap.size <= gb216)); have n5_ := Aside0.mk ((by rw [hg]; exact Nat.ne_of_lt (blk_lt (g := gb215) (o := .cells #[.int .i64 a0_0, .int .i64 a0_1] 39 (0, 0)) (by (with_reducible repeat (first | refine blk_drewN ?_ _ | refine blk_drew ?_ | refine blk_alloc ?_ _)); exact BK215.out)) : gb215 ≠ gb216)); have n6_ := Aside0.mk ((by rw [hg]; exact Nat.ne_of_gt (blk_lt (g := gb215) (o := .cells #[.int .i64 a0_0, .int .i64 a0_1] 39 (0, 0)) (by (with_reducible repeat (first | refine blk_drewN ?_ _ | refine blk_drew ?_ | refine blk_alloc ?_ _)); exact BK215.out)) : gb216 ≠ gb215)); clear BK215; clear HB; have BK215 := n0_; have HB := n1_; have BK216 := n2_; have GW216 := n3_; have GE216 := n4_; have NB215_216 := n5_; have NB216_215 := n6_; clear n0_ n1_ n2_ n3_ n4_ n5_ n6_; clear hb hbox hg; have hnb13 := NB215_216.out; have hnc13 := NB216_215.out; have hcz14_0 : w12.cell? ⟨gb215, 0, none⟩ = some (.int .i64 a0_0) := (blk_cell BK215.out 0).trans rfl; have hcz14_1 : w12.cell? ⟨gb215, 1, none⟩ = some (.int .i64 a0_1) := (blk_cell BK215.out 1).trans rfl; have hfz14_0 := blk_frozen BK215.out 0; have hfz14_1 := blk_frozen BK215.out 1; have hcz15_0 : w12.cell? ⟨gb216, 0, none⟩ = some (.int .i64 0) := (blk_cell BK216.out 0).trans rfl; have hcz15_1 : w12.cell? ⟨gb216, 1, none⟩ = some (.int .i64 0) := (blk_cell BK216.out 1).trans rfl; have hfz15_0 := blk_frozen BK216.out 0; have hfz15_1 := blk_frozen BK216.out 1))
  refine bodyPost_ret (results_cell_row rfl _ _ gb216 39 #[.int .i64 ji9, .int .i64 ji10] (0, 0) _ rfl (by (with_reducible repeat (first | refine blk_drewN ?_ _ | refine blk_drew ?_ | refine blk_alloc ?_ _)); refine blk_put (cs := #[.int .i64 ji9, .int .i64 0]) ?_ 1 _ rfl; (with_reducible repeat (first | refine blk_drewN ?_ _ | refine blk_drew ?_ | refine blk_alloc ?_ _)); refine blk_put (cs := #[.int .i64 0, .int .i64 0]) ?_ 0 _ rfl; (with_reducible repeat (first | refine blk_drewN ?_ _ | refine blk_drew ?_ | refine blk_alloc ?_ _)); exact BK216.out) Tryd.underlying39 rfl (by kernel_rfl)) rfl ?_
  exact ⟨by first | rfl | (simp [errW_none, errW_some] <;> rfl) | (simp only [<- hji9, <- hji10]; first | rfl | (simp [errW_none, errW_some] <;> rfl)) | (simp [*, errW_none, errW_some] <;> rfl), by repeat (first | (with_reducible first | exact HB.out | apply below_alloc | apply pw_below_drewN | apply below_drew1 | refine below_set ?_ GE215.out | refine below_set ?_ GE216.out) | exact HB.out)⟩
end Go.Proofs.YtjfleaekljapeaaDoor.K
