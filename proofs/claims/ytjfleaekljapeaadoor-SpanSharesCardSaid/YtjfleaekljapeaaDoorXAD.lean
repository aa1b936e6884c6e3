import Derived.Test.YtjfleaekljapeaaDoorProg
import Derived.Below
import Derived.Deep.Draws
import Derived.Deep.AppendLies
import Derived.Maps.AppendAt
import Derived.OwnWalk
import Derived.Laws.BytesArg
import Derived.Laws.MakeOwn
import Derived.Laws.OwnMore
import Derived.Deep.OwnRows
import Derived.Tactics
import Derived.Lib.ConvBytes
import Derived.Laws.Slices
import Derived.WalkKit
import Derived.KernelRfl
import Derived.RowKit3
import Derived.Deep.LoopGhost
import Derived.Deep.QuietTactic
import Derived.BigQuiet
import Derived.WideLaws
import Derived.Deep.DeepCutAuto
import Derived.Deep.CutBlock
import Derived.Deep.RegionHeld3
import Derived.Laws.Rows
import Derived.Lib.AppendStr
import Derived.ArgAppend
import Derived.Laws.IdiomCopy
import Derived.OrdersHeld
import Derived.Laws.BitsLemmas
import Derived.RowKit
import Derived.RegionTactic
import Derived.Deep.RegionWith
import Derived.Lib.Hide
import Derived.LoopN
import Derived.Laws.ResultCell
import Derived.Laws.Tables
import Derived.Test.YtjfleaekljapeaaDoorXAA
import Derived.Test.YtjfleaekljapeaaDoorXAB
import Derived.Test.YtjfleaekljapeaaDoorXAC
namespace Go.Proofs.YtjfleaekljapeaaDoor.K
open Go.RowKit Go.Proofs.YtjfleaekljapeaaDoorW.PrintWords Go.Proofs.YtjfleaekljapeaaDoorW.PrintLast Go.Proofs.YtjfleaekljapeaaDoorW.PrintMore
attribute [local go_sem] max2_int min2_int max_two min_two max_three min_three max_four min_four   -- for this text's walks alone
set_option linter.unusedVariables false
set_option linter.unusedSimpArgs false
def errW : Option Int -> Value
 | none => .nilIface
 | some c => .iface 0 (.int .i64 c)
theorem errW_none : errW none = .nilIface := rfl
theorem errW_some (c : Int) : errW (some c) = .iface 0 (.int .i64 c) := rfl
theorem info3 : (Tryd.prog.info? 3).map (fun i => (i.zero, i.size, i.bytes)) = some (some (.int .i64 0), 1, 8) := by kernel_rfl
theorem info42 : (Tryd.prog.info? 42).map (fun i => (i.zero, i.size, i.bytes)) = some (some (.int .u64 0), 1, 8) := by kernel_rfl
-- the values' own types
structure S89 where
 f0 : ByteArray
 f1 : Int
def z89 : S89 := ⟨(⟨#[]⟩ : ByteArray), (0 : Int)⟩
def k89 : Kd S89 := Kd.iso (Kd.pair Kd.string (Kd.int .i64)) (fun x : S89 => (x.f0, x.f1))
theorem k89_open {w : World} {x : S89} {cs : List Value} (h : k89.K w x cs) : cs = [.string x.f0, .int .i64 x.f1] := by
 obtain ⟨_, _, rfl, rfl, rfl⟩ := h
 exact rfl
theorem k89_mk (w : World) (x : S89)  : k89.K w x [.string x.f0, .int .i64 x.f1] := ⟨[.string x.f0], [.int .i64 x.f1], rfl, rfl, rfl⟩
def rd_T89 (xs : List S89) (i : Int) : S89 := xs.getD i.toNat z89
theorem at_T89 {w : World} {A : Option Addr} {n : Nat} {xs : List S89} (h : Kd.C k89 w A n xs) (i : Int) (h0 : 0 <= i) (h1 : i < n) : ∃ ad , A = some ad /\ w.cell? (ad.add (i.toNat * 2)) = some (.string (rd_T89 xs i).f0) /\ w.cell? ⟨(ad.add (i.toNat * 2)).block, (ad.add (i.toNat * 2)).off + 1, none⟩ = some (.int .i64 (rd_T89 xs i).f1) := by
 obtain ⟨ad, c, e, _, hK, hc0⟩ := Kd.C_get h z89 i h0 h1
 have hc : ∀ j u, c[j]? = some u -> w.cell? (ad.add (i.toNat * 2 + j)) = some u := hc0
 obtain rfl := k89_open hK
 exact ⟨ad, e, hc 0 _ rfl, by rw [<- add_field _ _ 1 (by omega)]; exact hc 1 _ rfl⟩
structure S44 where
 f0 : Int
 f1 : Int
 f2 : Int
 f3 : Int
 f4 : Int
 f5 : Int
 f6 : ByteArray
 f7 : (List Int)
 f8 : (List Int)
 f9 : Int
def z44 : S44 := ⟨(0 : Int), (0 : Int), (0 : Int), (0 : Int), (0 : Int), (0 : Int), (⟨#[]⟩ : ByteArray), ([] : List Int), ([] : List Int), (0 : Int)⟩
def k44 : Kd S44 := Kd.iso (Kd.pair (Kd.int .i64) (Kd.pair (Kd.int .i64) (Kd.pair (Kd.int .i64) (Kd.pair (Kd.int .i64) (Kd.pair (Kd.int .u64) (Kd.pair (Kd.int .i64) (Kd.pair Kd.string (Kd.pair (Kd.slice 3 (Kd.int .i64)) (Kd.pair (Kd.slice 3 (Kd.int .i64)) (Kd.int .i64)))))))))) (fun x : S44 => (x.f0, x.f1, x.f2, x.f3, x.f4, x.f5, x.f6, x.f7, x.f8, x.f9))
theorem k44_open {w : World} {x : S44} {cs : List Value} (h : k44.K w x cs) : ∃ A7 c7 A8 c8, cs = [.int .i64 x.f0, .int .i64 x.f1, .int .i64 x.f2, .int .i64 x.f3, .int .u64 x.f4, .int .i64 x.f5, .string x.f6, .slice A7 x.f7.length c7, .slice A8 x.f8.length c8, .int .i64 x.f9] /\ x.f7.length <= c7 /\ (Kd.int .i64).C w A7 x.f7.length x.f7 /\ x.f8.length <= c8 /\ (Kd.int .i64).C w A8 x.f8.length x.f8 := by
 obtain ⟨_, _, rfl, rfl, ⟨_, _, rfl, rfl, ⟨_, _, rfl, rfl, ⟨_, _, rfl, rfl, ⟨_, _, rfl, rfl, ⟨_, _, rfl, rfl, ⟨_, _, rfl, rfl, ⟨_, _, rfl, ⟨A7, c7, rfl, l7, g7⟩, ⟨_, _, rfl, ⟨A8, c8, rfl, l8, g8⟩, rfl⟩⟩⟩⟩⟩⟩⟩⟩⟩ := h
 exact ⟨A7, c7, A8, c8, rfl, l7, g7, l8, g8⟩
theorem k44_mk (w : World) (x : S44) {A7 : Option Addr} {c7 : Nat} (l7 : x.f7.length <= c7) (g7 : (Kd.int .i64).C w A7 x.f7.length x.f7) {A8 : Option Addr} {c8 : Nat} (l8 : x.f8.length <= c8) (g8 : (Kd.int .i64).C w A8 x.f8.length x.f8) : k44.K w x [.int .i64 x.f0, .int .i64 x.f1, .int .i64 x.f2, .int .i64 x.f3, .int .u64 x.f4, .int .i64 x.f5, .string x.f6, .slice A7 x.f7.length c7, .slice A8 x.f8.length c8, .int .i64 x.f9] := ⟨[.int .i64 x.f0], [.int .i64 x.f1, .int .i64 x.f2, .int .i64 x.f3, .int .u64 x.f4, .int .i64 x.f5, .string x.f6, .slice A7 x.f7.length c7, .slice A8 x.f8.length c8, .int .i64 x.f9], rfl, rfl, ⟨[.int .i64 x.f1], [.int .i64 x.f2, .int .i64 x.f3, .int .u64 x.f4, .int .i64 x.f5, .string x.f6, .slice A7 x.f7.length c7, .slice A8 x.f8.length c8, .int .i64 x.f9], rfl, rfl, ⟨[.int .i64 x.f2], [.int .i64 x.f3, .int .u64 x.f4, .int .i64 x.f5, .string x.f6, .slice A7 x.f7.length c7, .slice A8 x.f8.length c8, .int .i64 x.f9], rfl, rfl, ⟨[.int .i64 x.f3], [.int .u64 x.f4, .int .i64 x.f5, .string x.f6, .slice A7 x.f7.length c7, .slice A8 x.f8.length c8, .int .i64 x.f9], rfl, rfl, ⟨[.int .u64 x.f4], [.int .i64 x.f5, .string x.f6, .slice A7 x.f7.length c7, .slice A8 x.f8.length c8, .int .i64 x.f9], rfl, rfl, ⟨[.int .i64 x.f5], [.string x.f6, .slice A7 x.f7.length c7, .slice A8 x.f8.length c8, .int .i64 x.f9], rfl, rfl, ⟨[.string x.f6], [.slice A7 x.f7.length c7, .slice A8 x.f8.length c8, .int .i64 x.f9], rfl, rfl, ⟨[.slice A7 x.f7.length c7], [.slice A8 x.f8.length c8, .int .i64 x.f9], rfl, ⟨A7, c7, rfl, l7, g7⟩, ⟨[.slice A8 x.f8.length c8], [.int .i64 x.f9], rfl, ⟨A8, c8, rfl, l8, g8⟩, rfl⟩⟩⟩⟩⟩⟩⟩⟩⟩
theorem k44_mkM (w : World) (base : Nat) (ok : Nat -> Prop) (x : S44) {v7 : Value} (g7 : (Kd.int .i64).R 3 w base ok v7 x.f7) {v8 : Value} (g8 : (Kd.int .i64).R 3 w base ok v8 x.f8) : k44.M w base ok x [.int .i64 x.f0, .int .i64 x.f1, .int .i64 x.f2, .int .i64 x.f3, .int .u64 x.f4, .int .i64 x.f5, .string x.f6, v7, v8, .int .i64 x.f9] := ⟨[.int .i64 x.f0], [.int .i64 x.f1, .int .i64 x.f2, .int .i64 x.f3, .int .u64 x.f4, .int .i64 x.f5, .string x.f6, v7, v8, .int .i64 x.f9], rfl, rfl, ⟨[.int .i64 x.f1], [.int .i64 x.f2, .int .i64 x.f3, .int .u64 x.f4, .int .i64 x.f5, .string x.f6, v7, v8, .int .i64 x.f9], rfl, rfl, ⟨[.int .i64 x.f2], [.int .i64 x.f3, .int .u64 x.f4, .int .i64 x.f5, .string x.f6, v7, v8, .int .i64 x.f9], rfl, rfl, ⟨[.int .i64 x.f3], [.int .u64 x.f4, .int .i64 x.f5, .string x.f6, v7, v8, .int .i64 x.f9], rfl, rfl, ⟨[.int .u64 x.f4], [.int .i64 x.f5, .string x.f6, v7, v8, .int .i64 x.f9], rfl, rfl, ⟨[.int .i64 x.f5], [.string x.f6, v7, v8, .int .i64 x.f9], rfl, rfl, ⟨[.string x.f6], [v7, v8, .int .i64 x.f9], rfl, rfl, ⟨[v7], [v8, .int .i64 x.f9], rfl, ⟨v7, rfl, g7⟩, ⟨[v8], [.int .i64 x.f9], rfl, ⟨v8, rfl, g8⟩, rfl⟩⟩⟩⟩⟩⟩⟩⟩⟩
def rd_T44 (xs : List S44) (i : Int) : S44 := xs.getD i.toNat z44
theorem at_T44 {w : World} {A : Option Addr} {n : Nat} {xs : List S44} (h : Kd.C k44 w A n xs) (i : Int) (h0 : 0 <= i) (h1 : i < n) : ∃ ad A7 c7 A8 c8, A = some ad /\ w.cell? (ad.add (i.toNat * 10)) = some (.int .i64 (rd_T44 xs i).f0) /\ w.cell? ⟨(ad.add (i.toNat * 10)).block, (ad.add (i.toNat * 10)).off + 1, none⟩ = some (.int .i64 (rd_T44 xs i).f1) /\ w.cell? ⟨(ad.add (i.toNat * 10)).block, (ad.add (i.toNat * 10)).off + 2, none⟩ = some (.int .i64 (rd_T44 xs i).f2) /\ w.cell? ⟨(ad.add (i.toNat * 10)).block, (ad.add (i.toNat * 10)).off + 3, none⟩ = some (.int .i64 (rd_T44 xs i).f3) /\ w.cell? ⟨(ad.add (i.toNat * 10)).block, (ad.add (i.toNat * 10)).off + 4, none⟩ = some (.int .u64 (rd_T44 xs i).f4) /\ w.cell? ⟨(ad.add (i.toNat * 10)).block, (ad.add (i.toNat * 10)).off + 5, none⟩ = some (.int .i64 (rd_T44 xs i).f5) /\ w.cell? ⟨(ad.add (i.toNat * 10)).block, (ad.add (i.toNat * 10)).off + 6, none⟩ = some (.string (rd_T44 xs i).f6) /\ w.cell? ⟨(ad.add (i.toNat * 10)).block, (ad.add (i.toNat * 10)).off + 7, none⟩ = some (.slice A7 (rd_T44 xs i).f7.length c7) /\ w.cell? ⟨(ad.add (i.toNat * 10)).block, (ad.add (i.toNat * 10)).off + 8, none⟩ = some (.slice A8 (rd_T44 xs i).f8.length c8) /\ w.cell? ⟨(ad.add (i.toNat * 10)).block, (ad.add (i.toNat * 10)).off + 9, none⟩ = some (.int .i64 (rd_T44 xs i).f9) /\ (rd_T44 xs i).f7.length <= c7 /\ (Kd.int .i64).C w A7 (rd_T44 xs i).f7.length (rd_T44 xs i).f7 /\ (rd_T44 xs i).f8.length <= c8 /\ (Kd.int .i64).C w A8 (rd_T44 xs i).f8.length (rd_T44 xs i).f8 := by
 obtain ⟨ad, c, e, _, hK, hc0⟩ := Kd.C_get h z44 i h0 h1
 have hc : ∀ j u, c[j]? = some u -> w.cell? (ad.add (i.toNat * 10 + j)) = some u := hc0
 obtain ⟨A7, c7, A8, c8, rfl, l7, g7, l8, g8⟩ := k44_open hK
 exact ⟨ad, A7, c7, A8, c8, e, hc 0 _ rfl, by rw [<- add_field _ _ 1 (by omega)]; exact hc 1 _ rfl, by rw [<- add_field _ _ 2 (by omega)]; exact hc 2 _ rfl, by rw [<- add_field _ _ 3 (by omega)]; exact hc 3 _ rfl, by rw [<- add_field _ _ 4 (by omega)]; exact hc 4 _ rfl, by rw [<- add_field _ _ 5 (by omega)]; exact hc 5 _ rfl, by rw [<- add_field _ _ 6 (by omega)]; exact hc 6 _ rfl, by rw [<- add_field _ _ 7 (by omega)]; exact hc 7 _ rfl, by rw [<- add_field _ _ 8 (by omega)]; exact hc 8 _ rfl, by rw [<- add_field _ _ 9 (by omega)]; exact hc 9 _ rfl, l7, g7, l8, g8⟩
structure S25 where
 f0 : ByteArray
 f1 : (List Int)
 f2 : (List Int)
 f3 : (List Int)
 f4 : (List S44)
def k25 : Kd S25 := Kd.iso (Kd.pair Kd.string (Kd.pair (Kd.slice 3 (Kd.int .i64)) (Kd.pair (Kd.slice 3 (Kd.int .i64)) (Kd.pair (Kd.slice 3 (Kd.int .i64)) (Kd.slice 44 k44))))) (fun x : S25 => (x.f0, x.f1, x.f2, x.f3, x.f4))
theorem k25_open {w : World} {x : S25} {cs : List Value} (h : k25.K w x cs) : ∃ A1 c1 A2 c2 A3 c3 A4 c4, cs = [.string x.f0, .slice A1 x.f1.length c1, .slice A2 x.f2.length c2, .slice A3 x.f3.length c3, .slice A4 x.f4.length c4] /\ x.f1.length <= c1 /\ (Kd.int .i64).C w A1 x.f1.length x.f1 /\ x.f2.length <= c2 /\ (Kd.int .i64).C w A2 x.f2.length x.f2 /\ x.f3.length <= c3 /\ (Kd.int .i64).C w A3 x.f3.length x.f3 /\ x.f4.length <= c4 /\ k44.C w A4 x.f4.length x.f4 := by
 obtain ⟨_, _, rfl, rfl, ⟨_, _, rfl, ⟨A1, c1, rfl, l1, g1⟩, ⟨_, _, rfl, ⟨A2, c2, rfl, l2, g2⟩, ⟨_, _, rfl, ⟨A3, c3, rfl, l3, g3⟩, ⟨A4, c4, rfl, l4, g4⟩⟩⟩⟩⟩ := h
 exact ⟨A1, c1, A2, c2, A3, c3, A4, c4, rfl, l1, g1, l2, g2, l3, g3, l4, g4⟩
theorem k25_mk (w : World) (x : S25) {A1 : Option Addr} {c1 : Nat} (l1 : x.f1.length <= c1) (g1 : (Kd.int .i64).C w A1 x.f1.length x.f1) {A2 : Option Addr} {c2 : Nat} (l2 : x.f2.length <= c2) (g2 : (Kd.int .i64).C w A2 x.f2.length x.f2) {A3 : Option Addr} {c3 : Nat} (l3 : x.f3.length <= c3) (g3 : (Kd.int .i64).C w A3 x.f3.length x.f3) {A4 : Option Addr} {c4 : Nat} (l4 : x.f4.length <= c4) (g4 : k44.C w A4 x.f4.length x.f4) : k25.K w x [.string x.f0, .slice A1 x.f1.length c1, .slice A2 x.f2.length c2, .slice A3 x.f3.length c3, .slice A4 x.f4.length c4] := ⟨[.string x.f0], [.slice A1 x.f1.length c1, .slice A2 x.f2.length c2, .slice A3 x.f3.length c3, .slice A4 x.f4.length c4], rfl, rfl, ⟨[.slice A1 x.f1.length c1], [.slice A2 x.f2.length c2, .slice A3 x.f3.length c3, .slice A4 x.f4.length c4], rfl, ⟨A1, c1, rfl, l1, g1⟩, ⟨[.slice A2 x.f2.length c2], [.slice A3 x.f3.length c3, .slice A4 x.f4.length c4], rfl, ⟨A2, c2, rfl, l2, g2⟩, ⟨[.slice A3 x.f3.length c3], [.slice A4 x.f4.length c4], rfl, ⟨A3, c3, rfl, l3, g3⟩, ⟨A4, c4, rfl, l4, g4⟩⟩⟩⟩⟩
def flow_Next.j0 : Nat -> Int -> Int -> Bool -> Int -> Int -> Int -> Int -> Int -> Int -> ByteArray -> List Int -> List Int -> Int -> Option (List Int)
 | 0, _, _, _, _, _, _, _, _, _, _, _, _, _ => none
 | k + 1, x1, x12, x13, x179000, x179001, x179002, x179003, x179004, x179005, x179006, x179007, x179008, x179009 => if x13 = true then (some ([] : List Int)) else (if x12 = 18 then (some (([x179009] : List Int))) else (if x12 = 19 then (some (([wrap64 (x1 + 1), x179009] : List Int))) else (some (([wrap64 (x1 + 1)] : List Int)))))
def flow_Next.f (k : Nat) (a0_0 : ByteArray) (l0_1 : List Int) (l0_2 : List Int) (l0_3 : List Int) (l0_4 : List (S44)) (a1 : Int) : Option (List Int) := if 0 <= a1 then (if a1 < (l0_4.length : Int) then (if ((rd_T44 l0_4 a1).f0) = 43 then (flow_Next.j0 k a1 ((rd_T44 l0_4 a1).f0) (((rd_T44 l0_4 a1).f0) == 43) ((rd_T44 l0_4 a1).f0) ((rd_T44 l0_4 a1).f1) ((rd_T44 l0_4 a1).f2) ((rd_T44 l0_4 a1).f3) ((rd_T44 l0_4 a1).f4) ((rd_T44 l0_4 a1).f5) ((rd_T44 l0_4 a1).f6) ((rd_T44 l0_4 a1).f7) ((rd_T44 l0_4 a1).f8) ((rd_T44 l0_4 a1).f9)) else (flow_Next.j0 k a1 ((rd_T44 l0_4 a1).f0) (((rd_T44 l0_4 a1).f0) == 22) ((rd_T44 l0_4 a1).f0) ((rd_T44 l0_4 a1).f1) ((rd_T44 l0_4 a1).f2) ((rd_T44 l0_4 a1).f3) ((rd_T44 l0_4 a1).f4) ((rd_T44 l0_4 a1).f5) ((rd_T44 l0_4 a1).f6) ((rd_T44 l0_4 a1).f7) ((rd_T44 l0_4 a1).f8) ((rd_T44 l0_4 a1).f9))) else (none)) else (none)
set_option maxHeartbeats 8000000 in
set_option maxRecDepth 100000 in
theorem flow_Next.calls (k : Nat) (a0_0 : ByteArray) (A0_1 : Option Addr) (c0_1 : Nat) (l0_1 : List Int) (A0_2 : Option Addr) (c0_2 : Nat) (l0_2 : List Int) (A0_3 : Option Addr) (c0_3 : Nat) (l0_3 : List Int) (A0_4 : Option Addr) (c0_4 : Nat) (l0_4 : List (S44)) (a1 : Int) (r : List Int) (w : World) (hr0_1 : Kd.C (Kd.int .i64) w A0_1 l0_1.length l0_1) (hc0_1 : l0_1.length <= c0_1) (hr0_2 : Kd.C (Kd.int .i64) w A0_2 l0_2.length l0_2) (hc0_2 : l0_2.length <= c0_2) (hr0_3 : Kd.C (Kd.int .i64) w A0_3 l0_3.length l0_3) (hc0_3 : l0_3.length <= c0_3) (hr0_4 : Kd.C k44 w A0_4 l0_4.length l0_4) (hc0_4 : l0_4.length <= c0_4) (h : flow_Next.f k a0_0 l0_1 l0_2 l0_3 l0_4 a1 = some r) :
  Calls Tryd.prog 41 #[.agg #[.string a0_0, .slice A0_1 l0_1.length c0_1, .slice A0_2 l0_2.length c0_2, .slice A0_3 l0_3.length c0_3, .slice A0_4 l0_4.length c0_4], .int .i64 a1] w fun e w' => ∃ v0_ : Value, e = .returned (v0_) /\ Kd.R (Kd.int .i64) 3 w' w.heap.size (fun _ => True) v0_ r /\ Below w.heap.size w w' := by
 have hu25 := Tryd.underlying25
 have hu44 := Tryd.underlying44
 have HR0_1 := Aside0.mk hr0_1
 have HC0_1 := Aside0.mk hc0_1
 clear hr0_1 hc0_1
 have HR0_2 := Aside0.mk hr0_2
 have HC0_2 := Aside0.mk hc0_2
 clear hr0_2 hc0_2
 have HR0_3 := Aside0.mk hr0_3
 have HC0_3 := Aside0.mk hc0_3
 clear hr0_3 hc0_3
 have HR0_4 := Aside0.mk hr0_4
 have HC0_4 := Aside0.mk hc0_4
 clear hr0_4 hc0_4
 have HB := Aside0.mk (Below.refl w.heap.size w)
 have H : (if 0 <= a1 then (if a1 < (l0_4.length : Int) then (if ((rd_T44 l0_4 a1).f0) = 43 then (flow_Next.j0 k a1 ((rd_T44 l0_4 a1).f0) (((rd_T44 l0_4 a1).f0) == 43) ((rd_T44 l0_4 a1).f0) ((rd_T44 l0_4 a1).f1) ((rd_T44 l0_4 a1).f2) ((rd_T44 l0_4 a1).f3) ((rd_T44 l0_4 a1).f4) ((rd_T44 l0_4 a1).f5) ((rd_T44 l0_4 a1).f6) ((rd_T44 l0_4 a1).f7) ((rd_T44 l0_4 a1).f8) ((rd_T44 l0_4 a1).f9)) else (flow_Next.j0 k a1 ((rd_T44 l0_4 a1).f0) (((rd_T44 l0_4 a1).f0) == 22) ((rd_T44 l0_4 a1).f0) ((rd_T44 l0_4 a1).f1) ((rd_T44 l0_4 a1).f2) ((rd_T44 l0_4 a1).f3) ((rd_T44 l0_4 a1).f4) ((rd_T44 l0_4 a1).f5) ((rd_T44 l0_4 a1).f6) ((rd_T44 l0_4 a1).f7) ((rd_T44 l0_4 a1).f8) ((rd_T44 l0_4 a1).f9))) else (none)) else (none)) = some r := h
 clear h
 by_cases c3 : 0 <= a1
 ·rw [if_pos c3] at H
  have c3b0 : decide (0 <= a1) = true := decide_eq_true c3
  clear c3
  by_cases c4 : a1 < (l0_4.length : Int)
  ·rw [if_pos c4] at H
   have c4b0 : decide (a1 < (l0_4.length : Int)) = true := decide_eq_true c4
   clear c4
   have HC5 := Aside0.mk H
   clear H
   go_enter Tryd.func41, Tryd.ntmps41
   go_upto_if 13 with (first | ((with_reducible refine gate_dst (N := 2) rfl ?_); refine box_event ?hg (N := 2) ?hd (cs := #[.string a0_0, .slice A0_1 l0_1.length c0_1, .slice A0_2 l0_2.length c0_2, .slice A0_3 l0_3.length c0_3, .slice A0_4 l0_4.length c0_4]) (t := 25) ?hr ?_; (case hd => rfl); (case hg => rfl); (case hr => first | (go_simp; done) | (go_simp; rfl)); intro gb176 hg w6 hbox hb; have n0_ := Aside0.mk (below_step (by repeat (first | (with_reducible first | exact HB.out | apply below_alloc | apply pw_below_drewN | apply below_drew1) | exact HB.out)) hb); have n1_ := Aside0.mk (hbox); have n2_ := Aside0.mk ((by rw [hg]; exact (below_size (by repeat (first | (with_reducible first | exact HB.out | apply below_alloc | apply pw_below_drewN | apply below_drew1) | exact HB.out))) : w.heap.size <= gb176)); have n3_ := Aside0.mk ((by rw [hg]; exact (below_size (by repeat (first | (with_reducible first | exact HB.out | apply below_alloc | apply pw_below_drewN | apply below_drew1) | exact HB.out))) : w.heap.size <= gb176)); clear HB; have HB := n0_; have BK176 := n1_; have GW176 := n2_; have GE176 := n3_; clear n0_ n1_ n2_ n3_; clear hb hbox hg; have hcz7_0 : w6.cell? ⟨gb176, 0, none⟩ = some (.string a0_0) := (blk_cell BK176.out 0).trans rfl; have hcz7_1 : w6.cell? ⟨gb176, 1, none⟩ = some (.slice A0_1 l0_1.length c0_1) := (blk_cell BK176.out 1).trans rfl; have hcz7_2 : w6.cell? ⟨gb176, 2, none⟩ = some (.slice A0_2 l0_2.length c0_2) := (blk_cell BK176.out 2).trans rfl; have hcz7_3 : w6.cell? ⟨gb176, 3, none⟩ = some (.slice A0_3 l0_3.length c0_3) := (blk_cell BK176.out 3).trans rfl; have hcz7_4 : w6.cell? ⟨gb176, 4, none⟩ = some (.slice A0_4 l0_4.length c0_4) := (blk_cell BK176.out 4).trans rfl; have hfz7_0 := blk_frozen BK176.out 0; have hfz7_1 := blk_frozen BK176.out 1; have hfz7_2 := blk_frozen BK176.out 2; have hfz7_3 := blk_frozen BK176.out 3; have hfz7_4 := blk_frozen BK176.out 4; have p177 : 0 <= (a1 : Int) := of_decide_eq_true (by first | (with_reducible assumption) | assumption); have q177 : a1 < (l0_4.length : Int) := of_decide_eq_true (by first | (with_reducible assumption) | assumption); obtain ⟨ad177, A177_7, c177_7, A177_8, c177_8, e177, hx177_0, hx177_1, hx177_2, hx177_3, hx177_4, hx177_5, hx177_6, hx177_7, hx177_8, hx177_9, hl177_7, hi177_7, hl177_8, hi177_8⟩ := at_T44 HR0_4.out a1 p177 q177; cases e177; replace hx177_0 := (HB.out.cell (World.block_lt_of_cell? w _ hx177_0)).trans hx177_0; replace hx177_1 := (HB.out.cell (World.block_lt_of_cell? w _ hx177_1)).trans hx177_1; replace hx177_2 := (HB.out.cell (World.block_lt_of_cell? w _ hx177_2)).trans hx177_2; replace hx177_3 := (HB.out.cell (World.block_lt_of_cell? w _ hx177_3)).trans hx177_3; replace hx177_4 := (HB.out.cell (World.block_lt_of_cell? w _ hx177_4)).trans hx177_4; replace hx177_5 := (HB.out.cell (World.block_lt_of_cell? w _ hx177_5)).trans hx177_5; replace hx177_6 := (HB.out.cell (World.block_lt_of_cell? w _ hx177_6)).trans hx177_6; replace hx177_7 := (HB.out.cell (World.block_lt_of_cell? w _ hx177_7)).trans hx177_7; replace hx177_8 := (HB.out.cell (World.block_lt_of_cell? w _ hx177_8)).trans hx177_8; replace hx177_9 := (HB.out.cell (World.block_lt_of_cell? w _ hx177_9)).trans hx177_9; have HR177_7 := Aside0.mk hi177_7; have HC177_7 := Aside0.mk hl177_7; clear hi177_7 hl177_7; have HR177_8 := Aside0.mk hi177_8; have HC177_8 := Aside0.mk hl177_8; clear hi177_8 hl177_8; replace p177 := eq_true p177; replace q177 := eq_true q177) | ((with_reducible refine gate_dst (N := 5) rfl ?_); refine box_event ?hg (N := 5) ?hd (cs := #[.int .i64 0, .int .i64 0, .int .i64 0, .int .i64 0, .int .u64 0, .int .i64 0, .string (⟨#[]⟩ : ByteArray), .slice none 0 0, .slice none 0 0, .int .i64 0]) (t := 44) ?hr ?_; (case hd => rfl); (case hg => rfl); (case hr => first | (go_simp; done) | (go_simp; rfl)); intro gb178 hg w8 hbox hb; have n0_ := Aside0.mk (blk_below (g := gb176) (o := .cells #[.string a0_0, .slice A0_1 l0_1.length c0_1, .slice A0_2 l0_2.length c0_2, .slice A0_3 l0_3.length c0_3, .slice (some ad177) l0_4.length c0_4] 25 (0, 0)) (by (with_reducible repeat (first | refine blk_drewN ?_ _ | refine blk_drew ?_ | refine blk_alloc ?_ _)); exact BK176.out) hb); have n1_ := Aside0.mk (below_step (by repeat (first | (with_reducible first | exact HB.out | apply below_alloc | apply pw_below_drewN | apply below_drew1 | refine below_set ?_ GE176.out) | exact HB.out)) hb); have n2_ := Aside0.mk (hbox); have n3_ := Aside0.mk ((by rw [hg]; exact (below_size (by repeat (first | (with_reducible first | exact HB.out | apply below_alloc | apply pw_below_drewN | apply below_drew1 | refine below_set ?_ GE176.out) | exact HB.out))) : w.heap.size <= gb178)); have n4_ := Aside0.mk ((by rw [hg]; exact (below_size (by repeat (first | (with_reducible first | exact HB.out | apply below_alloc | apply pw_below_drewN | apply below_drew1 | refine below_set ?_ GE176.out) | exact HB.out))) : w.heap.size <= gb178)); have n5_ := Aside0.mk ((by rw [hg]; exact Nat.ne_of_lt (blk_lt (g := gb176) (o := .cells #[.string a0_0, .slice A0_1 l0_1.length c0_1, .slice A0_2 l0_2.length c0_2, .slice A0_3 l0_3.length c0_3, .slice (some ad177) l0_4.length c0_4] 25 (0, 0)) (by (with_reducible repeat (first | refine blk_drewN ?_ _ | refine blk_drew ?_ | refine blk_alloc ?_ _)); exact BK176.out)) : gb176 ≠ gb178)); have n6_ := Aside0.mk ((by rw [hg]; exact Nat.ne_of_gt (blk_lt (g := gb176) (o := .cells #[.string a0_0, .slice A0_1 l0_1.length c0_1, .slice A0_2 l0_2.length c0_2, .slice A0_3 l0_3.length c0_3, .slice (some ad177) l0_4.length c0_4] 25 (0, 0)) (by (with_reducible repeat (first | refine blk_drewN ?_ _ | refine blk_drew ?_ | refine blk_alloc ?_ _)); exact BK176.out)) : gb178 ≠ gb176)); clear BK176; clear HB; have BK176 := n0_; have HB := n1_; have BK178 := n2_; have GW178 := n3_; have GE178 := n4_; have NB176_178 := n5_; have NB178_176 := n6_; clear n0_ n1_ n2_ n3_ n4_ n5_ n6_; clear hb hbox hg; have hnb9 := NB178_176.out; have hnc9 := NB176_178.out; have hcz10_0 : w8.cell? ⟨gb178, 0, none⟩ = some (.int .i64 0) := (blk_cell BK178.out 0).trans rfl; have hcz10_1 : w8.cell? ⟨gb178, 1, none⟩ = some (.int .i64 0) := (blk_cell BK178.out 1).trans rfl; have hcz10_2 : w8.cell? ⟨gb178, 2, none⟩ = some (.int .i64 0) := (blk_cell BK178.out 2).trans rfl; have hcz10_3 : w8.cell? ⟨gb178, 3, none⟩ = some (.int .i64 0) := (blk_cell BK178.out 3).trans rfl; have hcz10_4 : w8.cell? ⟨gb178, 4, none⟩ = some (.int .u64 0) := (blk_cell BK178.out 4).trans rfl; have hcz10_5 : w8.cell? ⟨gb178, 5, none⟩ = some (.int .i64 0) := (blk_cell BK178.out 5).trans rfl; have hcz10_6 : w8.cell? ⟨gb178, 6, none⟩ = some (.string (⟨#[]⟩ : ByteArray)) := (blk_cell BK178.out 6).trans rfl; have hcz10_7 : w8.cell? ⟨gb178, 7, none⟩ = some (.slice none 0 0) := (blk_cell BK178.out 7).trans rfl; have hcz10_8 : w8.cell? ⟨gb178, 8, none⟩ = some (.slice none 0 0) := (blk_cell BK178.out 8).trans rfl; have hcz10_9 : w8.cell? ⟨gb178, 9, none⟩ = some (.int .i64 0) := (blk_cell BK178.out 9).trans rfl; have hfz10_0 := blk_frozen BK178.out 0; have hfz10_1 := blk_frozen BK178.out 1; have hfz10_2 := blk_frozen BK178.out 2; have hfz10_3 := blk_frozen BK178.out 3; have hfz10_4 := blk_frozen BK178.out 4; have hfz10_5 := blk_frozen BK178.out 5; have hfz10_6 := blk_frozen BK178.out 6; have hfz10_7 := blk_frozen BK178.out 7; have hfz10_8 := blk_frozen BK178.out 8; have hfz10_9 := blk_frozen BK178.out 9))
   (try simp only [Act.put, List.setIfInBounds_toArray, List.set_cons_zero, List.set_cons_succ])
   go_cut [13] (fun v13 wc => ∃ (kq : Nat) (x13_4 : Bool), v13 = .bool x13_4 /\ Aside0 (flow_Next.j0 kq a1 ((rd_T44 l0_4 a1).f0) x13_4 ((rd_T44 l0_4 a1).f0) ((rd_T44 l0_4 a1).f1) ((rd_T44 l0_4 a1).f2) ((rd_T44 l0_4 a1).f3) ((rd_T44 l0_4 a1).f4) ((rd_T44 l0_4 a1).f5) ((rd_T44 l0_4 a1).f6) ((rd_T44 l0_4 a1).f7) ((rd_T44 l0_4 a1).f8) ((rd_T44 l0_4 a1).f9) = some r) /\ Aside0 (kq <= k) /\ Aside0 (wc.heap[gb176]? = some (.cells #[.string a0_0, (.slice A0_1 l0_1.length c0_1), (.slice A0_2 l0_2.length c0_2), (.slice A0_3 l0_3.length c0_3), (.slice (some ad177) l0_4.length c0_4)] 25 (0, 0))) /\ Aside0 (wc.heap[gb178]? = some (.cells #[.int .i64 ((rd_T44 l0_4 a1).f0), .int .i64 ((rd_T44 l0_4 a1).f1), .int .i64 ((rd_T44 l0_4 a1).f2), .int .i64 ((rd_T44 l0_4 a1).f3), .int .u64 ((rd_T44 l0_4 a1).f4), .int .i64 ((rd_T44 l0_4 a1).f5), .string ((rd_T44 l0_4 a1).f6), (.slice A177_7 ((rd_T44 l0_4 a1).f7).length c177_7), (.slice A177_8 ((rd_T44 l0_4 a1).f8).length c177_8), .int .i64 ((rd_T44 l0_4 a1).f9)] 44 (0, 0))) /\ Aside0 (Below w.heap.size w wc))
   case first =>
    have H := HC5.out
    clear HC5
    by_cases c11 : ((rd_T44 l0_4 a1).f0) = 43
    ·rw [if_pos c11] at H
     have c11b0 : (((rd_T44 l0_4 a1).f0) == 43) = true := beq_iff_eq.mpr c11
     have c11b1 : (((rd_T44 l0_4 a1).f0) != 43) = false := bne_eq_false_iff_eq.mpr c11
     clear c11
     (first | rw [c11b0] | (simp only [i64_w, i32_w]; rw [c11b0]) | skip)
     have H' := Aside0.mk H
     clear H
     go_wp2
     go_meet
     case rel => exact ⟨_, ((((rd_T44 l0_4 a1).f0) == 43)), (by first | rfl | (simp; done) | (simp [*]; done)), H', ⟨by first | omega | exact Nat.le_refl _⟩, ⟨by (with_reducible repeat (first | refine blk_drewN ?_ _ | refine blk_drew ?_ | refine blk_alloc ?_ _)); refine blk_far ?_ NB176_178.out _; (with_reducible repeat (first | refine blk_drewN ?_ _ | refine blk_drew ?_ | refine blk_alloc ?_ _)); refine blk_far ?_ NB176_178.out _; (with_reducible repeat (first | refine blk_drewN ?_ _ | refine blk_drew ?_ | refine blk_alloc ?_ _)); refine blk_far ?_ NB176_178.out _; (with_reducible repeat (first | refine blk_drewN ?_ _ | refine blk_drew ?_ | refine blk_alloc ?_ _)); refine blk_far ?_ NB176_178.out _; (with_reducible repeat (first | refine blk_drewN ?_ _ | refine blk_drew ?_ | refine blk_alloc ?_ _)); refine blk_far ?_ NB176_178.out _; (with_reducible repeat (first | refine blk_drewN ?_ _ | refine blk_drew ?_ | refine blk_alloc ?_ _)); refine blk_far ?_ NB176_178.out _; (with_reducible repeat (first | refine blk_drewN ?_ _ | refine blk_drew ?_ | refine blk_alloc ?_ _)); refine blk_far ?_ NB176_178.out _; (with_reducible repeat (first | refine blk_drewN ?_ _ | refine blk_drew ?_ | refine blk_alloc ?_ _)); refine blk_far ?_ NB176_178.out _; (with_reducible repeat (first | refine blk_drewN ?_ _ | refine blk_drew ?_ | refine blk_alloc ?_ _)); refine blk_far ?_ NB176_178.out _; (with_reducible repeat (first | refine blk_drewN ?_ _ | refine blk_drew ?_ | refine blk_alloc ?_ _)); refine blk_far ?_ NB176_178.out _; (with_reducible repeat (first | refine blk_drewN ?_ _ | refine blk_drew ?_ | refine blk_alloc ?_ _)); exact BK176.out⟩, ⟨by (with_reducible repeat (first | refine blk_drewN ?_ _ | refine blk_drew ?_ | refine blk_alloc ?_ _)); refine blk_put (cs := #[.int .i64 ((rd_T44 l0_4 a1).f0), .int .i64 ((rd_T44 l0_4 a1).f1), .int .i64 ((rd_T44 l0_4 a1).f2), .int .i64 ((rd_T44 l0_4 a1).f3), .int .u64 ((rd_T44 l0_4 a1).f4), .int .i64 ((rd_T44 l0_4 a1).f5), .string ((rd_T44 l0_4 a1).f6), .slice A177_7 ((rd_T44 l0_4 a1).f7).length c177_7, .slice A177_8 ((rd_T44 l0_4 a1).f8).length c177_8, .int .i64 0]) ?_ 9 _ rfl; (with_reducible repeat (first | refine blk_drewN ?_ _ | refine blk_drew ?_ | refine blk_alloc ?_ _)); refine blk_put (cs := #[.int .i64 ((rd_T44 l0_4 a1).f0), .int .i64 ((rd_T44 l0_4 a1).f1), .int .i64 ((rd_T44 l0_4 a1).f2), .int .i64 ((rd_T44 l0_4 a1).f3), .int .u64 ((rd_T44 l0_4 a1).f4), .int .i64 ((rd_T44 l0_4 a1).f5), .string ((rd_T44 l0_4 a1).f6), .slice A177_7 ((rd_T44 l0_4 a1).f7).length c177_7, .slice none 0 0, .int .i64 0]) ?_ 8 _ rfl; (with_reducible repeat (first | refine blk_drewN ?_ _ | refine blk_drew ?_ | refine blk_alloc ?_ _)); refine blk_put (cs := #[.int .i64 ((rd_T44 l0_4 a1).f0), .int .i64 ((rd_T44 l0_4 a1).f1), .int .i64 ((rd_T44 l0_4 a1).f2), .int .i64 ((rd_T44 l0_4 a1).f3), .int .u64 ((rd_T44 l0_4 a1).f4), .int .i64 ((rd_T44 l0_4 a1).f5), .string ((rd_T44 l0_4 a1).f6), .slice none 0 0, .slice none 0 0, .int .i64 0]) ?_ 7 _ rfl; (with_reducible repeat (first | refine blk_drewN ?_ _ | refine blk_drew ?_ | refine blk_alloc ?_ _)); refine blk_put (cs := #[.int .i64 ((rd_T44 l0_4 a1).f0), .int .i64 ((rd_T44 l0_4 a1).f1), .int .i64 ((rd_T44 l0_4 a1).f2), .int .i64 ((rd_T44 l0_4 a1).f3), .int .u64 ((rd_T44 l0_4 a1).f4), .int .i64 ((rd_T44 l0_4 a1).f5), .string (⟨#[]⟩ : ByteArray), .slice none 0 0, .slice none 0 0, .int .i64 0]) ?_ 6 _ rfl; (with_reducible repeat (first | refine blk_drewN ?_ _ | refine blk_drew ?_ | refine blk_alloc ?_ _)); refine blk_put (cs := #[.int .i64 ((rd_T44 l0_4 a1).f0), .int .i64 ((rd_T44 l0_4 a1).f1), .int .i64 ((rd_T44 l0_4 a1).f2), .int .i64 ((rd_T44 l0_4 a1).f3), .int .u64 ((rd_T44 l0_4 a1).f4), .int .i64 0, .string (⟨#[]⟩ : ByteArray), .slice none 0 0, .slice none 0 0, .int .i64 0]) ?_ 5 _ rfl; (with_reducible repeat (first | refine blk_drewN ?_ _ | refine blk_drew ?_ | refine blk_alloc ?_ _)); refine blk_put (cs := #[.int .i64 ((rd_T44 l0_4 a1).f0), .int .i64 ((rd_T44 l0_4 a1).f1), .int .i64 ((rd_T44 l0_4 a1).f2), .int .i64 ((rd_T44 l0_4 a1).f3), .int .u64 0, .int .i64 0, .string (⟨#[]⟩ : ByteArray), .slice none 0 0, .slice none 0 0, .int .i64 0]) ?_ 4 _ rfl; (with_reducible repeat (first | refine blk_drewN ?_ _ | refine blk_drew ?_ | refine blk_alloc ?_ _)); refine blk_put (cs := #[.int .i64 ((rd_T44 l0_4 a1).f0), .int .i64 ((rd_T44 l0_4 a1).f1), .int .i64 ((rd_T44 l0_4 a1).f2), .int .i64 0, .int .u64 0, .int .i64 0, .string (⟨#[]⟩ : ByteArray), .slice none 0 0, .slice none 0 0, .int .i64 0]) ?_ 3 _ rfl; (with_reducible repeat (first | refine blk_drewN ?_ _ | refine blk_drew ?_ | refine blk_alloc ?_ _)); refine blk_put (cs := #[.int .i64 ((rd_T44 l0_4 a1).f0), .int .i64 ((rd_T44 l0_4 a1).f1), .int .i64 0, .int .i64 0, .int .u64 0, .int .i64 0, .string (⟨#[]⟩ : ByteArray), .slice none 0 0, .slice none 0 0, .int .i64 0]) ?_ 2 _ rfl; (with_reducible repeat (first | refine blk_drewN ?_ _ | refine blk_drew ?_ | refine blk_alloc ?_ _)); refine blk_put (cs := #[.int .i64 ((rd_T44 l0_4 a1).f0), .int .i64 0, .int .i64 0, .int .i64 0, .int .u64 0, .int .i64 0, .string (⟨#[]⟩ : ByteArray), .slice none 0 0, .slice none 0 0, .int .i64 0]) ?_ 1 _ rfl; (with_reducible repeat (first | refine blk_drewN ?_ _ | refine blk_drew ?_ | refine blk_alloc ?_ _)); refine blk_put (cs := #[.int .i64 0, .int .i64 0, .int .i64 0, .int .i64 0, .int .u64 0, .int .i64 0, .string (⟨#[]⟩ : ByteArray), .slice none 0 0, .slice none 0 0, .int .i64 0]) ?_ 0 _ rfl; (with_reducible repeat (first | refine blk_drewN ?_ _ | refine blk_drew ?_ | refine blk_alloc ?_ _)); exact BK178.out⟩, ⟨by repeat (first | (with_reducible first | exact HB.out | apply below_alloc | apply pw_below_drewN | apply below_drew1 | refine below_set ?_ GE176.out | refine below_set ?_ GE178.out) | exact HB.out)⟩⟩
    ·rw [if_neg c11] at H
     have c11b0 : (((rd_T44 l0_4 a1).f0) == 43) = false := beq_eq_false_iff_ne.mpr c11
     have c11b1 : (((rd_T44 l0_4 a1).f0) != 43) = true := bne_iff_ne.mpr c11
     (first | rw [c11b0] | (simp only [i64_w, i32_w]; rw [c11b0]) | skip)
     have H' := Aside0.mk H
     clear H
     go_wp2
     go_meet
     case rel => exact ⟨_, ((((rd_T44 l0_4 a1).f0) == 22)), (by first | rfl | (simp; done) | (simp [*]; done)), H', ⟨by first | omega | exact Nat.le_refl _⟩, ⟨by (with_reducible repeat (first | refine blk_drewN ?_ _ | refine blk_drew ?_ | refine blk_alloc ?_ _)); refine blk_far ?_ NB176_178.out _; (with_reducible repeat (first | refine blk_drewN ?_ _ | refine blk_drew ?_ | refine blk_alloc ?_ _)); refine blk_far ?_ NB176_178.out _; (with_reducible repeat (first | refine blk_drewN ?_ _ | refine blk_drew ?_ | refine blk_alloc ?_ _)); refine blk_far ?_ NB176_178.out _; (with_reducible repeat (first | refine blk_drewN ?_ _ | refine blk_drew ?_ | refine blk_alloc ?_ _)); refine blk_far ?_ NB176_178.out _; (with_reducible repeat (first | refine blk_drewN ?_ _ | refine blk_drew ?_ | refine blk_alloc ?_ _)); refine blk_far ?_ NB176_178.out _; (with_reducible repeat (first | refine blk_drewN ?_ _ | refine blk_drew ?_ | refine blk_alloc ?_ _)); refine blk_far ?_ NB176_178.out _; (with_reducible repeat (first | refine blk_drewN ?_ _ | refine blk_drew ?_ | refine blk_alloc ?_ _)); refine blk_far ?_ NB176_178.out _; (with_reducible repeat (first | refine blk_drewN ?_ _ | refine blk_drew ?_ | refine blk_alloc ?_ _)); refine blk_far ?_ NB176_178.out _; (with_reducible repeat (first | refine blk_drewN ?_ _ | refine blk_drew ?_ | refine blk_alloc ?_ _)); refine blk_far ?_ NB176_178.out _; (with_reducible repeat (first | refine blk_drewN ?_ _ | refine blk_drew ?_ | refine blk_alloc ?_ _)); refine blk_far ?_ NB176_178.out _; (with_reducible repeat (first | refine blk_drewN ?_ _ | refine blk_drew ?_ | refine blk_alloc ?_ _)); exact BK176.out⟩, ⟨by (with_reducible repeat (first | refine blk_drewN ?_ _ | refine blk_drew ?_ | refine blk_alloc ?_ _)); refine blk_put (cs := #[.int .i64 ((rd_T44 l0_4 a1).f0), .int .i64 ((rd_T44 l0_4 a1).f1), .int .i64 ((rd_T44 l0_4 a1).f2), .int .i64 ((rd_T44 l0_4 a1).f3), .int .u64 ((rd_T44 l0_4 a1).f4), .int .i64 ((rd_T44 l0_4 a1).f5), .string ((rd_T44 l0_4 a1).f6), .slice A177_7 ((rd_T44 l0_4 a1).f7).length c177_7, .slice A177_8 ((rd_T44 l0_4 a1).f8).length c177_8, .int .i64 0]) ?_ 9 _ rfl; (with_reducible repeat (first | refine blk_drewN ?_ _ | refine blk_drew ?_ | refine blk_alloc ?_ _)); refine blk_put (cs := #[.int .i64 ((rd_T44 l0_4 a1).f0), .int .i64 ((rd_T44 l0_4 a1).f1), .int .i64 ((rd_T44 l0_4 a1).f2), .int .i64 ((rd_T44 l0_4 a1).f3), .int .u64 ((rd_T44 l0_4 a1).f4), .int .i64 ((rd_T44 l0_4 a1).f5), .string ((rd_T44 l0_4 a1).f6), .slice A177_7 ((rd_T44 l0_4 a1).f7).length c177_7, .slice none 0 0, .int .i64 0]) ?_ 8 _ rfl; (with_reducible repeat (first | refine blk_drewN ?_ _ | refine blk_drew ?_ | refine blk_alloc ?_ _)); refine blk_put (cs := #[.int .i64 ((rd_T44 l0_4 a1).f0), .int .i64 ((rd_T44 l0_4 a1).f1), .int .i64 ((rd_T44 l0_4 a1).f2), .int .i64 ((rd_T44 l0_4 a1).f3), .int .u64 ((rd_T44 l0_4 a1).f4), .int .i64 ((rd_T44 l0_4 a1).f5), .string ((rd_T44 l0_4 a1).f6), .slice none 0 0, .slice none 0 0, .int .i64 0]) ?_ 7 _ rfl; (with_reducible repeat (first | refine blk_drewN ?_ _ | refine blk_drew ?_ | refine blk_alloc ?_ _)); refine blk_put (cs := #[.int .i64 ((rd_T44 l0_4 a1).f0), .int .i64 ((rd_T44 l0_4 a1).f1), .int .i64 ((rd_T44 l0_4 a1).f2), .int .i64 ((rd_T44 l0_4 a1).f3), .int .u64 ((rd_T44 l0_4 a1).f4), .int .i64 ((rd_T44 l0_4 a1).f5), .string (⟨#[]⟩ : ByteArray), .slice none 0 0, .slice none 0 0, .int .i64 0]) ?_ 6 _ rfl; (with_reducible repeat (first | refine blk_drewN ?_ _ | refine blk_drew ?_ | refine blk_alloc ?_ _)); refine blk_put (cs := #[.int .i64 ((rd_T44 l0_4 a1).f0), .int .i64 ((rd_T44 l0_4 a1).f1), .int .i64 ((rd_T44 l0_4 a1).f2), .int .i64 ((rd_T44 l0_4 a1).f3), .int .u64 ((rd_T44 l0_4 a1).f4), .int .i64 0, .string (⟨#[]⟩ : ByteArray), .slice none 0 0, .slice none 0 0, .int .i64 0]) ?_ 5 _ rfl; (with_reducible repeat (first | refine blk_drewN ?_ _ | refine blk_drew ?_ | refine blk_alloc ?_ _)); refine blk_put (cs := #[.int .i64 ((rd_T44 l0_4 a1).f0), .int .i64 ((rd_T44 l0_4 a1).f1), .int .i64 ((rd_T44 l0_4 a1).f2), .int .i64 ((rd_T44 l0_4 a1).f3), .int .u64 0, .int .i64 0, .string (⟨#[]⟩ : ByteArray), .slice none 0 0, .slice none 0 0, .int .i64 0]) ?_ 4 _ rfl; (with_reducible repeat (first | refine blk_drewN ?_ _ | refine blk_drew ?_ | refine blk_alloc ?_ _)); refine blk_put (cs := #[.int .i64 ((rd_T44 l0_4 a1).f0), .int .i64 ((rd_T44 l0_4 a1).f1), .int .i64 ((rd_T44 l0_4 a1).f2), .int .i64 0, .int .u64 0, .int .i64 0, .string (⟨#[]⟩ : ByteArray), .slice none 0 0, .slice none 0 0, .int .i64 0]) ?_ 3 _ rfl; (with_reducible repeat (first | refine blk_drewN ?_ _ | refine blk_drew ?_ | refine blk_alloc ?_ _)); refine blk_put (cs := #[.int .i64 ((rd_T44 l0_4 a1).f0), .int .i64 ((rd_T44 l0_4 a1).f1), .int .i64 0, .int .i64 0, .int .u64 0, .int .i64 0, .string (⟨#[]⟩ : ByteArray), .slice none 0 0, .slice none 0 0, .int .i64 0]) ?_ 2 _ rfl; (with_reducible repeat (first | refine blk_drewN ?_ _ | refine blk_drew ?_ | refine blk_alloc ?_ _)); refine blk_put (cs := #[.int .i64 ((rd_T44 l0_4 a1).f0), .int .i64 0, .int .i64 0, .int .i64 0, .int .u64 0, .int .i64 0, .string (⟨#[]⟩ : ByteArray), .slice none 0 0, .slice none 0 0, .int .i64 0]) ?_ 1 _ rfl; (with_reducible repeat (first | refine blk_drewN ?_ _ | refine blk_drew ?_ | refine blk_alloc ?_ _)); refine blk_put (cs := #[.int .i64 0, .int .i64 0, .int .i64 0, .int .i64 0, .int .u64 0, .int .i64 0, .string (⟨#[]⟩ : ByteArray), .slice none 0 0, .slice none 0 0, .int .i64 0]) ?_ 0 _ rfl; (with_reducible repeat (first | refine blk_drewN ?_ _ | refine blk_drew ?_ | refine blk_alloc ?_ _)); exact BK178.out⟩, ⟨by repeat (first | (with_reducible first | exact HB.out | apply below_alloc | apply pw_below_drewN | apply below_drew1 | refine below_set ?_ GE176.out | refine below_set ?_ GE178.out) | exact HB.out)⟩⟩
   case rest =>
    clear HC5
    try clear c1
    try clear p1
    try clear q1
    try clear hx1
    try clear p2
    try clear c3
    try clear c3b0
    try clear c4
    try clear c4b0
    try clear c9
    try clear c11
    try clear c11b0
    try clear c11b1
    try clear hcz10_0
    try clear hcz10_1
    try clear hcz10_2
    try clear hcz10_3
    try clear hcz10_4
    try clear hcz10_5
    try clear hcz10_6
    try clear hcz10_7
    try clear hcz10_8
    try clear hcz10_9
    try clear hcz7_0
    try clear hcz7_1
    try clear hcz7_2
    try clear hcz7_3
    try clear hcz7_4
    try clear hfz10_0
    try clear hfz10_1
    try clear hfz10_2
    try clear hfz10_3
    try clear hfz10_4
    try clear hfz10_5
    try clear hfz10_6
    try clear hfz10_7
    try clear hfz10_8
    try clear hfz10_9
    try clear hfz7_0
    try clear hfz7_1
    try clear hfz7_2
    try clear hfz7_3
    try clear hfz7_4
    try clear hx177_0
    try clear hx177_1
    try clear hx177_2
    try clear hx177_3
    try clear hx177_4
    try clear hx177_5
    try clear hx177_6
    try clear hx177_7
    try clear hx177_8
    try clear hx177_9
    try clear p177
    try clear q177
    obtain ⟨kq, x13_4, rfl, HA, HJ4, BK176, BK178, HB⟩ := hcut
    cases kq with
    | zero => exact absurd HA.out (by simp [flow_Next.j0])
    | succ kj4 =>
     have H := HA.out
     clear HA
     simp only [flow_Next.j0] at H
     by_cases c12 : x13_4 = true
     ·subst c12
      have H1 : (some ([] : List Int)) = some r := by rw [if_pos rfl] at H; exact H
      clear H
      have H := H1
      clear H1
      obtain rfl := Option.some.inj H
      go_wp2
      go_ret
      exact ⟨_, by first | rfl | (simp [errW_none, errW_some] <;> rfl) | (simp [*, errW_none, errW_some] <;> rfl), by first | exact Kd.R_nil _ _ _ _ _ | exact Kd.N_nil _ _ _ _ _ | exact Kd.V_nil _ _ _ _ _ | exact Kd.Q_nil _ _ _ _ _ | exact Kd.S_nil _ _ _ _ _, by repeat (first | (with_reducible first | exact HB.out | apply below_alloc | apply pw_below_drewN | apply below_drew1 | refine below_set ?_ GE176.out | refine below_set ?_ GE178.out) | exact HB.out)⟩
     ·replace c12 := Bool.eq_false_iff.mpr c12
      subst c12
      have H1 : (if ((rd_T44 l0_4 a1).f0) = 18 then (some (([((rd_T44 l0_4 a1).f9)] : List Int))) else (if ((rd_T44 l0_4 a1).f0) = 19 then (some (([wrap64 (a1 + 1), ((rd_T44 l0_4 a1).f9)] : List Int))) else (some (([wrap64 (a1 + 1)] : List Int))))) = some r := by rw [if_neg (show ¬ (false = true) by decide)] at H; exact H
      clear H
      have H := H1
      clear H1
      by_cases c13 : ((rd_T44 l0_4 a1).f0) = 18
      ·rw [if_pos c13] at H
       have c13b0 : (((rd_T44 l0_4 a1).f0) == 18) = true := beq_iff_eq.mpr c13
       have c13b1 : (((rd_T44 l0_4 a1).f0) != 18) = false := bne_eq_false_iff_eq.mpr c13
       clear c13
       obtain ⟨y179, hy179⟩ : ∃ y_ : List Int, y_ = (([((rd_T44 l0_4 a1).f9)] : List Int)) := ⟨_, rfl⟩
       replace H : (some y179) = some r := by first | (rw [hy179]; with_reducible exact H) | (have H2_ := (Option.bind_some _ _).symm.trans H; rw [hy179]; with_reducible exact H2_) | (have H2_ := (Option.bind_some _ _).symm.trans H; with_reducible exact H2_) | with_reducible exact H | (rw [hy179]; exact H) | exact H
       have Ny179 := Aside0.mk hy179
       clear hy179
       obtain rfl := Option.some.inj H
       have hnb14 := NB178_176.out
       have hnc14 := NB176_178.out
       have hcz15_0 : wc.cell? ⟨gb178, 0, none⟩ = some (.int .i64 ((rd_T44 l0_4 a1).f0)) := (blk_cell BK178.out 0).trans rfl
       have hcz15_1 : wc.cell? ⟨gb178, 1, none⟩ = some (.int .i64 ((rd_T44 l0_4 a1).f1)) := (blk_cell BK178.out 1).trans rfl
       have hcz15_2 : wc.cell? ⟨gb178, 2, none⟩ = some (.int .i64 ((rd_T44 l0_4 a1).f2)) := (blk_cell BK178.out 2).trans rfl
       have hcz15_3 : wc.cell? ⟨gb178, 3, none⟩ = some (.int .i64 ((rd_T44 l0_4 a1).f3)) := (blk_cell BK178.out 3).trans rfl
       have hcz15_4 : wc.cell? ⟨gb178, 4, none⟩ = some (.int .u64 ((rd_T44 l0_4 a1).f4)) := (blk_cell BK178.out 4).trans rfl
       have hcz15_5 : wc.cell? ⟨gb178, 5, none⟩ = some (.int .i64 ((rd_T44 l0_4 a1).f5)) := (blk_cell BK178.out 5).trans rfl
       have hcz15_6 : wc.cell? ⟨gb178, 6, none⟩ = some (.string ((rd_T44 l0_4 a1).f6)) := (blk_cell BK178.out 6).trans rfl
       have hcz15_7 : wc.cell? ⟨gb178, 7, none⟩ = some (.slice A177_7 ((rd_T44 l0_4 a1).f7).length c177_7) := (blk_cell BK178.out 7).trans rfl
       have hcz15_8 : wc.cell? ⟨gb178, 8, none⟩ = some (.slice A177_8 ((rd_T44 l0_4 a1).f8).length c177_8) := (blk_cell BK178.out 8).trans rfl
       have hcz15_9 : wc.cell? ⟨gb178, 9, none⟩ = some (.int .i64 ((rd_T44 l0_4 a1).f9)) := (blk_cell BK178.out 9).trans rfl
       have hfz15_0 := blk_frozen BK178.out 0
       have hfz15_1 := blk_frozen BK178.out 1
       have hfz15_2 := blk_frozen BK178.out 2
       have hfz15_3 := blk_frozen BK178.out 3
       have hfz15_4 := blk_frozen BK178.out 4
       have hfz15_5 := blk_frozen BK178.out 5
       have hfz15_6 := blk_frozen BK178.out 6
       have hfz15_7 := blk_frozen BK178.out 7
       have hfz15_8 := blk_frozen BK178.out 8
       have hfz15_9 := blk_frozen BK178.out 9
       go_wp2_with (first | ((with_reducible refine gate_dst (N := 20) rfl ?_); refine Kd.R_lit (Kd.int .i64) _ 3 ?hg (N := 20) ?hd (xs := ([((rd_T44 l0_4 a1).f9)] : List Int)) (inner := [.int .i64 ((rd_T44 l0_4 a1).f9)]) (ok := fun _ => True) (okp := fun _ => True) ?hr ?hp (fun _ hk => hk) trivial (Below.refl _ _) (Nat.le_refl _) (by simp) ?_; (case hd => rfl); (case hg => rfl); (case hr => first | (go_simp; done) | (go_simp; rfl)); (case hp => exact (Reps.one (show Kd.M (Kd.int .i64) _ _ _ ((rd_T44 l0_4 a1).f9) [.int .i64 ((rd_T44 l0_4 a1).f9)] from rfl) (Reps.none _ _))); intro v180 w16 ho17 hb hg_ hnew_; clear hg_ hnew_; (first | rw [<- Ny179.out] at ho17 | (simp only [Int.reduceToNat] at ho17; rw [<- Ny179.out] at ho17)); have n0_ := Aside0.mk (Kd.R_lower ho17 (below_size (by repeat (first | (with_reducible first | exact HB.out | apply below_alloc | apply pw_below_drewN | apply below_drew1 | refine below_set ?_ GE176.out | refine below_set ?_ GE178.out) | exact HB.out)))); have n1_ := Aside0.mk (blk_below (g := gb176) (o := .cells #[.string a0_0, .slice A0_1 l0_1.length c0_1, .slice A0_2 l0_2.length c0_2, .slice A0_3 l0_3.length c0_3, .slice (some ad177) l0_4.length c0_4] 25 (0, 0)) (by (with_reducible repeat (first | refine blk_drewN ?_ _ | refine blk_drew ?_ | refine blk_alloc ?_ _)); exact BK176.out) hb); have n2_ := Aside0.mk (blk_below (g := gb178) (o := .cells #[.int .i64 ((rd_T44 l0_4 a1).f0), .int .i64 ((rd_T44 l0_4 a1).f1), .int .i64 ((rd_T44 l0_4 a1).f2), .int .i64 ((rd_T44 l0_4 a1).f3), .int .u64 ((rd_T44 l0_4 a1).f4), .int .i64 ((rd_T44 l0_4 a1).f5), .string ((rd_T44 l0_4 a1).f6), .slice A177_7 ((rd_T44 l0_4 a1).f7).length c177_7, .slice A177_8 ((rd_T44 l0_4 a1).f8).length c177_8, .int .i64 ((rd_T44 l0_4 a1).f9)] 44 (0, 0)) (by (with_reducible repeat (first | refine blk_drewN ?_ _ | refine blk_drew ?_ | refine blk_alloc ?_ _)); exact BK178.out) hb); have n3_ := Aside0.mk (below_step (by repeat (first | (with_reducible first | exact HB.out | apply below_alloc | apply pw_below_drewN | apply below_drew1 | refine below_set ?_ GE176.out | refine below_set ?_ GE178.out) | exact HB.out)) hb); clear BK176; clear BK178; clear HB; have HO181 := n0_; have BK176 := n1_; have BK178 := n2_; have HB := n3_; clear n0_ n1_ n2_ n3_; clear hb ho17))
       go_ret
       exact ⟨_, by first | rfl | (simp [errW_none, errW_some] <;> rfl) | (simp [*, errW_none, errW_some] <;> rfl), by (with_reducible repeat (first | apply Kd.R_alloc | apply Kd.R_drewN | apply Kd.R_drew)); exact HO181.out, by repeat (first | (with_reducible first | exact HB.out | apply below_alloc | apply pw_below_drewN | apply below_drew1 | refine below_set ?_ GE176.out | refine below_set ?_ GE178.out) | exact HB.out)⟩
      ·rw [if_neg c13] at H
       have c13b0 : (((rd_T44 l0_4 a1).f0) == 18) = false := beq_eq_false_iff_ne.mpr c13
       have c13b1 : (((rd_T44 l0_4 a1).f0) != 18) = true := bne_iff_ne.mpr c13
       by_cases c18 : ((rd_T44 l0_4 a1).f0) = 19
       ·rw [if_pos c18] at H
        have c18b0 : (((rd_T44 l0_4 a1).f0) == 19) = true := beq_iff_eq.mpr c18
        have c18b1 : (((rd_T44 l0_4 a1).f0) != 19) = false := bne_eq_false_iff_eq.mpr c18
        clear c18
        obtain ⟨y182, hy182⟩ : ∃ y_ : List Int, y_ = (([wrap64 (a1 + 1), ((rd_T44 l0_4 a1).f9)] : List Int)) := ⟨_, rfl⟩
        replace H : (some y182) = some r := by first | (rw [hy182]; with_reducible exact H) | (have H2_ := (Option.bind_some _ _).symm.trans H; rw [hy182]; with_reducible exact H2_) | (have H2_ := (Option.bind_some _ _).symm.trans H; with_reducible exact H2_) | with_reducible exact H | (rw [hy182]; exact H) | exact H
        have Ny182 := Aside0.mk hy182
        clear hy182
        obtain rfl := Option.some.inj H
        have hnb19 := NB178_176.out
        have hnc19 := NB176_178.out
        have hcz20_0 : wc.cell? ⟨gb178, 0, none⟩ = some (.int .i64 ((rd_T44 l0_4 a1).f0)) := (blk_cell BK178.out 0).trans rfl
        have hcz20_1 : wc.cell? ⟨gb178, 1, none⟩ = some (.int .i64 ((rd_T44 l0_4 a1).f1)) := (blk_cell BK178.out 1).trans rfl
        have hcz20_2 : wc.cell? ⟨gb178, 2, none⟩ = some (.int .i64 ((rd_T44 l0_4 a1).f2)) := (blk_cell BK178.out 2).trans rfl
        have hcz20_3 : wc.cell? ⟨gb178, 3, none⟩ = some (.int .i64 ((rd_T44 l0_4 a1).f3)) := (blk_cell BK178.out 3).trans rfl
        have hcz20_4 : wc.cell? ⟨gb178, 4, none⟩ = some (.int .u64 ((rd_T44 l0_4 a1).f4)) := (blk_cell BK178.out 4).trans rfl
        have hcz20_5 : wc.cell? ⟨gb178, 5, none⟩ = some (.int .i64 ((rd_T44 l0_4 a1).f5)) := (blk_cell BK178.out 5).trans rfl
        have hcz20_6 : wc.cell? ⟨gb178, 6, none⟩ = some (.string ((rd_T44 l0_4 a1).f6)) := (blk_cell BK178.out 6).trans rfl
        have hcz20_7 : wc.cell? ⟨gb178, 7, none⟩ = some (.slice A177_7 ((rd_T44 l0_4 a1).f7).length c177_7) := (blk_cell BK178.out 7).trans rfl
        have hcz20_8 : wc.cell? ⟨gb178, 8, none⟩ = some (.slice A177_8 ((rd_T44 l0_4 a1).f8).length c177_8) := (blk_cell BK178.out 8).trans rfl
        have hcz20_9 : wc.cell? ⟨gb178, 9, none⟩ = some (.int .i64 ((rd_T44 l0_4 a1).f9)) := (blk_cell BK178.out 9).trans rfl
        have hfz20_0 := blk_frozen BK178.out 0
        have hfz20_1 := blk_frozen BK178.out 1
        have hfz20_2 := blk_frozen BK178.out 2
        have hfz20_3 := blk_frozen BK178.out 3
        have hfz20_4 := blk_frozen BK178.out 4
        have hfz20_5 := blk_frozen BK178.out 5
        have hfz20_6 := blk_frozen BK178.out 6
        have hfz20_7 := blk_frozen BK178.out 7
        have hfz20_8 := blk_frozen BK178.out 8
        have hfz20_9 := blk_frozen BK178.out 9
        go_wp2_with (first | ((with_reducible refine gate_dst (N := 27) rfl ?_); refine Kd.R_lit (Kd.int .i64) _ 3 ?hg (N := 27) ?hd (xs := ([wrap64 (a1 + 1), ((rd_T44 l0_4 a1).f9)] : List Int)) (inner := [.int .i64 (wrap64 (a1 + 1)), .int .i64 ((rd_T44 l0_4 a1).f9)]) (ok := fun _ => True) (okp := fun _ => True) ?hr ?hp (fun _ hk => hk) trivial (Below.refl _ _) (Nat.le_refl _) (by simp) ?_; (case hd => rfl); (case hg => rfl); (case hr => first | (go_simp; done) | (go_simp; rfl)); (case hp => exact (Reps.one (show Kd.M (Kd.int .i64) _ _ _ (wrap64 (a1 + 1)) [.int .i64 (wrap64 (a1 + 1))] from rfl) (Reps.one (show Kd.M (Kd.int .i64) _ _ _ ((rd_T44 l0_4 a1).f9) [.int .i64 ((rd_T44 l0_4 a1).f9)] from rfl) (Reps.none _ _)))); intro v183 w21 ho22 hb hg_ hnew_; clear hg_ hnew_; (first | rw [<- Ny182.out] at ho22 | (simp only [Int.reduceToNat] at ho22; rw [<- Ny182.out] at ho22)); have n0_ := Aside0.mk (Kd.R_lower ho22 (below_size (by repeat (first | (with_reducible first | exact HB.out | apply below_alloc | apply pw_below_drewN | apply below_drew1 | refine below_set ?_ GE176.out | refine below_set ?_ GE178.out) | exact HB.out)))); have n1_ := Aside0.mk (blk_below (g := gb176) (o := .cells #[.string a0_0, .slice A0_1 l0_1.length c0_1, .slice A0_2 l0_2.length c0_2, .slice A0_3 l0_3.length c0_3, .slice (some ad177) l0_4.length c0_4] 25 (0, 0)) (by (with_reducible repeat (first | refine blk_drewN ?_ _ | refine blk_drew ?_ | refine blk_alloc ?_ _)); exact BK176.out) hb); have n2_ := Aside0.mk (blk_below (g := gb178) (o := .cells #[.int .i64 ((rd_T44 l0_4 a1).f0), .int .i64 ((rd_T44 l0_4 a1).f1), .int .i64 ((rd_T44 l0_4 a1).f2), .int .i64 ((rd_T44 l0_4 a1).f3), .int .u64 ((rd_T44 l0_4 a1).f4), .int .i64 ((rd_T44 l0_4 a1).f5), .string ((rd_T44 l0_4 a1).f6), .slice A177_7 ((rd_T44 l0_4 a1).f7).length c177_7, .slice A177_8 ((rd_T44 l0_4 a1).f8).length c177_8, .int .i64 ((rd_T44 l0_4 a1).f9)] 44 (0, 0)) (by (with_reducible repeat (first | refine blk_drewN ?_ _ | refine blk_drew ?_ | refine blk_alloc ?_ _)); exact BK178.out) hb); have n3_ := Aside0.mk (below_step (by repeat (first | (with_reducible first | exact HB.out | apply below_alloc | apply pw_below_drewN | apply below_drew1 | refine below_set ?_ GE176.out | refine below_set ?_ GE178.out) | exact HB.out)) hb); clear BK176; clear BK178; clear HB; have HO184 := n0_; have BK176 := n1_; have BK178 := n2_; have HB := n3_; clear n0_ n1_ n2_ n3_; clear hb ho22))
        go_ret
        exact ⟨_, by first | rfl | (simp [errW_none, errW_some] <;> rfl) | (simp [*, errW_none, errW_some] <;> rfl), by (with_reducible repeat (first | apply Kd.R_alloc | apply Kd.R_drewN | apply Kd.R_drew)); exact HO184.out, by repeat (first | (with_reducible first | exact HB.out | apply below_alloc | apply pw_below_drewN | apply below_drew1 | refine below_set ?_ GE176.out | refine below_set ?_ GE178.out) | exact HB.out)⟩
       ·rw [if_neg c18] at H
        have c18b0 : (((rd_T44 l0_4 a1).f0) == 19) = false := beq_eq_false_iff_ne.mpr c18
        have c18b1 : (((rd_T44 l0_4 a1).f0) != 19) = true := bne_iff_ne.mpr c18
        obtain ⟨y185, hy185⟩ : ∃ y_ : List Int, y_ = (([wrap64 (a1 + 1)] : List Int)) := ⟨_, rfl⟩
        replace H : (some y185) = some r := by first | (rw [hy185]; with_reducible exact H) | (have H2_ := (Option.bind_some _ _).symm.trans H; rw [hy185]; with_reducible exact H2_) | (have H2_ := (Option.bind_some _ _).symm.trans H; with_reducible exact H2_) | with_reducible exact H | (rw [hy185]; exact H) | exact H
        have Ny185 := Aside0.mk hy185
        clear hy185
        obtain rfl := Option.some.inj H
        go_wp2_with (first | ((with_reducible refine gate_dst (N := 30) rfl ?_); refine Kd.R_lit (Kd.int .i64) _ 3 ?hg (N := 30) ?hd (xs := ([wrap64 (a1 + 1)] : List Int)) (inner := [.int .i64 (wrap64 (a1 + 1))]) (ok := fun _ => True) (okp := fun _ => True) ?hr ?hp (fun _ hk => hk) trivial (Below.refl _ _) (Nat.le_refl _) (by simp) ?_; (case hd => rfl); (case hg => rfl); (case hr => first | (go_simp; done) | (go_simp; rfl)); (case hp => exact (Reps.one (show Kd.M (Kd.int .i64) _ _ _ (wrap64 (a1 + 1)) [.int .i64 (wrap64 (a1 + 1))] from rfl) (Reps.none _ _))); intro v186 w23 ho24 hb hg_ hnew_; clear hg_ hnew_; (first | rw [<- Ny185.out] at ho24 | (simp only [Int.reduceToNat] at ho24; rw [<- Ny185.out] at ho24)); have n0_ := Aside0.mk (Kd.R_lower ho24 (below_size (by repeat (first | (with_reducible first | exact HB.out | apply below_alloc | apply pw_below_drewN | apply below_drew1 | refine below_set ?_ GE176.out | refine below_set ?_ GE178.out) | exact HB.out)))); have n1_ := Aside0.mk (blk_below (g := gb176) (o := .cells #[.string a0_0, .slice A0_1 l0_1.length c0_1, .slice A0_2 l0_2.length c0_2, .slice A0_3 l0_3.length c0_3, .slice (some ad177) l0_4.length c0_4] 25 (0, 0)) (by (with_reducible repeat (first | refine blk_drewN ?_ _ | refine blk_drew ?_ | refine blk_alloc ?_ _)); exact BK176.out) hb); have n2_ := Aside0.mk (blk_below (g := gb178) (o := .cells #[.int .i64 ((rd_T44 l0_4 a1).f0), .int .i64 ((rd_T44 l0_4 a1).f1), .int .i64 ((rd_T44 l0_4 a1).f2), .int .i64 ((rd_T44 l0_4 a1).f3), .int .u64 ((rd_T44 l0_4 a1).f4), .int .i64 ((rd_T44 l0_4 a1).f5), .string ((rd_T44 l0_4 a1).f6), .slice A177_7 ((rd_T44 l0_4 a1).f7).length c177_7, .slice A177_8 ((rd_T44 l0_4 a1).f8).length c177_8, .int .i64 ((rd_T44 l0_4 a1).f9)] 44 (0, 0)) (by (with_reducible repeat (first | refine blk_drewN ?_ _ | refine blk_drew ?_ | refine blk_alloc ?_ _)); exact BK178.out) hb); have n3_ := Aside0.mk (below_step (by repeat (first | (with_reducible first | exact HB.out | apply below_alloc | apply pw_below_drewN | apply below_drew1 | refine below_set ?_ GE176.out | refine below_set ?_ GE178.out) | exact HB.out)) hb); clear BK176; clear BK178; clear HB; have HO187 := n0_; have BK176 := n1_; have BK178 := n2_; have HB := n3_; clear n0_ n1_ n2_ n3_; clear hb ho24))
        go_ret
        exact ⟨_, by first | rfl | (simp [errW_none, errW_some] <;> rfl) | (simp [*, errW_none, errW_some] <;> rfl), by (with_reducible repeat (first | apply Kd.R_alloc | apply Kd.R_drewN | apply Kd.R_drew)); exact HO187.out, by repeat (first | (with_reducible first | exact HB.out | apply below_alloc | apply pw_below_drewN | apply below_drew1 | refine below_set ?_ GE176.out | refine below_set ?_ GE178.out) | exact HB.out)⟩
  ·rw [if_neg c4] at H
   exact absurd H (by simp)
 ·rw [if_neg c3] at H
  exact absurd H (by simp)
def flow_Set_uint64.l0 : Nat -> List Int -> List Int -> Int -> Int -> Option (Bool)
 | 0, _, _, _, _ => none
 | k + 1, x0, x1, x12, x13 => if x13 < x12 then (if 0 <= x13 then (if x13 < (x0.length : Int) then (if x13 < (x1.length : Int) then (if (rd x0 x13) = (rd x1 x13) then (flow_Set_uint64.l0 k x0 x1 x12 (wrap64 (x13 + 1))) else (some false)) else (none)) else (none)) else (none)) else (some true)
def flow_Set_uint64.f (k : Nat) (l0 : List Int) (l1 : List Int) : Option (Bool) := if (l0.length : Int) = (l1.length : Int) then (flow_Set_uint64.l0 k l0 l1 (l0.length : Int) 0) else (some false)
set_option maxHeartbeats 8000000 in
set_option maxRecDepth 100000 in
theorem flow_Set_uint64.calls (k : Nat) (A0 : Option Addr) (c0 : Nat) (l0 : List Int) (A1 : Option Addr) (c1 : Nat) (l1 : List Int) (r : Bool) (w : World) (hr0 : Kd.C (Kd.int .u64) w A0 l0.length l0) (hc0 : l0.length <= c0) (hr1 : Kd.C (Kd.int .u64) w A1 l1.length l1) (hc1 : l1.length <= c1) (h : flow_Set_uint64.f k l0 l1 = some r) :
  Calls Tryd.prog 44 #[.slice A0 l0.length c0, .slice A1 l1.length c1] w fun e w' => e = .returned (.bool r) /\ Drawn0 w w' := by
 have HR0 := Aside0.mk hr0
 have HC0 := Aside0.mk hc0
 clear hr0 hc0
 have HR1 := Aside0.mk hr1
 have HC1 := Aside0.mk hc1
 clear hr1 hc1
 have H : (if (l0.length : Int) = (l1.length : Int) then (flow_Set_uint64.l0 k l0 l1 (l0.length : Int) 0) else (some false)) = some r := h
 clear h
 by_cases c3 : (l0.length : Int) = (l1.length : Int)
 ·rw [if_pos c3] at H
  have c3b0 : ((l0.length : Int) == (l1.length : Int)) = true := beq_iff_eq.mpr c3
  have c3b1 : ((l0.length : Int) != (l1.length : Int)) = false := bne_eq_false_iff_eq.mpr c3
  have c3b2 : (l0.length == l1.length) = true := by first | simpa using c3 | (simp at c3 ⊢; omega)
  clear c3
  have H' := Aside0.mk H
  clear H
  go_enter Tryd.func44, Tryd.ntmps44
  go_wp2
  repeat (go_quiet (fail); try go_wp2)
  go_loopg [13] k (fun kq v13 w' => ∃ (x13_1 : Int), v13 = .int .i64 x13_1 /\ Aside0 (flow_Set_uint64.l0 kq l0 l1 (l0.length : Int) x13_1 = some r) /\ Aside0 (kq <= k) /\ Drawn0 w w')
  case atStart => exact ⟨(0), (by first | rfl | (simp; done) | (simp [*]; done)), H', ⟨Nat.le_refl _⟩, by repeat (first | exact Drawn0.refl _ | apply Drawn0.step)⟩
  case round =>
   clear H'
   try clear c1
   try clear p2
   try clear c3
   try clear c3b0
   try clear c3b1
   try clear c3b2
   obtain ⟨x13_1, rfl, HA, HK1, ⟨m1, rfl⟩⟩ := hrel
   cases gk with
   | zero => exact absurd HA.out (by simp [flow_Set_uint64.l0])
   | succ k1 =>
    have H := HA.out
    clear HA
    simp only [flow_Set_uint64.l0] at H
    by_cases c4 : x13_1 < (l0.length : Int)
    ·rw [if_pos c4] at H
     have c4b0 : decide (x13_1 < (l0.length : Int)) = true := decide_eq_true c4
     clear c4
     by_cases c5 : 0 <= x13_1
     ·rw [if_pos c5] at H
      have c5b0 : decide (0 <= x13_1) = true := decide_eq_true c5
      clear c5
      by_cases c6 : x13_1 < (l0.length : Int)
      ·rw [if_pos c6] at H
       have c6b0 : decide (x13_1 < (l0.length : Int)) = true := decide_eq_true c6
       clear c6
       by_cases c7 : x13_1 < (l1.length : Int)
       ·rw [if_pos c7] at H
        have c7b0 : decide (x13_1 < (l1.length : Int)) = true := decide_eq_true c7
        clear c7
        by_cases c8 : (rd l0 x13_1) = (rd l1 x13_1)
        ·rw [if_pos c8] at H
         have c8b0 : ((rd l0 x13_1) == (rd l1 x13_1)) = true := beq_iff_eq.mpr c8
         have c8b1 : ((rd l0 x13_1) != (rd l1 x13_1)) = false := bne_eq_false_iff_eq.mpr c8
         clear c8
         have H' := Aside0.mk H
         clear H
         have p192 : 0 <= (x13_1 : Int) := of_decide_eq_true (by first | (with_reducible assumption) | assumption)
         have q192 : x13_1 < (l0.length : Int) := of_decide_eq_true (by first | (with_reducible assumption) | assumption)
         obtain ⟨ad192, e192, hx192_0⟩ := Kd.at_int HR0.out x13_1 p192 q192
         cases e192
         replace p192 := eq_true p192
         replace q192 := eq_true q192
         have p193 : 0 <= (x13_1 : Int) := of_decide_eq_true (by first | (with_reducible assumption) | assumption)
         have q193 : x13_1 < (l1.length : Int) := of_decide_eq_true (by first | (with_reducible assumption) | assumption)
         obtain ⟨ad193, e193, hx193_0⟩ := Kd.at_int HR1.out x13_1 p193 q193
         cases e193
         replace p193 := eq_true p193
         replace q193 := eq_true q193
         go_wp2
         repeat (go_quiet (fail); try go_wp2)
         go_roundg k1
         case measure => have := HK1.out; omega
         case rel => exact ⟨(wrap64 (x13_1 + 1)), (by first | rfl | (simp; done) | (simp [*]; done)), H', ⟨by have := HK1.out; omega⟩, by repeat (first | exact Drawn0.refl _ | apply Drawn0.step)⟩
        ·rw [if_neg c8] at H
         have c8b0 : ((rd l0 x13_1) == (rd l1 x13_1)) = false := beq_eq_false_iff_ne.mpr c8
         have c8b1 : ((rd l0 x13_1) != (rd l1 x13_1)) = true := bne_iff_ne.mpr c8
         obtain rfl := Option.some.inj H
         have p192 : 0 <= (x13_1 : Int) := of_decide_eq_true (by first | (with_reducible assumption) | assumption)
         have q192 : x13_1 < (l0.length : Int) := of_decide_eq_true (by first | (with_reducible assumption) | assumption)
         obtain ⟨ad192, e192, hx192_0⟩ := Kd.at_int HR0.out x13_1 p192 q192
         cases e192
         replace p192 := eq_true p192
         replace q192 := eq_true q192
         have p193 : 0 <= (x13_1 : Int) := of_decide_eq_true (by first | (with_reducible assumption) | assumption)
         have q193 : x13_1 < (l1.length : Int) := of_decide_eq_true (by first | (with_reducible assumption) | assumption)
         obtain ⟨ad193, e193, hx193_0⟩ := Kd.at_int HR1.out x13_1 p193 q193
         cases e193
         replace p193 := eq_true p193
         replace q193 := eq_true q193
         go_wp2
         repeat (go_quiet (fail); try go_wp2)
         go_ret
         exact ⟨by first | rfl | (simp; done) | (simp [*]; done), by repeat (first | exact Drawn0.refl _ | apply Drawn0.step)⟩
       ·rw [if_neg c7] at H
        exact absurd H (by simp)
      ·rw [if_neg c6] at H
       exact absurd H (by simp)
     ·rw [if_neg c5] at H
      exact absurd H (by simp)
    ·rw [if_neg c4] at H
     have c4b0 : decide (x13_1 < (l0.length : Int)) = false := decide_eq_false c4
     clear c4
     obtain rfl := Option.some.inj H
     go_wp2
     repeat (go_quiet (fail); try go_wp2)
     go_ret
     exact ⟨by first | rfl | (simp; done) | (simp [*]; done), by repeat (first | exact Drawn0.refl _ | apply Drawn0.step)⟩
 ·rw [if_neg c3] at H
  have c3b0 : ((l0.length : Int) == (l1.length : Int)) = false := beq_eq_false_iff_ne.mpr c3
  have c3b1 : ((l0.length : Int) != (l1.length : Int)) = true := bne_iff_ne.mpr c3
  have c3b2 : (l0.length == l1.length) = false := by first | simpa using c3 | (simp at c3 ⊢; omega)
  obtain rfl := Option.some.inj H
  go_enter Tryd.func44, Tryd.ntmps44
  go_wp2
  repeat (go_quiet (fail); try go_wp2)
  go_ret
  exact ⟨by first | rfl | (simp; done) | (simp [*]; done), by repeat (first | exact Drawn0.refl _ | apply Drawn0.step)⟩
end Go.Proofs.YtjfleaekljapeaaDoor.K
