/- What Go functions of this seat answer: each has a Lean function ('.f') and a contract ('.calls'). Conditions: those of each theorem. Written by a program over the kit's printer; what is marked 'typed by hand' is this session's. -/
import Derived.Test.YtkacoffiinggiaaK0
import Derived.Test.YtkacoffiinggiaaK8
import Derived.Test.YtkacoffiinggiaaK9
import Derived.Test.YtkacoffiinggiaaK10
namespace Go.Proofs.Ytkacoffiinggiaa.K
open Go.RowKit Go.Proofs.YtkacoffiinggiaaW.PrintWords Go.Proofs.YtkacoffiinggiaaW.PrintLast Go.Proofs.YtkacoffiinggiaaW.PrintMore
attribute [local go_sem] max2_int min2_int max_two min_two max_three min_three max_four min_four   -- for this text's walks alone
set_option linter.unusedVariables false
set_option linter.unusedSimpArgs false

/-! ### hauberkref02_Encode: function 10 -/
mutual
def hauberkref02_Encode.j0 : Nat → Bool → Bool → Bool → Int → Int → Int → Int → Int → Int → Int → Int → Int → Option (Int × Int)
 | 0, _, _, _, _, _, _, _, _, _, _, _, _ => none
 | k + 1, x5, x6, x7, x106000, x106001, x106002, x106003, x106004, x111000, x111001, x111002, x111003 => (hauberkref02_Room.f k x111000).bind fun bt111 => (if x111000 = 0 then (some (0, 2)) else (if x111000 = 78 then (hauberkref02_Encode.j1 k false false x7 bt111.1 bt111.2 x106000 x106001 x106002 x106003 x106004 x111000 x111001 x111002 x111003) else (hauberkref02_Encode.j1 k x5 x6 x7 bt111.1 bt111.2 x106000 x106001 x106002 x106003 x106004 x111000 x111001 x111002 x111003)))
def hauberkref02_Encode.j1 : Nat → Bool → Bool → Bool → Int → Int → Int → Int → Int → Int → Int → Int → Int → Int → Int → Option (Int × Int)
 | 0, _, _, _, _, _, _, _, _, _, _, _, _, _, _ => none
 | k + 1, x5, x6, x7, x8, x9, x106000, x106001, x106002, x106003, x106004, x111000, x111001, x111002, x111003 => if x5 = true then (if x6 = true then (if x7 = true then (if x8 > x9 then (hauberkref02_Encode.j2 k x8 x9 (x106004 != 0) x106000 x106001 x106002 x106003 x106004 x111000 x111001 x111002 x111003) else (hauberkref02_Encode.j2 k x8 x9 false x106000 x106001 x106002 x106003 x106004 x111000 x111001 x111002 x111003)) else (if x106003 = 0 then (if x8 > x9 then (hauberkref02_Encode.j2 k x8 x9 (x106004 != 0) x106000 x106001 x106002 x106003 x106004 x111000 x111001 x111002 x111003) else (hauberkref02_Encode.j2 k x8 x9 false x106000 x106001 x106002 x106003 x106004 x111000 x111001 x111002 x111003)) else (hauberkref02_Encode.j2 k x8 x9 true x106000 x106001 x106002 x106003 x106004 x111000 x111001 x111002 x111003))) else (if x106002 = 0 then (if x7 = true then (if x8 > x9 then (hauberkref02_Encode.j2 k x8 x9 (x106004 != 0) x106000 x106001 x106002 x106003 x106004 x111000 x111001 x111002 x111003) else (hauberkref02_Encode.j2 k x8 x9 false x106000 x106001 x106002 x106003 x106004 x111000 x111001 x111002 x111003)) else (if x106003 = 0 then (if x8 > x9 then (hauberkref02_Encode.j2 k x8 x9 (x106004 != 0) x106000 x106001 x106002 x106003 x106004 x111000 x111001 x111002 x111003) else (hauberkref02_Encode.j2 k x8 x9 false x106000 x106001 x106002 x106003 x106004 x111000 x111001 x111002 x111003)) else (hauberkref02_Encode.j2 k x8 x9 true x106000 x106001 x106002 x106003 x106004 x111000 x111001 x111002 x111003))) else (hauberkref02_Encode.j2 k x8 x9 true x106000 x106001 x106002 x106003 x106004 x111000 x111001 x111002 x111003))) else (if x106001 = 0 then (if x6 = true then (if x7 = true then (if x8 > x9 then (hauberkref02_Encode.j2 k x8 x9 (x106004 != 0) x106000 x106001 x106002 x106003 x106004 x111000 x111001 x111002 x111003) else (hauberkref02_Encode.j2 k x8 x9 false x106000 x106001 x106002 x106003 x106004 x111000 x111001 x111002 x111003)) else (if x106003 = 0 then (if x8 > x9 then (hauberkref02_Encode.j2 k x8 x9 (x106004 != 0) x106000 x106001 x106002 x106003 x106004 x111000 x111001 x111002 x111003) else (hauberkref02_Encode.j2 k x8 x9 false x106000 x106001 x106002 x106003 x106004 x111000 x111001 x111002 x111003)) else (hauberkref02_Encode.j2 k x8 x9 true x106000 x106001 x106002 x106003 x106004 x111000 x111001 x111002 x111003))) else (if x106002 = 0 then (if x7 = true then (if x8 > x9 then (hauberkref02_Encode.j2 k x8 x9 (x106004 != 0) x106000 x106001 x106002 x106003 x106004 x111000 x111001 x111002 x111003) else (hauberkref02_Encode.j2 k x8 x9 false x106000 x106001 x106002 x106003 x106004 x111000 x111001 x111002 x111003)) else (if x106003 = 0 then (if x8 > x9 then (hauberkref02_Encode.j2 k x8 x9 (x106004 != 0) x106000 x106001 x106002 x106003 x106004 x111000 x111001 x111002 x111003) else (hauberkref02_Encode.j2 k x8 x9 false x106000 x106001 x106002 x106003 x106004 x111000 x111001 x111002 x111003)) else (hauberkref02_Encode.j2 k x8 x9 true x106000 x106001 x106002 x106003 x106004 x111000 x111001 x111002 x111003))) else (hauberkref02_Encode.j2 k x8 x9 true x106000 x106001 x106002 x106003 x106004 x111000 x111001 x111002 x111003))) else (hauberkref02_Encode.j2 k x8 x9 true x106000 x106001 x106002 x106003 x106004 x111000 x111001 x111002 x111003))
def hauberkref02_Encode.j2 : Nat → Int → Int → Bool → Int → Int → Int → Int → Int → Int → Int → Int → Int → Option (Int × Int)
 | 0, _, _, _, _, _, _, _, _, _, _, _, _ => none
 | k + 1, x8, x9, x92, x106000, x106001, x106002, x106003, x106004, x111000, x111001, x111002, x111003 => if x92 = true then (some (0, 2)) else (if x106001 < 0 then (hauberkref02_Encode.j3 k x8 x9 true x106000 x106001 x106002 x106003 x106004 x111000 x111001 x111002 x111003) else (if x106001 > 31 then (hauberkref02_Encode.j3 k x8 x9 true x106000 x106001 x106002 x106003 x106004 x111000 x111001 x111002 x111003) else (if x106002 < 0 then (hauberkref02_Encode.j3 k x8 x9 true x106000 x106001 x106002 x106003 x106004 x111000 x111001 x111002 x111003) else (if x106002 > 31 then (hauberkref02_Encode.j3 k x8 x9 true x106000 x106001 x106002 x106003 x106004 x111000 x111001 x111002 x111003) else (if x106003 < 0 then (hauberkref02_Encode.j3 k x8 x9 true x106000 x106001 x106002 x106003 x106004 x111000 x111001 x111002 x111003) else (hauberkref02_Encode.j3 k x8 x9 (decide (x106003 > 31)) x106000 x106001 x106002 x106003 x106004 x111000 x111001 x111002 x111003))))))
def hauberkref02_Encode.j3 : Nat → Int → Int → Bool → Int → Int → Int → Int → Int → Int → Int → Int → Int → Option (Int × Int)
 | 0, _, _, _, _, _, _, _, _, _, _, _, _ => none
 | k + 1, x8, x9, x120, x106000, x106001, x106002, x106003, x106004, x111000, x111001, x111002, x111003 => if x120 = true then (some (0, 1)) else (if x8 ≤ x9 then (if x106004 < x8 then (hauberkref02_Encode.j4 k true x106000 x106001 x106002 x106003 x106004 x111000 x111001 x111002 x111003) else (if x106004 > x9 then (hauberkref02_Encode.j4 k true x106000 x106001 x106002 x106003 x106004 x111000 x111001 x111002 x111003) else (if x111000 = 66 then (hauberkref02_Encode.j4 k ((Int.tmod x106004 2) != 0) x106000 x106001 x106002 x106003 x106004 x111000 x111001 x111002 x111003) else (if x111000 = 74 then (hauberkref02_Encode.j4 k ((Int.tmod x106004 2) != 0) x106000 x106001 x106002 x106003 x106004 x111000 x111001 x111002 x111003) else (hauberkref02_Encode.j4 k false x106000 x106001 x106002 x106003 x106004 x111000 x111001 x111002 x111003))))) else (hauberkref02_Encode.j4 k false x106000 x106001 x106002 x106003 x106004 x111000 x111001 x111002 x111003))
def hauberkref02_Encode.j4 : Nat → Bool → Int → Int → Int → Int → Int → Int → Int → Int → Int → Option (Int × Int)
 | 0, _, _, _, _, _, _, _, _, _, _ => none
 | k + 1, x151, x106000, x106001, x106002, x106003, x106004, x111000, x111001, x111002, x111003 => if x151 = true then (some (0, 1)) else (if x111000 = 73 then ((hauberkref02_bits.f k x106004 0 5).bind fun t113 => ((hauberkref02_bits.f k x106004 5 7).bind fun t114 => (some ((wrap64 ((wrap64 ((wrap64 ((wrap64 ((wrap64 (x111001 + (wrap64 (128 * x106001)))) + (wrap64 (4096 * x111002)))) + (wrap64 (32768 * x106002)))) + (wrap64 (1048576 * t113)))) + (wrap64 (33554432 * t114)))) % 4294967296, 0)))) else (if x111000 = 84 then (some ((wrap64 ((wrap64 ((wrap64 ((wrap64 ((wrap64 (x111001 + (wrap64 (128 * x106001)))) + (wrap64 (4096 * x111002)))) + (wrap64 (32768 * x106002)))) + (wrap64 (1048576 * (Int.tmod x106004 32))))) + (wrap64 (33554432 * (wrap64 (x111003 + (wrap64 (Int.tdiv x106004 32)))))))) % 4294967296, 0)) else (if x111000 = 83 then ((hauberkref02_bits.f k x106004 0 5).bind fun t115 => ((hauberkref02_bits.f k x106004 5 7).bind fun t116 => (some ((wrap64 ((wrap64 ((wrap64 ((wrap64 ((wrap64 (x111001 + (wrap64 (128 * t115)))) + (wrap64 (4096 * x111002)))) + (wrap64 (32768 * x106002)))) + (wrap64 (1048576 * x106003)))) + (wrap64 (33554432 * t116)))) % 4294967296, 0)))) else (if x111000 = 66 then ((hauberkref02_bits.f k x106004 11 1).bind fun t117 => ((hauberkref02_bits.f k x106004 1 4).bind fun t118 => ((hauberkref02_bits.f k x106004 5 6).bind fun t119 => ((hauberkref02_bits.f k x106004 12 1).bind fun t120 => (some ((wrap64 ((wrap64 ((wrap64 ((wrap64 ((wrap64 (x111001 + (wrap64 (128 * (wrap64 (t117 + (wrap64 (2 * t118)))))))) + (wrap64 (4096 * x111002)))) + (wrap64 (32768 * x106002)))) + (wrap64 (1048576 * x106003)))) + (wrap64 (33554432 * (wrap64 (t119 + (wrap64 (64 * t120)))))))) % 4294967296, 0)))))) else (if x111000 = 85 then ((hauberkref02_bits.f k x106004 0 20).bind fun t121 => (some ((wrap64 ((wrap64 (x111001 + (wrap64 (128 * x106001)))) + (wrap64 (4096 * t121)))) % 4294967296, 0))) else (if x111000 = 74 then ((hauberkref02_bits.f k x106004 12 8).bind fun t122 => ((hauberkref02_bits.f k x106004 11 1).bind fun t123 => ((hauberkref02_bits.f k x106004 1 10).bind fun t124 => ((hauberkref02_bits.f k x106004 20 1).bind fun t125 => (some ((wrap64 ((wrap64 ((wrap64 ((wrap64 ((wrap64 (x111001 + (wrap64 (128 * x106001)))) + (wrap64 (4096 * t122)))) + (wrap64 (1048576 * t123)))) + (wrap64 (2097152 * t124)))) + (wrap64 (2147483648 * t125)))) % 4294967296, 0)))))) else (some ((wrap64 ((wrap64 ((wrap64 ((wrap64 ((wrap64 (x111001 + (wrap64 (128 * x106001)))) + (wrap64 (4096 * x111002)))) + (wrap64 (32768 * x106002)))) + (wrap64 (1048576 * x106003)))) + (wrap64 (33554432 * x111003)))) % 4294967296, 0))))))))
end
def hauberkref02_Encode.f (k : Nat) (a0_0 : Int) (a0_1 : Int) (a0_2 : Int) (a0_3 : Int) (a0_4 : Int) : Option (Int × Int) := (hauberkref02_Of.f a0_0).bind fun bt106 => (if bt106.1 = 83 then (if bt106.1 = 85 then (if bt106.1 = 82 then (hauberkref02_Encode.j0 k false false true a0_0 a0_1 a0_2 a0_3 a0_4 bt106.1 bt106.2.1 bt106.2.2.1 bt106.2.2.2) else (hauberkref02_Encode.j0 k false false true a0_0 a0_1 a0_2 a0_3 a0_4 bt106.1 bt106.2.1 bt106.2.2.1 bt106.2.2.2)) else (if bt106.1 = 82 then (hauberkref02_Encode.j0 k false (bt106.1 != 74) true a0_0 a0_1 a0_2 a0_3 a0_4 bt106.1 bt106.2.1 bt106.2.2.1 bt106.2.2.2) else (hauberkref02_Encode.j0 k false (bt106.1 != 74) true a0_0 a0_1 a0_2 a0_3 a0_4 bt106.1 bt106.2.1 bt106.2.2.1 bt106.2.2.2))) else (if bt106.1 = 85 then (if bt106.1 = 82 then (hauberkref02_Encode.j0 k (bt106.1 != 66) false true a0_0 a0_1 a0_2 a0_3 a0_4 bt106.1 bt106.2.1 bt106.2.2.1 bt106.2.2.2) else (hauberkref02_Encode.j0 k (bt106.1 != 66) false (bt106.1 == 66) a0_0 a0_1 a0_2 a0_3 a0_4 bt106.1 bt106.2.1 bt106.2.2.1 bt106.2.2.2)) else (if bt106.1 = 82 then (hauberkref02_Encode.j0 k (bt106.1 != 66) (bt106.1 != 74) true a0_0 a0_1 a0_2 a0_3 a0_4 bt106.1 bt106.2.1 bt106.2.2.1 bt106.2.2.2) else (hauberkref02_Encode.j0 k (bt106.1 != 66) (bt106.1 != 74) (bt106.1 == 66) a0_0 a0_1 a0_2 a0_3 a0_4 bt106.1 bt106.2.1 bt106.2.2.1 bt106.2.2.2))))
theorem hauberkref02_Encode.mono_l : ∀ k, (∀ y0 y1 y2 y3 y4 y5 y6 y7 y8 y9 y10 y11, LeO (hauberkref02_Encode.j0 k y0 y1 y2 y3 y4 y5 y6 y7 y8 y9 y10 y11) (hauberkref02_Encode.j0 (k + 1) y0 y1 y2 y3 y4 y5 y6 y7 y8 y9 y10 y11)) ∧ (∀ y0 y1 y2 y3 y4 y5 y6 y7 y8 y9 y10 y11 y12 y13, LeO (hauberkref02_Encode.j1 k y0 y1 y2 y3 y4 y5 y6 y7 y8 y9 y10 y11 y12 y13) (hauberkref02_Encode.j1 (k + 1) y0 y1 y2 y3 y4 y5 y6 y7 y8 y9 y10 y11 y12 y13)) ∧ (∀ y0 y1 y2 y3 y4 y5 y6 y7 y8 y9 y10 y11, LeO (hauberkref02_Encode.j2 k y0 y1 y2 y3 y4 y5 y6 y7 y8 y9 y10 y11) (hauberkref02_Encode.j2 (k + 1) y0 y1 y2 y3 y4 y5 y6 y7 y8 y9 y10 y11)) ∧ (∀ y0 y1 y2 y3 y4 y5 y6 y7 y8 y9 y10 y11, LeO (hauberkref02_Encode.j3 k y0 y1 y2 y3 y4 y5 y6 y7 y8 y9 y10 y11) (hauberkref02_Encode.j3 (k + 1) y0 y1 y2 y3 y4 y5 y6 y7 y8 y9 y10 y11)) ∧ (∀ y0 y1 y2 y3 y4 y5 y6 y7 y8 y9, LeO (hauberkref02_Encode.j4 k y0 y1 y2 y3 y4 y5 y6 y7 y8 y9) (hauberkref02_Encode.j4 (k + 1) y0 y1 y2 y3 y4 y5 y6 y7 y8 y9))
 | 0 => ⟨fun _ _ _ _ _ _ _ _ _ _ _ _ r h => by simp [hauberkref02_Encode.j0] at h, fun _ _ _ _ _ _ _ _ _ _ _ _ _ _ r h => by simp [hauberkref02_Encode.j1] at h, fun _ _ _ _ _ _ _ _ _ _ _ _ r h => by simp [hauberkref02_Encode.j2] at h, fun _ _ _ _ _ _ _ _ _ _ _ _ r h => by simp [hauberkref02_Encode.j3] at h, fun _ _ _ _ _ _ _ _ _ _ r h => by simp [hauberkref02_Encode.j4] at h⟩
 | k + 1 => by
  obtain ⟨ih0, ih1, ih2, ih3, ih4⟩ := hauberkref02_Encode.mono_l k
  refine ⟨?_, ?_, ?_, ?_, ?_⟩
  ·as_aux_lemma =>
    intro y0 y1 y2 y3 y4 y5 y6 y7 y8 y9 y10 y11
    unfold hauberkref02_Encode.j0
    repeat' first
    | (with_reducible exact ih0 _ _ _ _ _ _ _ _ _ _ _ _)
    | (with_reducible exact ih1 _ _ _ _ _ _ _ _ _ _ _ _ _ _)
    | (with_reducible exact ih2 _ _ _ _ _ _ _ _ _ _ _ _)
    | (with_reducible exact ih3 _ _ _ _ _ _ _ _ _ _ _ _)
    | (with_reducible exact ih4 _ _ _ _ _ _ _ _ _ _)
    | (with_reducible exact hauberkref02_Room.mono _ _)
    | (with_reducible exact hauberkref02_bits.mono _ _ _ _)
    | (with_reducible exact LeO.refl _)
    | (with_reducible exact LeO.none _)
    | (with_reducible refine LeO.ite ?_ ?_)
    | (with_reducible refine LeO.bind ?_ (fun _ => ?_))
    | exact ih0 _ _ _ _ _ _ _ _ _ _ _ _
    | exact ih1 _ _ _ _ _ _ _ _ _ _ _ _ _ _
    | exact ih2 _ _ _ _ _ _ _ _ _ _ _ _
    | exact ih3 _ _ _ _ _ _ _ _ _ _ _ _
    | exact ih4 _ _ _ _ _ _ _ _ _ _
    | exact hauberkref02_Room.mono _ _
    | exact hauberkref02_bits.mono _ _ _ _
    | exact LeO.none _
    | refine LeO.ite ?_ ?_
    | refine LeO.bind ?_ (fun _ => ?_)
  ·as_aux_lemma =>
    intro y0 y1 y2 y3 y4 y5 y6 y7 y8 y9 y10 y11 y12 y13
    unfold hauberkref02_Encode.j1
    repeat' first
    | (with_reducible exact ih0 _ _ _ _ _ _ _ _ _ _ _ _)
    | (with_reducible exact ih1 _ _ _ _ _ _ _ _ _ _ _ _ _ _)
    | (with_reducible exact ih2 _ _ _ _ _ _ _ _ _ _ _ _)
    | (with_reducible exact ih3 _ _ _ _ _ _ _ _ _ _ _ _)
    | (with_reducible exact ih4 _ _ _ _ _ _ _ _ _ _)
    | (with_reducible exact hauberkref02_Room.mono _ _)
    | (with_reducible exact hauberkref02_bits.mono _ _ _ _)
    | (with_reducible exact LeO.refl _)
    | (with_reducible exact LeO.none _)
    | (with_reducible refine LeO.ite ?_ ?_)
    | (with_reducible refine LeO.bind ?_ (fun _ => ?_))
    | exact ih0 _ _ _ _ _ _ _ _ _ _ _ _
    | exact ih1 _ _ _ _ _ _ _ _ _ _ _ _ _ _
    | exact ih2 _ _ _ _ _ _ _ _ _ _ _ _
    | exact ih3 _ _ _ _ _ _ _ _ _ _ _ _
    | exact ih4 _ _ _ _ _ _ _ _ _ _
    | exact hauberkref02_Room.mono _ _
    | exact hauberkref02_bits.mono _ _ _ _
    | exact LeO.none _
    | refine LeO.ite ?_ ?_
    | refine LeO.bind ?_ (fun _ => ?_)
  ·as_aux_lemma =>
    intro y0 y1 y2 y3 y4 y5 y6 y7 y8 y9 y10 y11
    unfold hauberkref02_Encode.j2
    repeat' first
    | (with_reducible exact ih0 _ _ _ _ _ _ _ _ _ _ _ _)
    | (with_reducible exact ih1 _ _ _ _ _ _ _ _ _ _ _ _ _ _)
    | (with_reducible exact ih2 _ _ _ _ _ _ _ _ _ _ _ _)
    | (with_reducible exact ih3 _ _ _ _ _ _ _ _ _ _ _ _)
    | (with_reducible exact ih4 _ _ _ _ _ _ _ _ _ _)
    | (with_reducible exact hauberkref02_Room.mono _ _)
    | (with_reducible exact hauberkref02_bits.mono _ _ _ _)
    | (with_reducible exact LeO.refl _)
    | (with_reducible exact LeO.none _)
    | (with_reducible refine LeO.ite ?_ ?_)
    | (with_reducible refine LeO.bind ?_ (fun _ => ?_))
    | exact ih0 _ _ _ _ _ _ _ _ _ _ _ _
    | exact ih1 _ _ _ _ _ _ _ _ _ _ _ _ _ _
    | exact ih2 _ _ _ _ _ _ _ _ _ _ _ _
    | exact ih3 _ _ _ _ _ _ _ _ _ _ _ _
    | exact ih4 _ _ _ _ _ _ _ _ _ _
    | exact hauberkref02_Room.mono _ _
    | exact hauberkref02_bits.mono _ _ _ _
    | exact LeO.none _
    | refine LeO.ite ?_ ?_
    | refine LeO.bind ?_ (fun _ => ?_)
  ·as_aux_lemma =>
    intro y0 y1 y2 y3 y4 y5 y6 y7 y8 y9 y10 y11
    unfold hauberkref02_Encode.j3
    repeat' first
    | (with_reducible exact ih0 _ _ _ _ _ _ _ _ _ _ _ _)
    | (with_reducible exact ih1 _ _ _ _ _ _ _ _ _ _ _ _ _ _)
    | (with_reducible exact ih2 _ _ _ _ _ _ _ _ _ _ _ _)
    | (with_reducible exact ih3 _ _ _ _ _ _ _ _ _ _ _ _)
    | (with_reducible exact ih4 _ _ _ _ _ _ _ _ _ _)
    | (with_reducible exact hauberkref02_Room.mono _ _)
    | (with_reducible exact hauberkref02_bits.mono _ _ _ _)
    | (with_reducible exact LeO.refl _)
    | (with_reducible exact LeO.none _)
    | (with_reducible refine LeO.ite ?_ ?_)
    | (with_reducible refine LeO.bind ?_ (fun _ => ?_))
    | exact ih0 _ _ _ _ _ _ _ _ _ _ _ _
    | exact ih1 _ _ _ _ _ _ _ _ _ _ _ _ _ _
    | exact ih2 _ _ _ _ _ _ _ _ _ _ _ _
    | exact ih3 _ _ _ _ _ _ _ _ _ _ _ _
    | exact ih4 _ _ _ _ _ _ _ _ _ _
    | exact hauberkref02_Room.mono _ _
    | exact hauberkref02_bits.mono _ _ _ _
    | exact LeO.none _
    | refine LeO.ite ?_ ?_
    | refine LeO.bind ?_ (fun _ => ?_)
  ·as_aux_lemma =>
    intro y0 y1 y2 y3 y4 y5 y6 y7 y8 y9
    unfold hauberkref02_Encode.j4
    repeat' first
    | (with_reducible exact ih0 _ _ _ _ _ _ _ _ _ _ _ _)
    | (with_reducible exact ih1 _ _ _ _ _ _ _ _ _ _ _ _ _ _)
    | (with_reducible exact ih2 _ _ _ _ _ _ _ _ _ _ _ _)
    | (with_reducible exact ih3 _ _ _ _ _ _ _ _ _ _ _ _)
    | (with_reducible exact ih4 _ _ _ _ _ _ _ _ _ _)
    | (with_reducible exact hauberkref02_Room.mono _ _)
    | (with_reducible exact hauberkref02_bits.mono _ _ _ _)
    | (with_reducible exact LeO.refl _)
    | (with_reducible exact LeO.none _)
    | (with_reducible refine LeO.ite ?_ ?_)
    | (with_reducible refine LeO.bind ?_ (fun _ => ?_))
    | exact ih0 _ _ _ _ _ _ _ _ _ _ _ _
    | exact ih1 _ _ _ _ _ _ _ _ _ _ _ _ _ _
    | exact ih2 _ _ _ _ _ _ _ _ _ _ _ _
    | exact ih3 _ _ _ _ _ _ _ _ _ _ _ _
    | exact ih4 _ _ _ _ _ _ _ _ _ _
    | exact hauberkref02_Room.mono _ _
    | exact hauberkref02_bits.mono _ _ _ _
    | exact LeO.none _
    | refine LeO.ite ?_ ?_
    | refine LeO.bind ?_ (fun _ => ?_)
theorem hauberkref02_Encode.mono : ∀ a0 a1 a2 a3 a4 k, LeO (hauberkref02_Encode.f k a0 a1 a2 a3 a4) (hauberkref02_Encode.f (k + 1) a0 a1 a2 a3 a4) := by
 intro a0 a1 a2 a3 a4 k
 obtain ⟨ih0, ih1, ih2, ih3, ih4⟩ := hauberkref02_Encode.mono_l k
 unfold hauberkref02_Encode.f
 repeat' first
   | (with_reducible exact ih0 _ _ _ _ _ _ _ _ _ _ _ _)
   | (with_reducible exact ih1 _ _ _ _ _ _ _ _ _ _ _ _ _ _)
   | (with_reducible exact ih2 _ _ _ _ _ _ _ _ _ _ _ _)
   | (with_reducible exact ih3 _ _ _ _ _ _ _ _ _ _ _ _)
   | (with_reducible exact ih4 _ _ _ _ _ _ _ _ _ _)
   | (with_reducible exact hauberkref02_Room.mono _ _)
   | (with_reducible exact hauberkref02_bits.mono _ _ _ _)
   | (with_reducible exact LeO.refl _)
   | (with_reducible exact LeO.none _)
   | (with_reducible refine LeO.ite ?_ ?_)
   | (with_reducible refine LeO.bind ?_ (fun _ => ?_))
   | exact ih0 _ _ _ _ _ _ _ _ _ _ _ _
   | exact ih1 _ _ _ _ _ _ _ _ _ _ _ _ _ _
   | exact ih2 _ _ _ _ _ _ _ _ _ _ _ _
   | exact ih3 _ _ _ _ _ _ _ _ _ _ _ _
   | exact ih4 _ _ _ _ _ _ _ _ _ _
   | exact hauberkref02_Room.mono _ _
   | exact hauberkref02_bits.mono _ _ _ _
   | exact LeO.none _
   | refine LeO.ite ?_ ?_
   | refine LeO.bind ?_ (fun _ => ?_)
set_option maxHeartbeats 60000000 in
set_option maxRecDepth 100000 in
theorem hauberkref02_Encode.calls (k : Nat) (a0_0 : Int) (a0_1 : Int) (a0_2 : Int) (a0_3 : Int) (a0_4 : Int) (r1 : Int) (r2 : Int) (w : World) (h : hauberkref02_Encode.f k a0_0 a0_1 a0_2 a0_3 a0_4 = some (r1, r2)) :
  Calls Try.prog 10 #[.agg #[.int .i64 a0_0, .int .i64 a0_1, .int .i64 a0_2, .int .i64 a0_3, .int .i64 a0_4]] w fun e w' => e = .returned (.tuple #[.int .u32 r1, .int .i64 r2]) ∧ Below w.heap.size w w' := by
 have hu29 := Try.underlying29
 have hu62 := Try.underlying62
 have HB := Aside0.mk (Below.refl w.heap.size w)
 have H : ((hauberkref02_Of.f a0_0).bind fun bt106 => (if bt106.1 = 83 then (if bt106.1 = 85 then (if bt106.1 = 82 then (hauberkref02_Encode.j0 k false false true a0_0 a0_1 a0_2 a0_3 a0_4 bt106.1 bt106.2.1 bt106.2.2.1 bt106.2.2.2) else (hauberkref02_Encode.j0 k false false true a0_0 a0_1 a0_2 a0_3 a0_4 bt106.1 bt106.2.1 bt106.2.2.1 bt106.2.2.2)) else (if bt106.1 = 82 then (hauberkref02_Encode.j0 k false (bt106.1 != 74) true a0_0 a0_1 a0_2 a0_3 a0_4 bt106.1 bt106.2.1 bt106.2.2.1 bt106.2.2.2) else (hauberkref02_Encode.j0 k false (bt106.1 != 74) true a0_0 a0_1 a0_2 a0_3 a0_4 bt106.1 bt106.2.1 bt106.2.2.1 bt106.2.2.2))) else (if bt106.1 = 85 then (if bt106.1 = 82 then (hauberkref02_Encode.j0 k (bt106.1 != 66) false true a0_0 a0_1 a0_2 a0_3 a0_4 bt106.1 bt106.2.1 bt106.2.2.1 bt106.2.2.2) else (hauberkref02_Encode.j0 k (bt106.1 != 66) false (bt106.1 == 66) a0_0 a0_1 a0_2 a0_3 a0_4 bt106.1 bt106.2.1 bt106.2.2.1 bt106.2.2.2)) else (if bt106.1 = 82 then (hauberkref02_Encode.j0 k (bt106.1 != 66) (bt106.1 != 74) true a0_0 a0_1 a0_2 a0_3 a0_4 bt106.1 bt106.2.1 bt106.2.2.1 bt106.2.2.2) else (hauberkref02_Encode.j0 k (bt106.1 != 66) (bt106.1 != 74) (bt106.1 == 66) a0_0 a0_1 a0_2 a0_3 a0_4 bt106.1 bt106.2.1 bt106.2.2.1 bt106.2.2.2))))) = some (r1, r2) := h
 clear h
 replace H := Option.bind_eq_some_iff.mp H
 obtain ⟨⟨t106, t107, t108, t109⟩, A20, H⟩ := H
 replace H : (if t106 = 83 then (if t106 = 85 then (if t106 = 82 then (hauberkref02_Encode.j0 k false false true a0_0 a0_1 a0_2 a0_3 a0_4 t106 t107 t108 t109) else (hauberkref02_Encode.j0 k false false true a0_0 a0_1 a0_2 a0_3 a0_4 t106 t107 t108 t109)) else (if t106 = 82 then (hauberkref02_Encode.j0 k false (t106 != 74) true a0_0 a0_1 a0_2 a0_3 a0_4 t106 t107 t108 t109) else (hauberkref02_Encode.j0 k false (t106 != 74) true a0_0 a0_1 a0_2 a0_3 a0_4 t106 t107 t108 t109))) else (if t106 = 85 then (if t106 = 82 then (hauberkref02_Encode.j0 k (t106 != 66) false true a0_0 a0_1 a0_2 a0_3 a0_4 t106 t107 t108 t109) else (hauberkref02_Encode.j0 k (t106 != 66) false (t106 == 66) a0_0 a0_1 a0_2 a0_3 a0_4 t106 t107 t108 t109)) else (if t106 = 82 then (hauberkref02_Encode.j0 k (t106 != 66) (t106 != 74) true a0_0 a0_1 a0_2 a0_3 a0_4 t106 t107 t108 t109) else (hauberkref02_Encode.j0 k (t106 != 66) (t106 != 74) (t106 == 66) a0_0 a0_1 a0_2 a0_3 a0_4 t106 t107 t108 t109)))) = some (r1, r2) := H
 have A2 := Aside0.mk A20
 clear A20
 have HC3 := Aside0.mk H
 clear H
 go_enter Try.func10, Try.ntmps10
 go_upto_region 2 with (first | ((with_reducible refine gate_dst (N := 1) rfl ?_); refine box_event ?hg (N := 1) ?hd (cs := #[.int .i64 a0_0, .int .i64 a0_1, .int .i64 a0_2, .int .i64 a0_3, .int .i64 a0_4]) (t := 29) ?hr ?_; (case hd => rfl); (case hg => rfl); (case hr => first | (go_simp; done) | (go_simp; rfl)); intro gb105 hg w4 hbox hb; have n0_ := Aside0.mk (below_step (by repeat (first | (with_reducible first | exact HB.out | apply below_alloc | apply pw_below_drewN | apply below_drew1) | exact HB.out)) hb); have n1_ := Aside0.mk (hbox); have n2_ := Aside0.mk ((by rw [hg]; exact (below_size (by repeat (first | (with_reducible first | exact HB.out | apply below_alloc | apply pw_below_drewN | apply below_drew1) | exact HB.out))) : w.heap.size ≤ gb105)); have n3_ := Aside0.mk ((by rw [hg]; exact (below_size (by repeat (first | (with_reducible first | exact HB.out | apply below_alloc | apply pw_below_drewN | apply below_drew1) | exact HB.out))) : w.heap.size ≤ gb105)); clear HB; have HB := n0_; have BK105 := n1_; have GW105 := n2_; have GE105 := n3_; clear n0_ n1_ n2_ n3_; clear hb hbox hg; have hcz5_0 : w4.cell? ⟨gb105, 0, none⟩ = some (.int .i64 a0_0) := (blk_cell BK105.out 0).trans rfl; have hcz5_1 : w4.cell? ⟨gb105, 1, none⟩ = some (.int .i64 a0_1) := (blk_cell BK105.out 1).trans rfl; have hcz5_2 : w4.cell? ⟨gb105, 2, none⟩ = some (.int .i64 a0_2) := (blk_cell BK105.out 2).trans rfl; have hcz5_3 : w4.cell? ⟨gb105, 3, none⟩ = some (.int .i64 a0_3) := (blk_cell BK105.out 3).trans rfl; have hcz5_4 : w4.cell? ⟨gb105, 4, none⟩ = some (.int .i64 a0_4) := (blk_cell BK105.out 4).trans rfl; have hfz5_0 := blk_frozen BK105.out 0; have hfz5_1 := blk_frozen BK105.out 1; have hfz5_2 := blk_frozen BK105.out 2; have hfz5_3 := blk_frozen BK105.out 3; have hfz5_4 := blk_frozen BK105.out 4) | (go_at_call 18; (with_reducible refine (hauberkref02_Of.calls a0_0 t106 t107 t108 t109 _ A2.out).mono ?_); rintro e w6 ⟨rfl, hb⟩; have n0_ := Aside0.mk (blk_below (g := gb105) (o := .cells #[.int .i64 a0_0, .int .i64 a0_1, .int .i64 a0_2, .int .i64 a0_3, .int .i64 a0_4] 29 (0, 0)) (by (with_reducible repeat (first | refine blk_drewN ?_ _ | refine blk_drew ?_ | refine blk_alloc ?_ _)); exact BK105.out) hb); have n1_ := Aside0.mk (below_step (by repeat (first | (with_reducible first | exact HB.out | apply below_alloc | apply pw_below_drewN | apply below_drew1 | refine below_set ?_ GE105.out) | exact HB.out)) hb); clear BK105; clear HB; have BK105 := n0_; have HB := n1_; clear n0_ n1_; (try clear hb); (try clear hb2); (try clear hk); (try clear hi)) | ((with_reducible refine gate_dst (N := 4) rfl ?_); refine box_event ?hg (N := 4) ?hd (cs := #[.int .u8 0, .int .i64 0, .int .i64 0, .int .i64 0]) (t := 62) ?hr ?_; (case hd => rfl); (case hg => rfl); (case hr => first | (go_simp; done) | (go_simp; rfl)); intro gb110 hg w7 hbox hb; have n0_ := Aside0.mk (blk_below (g := gb105) (o := .cells #[.int .i64 a0_0, .int .i64 a0_1, .int .i64 a0_2, .int .i64 a0_3, .int .i64 a0_4] 29 (0, 0)) (by (with_reducible repeat (first | refine blk_drewN ?_ _ | refine blk_drew ?_ | refine blk_alloc ?_ _)); exact BK105.out) hb); have n1_ := Aside0.mk (below_step (by repeat (first | (with_reducible first | exact HB.out | apply below_alloc | apply pw_below_drewN | apply below_drew1 | refine below_set ?_ GE105.out) | exact HB.out)) hb); have n2_ := Aside0.mk (hbox); have n3_ := Aside0.mk ((by rw [hg]; exact (below_size (by repeat (first | (with_reducible first | exact HB.out | apply below_alloc | apply pw_below_drewN | apply below_drew1 | refine below_set ?_ GE105.out) | exact HB.out))) : w.heap.size ≤ gb110)); have n4_ := Aside0.mk ((by rw [hg]; exact (below_size (by repeat (first | (with_reducible first | exact HB.out | apply below_alloc | apply pw_below_drewN | apply below_drew1 | refine below_set ?_ GE105.out) | exact HB.out))) : w.heap.size ≤ gb110)); have n5_ := Aside0.mk ((by rw [hg]; exact Nat.ne_of_lt (blk_lt (g := gb105) (o := .cells #[.int .i64 a0_0, .int .i64 a0_1, .int .i64 a0_2, .int .i64 a0_3, .int .i64 a0_4] 29 (0, 0)) (by (with_reducible repeat (first | refine blk_drewN ?_ _ | refine blk_drew ?_ | refine blk_alloc ?_ _)); exact BK105.out)) : gb105 ≠ gb110)); have n6_ := Aside0.mk ((by rw [hg]; exact Nat.ne_of_gt (blk_lt (g := gb105) (o := .cells #[.int .i64 a0_0, .int .i64 a0_1, .int .i64 a0_2, .int .i64 a0_3, .int .i64 a0_4] 29 (0, 0)) (by (with_reducible repeat (first | refine blk_drewN ?_ _ | refine blk_drew ?_ | refine blk_alloc ?_ _)); exact BK105.out)) : gb110 ≠ gb105)); clear BK105; clear HB; have BK105 := n0_; have HB := n1_; have BK110 := n2_; have GW110 := n3_; have GE110 := n4_; have NB105_110 := n5_; have NB110_105 := n6_; clear n0_ n1_ n2_ n3_ n4_ n5_ n6_; clear hb hbox hg; have hnb8 := NB110_105.out; have hnc8 := NB105_110.out; have hcz9_0 : w7.cell? ⟨gb110, 0, none⟩ = some (.int .u8 0) := (blk_cell BK110.out 0).trans rfl; have hcz9_1 : w7.cell? ⟨gb110, 1, none⟩ = some (.int .i64 0) := (blk_cell BK110.out 1).trans rfl; have hcz9_2 : w7.cell? ⟨gb110, 2, none⟩ = some (.int .i64 0) := (blk_cell BK110.out 2).trans rfl; have hcz9_3 : w7.cell? ⟨gb110, 3, none⟩ = some (.int .i64 0) := (blk_cell BK110.out 3).trans rfl; have hfz9_0 := blk_frozen BK110.out 0; have hfz9_1 := blk_frozen BK110.out 1; have hfz9_2 := blk_frozen BK110.out 2; have hfz9_3 := blk_frozen BK110.out 3))
 repeat (go_quiet (first | ((with_reducible refine gate_dst (N := 1) rfl ?_); refine box_event ?hg (N := 1) ?hd (cs := #[.int .i64 a0_0, .int .i64 a0_1, .int .i64 a0_2, .int .i64 a0_3, .int .i64 a0_4]) (t := 29) ?hr ?_; (case hd => rfl); (case hg => rfl); (case hr => first | (go_simp; done) | (go_simp; rfl)); intro gb105 hg w4 hbox hb; have n0_ := Aside0.mk (below_step (by repeat (first | (with_reducible first | exact HB.out | apply below_alloc | apply pw_below_drewN | apply below_drew1) | exact HB.out)) hb); have n1_ := Aside0.mk (hbox); have n2_ := Aside0.mk ((by rw [hg]; exact (below_size (by repeat (first | (with_reducible first | exact HB.out | apply below_alloc | apply pw_below_drewN | apply below_drew1) | exact HB.out))) : w.heap.size ≤ gb105)); have n3_ := Aside0.mk ((by rw [hg]; exact (below_size (by repeat (first | (with_reducible first | exact HB.out | apply below_alloc | apply pw_below_drewN | apply below_drew1) | exact HB.out))) : w.heap.size ≤ gb105)); clear HB; have HB := n0_; have BK105 := n1_; have GW105 := n2_; have GE105 := n3_; clear n0_ n1_ n2_ n3_; clear hb hbox hg; have hcz5_0 : w4.cell? ⟨gb105, 0, none⟩ = some (.int .i64 a0_0) := (blk_cell BK105.out 0).trans rfl; have hcz5_1 : w4.cell? ⟨gb105, 1, none⟩ = some (.int .i64 a0_1) := (blk_cell BK105.out 1).trans rfl; have hcz5_2 : w4.cell? ⟨gb105, 2, none⟩ = some (.int .i64 a0_2) := (blk_cell BK105.out 2).trans rfl; have hcz5_3 : w4.cell? ⟨gb105, 3, none⟩ = some (.int .i64 a0_3) := (blk_cell BK105.out 3).trans rfl; have hcz5_4 : w4.cell? ⟨gb105, 4, none⟩ = some (.int .i64 a0_4) := (blk_cell BK105.out 4).trans rfl; have hfz5_0 := blk_frozen BK105.out 0; have hfz5_1 := blk_frozen BK105.out 1; have hfz5_2 := blk_frozen BK105.out 2; have hfz5_3 := blk_frozen BK105.out 3; have hfz5_4 := blk_frozen BK105.out 4) | (go_at_call 18; (with_reducible refine (hauberkref02_Of.calls a0_0 t106 t107 t108 t109 _ A2.out).mono ?_); rintro e w6 ⟨rfl, hb⟩; have n0_ := Aside0.mk (blk_below (g := gb105) (o := .cells #[.int .i64 a0_0, .int .i64 a0_1, .int .i64 a0_2, .int .i64 a0_3, .int .i64 a0_4] 29 (0, 0)) (by (with_reducible repeat (first | refine blk_drewN ?_ _ | refine blk_drew ?_ | refine blk_alloc ?_ _)); exact BK105.out) hb); have n1_ := Aside0.mk (below_step (by repeat (first | (with_reducible first | exact HB.out | apply below_alloc | apply pw_below_drewN | apply below_drew1 | refine below_set ?_ GE105.out) | exact HB.out)) hb); clear BK105; clear HB; have BK105 := n0_; have HB := n1_; clear n0_ n1_; (try clear hb); (try clear hb2); (try clear hk); (try clear hi)) | ((with_reducible refine gate_dst (N := 4) rfl ?_); refine box_event ?hg (N := 4) ?hd (cs := #[.int .u8 0, .int .i64 0, .int .i64 0, .int .i64 0]) (t := 62) ?hr ?_; (case hd => rfl); (case hg => rfl); (case hr => first | (go_simp; done) | (go_simp; rfl)); intro gb110 hg w7 hbox hb; have n0_ := Aside0.mk (blk_below (g := gb105) (o := .cells #[.int .i64 a0_0, .int .i64 a0_1, .int .i64 a0_2, .int .i64 a0_3, .int .i64 a0_4] 29 (0, 0)) (by (with_reducible repeat (first | refine blk_drewN ?_ _ | refine blk_drew ?_ | refine blk_alloc ?_ _)); exact BK105.out) hb); have n1_ := Aside0.mk (below_step (by repeat (first | (with_reducible first | exact HB.out | apply below_alloc | apply pw_below_drewN | apply below_drew1 | refine below_set ?_ GE105.out) | exact HB.out)) hb); have n2_ := Aside0.mk (hbox); have n3_ := Aside0.mk ((by rw [hg]; exact (below_size (by repeat (first | (with_reducible first | exact HB.out | apply below_alloc | apply pw_below_drewN | apply below_drew1 | refine below_set ?_ GE105.out) | exact HB.out))) : w.heap.size ≤ gb110)); have n4_ := Aside0.mk ((by rw [hg]; exact (below_size (by repeat (first | (with_reducible first | exact HB.out | apply below_alloc | apply pw_below_drewN | apply below_drew1 | refine below_set ?_ GE105.out) | exact HB.out))) : w.heap.size ≤ gb110)); have n5_ := Aside0.mk ((by rw [hg]; exact Nat.ne_of_lt (blk_lt (g := gb105) (o := .cells #[.int .i64 a0_0, .int .i64 a0_1, .int .i64 a0_2, .int .i64 a0_3, .int .i64 a0_4] 29 (0, 0)) (by (with_reducible repeat (first | refine blk_drewN ?_ _ | refine blk_drew ?_ | refine blk_alloc ?_ _)); exact BK105.out)) : gb105 ≠ gb110)); have n6_ := Aside0.mk ((by rw [hg]; exact Nat.ne_of_gt (blk_lt (g := gb105) (o := .cells #[.int .i64 a0_0, .int .i64 a0_1, .int .i64 a0_2, .int .i64 a0_3, .int .i64 a0_4] 29 (0, 0)) (by (with_reducible repeat (first | refine blk_drewN ?_ _ | refine blk_drew ?_ | refine blk_alloc ?_ _)); exact BK105.out)) : gb110 ≠ gb105)); clear BK105; clear HB; have BK105 := n0_; have HB := n1_; have BK110 := n2_; have GW110 := n3_; have GE110 := n4_; have NB105_110 := n5_; have NB110_105 := n6_; clear n0_ n1_ n2_ n3_ n4_ n5_ n6_; clear hb hbox hg; have hnb8 := NB110_105.out; have hnc8 := NB105_110.out; have hcz9_0 : w7.cell? ⟨gb110, 0, none⟩ = some (.int .u8 0) := (blk_cell BK110.out 0).trans rfl; have hcz9_1 : w7.cell? ⟨gb110, 1, none⟩ = some (.int .i64 0) := (blk_cell BK110.out 1).trans rfl; have hcz9_2 : w7.cell? ⟨gb110, 2, none⟩ = some (.int .i64 0) := (blk_cell BK110.out 2).trans rfl; have hcz9_3 : w7.cell? ⟨gb110, 3, none⟩ = some (.int .i64 0) := (blk_cell BK110.out 3).trans rfl; have hfz9_0 := blk_frozen BK110.out 0; have hfz9_1 := blk_frozen BK110.out 1; have hfz9_2 := blk_frozen BK110.out 2; have hfz9_3 := blk_frozen BK110.out 3)); go_upto_region 2 with (first | ((with_reducible refine gate_dst (N := 1) rfl ?_); refine box_event ?hg (N := 1) ?hd (cs := #[.int .i64 a0_0, .int .i64 a0_1, .int .i64 a0_2, .int .i64 a0_3, .int .i64 a0_4]) (t := 29) ?hr ?_; (case hd => rfl); (case hg => rfl); (case hr => first | (go_simp; done) | (go_simp; rfl)); intro gb105 hg w4 hbox hb; have n0_ := Aside0.mk (below_step (by repeat (first | (with_reducible first | exact HB.out | apply below_alloc | apply pw_below_drewN | apply below_drew1) | exact HB.out)) hb); have n1_ := Aside0.mk (hbox); have n2_ := Aside0.mk ((by rw [hg]; exact (below_size (by repeat (first | (with_reducible first | exact HB.out | apply below_alloc | apply pw_below_drewN | apply below_drew1) | exact HB.out))) : w.heap.size ≤ gb105)); have n3_ := Aside0.mk ((by rw [hg]; exact (below_size (by repeat (first | (with_reducible first | exact HB.out | apply below_alloc | apply pw_below_drewN | apply below_drew1) | exact HB.out))) : w.heap.size ≤ gb105)); clear HB; have HB := n0_; have BK105 := n1_; have GW105 := n2_; have GE105 := n3_; clear n0_ n1_ n2_ n3_; clear hb hbox hg; have hcz5_0 : w4.cell? ⟨gb105, 0, none⟩ = some (.int .i64 a0_0) := (blk_cell BK105.out 0).trans rfl; have hcz5_1 : w4.cell? ⟨gb105, 1, none⟩ = some (.int .i64 a0_1) := (blk_cell BK105.out 1).trans rfl; have hcz5_2 : w4.cell? ⟨gb105, 2, none⟩ = some (.int .i64 a0_2) := (blk_cell BK105.out 2).trans rfl; have hcz5_3 : w4.cell? ⟨gb105, 3, none⟩ = some (.int .i64 a0_3) := (blk_cell BK105.out 3).trans rfl; have hcz5_4 : w4.cell? ⟨gb105, 4, none⟩ = some (.int .i64 a0_4) := (blk_cell BK105.out 4).trans rfl; have hfz5_0 := blk_frozen BK105.out 0; have hfz5_1 := blk_frozen BK105.out 1; have hfz5_2 := blk_frozen BK105.out 2; have hfz5_3 := blk_frozen BK105.out 3; have hfz5_4 := blk_frozen BK105.out 4) | (go_at_call 18; (with_reducible refine (hauberkref02_Of.calls a0_0 t106 t107 t108 t109 _ A2.out).mono ?_); rintro e w6 ⟨rfl, hb⟩; have n0_ := Aside0.mk (blk_below (g := gb105) (o := .cells #[.int .i64 a0_0, .int .i64 a0_1, .int .i64 a0_2, .int .i64 a0_3, .int .i64 a0_4] 29 (0, 0)) (by (with_reducible repeat (first | refine blk_drewN ?_ _ | refine blk_drew ?_ | refine blk_alloc ?_ _)); exact BK105.out) hb); have n1_ := Aside0.mk (below_step (by repeat (first | (with_reducible first | exact HB.out | apply below_alloc | apply pw_below_drewN | apply below_drew1 | refine below_set ?_ GE105.out) | exact HB.out)) hb); clear BK105; clear HB; have BK105 := n0_; have HB := n1_; clear n0_ n1_; (try clear hb); (try clear hb2); (try clear hk); (try clear hi)) | ((with_reducible refine gate_dst (N := 4) rfl ?_); refine box_event ?hg (N := 4) ?hd (cs := #[.int .u8 0, .int .i64 0, .int .i64 0, .int .i64 0]) (t := 62) ?hr ?_; (case hd => rfl); (case hg => rfl); (case hr => first | (go_simp; done) | (go_simp; rfl)); intro gb110 hg w7 hbox hb; have n0_ := Aside0.mk (blk_below (g := gb105) (o := .cells #[.int .i64 a0_0, .int .i64 a0_1, .int .i64 a0_2, .int .i64 a0_3, .int .i64 a0_4] 29 (0, 0)) (by (with_reducible repeat (first | refine blk_drewN ?_ _ | refine blk_drew ?_ | refine blk_alloc ?_ _)); exact BK105.out) hb); have n1_ := Aside0.mk (below_step (by repeat (first | (with_reducible first | exact HB.out | apply below_alloc | apply pw_below_drewN | apply below_drew1 | refine below_set ?_ GE105.out) | exact HB.out)) hb); have n2_ := Aside0.mk (hbox); have n3_ := Aside0.mk ((by rw [hg]; exact (below_size (by repeat (first | (with_reducible first | exact HB.out | apply below_alloc | apply pw_below_drewN | apply below_drew1 | refine below_set ?_ GE105.out) | exact HB.out))) : w.heap.size ≤ gb110)); have n4_ := Aside0.mk ((by rw [hg]; exact (below_size (by repeat (first | (with_reducible first | exact HB.out | apply below_alloc | apply pw_below_drewN | apply below_drew1 | refine below_set ?_ GE105.out) | exact HB.out))) : w.heap.size ≤ gb110)); have n5_ := Aside0.mk ((by rw [hg]; exact Nat.ne_of_lt (blk_lt (g := gb105) (o := .cells #[.int .i64 a0_0, .int .i64 a0_1, .int .i64 a0_2, .int .i64 a0_3, .int .i64 a0_4] 29 (0, 0)) (by (with_reducible repeat (first | refine blk_drewN ?_ _ | refine blk_drew ?_ | refine blk_alloc ?_ _)); exact BK105.out)) : gb105 ≠ gb110)); have n6_ := Aside0.mk ((by rw [hg]; exact Nat.ne_of_gt (blk_lt (g := gb105) (o := .cells #[.int .i64 a0_0, .int .i64 a0_1, .int .i64 a0_2, .int .i64 a0_3, .int .i64 a0_4] 29 (0, 0)) (by (with_reducible repeat (first | refine blk_drewN ?_ _ | refine blk_drew ?_ | refine blk_alloc ?_ _)); exact BK105.out)) : gb110 ≠ gb105)); clear BK105; clear HB; have BK105 := n0_; have HB := n1_; have BK110 := n2_; have GW110 := n3_; have GE110 := n4_; have NB105_110 := n5_; have NB110_105 := n6_; clear n0_ n1_ n2_ n3_ n4_ n5_ n6_; clear hb hbox hg; have hnb8 := NB110_105.out; have hnc8 := NB105_110.out; have hcz9_0 : w7.cell? ⟨gb110, 0, none⟩ = some (.int .u8 0) := (blk_cell BK110.out 0).trans rfl; have hcz9_1 : w7.cell? ⟨gb110, 1, none⟩ = some (.int .i64 0) := (blk_cell BK110.out 1).trans rfl; have hcz9_2 : w7.cell? ⟨gb110, 2, none⟩ = some (.int .i64 0) := (blk_cell BK110.out 2).trans rfl; have hcz9_3 : w7.cell? ⟨gb110, 3, none⟩ = some (.int .i64 0) := (blk_cell BK110.out 3).trans rfl; have hfz9_0 := blk_frozen BK110.out 0; have hfz9_1 := blk_frozen BK110.out 1; have hfz9_2 := blk_frozen BK110.out 2; have hfz9_3 := blk_frozen BK110.out 3)))
 (try simp only [Act.put, List.setIfInBounds_toArray, List.set_cons_zero, List.set_cons_succ])
 go_cut [5, 6, 7] (fun v5 v6 v7 wc => ∃ (kq : Nat) (x5_2 : Bool) (x6_2 : Bool) (x7_2 : Bool), v5 = .bool x5_2 ∧ v6 = .bool x6_2 ∧ v7 = .bool x7_2 ∧ Aside0 (hauberkref02_Encode.j0 kq x5_2 x6_2 x7_2 a0_0 a0_1 a0_2 a0_3 a0_4 t106 t107 t108 t109 = some (r1, r2)) ∧ Aside0 (kq ≤ k) ∧ Aside0 (wc.heap[gb105]? = some (.cells #[.int .i64 a0_0, .int .i64 a0_1, .int .i64 a0_2, .int .i64 a0_3, .int .i64 a0_4] 29 (0, 0))) ∧ Aside0 (wc.heap[gb110]? = some (.cells #[.int .u8 t106, .int .i64 t107, .int .i64 t108, .int .i64 t109] 62 (0, 0))) ∧ Aside0 (Below w.heap.size w wc))
 case first =>
  have H := HC3.out
  clear HC3
  by_cases c10 : t106 = 83
  ·rw [if_pos c10] at H
   have c10b0 : (t106 == 83) = true := beq_iff_eq.mpr c10
   have c10b1 : (t106 != 83) = false := bne_eq_false_iff_eq.mpr c10
   clear c10
   (first | rw [c10b0] | (simp only [i64_w, i32_w]; rw [c10b0]) | skip)
   by_cases c11 : t106 = 85
   ·rw [if_pos c11] at H
    have c11b0 : (t106 == 85) = true := beq_iff_eq.mpr c11
    have c11b1 : (t106 != 85) = false := bne_eq_false_iff_eq.mpr c11
    clear c11
    by_cases c12 : t106 = 82
    ·as_aux_lemma =>
      rw [if_pos c12] at H
      have c12b0 : (t106 == 82) = true := beq_iff_eq.mpr c12
      have c12b1 : (t106 != 82) = false := bne_eq_false_iff_eq.mpr c12
      clear c12
      have H' := Aside0.mk H
      clear H
      have hnb13 := NB110_105.out
      have hnc13 := NB105_110.out
      have hcz14_0 : w7.cell? ⟨gb110, 0, none⟩ = some (.int .u8 0) := (blk_cell BK110.out 0).trans rfl
      have hcz14_1 : w7.cell? ⟨gb110, 1, none⟩ = some (.int .i64 0) := (blk_cell BK110.out 1).trans rfl
      have hcz14_2 : w7.cell? ⟨gb110, 2, none⟩ = some (.int .i64 0) := (blk_cell BK110.out 2).trans rfl
      have hcz14_3 : w7.cell? ⟨gb110, 3, none⟩ = some (.int .i64 0) := (blk_cell BK110.out 3).trans rfl
      have hfz14_0 := blk_frozen BK110.out 0
      have hfz14_1 := blk_frozen BK110.out 1
      have hfz14_2 := blk_frozen BK110.out 2
      have hfz14_3 := blk_frozen BK110.out 3
      go_wp2
      repeat (go_quiet (fail); try go_wp2)
      go_meet
      case rel => exact ⟨_, (false), (false), (true), (by first | rfl | (simp; done) | (simp [*]; done)), (by first | rfl | (simp; done) | (simp [*]; done)), (by first | rfl | (simp; done) | (simp [*]; done)), H', ⟨by first | omega | exact Nat.le_refl _⟩, ⟨by (with_reducible repeat (first | refine blk_drewN ?_ _ | refine blk_drew ?_ | refine blk_alloc ?_ _)); refine blk_far ?_ NB105_110.out _; (with_reducible repeat (first | refine blk_drewN ?_ _ | refine blk_drew ?_ | refine blk_alloc ?_ _)); refine blk_far ?_ NB105_110.out _; (with_reducible repeat (first | refine blk_drewN ?_ _ | refine blk_drew ?_ | refine blk_alloc ?_ _)); refine blk_far ?_ NB105_110.out _; (with_reducible repeat (first | refine blk_drewN ?_ _ | refine blk_drew ?_ | refine blk_alloc ?_ _)); refine blk_far ?_ NB105_110.out _; (with_reducible repeat (first | refine blk_drewN ?_ _ | refine blk_drew ?_ | refine blk_alloc ?_ _)); exact BK105.out⟩, ⟨by (with_reducible repeat (first | refine blk_drewN ?_ _ | refine blk_drew ?_ | refine blk_alloc ?_ _)); refine blk_put (cs := #[.int .u8 t106, .int .i64 t107, .int .i64 t108, .int .i64 0]) ?_ 3 _ rfl; (with_reducible repeat (first | refine blk_drewN ?_ _ | refine blk_drew ?_ | refine blk_alloc ?_ _)); refine blk_put (cs := #[.int .u8 t106, .int .i64 t107, .int .i64 0, .int .i64 0]) ?_ 2 _ rfl; (with_reducible repeat (first | refine blk_drewN ?_ _ | refine blk_drew ?_ | refine blk_alloc ?_ _)); refine blk_put (cs := #[.int .u8 t106, .int .i64 0, .int .i64 0, .int .i64 0]) ?_ 1 _ rfl; (with_reducible repeat (first | refine blk_drewN ?_ _ | refine blk_drew ?_ | refine blk_alloc ?_ _)); refine blk_put (cs := #[.int .u8 0, .int .i64 0, .int .i64 0, .int .i64 0]) ?_ 0 _ rfl; (with_reducible repeat (first | refine blk_drewN ?_ _ | refine blk_drew ?_ | refine blk_alloc ?_ _)); exact BK110.out⟩, ⟨by repeat (first | (with_reducible first | exact HB.out | apply below_alloc | apply pw_below_drewN | apply below_drew1 | refine below_set ?_ GE105.out | refine below_set ?_ GE110.out) | exact HB.out)⟩⟩
    ·as_aux_lemma =>
      rw [if_neg c12] at H
      have c12b0 : (t106 == 82) = false := beq_eq_false_iff_ne.mpr c12
      have c12b1 : (t106 != 82) = true := bne_iff_ne.mpr c12
      have H' := Aside0.mk H
      clear H
      have hnb15 := NB110_105.out
      have hnc15 := NB105_110.out
      have hcz16_0 : w7.cell? ⟨gb110, 0, none⟩ = some (.int .u8 0) := (blk_cell BK110.out 0).trans rfl
      have hcz16_1 : w7.cell? ⟨gb110, 1, none⟩ = some (.int .i64 0) := (blk_cell BK110.out 1).trans rfl
      have hcz16_2 : w7.cell? ⟨gb110, 2, none⟩ = some (.int .i64 0) := (blk_cell BK110.out 2).trans rfl
      have hcz16_3 : w7.cell? ⟨gb110, 3, none⟩ = some (.int .i64 0) := (blk_cell BK110.out 3).trans rfl
      have hfz16_0 := blk_frozen BK110.out 0
      have hfz16_1 := blk_frozen BK110.out 1
      have hfz16_2 := blk_frozen BK110.out 2
      have hfz16_3 := blk_frozen BK110.out 3
      go_wp2
      repeat (go_quiet (fail); try go_wp2)
      go_meet
      case rel => exact ⟨_, (false), (false), (true), (by first | rfl | (simp; done) | (simp [*]; done)), (by first | rfl | (simp; done) | (simp [*]; done)), (by first | rfl | (simp; done) | (simp [*]; done)), H', ⟨by first | omega | exact Nat.le_refl _⟩, ⟨by (with_reducible repeat (first | refine blk_drewN ?_ _ | refine blk_drew ?_ | refine blk_alloc ?_ _)); refine blk_far ?_ NB105_110.out _; (with_reducible repeat (first | refine blk_drewN ?_ _ | refine blk_drew ?_ | refine blk_alloc ?_ _)); refine blk_far ?_ NB105_110.out _; (with_reducible repeat (first | refine blk_drewN ?_ _ | refine blk_drew ?_ | refine blk_alloc ?_ _)); refine blk_far ?_ NB105_110.out _; (with_reducible repeat (first | refine blk_drewN ?_ _ | refine blk_drew ?_ | refine blk_alloc ?_ _)); refine blk_far ?_ NB105_110.out _; (with_reducible repeat (first | refine blk_drewN ?_ _ | refine blk_drew ?_ | refine blk_alloc ?_ _)); exact BK105.out⟩, ⟨by (with_reducible repeat (first | refine blk_drewN ?_ _ | refine blk_drew ?_ | refine blk_alloc ?_ _)); refine blk_put (cs := #[.int .u8 t106, .int .i64 t107, .int .i64 t108, .int .i64 0]) ?_ 3 _ rfl; (with_reducible repeat (first | refine blk_drewN ?_ _ | refine blk_drew ?_ | refine blk_alloc ?_ _)); refine blk_put (cs := #[.int .u8 t106, .int .i64 t107, .int .i64 0, .int .i64 0]) ?_ 2 _ rfl; (with_reducible repeat (first | refine blk_drewN ?_ _ | refine blk_drew ?_ | refine blk_alloc ?_ _)); refine blk_put (cs := #[.int .u8 t106, .int .i64 0, .int .i64 0, .int .i64 0]) ?_ 1 _ rfl; (with_reducible repeat (first | refine blk_drewN ?_ _ | refine blk_drew ?_ | refine blk_alloc ?_ _)); refine blk_put (cs := #[.int .u8 0, .int .i64 0, .int .i64 0, .int .i64 0]) ?_ 0 _ rfl; (with_reducible repeat (first | refine blk_drewN ?_ _ | refine blk_drew ?_ | refine blk_alloc ?_ _)); exact BK110.out⟩, ⟨by repeat (first | (with_reducible first | exact HB.out | apply below_alloc | apply pw_below_drewN | apply below_drew1 | refine below_set ?_ GE105.out | refine below_set ?_ GE110.out) | exact HB.out)⟩⟩
   ·rw [if_neg c11] at H
    have c11b0 : (t106 == 85) = false := beq_eq_false_iff_ne.mpr c11
    have c11b1 : (t106 != 85) = true := bne_iff_ne.mpr c11
    by_cases c17 : t106 = 82
    ·as_aux_lemma =>
      rw [if_pos c17] at H
      have c17b0 : (t106 == 82) = true := beq_iff_eq.mpr c17
      have c17b1 : (t106 != 82) = false := bne_eq_false_iff_eq.mpr c17
      clear c17
      have H' := Aside0.mk H
      clear H
      have hnb18 := NB110_105.out
      have hnc18 := NB105_110.out
      have hcz19_0 : w7.cell? ⟨gb110, 0, none⟩ = some (.int .u8 0) := (blk_cell BK110.out 0).trans rfl
      have hcz19_1 : w7.cell? ⟨gb110, 1, none⟩ = some (.int .i64 0) := (blk_cell BK110.out 1).trans rfl
      have hcz19_2 : w7.cell? ⟨gb110, 2, none⟩ = some (.int .i64 0) := (blk_cell BK110.out 2).trans rfl
      have hcz19_3 : w7.cell? ⟨gb110, 3, none⟩ = some (.int .i64 0) := (blk_cell BK110.out 3).trans rfl
      have hfz19_0 := blk_frozen BK110.out 0
      have hfz19_1 := blk_frozen BK110.out 1
      have hfz19_2 := blk_frozen BK110.out 2
      have hfz19_3 := blk_frozen BK110.out 3
      go_wp2
      repeat (go_quiet (fail); try go_wp2)
      go_meet
      case rel => exact ⟨_, (false), ((t106 != 74)), (true), (by first | rfl | (simp; done) | (simp [*]; done)), (by first | rfl | (simp; done) | (simp [*]; done)), (by first | rfl | (simp; done) | (simp [*]; done)), H', ⟨by first | omega | exact Nat.le_refl _⟩, ⟨by (with_reducible repeat (first | refine blk_drewN ?_ _ | refine blk_drew ?_ | refine blk_alloc ?_ _)); refine blk_far ?_ NB105_110.out _; (with_reducible repeat (first | refine blk_drewN ?_ _ | refine blk_drew ?_ | refine blk_alloc ?_ _)); refine blk_far ?_ NB105_110.out _; (with_reducible repeat (first | refine blk_drewN ?_ _ | refine blk_drew ?_ | refine blk_alloc ?_ _)); refine blk_far ?_ NB105_110.out _; (with_reducible repeat (first | refine blk_drewN ?_ _ | refine blk_drew ?_ | refine blk_alloc ?_ _)); refine blk_far ?_ NB105_110.out _; (with_reducible repeat (first | refine blk_drewN ?_ _ | refine blk_drew ?_ | refine blk_alloc ?_ _)); exact BK105.out⟩, ⟨by (with_reducible repeat (first | refine blk_drewN ?_ _ | refine blk_drew ?_ | refine blk_alloc ?_ _)); refine blk_put (cs := #[.int .u8 t106, .int .i64 t107, .int .i64 t108, .int .i64 0]) ?_ 3 _ rfl; (with_reducible repeat (first | refine blk_drewN ?_ _ | refine blk_drew ?_ | refine blk_alloc ?_ _)); refine blk_put (cs := #[.int .u8 t106, .int .i64 t107, .int .i64 0, .int .i64 0]) ?_ 2 _ rfl; (with_reducible repeat (first | refine blk_drewN ?_ _ | refine blk_drew ?_ | refine blk_alloc ?_ _)); refine blk_put (cs := #[.int .u8 t106, .int .i64 0, .int .i64 0, .int .i64 0]) ?_ 1 _ rfl; (with_reducible repeat (first | refine blk_drewN ?_ _ | refine blk_drew ?_ | refine blk_alloc ?_ _)); refine blk_put (cs := #[.int .u8 0, .int .i64 0, .int .i64 0, .int .i64 0]) ?_ 0 _ rfl; (with_reducible repeat (first | refine blk_drewN ?_ _ | refine blk_drew ?_ | refine blk_alloc ?_ _)); exact BK110.out⟩, ⟨by repeat (first | (with_reducible first | exact HB.out | apply below_alloc | apply pw_below_drewN | apply below_drew1 | refine below_set ?_ GE105.out | refine below_set ?_ GE110.out) | exact HB.out)⟩⟩
    ·as_aux_lemma =>
      rw [if_neg c17] at H
      have c17b0 : (t106 == 82) = false := beq_eq_false_iff_ne.mpr c17
      have c17b1 : (t106 != 82) = true := bne_iff_ne.mpr c17
      have H' := Aside0.mk H
      clear H
      have hnb20 := NB110_105.out
      have hnc20 := NB105_110.out
      have hcz21_0 : w7.cell? ⟨gb110, 0, none⟩ = some (.int .u8 0) := (blk_cell BK110.out 0).trans rfl
      have hcz21_1 : w7.cell? ⟨gb110, 1, none⟩ = some (.int .i64 0) := (blk_cell BK110.out 1).trans rfl
      have hcz21_2 : w7.cell? ⟨gb110, 2, none⟩ = some (.int .i64 0) := (blk_cell BK110.out 2).trans rfl
      have hcz21_3 : w7.cell? ⟨gb110, 3, none⟩ = some (.int .i64 0) := (blk_cell BK110.out 3).trans rfl
      have hfz21_0 := blk_frozen BK110.out 0
      have hfz21_1 := blk_frozen BK110.out 1
      have hfz21_2 := blk_frozen BK110.out 2
      have hfz21_3 := blk_frozen BK110.out 3
      go_wp2
      repeat (go_quiet (fail); try go_wp2)
      go_meet
      case rel => exact ⟨_, (false), ((t106 != 74)), (true), (by first | rfl | (simp; done) | (simp [*]; done)), (by first | rfl | (simp; done) | (simp [*]; done)), (by first | rfl | (simp; done) | (simp [*]; done)), H', ⟨by first | omega | exact Nat.le_refl _⟩, ⟨by (with_reducible repeat (first | refine blk_drewN ?_ _ | refine blk_drew ?_ | refine blk_alloc ?_ _)); refine blk_far ?_ NB105_110.out _; (with_reducible repeat (first | refine blk_drewN ?_ _ | refine blk_drew ?_ | refine blk_alloc ?_ _)); refine blk_far ?_ NB105_110.out _; (with_reducible repeat (first | refine blk_drewN ?_ _ | refine blk_drew ?_ | refine blk_alloc ?_ _)); refine blk_far ?_ NB105_110.out _; (with_reducible repeat (first | refine blk_drewN ?_ _ | refine blk_drew ?_ | refine blk_alloc ?_ _)); refine blk_far ?_ NB105_110.out _; (with_reducible repeat (first | refine blk_drewN ?_ _ | refine blk_drew ?_ | refine blk_alloc ?_ _)); exact BK105.out⟩, ⟨by (with_reducible repeat (first | refine blk_drewN ?_ _ | refine blk_drew ?_ | refine blk_alloc ?_ _)); refine blk_put (cs := #[.int .u8 t106, .int .i64 t107, .int .i64 t108, .int .i64 0]) ?_ 3 _ rfl; (with_reducible repeat (first | refine blk_drewN ?_ _ | refine blk_drew ?_ | refine blk_alloc ?_ _)); refine blk_put (cs := #[.int .u8 t106, .int .i64 t107, .int .i64 0, .int .i64 0]) ?_ 2 _ rfl; (with_reducible repeat (first | refine blk_drewN ?_ _ | refine blk_drew ?_ | refine blk_alloc ?_ _)); refine blk_put (cs := #[.int .u8 t106, .int .i64 0, .int .i64 0, .int .i64 0]) ?_ 1 _ rfl; (with_reducible repeat (first | refine blk_drewN ?_ _ | refine blk_drew ?_ | refine blk_alloc ?_ _)); refine blk_put (cs := #[.int .u8 0, .int .i64 0, .int .i64 0, .int .i64 0]) ?_ 0 _ rfl; (with_reducible repeat (first | refine blk_drewN ?_ _ | refine blk_drew ?_ | refine blk_alloc ?_ _)); exact BK110.out⟩, ⟨by repeat (first | (with_reducible first | exact HB.out | apply below_alloc | apply pw_below_drewN | apply below_drew1 | refine below_set ?_ GE105.out | refine below_set ?_ GE110.out) | exact HB.out)⟩⟩
  ·rw [if_neg c10] at H
   have c10b0 : (t106 == 83) = false := beq_eq_false_iff_ne.mpr c10
   have c10b1 : (t106 != 83) = true := bne_iff_ne.mpr c10
   (first | rw [c10b0] | (simp only [i64_w, i32_w]; rw [c10b0]) | skip)
   by_cases c22 : t106 = 85
   ·rw [if_pos c22] at H
    have c22b0 : (t106 == 85) = true := beq_iff_eq.mpr c22
    have c22b1 : (t106 != 85) = false := bne_eq_false_iff_eq.mpr c22
    clear c22
    by_cases c23 : t106 = 82
    ·as_aux_lemma =>
      rw [if_pos c23] at H
      have c23b0 : (t106 == 82) = true := beq_iff_eq.mpr c23
      have c23b1 : (t106 != 82) = false := bne_eq_false_iff_eq.mpr c23
      clear c23
      have H' := Aside0.mk H
      clear H
      have hnb24 := NB110_105.out
      have hnc24 := NB105_110.out
      have hcz25_0 : w7.cell? ⟨gb110, 0, none⟩ = some (.int .u8 0) := (blk_cell BK110.out 0).trans rfl
      have hcz25_1 : w7.cell? ⟨gb110, 1, none⟩ = some (.int .i64 0) := (blk_cell BK110.out 1).trans rfl
      have hcz25_2 : w7.cell? ⟨gb110, 2, none⟩ = some (.int .i64 0) := (blk_cell BK110.out 2).trans rfl
      have hcz25_3 : w7.cell? ⟨gb110, 3, none⟩ = some (.int .i64 0) := (blk_cell BK110.out 3).trans rfl
      have hfz25_0 := blk_frozen BK110.out 0
      have hfz25_1 := blk_frozen BK110.out 1
      have hfz25_2 := blk_frozen BK110.out 2
      have hfz25_3 := blk_frozen BK110.out 3
      go_wp2
      repeat (go_quiet (fail); try go_wp2)
      go_meet
      case rel => exact ⟨_, ((t106 != 66)), (false), (true), (by first | rfl | (simp; done) | (simp [*]; done)), (by first | rfl | (simp; done) | (simp [*]; done)), (by first | rfl | (simp; done) | (simp [*]; done)), H', ⟨by first | omega | exact Nat.le_refl _⟩, ⟨by (with_reducible repeat (first | refine blk_drewN ?_ _ | refine blk_drew ?_ | refine blk_alloc ?_ _)); refine blk_far ?_ NB105_110.out _; (with_reducible repeat (first | refine blk_drewN ?_ _ | refine blk_drew ?_ | refine blk_alloc ?_ _)); refine blk_far ?_ NB105_110.out _; (with_reducible repeat (first | refine blk_drewN ?_ _ | refine blk_drew ?_ | refine blk_alloc ?_ _)); refine blk_far ?_ NB105_110.out _; (with_reducible repeat (first | refine blk_drewN ?_ _ | refine blk_drew ?_ | refine blk_alloc ?_ _)); refine blk_far ?_ NB105_110.out _; (with_reducible repeat (first | refine blk_drewN ?_ _ | refine blk_drew ?_ | refine blk_alloc ?_ _)); exact BK105.out⟩, ⟨by (with_reducible repeat (first | refine blk_drewN ?_ _ | refine blk_drew ?_ | refine blk_alloc ?_ _)); refine blk_put (cs := #[.int .u8 t106, .int .i64 t107, .int .i64 t108, .int .i64 0]) ?_ 3 _ rfl; (with_reducible repeat (first | refine blk_drewN ?_ _ | refine blk_drew ?_ | refine blk_alloc ?_ _)); refine blk_put (cs := #[.int .u8 t106, .int .i64 t107, .int .i64 0, .int .i64 0]) ?_ 2 _ rfl; (with_reducible repeat (first | refine blk_drewN ?_ _ | refine blk_drew ?_ | refine blk_alloc ?_ _)); refine blk_put (cs := #[.int .u8 t106, .int .i64 0, .int .i64 0, .int .i64 0]) ?_ 1 _ rfl; (with_reducible repeat (first | refine blk_drewN ?_ _ | refine blk_drew ?_ | refine blk_alloc ?_ _)); refine blk_put (cs := #[.int .u8 0, .int .i64 0, .int .i64 0, .int .i64 0]) ?_ 0 _ rfl; (with_reducible repeat (first | refine blk_drewN ?_ _ | refine blk_drew ?_ | refine blk_alloc ?_ _)); exact BK110.out⟩, ⟨by repeat (first | (with_reducible first | exact HB.out | apply below_alloc | apply pw_below_drewN | apply below_drew1 | refine below_set ?_ GE105.out | refine below_set ?_ GE110.out) | exact HB.out)⟩⟩
    ·as_aux_lemma =>
      rw [if_neg c23] at H
      have c23b0 : (t106 == 82) = false := beq_eq_false_iff_ne.mpr c23
      have c23b1 : (t106 != 82) = true := bne_iff_ne.mpr c23
      have H' := Aside0.mk H
      clear H
      have hnb26 := NB110_105.out
      have hnc26 := NB105_110.out
      have hcz27_0 : w7.cell? ⟨gb110, 0, none⟩ = some (.int .u8 0) := (blk_cell BK110.out 0).trans rfl
      have hcz27_1 : w7.cell? ⟨gb110, 1, none⟩ = some (.int .i64 0) := (blk_cell BK110.out 1).trans rfl
      have hcz27_2 : w7.cell? ⟨gb110, 2, none⟩ = some (.int .i64 0) := (blk_cell BK110.out 2).trans rfl
      have hcz27_3 : w7.cell? ⟨gb110, 3, none⟩ = some (.int .i64 0) := (blk_cell BK110.out 3).trans rfl
      have hfz27_0 := blk_frozen BK110.out 0
      have hfz27_1 := blk_frozen BK110.out 1
      have hfz27_2 := blk_frozen BK110.out 2
      have hfz27_3 := blk_frozen BK110.out 3
      go_wp2
      repeat (go_quiet (fail); try go_wp2)
      go_meet
      case rel => exact ⟨_, ((t106 != 66)), (false), ((t106 == 66)), (by first | rfl | (simp; done) | (simp [*]; done)), (by first | rfl | (simp; done) | (simp [*]; done)), (by first | rfl | (simp; done) | (simp [*]; done)), H', ⟨by first | omega | exact Nat.le_refl _⟩, ⟨by (with_reducible repeat (first | refine blk_drewN ?_ _ | refine blk_drew ?_ | refine blk_alloc ?_ _)); refine blk_far ?_ NB105_110.out _; (with_reducible repeat (first | refine blk_drewN ?_ _ | refine blk_drew ?_ | refine blk_alloc ?_ _)); refine blk_far ?_ NB105_110.out _; (with_reducible repeat (first | refine blk_drewN ?_ _ | refine blk_drew ?_ | refine blk_alloc ?_ _)); refine blk_far ?_ NB105_110.out _; (with_reducible repeat (first | refine blk_drewN ?_ _ | refine blk_drew ?_ | refine blk_alloc ?_ _)); refine blk_far ?_ NB105_110.out _; (with_reducible repeat (first | refine blk_drewN ?_ _ | refine blk_drew ?_ | refine blk_alloc ?_ _)); exact BK105.out⟩, ⟨by (with_reducible repeat (first | refine blk_drewN ?_ _ | refine blk_drew ?_ | refine blk_alloc ?_ _)); refine blk_put (cs := #[.int .u8 t106, .int .i64 t107, .int .i64 t108, .int .i64 0]) ?_ 3 _ rfl; (with_reducible repeat (first | refine blk_drewN ?_ _ | refine blk_drew ?_ | refine blk_alloc ?_ _)); refine blk_put (cs := #[.int .u8 t106, .int .i64 t107, .int .i64 0, .int .i64 0]) ?_ 2 _ rfl; (with_reducible repeat (first | refine blk_drewN ?_ _ | refine blk_drew ?_ | refine blk_alloc ?_ _)); refine blk_put (cs := #[.int .u8 t106, .int .i64 0, .int .i64 0, .int .i64 0]) ?_ 1 _ rfl; (with_reducible repeat (first | refine blk_drewN ?_ _ | refine blk_drew ?_ | refine blk_alloc ?_ _)); refine blk_put (cs := #[.int .u8 0, .int .i64 0, .int .i64 0, .int .i64 0]) ?_ 0 _ rfl; (with_reducible repeat (first | refine blk_drewN ?_ _ | refine blk_drew ?_ | refine blk_alloc ?_ _)); exact BK110.out⟩, ⟨by repeat (first | (with_reducible first | exact HB.out | apply below_alloc | apply pw_below_drewN | apply below_drew1 | refine below_set ?_ GE105.out | refine below_set ?_ GE110.out) | exact HB.out)⟩⟩
   ·rw [if_neg c22] at H
    have c22b0 : (t106 == 85) = false := beq_eq_false_iff_ne.mpr c22
    have c22b1 : (t106 != 85) = true := bne_iff_ne.mpr c22
    by_cases c28 : t106 = 82
    ·as_aux_lemma =>
      rw [if_pos c28] at H
      have c28b0 : (t106 == 82) = true := beq_iff_eq.mpr c28
      have c28b1 : (t106 != 82) = false := bne_eq_false_iff_eq.mpr c28
      clear c28
      have H' := Aside0.mk H
      clear H
      have hnb29 := NB110_105.out
      have hnc29 := NB105_110.out
      have hcz30_0 : w7.cell? ⟨gb110, 0, none⟩ = some (.int .u8 0) := (blk_cell BK110.out 0).trans rfl
      have hcz30_1 : w7.cell? ⟨gb110, 1, none⟩ = some (.int .i64 0) := (blk_cell BK110.out 1).trans rfl
      have hcz30_2 : w7.cell? ⟨gb110, 2, none⟩ = some (.int .i64 0) := (blk_cell BK110.out 2).trans rfl
      have hcz30_3 : w7.cell? ⟨gb110, 3, none⟩ = some (.int .i64 0) := (blk_cell BK110.out 3).trans rfl
      have hfz30_0 := blk_frozen BK110.out 0
      have hfz30_1 := blk_frozen BK110.out 1
      have hfz30_2 := blk_frozen BK110.out 2
      have hfz30_3 := blk_frozen BK110.out 3
      go_wp2
      repeat (go_quiet (fail); try go_wp2)
      go_meet
      case rel => exact ⟨_, ((t106 != 66)), ((t106 != 74)), (true), (by first | rfl | (simp; done) | (simp [*]; done)), (by first | rfl | (simp; done) | (simp [*]; done)), (by first | rfl | (simp; done) | (simp [*]; done)), H', ⟨by first | omega | exact Nat.le_refl _⟩, ⟨by (with_reducible repeat (first | refine blk_drewN ?_ _ | refine blk_drew ?_ | refine blk_alloc ?_ _)); refine blk_far ?_ NB105_110.out _; (with_reducible repeat (first | refine blk_drewN ?_ _ | refine blk_drew ?_ | refine blk_alloc ?_ _)); refine blk_far ?_ NB105_110.out _; (with_reducible repeat (first | refine blk_drewN ?_ _ | refine blk_drew ?_ | refine blk_alloc ?_ _)); refine blk_far ?_ NB105_110.out _; (with_reducible repeat (first | refine blk_drewN ?_ _ | refine blk_drew ?_ | refine blk_alloc ?_ _)); refine blk_far ?_ NB105_110.out _; (with_reducible repeat (first | refine blk_drewN ?_ _ | refine blk_drew ?_ | refine blk_alloc ?_ _)); exact BK105.out⟩, ⟨by (with_reducible repeat (first | refine blk_drewN ?_ _ | refine blk_drew ?_ | refine blk_alloc ?_ _)); refine blk_put (cs := #[.int .u8 t106, .int .i64 t107, .int .i64 t108, .int .i64 0]) ?_ 3 _ rfl; (with_reducible repeat (first | refine blk_drewN ?_ _ | refine blk_drew ?_ | refine blk_alloc ?_ _)); refine blk_put (cs := #[.int .u8 t106, .int .i64 t107, .int .i64 0, .int .i64 0]) ?_ 2 _ rfl; (with_reducible repeat (first | refine blk_drewN ?_ _ | refine blk_drew ?_ | refine blk_alloc ?_ _)); refine blk_put (cs := #[.int .u8 t106, .int .i64 0, .int .i64 0, .int .i64 0]) ?_ 1 _ rfl; (with_reducible repeat (first | refine blk_drewN ?_ _ | refine blk_drew ?_ | refine blk_alloc ?_ _)); refine blk_put (cs := #[.int .u8 0, .int .i64 0, .int .i64 0, .int .i64 0]) ?_ 0 _ rfl; (with_reducible repeat (first | refine blk_drewN ?_ _ | refine blk_drew ?_ | refine blk_alloc ?_ _)); exact BK110.out⟩, ⟨by repeat (first | (with_reducible first | exact HB.out | apply below_alloc | apply pw_below_drewN | apply below_drew1 | refine below_set ?_ GE105.out | refine below_set ?_ GE110.out) | exact HB.out)⟩⟩
    ·as_aux_lemma =>
      rw [if_neg c28] at H
      have c28b0 : (t106 == 82) = false := beq_eq_false_iff_ne.mpr c28
      have c28b1 : (t106 != 82) = true := bne_iff_ne.mpr c28
      have H' := Aside0.mk H
      clear H
      have hnb31 := NB110_105.out
      have hnc31 := NB105_110.out
      have hcz32_0 : w7.cell? ⟨gb110, 0, none⟩ = some (.int .u8 0) := (blk_cell BK110.out 0).trans rfl
      have hcz32_1 : w7.cell? ⟨gb110, 1, none⟩ = some (.int .i64 0) := (blk_cell BK110.out 1).trans rfl
      have hcz32_2 : w7.cell? ⟨gb110, 2, none⟩ = some (.int .i64 0) := (blk_cell BK110.out 2).trans rfl
      have hcz32_3 : w7.cell? ⟨gb110, 3, none⟩ = some (.int .i64 0) := (blk_cell BK110.out 3).trans rfl
      have hfz32_0 := blk_frozen BK110.out 0
      have hfz32_1 := blk_frozen BK110.out 1
      have hfz32_2 := blk_frozen BK110.out 2
      have hfz32_3 := blk_frozen BK110.out 3
      go_wp2
      repeat (go_quiet (fail); try go_wp2)
      go_meet
      case rel => exact ⟨_, ((t106 != 66)), ((t106 != 74)), ((t106 == 66)), (by first | rfl | (simp; done) | (simp [*]; done)), (by first | rfl | (simp; done) | (simp [*]; done)), (by first | rfl | (simp; done) | (simp [*]; done)), H', ⟨by first | omega | exact Nat.le_refl _⟩, ⟨by (with_reducible repeat (first | refine blk_drewN ?_ _ | refine blk_drew ?_ | refine blk_alloc ?_ _)); refine blk_far ?_ NB105_110.out _; (with_reducible repeat (first | refine blk_drewN ?_ _ | refine blk_drew ?_ | refine blk_alloc ?_ _)); refine blk_far ?_ NB105_110.out _; (with_reducible repeat (first | refine blk_drewN ?_ _ | refine blk_drew ?_ | refine blk_alloc ?_ _)); refine blk_far ?_ NB105_110.out _; (with_reducible repeat (first | refine blk_drewN ?_ _ | refine blk_drew ?_ | refine blk_alloc ?_ _)); refine blk_far ?_ NB105_110.out _; (with_reducible repeat (first | refine blk_drewN ?_ _ | refine blk_drew ?_ | refine blk_alloc ?_ _)); exact BK105.out⟩, ⟨by (with_reducible repeat (first | refine blk_drewN ?_ _ | refine blk_drew ?_ | refine blk_alloc ?_ _)); refine blk_put (cs := #[.int .u8 t106, .int .i64 t107, .int .i64 t108, .int .i64 0]) ?_ 3 _ rfl; (with_reducible repeat (first | refine blk_drewN ?_ _ | refine blk_drew ?_ | refine blk_alloc ?_ _)); refine blk_put (cs := #[.int .u8 t106, .int .i64 t107, .int .i64 0, .int .i64 0]) ?_ 2 _ rfl; (with_reducible repeat (first | refine blk_drewN ?_ _ | refine blk_drew ?_ | refine blk_alloc ?_ _)); refine blk_put (cs := #[.int .u8 t106, .int .i64 0, .int .i64 0, .int .i64 0]) ?_ 1 _ rfl; (with_reducible repeat (first | refine blk_drewN ?_ _ | refine blk_drew ?_ | refine blk_alloc ?_ _)); refine blk_put (cs := #[.int .u8 0, .int .i64 0, .int .i64 0, .int .i64 0]) ?_ 0 _ rfl; (with_reducible repeat (first | refine blk_drewN ?_ _ | refine blk_drew ?_ | refine blk_alloc ?_ _)); exact BK110.out⟩, ⟨by repeat (first | (with_reducible first | exact HB.out | apply below_alloc | apply pw_below_drewN | apply below_drew1 | refine below_set ?_ GE105.out | refine below_set ?_ GE110.out) | exact HB.out)⟩⟩
 case rest =>
  clear HC3
  try clear c1
  try clear c2
  try clear p2
  try clear c3
  try clear c8
  try clear c10
  try clear c10b0
  try clear c10b1
  try clear c11
  try clear c11b0
  try clear c11b1
  try clear c12
  try clear c12b0
  try clear c12b1
  try clear c13
  try clear c15
  try clear c17
  try clear c17b0
  try clear c17b1
  try clear c18
  try clear c20
  try clear c22
  try clear c22b0
  try clear c22b1
  try clear c23
  try clear c23b0
  try clear c23b1
  try clear c24
  try clear c26
  try clear c28
  try clear c28b0
  try clear c28b1
  try clear c29
  try clear c31
  try clear hcz14_0
  try clear hcz14_1
  try clear hcz14_2
  try clear hcz14_3
  try clear hcz16_0
  try clear hcz16_1
  try clear hcz16_2
  try clear hcz16_3
  try clear hcz19_0
  try clear hcz19_1
  try clear hcz19_2
  try clear hcz19_3
  try clear hcz21_0
  try clear hcz21_1
  try clear hcz21_2
  try clear hcz21_3
  try clear hcz25_0
  try clear hcz25_1
  try clear hcz25_2
  try clear hcz25_3
  try clear hcz27_0
  try clear hcz27_1
  try clear hcz27_2
  try clear hcz27_3
  try clear hcz30_0
  try clear hcz30_1
  try clear hcz30_2
  try clear hcz30_3
  try clear hcz32_0
  try clear hcz32_1
  try clear hcz32_2
  try clear hcz32_3
  try clear hcz5_0
  try clear hcz5_1
  try clear hcz5_2
  try clear hcz5_3
  try clear hcz5_4
  try clear hcz9_0
  try clear hcz9_1
  try clear hcz9_2
  try clear hcz9_3
  try clear hfz14_0
  try clear hfz14_1
  try clear hfz14_2
  try clear hfz14_3
  try clear hfz16_0
  try clear hfz16_1
  try clear hfz16_2
  try clear hfz16_3
  try clear hfz19_0
  try clear hfz19_1
  try clear hfz19_2
  try clear hfz19_3
  try clear hfz21_0
  try clear hfz21_1
  try clear hfz21_2
  try clear hfz21_3
  try clear hfz25_0
  try clear hfz25_1
  try clear hfz25_2
  try clear hfz25_3
  try clear hfz27_0
  try clear hfz27_1
  try clear hfz27_2
  try clear hfz27_3
  try clear hfz30_0
  try clear hfz30_1
  try clear hfz30_2
  try clear hfz30_3
  try clear hfz32_0
  try clear hfz32_1
  try clear hfz32_2
  try clear hfz32_3
  try clear hfz5_0
  try clear hfz5_1
  try clear hfz5_2
  try clear hfz5_3
  try clear hfz5_4
  try clear hfz9_0
  try clear hfz9_1
  try clear hfz9_2
  try clear hfz9_3
  obtain ⟨kq, x5_2, x6_2, x7_2, rfl, rfl, rfl, HA, HJ2, BK105, BK110, HB⟩ := hcut
  cases kq with
  | zero => exact absurd HA.out (by simp [hauberkref02_Encode.j0])
  | succ kj2 =>
   have H := HA.out
   clear HA
   simp only [hauberkref02_Encode.j0] at H
   replace H := Option.bind_eq_some_iff.mp H
   obtain ⟨⟨t111, t112⟩, A330, H⟩ := H
   replace H : (if t106 = 0 then (some (0, 2)) else (if t106 = 78 then (hauberkref02_Encode.j1 kj2 false false x7_2 t111 t112 a0_0 a0_1 a0_2 a0_3 a0_4 t106 t107 t108 t109) else (hauberkref02_Encode.j1 kj2 x5_2 x6_2 x7_2 t111 t112 a0_0 a0_1 a0_2 a0_3 a0_4 t106 t107 t108 t109))) = some (r1, r2) := H
   have A33 := Aside0.mk A330
   clear A330
   by_cases c34 : t106 = 0
   ·as_aux_lemma =>
     rw [if_pos c34] at H
     have c34b0 : (t106 == 0) = true := beq_iff_eq.mpr c34
     have c34b1 : (t106 != 0) = false := bne_eq_false_iff_eq.mpr c34
     clear c34
     simp only [Option.some.injEq, Prod.mk.injEq] at H
     obtain ⟨rfl, rfl⟩ := H
     have hnb35 := NB110_105.out
     have hnc35 := NB105_110.out
     have hcz36_0 : wc.cell? ⟨gb110, 0, none⟩ = some (.int .u8 t106) := (blk_cell BK110.out 0).trans rfl
     have hcz36_1 : wc.cell? ⟨gb110, 1, none⟩ = some (.int .i64 t107) := (blk_cell BK110.out 1).trans rfl
     have hcz36_2 : wc.cell? ⟨gb110, 2, none⟩ = some (.int .i64 t108) := (blk_cell BK110.out 2).trans rfl
     have hcz36_3 : wc.cell? ⟨gb110, 3, none⟩ = some (.int .i64 t109) := (blk_cell BK110.out 3).trans rfl
     have hfz36_0 := blk_frozen BK110.out 0
     have hfz36_1 := blk_frozen BK110.out 1
     have hfz36_2 := blk_frozen BK110.out 2
     have hfz36_3 := blk_frozen BK110.out 3
     go_wp2_with (first | (go_at_call 19; (with_reducible refine (hauberkref02_Room.calls kj2 t106 t111 t112 _ A33.out).mono ?_); rintro e w' ⟨rfl, ⟨nd, rfl⟩⟩; (try first | exact ⟨rfl, _, World.drewN_drewN _ _ _⟩ | exact ⟨rfl, _, Eq.trans (World.drewN_drewN _ _ _) (congrArg (World.drewN _) (Nat.add_assoc _ _ _))⟩)))
     repeat (go_quiet (first | (go_at_call 19; (with_reducible refine (hauberkref02_Room.calls kj2 t106 t111 t112 _ A33.out).mono ?_); rintro e w' ⟨rfl, ⟨nd, rfl⟩⟩; (try first | exact ⟨rfl, _, World.drewN_drewN _ _ _⟩ | exact ⟨rfl, _, Eq.trans (World.drewN_drewN _ _ _) (congrArg (World.drewN _) (Nat.add_assoc _ _ _))⟩))); try go_wp2_with (first | (go_at_call 19; (with_reducible refine (hauberkref02_Room.calls kj2 t106 t111 t112 _ A33.out).mono ?_); rintro e w' ⟨rfl, ⟨nd, rfl⟩⟩; (try first | exact ⟨rfl, _, World.drewN_drewN _ _ _⟩ | exact ⟨rfl, _, Eq.trans (World.drewN_drewN _ _ _) (congrArg (World.drewN _) (Nat.add_assoc _ _ _))⟩))))
     go_ret2
     exact ⟨by first | rfl | (simp [errW_none, errW_some] <;> rfl) | (simp [*, errW_none, errW_some] <;> rfl), by repeat (first | (with_reducible first | exact HB.out | apply below_alloc | apply pw_below_drewN | apply below_drew1 | refine below_set ?_ GE105.out | refine below_set ?_ GE110.out) | exact HB.out)⟩
   ·rw [if_neg c34] at H
    have c34b0 : (t106 == 0) = false := beq_eq_false_iff_ne.mpr c34
    have c34b1 : (t106 != 0) = true := bne_iff_ne.mpr c34
    have HC37 := Aside0.mk H
    clear H
    have hnb38 := NB110_105.out
    have hnc38 := NB105_110.out
    have hcz39_0 : wc.cell? ⟨gb110, 0, none⟩ = some (.int .u8 t106) := (blk_cell BK110.out 0).trans rfl
    have hcz39_1 : wc.cell? ⟨gb110, 1, none⟩ = some (.int .i64 t107) := (blk_cell BK110.out 1).trans rfl
    have hcz39_2 : wc.cell? ⟨gb110, 2, none⟩ = some (.int .i64 t108) := (blk_cell BK110.out 2).trans rfl
    have hcz39_3 : wc.cell? ⟨gb110, 3, none⟩ = some (.int .i64 t109) := (blk_cell BK110.out 3).trans rfl
    have hfz39_0 := blk_frozen BK110.out 0
    have hfz39_1 := blk_frozen BK110.out 1
    have hfz39_2 := blk_frozen BK110.out 2
    have hfz39_3 := blk_frozen BK110.out 3
    go_upto_if 57 with (first | (go_at_call 19; (with_reducible refine (hauberkref02_Room.calls kj2 t106 t111 t112 _ A33.out).mono ?_); rintro e w' ⟨rfl, ⟨nd, rfl⟩⟩; (try first | exact ⟨rfl, _, World.drewN_drewN _ _ _⟩ | exact ⟨rfl, _, Eq.trans (World.drewN_drewN _ _ _) (congrArg (World.drewN _) (Nat.add_assoc _ _ _))⟩)))
    repeat (go_quiet (first | (go_at_call 19; (with_reducible refine (hauberkref02_Room.calls kj2 t106 t111 t112 _ A33.out).mono ?_); rintro e w' ⟨rfl, ⟨nd, rfl⟩⟩; (try first | exact ⟨rfl, _, World.drewN_drewN _ _ _⟩ | exact ⟨rfl, _, Eq.trans (World.drewN_drewN _ _ _) (congrArg (World.drewN _) (Nat.add_assoc _ _ _))⟩))); go_upto_if 57 with (first | (go_at_call 19; (with_reducible refine (hauberkref02_Room.calls kj2 t106 t111 t112 _ A33.out).mono ?_); rintro e w' ⟨rfl, ⟨nd, rfl⟩⟩; (try first | exact ⟨rfl, _, World.drewN_drewN _ _ _⟩ | exact ⟨rfl, _, Eq.trans (World.drewN_drewN _ _ _) (congrArg (World.drewN _) (Nat.add_assoc _ _ _))⟩))))
    (try simp only [Act.put, List.setIfInBounds_toArray, List.set_cons_zero, List.set_cons_succ])
    go_cut [5, 6] (fun v5 v6 wc => ∃ (kq : Nat) (x5_36 : Bool) (x6_36 : Bool), v5 = .bool x5_36 ∧ v6 = .bool x6_36 ∧ Aside0 (hauberkref02_Encode.j1 kq x5_36 x6_36 x7_2 t111 t112 a0_0 a0_1 a0_2 a0_3 a0_4 t106 t107 t108 t109 = some (r1, r2)) ∧ Aside0 (kq ≤ kj2) ∧ Aside0 (wc.heap[gb105]? = some (.cells #[.int .i64 a0_0, .int .i64 a0_1, .int .i64 a0_2, .int .i64 a0_3, .int .i64 a0_4] 29 (0, 0))) ∧ Aside0 (wc.heap[gb110]? = some (.cells #[.int .u8 t106, .int .i64 t107, .int .i64 t108, .int .i64 t109] 62 (0, 0))) ∧ Aside0 (Below w.heap.size w wc))
    case first =>
     have H := HC37.out
     clear HC37
     by_cases c40 : t106 = 78
     ·as_aux_lemma =>
       rw [if_pos c40] at H
       have c40b0 : (t106 == 78) = true := beq_iff_eq.mpr c40
       have c40b1 : (t106 != 78) = false := bne_eq_false_iff_eq.mpr c40
       clear c40
       (first | rw [c40b0] | (simp only [i64_w, i32_w]; rw [c40b0]) | skip)
       have H' := Aside0.mk H
       clear H
       go_wp2
       repeat (go_quiet (fail); try go_wp2)
       go_meet
       case rel => exact ⟨_, (false), (false), (by first | rfl | (simp; done) | (simp [*]; done)), (by first | rfl | (simp; done) | (simp [*]; done)), H', ⟨by have := HJ2.out; first | omega | exact Nat.le_refl _⟩, ⟨by (with_reducible repeat (first | refine blk_drewN ?_ _ | refine blk_drew ?_ | refine blk_alloc ?_ _)); exact BK105.out⟩, ⟨by (with_reducible repeat (first | refine blk_drewN ?_ _ | refine blk_drew ?_ | refine blk_alloc ?_ _)); exact BK110.out⟩, ⟨by repeat (first | (with_reducible first | exact HB.out | apply below_alloc | apply pw_below_drewN | apply below_drew1 | refine below_set ?_ GE105.out | refine below_set ?_ GE110.out) | exact HB.out)⟩⟩
     ·as_aux_lemma =>
       rw [if_neg c40] at H
       have c40b0 : (t106 == 78) = false := beq_eq_false_iff_ne.mpr c40
       have c40b1 : (t106 != 78) = true := bne_iff_ne.mpr c40
       (first | rw [c40b0] | (simp only [i64_w, i32_w]; rw [c40b0]) | skip)
       have H' := Aside0.mk H
       clear H
       go_wp2
       repeat (go_quiet (fail); try go_wp2)
       go_meet
       case rel => exact ⟨_, (x5_2), (x6_2), (by first | rfl | (simp; done) | (simp [*]; done)), (by first | rfl | (simp; done) | (simp [*]; done)), H', ⟨by have := HJ2.out; first | omega | exact Nat.le_refl _⟩, ⟨by (with_reducible repeat (first | refine blk_drewN ?_ _ | refine blk_drew ?_ | refine blk_alloc ?_ _)); exact BK105.out⟩, ⟨by (with_reducible repeat (first | refine blk_drewN ?_ _ | refine blk_drew ?_ | refine blk_alloc ?_ _)); exact BK110.out⟩, ⟨by repeat (first | (with_reducible first | exact HB.out | apply below_alloc | apply pw_below_drewN | apply below_drew1 | refine below_set ?_ GE105.out | refine below_set ?_ GE110.out) | exact HB.out)⟩⟩
    case rest =>
     clear HC37
     try clear c1
     try clear c2
     try clear p2
     try clear c3
     try clear c4
     try clear c8
     try clear c10
     try clear c10b0
     try clear c10b1
     try clear c11
     try clear c11b0
     try clear c11b1
     try clear c12
     try clear c12b0
     try clear c12b1
     try clear c13
     try clear c15
     try clear c17
     try clear c17b0
     try clear c17b1
     try clear c18
     try clear c20
     try clear c22
     try clear c22b0
     try clear c22b1
     try clear c23
     try clear c23b0
     try clear c23b1
     try clear c24
     try clear c26
     try clear c28
     try clear c28b0
     try clear c28b1
     try clear c29
     try clear c31
     try clear c34
     try clear c34b0
     try clear c34b1
     try clear c35
     try clear c38
     try clear c40
     try clear c40b0
     try clear c40b1
     try clear hcz14_0
     try clear hcz14_1
     try clear hcz14_2
     try clear hcz14_3
     try clear hcz16_0
     try clear hcz16_1
     try clear hcz16_2
     try clear hcz16_3
     try clear hcz19_0
     try clear hcz19_1
     try clear hcz19_2
     try clear hcz19_3
     try clear hcz21_0
     try clear hcz21_1
     try clear hcz21_2
     try clear hcz21_3
     try clear hcz25_0
     try clear hcz25_1
     try clear hcz25_2
     try clear hcz25_3
     try clear hcz27_0
     try clear hcz27_1
     try clear hcz27_2
     try clear hcz27_3
     try clear hcz30_0
     try clear hcz30_1
     try clear hcz30_2
     try clear hcz30_3
     try clear hcz32_0
     try clear hcz32_1
     try clear hcz32_2
     try clear hcz32_3
     try clear hcz36_0
     try clear hcz36_1
     try clear hcz36_2
     try clear hcz36_3
     try clear hcz39_0
     try clear hcz39_1
     try clear hcz39_2
     try clear hcz39_3
     try clear hcz5_0
     try clear hcz5_1
     try clear hcz5_2
     try clear hcz5_3
     try clear hcz5_4
     try clear hcz9_0
     try clear hcz9_1
     try clear hcz9_2
     try clear hcz9_3
     try clear hfz14_0
     try clear hfz14_1
     try clear hfz14_2
     try clear hfz14_3
     try clear hfz16_0
     try clear hfz16_1
     try clear hfz16_2
     try clear hfz16_3
     try clear hfz19_0
     try clear hfz19_1
     try clear hfz19_2
     try clear hfz19_3
     try clear hfz21_0
     try clear hfz21_1
     try clear hfz21_2
     try clear hfz21_3
     try clear hfz25_0
     try clear hfz25_1
     try clear hfz25_2
     try clear hfz25_3
     try clear hfz27_0
     try clear hfz27_1
     try clear hfz27_2
     try clear hfz27_3
     try clear hfz30_0
     try clear hfz30_1
     try clear hfz30_2
     try clear hfz30_3
     try clear hfz32_0
     try clear hfz32_1
     try clear hfz32_2
     try clear hfz32_3
     try clear hfz36_0
     try clear hfz36_1
     try clear hfz36_2
     try clear hfz36_3
     try clear hfz39_0
     try clear hfz39_1
     try clear hfz39_2
     try clear hfz39_3
     try clear hfz5_0
     try clear hfz5_1
     try clear hfz5_2
     try clear hfz5_3
     try clear hfz5_4
     try clear hfz9_0
     try clear hfz9_1
     try clear hfz9_2
     try clear hfz9_3
     try clear p2
     obtain ⟨kq, x5_36, x6_36, rfl, rfl, HA, HJ36, BK105, BK110, HB⟩ := hcut
     cases kq with
     | zero => exact absurd HA.out (by simp [hauberkref02_Encode.j1])
     | succ kj36 =>
      have H := HA.out
      clear HA
      simp only [hauberkref02_Encode.j1] at H
      have HC41 := Aside0.mk H
      clear H
      go_upto_region 9 with (fail)
      repeat (go_quiet (fail); go_upto_region 9 with (fail))
      go_cut [92] (fun v92 wc => ∃ (kq : Nat) (x92_40 : Bool), v92 = .bool x92_40 ∧ Aside0 (hauberkref02_Encode.j2 kq t111 t112 x92_40 a0_0 a0_1 a0_2 a0_3 a0_4 t106 t107 t108 t109 = some (r1, r2)) ∧ Aside0 (kq ≤ kj36) ∧ Aside0 (wc.heap[gb105]? = some (.cells #[.int .i64 a0_0, .int .i64 a0_1, .int .i64 a0_2, .int .i64 a0_3, .int .i64 a0_4] 29 (0, 0))) ∧ Aside0 (wc.heap[gb110]? = some (.cells #[.int .u8 t106, .int .i64 t107, .int .i64 t108, .int .i64 t109] 62 (0, 0))) ∧ Aside0 (Below w.heap.size w wc))
      case first =>
       have H := HC41.out
       clear HC41
       by_cases c42 : x5_36 = true
       ·subst c42
        have H1 : (if x6_36 = true then (if x7_2 = true then (if t111 > t112 then (hauberkref02_Encode.j2 kj36 t111 t112 (a0_4 != 0) a0_0 a0_1 a0_2 a0_3 a0_4 t106 t107 t108 t109) else (hauberkref02_Encode.j2 kj36 t111 t112 false a0_0 a0_1 a0_2 a0_3 a0_4 t106 t107 t108 t109)) else (if a0_3 = 0 then (if t111 > t112 then (hauberkref02_Encode.j2 kj36 t111 t112 (a0_4 != 0) a0_0 a0_1 a0_2 a0_3 a0_4 t106 t107 t108 t109) else (hauberkref02_Encode.j2 kj36 t111 t112 false a0_0 a0_1 a0_2 a0_3 a0_4 t106 t107 t108 t109)) else (hauberkref02_Encode.j2 kj36 t111 t112 true a0_0 a0_1 a0_2 a0_3 a0_4 t106 t107 t108 t109))) else (if a0_2 = 0 then (if x7_2 = true then (if t111 > t112 then (hauberkref02_Encode.j2 kj36 t111 t112 (a0_4 != 0) a0_0 a0_1 a0_2 a0_3 a0_4 t106 t107 t108 t109) else (hauberkref02_Encode.j2 kj36 t111 t112 false a0_0 a0_1 a0_2 a0_3 a0_4 t106 t107 t108 t109)) else (if a0_3 = 0 then (if t111 > t112 then (hauberkref02_Encode.j2 kj36 t111 t112 (a0_4 != 0) a0_0 a0_1 a0_2 a0_3 a0_4 t106 t107 t108 t109) else (hauberkref02_Encode.j2 kj36 t111 t112 false a0_0 a0_1 a0_2 a0_3 a0_4 t106 t107 t108 t109)) else (hauberkref02_Encode.j2 kj36 t111 t112 true a0_0 a0_1 a0_2 a0_3 a0_4 t106 t107 t108 t109))) else (hauberkref02_Encode.j2 kj36 t111 t112 true a0_0 a0_1 a0_2 a0_3 a0_4 t106 t107 t108 t109))) = some (r1, r2) := by rw [if_pos rfl] at H; exact H
        clear H
        have H := H1
        clear H1
        by_cases c43 : x6_36 = true
        ·subst c43
         have H1 : (if x7_2 = true then (if t111 > t112 then (hauberkref02_Encode.j2 kj36 t111 t112 (a0_4 != 0) a0_0 a0_1 a0_2 a0_3 a0_4 t106 t107 t108 t109) else (hauberkref02_Encode.j2 kj36 t111 t112 false a0_0 a0_1 a0_2 a0_3 a0_4 t106 t107 t108 t109)) else (if a0_3 = 0 then (if t111 > t112 then (hauberkref02_Encode.j2 kj36 t111 t112 (a0_4 != 0) a0_0 a0_1 a0_2 a0_3 a0_4 t106 t107 t108 t109) else (hauberkref02_Encode.j2 kj36 t111 t112 false a0_0 a0_1 a0_2 a0_3 a0_4 t106 t107 t108 t109)) else (hauberkref02_Encode.j2 kj36 t111 t112 true a0_0 a0_1 a0_2 a0_3 a0_4 t106 t107 t108 t109))) = some (r1, r2) := by rw [if_pos rfl] at H; exact H
         clear H
         have H := H1
         clear H1
         by_cases c44 : x7_2 = true
         ·subst c44
          have H1 : (if t111 > t112 then (hauberkref02_Encode.j2 kj36 t111 t112 (a0_4 != 0) a0_0 a0_1 a0_2 a0_3 a0_4 t106 t107 t108 t109) else (hauberkref02_Encode.j2 kj36 t111 t112 false a0_0 a0_1 a0_2 a0_3 a0_4 t106 t107 t108 t109)) = some (r1, r2) := by rw [if_pos rfl] at H; exact H
          clear H
          have H := H1
          clear H1
          by_cases c45 : t111 > t112
          ·as_aux_lemma =>
            rw [if_pos c45] at H
            have c45b0 : decide (t112 < t111) = true := decide_eq_true c45
            clear c45
            (first | rw [c45b0] | (simp only [i64_w, i32_w]; rw [c45b0]) | skip)
            have H' := Aside0.mk H
            clear H
            have hnb46 := NB105_110.out
            have hnc46 := NB110_105.out
            have hcz47_0 : wc.cell? ⟨gb105, 0, none⟩ = some (.int .i64 a0_0) := (blk_cell BK105.out 0).trans rfl
            have hcz47_1 : wc.cell? ⟨gb105, 1, none⟩ = some (.int .i64 a0_1) := (blk_cell BK105.out 1).trans rfl
            have hcz47_2 : wc.cell? ⟨gb105, 2, none⟩ = some (.int .i64 a0_2) := (blk_cell BK105.out 2).trans rfl
            have hcz47_3 : wc.cell? ⟨gb105, 3, none⟩ = some (.int .i64 a0_3) := (blk_cell BK105.out 3).trans rfl
            have hcz47_4 : wc.cell? ⟨gb105, 4, none⟩ = some (.int .i64 a0_4) := (blk_cell BK105.out 4).trans rfl
            have hfz47_0 := blk_frozen BK105.out 0
            have hfz47_1 := blk_frozen BK105.out 1
            have hfz47_2 := blk_frozen BK105.out 2
            have hfz47_3 := blk_frozen BK105.out 3
            have hfz47_4 := blk_frozen BK105.out 4
            go_wp2
            repeat (go_quiet (fail); try go_wp2)
            go_meet
            case rel => exact ⟨_, ((a0_4 != 0)), (by first | rfl | (simp; done) | (simp [*]; done)), H', ⟨by have := HJ2.out; have := HJ36.out; first | omega | exact Nat.le_refl _⟩, ⟨by (with_reducible repeat (first | refine blk_drewN ?_ _ | refine blk_drew ?_ | refine blk_alloc ?_ _)); exact BK105.out⟩, ⟨by (with_reducible repeat (first | refine blk_drewN ?_ _ | refine blk_drew ?_ | refine blk_alloc ?_ _)); exact BK110.out⟩, ⟨by repeat (first | (with_reducible first | exact HB.out | apply below_alloc | apply pw_below_drewN | apply below_drew1 | refine below_set ?_ GE105.out | refine below_set ?_ GE110.out) | exact HB.out)⟩⟩
          ·as_aux_lemma =>
            rw [if_neg c45] at H
            have c45b0 : decide (t112 < t111) = false := decide_eq_false c45
            clear c45
            (first | rw [c45b0] | (simp only [i64_w, i32_w]; rw [c45b0]) | skip)
            have H' := Aside0.mk H
            clear H
            go_wp2
            repeat (go_quiet (fail); try go_wp2)
            go_meet
            case rel => exact ⟨_, (false), (by first | rfl | (simp; done) | (simp [*]; done)), H', ⟨by have := HJ2.out; have := HJ36.out; first | omega | exact Nat.le_refl _⟩, ⟨by (with_reducible repeat (first | refine blk_drewN ?_ _ | refine blk_drew ?_ | refine blk_alloc ?_ _)); exact BK105.out⟩, ⟨by (with_reducible repeat (first | refine blk_drewN ?_ _ | refine blk_drew ?_ | refine blk_alloc ?_ _)); exact BK110.out⟩, ⟨by repeat (first | (with_reducible first | exact HB.out | apply below_alloc | apply pw_below_drewN | apply below_drew1 | refine below_set ?_ GE105.out | refine below_set ?_ GE110.out) | exact HB.out)⟩⟩
         ·replace c44 := Bool.eq_false_iff.mpr c44
          subst c44
          have H1 : (if a0_3 = 0 then (if t111 > t112 then (hauberkref02_Encode.j2 kj36 t111 t112 (a0_4 != 0) a0_0 a0_1 a0_2 a0_3 a0_4 t106 t107 t108 t109) else (hauberkref02_Encode.j2 kj36 t111 t112 false a0_0 a0_1 a0_2 a0_3 a0_4 t106 t107 t108 t109)) else (hauberkref02_Encode.j2 kj36 t111 t112 true a0_0 a0_1 a0_2 a0_3 a0_4 t106 t107 t108 t109)) = some (r1, r2) := by rw [if_neg (show ¬ (false = true) by decide)] at H; exact H
          clear H
          have H := H1
          clear H1
          by_cases c48 : a0_3 = 0
          ·rw [if_pos c48] at H
           have c48b0 : (a0_3 == 0) = true := beq_iff_eq.mpr c48
           have c48b1 : (a0_3 != 0) = false := bne_eq_false_iff_eq.mpr c48
           clear c48
           by_cases c49 : t111 > t112
           ·as_aux_lemma =>
             rw [if_pos c49] at H
             have c49b0 : decide (t112 < t111) = true := decide_eq_true c49
             clear c49
             have H' := Aside0.mk H
             clear H
             have hnb50 := NB105_110.out
             have hnc50 := NB110_105.out
             have hcz51_0 : wc.cell? ⟨gb105, 0, none⟩ = some (.int .i64 a0_0) := (blk_cell BK105.out 0).trans rfl
             have hcz51_1 : wc.cell? ⟨gb105, 1, none⟩ = some (.int .i64 a0_1) := (blk_cell BK105.out 1).trans rfl
             have hcz51_2 : wc.cell? ⟨gb105, 2, none⟩ = some (.int .i64 a0_2) := (blk_cell BK105.out 2).trans rfl
             have hcz51_3 : wc.cell? ⟨gb105, 3, none⟩ = some (.int .i64 a0_3) := (blk_cell BK105.out 3).trans rfl
             have hcz51_4 : wc.cell? ⟨gb105, 4, none⟩ = some (.int .i64 a0_4) := (blk_cell BK105.out 4).trans rfl
             have hfz51_0 := blk_frozen BK105.out 0
             have hfz51_1 := blk_frozen BK105.out 1
             have hfz51_2 := blk_frozen BK105.out 2
             have hfz51_3 := blk_frozen BK105.out 3
             have hfz51_4 := blk_frozen BK105.out 4
             go_wp2
             repeat (go_quiet (fail); try go_wp2)
             go_meet
             case rel => exact ⟨_, ((a0_4 != 0)), (by first | rfl | (simp; done) | (simp [*]; done)), H', ⟨by have := HJ2.out; have := HJ36.out; first | omega | exact Nat.le_refl _⟩, ⟨by (with_reducible repeat (first | refine blk_drewN ?_ _ | refine blk_drew ?_ | refine blk_alloc ?_ _)); exact BK105.out⟩, ⟨by (with_reducible repeat (first | refine blk_drewN ?_ _ | refine blk_drew ?_ | refine blk_alloc ?_ _)); exact BK110.out⟩, ⟨by repeat (first | (with_reducible first | exact HB.out | apply below_alloc | apply pw_below_drewN | apply below_drew1 | refine below_set ?_ GE105.out | refine below_set ?_ GE110.out) | exact HB.out)⟩⟩
           ·as_aux_lemma =>
             rw [if_neg c49] at H
             have c49b0 : decide (t112 < t111) = false := decide_eq_false c49
             clear c49
             have H' := Aside0.mk H
             clear H
             have hnb52 := NB105_110.out
             have hnc52 := NB110_105.out
             have hcz53_0 : wc.cell? ⟨gb105, 0, none⟩ = some (.int .i64 a0_0) := (blk_cell BK105.out 0).trans rfl
             have hcz53_1 : wc.cell? ⟨gb105, 1, none⟩ = some (.int .i64 a0_1) := (blk_cell BK105.out 1).trans rfl
             have hcz53_2 : wc.cell? ⟨gb105, 2, none⟩ = some (.int .i64 a0_2) := (blk_cell BK105.out 2).trans rfl
             have hcz53_3 : wc.cell? ⟨gb105, 3, none⟩ = some (.int .i64 a0_3) := (blk_cell BK105.out 3).trans rfl
             have hcz53_4 : wc.cell? ⟨gb105, 4, none⟩ = some (.int .i64 a0_4) := (blk_cell BK105.out 4).trans rfl
             have hfz53_0 := blk_frozen BK105.out 0
             have hfz53_1 := blk_frozen BK105.out 1
             have hfz53_2 := blk_frozen BK105.out 2
             have hfz53_3 := blk_frozen BK105.out 3
             have hfz53_4 := blk_frozen BK105.out 4
             go_wp2
             repeat (go_quiet (fail); try go_wp2)
             go_meet
             case rel => exact ⟨_, (false), (by first | rfl | (simp; done) | (simp [*]; done)), H', ⟨by have := HJ2.out; have := HJ36.out; first | omega | exact Nat.le_refl _⟩, ⟨by (with_reducible repeat (first | refine blk_drewN ?_ _ | refine blk_drew ?_ | refine blk_alloc ?_ _)); exact BK105.out⟩, ⟨by (with_reducible repeat (first | refine blk_drewN ?_ _ | refine blk_drew ?_ | refine blk_alloc ?_ _)); exact BK110.out⟩, ⟨by repeat (first | (with_reducible first | exact HB.out | apply below_alloc | apply pw_below_drewN | apply below_drew1 | refine below_set ?_ GE105.out | refine below_set ?_ GE110.out) | exact HB.out)⟩⟩
          ·as_aux_lemma =>
            rw [if_neg c48] at H
            have c48b0 : (a0_3 == 0) = false := beq_eq_false_iff_ne.mpr c48
            have c48b1 : (a0_3 != 0) = true := bne_iff_ne.mpr c48
            have H' := Aside0.mk H
            clear H
            have hnb54 := NB105_110.out
            have hnc54 := NB110_105.out
            have hcz55_0 : wc.cell? ⟨gb105, 0, none⟩ = some (.int .i64 a0_0) := (blk_cell BK105.out 0).trans rfl
            have hcz55_1 : wc.cell? ⟨gb105, 1, none⟩ = some (.int .i64 a0_1) := (blk_cell BK105.out 1).trans rfl
            have hcz55_2 : wc.cell? ⟨gb105, 2, none⟩ = some (.int .i64 a0_2) := (blk_cell BK105.out 2).trans rfl
            have hcz55_3 : wc.cell? ⟨gb105, 3, none⟩ = some (.int .i64 a0_3) := (blk_cell BK105.out 3).trans rfl
            have hcz55_4 : wc.cell? ⟨gb105, 4, none⟩ = some (.int .i64 a0_4) := (blk_cell BK105.out 4).trans rfl
            have hfz55_0 := blk_frozen BK105.out 0
            have hfz55_1 := blk_frozen BK105.out 1
            have hfz55_2 := blk_frozen BK105.out 2
            have hfz55_3 := blk_frozen BK105.out 3
            have hfz55_4 := blk_frozen BK105.out 4
            go_wp2
            repeat (go_quiet (fail); try go_wp2)
            go_meet
            case rel => exact ⟨_, (true), (by first | rfl | (simp; done) | (simp [*]; done)), H', ⟨by have := HJ2.out; have := HJ36.out; first | omega | exact Nat.le_refl _⟩, ⟨by (with_reducible repeat (first | refine blk_drewN ?_ _ | refine blk_drew ?_ | refine blk_alloc ?_ _)); exact BK105.out⟩, ⟨by (with_reducible repeat (first | refine blk_drewN ?_ _ | refine blk_drew ?_ | refine blk_alloc ?_ _)); exact BK110.out⟩, ⟨by repeat (first | (with_reducible first | exact HB.out | apply below_alloc | apply pw_below_drewN | apply below_drew1 | refine below_set ?_ GE105.out | refine below_set ?_ GE110.out) | exact HB.out)⟩⟩
        ·replace c43 := Bool.eq_false_iff.mpr c43
         subst c43
         have H1 : (if a0_2 = 0 then (if x7_2 = true then (if t111 > t112 then (hauberkref02_Encode.j2 kj36 t111 t112 (a0_4 != 0) a0_0 a0_1 a0_2 a0_3 a0_4 t106 t107 t108 t109) else (hauberkref02_Encode.j2 kj36 t111 t112 false a0_0 a0_1 a0_2 a0_3 a0_4 t106 t107 t108 t109)) else (if a0_3 = 0 then (if t111 > t112 then (hauberkref02_Encode.j2 kj36 t111 t112 (a0_4 != 0) a0_0 a0_1 a0_2 a0_3 a0_4 t106 t107 t108 t109) else (hauberkref02_Encode.j2 kj36 t111 t112 false a0_0 a0_1 a0_2 a0_3 a0_4 t106 t107 t108 t109)) else (hauberkref02_Encode.j2 kj36 t111 t112 true a0_0 a0_1 a0_2 a0_3 a0_4 t106 t107 t108 t109))) else (hauberkref02_Encode.j2 kj36 t111 t112 true a0_0 a0_1 a0_2 a0_3 a0_4 t106 t107 t108 t109)) = some (r1, r2) := by rw [if_neg (show ¬ (false = true) by decide)] at H; exact H
         clear H
         have H := H1
         clear H1
         by_cases c56 : a0_2 = 0
         ·rw [if_pos c56] at H
          have c56b0 : (a0_2 == 0) = true := beq_iff_eq.mpr c56
          have c56b1 : (a0_2 != 0) = false := bne_eq_false_iff_eq.mpr c56
          clear c56
          by_cases c57 : x7_2 = true
          ·subst c57
           have H1 : (if t111 > t112 then (hauberkref02_Encode.j2 kj36 t111 t112 (a0_4 != 0) a0_0 a0_1 a0_2 a0_3 a0_4 t106 t107 t108 t109) else (hauberkref02_Encode.j2 kj36 t111 t112 false a0_0 a0_1 a0_2 a0_3 a0_4 t106 t107 t108 t109)) = some (r1, r2) := by rw [if_pos rfl] at H; exact H
           clear H
           have H := H1
           clear H1
           by_cases c58 : t111 > t112
           ·as_aux_lemma =>
             rw [if_pos c58] at H
             have c58b0 : decide (t112 < t111) = true := decide_eq_true c58
             clear c58
             have H' := Aside0.mk H
             clear H
             have hnb59 := NB105_110.out
             have hnc59 := NB110_105.out
             have hcz60_0 : wc.cell? ⟨gb105, 0, none⟩ = some (.int .i64 a0_0) := (blk_cell BK105.out 0).trans rfl
             have hcz60_1 : wc.cell? ⟨gb105, 1, none⟩ = some (.int .i64 a0_1) := (blk_cell BK105.out 1).trans rfl
             have hcz60_2 : wc.cell? ⟨gb105, 2, none⟩ = some (.int .i64 a0_2) := (blk_cell BK105.out 2).trans rfl
             have hcz60_3 : wc.cell? ⟨gb105, 3, none⟩ = some (.int .i64 a0_3) := (blk_cell BK105.out 3).trans rfl
             have hcz60_4 : wc.cell? ⟨gb105, 4, none⟩ = some (.int .i64 a0_4) := (blk_cell BK105.out 4).trans rfl
             have hfz60_0 := blk_frozen BK105.out 0
             have hfz60_1 := blk_frozen BK105.out 1
             have hfz60_2 := blk_frozen BK105.out 2
             have hfz60_3 := blk_frozen BK105.out 3
             have hfz60_4 := blk_frozen BK105.out 4
             go_wp2
             repeat (go_quiet (fail); try go_wp2)
             go_meet
             case rel => exact ⟨_, ((a0_4 != 0)), (by first | rfl | (simp; done) | (simp [*]; done)), H', ⟨by have := HJ2.out; have := HJ36.out; first | omega | exact Nat.le_refl _⟩, ⟨by (with_reducible repeat (first | refine blk_drewN ?_ _ | refine blk_drew ?_ | refine blk_alloc ?_ _)); exact BK105.out⟩, ⟨by (with_reducible repeat (first | refine blk_drewN ?_ _ | refine blk_drew ?_ | refine blk_alloc ?_ _)); exact BK110.out⟩, ⟨by repeat (first | (with_reducible first | exact HB.out | apply below_alloc | apply pw_below_drewN | apply below_drew1 | refine below_set ?_ GE105.out | refine below_set ?_ GE110.out) | exact HB.out)⟩⟩
           ·as_aux_lemma =>
             rw [if_neg c58] at H
             have c58b0 : decide (t112 < t111) = false := decide_eq_false c58
             clear c58
             have H' := Aside0.mk H
             clear H
             have hnb61 := NB105_110.out
             have hnc61 := NB110_105.out
             have hcz62_0 : wc.cell? ⟨gb105, 0, none⟩ = some (.int .i64 a0_0) := (blk_cell BK105.out 0).trans rfl
             have hcz62_1 : wc.cell? ⟨gb105, 1, none⟩ = some (.int .i64 a0_1) := (blk_cell BK105.out 1).trans rfl
             have hcz62_2 : wc.cell? ⟨gb105, 2, none⟩ = some (.int .i64 a0_2) := (blk_cell BK105.out 2).trans rfl
             have hcz62_3 : wc.cell? ⟨gb105, 3, none⟩ = some (.int .i64 a0_3) := (blk_cell BK105.out 3).trans rfl
             have hcz62_4 : wc.cell? ⟨gb105, 4, none⟩ = some (.int .i64 a0_4) := (blk_cell BK105.out 4).trans rfl
             have hfz62_0 := blk_frozen BK105.out 0
             have hfz62_1 := blk_frozen BK105.out 1
             have hfz62_2 := blk_frozen BK105.out 2
             have hfz62_3 := blk_frozen BK105.out 3
             have hfz62_4 := blk_frozen BK105.out 4
             go_wp2
             repeat (go_quiet (fail); try go_wp2)
             go_meet
             case rel => exact ⟨_, (false), (by first | rfl | (simp; done) | (simp [*]; done)), H', ⟨by have := HJ2.out; have := HJ36.out; first | omega | exact Nat.le_refl _⟩, ⟨by (with_reducible repeat (first | refine blk_drewN ?_ _ | refine blk_drew ?_ | refine blk_alloc ?_ _)); exact BK105.out⟩, ⟨by (with_reducible repeat (first | refine blk_drewN ?_ _ | refine blk_drew ?_ | refine blk_alloc ?_ _)); exact BK110.out⟩, ⟨by repeat (first | (with_reducible first | exact HB.out | apply below_alloc | apply pw_below_drewN | apply below_drew1 | refine below_set ?_ GE105.out | refine below_set ?_ GE110.out) | exact HB.out)⟩⟩
          ·replace c57 := Bool.eq_false_iff.mpr c57
           subst c57
           have H1 : (if a0_3 = 0 then (if t111 > t112 then (hauberkref02_Encode.j2 kj36 t111 t112 (a0_4 != 0) a0_0 a0_1 a0_2 a0_3 a0_4 t106 t107 t108 t109) else (hauberkref02_Encode.j2 kj36 t111 t112 false a0_0 a0_1 a0_2 a0_3 a0_4 t106 t107 t108 t109)) else (hauberkref02_Encode.j2 kj36 t111 t112 true a0_0 a0_1 a0_2 a0_3 a0_4 t106 t107 t108 t109)) = some (r1, r2) := by rw [if_neg (show ¬ (false = true) by decide)] at H; exact H
           clear H
           have H := H1
           clear H1
           by_cases c63 : a0_3 = 0
           ·rw [if_pos c63] at H
            have c63b0 : (a0_3 == 0) = true := beq_iff_eq.mpr c63
            have c63b1 : (a0_3 != 0) = false := bne_eq_false_iff_eq.mpr c63
            clear c63
            by_cases c64 : t111 > t112
            ·as_aux_lemma =>
              rw [if_pos c64] at H
              have c64b0 : decide (t112 < t111) = true := decide_eq_true c64
              clear c64
              have H' := Aside0.mk H
              clear H
              have hnb65 := NB105_110.out
              have hnc65 := NB110_105.out
              have hcz66_0 : wc.cell? ⟨gb105, 0, none⟩ = some (.int .i64 a0_0) := (blk_cell BK105.out 0).trans rfl
              have hcz66_1 : wc.cell? ⟨gb105, 1, none⟩ = some (.int .i64 a0_1) := (blk_cell BK105.out 1).trans rfl
              have hcz66_2 : wc.cell? ⟨gb105, 2, none⟩ = some (.int .i64 a0_2) := (blk_cell BK105.out 2).trans rfl
              have hcz66_3 : wc.cell? ⟨gb105, 3, none⟩ = some (.int .i64 a0_3) := (blk_cell BK105.out 3).trans rfl
              have hcz66_4 : wc.cell? ⟨gb105, 4, none⟩ = some (.int .i64 a0_4) := (blk_cell BK105.out 4).trans rfl
              have hfz66_0 := blk_frozen BK105.out 0
              have hfz66_1 := blk_frozen BK105.out 1
              have hfz66_2 := blk_frozen BK105.out 2
              have hfz66_3 := blk_frozen BK105.out 3
              have hfz66_4 := blk_frozen BK105.out 4
              go_wp2
              repeat (go_quiet (fail); try go_wp2)
              go_meet
              case rel => exact ⟨_, ((a0_4 != 0)), (by first | rfl | (simp; done) | (simp [*]; done)), H', ⟨by have := HJ2.out; have := HJ36.out; first | omega | exact Nat.le_refl _⟩, ⟨by (with_reducible repeat (first | refine blk_drewN ?_ _ | refine blk_drew ?_ | refine blk_alloc ?_ _)); exact BK105.out⟩, ⟨by (with_reducible repeat (first | refine blk_drewN ?_ _ | refine blk_drew ?_ | refine blk_alloc ?_ _)); exact BK110.out⟩, ⟨by repeat (first | (with_reducible first | exact HB.out | apply below_alloc | apply pw_below_drewN | apply below_drew1 | refine below_set ?_ GE105.out | refine below_set ?_ GE110.out) | exact HB.out)⟩⟩
            ·as_aux_lemma =>
              rw [if_neg c64] at H
              have c64b0 : decide (t112 < t111) = false := decide_eq_false c64
              clear c64
              have H' := Aside0.mk H
              clear H
              have hnb67 := NB105_110.out
              have hnc67 := NB110_105.out
              have hcz68_0 : wc.cell? ⟨gb105, 0, none⟩ = some (.int .i64 a0_0) := (blk_cell BK105.out 0).trans rfl
              have hcz68_1 : wc.cell? ⟨gb105, 1, none⟩ = some (.int .i64 a0_1) := (blk_cell BK105.out 1).trans rfl
              have hcz68_2 : wc.cell? ⟨gb105, 2, none⟩ = some (.int .i64 a0_2) := (blk_cell BK105.out 2).trans rfl
              have hcz68_3 : wc.cell? ⟨gb105, 3, none⟩ = some (.int .i64 a0_3) := (blk_cell BK105.out 3).trans rfl
              have hcz68_4 : wc.cell? ⟨gb105, 4, none⟩ = some (.int .i64 a0_4) := (blk_cell BK105.out 4).trans rfl
              have hfz68_0 := blk_frozen BK105.out 0
              have hfz68_1 := blk_frozen BK105.out 1
              have hfz68_2 := blk_frozen BK105.out 2
              have hfz68_3 := blk_frozen BK105.out 3
              have hfz68_4 := blk_frozen BK105.out 4
              go_wp2
              repeat (go_quiet (fail); try go_wp2)
              go_meet
              case rel => exact ⟨_, (false), (by first | rfl | (simp; done) | (simp [*]; done)), H', ⟨by have := HJ2.out; have := HJ36.out; first | omega | exact Nat.le_refl _⟩, ⟨by (with_reducible repeat (first | refine blk_drewN ?_ _ | refine blk_drew ?_ | refine blk_alloc ?_ _)); exact BK105.out⟩, ⟨by (with_reducible repeat (first | refine blk_drewN ?_ _ | refine blk_drew ?_ | refine blk_alloc ?_ _)); exact BK110.out⟩, ⟨by repeat (first | (with_reducible first | exact HB.out | apply below_alloc | apply pw_below_drewN | apply below_drew1 | refine below_set ?_ GE105.out | refine below_set ?_ GE110.out) | exact HB.out)⟩⟩
           ·as_aux_lemma =>
             rw [if_neg c63] at H
             have c63b0 : (a0_3 == 0) = false := beq_eq_false_iff_ne.mpr c63
             have c63b1 : (a0_3 != 0) = true := bne_iff_ne.mpr c63
             have H' := Aside0.mk H
             clear H
             have hnb69 := NB105_110.out
             have hnc69 := NB110_105.out
             have hcz70_0 : wc.cell? ⟨gb105, 0, none⟩ = some (.int .i64 a0_0) := (blk_cell BK105.out 0).trans rfl
             have hcz70_1 : wc.cell? ⟨gb105, 1, none⟩ = some (.int .i64 a0_1) := (blk_cell BK105.out 1).trans rfl
             have hcz70_2 : wc.cell? ⟨gb105, 2, none⟩ = some (.int .i64 a0_2) := (blk_cell BK105.out 2).trans rfl
             have hcz70_3 : wc.cell? ⟨gb105, 3, none⟩ = some (.int .i64 a0_3) := (blk_cell BK105.out 3).trans rfl
             have hcz70_4 : wc.cell? ⟨gb105, 4, none⟩ = some (.int .i64 a0_4) := (blk_cell BK105.out 4).trans rfl
             have hfz70_0 := blk_frozen BK105.out 0
             have hfz70_1 := blk_frozen BK105.out 1
             have hfz70_2 := blk_frozen BK105.out 2
             have hfz70_3 := blk_frozen BK105.out 3
             have hfz70_4 := blk_frozen BK105.out 4
             go_wp2
             repeat (go_quiet (fail); try go_wp2)
             go_meet
             case rel => exact ⟨_, (true), (by first | rfl | (simp; done) | (simp [*]; done)), H', ⟨by have := HJ2.out; have := HJ36.out; first | omega | exact Nat.le_refl _⟩, ⟨by (with_reducible repeat (first | refine blk_drewN ?_ _ | refine blk_drew ?_ | refine blk_alloc ?_ _)); exact BK105.out⟩, ⟨by (with_reducible repeat (first | refine blk_drewN ?_ _ | refine blk_drew ?_ | refine blk_alloc ?_ _)); exact BK110.out⟩, ⟨by repeat (first | (with_reducible first | exact HB.out | apply below_alloc | apply pw_below_drewN | apply below_drew1 | refine below_set ?_ GE105.out | refine below_set ?_ GE110.out) | exact HB.out)⟩⟩
         ·as_aux_lemma =>
           rw [if_neg c56] at H
           have c56b0 : (a0_2 == 0) = false := beq_eq_false_iff_ne.mpr c56
           have c56b1 : (a0_2 != 0) = true := bne_iff_ne.mpr c56
           have H' := Aside0.mk H
           clear H
           have hnb71 := NB105_110.out
           have hnc71 := NB110_105.out
           have hcz72_0 : wc.cell? ⟨gb105, 0, none⟩ = some (.int .i64 a0_0) := (blk_cell BK105.out 0).trans rfl
           have hcz72_1 : wc.cell? ⟨gb105, 1, none⟩ = some (.int .i64 a0_1) := (blk_cell BK105.out 1).trans rfl
           have hcz72_2 : wc.cell? ⟨gb105, 2, none⟩ = some (.int .i64 a0_2) := (blk_cell BK105.out 2).trans rfl
           have hcz72_3 : wc.cell? ⟨gb105, 3, none⟩ = some (.int .i64 a0_3) := (blk_cell BK105.out 3).trans rfl
           have hcz72_4 : wc.cell? ⟨gb105, 4, none⟩ = some (.int .i64 a0_4) := (blk_cell BK105.out 4).trans rfl
           have hfz72_0 := blk_frozen BK105.out 0
           have hfz72_1 := blk_frozen BK105.out 1
           have hfz72_2 := blk_frozen BK105.out 2
           have hfz72_3 := blk_frozen BK105.out 3
           have hfz72_4 := blk_frozen BK105.out 4
           go_wp2
           repeat (go_quiet (fail); try go_wp2)
           go_meet
           case rel => exact ⟨_, (true), (by first | rfl | (simp; done) | (simp [*]; done)), H', ⟨by have := HJ2.out; have := HJ36.out; first | omega | exact Nat.le_refl _⟩, ⟨by (with_reducible repeat (first | refine blk_drewN ?_ _ | refine blk_drew ?_ | refine blk_alloc ?_ _)); exact BK105.out⟩, ⟨by (with_reducible repeat (first | refine blk_drewN ?_ _ | refine blk_drew ?_ | refine blk_alloc ?_ _)); exact BK110.out⟩, ⟨by repeat (first | (with_reducible first | exact HB.out | apply below_alloc | apply pw_below_drewN | apply below_drew1 | refine below_set ?_ GE105.out | refine below_set ?_ GE110.out) | exact HB.out)⟩⟩
       ·replace c42 := Bool.eq_false_iff.mpr c42
        subst c42
        have H1 : (if a0_1 = 0 then (if x6_36 = true then (if x7_2 = true then (if t111 > t112 then (hauberkref02_Encode.j2 kj36 t111 t112 (a0_4 != 0) a0_0 a0_1 a0_2 a0_3 a0_4 t106 t107 t108 t109) else (hauberkref02_Encode.j2 kj36 t111 t112 false a0_0 a0_1 a0_2 a0_3 a0_4 t106 t107 t108 t109)) else (if a0_3 = 0 then (if t111 > t112 then (hauberkref02_Encode.j2 kj36 t111 t112 (a0_4 != 0) a0_0 a0_1 a0_2 a0_3 a0_4 t106 t107 t108 t109) else (hauberkref02_Encode.j2 kj36 t111 t112 false a0_0 a0_1 a0_2 a0_3 a0_4 t106 t107 t108 t109)) else (hauberkref02_Encode.j2 kj36 t111 t112 true a0_0 a0_1 a0_2 a0_3 a0_4 t106 t107 t108 t109))) else (if a0_2 = 0 then (if x7_2 = true then (if t111 > t112 then (hauberkref02_Encode.j2 kj36 t111 t112 (a0_4 != 0) a0_0 a0_1 a0_2 a0_3 a0_4 t106 t107 t108 t109) else (hauberkref02_Encode.j2 kj36 t111 t112 false a0_0 a0_1 a0_2 a0_3 a0_4 t106 t107 t108 t109)) else (if a0_3 = 0 then (if t111 > t112 then (hauberkref02_Encode.j2 kj36 t111 t112 (a0_4 != 0) a0_0 a0_1 a0_2 a0_3 a0_4 t106 t107 t108 t109) else (hauberkref02_Encode.j2 kj36 t111 t112 false a0_0 a0_1 a0_2 a0_3 a0_4 t106 t107 t108 t109)) else (hauberkref02_Encode.j2 kj36 t111 t112 true a0_0 a0_1 a0_2 a0_3 a0_4 t106 t107 t108 t109))) else (hauberkref02_Encode.j2 kj36 t111 t112 true a0_0 a0_1 a0_2 a0_3 a0_4 t106 t107 t108 t109))) else (hauberkref02_Encode.j2 kj36 t111 t112 true a0_0 a0_1 a0_2 a0_3 a0_4 t106 t107 t108 t109)) = some (r1, r2) := by rw [if_neg (show ¬ (false = true) by decide)] at H; exact H
        clear H
        have H := H1
        clear H1
        by_cases c73 : a0_1 = 0
        ·rw [if_pos c73] at H
         have c73b0 : (a0_1 == 0) = true := beq_iff_eq.mpr c73
         have c73b1 : (a0_1 != 0) = false := bne_eq_false_iff_eq.mpr c73
         clear c73
         by_cases c74 : x6_36 = true
         ·subst c74
          have H1 : (if x7_2 = true then (if t111 > t112 then (hauberkref02_Encode.j2 kj36 t111 t112 (a0_4 != 0) a0_0 a0_1 a0_2 a0_3 a0_4 t106 t107 t108 t109) else (hauberkref02_Encode.j2 kj36 t111 t112 false a0_0 a0_1 a0_2 a0_3 a0_4 t106 t107 t108 t109)) else (if a0_3 = 0 then (if t111 > t112 then (hauberkref02_Encode.j2 kj36 t111 t112 (a0_4 != 0) a0_0 a0_1 a0_2 a0_3 a0_4 t106 t107 t108 t109) else (hauberkref02_Encode.j2 kj36 t111 t112 false a0_0 a0_1 a0_2 a0_3 a0_4 t106 t107 t108 t109)) else (hauberkref02_Encode.j2 kj36 t111 t112 true a0_0 a0_1 a0_2 a0_3 a0_4 t106 t107 t108 t109))) = some (r1, r2) := by rw [if_pos rfl] at H; exact H
          clear H
          have H := H1
          clear H1
          by_cases c75 : x7_2 = true
          ·subst c75
           have H1 : (if t111 > t112 then (hauberkref02_Encode.j2 kj36 t111 t112 (a0_4 != 0) a0_0 a0_1 a0_2 a0_3 a0_4 t106 t107 t108 t109) else (hauberkref02_Encode.j2 kj36 t111 t112 false a0_0 a0_1 a0_2 a0_3 a0_4 t106 t107 t108 t109)) = some (r1, r2) := by rw [if_pos rfl] at H; exact H
           clear H
           have H := H1
           clear H1
           by_cases c76 : t111 > t112
           ·as_aux_lemma =>
             rw [if_pos c76] at H
             have c76b0 : decide (t112 < t111) = true := decide_eq_true c76
             clear c76
             have H' := Aside0.mk H
             clear H
             have hnb77 := NB105_110.out
             have hnc77 := NB110_105.out
             have hcz78_0 : wc.cell? ⟨gb105, 0, none⟩ = some (.int .i64 a0_0) := (blk_cell BK105.out 0).trans rfl
             have hcz78_1 : wc.cell? ⟨gb105, 1, none⟩ = some (.int .i64 a0_1) := (blk_cell BK105.out 1).trans rfl
             have hcz78_2 : wc.cell? ⟨gb105, 2, none⟩ = some (.int .i64 a0_2) := (blk_cell BK105.out 2).trans rfl
             have hcz78_3 : wc.cell? ⟨gb105, 3, none⟩ = some (.int .i64 a0_3) := (blk_cell BK105.out 3).trans rfl
             have hcz78_4 : wc.cell? ⟨gb105, 4, none⟩ = some (.int .i64 a0_4) := (blk_cell BK105.out 4).trans rfl
             have hfz78_0 := blk_frozen BK105.out 0
             have hfz78_1 := blk_frozen BK105.out 1
             have hfz78_2 := blk_frozen BK105.out 2
             have hfz78_3 := blk_frozen BK105.out 3
             have hfz78_4 := blk_frozen BK105.out 4
             go_wp2
             repeat (go_quiet (fail); try go_wp2)
             go_meet
             case rel => exact ⟨_, ((a0_4 != 0)), (by first | rfl | (simp; done) | (simp [*]; done)), H', ⟨by have := HJ2.out; have := HJ36.out; first | omega | exact Nat.le_refl _⟩, ⟨by (with_reducible repeat (first | refine blk_drewN ?_ _ | refine blk_drew ?_ | refine blk_alloc ?_ _)); exact BK105.out⟩, ⟨by (with_reducible repeat (first | refine blk_drewN ?_ _ | refine blk_drew ?_ | refine blk_alloc ?_ _)); exact BK110.out⟩, ⟨by repeat (first | (with_reducible first | exact HB.out | apply below_alloc | apply pw_below_drewN | apply below_drew1 | refine below_set ?_ GE105.out | refine below_set ?_ GE110.out) | exact HB.out)⟩⟩
           ·as_aux_lemma =>
             rw [if_neg c76] at H
             have c76b0 : decide (t112 < t111) = false := decide_eq_false c76
             clear c76
             have H' := Aside0.mk H
             clear H
             have hnb79 := NB105_110.out
             have hnc79 := NB110_105.out
             have hcz80_0 : wc.cell? ⟨gb105, 0, none⟩ = some (.int .i64 a0_0) := (blk_cell BK105.out 0).trans rfl
             have hcz80_1 : wc.cell? ⟨gb105, 1, none⟩ = some (.int .i64 a0_1) := (blk_cell BK105.out 1).trans rfl
             have hcz80_2 : wc.cell? ⟨gb105, 2, none⟩ = some (.int .i64 a0_2) := (blk_cell BK105.out 2).trans rfl
             have hcz80_3 : wc.cell? ⟨gb105, 3, none⟩ = some (.int .i64 a0_3) := (blk_cell BK105.out 3).trans rfl
             have hcz80_4 : wc.cell? ⟨gb105, 4, none⟩ = some (.int .i64 a0_4) := (blk_cell BK105.out 4).trans rfl
             have hfz80_0 := blk_frozen BK105.out 0
             have hfz80_1 := blk_frozen BK105.out 1
             have hfz80_2 := blk_frozen BK105.out 2
             have hfz80_3 := blk_frozen BK105.out 3
             have hfz80_4 := blk_frozen BK105.out 4
             go_wp2
             repeat (go_quiet (fail); try go_wp2)
             go_meet
             case rel => exact ⟨_, (false), (by first | rfl | (simp; done) | (simp [*]; done)), H', ⟨by have := HJ2.out; have := HJ36.out; first | omega | exact Nat.le_refl _⟩, ⟨by (with_reducible repeat (first | refine blk_drewN ?_ _ | refine blk_drew ?_ | refine blk_alloc ?_ _)); exact BK105.out⟩, ⟨by (with_reducible repeat (first | refine blk_drewN ?_ _ | refine blk_drew ?_ | refine blk_alloc ?_ _)); exact BK110.out⟩, ⟨by repeat (first | (with_reducible first | exact HB.out | apply below_alloc | apply pw_below_drewN | apply below_drew1 | refine below_set ?_ GE105.out | refine below_set ?_ GE110.out) | exact HB.out)⟩⟩
          ·replace c75 := Bool.eq_false_iff.mpr c75
           subst c75
           have H1 : (if a0_3 = 0 then (if t111 > t112 then (hauberkref02_Encode.j2 kj36 t111 t112 (a0_4 != 0) a0_0 a0_1 a0_2 a0_3 a0_4 t106 t107 t108 t109) else (hauberkref02_Encode.j2 kj36 t111 t112 false a0_0 a0_1 a0_2 a0_3 a0_4 t106 t107 t108 t109)) else (hauberkref02_Encode.j2 kj36 t111 t112 true a0_0 a0_1 a0_2 a0_3 a0_4 t106 t107 t108 t109)) = some (r1, r2) := by rw [if_neg (show ¬ (false = true) by decide)] at H; exact H
           clear H
           have H := H1
           clear H1
           by_cases c81 : a0_3 = 0
           ·rw [if_pos c81] at H
            have c81b0 : (a0_3 == 0) = true := beq_iff_eq.mpr c81
            have c81b1 : (a0_3 != 0) = false := bne_eq_false_iff_eq.mpr c81
            clear c81
            by_cases c82 : t111 > t112
            ·as_aux_lemma =>
              rw [if_pos c82] at H
              have c82b0 : decide (t112 < t111) = true := decide_eq_true c82
              clear c82
              have H' := Aside0.mk H
              clear H
              have hnb83 := NB105_110.out
              have hnc83 := NB110_105.out
              have hcz84_0 : wc.cell? ⟨gb105, 0, none⟩ = some (.int .i64 a0_0) := (blk_cell BK105.out 0).trans rfl
              have hcz84_1 : wc.cell? ⟨gb105, 1, none⟩ = some (.int .i64 a0_1) := (blk_cell BK105.out 1).trans rfl
              have hcz84_2 : wc.cell? ⟨gb105, 2, none⟩ = some (.int .i64 a0_2) := (blk_cell BK105.out 2).trans rfl
              have hcz84_3 : wc.cell? ⟨gb105, 3, none⟩ = some (.int .i64 a0_3) := (blk_cell BK105.out 3).trans rfl
              have hcz84_4 : wc.cell? ⟨gb105, 4, none⟩ = some (.int .i64 a0_4) := (blk_cell BK105.out 4).trans rfl
              have hfz84_0 := blk_frozen BK105.out 0
              have hfz84_1 := blk_frozen BK105.out 1
              have hfz84_2 := blk_frozen BK105.out 2
              have hfz84_3 := blk_frozen BK105.out 3
              have hfz84_4 := blk_frozen BK105.out 4
              go_wp2
              repeat (go_quiet (fail); try go_wp2)
              go_meet
              case rel => exact ⟨_, ((a0_4 != 0)), (by first | rfl | (simp; done) | (simp [*]; done)), H', ⟨by have := HJ2.out; have := HJ36.out; first | omega | exact Nat.le_refl _⟩, ⟨by (with_reducible repeat (first | refine blk_drewN ?_ _ | refine blk_drew ?_ | refine blk_alloc ?_ _)); exact BK105.out⟩, ⟨by (with_reducible repeat (first | refine blk_drewN ?_ _ | refine blk_drew ?_ | refine blk_alloc ?_ _)); exact BK110.out⟩, ⟨by repeat (first | (with_reducible first | exact HB.out | apply below_alloc | apply pw_below_drewN | apply below_drew1 | refine below_set ?_ GE105.out | refine below_set ?_ GE110.out) | exact HB.out)⟩⟩
            ·as_aux_lemma =>
              rw [if_neg c82] at H
              have c82b0 : decide (t112 < t111) = false := decide_eq_false c82
              clear c82
              have H' := Aside0.mk H
              clear H
              have hnb85 := NB105_110.out
              have hnc85 := NB110_105.out
              have hcz86_0 : wc.cell? ⟨gb105, 0, none⟩ = some (.int .i64 a0_0) := (blk_cell BK105.out 0).trans rfl
              have hcz86_1 : wc.cell? ⟨gb105, 1, none⟩ = some (.int .i64 a0_1) := (blk_cell BK105.out 1).trans rfl
              have hcz86_2 : wc.cell? ⟨gb105, 2, none⟩ = some (.int .i64 a0_2) := (blk_cell BK105.out 2).trans rfl
              have hcz86_3 : wc.cell? ⟨gb105, 3, none⟩ = some (.int .i64 a0_3) := (blk_cell BK105.out 3).trans rfl
              have hcz86_4 : wc.cell? ⟨gb105, 4, none⟩ = some (.int .i64 a0_4) := (blk_cell BK105.out 4).trans rfl
              have hfz86_0 := blk_frozen BK105.out 0
              have hfz86_1 := blk_frozen BK105.out 1
              have hfz86_2 := blk_frozen BK105.out 2
              have hfz86_3 := blk_frozen BK105.out 3
              have hfz86_4 := blk_frozen BK105.out 4
              go_wp2
              repeat (go_quiet (fail); try go_wp2)
              go_meet
              case rel => exact ⟨_, (false), (by first | rfl | (simp; done) | (simp [*]; done)), H', ⟨by have := HJ2.out; have := HJ36.out; first | omega | exact Nat.le_refl _⟩, ⟨by (with_reducible repeat (first | refine blk_drewN ?_ _ | refine blk_drew ?_ | refine blk_alloc ?_ _)); exact BK105.out⟩, ⟨by (with_reducible repeat (first | refine blk_drewN ?_ _ | refine blk_drew ?_ | refine blk_alloc ?_ _)); exact BK110.out⟩, ⟨by repeat (first | (with_reducible first | exact HB.out | apply below_alloc | apply pw_below_drewN | apply below_drew1 | refine below_set ?_ GE105.out | refine below_set ?_ GE110.out) | exact HB.out)⟩⟩
           ·as_aux_lemma =>
             rw [if_neg c81] at H
             have c81b0 : (a0_3 == 0) = false := beq_eq_false_iff_ne.mpr c81
             have c81b1 : (a0_3 != 0) = true := bne_iff_ne.mpr c81
             have H' := Aside0.mk H
             clear H
             have hnb87 := NB105_110.out
             have hnc87 := NB110_105.out
             have hcz88_0 : wc.cell? ⟨gb105, 0, none⟩ = some (.int .i64 a0_0) := (blk_cell BK105.out 0).trans rfl
             have hcz88_1 : wc.cell? ⟨gb105, 1, none⟩ = some (.int .i64 a0_1) := (blk_cell BK105.out 1).trans rfl
             have hcz88_2 : wc.cell? ⟨gb105, 2, none⟩ = some (.int .i64 a0_2) := (blk_cell BK105.out 2).trans rfl
             have hcz88_3 : wc.cell? ⟨gb105, 3, none⟩ = some (.int .i64 a0_3) := (blk_cell BK105.out 3).trans rfl
             have hcz88_4 : wc.cell? ⟨gb105, 4, none⟩ = some (.int .i64 a0_4) := (blk_cell BK105.out 4).trans rfl
             have hfz88_0 := blk_frozen BK105.out 0
             have hfz88_1 := blk_frozen BK105.out 1
             have hfz88_2 := blk_frozen BK105.out 2
             have hfz88_3 := blk_frozen BK105.out 3
             have hfz88_4 := blk_frozen BK105.out 4
             go_wp2
             repeat (go_quiet (fail); try go_wp2)
             go_meet
             case rel => exact ⟨_, (true), (by first | rfl | (simp; done) | (simp [*]; done)), H', ⟨by have := HJ2.out; have := HJ36.out; first | omega | exact Nat.le_refl _⟩, ⟨by (with_reducible repeat (first | refine blk_drewN ?_ _ | refine blk_drew ?_ | refine blk_alloc ?_ _)); exact BK105.out⟩, ⟨by (with_reducible repeat (first | refine blk_drewN ?_ _ | refine blk_drew ?_ | refine blk_alloc ?_ _)); exact BK110.out⟩, ⟨by repeat (first | (with_reducible first | exact HB.out | apply below_alloc | apply pw_below_drewN | apply below_drew1 | refine below_set ?_ GE105.out | refine below_set ?_ GE110.out) | exact HB.out)⟩⟩
         ·replace c74 := Bool.eq_false_iff.mpr c74
          subst c74
          have H1 : (if a0_2 = 0 then (if x7_2 = true then (if t111 > t112 then (hauberkref02_Encode.j2 kj36 t111 t112 (a0_4 != 0) a0_0 a0_1 a0_2 a0_3 a0_4 t106 t107 t108 t109) else (hauberkref02_Encode.j2 kj36 t111 t112 false a0_0 a0_1 a0_2 a0_3 a0_4 t106 t107 t108 t109)) else (if a0_3 = 0 then (if t111 > t112 then (hauberkref02_Encode.j2 kj36 t111 t112 (a0_4 != 0) a0_0 a0_1 a0_2 a0_3 a0_4 t106 t107 t108 t109) else (hauberkref02_Encode.j2 kj36 t111 t112 false a0_0 a0_1 a0_2 a0_3 a0_4 t106 t107 t108 t109)) else (hauberkref02_Encode.j2 kj36 t111 t112 true a0_0 a0_1 a0_2 a0_3 a0_4 t106 t107 t108 t109))) else (hauberkref02_Encode.j2 kj36 t111 t112 true a0_0 a0_1 a0_2 a0_3 a0_4 t106 t107 t108 t109)) = some (r1, r2) := by rw [if_neg (show ¬ (false = true) by decide)] at H; exact H
          clear H
          have H := H1
          clear H1
          by_cases c89 : a0_2 = 0
          ·rw [if_pos c89] at H
           have c89b0 : (a0_2 == 0) = true := beq_iff_eq.mpr c89
           have c89b1 : (a0_2 != 0) = false := bne_eq_false_iff_eq.mpr c89
           clear c89
           by_cases c90 : x7_2 = true
           ·subst c90
            have H1 : (if t111 > t112 then (hauberkref02_Encode.j2 kj36 t111 t112 (a0_4 != 0) a0_0 a0_1 a0_2 a0_3 a0_4 t106 t107 t108 t109) else (hauberkref02_Encode.j2 kj36 t111 t112 false a0_0 a0_1 a0_2 a0_3 a0_4 t106 t107 t108 t109)) = some (r1, r2) := by rw [if_pos rfl] at H; exact H
            clear H
            have H := H1
            clear H1
            by_cases c91 : t111 > t112
            ·as_aux_lemma =>
              rw [if_pos c91] at H
              have c91b0 : decide (t112 < t111) = true := decide_eq_true c91
              clear c91
              have H' := Aside0.mk H
              clear H
              have hnb92 := NB105_110.out
              have hnc92 := NB110_105.out
              have hcz93_0 : wc.cell? ⟨gb105, 0, none⟩ = some (.int .i64 a0_0) := (blk_cell BK105.out 0).trans rfl
              have hcz93_1 : wc.cell? ⟨gb105, 1, none⟩ = some (.int .i64 a0_1) := (blk_cell BK105.out 1).trans rfl
              have hcz93_2 : wc.cell? ⟨gb105, 2, none⟩ = some (.int .i64 a0_2) := (blk_cell BK105.out 2).trans rfl
              have hcz93_3 : wc.cell? ⟨gb105, 3, none⟩ = some (.int .i64 a0_3) := (blk_cell BK105.out 3).trans rfl
              have hcz93_4 : wc.cell? ⟨gb105, 4, none⟩ = some (.int .i64 a0_4) := (blk_cell BK105.out 4).trans rfl
              have hfz93_0 := blk_frozen BK105.out 0
              have hfz93_1 := blk_frozen BK105.out 1
              have hfz93_2 := blk_frozen BK105.out 2
              have hfz93_3 := blk_frozen BK105.out 3
              have hfz93_4 := blk_frozen BK105.out 4
              go_wp2
              repeat (go_quiet (fail); try go_wp2)
              go_meet
              case rel => exact ⟨_, ((a0_4 != 0)), (by first | rfl | (simp; done) | (simp [*]; done)), H', ⟨by have := HJ2.out; have := HJ36.out; first | omega | exact Nat.le_refl _⟩, ⟨by (with_reducible repeat (first | refine blk_drewN ?_ _ | refine blk_drew ?_ | refine blk_alloc ?_ _)); exact BK105.out⟩, ⟨by (with_reducible repeat (first | refine blk_drewN ?_ _ | refine blk_drew ?_ | refine blk_alloc ?_ _)); exact BK110.out⟩, ⟨by repeat (first | (with_reducible first | exact HB.out | apply below_alloc | apply pw_below_drewN | apply below_drew1 | refine below_set ?_ GE105.out | refine below_set ?_ GE110.out) | exact HB.out)⟩⟩
            ·as_aux_lemma =>
              rw [if_neg c91] at H
              have c91b0 : decide (t112 < t111) = false := decide_eq_false c91
              clear c91
              have H' := Aside0.mk H
              clear H
              have hnb94 := NB105_110.out
              have hnc94 := NB110_105.out
              have hcz95_0 : wc.cell? ⟨gb105, 0, none⟩ = some (.int .i64 a0_0) := (blk_cell BK105.out 0).trans rfl
              have hcz95_1 : wc.cell? ⟨gb105, 1, none⟩ = some (.int .i64 a0_1) := (blk_cell BK105.out 1).trans rfl
              have hcz95_2 : wc.cell? ⟨gb105, 2, none⟩ = some (.int .i64 a0_2) := (blk_cell BK105.out 2).trans rfl
              have hcz95_3 : wc.cell? ⟨gb105, 3, none⟩ = some (.int .i64 a0_3) := (blk_cell BK105.out 3).trans rfl
              have hcz95_4 : wc.cell? ⟨gb105, 4, none⟩ = some (.int .i64 a0_4) := (blk_cell BK105.out 4).trans rfl
              have hfz95_0 := blk_frozen BK105.out 0
              have hfz95_1 := blk_frozen BK105.out 1
              have hfz95_2 := blk_frozen BK105.out 2
              have hfz95_3 := blk_frozen BK105.out 3
              have hfz95_4 := blk_frozen BK105.out 4
              go_wp2
              repeat (go_quiet (fail); try go_wp2)
              go_meet
              case rel => exact ⟨_, (false), (by first | rfl | (simp; done) | (simp [*]; done)), H', ⟨by have := HJ2.out; have := HJ36.out; first | omega | exact Nat.le_refl _⟩, ⟨by (with_reducible repeat (first | refine blk_drewN ?_ _ | refine blk_drew ?_ | refine blk_alloc ?_ _)); exact BK105.out⟩, ⟨by (with_reducible repeat (first | refine blk_drewN ?_ _ | refine blk_drew ?_ | refine blk_alloc ?_ _)); exact BK110.out⟩, ⟨by repeat (first | (with_reducible first | exact HB.out | apply below_alloc | apply pw_below_drewN | apply below_drew1 | refine below_set ?_ GE105.out | refine below_set ?_ GE110.out) | exact HB.out)⟩⟩
           ·replace c90 := Bool.eq_false_iff.mpr c90
            subst c90
            have H1 : (if a0_3 = 0 then (if t111 > t112 then (hauberkref02_Encode.j2 kj36 t111 t112 (a0_4 != 0) a0_0 a0_1 a0_2 a0_3 a0_4 t106 t107 t108 t109) else (hauberkref02_Encode.j2 kj36 t111 t112 false a0_0 a0_1 a0_2 a0_3 a0_4 t106 t107 t108 t109)) else (hauberkref02_Encode.j2 kj36 t111 t112 true a0_0 a0_1 a0_2 a0_3 a0_4 t106 t107 t108 t109)) = some (r1, r2) := by rw [if_neg (show ¬ (false = true) by decide)] at H; exact H
            clear H
            have H := H1
            clear H1
            by_cases c96 : a0_3 = 0
            ·rw [if_pos c96] at H
             have c96b0 : (a0_3 == 0) = true := beq_iff_eq.mpr c96
             have c96b1 : (a0_3 != 0) = false := bne_eq_false_iff_eq.mpr c96
             clear c96
             by_cases c97 : t111 > t112
             ·as_aux_lemma =>
               rw [if_pos c97] at H
               have c97b0 : decide (t112 < t111) = true := decide_eq_true c97
               clear c97
               have H' := Aside0.mk H
               clear H
               have hnb98 := NB105_110.out
               have hnc98 := NB110_105.out
               have hcz99_0 : wc.cell? ⟨gb105, 0, none⟩ = some (.int .i64 a0_0) := (blk_cell BK105.out 0).trans rfl
               have hcz99_1 : wc.cell? ⟨gb105, 1, none⟩ = some (.int .i64 a0_1) := (blk_cell BK105.out 1).trans rfl
               have hcz99_2 : wc.cell? ⟨gb105, 2, none⟩ = some (.int .i64 a0_2) := (blk_cell BK105.out 2).trans rfl
               have hcz99_3 : wc.cell? ⟨gb105, 3, none⟩ = some (.int .i64 a0_3) := (blk_cell BK105.out 3).trans rfl
               have hcz99_4 : wc.cell? ⟨gb105, 4, none⟩ = some (.int .i64 a0_4) := (blk_cell BK105.out 4).trans rfl
               have hfz99_0 := blk_frozen BK105.out 0
               have hfz99_1 := blk_frozen BK105.out 1
               have hfz99_2 := blk_frozen BK105.out 2
               have hfz99_3 := blk_frozen BK105.out 3
               have hfz99_4 := blk_frozen BK105.out 4
               go_wp2
               repeat (go_quiet (fail); try go_wp2)
               go_meet
               case rel => exact ⟨_, ((a0_4 != 0)), (by first | rfl | (simp; done) | (simp [*]; done)), H', ⟨by have := HJ2.out; have := HJ36.out; first | omega | exact Nat.le_refl _⟩, ⟨by (with_reducible repeat (first | refine blk_drewN ?_ _ | refine blk_drew ?_ | refine blk_alloc ?_ _)); exact BK105.out⟩, ⟨by (with_reducible repeat (first | refine blk_drewN ?_ _ | refine blk_drew ?_ | refine blk_alloc ?_ _)); exact BK110.out⟩, ⟨by repeat (first | (with_reducible first | exact HB.out | apply below_alloc | apply pw_below_drewN | apply below_drew1 | refine below_set ?_ GE105.out | refine below_set ?_ GE110.out) | exact HB.out)⟩⟩
             ·as_aux_lemma =>
               rw [if_neg c97] at H
               have c97b0 : decide (t112 < t111) = false := decide_eq_false c97
               clear c97
               have H' := Aside0.mk H
               clear H
               have hnb100 := NB105_110.out
               have hnc100 := NB110_105.out
               have hcz101_0 : wc.cell? ⟨gb105, 0, none⟩ = some (.int .i64 a0_0) := (blk_cell BK105.out 0).trans rfl
               have hcz101_1 : wc.cell? ⟨gb105, 1, none⟩ = some (.int .i64 a0_1) := (blk_cell BK105.out 1).trans rfl
               have hcz101_2 : wc.cell? ⟨gb105, 2, none⟩ = some (.int .i64 a0_2) := (blk_cell BK105.out 2).trans rfl
               have hcz101_3 : wc.cell? ⟨gb105, 3, none⟩ = some (.int .i64 a0_3) := (blk_cell BK105.out 3).trans rfl
               have hcz101_4 : wc.cell? ⟨gb105, 4, none⟩ = some (.int .i64 a0_4) := (blk_cell BK105.out 4).trans rfl
               have hfz101_0 := blk_frozen BK105.out 0
               have hfz101_1 := blk_frozen BK105.out 1
               have hfz101_2 := blk_frozen BK105.out 2
               have hfz101_3 := blk_frozen BK105.out 3
               have hfz101_4 := blk_frozen BK105.out 4
               go_wp2
               repeat (go_quiet (fail); try go_wp2)
               go_meet
               case rel => exact ⟨_, (false), (by first | rfl | (simp; done) | (simp [*]; done)), H', ⟨by have := HJ2.out; have := HJ36.out; first | omega | exact Nat.le_refl _⟩, ⟨by (with_reducible repeat (first | refine blk_drewN ?_ _ | refine blk_drew ?_ | refine blk_alloc ?_ _)); exact BK105.out⟩, ⟨by (with_reducible repeat (first | refine blk_drewN ?_ _ | refine blk_drew ?_ | refine blk_alloc ?_ _)); exact BK110.out⟩, ⟨by repeat (first | (with_reducible first | exact HB.out | apply below_alloc | apply pw_below_drewN | apply below_drew1 | refine below_set ?_ GE105.out | refine below_set ?_ GE110.out) | exact HB.out)⟩⟩
            ·as_aux_lemma =>
              rw [if_neg c96] at H
              have c96b0 : (a0_3 == 0) = false := beq_eq_false_iff_ne.mpr c96
              have c96b1 : (a0_3 != 0) = true := bne_iff_ne.mpr c96
              have H' := Aside0.mk H
              clear H
              have hnb102 := NB105_110.out
              have hnc102 := NB110_105.out
              have hcz103_0 : wc.cell? ⟨gb105, 0, none⟩ = some (.int .i64 a0_0) := (blk_cell BK105.out 0).trans rfl
              have hcz103_1 : wc.cell? ⟨gb105, 1, none⟩ = some (.int .i64 a0_1) := (blk_cell BK105.out 1).trans rfl
              have hcz103_2 : wc.cell? ⟨gb105, 2, none⟩ = some (.int .i64 a0_2) := (blk_cell BK105.out 2).trans rfl
              have hcz103_3 : wc.cell? ⟨gb105, 3, none⟩ = some (.int .i64 a0_3) := (blk_cell BK105.out 3).trans rfl
              have hcz103_4 : wc.cell? ⟨gb105, 4, none⟩ = some (.int .i64 a0_4) := (blk_cell BK105.out 4).trans rfl
              have hfz103_0 := blk_frozen BK105.out 0
              have hfz103_1 := blk_frozen BK105.out 1
              have hfz103_2 := blk_frozen BK105.out 2
              have hfz103_3 := blk_frozen BK105.out 3
              have hfz103_4 := blk_frozen BK105.out 4
              go_wp2
              repeat (go_quiet (fail); try go_wp2)
              go_meet
              case rel => exact ⟨_, (true), (by first | rfl | (simp; done) | (simp [*]; done)), H', ⟨by have := HJ2.out; have := HJ36.out; first | omega | exact Nat.le_refl _⟩, ⟨by (with_reducible repeat (first | refine blk_drewN ?_ _ | refine blk_drew ?_ | refine blk_alloc ?_ _)); exact BK105.out⟩, ⟨by (with_reducible repeat (first | refine blk_drewN ?_ _ | refine blk_drew ?_ | refine blk_alloc ?_ _)); exact BK110.out⟩, ⟨by repeat (first | (with_reducible first | exact HB.out | apply below_alloc | apply pw_below_drewN | apply below_drew1 | refine below_set ?_ GE105.out | refine below_set ?_ GE110.out) | exact HB.out)⟩⟩
          ·as_aux_lemma =>
            rw [if_neg c89] at H
            have c89b0 : (a0_2 == 0) = false := beq_eq_false_iff_ne.mpr c89
            have c89b1 : (a0_2 != 0) = true := bne_iff_ne.mpr c89
            have H' := Aside0.mk H
            clear H
            have hnb104 := NB105_110.out
            have hnc104 := NB110_105.out
            have hcz105_0 : wc.cell? ⟨gb105, 0, none⟩ = some (.int .i64 a0_0) := (blk_cell BK105.out 0).trans rfl
            have hcz105_1 : wc.cell? ⟨gb105, 1, none⟩ = some (.int .i64 a0_1) := (blk_cell BK105.out 1).trans rfl
            have hcz105_2 : wc.cell? ⟨gb105, 2, none⟩ = some (.int .i64 a0_2) := (blk_cell BK105.out 2).trans rfl
            have hcz105_3 : wc.cell? ⟨gb105, 3, none⟩ = some (.int .i64 a0_3) := (blk_cell BK105.out 3).trans rfl
            have hcz105_4 : wc.cell? ⟨gb105, 4, none⟩ = some (.int .i64 a0_4) := (blk_cell BK105.out 4).trans rfl
            have hfz105_0 := blk_frozen BK105.out 0
            have hfz105_1 := blk_frozen BK105.out 1
            have hfz105_2 := blk_frozen BK105.out 2
            have hfz105_3 := blk_frozen BK105.out 3
            have hfz105_4 := blk_frozen BK105.out 4
            go_wp2
            repeat (go_quiet (fail); try go_wp2)
            go_meet
            case rel => exact ⟨_, (true), (by first | rfl | (simp; done) | (simp [*]; done)), H', ⟨by have := HJ2.out; have := HJ36.out; first | omega | exact Nat.le_refl _⟩, ⟨by (with_reducible repeat (first | refine blk_drewN ?_ _ | refine blk_drew ?_ | refine blk_alloc ?_ _)); exact BK105.out⟩, ⟨by (with_reducible repeat (first | refine blk_drewN ?_ _ | refine blk_drew ?_ | refine blk_alloc ?_ _)); exact BK110.out⟩, ⟨by repeat (first | (with_reducible first | exact HB.out | apply below_alloc | apply pw_below_drewN | apply below_drew1 | refine below_set ?_ GE105.out | refine below_set ?_ GE110.out) | exact HB.out)⟩⟩
        ·as_aux_lemma =>
          rw [if_neg c73] at H
          have c73b0 : (a0_1 == 0) = false := beq_eq_false_iff_ne.mpr c73
          have c73b1 : (a0_1 != 0) = true := bne_iff_ne.mpr c73
          have H' := Aside0.mk H
          clear H
          have hnb106 := NB105_110.out
          have hnc106 := NB110_105.out
          have hcz107_0 : wc.cell? ⟨gb105, 0, none⟩ = some (.int .i64 a0_0) := (blk_cell BK105.out 0).trans rfl
          have hcz107_1 : wc.cell? ⟨gb105, 1, none⟩ = some (.int .i64 a0_1) := (blk_cell BK105.out 1).trans rfl
          have hcz107_2 : wc.cell? ⟨gb105, 2, none⟩ = some (.int .i64 a0_2) := (blk_cell BK105.out 2).trans rfl
          have hcz107_3 : wc.cell? ⟨gb105, 3, none⟩ = some (.int .i64 a0_3) := (blk_cell BK105.out 3).trans rfl
          have hcz107_4 : wc.cell? ⟨gb105, 4, none⟩ = some (.int .i64 a0_4) := (blk_cell BK105.out 4).trans rfl
          have hfz107_0 := blk_frozen BK105.out 0
          have hfz107_1 := blk_frozen BK105.out 1
          have hfz107_2 := blk_frozen BK105.out 2
          have hfz107_3 := blk_frozen BK105.out 3
          have hfz107_4 := blk_frozen BK105.out 4
          go_wp2
          repeat (go_quiet (fail); try go_wp2)
          go_meet
          case rel => exact ⟨_, (true), (by first | rfl | (simp; done) | (simp [*]; done)), H', ⟨by have := HJ2.out; have := HJ36.out; first | omega | exact Nat.le_refl _⟩, ⟨by (with_reducible repeat (first | refine blk_drewN ?_ _ | refine blk_drew ?_ | refine blk_alloc ?_ _)); exact BK105.out⟩, ⟨by (with_reducible repeat (first | refine blk_drewN ?_ _ | refine blk_drew ?_ | refine blk_alloc ?_ _)); exact BK110.out⟩, ⟨by repeat (first | (with_reducible first | exact HB.out | apply below_alloc | apply pw_below_drewN | apply below_drew1 | refine below_set ?_ GE105.out | refine below_set ?_ GE110.out) | exact HB.out)⟩⟩
      case rest =>
       clear HC41
       try clear c1
       try clear p2
       try clear c4
       try clear c5
       try clear c6
       try clear c7
       try clear c8
       try clear c9
       try clear c10
       try clear c42
       try clear c43
       try clear c44
       try clear c45
       try clear c45b0
       try clear c46
       try clear c48
       try clear c48b0
       try clear c48b1
       try clear c49
       try clear c49b0
       try clear c50
       try clear c52
       try clear c54
       try clear c56
       try clear c56b0
       try clear c56b1
       try clear c57
       try clear c58
       try clear c58b0
       try clear c59
       try clear c61
       try clear c63
       try clear c63b0
       try clear c63b1
       try clear c64
       try clear c64b0
       try clear c65
       try clear c67
       try clear c69
       try clear c71
       try clear c73
       try clear c73b0
       try clear c73b1
       try clear c74
       try clear c75
       try clear c76
       try clear c76b0
       try clear c77
       try clear c79
       try clear c81
       try clear c81b0
       try clear c81b1
       try clear c82
       try clear c82b0
       try clear c83
       try clear c85
       try clear c87
       try clear c89
       try clear c89b0
       try clear c89b1
       try clear c90
       try clear c91
       try clear c91b0
       try clear c92
       try clear c94
       try clear c96
       try clear c96b0
       try clear c96b1
       try clear c97
       try clear c97b0
       try clear c98
       try clear c100
       try clear c102
       try clear c104
       try clear c106
       try clear hcz101_0
       try clear hcz101_1
       try clear hcz101_2
       try clear hcz101_3
       try clear hcz101_4
       try clear hcz103_0
       try clear hcz103_1
       try clear hcz103_2
       try clear hcz103_3
       try clear hcz103_4
       try clear hcz105_0
       try clear hcz105_1
       try clear hcz105_2
       try clear hcz105_3
       try clear hcz105_4
       try clear hcz107_0
       try clear hcz107_1
       try clear hcz107_2
       try clear hcz107_3
       try clear hcz107_4
       try clear hcz47_0
       try clear hcz47_1
       try clear hcz47_2
       try clear hcz47_3
       try clear hcz47_4
       try clear hcz51_0
       try clear hcz51_1
       try clear hcz51_2
       try clear hcz51_3
       try clear hcz51_4
       try clear hcz53_0
       try clear hcz53_1
       try clear hcz53_2
       try clear hcz53_3
       try clear hcz53_4
       try clear hcz55_0
       try clear hcz55_1
       try clear hcz55_2
       try clear hcz55_3
       try clear hcz55_4
       try clear hcz60_0
       try clear hcz60_1
       try clear hcz60_2
       try clear hcz60_3
       try clear hcz60_4
       try clear hcz62_0
       try clear hcz62_1
       try clear hcz62_2
       try clear hcz62_3
       try clear hcz62_4
       try clear hcz66_0
       try clear hcz66_1
       try clear hcz66_2
       try clear hcz66_3
       try clear hcz66_4
       try clear hcz68_0
       try clear hcz68_1
       try clear hcz68_2
       try clear hcz68_3
       try clear hcz68_4
       try clear hcz70_0
       try clear hcz70_1
       try clear hcz70_2
       try clear hcz70_3
       try clear hcz70_4
       try clear hcz72_0
       try clear hcz72_1
       try clear hcz72_2
       try clear hcz72_3
       try clear hcz72_4
       try clear hcz78_0
       try clear hcz78_1
       try clear hcz78_2
       try clear hcz78_3
       try clear hcz78_4
       try clear hcz80_0
       try clear hcz80_1
       try clear hcz80_2
       try clear hcz80_3
       try clear hcz80_4
       try clear hcz84_0
       try clear hcz84_1
       try clear hcz84_2
       try clear hcz84_3
       try clear hcz84_4
       try clear hcz86_0
       try clear hcz86_1
       try clear hcz86_2
       try clear hcz86_3
       try clear hcz86_4
       try clear hcz88_0
       try clear hcz88_1
       try clear hcz88_2
       try clear hcz88_3
       try clear hcz88_4
       try clear hcz93_0
       try clear hcz93_1
       try clear hcz93_2
       try clear hcz93_3
       try clear hcz93_4
       try clear hcz95_0
       try clear hcz95_1
       try clear hcz95_2
       try clear hcz95_3
       try clear hcz95_4
       try clear hcz99_0
       try clear hcz99_1
       try clear hcz99_2
       try clear hcz99_3
       try clear hcz99_4
       try clear hfz101_0
       try clear hfz101_1
       try clear hfz101_2
       try clear hfz101_3
       try clear hfz101_4
       try clear hfz103_0
       try clear hfz103_1
       try clear hfz103_2
       try clear hfz103_3
       try clear hfz103_4
       try clear hfz105_0
       try clear hfz105_1
       try clear hfz105_2
       try clear hfz105_3
       try clear hfz105_4
       try clear hfz107_0
       try clear hfz107_1
       try clear hfz107_2
       try clear hfz107_3
       try clear hfz107_4
       try clear hfz47_0
       try clear hfz47_1
       try clear hfz47_2
       try clear hfz47_3
       try clear hfz47_4
       try clear hfz51_0
       try clear hfz51_1
       try clear hfz51_2
       try clear hfz51_3
       try clear hfz51_4
       try clear hfz53_0
       try clear hfz53_1
       try clear hfz53_2
       try clear hfz53_3
       try clear hfz53_4
       try clear hfz55_0
       try clear hfz55_1
       try clear hfz55_2
       try clear hfz55_3
       try clear hfz55_4
       try clear hfz60_0
       try clear hfz60_1
       try clear hfz60_2
       try clear hfz60_3
       try clear hfz60_4
       try clear hfz62_0
       try clear hfz62_1
       try clear hfz62_2
       try clear hfz62_3
       try clear hfz62_4
       try clear hfz66_0
       try clear hfz66_1
       try clear hfz66_2
       try clear hfz66_3
       try clear hfz66_4
       try clear hfz68_0
       try clear hfz68_1
       try clear hfz68_2
       try clear hfz68_3
       try clear hfz68_4
       try clear hfz70_0
       try clear hfz70_1
       try clear hfz70_2
       try clear hfz70_3
       try clear hfz70_4
       try clear hfz72_0
       try clear hfz72_1
       try clear hfz72_2
       try clear hfz72_3
       try clear hfz72_4
       try clear hfz78_0
       try clear hfz78_1
       try clear hfz78_2
       try clear hfz78_3
       try clear hfz78_4
       try clear hfz80_0
       try clear hfz80_1
       try clear hfz80_2
       try clear hfz80_3
       try clear hfz80_4
       try clear hfz84_0
       try clear hfz84_1
       try clear hfz84_2
       try clear hfz84_3
       try clear hfz84_4
       try clear hfz86_0
       try clear hfz86_1
       try clear hfz86_2
       try clear hfz86_3
       try clear hfz86_4
       try clear hfz88_0
       try clear hfz88_1
       try clear hfz88_2
       try clear hfz88_3
       try clear hfz88_4
       try clear hfz93_0
       try clear hfz93_1
       try clear hfz93_2
       try clear hfz93_3
       try clear hfz93_4
       try clear hfz95_0
       try clear hfz95_1
       try clear hfz95_2
       try clear hfz95_3
       try clear hfz95_4
       try clear hfz99_0
       try clear hfz99_1
       try clear hfz99_2
       try clear hfz99_3
       try clear hfz99_4
       obtain ⟨kq, x92_40, rfl, HA, HJ40, BK105, BK110, HB⟩ := hcut
       cases kq with
       | zero => exact absurd HA.out (by simp [hauberkref02_Encode.j2])
       | succ kj40 =>
        have H := HA.out
        clear HA
        simp only [hauberkref02_Encode.j2] at H
        by_cases c108 : x92_40 = true
        ·as_aux_lemma =>
          subst c108
          have H1 : (some (0, 2)) = some (r1, r2) := by rw [if_pos rfl] at H; exact H
          clear H
          have H := H1
          clear H1
          simp only [Option.some.injEq, Prod.mk.injEq] at H
          obtain ⟨rfl, rfl⟩ := H
          go_wp2
          repeat (go_quiet (fail); try go_wp2)
          go_ret2
          exact ⟨by first | rfl | (simp [errW_none, errW_some] <;> rfl) | (simp [*, errW_none, errW_some] <;> rfl), by repeat (first | (with_reducible first | exact HB.out | apply below_alloc | apply pw_below_drewN | apply below_drew1 | refine below_set ?_ GE105.out | refine below_set ?_ GE110.out) | exact HB.out)⟩
        ·replace c108 := Bool.eq_false_iff.mpr c108
         subst c108
         have H1 : (if a0_1 < 0 then (hauberkref02_Encode.j3 kj40 t111 t112 true a0_0 a0_1 a0_2 a0_3 a0_4 t106 t107 t108 t109) else (if a0_1 > 31 then (hauberkref02_Encode.j3 kj40 t111 t112 true a0_0 a0_1 a0_2 a0_3 a0_4 t106 t107 t108 t109) else (if a0_2 < 0 then (hauberkref02_Encode.j3 kj40 t111 t112 true a0_0 a0_1 a0_2 a0_3 a0_4 t106 t107 t108 t109) else (if a0_2 > 31 then (hauberkref02_Encode.j3 kj40 t111 t112 true a0_0 a0_1 a0_2 a0_3 a0_4 t106 t107 t108 t109) else (if a0_3 < 0 then (hauberkref02_Encode.j3 kj40 t111 t112 true a0_0 a0_1 a0_2 a0_3 a0_4 t106 t107 t108 t109) else (hauberkref02_Encode.j3 kj40 t111 t112 (decide (a0_3 > 31)) a0_0 a0_1 a0_2 a0_3 a0_4 t106 t107 t108 t109)))))) = some (r1, r2) := by rw [if_neg (show ¬ (false = true) by decide)] at H; exact H
         clear H
         have H := H1
         clear H1
         have HC109 := Aside0.mk H
         clear H
         go_upto_region 11 with (fail)
         repeat (go_quiet (fail); go_upto_region 11 with (fail))
         go_cut [120] (fun v120 wc => ∃ (kq : Nat) (x120_108 : Bool), v120 = .bool x120_108 ∧ Aside0 (hauberkref02_Encode.j3 kq t111 t112 x120_108 a0_0 a0_1 a0_2 a0_3 a0_4 t106 t107 t108 t109 = some (r1, r2)) ∧ Aside0 (kq ≤ kj40) ∧ Aside0 (wc.heap[gb105]? = some (.cells #[.int .i64 a0_0, .int .i64 a0_1, .int .i64 a0_2, .int .i64 a0_3, .int .i64 a0_4] 29 (0, 0))) ∧ Aside0 (wc.heap[gb110]? = some (.cells #[.int .u8 t106, .int .i64 t107, .int .i64 t108, .int .i64 t109] 62 (0, 0))) ∧ Aside0 (Below w.heap.size w wc))
         case first =>
          have H := HC109.out
          clear HC109
          by_cases c110 : a0_1 < 0
          ·as_aux_lemma =>
            rw [if_pos c110] at H
            have c110b0 : decide (a0_1 < 0) = true := decide_eq_true c110
            clear c110
            (first | rw [c110b0] | (simp only [i64_w, i32_w]; rw [c110b0]) | skip)
            have H' := Aside0.mk H
            clear H
            have hnb111 := NB105_110.out
            have hnc111 := NB110_105.out
            have hcz112_0 : wc.cell? ⟨gb105, 0, none⟩ = some (.int .i64 a0_0) := (blk_cell BK105.out 0).trans rfl
            have hcz112_1 : wc.cell? ⟨gb105, 1, none⟩ = some (.int .i64 a0_1) := (blk_cell BK105.out 1).trans rfl
            have hcz112_2 : wc.cell? ⟨gb105, 2, none⟩ = some (.int .i64 a0_2) := (blk_cell BK105.out 2).trans rfl
            have hcz112_3 : wc.cell? ⟨gb105, 3, none⟩ = some (.int .i64 a0_3) := (blk_cell BK105.out 3).trans rfl
            have hcz112_4 : wc.cell? ⟨gb105, 4, none⟩ = some (.int .i64 a0_4) := (blk_cell BK105.out 4).trans rfl
            have hfz112_0 := blk_frozen BK105.out 0
            have hfz112_1 := blk_frozen BK105.out 1
            have hfz112_2 := blk_frozen BK105.out 2
            have hfz112_3 := blk_frozen BK105.out 3
            have hfz112_4 := blk_frozen BK105.out 4
            go_wp2
            repeat (go_quiet (fail); try go_wp2)
            go_meet
            case rel => exact ⟨_, (true), (by first | rfl | (simp; done) | (simp [*]; done)), H', ⟨by have := HJ2.out; have := HJ36.out; have := HJ40.out; first | omega | exact Nat.le_refl _⟩, ⟨by (with_reducible repeat (first | refine blk_drewN ?_ _ | refine blk_drew ?_ | refine blk_alloc ?_ _)); exact BK105.out⟩, ⟨by (with_reducible repeat (first | refine blk_drewN ?_ _ | refine blk_drew ?_ | refine blk_alloc ?_ _)); exact BK110.out⟩, ⟨by repeat (first | (with_reducible first | exact HB.out | apply below_alloc | apply pw_below_drewN | apply below_drew1 | refine below_set ?_ GE105.out | refine below_set ?_ GE110.out) | exact HB.out)⟩⟩
          ·rw [if_neg c110] at H
           have c110b0 : decide (a0_1 < 0) = false := decide_eq_false c110
           clear c110
           (first | rw [c110b0] | (simp only [i64_w, i32_w]; rw [c110b0]) | skip)
           by_cases c113 : a0_1 > 31
           ·as_aux_lemma =>
             rw [if_pos c113] at H
             have c113b0 : decide (31 < a0_1) = true := decide_eq_true c113
             clear c113
             have H' := Aside0.mk H
             clear H
             have hnb114 := NB105_110.out
             have hnc114 := NB110_105.out
             have hcz115_0 : wc.cell? ⟨gb105, 0, none⟩ = some (.int .i64 a0_0) := (blk_cell BK105.out 0).trans rfl
             have hcz115_1 : wc.cell? ⟨gb105, 1, none⟩ = some (.int .i64 a0_1) := (blk_cell BK105.out 1).trans rfl
             have hcz115_2 : wc.cell? ⟨gb105, 2, none⟩ = some (.int .i64 a0_2) := (blk_cell BK105.out 2).trans rfl
             have hcz115_3 : wc.cell? ⟨gb105, 3, none⟩ = some (.int .i64 a0_3) := (blk_cell BK105.out 3).trans rfl
             have hcz115_4 : wc.cell? ⟨gb105, 4, none⟩ = some (.int .i64 a0_4) := (blk_cell BK105.out 4).trans rfl
             have hfz115_0 := blk_frozen BK105.out 0
             have hfz115_1 := blk_frozen BK105.out 1
             have hfz115_2 := blk_frozen BK105.out 2
             have hfz115_3 := blk_frozen BK105.out 3
             have hfz115_4 := blk_frozen BK105.out 4
             go_wp2
             repeat (go_quiet (fail); try go_wp2)
             go_meet
             case rel => exact ⟨_, (true), (by first | rfl | (simp; done) | (simp [*]; done)), H', ⟨by have := HJ2.out; have := HJ36.out; have := HJ40.out; first | omega | exact Nat.le_refl _⟩, ⟨by (with_reducible repeat (first | refine blk_drewN ?_ _ | refine blk_drew ?_ | refine blk_alloc ?_ _)); exact BK105.out⟩, ⟨by (with_reducible repeat (first | refine blk_drewN ?_ _ | refine blk_drew ?_ | refine blk_alloc ?_ _)); exact BK110.out⟩, ⟨by repeat (first | (with_reducible first | exact HB.out | apply below_alloc | apply pw_below_drewN | apply below_drew1 | refine below_set ?_ GE105.out | refine below_set ?_ GE110.out) | exact HB.out)⟩⟩
           ·rw [if_neg c113] at H
            have c113b0 : decide (31 < a0_1) = false := decide_eq_false c113
            clear c113
            by_cases c116 : a0_2 < 0
            ·as_aux_lemma =>
              rw [if_pos c116] at H
              have c116b0 : decide (a0_2 < 0) = true := decide_eq_true c116
              clear c116
              have H' := Aside0.mk H
              clear H
              have hnb117 := NB105_110.out
              have hnc117 := NB110_105.out
              have hcz118_0 : wc.cell? ⟨gb105, 0, none⟩ = some (.int .i64 a0_0) := (blk_cell BK105.out 0).trans rfl
              have hcz118_1 : wc.cell? ⟨gb105, 1, none⟩ = some (.int .i64 a0_1) := (blk_cell BK105.out 1).trans rfl
              have hcz118_2 : wc.cell? ⟨gb105, 2, none⟩ = some (.int .i64 a0_2) := (blk_cell BK105.out 2).trans rfl
              have hcz118_3 : wc.cell? ⟨gb105, 3, none⟩ = some (.int .i64 a0_3) := (blk_cell BK105.out 3).trans rfl
              have hcz118_4 : wc.cell? ⟨gb105, 4, none⟩ = some (.int .i64 a0_4) := (blk_cell BK105.out 4).trans rfl
              have hfz118_0 := blk_frozen BK105.out 0
              have hfz118_1 := blk_frozen BK105.out 1
              have hfz118_2 := blk_frozen BK105.out 2
              have hfz118_3 := blk_frozen BK105.out 3
              have hfz118_4 := blk_frozen BK105.out 4
              go_wp2
              repeat (go_quiet (fail); try go_wp2)
              go_meet
              case rel => exact ⟨_, (true), (by first | rfl | (simp; done) | (simp [*]; done)), H', ⟨by have := HJ2.out; have := HJ36.out; have := HJ40.out; first | omega | exact Nat.le_refl _⟩, ⟨by (with_reducible repeat (first | refine blk_drewN ?_ _ | refine blk_drew ?_ | refine blk_alloc ?_ _)); exact BK105.out⟩, ⟨by (with_reducible repeat (first | refine blk_drewN ?_ _ | refine blk_drew ?_ | refine blk_alloc ?_ _)); exact BK110.out⟩, ⟨by repeat (first | (with_reducible first | exact HB.out | apply below_alloc | apply pw_below_drewN | apply below_drew1 | refine below_set ?_ GE105.out | refine below_set ?_ GE110.out) | exact HB.out)⟩⟩
            ·rw [if_neg c116] at H
             have c116b0 : decide (a0_2 < 0) = false := decide_eq_false c116
             clear c116
             by_cases c119 : a0_2 > 31
             ·as_aux_lemma =>
               rw [if_pos c119] at H
               have c119b0 : decide (31 < a0_2) = true := decide_eq_true c119
               clear c119
               have H' := Aside0.mk H
               clear H
               have hnb120 := NB105_110.out
               have hnc120 := NB110_105.out
               have hcz121_0 : wc.cell? ⟨gb105, 0, none⟩ = some (.int .i64 a0_0) := (blk_cell BK105.out 0).trans rfl
               have hcz121_1 : wc.cell? ⟨gb105, 1, none⟩ = some (.int .i64 a0_1) := (blk_cell BK105.out 1).trans rfl
               have hcz121_2 : wc.cell? ⟨gb105, 2, none⟩ = some (.int .i64 a0_2) := (blk_cell BK105.out 2).trans rfl
               have hcz121_3 : wc.cell? ⟨gb105, 3, none⟩ = some (.int .i64 a0_3) := (blk_cell BK105.out 3).trans rfl
               have hcz121_4 : wc.cell? ⟨gb105, 4, none⟩ = some (.int .i64 a0_4) := (blk_cell BK105.out 4).trans rfl
               have hfz121_0 := blk_frozen BK105.out 0
               have hfz121_1 := blk_frozen BK105.out 1
               have hfz121_2 := blk_frozen BK105.out 2
               have hfz121_3 := blk_frozen BK105.out 3
               have hfz121_4 := blk_frozen BK105.out 4
               go_wp2
               repeat (go_quiet (fail); try go_wp2)
               go_meet
               case rel => exact ⟨_, (true), (by first | rfl | (simp; done) | (simp [*]; done)), H', ⟨by have := HJ2.out; have := HJ36.out; have := HJ40.out; first | omega | exact Nat.le_refl _⟩, ⟨by (with_reducible repeat (first | refine blk_drewN ?_ _ | refine blk_drew ?_ | refine blk_alloc ?_ _)); exact BK105.out⟩, ⟨by (with_reducible repeat (first | refine blk_drewN ?_ _ | refine blk_drew ?_ | refine blk_alloc ?_ _)); exact BK110.out⟩, ⟨by repeat (first | (with_reducible first | exact HB.out | apply below_alloc | apply pw_below_drewN | apply below_drew1 | refine below_set ?_ GE105.out | refine below_set ?_ GE110.out) | exact HB.out)⟩⟩
             ·rw [if_neg c119] at H
              have c119b0 : decide (31 < a0_2) = false := decide_eq_false c119
              clear c119
              by_cases c122 : a0_3 < 0
              ·as_aux_lemma =>
                rw [if_pos c122] at H
                have c122b0 : decide (a0_3 < 0) = true := decide_eq_true c122
                clear c122
                have H' := Aside0.mk H
                clear H
                have hnb123 := NB105_110.out
                have hnc123 := NB110_105.out
                have hcz124_0 : wc.cell? ⟨gb105, 0, none⟩ = some (.int .i64 a0_0) := (blk_cell BK105.out 0).trans rfl
                have hcz124_1 : wc.cell? ⟨gb105, 1, none⟩ = some (.int .i64 a0_1) := (blk_cell BK105.out 1).trans rfl
                have hcz124_2 : wc.cell? ⟨gb105, 2, none⟩ = some (.int .i64 a0_2) := (blk_cell BK105.out 2).trans rfl
                have hcz124_3 : wc.cell? ⟨gb105, 3, none⟩ = some (.int .i64 a0_3) := (blk_cell BK105.out 3).trans rfl
                have hcz124_4 : wc.cell? ⟨gb105, 4, none⟩ = some (.int .i64 a0_4) := (blk_cell BK105.out 4).trans rfl
                have hfz124_0 := blk_frozen BK105.out 0
                have hfz124_1 := blk_frozen BK105.out 1
                have hfz124_2 := blk_frozen BK105.out 2
                have hfz124_3 := blk_frozen BK105.out 3
                have hfz124_4 := blk_frozen BK105.out 4
                go_wp2
                repeat (go_quiet (fail); try go_wp2)
                go_meet
                case rel => exact ⟨_, (true), (by first | rfl | (simp; done) | (simp [*]; done)), H', ⟨by have := HJ2.out; have := HJ36.out; have := HJ40.out; first | omega | exact Nat.le_refl _⟩, ⟨by (with_reducible repeat (first | refine blk_drewN ?_ _ | refine blk_drew ?_ | refine blk_alloc ?_ _)); exact BK105.out⟩, ⟨by (with_reducible repeat (first | refine blk_drewN ?_ _ | refine blk_drew ?_ | refine blk_alloc ?_ _)); exact BK110.out⟩, ⟨by repeat (first | (with_reducible first | exact HB.out | apply below_alloc | apply pw_below_drewN | apply below_drew1 | refine below_set ?_ GE105.out | refine below_set ?_ GE110.out) | exact HB.out)⟩⟩
              ·as_aux_lemma =>
                rw [if_neg c122] at H
                have c122b0 : decide (a0_3 < 0) = false := decide_eq_false c122
                clear c122
                have H' := Aside0.mk H
                clear H
                have hnb125 := NB105_110.out
                have hnc125 := NB110_105.out
                have hcz126_0 : wc.cell? ⟨gb105, 0, none⟩ = some (.int .i64 a0_0) := (blk_cell BK105.out 0).trans rfl
                have hcz126_1 : wc.cell? ⟨gb105, 1, none⟩ = some (.int .i64 a0_1) := (blk_cell BK105.out 1).trans rfl
                have hcz126_2 : wc.cell? ⟨gb105, 2, none⟩ = some (.int .i64 a0_2) := (blk_cell BK105.out 2).trans rfl
                have hcz126_3 : wc.cell? ⟨gb105, 3, none⟩ = some (.int .i64 a0_3) := (blk_cell BK105.out 3).trans rfl
                have hcz126_4 : wc.cell? ⟨gb105, 4, none⟩ = some (.int .i64 a0_4) := (blk_cell BK105.out 4).trans rfl
                have hfz126_0 := blk_frozen BK105.out 0
                have hfz126_1 := blk_frozen BK105.out 1
                have hfz126_2 := blk_frozen BK105.out 2
                have hfz126_3 := blk_frozen BK105.out 3
                have hfz126_4 := blk_frozen BK105.out 4
                go_wp2
                repeat (go_quiet (fail); try go_wp2)
                go_meet
                case rel => exact ⟨_, (decide (a0_3 > 31)), (by first | rfl | (simp; done) | (simp [*]; done)), H', ⟨by have := HJ2.out; have := HJ36.out; have := HJ40.out; first | omega | exact Nat.le_refl _⟩, ⟨by (with_reducible repeat (first | refine blk_drewN ?_ _ | refine blk_drew ?_ | refine blk_alloc ?_ _)); exact BK105.out⟩, ⟨by (with_reducible repeat (first | refine blk_drewN ?_ _ | refine blk_drew ?_ | refine blk_alloc ?_ _)); exact BK110.out⟩, ⟨by repeat (first | (with_reducible first | exact HB.out | apply below_alloc | apply pw_below_drewN | apply below_drew1 | refine below_set ?_ GE105.out | refine below_set ?_ GE110.out) | exact HB.out)⟩⟩
         case rest =>
          clear HC109
          try clear c1
          try clear p2
          try clear c4
          try clear c5
          try clear c6
          try clear c7
          try clear c8
          try clear c9
          try clear c10
          try clear c11
          try clear c12
          try clear c42
          try clear c43
          try clear c44
          try clear c45
          try clear c45b0
          try clear c46
          try clear c48
          try clear c48b0
          try clear c48b1
          try clear c49
          try clear c49b0
          try clear c50
          try clear c52
          try clear c54
          try clear c56
          try clear c56b0
          try clear c56b1
          try clear c57
          try clear c58
          try clear c58b0
          try clear c59
          try clear c61
          try clear c63
          try clear c63b0
          try clear c63b1
          try clear c64
          try clear c64b0
          try clear c65
          try clear c67
          try clear c69
          try clear c71
          try clear c73
          try clear c73b0
          try clear c73b1
          try clear c74
          try clear c75
          try clear c76
          try clear c76b0
          try clear c77
          try clear c79
          try clear c81
          try clear c81b0
          try clear c81b1
          try clear c82
          try clear c82b0
          try clear c83
          try clear c85
          try clear c87
          try clear c89
          try clear c89b0
          try clear c89b1
          try clear c90
          try clear c91
          try clear c91b0
          try clear c92
          try clear c94
          try clear c96
          try clear c96b0
          try clear c96b1
          try clear c97
          try clear c97b0
          try clear c98
          try clear c100
          try clear c102
          try clear c104
          try clear c106
          try clear c108
          try clear c110
          try clear c110b0
          try clear c111
          try clear c113
          try clear c113b0
          try clear c114
          try clear c116
          try clear c116b0
          try clear c117
          try clear c119
          try clear c119b0
          try clear c120
          try clear c122
          try clear c122b0
          try clear c123
          try clear c125
          try clear hcz101_0
          try clear hcz101_1
          try clear hcz101_2
          try clear hcz101_3
          try clear hcz101_4
          try clear hcz103_0
          try clear hcz103_1
          try clear hcz103_2
          try clear hcz103_3
          try clear hcz103_4
          try clear hcz105_0
          try clear hcz105_1
          try clear hcz105_2
          try clear hcz105_3
          try clear hcz105_4
          try clear hcz107_0
          try clear hcz107_1
          try clear hcz107_2
          try clear hcz107_3
          try clear hcz107_4
          try clear hcz112_0
          try clear hcz112_1
          try clear hcz112_2
          try clear hcz112_3
          try clear hcz112_4
          try clear hcz115_0
          try clear hcz115_1
          try clear hcz115_2
          try clear hcz115_3
          try clear hcz115_4
          try clear hcz118_0
          try clear hcz118_1
          try clear hcz118_2
          try clear hcz118_3
          try clear hcz118_4
          try clear hcz121_0
          try clear hcz121_1
          try clear hcz121_2
          try clear hcz121_3
          try clear hcz121_4
          try clear hcz124_0
          try clear hcz124_1
          try clear hcz124_2
          try clear hcz124_3
          try clear hcz124_4
          try clear hcz126_0
          try clear hcz126_1
          try clear hcz126_2
          try clear hcz126_3
          try clear hcz126_4
          try clear hcz47_0
          try clear hcz47_1
          try clear hcz47_2
          try clear hcz47_3
          try clear hcz47_4
          try clear hcz51_0
          try clear hcz51_1
          try clear hcz51_2
          try clear hcz51_3
          try clear hcz51_4
          try clear hcz53_0
          try clear hcz53_1
          try clear hcz53_2
          try clear hcz53_3
          try clear hcz53_4
          try clear hcz55_0
          try clear hcz55_1
          try clear hcz55_2
          try clear hcz55_3
          try clear hcz55_4
          try clear hcz60_0
          try clear hcz60_1
          try clear hcz60_2
          try clear hcz60_3
          try clear hcz60_4
          try clear hcz62_0
          try clear hcz62_1
          try clear hcz62_2
          try clear hcz62_3
          try clear hcz62_4
          try clear hcz66_0
          try clear hcz66_1
          try clear hcz66_2
          try clear hcz66_3
          try clear hcz66_4
          try clear hcz68_0
          try clear hcz68_1
          try clear hcz68_2
          try clear hcz68_3
          try clear hcz68_4
          try clear hcz70_0
          try clear hcz70_1
          try clear hcz70_2
          try clear hcz70_3
          try clear hcz70_4
          try clear hcz72_0
          try clear hcz72_1
          try clear hcz72_2
          try clear hcz72_3
          try clear hcz72_4
          try clear hcz78_0
          try clear hcz78_1
          try clear hcz78_2
          try clear hcz78_3
          try clear hcz78_4
          try clear hcz80_0
          try clear hcz80_1
          try clear hcz80_2
          try clear hcz80_3
          try clear hcz80_4
          try clear hcz84_0
          try clear hcz84_1
          try clear hcz84_2
          try clear hcz84_3
          try clear hcz84_4
          try clear hcz86_0
          try clear hcz86_1
          try clear hcz86_2
          try clear hcz86_3
          try clear hcz86_4
          try clear hcz88_0
          try clear hcz88_1
          try clear hcz88_2
          try clear hcz88_3
          try clear hcz88_4
          try clear hcz93_0
          try clear hcz93_1
          try clear hcz93_2
          try clear hcz93_3
          try clear hcz93_4
          try clear hcz95_0
          try clear hcz95_1
          try clear hcz95_2
          try clear hcz95_3
          try clear hcz95_4
          try clear hcz99_0
          try clear hcz99_1
          try clear hcz99_2
          try clear hcz99_3
          try clear hcz99_4
          try clear hfz101_0
          try clear hfz101_1
          try clear hfz101_2
          try clear hfz101_3
          try clear hfz101_4
          try clear hfz103_0
          try clear hfz103_1
          try clear hfz103_2
          try clear hfz103_3
          try clear hfz103_4
          try clear hfz105_0
          try clear hfz105_1
          try clear hfz105_2
          try clear hfz105_3
          try clear hfz105_4
          try clear hfz107_0
          try clear hfz107_1
          try clear hfz107_2
          try clear hfz107_3
          try clear hfz107_4
          try clear hfz112_0
          try clear hfz112_1
          try clear hfz112_2
          try clear hfz112_3
          try clear hfz112_4
          try clear hfz115_0
          try clear hfz115_1
          try clear hfz115_2
          try clear hfz115_3
          try clear hfz115_4
          try clear hfz118_0
          try clear hfz118_1
          try clear hfz118_2
          try clear hfz118_3
          try clear hfz118_4
          try clear hfz121_0
          try clear hfz121_1
          try clear hfz121_2
          try clear hfz121_3
          try clear hfz121_4
          try clear hfz124_0
          try clear hfz124_1
          try clear hfz124_2
          try clear hfz124_3
          try clear hfz124_4
          try clear hfz126_0
          try clear hfz126_1
          try clear hfz126_2
          try clear hfz126_3
          try clear hfz126_4
          try clear hfz47_0
          try clear hfz47_1
          try clear hfz47_2
          try clear hfz47_3
          try clear hfz47_4
          try clear hfz51_0
          try clear hfz51_1
          try clear hfz51_2
          try clear hfz51_3
          try clear hfz51_4
          try clear hfz53_0
          try clear hfz53_1
          try clear hfz53_2
          try clear hfz53_3
          try clear hfz53_4
          try clear hfz55_0
          try clear hfz55_1
          try clear hfz55_2
          try clear hfz55_3
          try clear hfz55_4
          try clear hfz60_0
          try clear hfz60_1
          try clear hfz60_2
          try clear hfz60_3
          try clear hfz60_4
          try clear hfz62_0
          try clear hfz62_1
          try clear hfz62_2
          try clear hfz62_3
          try clear hfz62_4
          try clear hfz66_0
          try clear hfz66_1
          try clear hfz66_2
          try clear hfz66_3
          try clear hfz66_4
          try clear hfz68_0
          try clear hfz68_1
          try clear hfz68_2
          try clear hfz68_3
          try clear hfz68_4
          try clear hfz70_0
          try clear hfz70_1
          try clear hfz70_2
          try clear hfz70_3
          try clear hfz70_4
          try clear hfz72_0
          try clear hfz72_1
          try clear hfz72_2
          try clear hfz72_3
          try clear hfz72_4
          try clear hfz78_0
          try clear hfz78_1
          try clear hfz78_2
          try clear hfz78_3
          try clear hfz78_4
          try clear hfz80_0
          try clear hfz80_1
          try clear hfz80_2
          try clear hfz80_3
          try clear hfz80_4
          try clear hfz84_0
          try clear hfz84_1
          try clear hfz84_2
          try clear hfz84_3
          try clear hfz84_4
          try clear hfz86_0
          try clear hfz86_1
          try clear hfz86_2
          try clear hfz86_3
          try clear hfz86_4
          try clear hfz88_0
          try clear hfz88_1
          try clear hfz88_2
          try clear hfz88_3
          try clear hfz88_4
          try clear hfz93_0
          try clear hfz93_1
          try clear hfz93_2
          try clear hfz93_3
          try clear hfz93_4
          try clear hfz95_0
          try clear hfz95_1
          try clear hfz95_2
          try clear hfz95_3
          try clear hfz95_4
          try clear hfz99_0
          try clear hfz99_1
          try clear hfz99_2
          try clear hfz99_3
          try clear hfz99_4
          try clear p2
          obtain ⟨kq, x120_108, rfl, HA, HJ108, BK105, BK110, HB⟩ := hcut
          cases kq with
          | zero => exact absurd HA.out (by simp [hauberkref02_Encode.j3])
          | succ kj108 =>
           have H := HA.out
           clear HA
           simp only [hauberkref02_Encode.j3] at H
           by_cases c127 : x120_108 = true
           ·as_aux_lemma =>
             subst c127
             have H1 : (some (0, 1)) = some (r1, r2) := by rw [if_pos rfl] at H; exact H
             clear H
             have H := H1
             clear H1
             simp only [Option.some.injEq, Prod.mk.injEq] at H
             obtain ⟨rfl, rfl⟩ := H
             go_wp2
             repeat (go_quiet (fail); try go_wp2)
             go_ret2
             exact ⟨by first | rfl | (simp [errW_none, errW_some] <;> rfl) | (simp [*, errW_none, errW_some] <;> rfl), by repeat (first | (with_reducible first | exact HB.out | apply below_alloc | apply pw_below_drewN | apply below_drew1 | refine below_set ?_ GE105.out | refine below_set ?_ GE110.out) | exact HB.out)⟩
           ·replace c127 := Bool.eq_false_iff.mpr c127
            subst c127
            have H1 : (if t111 ≤ t112 then (if a0_4 < t111 then (hauberkref02_Encode.j4 kj108 true a0_0 a0_1 a0_2 a0_3 a0_4 t106 t107 t108 t109) else (if a0_4 > t112 then (hauberkref02_Encode.j4 kj108 true a0_0 a0_1 a0_2 a0_3 a0_4 t106 t107 t108 t109) else (if t106 = 66 then (hauberkref02_Encode.j4 kj108 ((Int.tmod a0_4 2) != 0) a0_0 a0_1 a0_2 a0_3 a0_4 t106 t107 t108 t109) else (if t106 = 74 then (hauberkref02_Encode.j4 kj108 ((Int.tmod a0_4 2) != 0) a0_0 a0_1 a0_2 a0_3 a0_4 t106 t107 t108 t109) else (hauberkref02_Encode.j4 kj108 false a0_0 a0_1 a0_2 a0_3 a0_4 t106 t107 t108 t109))))) else (hauberkref02_Encode.j4 kj108 false a0_0 a0_1 a0_2 a0_3 a0_4 t106 t107 t108 t109)) = some (r1, r2) := by rw [if_neg (show ¬ (false = true) by decide)] at H; exact H
            clear H
            have H := H1
            clear H1
            have HC128 := Aside0.mk H
            clear H
            go_upto_region 13 with (fail)
            repeat (go_quiet (fail); go_upto_region 13 with (fail))
            go_cut [151] (fun v151 wc => ∃ (kq : Nat) (x151_127 : Bool), v151 = .bool x151_127 ∧ Aside0 (hauberkref02_Encode.j4 kq x151_127 a0_0 a0_1 a0_2 a0_3 a0_4 t106 t107 t108 t109 = some (r1, r2)) ∧ Aside0 (kq ≤ kj108) ∧ Aside0 (wc.heap[gb105]? = some (.cells #[.int .i64 a0_0, .int .i64 a0_1, .int .i64 a0_2, .int .i64 a0_3, .int .i64 a0_4] 29 (0, 0))) ∧ Aside0 (wc.heap[gb110]? = some (.cells #[.int .u8 t106, .int .i64 t107, .int .i64 t108, .int .i64 t109] 62 (0, 0))) ∧ Aside0 (Below w.heap.size w wc))
            case first =>
             have H := HC128.out
             clear HC128
             by_cases c129 : t111 ≤ t112
             ·rw [if_pos c129] at H
              have c129b0 : decide (t111 ≤ t112) = true := decide_eq_true c129
              clear c129
              (first | rw [c129b0] | (simp only [i64_w, i32_w]; rw [c129b0]) | skip)
              by_cases c130 : a0_4 < t111
              ·as_aux_lemma =>
                rw [if_pos c130] at H
                have c130b0 : decide (a0_4 < t111) = true := decide_eq_true c130
                clear c130
                have H' := Aside0.mk H
                clear H
                have hnb131 := NB105_110.out
                have hnc131 := NB110_105.out
                have hcz132_0 : wc.cell? ⟨gb105, 0, none⟩ = some (.int .i64 a0_0) := (blk_cell BK105.out 0).trans rfl
                have hcz132_1 : wc.cell? ⟨gb105, 1, none⟩ = some (.int .i64 a0_1) := (blk_cell BK105.out 1).trans rfl
                have hcz132_2 : wc.cell? ⟨gb105, 2, none⟩ = some (.int .i64 a0_2) := (blk_cell BK105.out 2).trans rfl
                have hcz132_3 : wc.cell? ⟨gb105, 3, none⟩ = some (.int .i64 a0_3) := (blk_cell BK105.out 3).trans rfl
                have hcz132_4 : wc.cell? ⟨gb105, 4, none⟩ = some (.int .i64 a0_4) := (blk_cell BK105.out 4).trans rfl
                have hfz132_0 := blk_frozen BK105.out 0
                have hfz132_1 := blk_frozen BK105.out 1
                have hfz132_2 := blk_frozen BK105.out 2
                have hfz132_3 := blk_frozen BK105.out 3
                have hfz132_4 := blk_frozen BK105.out 4
                go_wp2
                repeat (go_quiet (fail); try go_wp2)
                go_meet
                case rel => exact ⟨_, (true), (by first | rfl | (simp; done) | (simp [*]; done)), H', ⟨by have := HJ2.out; have := HJ36.out; have := HJ40.out; have := HJ108.out; first | omega | exact Nat.le_refl _⟩, ⟨by (with_reducible repeat (first | refine blk_drewN ?_ _ | refine blk_drew ?_ | refine blk_alloc ?_ _)); exact BK105.out⟩, ⟨by (with_reducible repeat (first | refine blk_drewN ?_ _ | refine blk_drew ?_ | refine blk_alloc ?_ _)); exact BK110.out⟩, ⟨by repeat (first | (with_reducible first | exact HB.out | apply below_alloc | apply pw_below_drewN | apply below_drew1 | refine below_set ?_ GE105.out | refine below_set ?_ GE110.out) | exact HB.out)⟩⟩
              ·rw [if_neg c130] at H
               have c130b0 : decide (a0_4 < t111) = false := decide_eq_false c130
               clear c130
               by_cases c133 : a0_4 > t112
               ·as_aux_lemma =>
                 rw [if_pos c133] at H
                 have c133b0 : decide (t112 < a0_4) = true := decide_eq_true c133
                 clear c133
                 have H' := Aside0.mk H
                 clear H
                 have hnb134 := NB105_110.out
                 have hnc134 := NB110_105.out
                 have hcz135_0 : wc.cell? ⟨gb105, 0, none⟩ = some (.int .i64 a0_0) := (blk_cell BK105.out 0).trans rfl
                 have hcz135_1 : wc.cell? ⟨gb105, 1, none⟩ = some (.int .i64 a0_1) := (blk_cell BK105.out 1).trans rfl
                 have hcz135_2 : wc.cell? ⟨gb105, 2, none⟩ = some (.int .i64 a0_2) := (blk_cell BK105.out 2).trans rfl
                 have hcz135_3 : wc.cell? ⟨gb105, 3, none⟩ = some (.int .i64 a0_3) := (blk_cell BK105.out 3).trans rfl
                 have hcz135_4 : wc.cell? ⟨gb105, 4, none⟩ = some (.int .i64 a0_4) := (blk_cell BK105.out 4).trans rfl
                 have hfz135_0 := blk_frozen BK105.out 0
                 have hfz135_1 := blk_frozen BK105.out 1
                 have hfz135_2 := blk_frozen BK105.out 2
                 have hfz135_3 := blk_frozen BK105.out 3
                 have hfz135_4 := blk_frozen BK105.out 4
                 go_wp2
                 repeat (go_quiet (fail); try go_wp2)
                 go_meet
                 case rel => exact ⟨_, (true), (by first | rfl | (simp; done) | (simp [*]; done)), H', ⟨by have := HJ2.out; have := HJ36.out; have := HJ40.out; have := HJ108.out; first | omega | exact Nat.le_refl _⟩, ⟨by (with_reducible repeat (first | refine blk_drewN ?_ _ | refine blk_drew ?_ | refine blk_alloc ?_ _)); exact BK105.out⟩, ⟨by (with_reducible repeat (first | refine blk_drewN ?_ _ | refine blk_drew ?_ | refine blk_alloc ?_ _)); exact BK110.out⟩, ⟨by repeat (first | (with_reducible first | exact HB.out | apply below_alloc | apply pw_below_drewN | apply below_drew1 | refine below_set ?_ GE105.out | refine below_set ?_ GE110.out) | exact HB.out)⟩⟩
               ·rw [if_neg c133] at H
                have c133b0 : decide (t112 < a0_4) = false := decide_eq_false c133
                clear c133
                by_cases c136 : t106 = 66
                ·as_aux_lemma =>
                  rw [if_pos c136] at H
                  have c136b0 : (t106 == 66) = true := beq_iff_eq.mpr c136
                  have c136b1 : (t106 != 66) = false := bne_eq_false_iff_eq.mpr c136
                  clear c136
                  have H' := Aside0.mk H
                  clear H
                  have hnb137 := NB105_110.out
                  have hnc137 := NB110_105.out
                  have hcz138_0 : wc.cell? ⟨gb105, 0, none⟩ = some (.int .i64 a0_0) := (blk_cell BK105.out 0).trans rfl
                  have hcz138_1 : wc.cell? ⟨gb105, 1, none⟩ = some (.int .i64 a0_1) := (blk_cell BK105.out 1).trans rfl
                  have hcz138_2 : wc.cell? ⟨gb105, 2, none⟩ = some (.int .i64 a0_2) := (blk_cell BK105.out 2).trans rfl
                  have hcz138_3 : wc.cell? ⟨gb105, 3, none⟩ = some (.int .i64 a0_3) := (blk_cell BK105.out 3).trans rfl
                  have hcz138_4 : wc.cell? ⟨gb105, 4, none⟩ = some (.int .i64 a0_4) := (blk_cell BK105.out 4).trans rfl
                  have hfz138_0 := blk_frozen BK105.out 0
                  have hfz138_1 := blk_frozen BK105.out 1
                  have hfz138_2 := blk_frozen BK105.out 2
                  have hfz138_3 := blk_frozen BK105.out 3
                  have hfz138_4 := blk_frozen BK105.out 4
                  have hcz139_0 : wc.cell? ⟨gb110, 0, none⟩ = some (.int .u8 t106) := (blk_cell BK110.out 0).trans rfl
                  have hcz139_1 : wc.cell? ⟨gb110, 1, none⟩ = some (.int .i64 t107) := (blk_cell BK110.out 1).trans rfl
                  have hcz139_2 : wc.cell? ⟨gb110, 2, none⟩ = some (.int .i64 t108) := (blk_cell BK110.out 2).trans rfl
                  have hcz139_3 : wc.cell? ⟨gb110, 3, none⟩ = some (.int .i64 t109) := (blk_cell BK110.out 3).trans rfl
                  have hfz139_0 := blk_frozen BK110.out 0
                  have hfz139_1 := blk_frozen BK110.out 1
                  have hfz139_2 := blk_frozen BK110.out 2
                  have hfz139_3 := blk_frozen BK110.out 3
                  go_wp2
                  repeat (go_quiet (fail); try go_wp2)
                  go_meet
                  case rel => exact ⟨_, (((Int.tmod a0_4 2) != 0)), (by first | rfl | (simp; done) | (simp [*]; done)), H', ⟨by have := HJ2.out; have := HJ36.out; have := HJ40.out; have := HJ108.out; first | omega | exact Nat.le_refl _⟩, ⟨by (with_reducible repeat (first | refine blk_drewN ?_ _ | refine blk_drew ?_ | refine blk_alloc ?_ _)); exact BK105.out⟩, ⟨by (with_reducible repeat (first | refine blk_drewN ?_ _ | refine blk_drew ?_ | refine blk_alloc ?_ _)); exact BK110.out⟩, ⟨by repeat (first | (with_reducible first | exact HB.out | apply below_alloc | apply pw_below_drewN | apply below_drew1 | refine below_set ?_ GE105.out | refine below_set ?_ GE110.out) | exact HB.out)⟩⟩
                ·rw [if_neg c136] at H
                 have c136b0 : (t106 == 66) = false := beq_eq_false_iff_ne.mpr c136
                 have c136b1 : (t106 != 66) = true := bne_iff_ne.mpr c136
                 by_cases c140 : t106 = 74
                 ·as_aux_lemma =>
                   rw [if_pos c140] at H
                   have c140b0 : (t106 == 74) = true := beq_iff_eq.mpr c140
                   have c140b1 : (t106 != 74) = false := bne_eq_false_iff_eq.mpr c140
                   clear c140
                   have H' := Aside0.mk H
                   clear H
                   have hnb141 := NB105_110.out
                   have hnc141 := NB110_105.out
                   have hcz142_0 : wc.cell? ⟨gb105, 0, none⟩ = some (.int .i64 a0_0) := (blk_cell BK105.out 0).trans rfl
                   have hcz142_1 : wc.cell? ⟨gb105, 1, none⟩ = some (.int .i64 a0_1) := (blk_cell BK105.out 1).trans rfl
                   have hcz142_2 : wc.cell? ⟨gb105, 2, none⟩ = some (.int .i64 a0_2) := (blk_cell BK105.out 2).trans rfl
                   have hcz142_3 : wc.cell? ⟨gb105, 3, none⟩ = some (.int .i64 a0_3) := (blk_cell BK105.out 3).trans rfl
                   have hcz142_4 : wc.cell? ⟨gb105, 4, none⟩ = some (.int .i64 a0_4) := (blk_cell BK105.out 4).trans rfl
                   have hfz142_0 := blk_frozen BK105.out 0
                   have hfz142_1 := blk_frozen BK105.out 1
                   have hfz142_2 := blk_frozen BK105.out 2
                   have hfz142_3 := blk_frozen BK105.out 3
                   have hfz142_4 := blk_frozen BK105.out 4
                   have hcz143_0 : wc.cell? ⟨gb110, 0, none⟩ = some (.int .u8 t106) := (blk_cell BK110.out 0).trans rfl
                   have hcz143_1 : wc.cell? ⟨gb110, 1, none⟩ = some (.int .i64 t107) := (blk_cell BK110.out 1).trans rfl
                   have hcz143_2 : wc.cell? ⟨gb110, 2, none⟩ = some (.int .i64 t108) := (blk_cell BK110.out 2).trans rfl
                   have hcz143_3 : wc.cell? ⟨gb110, 3, none⟩ = some (.int .i64 t109) := (blk_cell BK110.out 3).trans rfl
                   have hfz143_0 := blk_frozen BK110.out 0
                   have hfz143_1 := blk_frozen BK110.out 1
                   have hfz143_2 := blk_frozen BK110.out 2
                   have hfz143_3 := blk_frozen BK110.out 3
                   go_wp2
                   repeat (go_quiet (fail); try go_wp2)
                   go_meet
                   case rel => exact ⟨_, (((Int.tmod a0_4 2) != 0)), (by first | rfl | (simp; done) | (simp [*]; done)), H', ⟨by have := HJ2.out; have := HJ36.out; have := HJ40.out; have := HJ108.out; first | omega | exact Nat.le_refl _⟩, ⟨by (with_reducible repeat (first | refine blk_drewN ?_ _ | refine blk_drew ?_ | refine blk_alloc ?_ _)); exact BK105.out⟩, ⟨by (with_reducible repeat (first | refine blk_drewN ?_ _ | refine blk_drew ?_ | refine blk_alloc ?_ _)); exact BK110.out⟩, ⟨by repeat (first | (with_reducible first | exact HB.out | apply below_alloc | apply pw_below_drewN | apply below_drew1 | refine below_set ?_ GE105.out | refine below_set ?_ GE110.out) | exact HB.out)⟩⟩
                 ·as_aux_lemma =>
                   rw [if_neg c140] at H
                   have c140b0 : (t106 == 74) = false := beq_eq_false_iff_ne.mpr c140
                   have c140b1 : (t106 != 74) = true := bne_iff_ne.mpr c140
                   have H' := Aside0.mk H
                   clear H
                   have hnb144 := NB105_110.out
                   have hnc144 := NB110_105.out
                   have hcz145_0 : wc.cell? ⟨gb105, 0, none⟩ = some (.int .i64 a0_0) := (blk_cell BK105.out 0).trans rfl
                   have hcz145_1 : wc.cell? ⟨gb105, 1, none⟩ = some (.int .i64 a0_1) := (blk_cell BK105.out 1).trans rfl
                   have hcz145_2 : wc.cell? ⟨gb105, 2, none⟩ = some (.int .i64 a0_2) := (blk_cell BK105.out 2).trans rfl
                   have hcz145_3 : wc.cell? ⟨gb105, 3, none⟩ = some (.int .i64 a0_3) := (blk_cell BK105.out 3).trans rfl
                   have hcz145_4 : wc.cell? ⟨gb105, 4, none⟩ = some (.int .i64 a0_4) := (blk_cell BK105.out 4).trans rfl
                   have hfz145_0 := blk_frozen BK105.out 0
                   have hfz145_1 := blk_frozen BK105.out 1
                   have hfz145_2 := blk_frozen BK105.out 2
                   have hfz145_3 := blk_frozen BK105.out 3
                   have hfz145_4 := blk_frozen BK105.out 4
                   have hcz146_0 : wc.cell? ⟨gb110, 0, none⟩ = some (.int .u8 t106) := (blk_cell BK110.out 0).trans rfl
                   have hcz146_1 : wc.cell? ⟨gb110, 1, none⟩ = some (.int .i64 t107) := (blk_cell BK110.out 1).trans rfl
                   have hcz146_2 : wc.cell? ⟨gb110, 2, none⟩ = some (.int .i64 t108) := (blk_cell BK110.out 2).trans rfl
                   have hcz146_3 : wc.cell? ⟨gb110, 3, none⟩ = some (.int .i64 t109) := (blk_cell BK110.out 3).trans rfl
                   have hfz146_0 := blk_frozen BK110.out 0
                   have hfz146_1 := blk_frozen BK110.out 1
                   have hfz146_2 := blk_frozen BK110.out 2
                   have hfz146_3 := blk_frozen BK110.out 3
                   go_wp2
                   repeat (go_quiet (fail); try go_wp2)
                   go_meet
                   case rel => exact ⟨_, (false), (by first | rfl | (simp; done) | (simp [*]; done)), H', ⟨by have := HJ2.out; have := HJ36.out; have := HJ40.out; have := HJ108.out; first | omega | exact Nat.le_refl _⟩, ⟨by (with_reducible repeat (first | refine blk_drewN ?_ _ | refine blk_drew ?_ | refine blk_alloc ?_ _)); exact BK105.out⟩, ⟨by (with_reducible repeat (first | refine blk_drewN ?_ _ | refine blk_drew ?_ | refine blk_alloc ?_ _)); exact BK110.out⟩, ⟨by repeat (first | (with_reducible first | exact HB.out | apply below_alloc | apply pw_below_drewN | apply below_drew1 | refine below_set ?_ GE105.out | refine below_set ?_ GE110.out) | exact HB.out)⟩⟩
             ·as_aux_lemma =>
               rw [if_neg c129] at H
               have c129b0 : decide (t111 ≤ t112) = false := decide_eq_false c129
               clear c129
               (first | rw [c129b0] | (simp only [i64_w, i32_w]; rw [c129b0]) | skip)
               have H' := Aside0.mk H
               clear H
               go_wp2
               repeat (go_quiet (fail); try go_wp2)
               go_meet
               case rel => exact ⟨_, (false), (by first | rfl | (simp; done) | (simp [*]; done)), H', ⟨by have := HJ2.out; have := HJ36.out; have := HJ40.out; have := HJ108.out; first | omega | exact Nat.le_refl _⟩, ⟨by (with_reducible repeat (first | refine blk_drewN ?_ _ | refine blk_drew ?_ | refine blk_alloc ?_ _)); exact BK105.out⟩, ⟨by (with_reducible repeat (first | refine blk_drewN ?_ _ | refine blk_drew ?_ | refine blk_alloc ?_ _)); exact BK110.out⟩, ⟨by repeat (first | (with_reducible first | exact HB.out | apply below_alloc | apply pw_below_drewN | apply below_drew1 | refine below_set ?_ GE105.out | refine below_set ?_ GE110.out) | exact HB.out)⟩⟩
            case rest =>
             clear HC128
             try clear c1
             try clear p2
             try clear c4
             try clear c5
             try clear c6
             try clear c7
             try clear c8
             try clear c9
             try clear c10
             try clear c11
             try clear c12
             try clear c13
             try clear c14
             try clear c42
             try clear c43
             try clear c44
             try clear c45
             try clear c45b0
             try clear c46
             try clear c48
             try clear c48b0
             try clear c48b1
             try clear c49
             try clear c49b0
             try clear c50
             try clear c52
             try clear c54
             try clear c56
             try clear c56b0
             try clear c56b1
             try clear c57
             try clear c58
             try clear c58b0
             try clear c59
             try clear c61
             try clear c63
             try clear c63b0
             try clear c63b1
             try clear c64
             try clear c64b0
             try clear c65
             try clear c67
             try clear c69
             try clear c71
             try clear c73
             try clear c73b0
             try clear c73b1
             try clear c74
             try clear c75
             try clear c76
             try clear c76b0
             try clear c77
             try clear c79
             try clear c81
             try clear c81b0
             try clear c81b1
             try clear c82
             try clear c82b0
             try clear c83
             try clear c85
             try clear c87
             try clear c89
             try clear c89b0
             try clear c89b1
             try clear c90
             try clear c91
             try clear c91b0
             try clear c92
             try clear c94
             try clear c96
             try clear c96b0
             try clear c96b1
             try clear c97
             try clear c97b0
             try clear c98
             try clear c100
             try clear c102
             try clear c104
             try clear c106
             try clear c108
             try clear c110
             try clear c110b0
             try clear c111
             try clear c113
             try clear c113b0
             try clear c114
             try clear c116
             try clear c116b0
             try clear c117
             try clear c119
             try clear c119b0
             try clear c120
             try clear c122
             try clear c122b0
             try clear c123
             try clear c125
             try clear c127
             try clear c129
             try clear c129b0
             try clear c130
             try clear c130b0
             try clear c131
             try clear c133
             try clear c133b0
             try clear c134
             try clear c136
             try clear c136b0
             try clear c136b1
             try clear c137
             try clear c140
             try clear c140b0
             try clear c140b1
             try clear c141
             try clear c144
             try clear hcz101_0
             try clear hcz101_1
             try clear hcz101_2
             try clear hcz101_3
             try clear hcz101_4
             try clear hcz103_0
             try clear hcz103_1
             try clear hcz103_2
             try clear hcz103_3
             try clear hcz103_4
             try clear hcz105_0
             try clear hcz105_1
             try clear hcz105_2
             try clear hcz105_3
             try clear hcz105_4
             try clear hcz107_0
             try clear hcz107_1
             try clear hcz107_2
             try clear hcz107_3
             try clear hcz107_4
             try clear hcz112_0
             try clear hcz112_1
             try clear hcz112_2
             try clear hcz112_3
             try clear hcz112_4
             try clear hcz115_0
             try clear hcz115_1
             try clear hcz115_2
             try clear hcz115_3
             try clear hcz115_4
             try clear hcz118_0
             try clear hcz118_1
             try clear hcz118_2
             try clear hcz118_3
             try clear hcz118_4
             try clear hcz121_0
             try clear hcz121_1
             try clear hcz121_2
             try clear hcz121_3
             try clear hcz121_4
             try clear hcz124_0
             try clear hcz124_1
             try clear hcz124_2
             try clear hcz124_3
             try clear hcz124_4
             try clear hcz126_0
             try clear hcz126_1
             try clear hcz126_2
             try clear hcz126_3
             try clear hcz126_4
             try clear hcz132_0
             try clear hcz132_1
             try clear hcz132_2
             try clear hcz132_3
             try clear hcz132_4
             try clear hcz135_0
             try clear hcz135_1
             try clear hcz135_2
             try clear hcz135_3
             try clear hcz135_4
             try clear hcz138_0
             try clear hcz138_1
             try clear hcz138_2
             try clear hcz138_3
             try clear hcz138_4
             try clear hcz139_0
             try clear hcz139_1
             try clear hcz139_2
             try clear hcz139_3
             try clear hcz142_0
             try clear hcz142_1
             try clear hcz142_2
             try clear hcz142_3
             try clear hcz142_4
             try clear hcz143_0
             try clear hcz143_1
             try clear hcz143_2
             try clear hcz143_3
             try clear hcz145_0
             try clear hcz145_1
             try clear hcz145_2
             try clear hcz145_3
             try clear hcz145_4
             try clear hcz146_0
             try clear hcz146_1
             try clear hcz146_2
             try clear hcz146_3
             try clear hcz47_0
             try clear hcz47_1
             try clear hcz47_2
             try clear hcz47_3
             try clear hcz47_4
             try clear hcz51_0
             try clear hcz51_1
             try clear hcz51_2
             try clear hcz51_3
             try clear hcz51_4
             try clear hcz53_0
             try clear hcz53_1
             try clear hcz53_2
             try clear hcz53_3
             try clear hcz53_4
             try clear hcz55_0
             try clear hcz55_1
             try clear hcz55_2
             try clear hcz55_3
             try clear hcz55_4
             try clear hcz60_0
             try clear hcz60_1
             try clear hcz60_2
             try clear hcz60_3
             try clear hcz60_4
             try clear hcz62_0
             try clear hcz62_1
             try clear hcz62_2
             try clear hcz62_3
             try clear hcz62_4
             try clear hcz66_0
             try clear hcz66_1
             try clear hcz66_2
             try clear hcz66_3
             try clear hcz66_4
             try clear hcz68_0
             try clear hcz68_1
             try clear hcz68_2
             try clear hcz68_3
             try clear hcz68_4
             try clear hcz70_0
             try clear hcz70_1
             try clear hcz70_2
             try clear hcz70_3
             try clear hcz70_4
             try clear hcz72_0
             try clear hcz72_1
             try clear hcz72_2
             try clear hcz72_3
             try clear hcz72_4
             try clear hcz78_0
             try clear hcz78_1
             try clear hcz78_2
             try clear hcz78_3
             try clear hcz78_4
             try clear hcz80_0
             try clear hcz80_1
             try clear hcz80_2
             try clear hcz80_3
             try clear hcz80_4
             try clear hcz84_0
             try clear hcz84_1
             try clear hcz84_2
             try clear hcz84_3
             try clear hcz84_4
             try clear hcz86_0
             try clear hcz86_1
             try clear hcz86_2
             try clear hcz86_3
             try clear hcz86_4
             try clear hcz88_0
             try clear hcz88_1
             try clear hcz88_2
             try clear hcz88_3
             try clear hcz88_4
             try clear hcz93_0
             try clear hcz93_1
             try clear hcz93_2
             try clear hcz93_3
             try clear hcz93_4
             try clear hcz95_0
             try clear hcz95_1
             try clear hcz95_2
             try clear hcz95_3
             try clear hcz95_4
             try clear hcz99_0
             try clear hcz99_1
             try clear hcz99_2
             try clear hcz99_3
             try clear hcz99_4
             try clear hfz101_0
             try clear hfz101_1
             try clear hfz101_2
             try clear hfz101_3
             try clear hfz101_4
             try clear hfz103_0
             try clear hfz103_1
             try clear hfz103_2
             try clear hfz103_3
             try clear hfz103_4
             try clear hfz105_0
             try clear hfz105_1
             try clear hfz105_2
             try clear hfz105_3
             try clear hfz105_4
             try clear hfz107_0
             try clear hfz107_1
             try clear hfz107_2
             try clear hfz107_3
             try clear hfz107_4
             try clear hfz112_0
             try clear hfz112_1
             try clear hfz112_2
             try clear hfz112_3
             try clear hfz112_4
             try clear hfz115_0
             try clear hfz115_1
             try clear hfz115_2
             try clear hfz115_3
             try clear hfz115_4
             try clear hfz118_0
             try clear hfz118_1
             try clear hfz118_2
             try clear hfz118_3
             try clear hfz118_4
             try clear hfz121_0
             try clear hfz121_1
             try clear hfz121_2
             try clear hfz121_3
             try clear hfz121_4
             try clear hfz124_0
             try clear hfz124_1
             try clear hfz124_2
             try clear hfz124_3
             try clear hfz124_4
             try clear hfz126_0
             try clear hfz126_1
             try clear hfz126_2
             try clear hfz126_3
             try clear hfz126_4
             try clear hfz132_0
             try clear hfz132_1
             try clear hfz132_2
             try clear hfz132_3
             try clear hfz132_4
             try clear hfz135_0
             try clear hfz135_1
             try clear hfz135_2
             try clear hfz135_3
             try clear hfz135_4
             try clear hfz138_0
             try clear hfz138_1
             try clear hfz138_2
             try clear hfz138_3
             try clear hfz138_4
             try clear hfz139_0
             try clear hfz139_1
             try clear hfz139_2
             try clear hfz139_3
             try clear hfz142_0
             try clear hfz142_1
             try clear hfz142_2
             try clear hfz142_3
             try clear hfz142_4
             try clear hfz143_0
             try clear hfz143_1
             try clear hfz143_2
             try clear hfz143_3
             try clear hfz145_0
             try clear hfz145_1
             try clear hfz145_2
             try clear hfz145_3
             try clear hfz145_4
             try clear hfz146_0
             try clear hfz146_1
             try clear hfz146_2
             try clear hfz146_3
             try clear hfz47_0
             try clear hfz47_1
             try clear hfz47_2
             try clear hfz47_3
             try clear hfz47_4
             try clear hfz51_0
             try clear hfz51_1
             try clear hfz51_2
             try clear hfz51_3
             try clear hfz51_4
             try clear hfz53_0
             try clear hfz53_1
             try clear hfz53_2
             try clear hfz53_3
             try clear hfz53_4
             try clear hfz55_0
             try clear hfz55_1
             try clear hfz55_2
             try clear hfz55_3
             try clear hfz55_4
             try clear hfz60_0
             try clear hfz60_1
             try clear hfz60_2
             try clear hfz60_3
             try clear hfz60_4
             try clear hfz62_0
             try clear hfz62_1
             try clear hfz62_2
             try clear hfz62_3
             try clear hfz62_4
             try clear hfz66_0
             try clear hfz66_1
             try clear hfz66_2
             try clear hfz66_3
             try clear hfz66_4
             try clear hfz68_0
             try clear hfz68_1
             try clear hfz68_2
             try clear hfz68_3
             try clear hfz68_4
             try clear hfz70_0
             try clear hfz70_1
             try clear hfz70_2
             try clear hfz70_3
             try clear hfz70_4
             try clear hfz72_0
             try clear hfz72_1
             try clear hfz72_2
             try clear hfz72_3
             try clear hfz72_4
             try clear hfz78_0
             try clear hfz78_1
             try clear hfz78_2
             try clear hfz78_3
             try clear hfz78_4
             try clear hfz80_0
             try clear hfz80_1
             try clear hfz80_2
             try clear hfz80_3
             try clear hfz80_4
             try clear hfz84_0
             try clear hfz84_1
             try clear hfz84_2
             try clear hfz84_3
             try clear hfz84_4
             try clear hfz86_0
             try clear hfz86_1
             try clear hfz86_2
             try clear hfz86_3
             try clear hfz86_4
             try clear hfz88_0
             try clear hfz88_1
             try clear hfz88_2
             try clear hfz88_3
             try clear hfz88_4
             try clear hfz93_0
             try clear hfz93_1
             try clear hfz93_2
             try clear hfz93_3
             try clear hfz93_4
             try clear hfz95_0
             try clear hfz95_1
             try clear hfz95_2
             try clear hfz95_3
             try clear hfz95_4
             try clear hfz99_0
             try clear hfz99_1
             try clear hfz99_2
             try clear hfz99_3
             try clear hfz99_4
             try clear p2
             obtain ⟨kq, x151_127, rfl, HA, HJ127, BK105, BK110, HB⟩ := hcut
             cases kq with
             | zero => exact absurd HA.out (by simp [hauberkref02_Encode.j4])
             | succ kj127 =>
              have H := HA.out
              clear HA
              simp only [hauberkref02_Encode.j4] at H
              by_cases c147 : x151_127 = true
              ·as_aux_lemma =>
                subst c147
                have H1 : (some (0, 1)) = some (r1, r2) := by rw [if_pos rfl] at H; exact H
                clear H
                have H := H1
                clear H1
                simp only [Option.some.injEq, Prod.mk.injEq] at H
                obtain ⟨rfl, rfl⟩ := H
                go_wp2
                repeat (go_quiet (fail); try go_wp2)
                go_ret2
                exact ⟨by first | rfl | (simp [errW_none, errW_some] <;> rfl) | (simp [*, errW_none, errW_some] <;> rfl), by repeat (first | (with_reducible first | exact HB.out | apply below_alloc | apply pw_below_drewN | apply below_drew1 | refine below_set ?_ GE105.out | refine below_set ?_ GE110.out) | exact HB.out)⟩
              ·replace c147 := Bool.eq_false_iff.mpr c147
               subst c147
               have H1 : (if t106 = 73 then ((hauberkref02_bits.f kj127 a0_4 0 5).bind fun t113 => ((hauberkref02_bits.f kj127 a0_4 5 7).bind fun t114 => (some ((wrap64 ((wrap64 ((wrap64 ((wrap64 ((wrap64 (t107 + (wrap64 (128 * a0_1)))) + (wrap64 (4096 * t108)))) + (wrap64 (32768 * a0_2)))) + (wrap64 (1048576 * t113)))) + (wrap64 (33554432 * t114)))) % 4294967296, 0)))) else (if t106 = 84 then (some ((wrap64 ((wrap64 ((wrap64 ((wrap64 ((wrap64 (t107 + (wrap64 (128 * a0_1)))) + (wrap64 (4096 * t108)))) + (wrap64 (32768 * a0_2)))) + (wrap64 (1048576 * (Int.tmod a0_4 32))))) + (wrap64 (33554432 * (wrap64 (t109 + (wrap64 (Int.tdiv a0_4 32)))))))) % 4294967296, 0)) else (if t106 = 83 then ((hauberkref02_bits.f kj127 a0_4 0 5).bind fun t115 => ((hauberkref02_bits.f kj127 a0_4 5 7).bind fun t116 => (some ((wrap64 ((wrap64 ((wrap64 ((wrap64 ((wrap64 (t107 + (wrap64 (128 * t115)))) + (wrap64 (4096 * t108)))) + (wrap64 (32768 * a0_2)))) + (wrap64 (1048576 * a0_3)))) + (wrap64 (33554432 * t116)))) % 4294967296, 0)))) else (if t106 = 66 then ((hauberkref02_bits.f kj127 a0_4 11 1).bind fun t117 => ((hauberkref02_bits.f kj127 a0_4 1 4).bind fun t118 => ((hauberkref02_bits.f kj127 a0_4 5 6).bind fun t119 => ((hauberkref02_bits.f kj127 a0_4 12 1).bind fun t120 => (some ((wrap64 ((wrap64 ((wrap64 ((wrap64 ((wrap64 (t107 + (wrap64 (128 * (wrap64 (t117 + (wrap64 (2 * t118)))))))) + (wrap64 (4096 * t108)))) + (wrap64 (32768 * a0_2)))) + (wrap64 (1048576 * a0_3)))) + (wrap64 (33554432 * (wrap64 (t119 + (wrap64 (64 * t120)))))))) % 4294967296, 0)))))) else (if t106 = 85 then ((hauberkref02_bits.f kj127 a0_4 0 20).bind fun t121 => (some ((wrap64 ((wrap64 (t107 + (wrap64 (128 * a0_1)))) + (wrap64 (4096 * t121)))) % 4294967296, 0))) else (if t106 = 74 then ((hauberkref02_bits.f kj127 a0_4 12 8).bind fun t122 => ((hauberkref02_bits.f kj127 a0_4 11 1).bind fun t123 => ((hauberkref02_bits.f kj127 a0_4 1 10).bind fun t124 => ((hauberkref02_bits.f kj127 a0_4 20 1).bind fun t125 => (some ((wrap64 ((wrap64 ((wrap64 ((wrap64 ((wrap64 (t107 + (wrap64 (128 * a0_1)))) + (wrap64 (4096 * t122)))) + (wrap64 (1048576 * t123)))) + (wrap64 (2097152 * t124)))) + (wrap64 (2147483648 * t125)))) % 4294967296, 0)))))) else (some ((wrap64 ((wrap64 ((wrap64 ((wrap64 ((wrap64 (t107 + (wrap64 (128 * a0_1)))) + (wrap64 (4096 * t108)))) + (wrap64 (32768 * a0_2)))) + (wrap64 (1048576 * a0_3)))) + (wrap64 (33554432 * t109)))) % 4294967296, 0)))))))) = some (r1, r2) := by rw [if_neg (show ¬ (false = true) by decide)] at H; exact H
               clear H
               have H := H1
               clear H1
               by_cases c148 : t106 = 73
               ·as_aux_lemma =>
                 rw [if_pos c148] at H
                 have c148b0 : (t106 == 73) = true := beq_iff_eq.mpr c148
                 have c148b1 : (t106 != 73) = false := bne_eq_false_iff_eq.mpr c148
                 clear c148
                 replace H := Option.bind_eq_some_iff.mp H
                 obtain ⟨t113, A1490, H⟩ := H
                 replace H : ((hauberkref02_bits.f kj127 a0_4 5 7).bind fun t114 => (some ((wrap64 ((wrap64 ((wrap64 ((wrap64 ((wrap64 (t107 + (wrap64 (128 * a0_1)))) + (wrap64 (4096 * t108)))) + (wrap64 (32768 * a0_2)))) + (wrap64 (1048576 * t113)))) + (wrap64 (33554432 * t114)))) % 4294967296, 0))) = some (r1, r2) := H
                 have A149 := Aside0.mk A1490
                 clear A1490
                 replace H := Option.bind_eq_some_iff.mp H
                 obtain ⟨t114, A1500, H⟩ := H
                 replace H : (some ((wrap64 ((wrap64 ((wrap64 ((wrap64 ((wrap64 (t107 + (wrap64 (128 * a0_1)))) + (wrap64 (4096 * t108)))) + (wrap64 (32768 * a0_2)))) + (wrap64 (1048576 * t113)))) + (wrap64 (33554432 * t114)))) % 4294967296, 0)) = some (r1, r2) := H
                 have A150 := Aside0.mk A1500
                 clear A1500
                 simp only [Option.some.injEq, Prod.mk.injEq] at H
                 obtain ⟨rfl, rfl⟩ := H
                 have hnb151 := NB105_110.out
                 have hnc151 := NB110_105.out
                 have hcz152_0 : wc.cell? ⟨gb105, 0, none⟩ = some (.int .i64 a0_0) := (blk_cell BK105.out 0).trans rfl
                 have hcz152_1 : wc.cell? ⟨gb105, 1, none⟩ = some (.int .i64 a0_1) := (blk_cell BK105.out 1).trans rfl
                 have hcz152_2 : wc.cell? ⟨gb105, 2, none⟩ = some (.int .i64 a0_2) := (blk_cell BK105.out 2).trans rfl
                 have hcz152_3 : wc.cell? ⟨gb105, 3, none⟩ = some (.int .i64 a0_3) := (blk_cell BK105.out 3).trans rfl
                 have hcz152_4 : wc.cell? ⟨gb105, 4, none⟩ = some (.int .i64 a0_4) := (blk_cell BK105.out 4).trans rfl
                 have hfz152_0 := blk_frozen BK105.out 0
                 have hfz152_1 := blk_frozen BK105.out 1
                 have hfz152_2 := blk_frozen BK105.out 2
                 have hfz152_3 := blk_frozen BK105.out 3
                 have hfz152_4 := blk_frozen BK105.out 4
                 have hcz153_0 : wc.cell? ⟨gb110, 0, none⟩ = some (.int .u8 t106) := (blk_cell BK110.out 0).trans rfl
                 have hcz153_1 : wc.cell? ⟨gb110, 1, none⟩ = some (.int .i64 t107) := (blk_cell BK110.out 1).trans rfl
                 have hcz153_2 : wc.cell? ⟨gb110, 2, none⟩ = some (.int .i64 t108) := (blk_cell BK110.out 2).trans rfl
                 have hcz153_3 : wc.cell? ⟨gb110, 3, none⟩ = some (.int .i64 t109) := (blk_cell BK110.out 3).trans rfl
                 have hfz153_0 := blk_frozen BK110.out 0
                 have hfz153_1 := blk_frozen BK110.out 1
                 have hfz153_2 := blk_frozen BK110.out 2
                 have hfz153_3 := blk_frozen BK110.out 3
                 go_wp2_with (first | (go_at_call 20; (with_reducible refine (hauberkref02_bits.calls kj127 a0_4 0 5 t113 _ A149.out).mono ?_); rintro e w' ⟨rfl, ⟨nd, rfl⟩⟩; (try first | exact ⟨rfl, _, World.drewN_drewN _ _ _⟩ | exact ⟨rfl, _, Eq.trans (World.drewN_drewN _ _ _) (congrArg (World.drewN _) (Nat.add_assoc _ _ _))⟩)) | (go_at_call 20; (with_reducible refine (hauberkref02_bits.calls kj127 a0_4 5 7 t114 _ A150.out).mono ?_); rintro e w' ⟨rfl, ⟨nd, rfl⟩⟩; (try first | exact ⟨rfl, _, World.drewN_drewN _ _ _⟩ | exact ⟨rfl, _, Eq.trans (World.drewN_drewN _ _ _) (congrArg (World.drewN _) (Nat.add_assoc _ _ _))⟩)))
                 repeat (go_quiet (first | (go_at_call 20; (with_reducible refine (hauberkref02_bits.calls kj127 a0_4 0 5 t113 _ A149.out).mono ?_); rintro e w' ⟨rfl, ⟨nd, rfl⟩⟩; (try first | exact ⟨rfl, _, World.drewN_drewN _ _ _⟩ | exact ⟨rfl, _, Eq.trans (World.drewN_drewN _ _ _) (congrArg (World.drewN _) (Nat.add_assoc _ _ _))⟩)) | (go_at_call 20; (with_reducible refine (hauberkref02_bits.calls kj127 a0_4 5 7 t114 _ A150.out).mono ?_); rintro e w' ⟨rfl, ⟨nd, rfl⟩⟩; (try first | exact ⟨rfl, _, World.drewN_drewN _ _ _⟩ | exact ⟨rfl, _, Eq.trans (World.drewN_drewN _ _ _) (congrArg (World.drewN _) (Nat.add_assoc _ _ _))⟩))); try go_wp2_with (first | (go_at_call 20; (with_reducible refine (hauberkref02_bits.calls kj127 a0_4 0 5 t113 _ A149.out).mono ?_); rintro e w' ⟨rfl, ⟨nd, rfl⟩⟩; (try first | exact ⟨rfl, _, World.drewN_drewN _ _ _⟩ | exact ⟨rfl, _, Eq.trans (World.drewN_drewN _ _ _) (congrArg (World.drewN _) (Nat.add_assoc _ _ _))⟩)) | (go_at_call 20; (with_reducible refine (hauberkref02_bits.calls kj127 a0_4 5 7 t114 _ A150.out).mono ?_); rintro e w' ⟨rfl, ⟨nd, rfl⟩⟩; (try first | exact ⟨rfl, _, World.drewN_drewN _ _ _⟩ | exact ⟨rfl, _, Eq.trans (World.drewN_drewN _ _ _) (congrArg (World.drewN _) (Nat.add_assoc _ _ _))⟩))))
                 go_ret2
                 exact ⟨by first | rfl | (simp [errW_none, errW_some] <;> rfl) | (simp [*, errW_none, errW_some] <;> rfl), by repeat (first | (with_reducible first | exact HB.out | apply below_alloc | apply pw_below_drewN | apply below_drew1 | refine below_set ?_ GE105.out | refine below_set ?_ GE110.out) | exact HB.out)⟩
               ·rw [if_neg c148] at H
                have c148b0 : (t106 == 73) = false := beq_eq_false_iff_ne.mpr c148
                have c148b1 : (t106 != 73) = true := bne_iff_ne.mpr c148
                by_cases c154 : t106 = 84
                ·as_aux_lemma =>
                  rw [if_pos c154] at H
                  have c154b0 : (t106 == 84) = true := beq_iff_eq.mpr c154
                  have c154b1 : (t106 != 84) = false := bne_eq_false_iff_eq.mpr c154
                  clear c154
                  simp only [Option.some.injEq, Prod.mk.injEq] at H
                  obtain ⟨rfl, rfl⟩ := H
                  have hnb155 := NB105_110.out
                  have hnc155 := NB110_105.out
                  have hcz156_0 : wc.cell? ⟨gb105, 0, none⟩ = some (.int .i64 a0_0) := (blk_cell BK105.out 0).trans rfl
                  have hcz156_1 : wc.cell? ⟨gb105, 1, none⟩ = some (.int .i64 a0_1) := (blk_cell BK105.out 1).trans rfl
                  have hcz156_2 : wc.cell? ⟨gb105, 2, none⟩ = some (.int .i64 a0_2) := (blk_cell BK105.out 2).trans rfl
                  have hcz156_3 : wc.cell? ⟨gb105, 3, none⟩ = some (.int .i64 a0_3) := (blk_cell BK105.out 3).trans rfl
                  have hcz156_4 : wc.cell? ⟨gb105, 4, none⟩ = some (.int .i64 a0_4) := (blk_cell BK105.out 4).trans rfl
                  have hfz156_0 := blk_frozen BK105.out 0
                  have hfz156_1 := blk_frozen BK105.out 1
                  have hfz156_2 := blk_frozen BK105.out 2
                  have hfz156_3 := blk_frozen BK105.out 3
                  have hfz156_4 := blk_frozen BK105.out 4
                  have hcz157_0 : wc.cell? ⟨gb110, 0, none⟩ = some (.int .u8 t106) := (blk_cell BK110.out 0).trans rfl
                  have hcz157_1 : wc.cell? ⟨gb110, 1, none⟩ = some (.int .i64 t107) := (blk_cell BK110.out 1).trans rfl
                  have hcz157_2 : wc.cell? ⟨gb110, 2, none⟩ = some (.int .i64 t108) := (blk_cell BK110.out 2).trans rfl
                  have hcz157_3 : wc.cell? ⟨gb110, 3, none⟩ = some (.int .i64 t109) := (blk_cell BK110.out 3).trans rfl
                  have hfz157_0 := blk_frozen BK110.out 0
                  have hfz157_1 := blk_frozen BK110.out 1
                  have hfz157_2 := blk_frozen BK110.out 2
                  have hfz157_3 := blk_frozen BK110.out 3
                  go_wp2
                  repeat (go_quiet (fail); try go_wp2)
                  go_ret2
                  exact ⟨by first | rfl | (simp [errW_none, errW_some] <;> rfl) | (simp [*, errW_none, errW_some] <;> rfl), by repeat (first | (with_reducible first | exact HB.out | apply below_alloc | apply pw_below_drewN | apply below_drew1 | refine below_set ?_ GE105.out | refine below_set ?_ GE110.out) | exact HB.out)⟩
                ·rw [if_neg c154] at H
                 have c154b0 : (t106 == 84) = false := beq_eq_false_iff_ne.mpr c154
                 have c154b1 : (t106 != 84) = true := bne_iff_ne.mpr c154
                 by_cases c158 : t106 = 83
                 ·as_aux_lemma =>
                   rw [if_pos c158] at H
                   have c158b0 : (t106 == 83) = true := beq_iff_eq.mpr c158
                   have c158b1 : (t106 != 83) = false := bne_eq_false_iff_eq.mpr c158
                   clear c158
                   replace H := Option.bind_eq_some_iff.mp H
                   obtain ⟨t115, A1590, H⟩ := H
                   replace H : ((hauberkref02_bits.f kj127 a0_4 5 7).bind fun t116 => (some ((wrap64 ((wrap64 ((wrap64 ((wrap64 ((wrap64 (t107 + (wrap64 (128 * t115)))) + (wrap64 (4096 * t108)))) + (wrap64 (32768 * a0_2)))) + (wrap64 (1048576 * a0_3)))) + (wrap64 (33554432 * t116)))) % 4294967296, 0))) = some (r1, r2) := H
                   have A159 := Aside0.mk A1590
                   clear A1590
                   replace H := Option.bind_eq_some_iff.mp H
                   obtain ⟨t116, A1600, H⟩ := H
                   replace H : (some ((wrap64 ((wrap64 ((wrap64 ((wrap64 ((wrap64 (t107 + (wrap64 (128 * t115)))) + (wrap64 (4096 * t108)))) + (wrap64 (32768 * a0_2)))) + (wrap64 (1048576 * a0_3)))) + (wrap64 (33554432 * t116)))) % 4294967296, 0)) = some (r1, r2) := H
                   have A160 := Aside0.mk A1600
                   clear A1600
                   simp only [Option.some.injEq, Prod.mk.injEq] at H
                   obtain ⟨rfl, rfl⟩ := H
                   have hnb161 := NB105_110.out
                   have hnc161 := NB110_105.out
                   have hcz162_0 : wc.cell? ⟨gb105, 0, none⟩ = some (.int .i64 a0_0) := (blk_cell BK105.out 0).trans rfl
                   have hcz162_1 : wc.cell? ⟨gb105, 1, none⟩ = some (.int .i64 a0_1) := (blk_cell BK105.out 1).trans rfl
                   have hcz162_2 : wc.cell? ⟨gb105, 2, none⟩ = some (.int .i64 a0_2) := (blk_cell BK105.out 2).trans rfl
                   have hcz162_3 : wc.cell? ⟨gb105, 3, none⟩ = some (.int .i64 a0_3) := (blk_cell BK105.out 3).trans rfl
                   have hcz162_4 : wc.cell? ⟨gb105, 4, none⟩ = some (.int .i64 a0_4) := (blk_cell BK105.out 4).trans rfl
                   have hfz162_0 := blk_frozen BK105.out 0
                   have hfz162_1 := blk_frozen BK105.out 1
                   have hfz162_2 := blk_frozen BK105.out 2
                   have hfz162_3 := blk_frozen BK105.out 3
                   have hfz162_4 := blk_frozen BK105.out 4
                   have hcz163_0 : wc.cell? ⟨gb110, 0, none⟩ = some (.int .u8 t106) := (blk_cell BK110.out 0).trans rfl
                   have hcz163_1 : wc.cell? ⟨gb110, 1, none⟩ = some (.int .i64 t107) := (blk_cell BK110.out 1).trans rfl
                   have hcz163_2 : wc.cell? ⟨gb110, 2, none⟩ = some (.int .i64 t108) := (blk_cell BK110.out 2).trans rfl
                   have hcz163_3 : wc.cell? ⟨gb110, 3, none⟩ = some (.int .i64 t109) := (blk_cell BK110.out 3).trans rfl
                   have hfz163_0 := blk_frozen BK110.out 0
                   have hfz163_1 := blk_frozen BK110.out 1
                   have hfz163_2 := blk_frozen BK110.out 2
                   have hfz163_3 := blk_frozen BK110.out 3
                   go_wp2_with (first | (go_at_call 20; (with_reducible refine (hauberkref02_bits.calls kj127 a0_4 0 5 t115 _ A159.out).mono ?_); rintro e w' ⟨rfl, ⟨nd, rfl⟩⟩; (try first | exact ⟨rfl, _, World.drewN_drewN _ _ _⟩ | exact ⟨rfl, _, Eq.trans (World.drewN_drewN _ _ _) (congrArg (World.drewN _) (Nat.add_assoc _ _ _))⟩)) | (go_at_call 20; (with_reducible refine (hauberkref02_bits.calls kj127 a0_4 5 7 t116 _ A160.out).mono ?_); rintro e w' ⟨rfl, ⟨nd, rfl⟩⟩; (try first | exact ⟨rfl, _, World.drewN_drewN _ _ _⟩ | exact ⟨rfl, _, Eq.trans (World.drewN_drewN _ _ _) (congrArg (World.drewN _) (Nat.add_assoc _ _ _))⟩)))
                   repeat (go_quiet (first | (go_at_call 20; (with_reducible refine (hauberkref02_bits.calls kj127 a0_4 0 5 t115 _ A159.out).mono ?_); rintro e w' ⟨rfl, ⟨nd, rfl⟩⟩; (try first | exact ⟨rfl, _, World.drewN_drewN _ _ _⟩ | exact ⟨rfl, _, Eq.trans (World.drewN_drewN _ _ _) (congrArg (World.drewN _) (Nat.add_assoc _ _ _))⟩)) | (go_at_call 20; (with_reducible refine (hauberkref02_bits.calls kj127 a0_4 5 7 t116 _ A160.out).mono ?_); rintro e w' ⟨rfl, ⟨nd, rfl⟩⟩; (try first | exact ⟨rfl, _, World.drewN_drewN _ _ _⟩ | exact ⟨rfl, _, Eq.trans (World.drewN_drewN _ _ _) (congrArg (World.drewN _) (Nat.add_assoc _ _ _))⟩))); try go_wp2_with (first | (go_at_call 20; (with_reducible refine (hauberkref02_bits.calls kj127 a0_4 0 5 t115 _ A159.out).mono ?_); rintro e w' ⟨rfl, ⟨nd, rfl⟩⟩; (try first | exact ⟨rfl, _, World.drewN_drewN _ _ _⟩ | exact ⟨rfl, _, Eq.trans (World.drewN_drewN _ _ _) (congrArg (World.drewN _) (Nat.add_assoc _ _ _))⟩)) | (go_at_call 20; (with_reducible refine (hauberkref02_bits.calls kj127 a0_4 5 7 t116 _ A160.out).mono ?_); rintro e w' ⟨rfl, ⟨nd, rfl⟩⟩; (try first | exact ⟨rfl, _, World.drewN_drewN _ _ _⟩ | exact ⟨rfl, _, Eq.trans (World.drewN_drewN _ _ _) (congrArg (World.drewN _) (Nat.add_assoc _ _ _))⟩))))
                   go_ret2
                   exact ⟨by first | rfl | (simp [errW_none, errW_some] <;> rfl) | (simp [*, errW_none, errW_some] <;> rfl), by repeat (first | (with_reducible first | exact HB.out | apply below_alloc | apply pw_below_drewN | apply below_drew1 | refine below_set ?_ GE105.out | refine below_set ?_ GE110.out) | exact HB.out)⟩
                 ·rw [if_neg c158] at H
                  have c158b0 : (t106 == 83) = false := beq_eq_false_iff_ne.mpr c158
                  have c158b1 : (t106 != 83) = true := bne_iff_ne.mpr c158
                  by_cases c164 : t106 = 66
                  ·as_aux_lemma =>
                    rw [if_pos c164] at H
                    have c164b0 : (t106 == 66) = true := beq_iff_eq.mpr c164
                    have c164b1 : (t106 != 66) = false := bne_eq_false_iff_eq.mpr c164
                    clear c164
                    replace H := Option.bind_eq_some_iff.mp H
                    obtain ⟨t117, A1650, H⟩ := H
                    replace H : ((hauberkref02_bits.f kj127 a0_4 1 4).bind fun t118 => ((hauberkref02_bits.f kj127 a0_4 5 6).bind fun t119 => ((hauberkref02_bits.f kj127 a0_4 12 1).bind fun t120 => (some ((wrap64 ((wrap64 ((wrap64 ((wrap64 ((wrap64 (t107 + (wrap64 (128 * (wrap64 (t117 + (wrap64 (2 * t118)))))))) + (wrap64 (4096 * t108)))) + (wrap64 (32768 * a0_2)))) + (wrap64 (1048576 * a0_3)))) + (wrap64 (33554432 * (wrap64 (t119 + (wrap64 (64 * t120)))))))) % 4294967296, 0))))) = some (r1, r2) := H
                    have A165 := Aside0.mk A1650
                    clear A1650
                    replace H := Option.bind_eq_some_iff.mp H
                    obtain ⟨t118, A1660, H⟩ := H
                    replace H : ((hauberkref02_bits.f kj127 a0_4 5 6).bind fun t119 => ((hauberkref02_bits.f kj127 a0_4 12 1).bind fun t120 => (some ((wrap64 ((wrap64 ((wrap64 ((wrap64 ((wrap64 (t107 + (wrap64 (128 * (wrap64 (t117 + (wrap64 (2 * t118)))))))) + (wrap64 (4096 * t108)))) + (wrap64 (32768 * a0_2)))) + (wrap64 (1048576 * a0_3)))) + (wrap64 (33554432 * (wrap64 (t119 + (wrap64 (64 * t120)))))))) % 4294967296, 0)))) = some (r1, r2) := H
                    have A166 := Aside0.mk A1660
                    clear A1660
                    replace H := Option.bind_eq_some_iff.mp H
                    obtain ⟨t119, A1670, H⟩ := H
                    replace H : ((hauberkref02_bits.f kj127 a0_4 12 1).bind fun t120 => (some ((wrap64 ((wrap64 ((wrap64 ((wrap64 ((wrap64 (t107 + (wrap64 (128 * (wrap64 (t117 + (wrap64 (2 * t118)))))))) + (wrap64 (4096 * t108)))) + (wrap64 (32768 * a0_2)))) + (wrap64 (1048576 * a0_3)))) + (wrap64 (33554432 * (wrap64 (t119 + (wrap64 (64 * t120)))))))) % 4294967296, 0))) = some (r1, r2) := H
                    have A167 := Aside0.mk A1670
                    clear A1670
                    replace H := Option.bind_eq_some_iff.mp H
                    obtain ⟨t120, A1680, H⟩ := H
                    replace H : (some ((wrap64 ((wrap64 ((wrap64 ((wrap64 ((wrap64 (t107 + (wrap64 (128 * (wrap64 (t117 + (wrap64 (2 * t118)))))))) + (wrap64 (4096 * t108)))) + (wrap64 (32768 * a0_2)))) + (wrap64 (1048576 * a0_3)))) + (wrap64 (33554432 * (wrap64 (t119 + (wrap64 (64 * t120)))))))) % 4294967296, 0)) = some (r1, r2) := H
                    have A168 := Aside0.mk A1680
                    clear A1680
                    simp only [Option.some.injEq, Prod.mk.injEq] at H
                    obtain ⟨rfl, rfl⟩ := H
                    have hnb169 := NB105_110.out
                    have hnc169 := NB110_105.out
                    have hcz170_0 : wc.cell? ⟨gb105, 0, none⟩ = some (.int .i64 a0_0) := (blk_cell BK105.out 0).trans rfl
                    have hcz170_1 : wc.cell? ⟨gb105, 1, none⟩ = some (.int .i64 a0_1) := (blk_cell BK105.out 1).trans rfl
                    have hcz170_2 : wc.cell? ⟨gb105, 2, none⟩ = some (.int .i64 a0_2) := (blk_cell BK105.out 2).trans rfl
                    have hcz170_3 : wc.cell? ⟨gb105, 3, none⟩ = some (.int .i64 a0_3) := (blk_cell BK105.out 3).trans rfl
                    have hcz170_4 : wc.cell? ⟨gb105, 4, none⟩ = some (.int .i64 a0_4) := (blk_cell BK105.out 4).trans rfl
                    have hfz170_0 := blk_frozen BK105.out 0
                    have hfz170_1 := blk_frozen BK105.out 1
                    have hfz170_2 := blk_frozen BK105.out 2
                    have hfz170_3 := blk_frozen BK105.out 3
                    have hfz170_4 := blk_frozen BK105.out 4
                    have hcz171_0 : wc.cell? ⟨gb110, 0, none⟩ = some (.int .u8 t106) := (blk_cell BK110.out 0).trans rfl
                    have hcz171_1 : wc.cell? ⟨gb110, 1, none⟩ = some (.int .i64 t107) := (blk_cell BK110.out 1).trans rfl
                    have hcz171_2 : wc.cell? ⟨gb110, 2, none⟩ = some (.int .i64 t108) := (blk_cell BK110.out 2).trans rfl
                    have hcz171_3 : wc.cell? ⟨gb110, 3, none⟩ = some (.int .i64 t109) := (blk_cell BK110.out 3).trans rfl
                    have hfz171_0 := blk_frozen BK110.out 0
                    have hfz171_1 := blk_frozen BK110.out 1
                    have hfz171_2 := blk_frozen BK110.out 2
                    have hfz171_3 := blk_frozen BK110.out 3
                    go_wp2_with (first | (go_at_call 20; (with_reducible refine (hauberkref02_bits.calls kj127 a0_4 11 1 t117 _ A165.out).mono ?_); rintro e w' ⟨rfl, ⟨nd, rfl⟩⟩; (try first | exact ⟨rfl, _, World.drewN_drewN _ _ _⟩ | exact ⟨rfl, _, Eq.trans (World.drewN_drewN _ _ _) (congrArg (World.drewN _) (Nat.add_assoc _ _ _))⟩)) | (go_at_call 20; (with_reducible refine (hauberkref02_bits.calls kj127 a0_4 1 4 t118 _ A166.out).mono ?_); rintro e w' ⟨rfl, ⟨nd, rfl⟩⟩; (try first | exact ⟨rfl, _, World.drewN_drewN _ _ _⟩ | exact ⟨rfl, _, Eq.trans (World.drewN_drewN _ _ _) (congrArg (World.drewN _) (Nat.add_assoc _ _ _))⟩)) | (go_at_call 20; (with_reducible refine (hauberkref02_bits.calls kj127 a0_4 5 6 t119 _ A167.out).mono ?_); rintro e w' ⟨rfl, ⟨nd, rfl⟩⟩; (try first | exact ⟨rfl, _, World.drewN_drewN _ _ _⟩ | exact ⟨rfl, _, Eq.trans (World.drewN_drewN _ _ _) (congrArg (World.drewN _) (Nat.add_assoc _ _ _))⟩)) | (go_at_call 20; (with_reducible refine (hauberkref02_bits.calls kj127 a0_4 12 1 t120 _ A168.out).mono ?_); rintro e w' ⟨rfl, ⟨nd, rfl⟩⟩; (try first | exact ⟨rfl, _, World.drewN_drewN _ _ _⟩ | exact ⟨rfl, _, Eq.trans (World.drewN_drewN _ _ _) (congrArg (World.drewN _) (Nat.add_assoc _ _ _))⟩)))
                    repeat (go_quiet (first | (go_at_call 20; (with_reducible refine (hauberkref02_bits.calls kj127 a0_4 11 1 t117 _ A165.out).mono ?_); rintro e w' ⟨rfl, ⟨nd, rfl⟩⟩; (try first | exact ⟨rfl, _, World.drewN_drewN _ _ _⟩ | exact ⟨rfl, _, Eq.trans (World.drewN_drewN _ _ _) (congrArg (World.drewN _) (Nat.add_assoc _ _ _))⟩)) | (go_at_call 20; (with_reducible refine (hauberkref02_bits.calls kj127 a0_4 1 4 t118 _ A166.out).mono ?_); rintro e w' ⟨rfl, ⟨nd, rfl⟩⟩; (try first | exact ⟨rfl, _, World.drewN_drewN _ _ _⟩ | exact ⟨rfl, _, Eq.trans (World.drewN_drewN _ _ _) (congrArg (World.drewN _) (Nat.add_assoc _ _ _))⟩)) | (go_at_call 20; (with_reducible refine (hauberkref02_bits.calls kj127 a0_4 5 6 t119 _ A167.out).mono ?_); rintro e w' ⟨rfl, ⟨nd, rfl⟩⟩; (try first | exact ⟨rfl, _, World.drewN_drewN _ _ _⟩ | exact ⟨rfl, _, Eq.trans (World.drewN_drewN _ _ _) (congrArg (World.drewN _) (Nat.add_assoc _ _ _))⟩)) | (go_at_call 20; (with_reducible refine (hauberkref02_bits.calls kj127 a0_4 12 1 t120 _ A168.out).mono ?_); rintro e w' ⟨rfl, ⟨nd, rfl⟩⟩; (try first | exact ⟨rfl, _, World.drewN_drewN _ _ _⟩ | exact ⟨rfl, _, Eq.trans (World.drewN_drewN _ _ _) (congrArg (World.drewN _) (Nat.add_assoc _ _ _))⟩))); try go_wp2_with (first | (go_at_call 20; (with_reducible refine (hauberkref02_bits.calls kj127 a0_4 11 1 t117 _ A165.out).mono ?_); rintro e w' ⟨rfl, ⟨nd, rfl⟩⟩; (try first | exact ⟨rfl, _, World.drewN_drewN _ _ _⟩ | exact ⟨rfl, _, Eq.trans (World.drewN_drewN _ _ _) (congrArg (World.drewN _) (Nat.add_assoc _ _ _))⟩)) | (go_at_call 20; (with_reducible refine (hauberkref02_bits.calls kj127 a0_4 1 4 t118 _ A166.out).mono ?_); rintro e w' ⟨rfl, ⟨nd, rfl⟩⟩; (try first | exact ⟨rfl, _, World.drewN_drewN _ _ _⟩ | exact ⟨rfl, _, Eq.trans (World.drewN_drewN _ _ _) (congrArg (World.drewN _) (Nat.add_assoc _ _ _))⟩)) | (go_at_call 20; (with_reducible refine (hauberkref02_bits.calls kj127 a0_4 5 6 t119 _ A167.out).mono ?_); rintro e w' ⟨rfl, ⟨nd, rfl⟩⟩; (try first | exact ⟨rfl, _, World.drewN_drewN _ _ _⟩ | exact ⟨rfl, _, Eq.trans (World.drewN_drewN _ _ _) (congrArg (World.drewN _) (Nat.add_assoc _ _ _))⟩)) | (go_at_call 20; (with_reducible refine (hauberkref02_bits.calls kj127 a0_4 12 1 t120 _ A168.out).mono ?_); rintro e w' ⟨rfl, ⟨nd, rfl⟩⟩; (try first | exact ⟨rfl, _, World.drewN_drewN _ _ _⟩ | exact ⟨rfl, _, Eq.trans (World.drewN_drewN _ _ _) (congrArg (World.drewN _) (Nat.add_assoc _ _ _))⟩))))
                    go_ret2
                    exact ⟨by first | rfl | (simp [errW_none, errW_some] <;> rfl) | (simp [*, errW_none, errW_some] <;> rfl), by repeat (first | (with_reducible first | exact HB.out | apply below_alloc | apply pw_below_drewN | apply below_drew1 | refine below_set ?_ GE105.out | refine below_set ?_ GE110.out) | exact HB.out)⟩
                  ·rw [if_neg c164] at H
                   have c164b0 : (t106 == 66) = false := beq_eq_false_iff_ne.mpr c164
                   have c164b1 : (t106 != 66) = true := bne_iff_ne.mpr c164
                   by_cases c172 : t106 = 85
                   ·as_aux_lemma =>
                     rw [if_pos c172] at H
                     have c172b0 : (t106 == 85) = true := beq_iff_eq.mpr c172
                     have c172b1 : (t106 != 85) = false := bne_eq_false_iff_eq.mpr c172
                     clear c172
                     replace H := Option.bind_eq_some_iff.mp H
                     obtain ⟨t121, A1730, H⟩ := H
                     replace H : (some ((wrap64 ((wrap64 (t107 + (wrap64 (128 * a0_1)))) + (wrap64 (4096 * t121)))) % 4294967296, 0)) = some (r1, r2) := H
                     have A173 := Aside0.mk A1730
                     clear A1730
                     simp only [Option.some.injEq, Prod.mk.injEq] at H
                     obtain ⟨rfl, rfl⟩ := H
                     have hnb174 := NB105_110.out
                     have hnc174 := NB110_105.out
                     have hcz175_0 : wc.cell? ⟨gb105, 0, none⟩ = some (.int .i64 a0_0) := (blk_cell BK105.out 0).trans rfl
                     have hcz175_1 : wc.cell? ⟨gb105, 1, none⟩ = some (.int .i64 a0_1) := (blk_cell BK105.out 1).trans rfl
                     have hcz175_2 : wc.cell? ⟨gb105, 2, none⟩ = some (.int .i64 a0_2) := (blk_cell BK105.out 2).trans rfl
                     have hcz175_3 : wc.cell? ⟨gb105, 3, none⟩ = some (.int .i64 a0_3) := (blk_cell BK105.out 3).trans rfl
                     have hcz175_4 : wc.cell? ⟨gb105, 4, none⟩ = some (.int .i64 a0_4) := (blk_cell BK105.out 4).trans rfl
                     have hfz175_0 := blk_frozen BK105.out 0
                     have hfz175_1 := blk_frozen BK105.out 1
                     have hfz175_2 := blk_frozen BK105.out 2
                     have hfz175_3 := blk_frozen BK105.out 3
                     have hfz175_4 := blk_frozen BK105.out 4
                     have hcz176_0 : wc.cell? ⟨gb110, 0, none⟩ = some (.int .u8 t106) := (blk_cell BK110.out 0).trans rfl
                     have hcz176_1 : wc.cell? ⟨gb110, 1, none⟩ = some (.int .i64 t107) := (blk_cell BK110.out 1).trans rfl
                     have hcz176_2 : wc.cell? ⟨gb110, 2, none⟩ = some (.int .i64 t108) := (blk_cell BK110.out 2).trans rfl
                     have hcz176_3 : wc.cell? ⟨gb110, 3, none⟩ = some (.int .i64 t109) := (blk_cell BK110.out 3).trans rfl
                     have hfz176_0 := blk_frozen BK110.out 0
                     have hfz176_1 := blk_frozen BK110.out 1
                     have hfz176_2 := blk_frozen BK110.out 2
                     have hfz176_3 := blk_frozen BK110.out 3
                     go_wp2_with (first | (go_at_call 20; (with_reducible refine (hauberkref02_bits.calls kj127 a0_4 0 20 t121 _ A173.out).mono ?_); rintro e w' ⟨rfl, ⟨nd, rfl⟩⟩; (try first | exact ⟨rfl, _, World.drewN_drewN _ _ _⟩ | exact ⟨rfl, _, Eq.trans (World.drewN_drewN _ _ _) (congrArg (World.drewN _) (Nat.add_assoc _ _ _))⟩)))
                     repeat (go_quiet (first | (go_at_call 20; (with_reducible refine (hauberkref02_bits.calls kj127 a0_4 0 20 t121 _ A173.out).mono ?_); rintro e w' ⟨rfl, ⟨nd, rfl⟩⟩; (try first | exact ⟨rfl, _, World.drewN_drewN _ _ _⟩ | exact ⟨rfl, _, Eq.trans (World.drewN_drewN _ _ _) (congrArg (World.drewN _) (Nat.add_assoc _ _ _))⟩))); try go_wp2_with (first | (go_at_call 20; (with_reducible refine (hauberkref02_bits.calls kj127 a0_4 0 20 t121 _ A173.out).mono ?_); rintro e w' ⟨rfl, ⟨nd, rfl⟩⟩; (try first | exact ⟨rfl, _, World.drewN_drewN _ _ _⟩ | exact ⟨rfl, _, Eq.trans (World.drewN_drewN _ _ _) (congrArg (World.drewN _) (Nat.add_assoc _ _ _))⟩))))
                     go_ret2
                     exact ⟨by first | rfl | (simp [errW_none, errW_some] <;> rfl) | (simp [*, errW_none, errW_some] <;> rfl), by repeat (first | (with_reducible first | exact HB.out | apply below_alloc | apply pw_below_drewN | apply below_drew1 | refine below_set ?_ GE105.out | refine below_set ?_ GE110.out) | exact HB.out)⟩
                   ·rw [if_neg c172] at H
                    have c172b0 : (t106 == 85) = false := beq_eq_false_iff_ne.mpr c172
                    have c172b1 : (t106 != 85) = true := bne_iff_ne.mpr c172
                    by_cases c177 : t106 = 74
                    ·as_aux_lemma =>
                      rw [if_pos c177] at H
                      have c177b0 : (t106 == 74) = true := beq_iff_eq.mpr c177
                      have c177b1 : (t106 != 74) = false := bne_eq_false_iff_eq.mpr c177
                      clear c177
                      replace H := Option.bind_eq_some_iff.mp H
                      obtain ⟨t122, A1780, H⟩ := H
                      replace H : ((hauberkref02_bits.f kj127 a0_4 11 1).bind fun t123 => ((hauberkref02_bits.f kj127 a0_4 1 10).bind fun t124 => ((hauberkref02_bits.f kj127 a0_4 20 1).bind fun t125 => (some ((wrap64 ((wrap64 ((wrap64 ((wrap64 ((wrap64 (t107 + (wrap64 (128 * a0_1)))) + (wrap64 (4096 * t122)))) + (wrap64 (1048576 * t123)))) + (wrap64 (2097152 * t124)))) + (wrap64 (2147483648 * t125)))) % 4294967296, 0))))) = some (r1, r2) := H
                      have A178 := Aside0.mk A1780
                      clear A1780
                      replace H := Option.bind_eq_some_iff.mp H
                      obtain ⟨t123, A1790, H⟩ := H
                      replace H : ((hauberkref02_bits.f kj127 a0_4 1 10).bind fun t124 => ((hauberkref02_bits.f kj127 a0_4 20 1).bind fun t125 => (some ((wrap64 ((wrap64 ((wrap64 ((wrap64 ((wrap64 (t107 + (wrap64 (128 * a0_1)))) + (wrap64 (4096 * t122)))) + (wrap64 (1048576 * t123)))) + (wrap64 (2097152 * t124)))) + (wrap64 (2147483648 * t125)))) % 4294967296, 0)))) = some (r1, r2) := H
                      have A179 := Aside0.mk A1790
                      clear A1790
                      replace H := Option.bind_eq_some_iff.mp H
                      obtain ⟨t124, A1800, H⟩ := H
                      replace H : ((hauberkref02_bits.f kj127 a0_4 20 1).bind fun t125 => (some ((wrap64 ((wrap64 ((wrap64 ((wrap64 ((wrap64 (t107 + (wrap64 (128 * a0_1)))) + (wrap64 (4096 * t122)))) + (wrap64 (1048576 * t123)))) + (wrap64 (2097152 * t124)))) + (wrap64 (2147483648 * t125)))) % 4294967296, 0))) = some (r1, r2) := H
                      have A180 := Aside0.mk A1800
                      clear A1800
                      replace H := Option.bind_eq_some_iff.mp H
                      obtain ⟨t125, A1810, H⟩ := H
                      replace H : (some ((wrap64 ((wrap64 ((wrap64 ((wrap64 ((wrap64 (t107 + (wrap64 (128 * a0_1)))) + (wrap64 (4096 * t122)))) + (wrap64 (1048576 * t123)))) + (wrap64 (2097152 * t124)))) + (wrap64 (2147483648 * t125)))) % 4294967296, 0)) = some (r1, r2) := H
                      have A181 := Aside0.mk A1810
                      clear A1810
                      simp only [Option.some.injEq, Prod.mk.injEq] at H
                      obtain ⟨rfl, rfl⟩ := H
                      have hnb182 := NB105_110.out
                      have hnc182 := NB110_105.out
                      have hcz183_0 : wc.cell? ⟨gb105, 0, none⟩ = some (.int .i64 a0_0) := (blk_cell BK105.out 0).trans rfl
                      have hcz183_1 : wc.cell? ⟨gb105, 1, none⟩ = some (.int .i64 a0_1) := (blk_cell BK105.out 1).trans rfl
                      have hcz183_2 : wc.cell? ⟨gb105, 2, none⟩ = some (.int .i64 a0_2) := (blk_cell BK105.out 2).trans rfl
                      have hcz183_3 : wc.cell? ⟨gb105, 3, none⟩ = some (.int .i64 a0_3) := (blk_cell BK105.out 3).trans rfl
                      have hcz183_4 : wc.cell? ⟨gb105, 4, none⟩ = some (.int .i64 a0_4) := (blk_cell BK105.out 4).trans rfl
                      have hfz183_0 := blk_frozen BK105.out 0
                      have hfz183_1 := blk_frozen BK105.out 1
                      have hfz183_2 := blk_frozen BK105.out 2
                      have hfz183_3 := blk_frozen BK105.out 3
                      have hfz183_4 := blk_frozen BK105.out 4
                      have hcz184_0 : wc.cell? ⟨gb110, 0, none⟩ = some (.int .u8 t106) := (blk_cell BK110.out 0).trans rfl
                      have hcz184_1 : wc.cell? ⟨gb110, 1, none⟩ = some (.int .i64 t107) := (blk_cell BK110.out 1).trans rfl
                      have hcz184_2 : wc.cell? ⟨gb110, 2, none⟩ = some (.int .i64 t108) := (blk_cell BK110.out 2).trans rfl
                      have hcz184_3 : wc.cell? ⟨gb110, 3, none⟩ = some (.int .i64 t109) := (blk_cell BK110.out 3).trans rfl
                      have hfz184_0 := blk_frozen BK110.out 0
                      have hfz184_1 := blk_frozen BK110.out 1
                      have hfz184_2 := blk_frozen BK110.out 2
                      have hfz184_3 := blk_frozen BK110.out 3
                      go_wp2_with (first | (go_at_call 20; (with_reducible refine (hauberkref02_bits.calls kj127 a0_4 12 8 t122 _ A178.out).mono ?_); rintro e w' ⟨rfl, ⟨nd, rfl⟩⟩; (try first | exact ⟨rfl, _, World.drewN_drewN _ _ _⟩ | exact ⟨rfl, _, Eq.trans (World.drewN_drewN _ _ _) (congrArg (World.drewN _) (Nat.add_assoc _ _ _))⟩)) | (go_at_call 20; (with_reducible refine (hauberkref02_bits.calls kj127 a0_4 11 1 t123 _ A179.out).mono ?_); rintro e w' ⟨rfl, ⟨nd, rfl⟩⟩; (try first | exact ⟨rfl, _, World.drewN_drewN _ _ _⟩ | exact ⟨rfl, _, Eq.trans (World.drewN_drewN _ _ _) (congrArg (World.drewN _) (Nat.add_assoc _ _ _))⟩)) | (go_at_call 20; (with_reducible refine (hauberkref02_bits.calls kj127 a0_4 1 10 t124 _ A180.out).mono ?_); rintro e w' ⟨rfl, ⟨nd, rfl⟩⟩; (try first | exact ⟨rfl, _, World.drewN_drewN _ _ _⟩ | exact ⟨rfl, _, Eq.trans (World.drewN_drewN _ _ _) (congrArg (World.drewN _) (Nat.add_assoc _ _ _))⟩)) | (go_at_call 20; (with_reducible refine (hauberkref02_bits.calls kj127 a0_4 20 1 t125 _ A181.out).mono ?_); rintro e w' ⟨rfl, ⟨nd, rfl⟩⟩; (try first | exact ⟨rfl, _, World.drewN_drewN _ _ _⟩ | exact ⟨rfl, _, Eq.trans (World.drewN_drewN _ _ _) (congrArg (World.drewN _) (Nat.add_assoc _ _ _))⟩)))
                      repeat (go_quiet (first | (go_at_call 20; (with_reducible refine (hauberkref02_bits.calls kj127 a0_4 12 8 t122 _ A178.out).mono ?_); rintro e w' ⟨rfl, ⟨nd, rfl⟩⟩; (try first | exact ⟨rfl, _, World.drewN_drewN _ _ _⟩ | exact ⟨rfl, _, Eq.trans (World.drewN_drewN _ _ _) (congrArg (World.drewN _) (Nat.add_assoc _ _ _))⟩)) | (go_at_call 20; (with_reducible refine (hauberkref02_bits.calls kj127 a0_4 11 1 t123 _ A179.out).mono ?_); rintro e w' ⟨rfl, ⟨nd, rfl⟩⟩; (try first | exact ⟨rfl, _, World.drewN_drewN _ _ _⟩ | exact ⟨rfl, _, Eq.trans (World.drewN_drewN _ _ _) (congrArg (World.drewN _) (Nat.add_assoc _ _ _))⟩)) | (go_at_call 20; (with_reducible refine (hauberkref02_bits.calls kj127 a0_4 1 10 t124 _ A180.out).mono ?_); rintro e w' ⟨rfl, ⟨nd, rfl⟩⟩; (try first | exact ⟨rfl, _, World.drewN_drewN _ _ _⟩ | exact ⟨rfl, _, Eq.trans (World.drewN_drewN _ _ _) (congrArg (World.drewN _) (Nat.add_assoc _ _ _))⟩)) | (go_at_call 20; (with_reducible refine (hauberkref02_bits.calls kj127 a0_4 20 1 t125 _ A181.out).mono ?_); rintro e w' ⟨rfl, ⟨nd, rfl⟩⟩; (try first | exact ⟨rfl, _, World.drewN_drewN _ _ _⟩ | exact ⟨rfl, _, Eq.trans (World.drewN_drewN _ _ _) (congrArg (World.drewN _) (Nat.add_assoc _ _ _))⟩))); try go_wp2_with (first | (go_at_call 20; (with_reducible refine (hauberkref02_bits.calls kj127 a0_4 12 8 t122 _ A178.out).mono ?_); rintro e w' ⟨rfl, ⟨nd, rfl⟩⟩; (try first | exact ⟨rfl, _, World.drewN_drewN _ _ _⟩ | exact ⟨rfl, _, Eq.trans (World.drewN_drewN _ _ _) (congrArg (World.drewN _) (Nat.add_assoc _ _ _))⟩)) | (go_at_call 20; (with_reducible refine (hauberkref02_bits.calls kj127 a0_4 11 1 t123 _ A179.out).mono ?_); rintro e w' ⟨rfl, ⟨nd, rfl⟩⟩; (try first | exact ⟨rfl, _, World.drewN_drewN _ _ _⟩ | exact ⟨rfl, _, Eq.trans (World.drewN_drewN _ _ _) (congrArg (World.drewN _) (Nat.add_assoc _ _ _))⟩)) | (go_at_call 20; (with_reducible refine (hauberkref02_bits.calls kj127 a0_4 1 10 t124 _ A180.out).mono ?_); rintro e w' ⟨rfl, ⟨nd, rfl⟩⟩; (try first | exact ⟨rfl, _, World.drewN_drewN _ _ _⟩ | exact ⟨rfl, _, Eq.trans (World.drewN_drewN _ _ _) (congrArg (World.drewN _) (Nat.add_assoc _ _ _))⟩)) | (go_at_call 20; (with_reducible refine (hauberkref02_bits.calls kj127 a0_4 20 1 t125 _ A181.out).mono ?_); rintro e w' ⟨rfl, ⟨nd, rfl⟩⟩; (try first | exact ⟨rfl, _, World.drewN_drewN _ _ _⟩ | exact ⟨rfl, _, Eq.trans (World.drewN_drewN _ _ _) (congrArg (World.drewN _) (Nat.add_assoc _ _ _))⟩))))
                      go_ret2
                      exact ⟨by first | rfl | (simp [errW_none, errW_some] <;> rfl) | (simp [*, errW_none, errW_some] <;> rfl), by repeat (first | (with_reducible first | exact HB.out | apply below_alloc | apply pw_below_drewN | apply below_drew1 | refine below_set ?_ GE105.out | refine below_set ?_ GE110.out) | exact HB.out)⟩
                    ·as_aux_lemma =>
                      rw [if_neg c177] at H
                      have c177b0 : (t106 == 74) = false := beq_eq_false_iff_ne.mpr c177
                      have c177b1 : (t106 != 74) = true := bne_iff_ne.mpr c177
                      simp only [Option.some.injEq, Prod.mk.injEq] at H
                      obtain ⟨rfl, rfl⟩ := H
                      have hnb185 := NB105_110.out
                      have hnc185 := NB110_105.out
                      have hcz186_0 : wc.cell? ⟨gb105, 0, none⟩ = some (.int .i64 a0_0) := (blk_cell BK105.out 0).trans rfl
                      have hcz186_1 : wc.cell? ⟨gb105, 1, none⟩ = some (.int .i64 a0_1) := (blk_cell BK105.out 1).trans rfl
                      have hcz186_2 : wc.cell? ⟨gb105, 2, none⟩ = some (.int .i64 a0_2) := (blk_cell BK105.out 2).trans rfl
                      have hcz186_3 : wc.cell? ⟨gb105, 3, none⟩ = some (.int .i64 a0_3) := (blk_cell BK105.out 3).trans rfl
                      have hcz186_4 : wc.cell? ⟨gb105, 4, none⟩ = some (.int .i64 a0_4) := (blk_cell BK105.out 4).trans rfl
                      have hfz186_0 := blk_frozen BK105.out 0
                      have hfz186_1 := blk_frozen BK105.out 1
                      have hfz186_2 := blk_frozen BK105.out 2
                      have hfz186_3 := blk_frozen BK105.out 3
                      have hfz186_4 := blk_frozen BK105.out 4
                      have hcz187_0 : wc.cell? ⟨gb110, 0, none⟩ = some (.int .u8 t106) := (blk_cell BK110.out 0).trans rfl
                      have hcz187_1 : wc.cell? ⟨gb110, 1, none⟩ = some (.int .i64 t107) := (blk_cell BK110.out 1).trans rfl
                      have hcz187_2 : wc.cell? ⟨gb110, 2, none⟩ = some (.int .i64 t108) := (blk_cell BK110.out 2).trans rfl
                      have hcz187_3 : wc.cell? ⟨gb110, 3, none⟩ = some (.int .i64 t109) := (blk_cell BK110.out 3).trans rfl
                      have hfz187_0 := blk_frozen BK110.out 0
                      have hfz187_1 := blk_frozen BK110.out 1
                      have hfz187_2 := blk_frozen BK110.out 2
                      have hfz187_3 := blk_frozen BK110.out 3
                      go_wp2
                      repeat (go_quiet (fail); try go_wp2)
                      go_ret2
                      exact ⟨by first | rfl | (simp [errW_none, errW_some] <;> rfl) | (simp [*, errW_none, errW_some] <;> rfl), by repeat (first | (with_reducible first | exact HB.out | apply below_alloc | apply pw_below_drewN | apply below_drew1 | refine below_set ?_ GE105.out | refine below_set ?_ GE110.out) | exact HB.out)⟩

end Go.Proofs.Ytkacoffiinggiaa.K
