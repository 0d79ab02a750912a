import Derived.Test.YtclegbgmhimenaaGreatDoorEng2
import Derived.Test.YtclegbgmhimenaaGreatDoorProg
import Derived.KernelRfl
import Derived.Lib.TrailingZeros
set_option linter.unusedVariables false
set_option linter.unusedSimpArgs false
namespace Go.Proofs.YtclegbgmhimenaaGreatDoor.Eng
open Go.RowKit Go.Proofs
set_option maxRecDepth 100000
set_option linter.unusedVariables false
def TL : List (Nat × TI) := [(2, ⟨.int .i64, 1, 8, [(.int .i64)]⟩),
  (3, ⟨.int .i64, 1, 8, [(.int .i64)]⟩),
  (4, ⟨.bool, 1, 1, [.bool]⟩),
  (5, ⟨.int .u8, 1, 1, [(.int .u8)]⟩),
  (6, ⟨.int .u8, 1, 1, [(.int .u8)]⟩),
  (7, ⟨.struct [(0, 2), (1, 3), (2, 4), (3, 6)], 4, 24, [(.int .i64), (.int .i64), .bool, (.int .u8)]⟩),
  (8, ⟨.struct [(0, 2), (1, 3), (2, 4), (3, 6)], 4, 24, [(.int .i64), (.int .i64), .bool, (.int .u8)]⟩),
  (9, ⟨.str, 1, 16, [.str]⟩),
  (10, ⟨.str, 1, 16, [.str]⟩),
  (11, ⟨.str, 1, 16, [.str]⟩),
  (12, ⟨.int .u64, 1, 8, [(.int .u64)]⟩),
  (13, ⟨.struct [(0, 9), (1, 12)], 2, 24, [.str, (.int .u64)]⟩),
  (14, ⟨.struct [(0, 9), (1, 12)], 2, 24, [.str, (.int .u64)]⟩),
  (15, ⟨.ptr 192, 1, 8, [.ptr]⟩),
  (16, ⟨.ptr 195, 1, 8, [.ptr]⟩),
  (17, ⟨.ptr 203, 1, 8, [.ptr]⟩),
  (18, ⟨.struct [(0, 17)], 1, 8, [.ptr]⟩),
  (19, ⟨.struct [(0, 17)], 1, 8, [.ptr]⟩),
  (21, ⟨.int .i32, 1, 4, [(.int .i32)]⟩),
  (22, ⟨.int .u8, 1, 1, [(.int .u8)]⟩),
  (23, ⟨.int .u8, 1, 1, [(.int .u8)]⟩),
  (24, ⟨.int .u64, 1, 8, [(.int .u64)]⟩),
  (25, ⟨.int .u8, 1, 1, [(.int .u8)]⟩),
  (26, ⟨.int .i64, 1, 8, [(.int .i64)]⟩),
  (44, ⟨.int .u8, 1, 1, [(.int .u8)]⟩),
  (49, ⟨.slice 107, 1, 24, [(.slice (some .u32))]⟩),
  (50, ⟨.struct [(0, 4), (1, 49), (2, 3)], 3, 40, [.bool, (.slice (some .u32)), (.int .i64)]⟩),
  (51, ⟨.struct [(0, 4), (1, 49), (2, 3)], 3, 40, [.bool, (.slice (some .u32)), (.int .i64)]⟩),
  (62, ⟨.struct [(0, 4), (1, 3), (2, 24)], 3, 24, [.bool, (.int .i64), (.int .u64)]⟩),
  (63, ⟨.struct [(0, 4), (1, 3), (2, 24)], 3, 24, [.bool, (.int .i64), (.int .u64)]⟩),
  (86, ⟨.slice 24, 1, 24, [(.slice (some .u64))]⟩),
  (107, ⟨.int .u32, 1, 4, [(.int .u32)]⟩),
  (109, ⟨.int .u64, 1, 8, [(.int .u64)]⟩),
  (117, ⟨.struct [(0, 3), (1, 3), (2, 24)], 3, 24, [(.int .i64), (.int .i64), (.int .u64)]⟩),
  (118, ⟨.struct [(0, 3), (1, 3), (2, 24)], 3, 24, [(.int .i64), (.int .i64), (.int .u64)]⟩),
  (124, ⟨.struct [(0, 3), (1, 3), (2, 3)], 3, 24, [(.int .i64), (.int .i64), (.int .i64)]⟩),
  (125, ⟨.struct [(0, 3), (1, 3), (2, 3)], 3, 24, [(.int .i64), (.int .i64), (.int .i64)]⟩),
  (128, ⟨.struct [(0, 24), (1, 3), (2, 4)], 3, 24, [(.int .u64), (.int .i64), .bool]⟩),
  (129, ⟨.struct [(0, 24), (1, 3), (2, 4)], 3, 24, [(.int .u64), (.int .i64), .bool]⟩),
  (159, ⟨.slice 51, 1, 24, [(.slice none)]⟩),
  (178, ⟨.slice 49, 1, 24, [(.slice none)]⟩),
  (186, ⟨.arr 32 5, 32, 32, [(.int .u8), (.int .u8), (.int .u8), (.int .u8), (.int .u8), (.int .u8), (.int .u8), (.int .u8), (.int .u8), (.int .u8), (.int .u8), (.int .u8), (.int .u8), (.int .u8), (.int .u8), (.int .u8), (.int .u8), (.int .u8), (.int .u8), (.int .u8), (.int .u8), (.int .u8), (.int .u8), (.int .u8), (.int .u8), (.int .u8), (.int .u8), (.int .u8), (.int .u8), (.int .u8), (.int .u8), (.int .u8)]⟩),
  (191, ⟨.struct [(0, 17), (1, 17), (2, 17), (3, 9)], 4, 40, [.ptr, .ptr, .ptr, .str]⟩),
  (192, ⟨.struct [(0, 17), (1, 17), (2, 17), (3, 9)], 4, 40, [.ptr, .ptr, .ptr, .str]⟩),
  (193, ⟨.arr 0 16, 0, 0, []⟩),
  (194, ⟨.struct [(0, 193)], 0, 0, []⟩),
  (195, ⟨.struct [(0, 193)], 0, 0, []⟩),
  (196, ⟨.int .u8, 1, 1, [(.int .u8)]⟩),
  (197, ⟨.int .u8, 1, 1, [(.int .u8)]⟩),
  (199, ⟨.ptr 5, 1, 8, [.ptr]⟩),
  (200, ⟨.int .i32, 1, 4, [(.int .i32)]⟩),
  (201, ⟨.int .i32, 1, 4, [(.int .i32)]⟩)]
def TT : Nat → Option TI := lookT TL
def txt0 : ByteArray := ⟨#[0, 1, 2, 2, 3, 3, 3, 3, 4, 4, 4, 4, 4, 4, 4, 4, 5, 5, 5, 5, 5, 5, 5, 5, 5, 5, 5, 5, 5, 5, 5, 5, 6, 6, 6, 6, 6, 6, 6, 6, 6, 6, 6, 6, 6, 6, 6, 6, 6, 6, 6, 6, 6, 6, 6, 6, 6, 6, 6, 6, 6, 6, 6, 6, 7, 7, 7, 7, 7, 7, 7, 7, 7, 7, 7, 7, 7, 7, 7, 7, 7, 7, 7, 7, 7, 7, 7, 7, 7, 7, 7, 7, 7, 7, 7, 7, 7, 7, 7, 7, 7, 7, 7, 7, 7, 7, 7, 7, 7, 7, 7, 7, 7, 7, 7, 7, 7, 7, 7, 7, 7, 7, 7, 7, 7, 7, 7, 7, 8, 8, 8, 8, 8, 8, 8, 8, 8, 8, 8, 8, 8, 8, 8, 8, 8, 8, 8, 8, 8, 8, 8, 8, 8, 8, 8, 8, 8, 8, 8, 8, 8, 8, 8, 8, 8, 8, 8, 8, 8, 8, 8, 8, 8, 8, 8, 8, 8, 8, 8, 8, 8, 8, 8, 8, 8, 8, 8, 8, 8, 8, 8, 8, 8, 8, 8, 8, 8, 8, 8, 8, 8, 8, 8, 8, 8, 8, 8, 8, 8, 8, 8, 8, 8, 8, 8, 8, 8, 8, 8, 8, 8, 8, 8, 8, 8, 8, 8, 8, 8, 8, 8, 8, 8, 8, 8, 8, 8, 8, 8, 8, 8, 8, 8, 8, 8, 8, 8, 8, 8, 8, 8, 8, 8, 8, 8, 8]⟩
def bits_TrailingZeros32.f (x : Int) : Option Int := if 0 ≤ x ∧ x < 4294967296 then some (Lib.ctz 32 x.toNat : Int) else none
def tabM : Nat → Nat → Option Value := fun b o => if b = 0 ∧ o < 32 then some (.int .u8 (Lib.deBruijn32tab.getD o 0)) else none
def cutplaneref03_Is.f (x0 : Int) : Option (Bool) := if x0 = 1 then (some true) else (some (decide (x0 = 2)))
abbrev cutplaneref03_Is.S : Sig := { ps := [.lf (.i .u8)], rs := [.lf (.b)], wb := [], R := Bool, mkR := fun y0 => some y0, un := fun r => [.bool r] }
def cutplaneref03_Is.F (k : Nat) : Fun := { S := cutplaneref03_Is.S, f := cutplaneref03_Is.f }
def cutplaneref03_Is.C (k : Nat) : Cfg := { T := TT, G := lookG [], nt := 9, cuts := [], M0 := tabM }
def cutplaneref03_Is.H (k : Nat) : List (CutF cutplaneref03_Is.S.R) := []
def cutplaneref04_Is.f (x0 : Int) : Option (Bool) := if x0 ≥ 1 then (some (decide (x0 ≤ 5))) else (some false)
abbrev cutplaneref04_Is.S : Sig := { ps := [.lf (.i .u8)], rs := [.lf (.b)], wb := [], R := Bool, mkR := fun y0 => some y0, un := fun r => [.bool r] }
def cutplaneref04_Is.F (k : Nat) : Fun := { S := cutplaneref04_Is.S, f := cutplaneref04_Is.f }
def cutplaneref04_Is.C (k : Nat) : Cfg := { T := TT, G := lookG [], nt := 9, cuts := [], M0 := tabM }
def cutplaneref04_Is.H (k : Nat) : List (CutF cutplaneref04_Is.S.R) := []
def cutplaneref03_Good.f (x0 : Int) (x1 : Int) : Option (Int) := (cutplaneref03_Is.f x0).bind fun t14 => (if (!t14) = true then (some 4) else (if x0 = 1 then (if x1 ≥ 4294967296 then (some 6) else (some 0)) else (some 0)))
abbrev cutplaneref03_Good.S : Sig := { ps := [.lf (.i .u8), .lf (.i .u64)], rs := [.lf (.i .i64)], wb := [], R := Int, mkR := fun y0 => some y0, un := fun r => [.int .i64 r] }
def cutplaneref03_Good.F (k : Nat) : Fun := { S := cutplaneref03_Good.S, f := cutplaneref03_Good.f }
def cutplaneref03_Good.C (k : Nat) : Cfg := { T := TT, G := lookG [(11, [cutplaneref03_Is.F k])], nt := 14, cuts := [], M0 := tabM }
def cutplaneref03_Good.H (k : Nat) : List (CutF cutplaneref03_Good.S.R) := []
def cutplanelaw06_opens.l0 : Nat → Int → List Int → Int → Option (Int)
  | 0, _, _, _ => none
  | k + 1, x0, x2, x7 => if x7 < (x2.length : Int) then (if 0 ≤ x7 then (if x7 < (x2.length : Int) then ((cutplaneref03_Good.f x0 (rd x2 x7)).bind fun t23 => (if ¬ (t23 = 0) then (some 6) else (cutplanelaw06_opens.l0 k x0 x2 (wrap64 (x7 + 1))))) else (none)) else (none)) else (some 0)
def cutplanelaw06_opens.f (k : Nat) (x0 : Int) (x1 : Int) (x2 : List Int) : Option (Int) := (cutplaneref03_Is.f x0).bind fun t21 => (if (!t21) = true then (some 4) else ((cutplaneref04_Is.f x1).bind fun t22 => (if (!t22) = true then (some 5) else (cutplanelaw06_opens.l0 k x0 x2 0))))
abbrev cutplanelaw06_opens.S : Sig := { ps := [.lf (.i .u8), .lf (.i .u8), .lf (.is .u64)], rs := [.lf (.i .i64)], wb := [], R := Int, mkR := fun y0 => some y0, un := fun r => [.int .i64 r] }
def cutplanelaw06_opens.F (k : Nat) : Fun := { S := cutplanelaw06_opens.S, f := cutplanelaw06_opens.f k }
abbrev cutplanelaw06_opens.vl0 : List (Nat × Kx) := [(0, .lf (.i .u8)), (2, .lf (.is .u64)), (7, .lf (.i .i64))]
def cutplanelaw06_opens.C (k : Nat) : Cfg := { T := TT, G := lookG [(11, [cutplaneref03_Is.F k]), (48, [cutplaneref04_Is.F k]), (49, [cutplaneref03_Good.F k])], nt := 27, cuts := [⟨codeOf [true, true, true, false, true, false] 1, [true, true, true, false, true, false], cutplanelaw06_opens.vl0⟩], M0 := tabM }
def cutplanelaw06_opens.H (k : Nat) : List (CutF cutplanelaw06_opens.S.R) := [⟨cutplanelaw06_opens.vl0, cutplanelaw06_opens.l0 k⟩]
def round_formOf.f (x0 : Int) : Option (Int × Int × Int × Bool) := if x0 = 1 then (some (24, (-149), 128, true)) else (if x0 = 2 then (some (53, (-1074), 1024, true)) else (some (0, 0, 0, false)))
abbrev round_formOf.S : Sig := { ps := [.lf (.i .u8)], rs := [.ag [.i .i64, .i .i64, .i .i64], .lf (.b)], wb := [], R := Int × Int × Int × Bool, mkR := fun y0 y1 y2 y3 => some (y0, y1, y2, y3), un := fun r => [.int .i64 r.1, .int .i64 r.2.1, .int .i64 r.2.2.1, .bool r.2.2.2] }
def round_formOf.F (k : Nat) : Fun := { S := round_formOf.S, f := round_formOf.f }
def round_formOf.C (k : Nat) : Cfg := { T := TT, G := lookG [], nt := 12, cuts := [], M0 := tabM }
def round_formOf.H (k : Nat) : List (CutF round_formOf.S.R) := []
def nat_May.f (x0 : List Int) : Option (Bool) := if (x0.length : Int) ≤ 4096 then (if (x0.length : Int) = 0 then (some true) else (if 0 ≤ wrap64 ((x0.length : Int) - 1) then (if wrap64 ((x0.length : Int) - 1) < (x0.length : Int) then (some (decide (¬ (rd x0 (wrap64 ((x0.length : Int) - 1)) = 0)))) else (none)) else (none))) else (some false)
abbrev nat_May.S : Sig := { ps := [.lf (.is .u32)], rs := [.lf (.b)], wb := [], R := Bool, mkR := fun y0 => some y0, un := fun r => [.bool r] }
def nat_May.F (k : Nat) : Fun := { S := nat_May.S, f := nat_May.f }
def nat_May.C (k : Nat) : Cfg := { T := TT, G := lookG [], nt := 20, cuts := [], M0 := tabM }
def nat_May.H (k : Nat) : List (CutF nat_May.S.R) := []
def dyad_inside.f (x0 : Int) : Option (Bool) := if (-16777216) ≤ x0 then (some (decide (x0 ≤ 16777216))) else (some false)
abbrev dyad_inside.S : Sig := { ps := [.lf (.i .i64)], rs := [.lf (.b)], wb := [], R := Bool, mkR := fun y0 => some y0, un := fun r => [.bool r] }
def dyad_inside.F (k : Nat) : Fun := { S := dyad_inside.S, f := dyad_inside.f }
def dyad_inside.C (k : Nat) : Cfg := { T := TT, G := lookG [], nt := 9, cuts := [], M0 := tabM }
def dyad_inside.H (k : Nat) : List (CutF dyad_inside.S.R) := []
def dyad_May.f (x0_0 : Bool) (x0_1 : List Int) (x0_2 : Int) : Option (Bool) := (nat_May.f x0_1).bind fun t45 => (if (!t45) = true then (some false) else (if (x0_1.length : Int) = 0 then (if (!x0_0) = true then (some (decide (x0_2 = 0))) else (some false)) else (if 0 < (x0_1.length : Int) then (if (Go.bits .and .u32 (rd x0_1 0) 1) = 1 then ((dyad_inside.f x0_2).bind fun t46 => (some t46)) else (some false)) else (none))))
abbrev dyad_May.S : Sig := { ps := [.ag [.b, .is .u32, .i .i64]], rs := [.lf (.b)], wb := [], R := Bool, mkR := fun y0 => some y0, un := fun r => [.bool r] }
def dyad_May.F (k : Nat) : Fun := { S := dyad_May.S, f := dyad_May.f }
def dyad_May.C (k : Nat) : Cfg := { T := TT, G := lookG [(122, [nat_May.F k]), (137, [dyad_inside.F k])], nt := 30, cuts := [], M0 := tabM }
def dyad_May.H (k : Nat) : List (CutF dyad_May.S.R) := []
def round_open.l0 : Nat → Int → Int → Int → Int → Int → Int → List (Bool × List Int × Int) → Int → Int → Option (Int × Int × Int × Int)
  | 0, _, _, _, _, _, _, _, _, _ => none
  | k + 1, x6_0, x6_1, x6_2, x8_0, x8_1, x8_2, x27, x28, x29 => if x29 < x28 then (if 0 ≤ x29 then (if x29 < (x27.length : Int) then ((dyad_May.f ((rdT [.b, .is .u32, .i .i64] x27 x29).1) ((rdT [.b, .is .u32, .i .i64] x27 x29).2.1) ((rdT [.b, .is .u32, .i .i64] x27 x29).2.2)).bind fun t56 => (if (!t56) = true then (some (x8_0, x8_1, x8_2, 2)) else (round_open.l0 k x6_0 x6_1 x6_2 x8_0 x8_1 x8_2 x27 x28 (wrap64 (x29 + 1))))) else (none)) else (none)) else (some (x8_0, x8_1, x8_2, 0))
def round_open.f (k : Nat) (x0 : Int) (x1 : Int) (x2 : List (Bool × List Int × Int)) : Option (Int × Int × Int × Int) := (round_formOf.f x0).bind fun t55 => (if (!t55.2.2.2) = true then (some (t55.1, t55.2.1, t55.2.2.1, 4)) else (if x1 < 1 then (some (t55.1, t55.2.1, t55.2.2.1, 5)) else (if x1 > 5 then (some (t55.1, t55.2.1, t55.2.2.1, 5)) else (round_open.l0 k 0 0 0 t55.1 t55.2.1 t55.2.2.1 x2 (x2.length : Int) 0))))
abbrev round_open.S : Sig := { ps := [.lf (.i .u8), .lf (.i .u8), .lf (.rw [.b, .is .u32, .i .i64])], rs := [.ag [.i .i64, .i .i64, .i .i64], .lf (.i .i64)], wb := [], R := Int × Int × Int × Int, mkR := fun y0 y1 y2 y3 => some (y0, y1, y2, y3), un := fun r => [.int .i64 r.1, .int .i64 r.2.1, .int .i64 r.2.2.1, .int .i64 r.2.2.2] }
def round_open.F (k : Nat) : Fun := { S := round_open.S, f := round_open.f k }
abbrev round_open.vl0 : List (Nat × Kx) := [(6, .bx [.i .i64, .i .i64, .i .i64]), (8, .bx [.i .i64, .i .i64, .i .i64]), (27, .lf (.rw [.b, .is .u32, .i .i64])), (28, .lf (.i .i64)), (29, .lf (.i .i64))]
def round_open.C (k : Nat) : Cfg := { T := TT, G := lookG [(102, [dyad_May.F k]), (125, [round_formOf.F k])], nt := 39, cuts := [⟨codeOf [true, true, true, true, false, true, false] 1, [true, true, true, true, false, true, false], round_open.vl0⟩], M0 := tabM }
def round_open.H (k : Nat) : List (CutF round_open.S.R) := [⟨round_open.vl0, round_open.l0 k⟩]
def word_shapeOf.f (x0 : Int) : Option (Int × Int × Int × Bool) := if x0 = 1 then (some (23, 255, 2147483648, true)) else (if x0 = 2 then (some (52, 2047, 9223372036854775808, true)) else (some (0, 0, 0, false)))
abbrev word_shapeOf.S : Sig := { ps := [.lf (.i .u8)], rs := [.ag [.i .i64, .i .i64, .i .u64], .lf (.b)], wb := [], R := Int × Int × Int × Bool, mkR := fun y0 y1 y2 y3 => some (y0, y1, y2, y3), un := fun r => [.int .i64 r.1, .int .i64 r.2.1, .int .u64 r.2.2.1, .bool r.2.2.2] }
def word_shapeOf.F (k : Nat) : Fun := { S := word_shapeOf.S, f := word_shapeOf.f }
def word_shapeOf.C (k : Nat) : Cfg := { T := TT, G := lookG [], nt := 12, cuts := [], M0 := tabM }
def word_shapeOf.H (k : Nat) : List (CutF word_shapeOf.S.R) := []
def word_open.l0 : Nat → Int → Int → Int → Int → Int → Int → List Int → Int → Int → Option (Int × Int × Int × Int)
  | 0, _, _, _, _, _, _, _, _, _ => none
  | k + 1, x4_0, x4_1, x4_2, x6_0, x6_1, x6_2, x18, x19, x20 => if x20 < x19 then (if 0 ≤ x20 then (if x20 < (x18.length : Int) then (if (rd x18 x20) > (Go.bits .or .u64 x6_2 (IntKind.u64.wrap (x6_2 - 1))) then (some (x6_0, x6_1, x6_2, 6)) else (word_open.l0 k x4_0 x4_1 x4_2 x6_0 x6_1 x6_2 x18 x19 (wrap64 (x20 + 1)))) else (none)) else (none)) else (some (x6_0, x6_1, x6_2, 0))
def word_open.f (k : Nat) (x0 : Int) (x1 : List Int) : Option (Int × Int × Int × Int) := (word_shapeOf.f x0).bind fun t66 => (if (!t66.2.2.2) = true then (some (t66.1, t66.2.1, t66.2.2.1, 4)) else (word_open.l0 k 0 0 0 t66.1 t66.2.1 t66.2.2.1 x1 (x1.length : Int) 0))
abbrev word_open.S : Sig := { ps := [.lf (.i .u8), .lf (.is .u64)], rs := [.ag [.i .i64, .i .i64, .i .u64], .lf (.i .i64)], wb := [], R := Int × Int × Int × Int, mkR := fun y0 y1 y2 y3 => some (y0, y1, y2, y3), un := fun r => [.int .i64 r.1, .int .i64 r.2.1, .int .u64 r.2.2.1, .int .i64 r.2.2.2] }
def word_open.F (k : Nat) : Fun := { S := word_open.S, f := word_open.f k }
abbrev word_open.vl0 : List (Nat × Kx) := [(4, .bx [.i .i64, .i .i64, .i .u64]), (6, .bx [.i .i64, .i .i64, .i .u64]), (18, .lf (.is .u64)), (19, .lf (.i .i64)), (20, .lf (.i .i64))]
def word_open.C (k : Nat) : Cfg := { T := TT, G := lookG [(136, [word_shapeOf.F k])], nt := 35, cuts := [⟨codeOf [true, true, true, false, true, false] 1, [true, true, true, false, true, false], word_open.vl0⟩], M0 := tabM }
def word_open.H (k : Nat) : List (CutF word_open.S.R) := [⟨word_open.vl0, word_open.l0 k⟩]
def word_shape_inf.f (x0_0 : Int) (x0_1 : Int) (x0_2 : Int) : Option (Int) := if 0 ≤ x0_0 then (some (shl .u64 (IntKind.u64.wrap x0_1) x0_0)) else (none)
abbrev word_shape_inf.S : Sig := { ps := [.ag [.i .i64, .i .i64, .i .u64]], rs := [.lf (.i .u64)], wb := [], R := Int, mkR := fun y0 => some y0, un := fun r => [.int .u64 r] }
def word_shape_inf.F (k : Nat) : Fun := { S := word_shape_inf.S, f := word_shape_inf.f }
def word_shape_inf.C (k : Nat) : Cfg := { T := TT, G := lookG [], nt := 9, cuts := [], M0 := tabM }
def word_shape_inf.H (k : Nat) : List (CutF word_shape_inf.S.R) := []
def word_Greatest_1.f (x0_0 : Int) (x0_1 : Int) (x0_2 : Int) : Option (Int) := (word_shape_inf.f x0_0 x0_1 x0_2).bind fun t69 => (some (IntKind.u64.wrap (t69 - 1)))
abbrev word_Greatest_1.S : Sig := { ps := [.ag [.i .i64, .i .i64, .i .u64]], rs := [.lf (.i .u64)], wb := [], R := Int, mkR := fun y0 => some y0, un := fun r => [.int .u64 r] }
def word_Greatest_1.F (k : Nat) : Fun := { S := word_Greatest_1.S, f := word_Greatest_1.f }
def word_Greatest_1.C (k : Nat) : Cfg := { T := TT, G := lookG [(83, [word_shape_inf.F k])], nt := 6, cuts := [], M0 := tabM }
def word_Greatest_1.H (k : Nat) : List (CutF word_Greatest_1.S.R) := []
def word_named_word_Greatest_1.f (k : Nat) (x0 : Int) (x1 : Bool) : Option (Int × Int) := (word_open.f k x0 ([] : List Int)).bind fun t77 => (if ¬ (t77.2.2.2 = 0) then (some (0, t77.2.2.2)) else ((word_Greatest_1.f t77.1 t77.2.1 t77.2.2.1).bind fun t78 => (if x1 = true then (some (Go.bits .or .u64 t78 t77.2.2.1, 0)) else (some (t78, 0)))))
abbrev word_named_word_Greatest_1.S : Sig := { ps := [.lf (.i .u8), .lf (.b), .lf (.fn 147)], rs := [.lf (.i .u64), .lf (.i .i64)], wb := [], R := Int × Int, mkR := fun y0 y1 => some (y0, y1), un := fun r => [.int .u64 r.1, .int .i64 r.2] }
def word_named_word_Greatest_1.F (k : Nat) : Fun := { S := word_named_word_Greatest_1.S, f := word_named_word_Greatest_1.f k }
def word_named_word_Greatest_1.C (k : Nat) : Cfg := { T := TT, G := lookG [(101, [word_open.F k]), (147, [word_Greatest_1.F k])], nt := 28, cuts := [], M0 := tabM }
def word_named_word_Greatest_1.H (k : Nat) : List (CutF word_named_word_Greatest_1.S.R) := []
def word_Greatest.f (k : Nat) (x0 : Int) (x1 : Bool) : Option (Int × Int) := (word_named_word_Greatest_1.f k x0 x1).bind fun t79 => (some (t79.1, t79.2))
abbrev word_Greatest.S : Sig := { ps := [.lf (.i .u8), .lf (.b)], rs := [.lf (.i .u64), .lf (.i .i64)], wb := [], R := Int × Int, mkR := fun y0 y1 => some (y0, y1), un := fun r => [.int .u64 r.1, .int .i64 r.2] }
def word_Greatest.F (k : Nat) : Fun := { S := word_Greatest.S, f := word_Greatest.f k }
def word_Greatest.C (k : Nat) : Cfg := { T := TT, G := lookG [(81, [word_named_word_Greatest_1.F k])], nt := 11, cuts := [], M0 := tabM }
def word_Greatest.H (k : Nat) : List (CutF word_Greatest.S.R) := []
def word_named_word_shape_inf.f (k : Nat) (x0 : Int) (x1 : Bool) : Option (Int × Int) := (word_open.f k x0 ([] : List Int)).bind fun t91 => (if ¬ (t91.2.2.2 = 0) then (some (0, t91.2.2.2)) else ((word_shape_inf.f t91.1 t91.2.1 t91.2.2.1).bind fun t92 => (if x1 = true then (some (Go.bits .or .u64 t92 t91.2.2.1, 0)) else (some (t92, 0)))))
abbrev word_named_word_shape_inf.S : Sig := { ps := [.lf (.i .u8), .lf (.b), .lf (.fn 83)], rs := [.lf (.i .u64), .lf (.i .i64)], wb := [], R := Int × Int, mkR := fun y0 y1 => some (y0, y1), un := fun r => [.int .u64 r.1, .int .i64 r.2] }
def word_named_word_shape_inf.F (k : Nat) : Fun := { S := word_named_word_shape_inf.S, f := word_named_word_shape_inf.f k }
def word_named_word_shape_inf.C (k : Nat) : Cfg := { T := TT, G := lookG [(83, [word_shape_inf.F k]), (101, [word_open.F k])], nt := 28, cuts := [], M0 := tabM }
def word_named_word_shape_inf.H (k : Nat) : List (CutF word_named_word_shape_inf.S.R) := []
def word_Inf.f (k : Nat) (x0 : Int) (x1 : Bool) : Option (Int × Int) := (word_named_word_shape_inf.f k x0 x1).bind fun t93 => (some (t93.1, t93.2))
abbrev word_Inf.S : Sig := { ps := [.lf (.i .u8), .lf (.b)], rs := [.lf (.i .u64), .lf (.i .i64)], wb := [], R := Int × Int, mkR := fun y0 y1 => some (y0, y1), un := fun r => [.int .u64 r.1, .int .i64 r.2] }
def word_Inf.F (k : Nat) : Fun := { S := word_Inf.S, f := word_Inf.f k }
def word_Inf.C (k : Nat) : Cfg := { T := TT, G := lookG [(81, [word_named_word_shape_inf.F k])], nt := 11, cuts := [], M0 := tabM }
def word_Inf.H (k : Nat) : List (CutF word_Inf.S.R) := []
def round_Over.j1 : Nat → Int → Bool → Bool → Option (Int × Int)
  | 0, _, _, _ => none
  | k + 1, x0, x2, x35 => if x35 = true then ((word_Greatest.f k x0 x2).bind fun t98 => (some (t98.1, t98.2))) else ((word_Inf.f k x0 x2).bind fun t99 => (some (t99.1, t99.2)))
def round_Over.f (k : Nat) (x0 : Int) (x1 : Int) (x2 : Bool) : Option (Int × Int) := (round_open.f k x0 x1 []).bind fun t97 => (if ¬ (t97.2.2.2 = 0) then (some (0, t97.2.2.2)) else (if x1 = 3 then (round_Over.j1 k x0 x2 true) else (if x1 = 4 then (if x2 = true then (round_Over.j1 k x0 x2 true) else (if x1 = 5 then (round_Over.j1 k x0 x2 (!x2)) else (round_Over.j1 k x0 x2 false))) else (if x1 = 5 then (round_Over.j1 k x0 x2 (!x2)) else (round_Over.j1 k x0 x2 false)))))
abbrev round_Over.S : Sig := { ps := [.lf (.i .u8), .lf (.i .u8), .lf (.b)], rs := [.lf (.i .u64), .lf (.i .i64)], wb := [], R := Int × Int, mkR := fun y0 y1 => some (y0, y1), un := fun r => [.int .u64 r.1, .int .i64 r.2] }
def round_Over.F (k : Nat) : Fun := { S := round_Over.S, f := round_Over.f k }
abbrev round_Over.vj1 : List (Nat × Kx) := [(0, .lf (.i .u8)), (2, .lf (.b)), (35, .lf (.b))]
def round_Over.C (k : Nat) : Cfg := { T := TT, G := lookG [(44, [word_Inf.F k]), (90, [round_open.F k]), (121, [word_Greatest.F k])], nt := 46, cuts := [⟨codeOf [true, true, false, true] 1, [true, true, false, true], round_Over.vj1⟩], M0 := tabM }
def round_Over.H (k : Nat) : List (CutF round_Over.S.R) := [⟨round_Over.vj1, round_Over.j1 k⟩]
def conv_mode.f (k : Nat) (x0 : Int) (x1 : Int) : Option (Int) := (round_Over.f k x0 x1 false).bind fun t100 => (some t100.2)
abbrev conv_mode.S : Sig := { ps := [.lf (.i .u8), .lf (.i .u8)], rs := [.lf (.i .i64)], wb := [], R := Int, mkR := fun y0 => some y0, un := fun r => [.int .i64 r] }
def conv_mode.F (k : Nat) : Fun := { S := conv_mode.S, f := conv_mode.f k }
def conv_mode.C (k : Nat) : Cfg := { T := TT, G := lookG [(79, [round_Over.F k])], nt := 14, cuts := [], M0 := tabM }
def conv_mode.H (k : Nat) : List (CutF conv_mode.S.R) := []
def word_shape_class.f (x0_0 : Int) (x0_1 : Int) (x0_2 : Int) (x1 : Int) : Option (Int) := if (Go.bits .andNot .u64 x1 x0_2) = 0 then (some 1) else (if 0 ≤ x0_0 then (if (Go.bits .andNot .u64 x1 x0_2) < (shl .u64 1 x0_0) then (some 2) else ((word_shape_inf.f x0_0 x0_1 x0_2).bind fun t111 => (if (Go.bits .andNot .u64 x1 x0_2) < t111 then (some 3) else ((word_shape_inf.f x0_0 x0_1 x0_2).bind fun t112 => (if (Go.bits .andNot .u64 x1 x0_2) = t112 then (some 4) else (some 5)))))) else (none))
abbrev word_shape_class.S : Sig := { ps := [.ag [.i .i64, .i .i64, .i .u64], .lf (.i .u64)], rs := [.lf (.i .u8)], wb := [], R := Int, mkR := fun y0 => some y0, un := fun r => [.int .u8 r] }
def word_shape_class.F (k : Nat) : Fun := { S := word_shape_class.S, f := word_shape_class.f }
def word_shape_class.C (k : Nat) : Cfg := { T := TT, G := lookG [(83, [word_shape_inf.F k])], nt := 29, cuts := [], M0 := tabM }
def word_shape_class.H (k : Nat) : List (CutF word_shape_class.S.R) := []
def word_Class.f (k : Nat) (x0 : Int) (x1 : Int) : Option (Int × Int) := (word_open.f k x0 ([x1] : List Int)).bind fun t114 => (if ¬ (t114.2.2.2 = 0) then (some (0, t114.2.2.2)) else ((word_shape_class.f t114.1 t114.2.1 t114.2.2.1 x1).bind fun t115 => (some (t115, 0))))
abbrev word_Class.S : Sig := { ps := [.lf (.i .u8), .lf (.i .u64)], rs := [.lf (.i .u8), .lf (.i .i64)], wb := [], R := Int × Int, mkR := fun y0 y1 => some (y0, y1), un := fun r => [.int .u8 r.1, .int .i64 r.2] }
def word_Class.F (k : Nat) : Fun := { S := word_Class.S, f := word_Class.f k }
def word_Class.C (k : Nat) : Cfg := { T := TT, G := lookG [(101, [word_open.F k]), (109, [word_shape_class.F k])], nt := 21, cuts := [], M0 := tabM }
def word_Class.H (k : Nat) : List (CutF word_Class.S.R) := []
def word_shape_split.f (x0_0 : Int) (x0_1 : Int) (x0_2 : Int) (x1 : Int) : Option (Bool × Int × Int) := if 0 ≤ x0_0 then (if 0 ≤ x0_0 then (some (decide (¬ (Go.bits .and .u64 x1 x0_2 = 0)), wrap64 (shr .u64 (Go.bits .andNot .u64 x1 x0_2) x0_0), Go.bits .and .u64 (Go.bits .andNot .u64 x1 x0_2) (IntKind.u64.wrap ((shl .u64 1 x0_0) - 1)))) else (none)) else (none)
abbrev word_shape_split.S : Sig := { ps := [.ag [.i .i64, .i .i64, .i .u64], .lf (.i .u64)], rs := [.ag [.b, .i .i64, .i .u64]], wb := [], R := Bool × Int × Int, mkR := fun y0 y1 y2 => some (y0, y1, y2), un := fun r => [.bool r.1, .int .i64 r.2.1, .int .u64 r.2.2] }
def word_shape_split.F (k : Nat) : Fun := { S := word_shape_split.S, f := word_shape_split.f }
def word_shape_split.C (k : Nat) : Cfg := { T := TT, G := lookG [], nt := 27, cuts := [], M0 := tabM }
def word_shape_split.H (k : Nat) : List (CutF word_shape_split.S.R) := []
def word_Split.f (k : Nat) (x0 : Int) (x1 : Int) : Option (Bool × Int × Int × Int) := (word_open.f k x0 ([x1] : List Int)).bind fun t120 => (if ¬ (t120.2.2.2 = 0) then (some (false, 0, 0, t120.2.2.2)) else ((word_shape_split.f t120.1 t120.2.1 t120.2.2.1 x1).bind fun t121 => (some (t121.1, t121.2.1, t121.2.2, 0))))
abbrev word_Split.S : Sig := { ps := [.lf (.i .u8), .lf (.i .u64)], rs := [.ag [.b, .i .i64, .i .u64], .lf (.i .i64)], wb := [], R := Bool × Int × Int × Int, mkR := fun y0 y1 y2 y3 => some (y0, y1, y2, y3), un := fun r => [.bool r.1, .int .i64 r.2.1, .int .u64 r.2.2.1, .int .i64 r.2.2.2] }
def word_Split.F (k : Nat) : Fun := { S := word_Split.S, f := word_Split.f k }
def word_Split.C (k : Nat) : Cfg := { T := TT, G := lookG [(86, [word_shape_split.F k]), (101, [word_open.F k])], nt := 22, cuts := [], M0 := tabM }
def word_Split.H (k : Nat) : List (CutF word_Split.S.R) := []
def conv_open.f (k : Nat) (x0 : Int) (x1 : Int) (x2 : Int) : Option (Int × Bool × Int) := (conv_mode.f k x0 x1).bind fun t123 => (if ¬ (t123 = 0) then (some (0, false, t123)) else ((word_Class.f k x0 x2).bind fun t124 => ((word_Split.f k x0 x2).bind fun t125 => (some (t124.1, t125.1, t124.2)))))
abbrev conv_open.S : Sig := { ps := [.lf (.i .u8), .lf (.i .u8), .lf (.i .u64)], rs := [.lf (.i .u8), .lf (.b), .lf (.i .i64)], wb := [], R := Int × Bool × Int, mkR := fun y0 y1 y2 => some (y0, y1, y2), un := fun r => [.int .u8 r.1, .bool r.2.1, .int .i64 r.2.2] }
def conv_open.F (k : Nat) : Fun := { S := conv_open.S, f := conv_open.f k }
def conv_open.C (k : Nat) : Cfg := { T := TT, G := lookG [(41, [conv_mode.F k]), (61, [word_Class.F k]), (80, [word_Split.F k])], nt := 36, cuts := [], M0 := tabM }
def conv_open.H (k : Nat) : List (CutF conv_open.S.R) := []
def word_shape_none.f (x0_0 : Int) (x0_1 : Int) (x0_2 : Int) : Option (Int) := (word_shape_inf.f x0_0 x0_1 x0_2).bind fun t130 => (if 0 ≤ (wrap64 (x0_0 - 1)) then (some (Go.bits .or .u64 t130 (shl .u64 1 (wrap64 (x0_0 - 1))))) else (none))
abbrev word_shape_none.S : Sig := { ps := [.ag [.i .i64, .i .i64, .i .u64]], rs := [.lf (.i .u64)], wb := [], R := Int, mkR := fun y0 => some y0, un := fun r => [.int .u64 r] }
def word_shape_none.F (k : Nat) : Fun := { S := word_shape_none.S, f := word_shape_none.f }
def word_shape_none.C (k : Nat) : Cfg := { T := TT, G := lookG [(83, [word_shape_inf.F k])], nt := 10, cuts := [], M0 := tabM }
def word_shape_none.H (k : Nat) : List (CutF word_shape_none.S.R) := []
def word_named_word_shape_none.f (k : Nat) (x0 : Int) (x1 : Bool) : Option (Int × Int) := (word_open.f k x0 ([] : List Int)).bind fun t138 => (if ¬ (t138.2.2.2 = 0) then (some (0, t138.2.2.2)) else ((word_shape_none.f t138.1 t138.2.1 t138.2.2.1).bind fun t139 => (if x1 = true then (some (Go.bits .or .u64 t139 t138.2.2.1, 0)) else (some (t139, 0)))))
abbrev word_named_word_shape_none.S : Sig := { ps := [.lf (.i .u8), .lf (.b), .lf (.fn 82)], rs := [.lf (.i .u64), .lf (.i .i64)], wb := [], R := Int × Int, mkR := fun y0 y1 => some (y0, y1), un := fun r => [.int .u64 r.1, .int .i64 r.2] }
def word_named_word_shape_none.F (k : Nat) : Fun := { S := word_named_word_shape_none.S, f := word_named_word_shape_none.f k }
def word_named_word_shape_none.C (k : Nat) : Cfg := { T := TT, G := lookG [(82, [word_shape_none.F k]), (101, [word_open.F k])], nt := 28, cuts := [], M0 := tabM }
def word_named_word_shape_none.H (k : Nat) : List (CutF word_named_word_shape_none.S.R) := []
def word_None.f (k : Nat) (x0 : Int) : Option (Int × Int) := (word_named_word_shape_none.f k x0 false).bind fun t140 => (some (t140.1, t140.2))
abbrev word_None.S : Sig := { ps := [.lf (.i .u8)], rs := [.lf (.i .u64), .lf (.i .i64)], wb := [], R := Int × Int, mkR := fun y0 y1 => some (y0, y1), un := fun r => [.int .u64 r.1, .int .i64 r.2] }
def word_None.F (k : Nat) : Fun := { S := word_None.S, f := word_None.f k }
def word_None.C (k : Nat) : Cfg := { T := TT, G := lookG [(81, [word_named_word_shape_none.F k])], nt := 8, cuts := [], M0 := tabM }
def word_None.H (k : Nat) : List (CutF word_None.S.R) := []
def word_Zero_1.f (x0_0 : Int) (x0_1 : Int) (x0_2 : Int) : Option (Int) := some 0
abbrev word_Zero_1.S : Sig := { ps := [.ag [.i .i64, .i .i64, .i .u64]], rs := [.lf (.i .u64)], wb := [], R := Int, mkR := fun y0 => some y0, un := fun r => [.int .u64 r] }
def word_Zero_1.F (k : Nat) : Fun := { S := word_Zero_1.S, f := word_Zero_1.f }
def word_Zero_1.C (k : Nat) : Cfg := { T := TT, G := lookG [], nt := 3, cuts := [], M0 := tabM }
def word_Zero_1.H (k : Nat) : List (CutF word_Zero_1.S.R) := []
def word_named_word_Zero_1.f (k : Nat) (x0 : Int) (x1 : Bool) : Option (Int × Int) := (word_open.f k x0 ([] : List Int)).bind fun t152 => (if ¬ (t152.2.2.2 = 0) then (some (0, t152.2.2.2)) else ((word_Zero_1.f t152.1 t152.2.1 t152.2.2.1).bind fun t153 => (if x1 = true then (some (Go.bits .or .u64 t153 t152.2.2.1, 0)) else (some (t153, 0)))))
abbrev word_named_word_Zero_1.S : Sig := { ps := [.lf (.i .u8), .lf (.b), .lf (.fn 84)], rs := [.lf (.i .u64), .lf (.i .i64)], wb := [], R := Int × Int, mkR := fun y0 y1 => some (y0, y1), un := fun r => [.int .u64 r.1, .int .i64 r.2] }
def word_named_word_Zero_1.F (k : Nat) : Fun := { S := word_named_word_Zero_1.S, f := word_named_word_Zero_1.f k }
def word_named_word_Zero_1.C (k : Nat) : Cfg := { T := TT, G := lookG [(84, [word_Zero_1.F k]), (101, [word_open.F k])], nt := 28, cuts := [], M0 := tabM }
def word_named_word_Zero_1.H (k : Nat) : List (CutF word_named_word_Zero_1.S.R) := []
def word_Zero.f (k : Nat) (x0 : Int) (x1 : Bool) : Option (Int × Int) := (word_named_word_Zero_1.f k x0 x1).bind fun t154 => (some (t154.1, t154.2))
abbrev word_Zero.S : Sig := { ps := [.lf (.i .u8), .lf (.b)], rs := [.lf (.i .u64), .lf (.i .i64)], wb := [], R := Int × Int, mkR := fun y0 y1 => some (y0, y1), un := fun r => [.int .u64 r.1, .int .i64 r.2] }
def word_Zero.F (k : Nat) : Fun := { S := word_Zero.S, f := word_Zero.f k }
def word_Zero.C (k : Nat) : Cfg := { T := TT, G := lookG [(81, [word_named_word_Zero_1.F k])], nt := 11, cuts := [], M0 := tabM }
def word_Zero.H (k : Nat) : List (CutF word_Zero.S.R) := []
def word_finite.f (k : Nat) (x0 : Int) (x1 : Int) : Option (Int × Int × Int × Int) := (word_open.f k x0 ([x1] : List Int)).bind fun t163 => (if t163.2.2.2 = 0 then ((word_shape_class.f t163.1 t163.2.1 t163.2.2.1 x1).bind fun t164 => (if t164 ≥ 4 then (some (t163.1, t163.2.1, t163.2.2.1, 7)) else (some (t163.1, t163.2.1, t163.2.2.1, t163.2.2.2)))) else (some (t163.1, t163.2.1, t163.2.2.1, t163.2.2.2)))
abbrev word_finite.S : Sig := { ps := [.lf (.i .u8), .lf (.i .u64)], rs := [.ag [.i .i64, .i .i64, .i .u64], .lf (.i .i64)], wb := [], R := Int × Int × Int × Int, mkR := fun y0 y1 y2 y3 => some (y0, y1, y2, y3), un := fun r => [.int .i64 r.1, .int .i64 r.2.1, .int .u64 r.2.2.1, .int .i64 r.2.2.2] }
def word_finite.F (k : Nat) : Fun := { S := word_finite.S, f := word_finite.f k }
def word_finite.C (k : Nat) : Cfg := { T := TT, G := lookG [(101, [word_open.F k]), (109, [word_shape_class.F k])], nt := 25, cuts := [], M0 := tabM }
def word_finite.H (k : Nat) : List (CutF word_finite.S.R) := []
def nat_trim.l0 : Nat → List Int → Option (List Int)
  | 0, _ => none
  | k + 1, x0 => if (x0.length : Int) > 0 then (if 0 ≤ wrap64 ((x0.length : Int) - 1) then (if wrap64 ((x0.length : Int) - 1) < (x0.length : Int) then (if (rd x0 (wrap64 ((x0.length : Int) - 1))) = 0 then (if 0 ≤ (wrap64 ((x0.length : Int) - 1)) then (if (wrap64 ((x0.length : Int) - 1)) ≤ (x0.length : Int) then (nat_trim.l0 k (x0.take (wrap64 ((x0.length : Int) - 1) : Int).toNat)) else (none)) else (none)) else (some x0)) else (none)) else (none)) else (some x0)
def nat_trim.f (k : Nat) (x0 : List Int) : Option (List Int) := nat_trim.l0 k x0
abbrev nat_trim.S : Sig := { ps := [.ow .u32], rs := [.ow .u32], wb := [], R := List Int, mkR := fun y0 => some y0, un := fun r => [.ints .u32 r] }
def nat_trim.F (k : Nat) : Fun := { S := nat_trim.S, f := nat_trim.f k }
abbrev nat_trim.vl0 : List (Nat × Kx) := [(0, .ow .u32)]
def nat_trim.C (k : Nat) : Cfg := { T := TT, G := lookG [], nt := 21, cuts := [⟨codeOf [true, false, false] 1, [true, false, false], nat_trim.vl0⟩], M0 := tabM }
def nat_trim.H (k : Nat) : List (CutF nat_trim.S.R) := [⟨nat_trim.vl0, nat_trim.l0 k⟩]
abbrev nat_trim.S1 : Sig := { ps := [.lf (.is .u32)], rs := [.lf (.is .u32)], wb := [], R := List Int, mkR := fun y0 => some y0, un := fun r => [.ints .u32 r] }
def nat_trim.F1 (k : Nat) : Fun := { S := nat_trim.S1, f := nat_trim.f k }
abbrev nat_trim.vl01 : List (Nat × Kx) := [(0, .lf (.is .u32))]
def nat_trim.C1 (k : Nat) : Cfg := { T := TT, G := lookG [], nt := 21, cuts := [⟨codeOf [true, false, false] 1, [true, false, false], nat_trim.vl01⟩], M0 := tabM }
def nat_trim.H1 (k : Nat) : List (CutF nat_trim.S1.R) := [⟨nat_trim.vl01, nat_trim.l0 k⟩]
def nat_Of.f (k : Nat) (x0 : Int) : Option (List Int) := (nat_trim.f k ([x0 % 4294967296, (x0 / 4294967296) % 4294967296] : List Int)).bind fun t169 => (some t169)
abbrev nat_Of.S : Sig := { ps := [.lf (.i .u64)], rs := [.lf (.is .u32)], wb := [], R := List Int, mkR := fun y0 => some y0, un := fun r => [.ints .u32 r] }
def nat_Of.F (k : Nat) : Fun := { S := nat_Of.S, f := nat_Of.f k }
def nat_Of.C (k : Nat) : Cfg := { T := TT, G := lookG [(124, [nat_trim.F k, nat_trim.F1 k])], nt := 10, cuts := [], M0 := tabM }
def nat_Of.H (k : Nat) : List (CutF nat_Of.S.R) := []
def word_shape_low.f (x0_0 : Int) (x0_1 : Int) (x0_2 : Int) : Option (Int) := some (wrap64 ((wrap64 (1 - (wrap64 (Int.tdiv x0_1 2)))) - x0_0))
abbrev word_shape_low.S : Sig := { ps := [.ag [.i .i64, .i .i64, .i .u64]], rs := [.lf (.i .i64)], wb := [], R := Int, mkR := fun y0 => some y0, un := fun r => [.int .i64 r] }
def word_shape_low.F (k : Nat) : Fun := { S := word_shape_low.S, f := word_shape_low.f }
def word_shape_low.C (k : Nat) : Cfg := { T := TT, G := lookG [], nt := 10, cuts := [], M0 := tabM }
def word_shape_low.H (k : Nat) : List (CutF word_shape_low.S.R) := []
abbrev bits_TrailingZeros32.S : Sig := { ps := [.lf (.i .u32)], rs := [.lf (.i .i64)], wb := [], R := Int, mkR := fun y0 => some y0, un := fun r => [.int .i64 r] }
def bits_TrailingZeros32.F (k : Nat) : Fun := { S := bits_TrailingZeros32.S, f := bits_TrailingZeros32.f }
def nat_Low.l0 : Nat → List Int → Int → Int → Option (Int)
  | 0, _, _, _ => none
  | k + 1, x8, x9, x10 => if x10 < x9 then (if 0 ≤ x10 then (if x10 < (x8.length : Int) then (if ¬ (rd x8 x10 = 0) then ((bits_TrailingZeros32.f (rd x8 x10)).bind fun t184 => (some (wrap64 ((wrap64 (32 * x10)) + t184)))) else (nat_Low.l0 k x8 x9 (wrap64 (x10 + 1)))) else (none)) else (none)) else (some 0)
def nat_Low.f (k : Nat) (x0 : List Int) : Option (Int) := (nat_May.f x0).bind fun t183 => (if (!t183) = true then (some 0) else (nat_Low.l0 k x0 (x0.length : Int) 0))
abbrev nat_Low.S : Sig := { ps := [.lf (.is .u32)], rs := [.lf (.i .i64)], wb := [], R := Int, mkR := fun y0 => some y0, un := fun r => [.int .i64 r] }
def nat_Low.F (k : Nat) : Fun := { S := nat_Low.S, f := nat_Low.f k }
abbrev nat_Low.vl0 : List (Nat × Kx) := [(8, .lf (.is .u32)), (9, .lf (.i .i64)), (10, .lf (.i .i64))]
def nat_Low.C (k : Nat) : Cfg := { T := TT, G := lookG [(122, [nat_May.F k]), (148, [bits_TrailingZeros32.F k])], nt := 23, cuts := [⟨codeOf [true, true, false, true, false] 1, [true, true, false, true, false], nat_Low.vl0⟩], M0 := tabM }
def nat_Low.H (k : Nat) : List (CutF nat_Low.S.R) := [⟨nat_Low.vl0, nat_Low.l0 k⟩]
def nat_down.l0 : Nat → List Int → Int → List Int → List Int → Int → Int → Option (List Int)
  | 0, _, _, _, _, _, _ => none
  | k + 1, x0, x5, x6, x23, x24, x25 => if x25 < x24 then (if 0 ≤ x25 then (if x25 < (x23.length : Int) then (if 0 ≤ x5 then (if 0 ≤ x25 then (if x25 < (x6.length : Int) then (if (wrap64 (x25 + 1)) < (x0.length : Int) then (if 0 ≤ x25 then (if x25 < ((x6.set (x25 : Int).toNat (shr .u32 (rd x23 x25) x5)).length : Int) then (if 0 ≤ wrap64 (x25 + 1) then (if wrap64 (x25 + 1) < (x0.length : Int) then (if 0 ≤ (wrap64 (32 - x5)) then (if 0 ≤ x25 then (if x25 < ((x6.set (x25 : Int).toNat (shr .u32 (rd x23 x25) x5)).length : Int) then (nat_down.l0 k x0 x5 ((x6.set (x25 : Int).toNat (shr .u32 (rd x23 x25) x5)).set (x25 : Int).toNat (Go.bits .or .u32 (rd (x6.set (x25 : Int).toNat (shr .u32 (rd x23 x25) x5)) x25) ((shl .u64 (IntKind.u64.wrap (rd x0 (wrap64 (x25 + 1)))) (wrap64 (32 - x5))) % 4294967296))) x23 x24 (wrap64 (x25 + 1))) else (none)) else (none)) else (none)) else (none)) else (none)) else (none)) else (none)) else (nat_down.l0 k x0 x5 (x6.set (x25 : Int).toNat (shr .u32 (rd x23 x25) x5)) x23 x24 (wrap64 (x25 + 1)))) else (none)) else (none)) else (none)) else (none)) else (none)) else ((nat_trim.f k x6).bind fun t191 => (some t191))
def nat_down.f (k : Nat) (x0 : List Int) (x1 : Int) : Option (List Int) := if (wrap64 (Int.tdiv x1 32)) ≥ (x0.length : Int) then (some ([] : List Int)) else (if 0 ≤ (wrap64 (Int.tdiv x1 32)) then (if (wrap64 (Int.tdiv x1 32)) ≤ (x0.length : Int) then (if 0 ≤ ((x0.drop (wrap64 (Int.tdiv x1 32) : Int).toNat).length : Int) then (if (((x0.drop (wrap64 (Int.tdiv x1 32) : Int).toNat).length : Int) : Int).toNat ≤ 70368744177664 then (nat_down.l0 k (x0.drop (wrap64 (Int.tdiv x1 32) : Int).toNat) (Int.tmod x1 32) (List.replicate (((x0.drop (wrap64 (Int.tdiv x1 32) : Int).toNat).length : Int) : Int).toNat (0 : Int)) (x0.drop (wrap64 (Int.tdiv x1 32) : Int).toNat) ((x0.drop (wrap64 (Int.tdiv x1 32) : Int).toNat).length : Int) 0) else (none)) else (none)) else (none)) else (none))
abbrev nat_down.S : Sig := { ps := [.lf (.is .u32), .lf (.i .i64)], rs := [.lf (.is .u32)], wb := [], R := List Int, mkR := fun y0 => some y0, un := fun r => [.ints .u32 r] }
def nat_down.F (k : Nat) : Fun := { S := nat_down.S, f := nat_down.f k }
abbrev nat_down.vl0 : List (Nat × Kx) := [(0, .lf (.is .u32)), (5, .lf (.i .i64)), (6, .ow .u32), (23, .lf (.is .u32)), (24, .lf (.i .i64)), (25, .lf (.i .i64))]
def nat_down.C (k : Nat) : Cfg := { T := TT, G := lookG [(124, [nat_trim.F k, nat_trim.F1 k])], nt := 60, cuts := [⟨codeOf [true, true, true, true, true, false, true, false] 1, [true, true, true, true, true, false, true, false], nat_down.vl0⟩], M0 := tabM }
def nat_down.H (k : Nat) : List (CutF nat_down.S.R) := [⟨nat_down.vl0, nat_down.l0 k⟩]
mutual
def bits_Len32.j0 : Nat → Int → Int → Option (Int)
  | 0, _, _ => none
  | k + 1, x0, x2 => if x0 ≥ 256 then (bits_Len32.j1 k (x0 / 256) (wrap64 (x2 + 8))) else (bits_Len32.j1 k x0 x2)
def bits_Len32.j1 : Nat → Int → Int → Option (Int)
  | 0, _, _ => none
  | k + 1, x0, x2 => if 0 ≤ x0 % 256 then (if x0 % 256 < (txt0.size : Int) then (some (wrap64 (x2 + (wrap64 (bt txt0 (x0 % 256)))))) else (none)) else (none)
end
def bits_Len32.f (k : Nat) (x0 : Int) : Option (Int) := if x0 ≥ 65536 then (bits_Len32.j0 k (x0 / 65536) 16) else (bits_Len32.j0 k x0 0)
abbrev bits_Len32.S : Sig := { ps := [.lf (.i .u32)], rs := [.lf (.i .i64)], wb := [], R := Int, mkR := fun y0 => some y0, un := fun r => [.int .i64 r] }
def bits_Len32.F (k : Nat) : Fun := { S := bits_Len32.S, f := bits_Len32.f k }
abbrev bits_Len32.vj0 : List (Nat × Kx) := [(0, .lf (.i .u32)), (2, .lf (.i .i64))]
abbrev bits_Len32.vj1 : List (Nat × Kx) := [(0, .lf (.i .u32)), (2, .lf (.i .i64))]
def bits_Len32.C (k : Nat) : Cfg := { T := TT, G := lookG [], nt := 19, cuts := [⟨codeOf [true, true] 1, [true, true], bits_Len32.vj0⟩, ⟨codeOf [true, true, true] 1, [true, true, true], bits_Len32.vj1⟩], M0 := tabM }
def bits_Len32.H (k : Nat) : List (CutF bits_Len32.S.R) := [⟨bits_Len32.vj0, bits_Len32.j0 k⟩, ⟨bits_Len32.vj1, bits_Len32.j1 k⟩]
def nat_Len.f (k : Nat) (x0 : List Int) : Option (Int) := (nat_May.f x0).bind fun t201 => (if (!t201) = true then (some 0) else (if (x0.length : Int) = 0 then (some 0) else (if 0 ≤ wrap64 ((x0.length : Int) - 1) then (if wrap64 ((x0.length : Int) - 1) < (x0.length : Int) then ((bits_Len32.f k (rd x0 (wrap64 ((x0.length : Int) - 1)))).bind fun t202 => (some (wrap64 ((wrap64 (32 * (wrap64 ((x0.length : Int) - 1)))) + t202)))) else (none)) else (none))))
abbrev nat_Len.S : Sig := { ps := [.lf (.is .u32)], rs := [.lf (.i .i64)], wb := [], R := Int, mkR := fun y0 => some y0, un := fun r => [.int .i64 r] }
def nat_Len.F (k : Nat) : Fun := { S := nat_Len.S, f := nat_Len.f k }
def nat_Len.C (k : Nat) : Cfg := { T := TT, G := lookG [(122, [nat_May.F k]), (140, [bits_Len32.F k])], nt := 23, cuts := [], M0 := tabM }
def nat_Len.H (k : Nat) : List (CutF nat_Len.S.R) := []
def nat_up.l0 : Nat → List Int → Int → Int → List Int → Int → Int → Option (List Int)
  | 0, _, _, _, _, _, _ => none
  | k + 1, x5, x6, x7, x24, x25, x26 => if x26 < x25 then (if 0 ≤ x26 then (if x26 < (x24.length : Int) then (if 0 ≤ x6 then (if x5.length + ([Go.bits .or .u32 (shl .u32 (rd x24 x26) x6) x7] : List Int).length < 35184372088832 then (if 0 ≤ (wrap64 (32 - x6)) then (nat_up.l0 k (x5 ++ ([Go.bits .or .u32 (shl .u32 (rd x24 x26) x6) x7] : List Int)) x6 ((shr .u64 (IntKind.u64.wrap (rd x24 x26)) (wrap64 (32 - x6))) % 4294967296) x24 x25 (wrap64 (x26 + 1))) else (none)) else (none)) else (none)) else (none)) else (none)) else (if x5.length + ([x7] : List Int).length < 35184372088832 then ((nat_trim.f k (x5 ++ ([x7] : List Int))).bind fun t209 => (some t209)) else (none))
def nat_up.f (k : Nat) (x0 : List Int) (x1 : Int) : Option (List Int) := if (x0.length : Int) = 0 then (some ([] : List Int)) else (if 0 ≤ (wrap64 (Int.tdiv x1 32)) then (if (wrap64 (Int.tdiv x1 32)) ≤ (wrap64 ((wrap64 ((wrap64 (Int.tdiv x1 32)) + (x0.length : Int))) + 1)) then (if (wrap64 ((wrap64 ((wrap64 (Int.tdiv x1 32)) + (x0.length : Int))) + 1) : Int).toNat ≤ 70368744177664 then (nat_up.l0 k (List.replicate (wrap64 (Int.tdiv x1 32) : Int).toNat (0 : Int)) (Int.tmod x1 32) 0 x0 (x0.length : Int) 0) else (none)) else (none)) else (none))
abbrev nat_up.S : Sig := { ps := [.lf (.is .u32), .lf (.i .i64)], rs := [.ow .u32], wb := [], R := List Int, mkR := fun y0 => some y0, un := fun r => [.ints .u32 r] }
def nat_up.F (k : Nat) : Fun := { S := nat_up.S, f := nat_up.f k }
abbrev nat_up.vl0 : List (Nat × Kx) := [(5, .ow .u32), (6, .lf (.i .i64)), (7, .lf (.i .u32)), (24, .lf (.is .u32)), (25, .lf (.i .i64)), (26, .lf (.i .i64))]
def nat_up.C (k : Nat) : Cfg := { T := TT, G := lookG [(124, [nat_trim.F k, nat_trim.F1 k])], nt := 50, cuts := [⟨codeOf [true, true, true, true, false, true, false] 1, [true, true, true, true, false, true, false], nat_up.vl0⟩], M0 := tabM }
def nat_up.H (k : Nat) : List (CutF nat_up.S.R) := [⟨nat_up.vl0, nat_up.l0 k⟩]
def nat_Shift.f (k : Nat) (x0 : List Int) (x1 : Int) : Option (List Int × Bool × Int) := (nat_May.f x0).bind fun t211 => (if (!t211) = true then (some (([] : List Int), false, 2)) else (if (x0.length : Int) = 0 then (some (([] : List Int), false, 0)) else (if x1 < (-131072) then (some (([] : List Int), true, 0)) else (if x1 < 0 then ((nat_down.f k x0 (wrap64 (-x1))).bind fun t212 => ((nat_Low.f k x0).bind fun t213 => (some (t212, decide (t213 < (wrap64 (-x1))), 0)))) else ((nat_Len.f k x0).bind fun t214 => (if x1 > (wrap64 (131072 - t214)) then (some (([] : List Int), false, 3)) else ((nat_up.f k x0 x1).bind fun t215 => (some (t215, false, 0)))))))))
abbrev nat_Shift.S : Sig := { ps := [.lf (.is .u32), .lf (.i .i64)], rs := [.lf (.is .u32), .lf (.b), .lf (.i .i64)], wb := [], R := List Int × Bool × Int, mkR := fun y0 y1 y2 => some (y0, y1, y2), un := fun r => [.ints .u32 r.1, .bool r.2.1, .int .i64 r.2.2] }
def nat_Shift.F (k : Nat) : Fun := { S := nat_Shift.S, f := nat_Shift.f k }
def nat_Shift.C (k : Nat) : Cfg := { T := TT, G := lookG [(110, [nat_Len.F k]), (122, [nat_May.F k]), (123, [nat_Low.F k]), (129, [nat_down.F k]), (130, [nat_up.F k])], nt := 39, cuts := [], M0 := tabM }
def nat_Shift.H (k : Nat) : List (CutF nat_Shift.S.R) := []
def dyad_Make.f (k : Nat) (x0 : Bool) (x1 : List Int) (x2 : Int) : Option (Bool × List Int × Int × Int) := (nat_May.f x1).bind fun t223 => (if (!t223) = true then (some (false, ([] : List Int), 0, 2)) else (if (x1.length : Int) = 0 then (some (false, ([] : List Int), 0, 0)) else ((nat_Low.f k x1).bind fun t224 => (if x2 > (wrap64 (16777216 - t224)) then (some (false, ([] : List Int), 0, 20)) else (if x2 < (wrap64 ((-16777216) - t224)) then (some (false, ([] : List Int), 0, 20)) else ((nat_Shift.f k x1 (wrap64 (-t224))).bind fun t225 => (some (x0, t225.1, wrap64 (x2 + t224), 0))))))))
abbrev dyad_Make.S : Sig := { ps := [.lf (.b), .lf (.is .u32), .lf (.i .i64)], rs := [.ag [.b, .is .u32, .i .i64], .lf (.i .i64)], wb := [], R := Bool × List Int × Int × Int, mkR := fun y0 y1 y2 y3 => some (y0, y1, y2, y3), un := fun r => [.bool r.1, .ints .u32 r.2.1, .int .i64 r.2.2.1, .int .i64 r.2.2.2] }
def dyad_Make.F (k : Nat) : Fun := { S := dyad_Make.S, f := dyad_Make.f k }
def dyad_Make.C (k : Nat) : Cfg := { T := TT, G := lookG [(97, [nat_Shift.F k]), (122, [nat_May.F k]), (123, [nat_Low.F k])], nt := 47, cuts := [], M0 := tabM }
def dyad_Make.H (k : Nat) : List (CutF dyad_Make.S.R) := []
def word_Value.j1 : Nat → Bool → List Int → Int → Int → Int → Int → Bool → Int → Int → Option (Bool × List Int × Int × Int)
  | 0, _, _, _, _, _, _, _, _, _ => none
  | k + 1, x4_0, x4_1, x4_2, x6_0, x6_1, x6_2, x8_0, x8_1, x8_2 => (nat_Of.f k x8_2).bind fun t232 => ((word_shape_low.f x6_0 x6_1 x6_2).bind fun t233 => ((dyad_Make.f k x8_0 t232 (wrap64 ((wrap64 ((mx x8_1 1) - 1)) + t233))).bind fun t234 => (some (t234.1, t234.2.1, t234.2.2.1, t234.2.2.2))))
def word_Value.f (k : Nat) (x0 : Int) (x1 : Int) : Option (Bool × List Int × Int × Int) := (word_finite.f k x0 x1).bind fun t230 => (if ¬ (t230.2.2.2 = 0) then (some (false, ([] : List Int), 0, t230.2.2.2)) else ((word_shape_split.f t230.1 t230.2.1 t230.2.2.1 x1).bind fun t231 => (if t231.2.1 > 0 then (if 0 ≤ t230.1 then (word_Value.j1 k false ([] : List Int) 0 t230.1 t230.2.1 t230.2.2.1 t231.1 t231.2.1 (Go.bits .or .u64 t231.2.2 (shl .u64 1 t230.1))) else (none)) else (word_Value.j1 k false ([] : List Int) 0 t230.1 t230.2.1 t230.2.2.1 t231.1 t231.2.1 t231.2.2))))
abbrev word_Value.S : Sig := { ps := [.lf (.i .u8), .lf (.i .u64)], rs := [.ag [.b, .is .u32, .i .i64], .lf (.i .i64)], wb := [], R := Bool × List Int × Int × Int, mkR := fun y0 y1 y2 y3 => some (y0, y1, y2, y3), un := fun r => [.bool r.1, .ints .u32 r.2.1, .int .i64 r.2.2.1, .int .i64 r.2.2.2] }
def word_Value.F (k : Nat) : Fun := { S := word_Value.S, f := word_Value.f k }
abbrev word_Value.vj1 : List (Nat × Kx) := [(4, .bx [.b, .is .u32, .i .i64]), (6, .bx [.i .i64, .i .i64, .i .u64]), (8, .bx [.b, .i .i64, .i .u64])]
def word_Value.C (k : Nat) : Cfg := { T := TT, G := lookG [(85, [word_finite.F k]), (86, [word_shape_split.F k]), (87, [dyad_Make.F k]), (88, [nat_Of.F k]), (89, [word_shape_low.F k])], nt := 47, cuts := [⟨codeOf [true, true, true, true, true] 1, [true, true, true, true, true], word_Value.vj1⟩], M0 := tabM }
def word_Value.H (k : Nat) : List (CutF word_Value.S.R) := [⟨word_Value.vj1, word_Value.j1 k⟩]
def dyad_Sign.j0 : Nat → Bool → List Int → Int → Bool → Option (Int)
  | 0, _, _, _, _ => none
  | k + 1, x1_0, x1_1, x1_2, x3 => if x3 = true then (some 0) else (if x1_0 = true then (some (-1)) else (some 1))
def dyad_Sign.f (k : Nat) (x0_0 : Bool) (x0_1 : List Int) (x0_2 : Int) : Option (Int) := (dyad_May.f x0_0 x0_1 x0_2).bind fun t242 => (if (!t242) = true then (dyad_Sign.j0 k x0_0 x0_1 x0_2 true) else (dyad_Sign.j0 k x0_0 x0_1 x0_2 (decide ((x0_1.length : Int) = 0))))
abbrev dyad_Sign.S : Sig := { ps := [.ag [.b, .is .u32, .i .i64]], rs := [.lf (.i .i64)], wb := [], R := Int, mkR := fun y0 => some y0, un := fun r => [.int .i64 r] }
def dyad_Sign.F (k : Nat) : Fun := { S := dyad_Sign.S, f := dyad_Sign.f k }
abbrev dyad_Sign.vj0 : List (Nat × Kx) := [(1, .bx [.b, .is .u32, .i .i64]), (3, .lf (.b))]
def dyad_Sign.C (k : Nat) : Cfg := { T := TT, G := lookG [(102, [dyad_May.F k])], nt := 16, cuts := [⟨codeOf [true, false, false, true] 1, [true, false, false, true], dyad_Sign.vj0⟩], M0 := tabM }
def dyad_Sign.H (k : Nat) : List (CutF dyad_Sign.S.R) := [⟨dyad_Sign.vj0, dyad_Sign.j0 k⟩]
def nat_Num.l0 : Nat → Int → List Int → Int → Int → Option (Int × Bool)
  | 0, _, _, _, _ => none
  | k + 1, x4, x15, x16, x17 => if x17 < x16 then (if 0 ≤ x17 then (if x17 < (x15.length : Int) then (if 0 ≤ (wrap64 (32 * x17)) then (nat_Num.l0 k (Go.bits .or .u64 x4 (shl .u64 (IntKind.u64.wrap (rd x15 x17)) (wrap64 (32 * x17)))) x15 x16 (wrap64 (x17 + 1))) else (none)) else (none)) else (none)) else (some (x4, true))
def nat_Num.f (k : Nat) (x0 : List Int) : Option (Int × Bool) := (nat_May.f x0).bind fun t256 => (if (!t256) = true then (some (0, false)) else (if (x0.length : Int) > 2 then (some (0, false)) else (nat_Num.l0 k 0 x0 (x0.length : Int) 0)))
abbrev nat_Num.S : Sig := { ps := [.lf (.is .u32)], rs := [.lf (.i .u64), .lf (.b)], wb := [], R := Int × Bool, mkR := fun y0 y1 => some (y0, y1), un := fun r => [.int .u64 r.1, .bool r.2] }
def nat_Num.F (k : Nat) : Fun := { S := nat_Num.S, f := nat_Num.f k }
abbrev nat_Num.vl0 : List (Nat × Kx) := [(4, .lf (.i .u64)), (15, .lf (.is .u32)), (16, .lf (.i .i64)), (17, .lf (.i .i64))]
def nat_Num.C (k : Nat) : Cfg := { T := TT, G := lookG [(122, [nat_May.F k])], nt := 31, cuts := [⟨codeOf [true, true, true, false, true, false] 1, [true, true, true, false, true, false], nat_Num.vl0⟩], M0 := tabM }
def nat_Num.H (k : Nat) : List (CutF nat_Num.S.R) := [⟨nat_Num.vl0, nat_Num.l0 k⟩]
def round_partOf.f (k : Nat) (x0_0 : Bool) (x0_1 : List Int) (x0_2 : Int) : Option (Int × Int × Bool) := (nat_Len.f k x0_1).bind fun t245 => ((nat_Shift.f k x0_1 (wrap64 (64 - t245))).bind fun t246 => ((nat_Num.f k t246.1).bind fun t257 => (some (t257.1, wrap64 (x0_2 + t245), t246.2.1))))
abbrev round_partOf.S : Sig := { ps := [.ag [.b, .is .u32, .i .i64]], rs := [.ag [.i .u64, .i .i64, .b]], wb := [], R := Int × Int × Bool, mkR := fun y0 y1 y2 => some (y0, y1, y2), un := fun r => [.int .u64 r.1, .int .i64 r.2.1, .bool r.2.2] }
def round_partOf.F (k : Nat) : Fun := { S := round_partOf.S, f := round_partOf.f k }
def round_partOf.C (k : Nat) : Cfg := { T := TT, G := lookG [(97, [nat_Shift.F k]), (103, [nat_Num.F k]), (110, [nat_Len.F k])], nt := 33, cuts := [], M0 := tabM }
def round_partOf.H (k : Nat) : List (CutF round_partOf.S.R) := []
def round_up.f (x0 : Int) (x1 : Bool) (x2 : Bool) (x3 : Bool) (x4 : Bool) : Option (Bool) := if x0 = 1 then (if (!x4) = true then (if (!x2) = true then (some false) else (some x3)) else (some x3)) else (if x0 = 2 then (some x3) else (if x0 = 4 then (if (!x1) = true then (if x3 = true then (some true) else (some x4)) else (some false)) else (if x0 = 5 then (if x1 = true then (if x3 = true then (some true) else (some x4)) else (some false)) else (some false))))
abbrev round_up.S : Sig := { ps := [.lf (.i .u8), .lf (.b), .lf (.b), .lf (.b), .lf (.b)], rs := [.lf (.b)], wb := [], R := Bool, mkR := fun y0 => some y0, un := fun r => [.bool r] }
def round_up.F (k : Nat) : Fun := { S := round_up.S, f := round_up.f }
def round_up.C (k : Nat) : Cfg := { T := TT, G := lookG [], nt := 42, cuts := [], M0 := tabM }
def round_up.H (k : Nat) : List (CutF round_up.S.R) := []
def round_btoi.f (x0 : Bool) : Option (Int) := if x0 = true then (some 1) else (some 0)
abbrev round_btoi.S : Sig := { ps := [.lf (.b)], rs := [.lf (.i .u64)], wb := [], R := Int, mkR := fun y0 => some y0, un := fun r => [.int .u64 r] }
def round_btoi.F (k : Nat) : Fun := { S := round_btoi.S, f := round_btoi.f }
def round_btoi.C (k : Nat) : Cfg := { T := TT, G := lookG [], nt := 4, cuts := [], M0 := tabM }
def round_btoi.H (k : Nat) : List (CutF round_btoi.S.R) := []
mutual
def round_part_units.j1 : Nat → Int → Bool → Int → Int → Bool → Int → Int → Bool → Bool → Option (Int × Bool)
  | 0, _, _, _, _, _, _, _, _, _ => none
  | k + 1, x1, x2, x4_0, x4_1, x4_2, x10, x11, x12, x13 => if x10 > 0 then (if 0 ≤ (wrap64 (x10 - 1)) then (if x13 = true then (round_part_units.j2 k x1 x2 x11 (decide ((Go.bits .and .u64 (shr .u64 x4_0 (wrap64 (x10 - 1))) 1) = 1)) true) else (if 0 ≤ (wrap64 (x10 - 1)) then (round_part_units.j2 k x1 x2 x11 (decide ((Go.bits .and .u64 (shr .u64 x4_0 (wrap64 (x10 - 1))) 1) = 1)) (decide (¬ (Go.bits .and .u64 x4_0 (IntKind.u64.wrap ((shl .u64 1 (wrap64 (x10 - 1))) - 1)) = 0)))) else (none))) else (none)) else (round_part_units.j2 k x1 x2 x11 x12 x13)
def round_part_units.j2 : Nat → Int → Bool → Int → Bool → Bool → Option (Int × Bool)
  | 0, _, _, _, _, _ => none
  | k + 1, x1, x2, x11, x12, x13 => (round_up.f x1 x2 (decide ((Go.bits .and .u64 x11 1) = 1)) x12 x13).bind fun t291 => ((round_btoi.f t291).bind fun t292 => (if (!x12) = true then (some (IntKind.u64.wrap (x11 + t292), (!x13))) else (some (IntKind.u64.wrap (x11 + t292), false))))
end
def round_part_units.f (k : Nat) (x0_0 : Int) (x0_1 : Int) (x0_2 : Bool) (x1 : Int) (x2 : Bool) (x3 : Int) : Option (Int × Bool) := if (wrap64 ((wrap64 (x3 - x0_1)) + 64)) > 64 then ((round_up.f x1 x2 false false true).bind fun t289 => ((round_btoi.f t289).bind fun t290 => (some (t290, false)))) else (if (wrap64 ((wrap64 (x3 - x0_1)) + 64)) < 64 then (if 0 ≤ (wrap64 ((wrap64 (x3 - x0_1)) + 64)) then (round_part_units.j1 k x1 x2 x0_0 x0_1 x0_2 (wrap64 ((wrap64 (x3 - x0_1)) + 64)) (shr .u64 x0_0 (wrap64 ((wrap64 (x3 - x0_1)) + 64))) false x0_2) else (none)) else (round_part_units.j1 k x1 x2 x0_0 x0_1 x0_2 (wrap64 ((wrap64 (x3 - x0_1)) + 64)) 0 false x0_2))
abbrev round_part_units.S : Sig := { ps := [.ag [.i .u64, .i .i64, .b], .lf (.i .u8), .lf (.b), .lf (.i .i64)], rs := [.lf (.i .u64), .lf (.b)], wb := [], R := Int × Bool, mkR := fun y0 y1 => some (y0, y1), un := fun r => [.int .u64 r.1, .bool r.2] }
def round_part_units.F (k : Nat) : Fun := { S := round_part_units.S, f := round_part_units.f k }
abbrev round_part_units.vj1 : List (Nat × Kx) := [(1, .lf (.i .u8)), (2, .lf (.b)), (4, .bx [.i .u64, .i .i64, .b]), (10, .lf (.i .i64)), (11, .lf (.i .u64)), (12, .lf (.b)), (13, .lf (.b))]
abbrev round_part_units.vj2 : List (Nat × Kx) := [(1, .lf (.i .u8)), (2, .lf (.b)), (11, .lf (.i .u64)), (12, .lf (.b)), (13, .lf (.b))]
def round_part_units.C (k : Nat) : Cfg := { T := TT, G := lookG [(149, [round_btoi.F k]), (150, [round_up.F k])], nt := 70, cuts := [⟨codeOf [true, true, true, true, true] 1, [true, true, true, true, true], round_part_units.vj1⟩, ⟨codeOf [true, true, true, true, true, true] 1, [true, true, true, true, true, true], round_part_units.vj2⟩], M0 := tabM }
def round_part_units.H (k : Nat) : List (CutF round_part_units.S.R) := [⟨round_part_units.vj1, round_part_units.j1 k⟩, ⟨round_part_units.vj2, round_part_units.j2 k⟩]
mutual
def bits_Len64.j0 : Nat → Int → Int → Option (Int)
  | 0, _, _ => none
  | k + 1, x0, x2 => if x0 ≥ 65536 then (bits_Len64.j1 k (x0 / 65536) (wrap64 (x2 + 16))) else (bits_Len64.j1 k x0 x2)
def bits_Len64.j1 : Nat → Int → Int → Option (Int)
  | 0, _, _ => none
  | k + 1, x0, x2 => if x0 ≥ 256 then (bits_Len64.j2 k (x0 / 256) (wrap64 (x2 + 8))) else (bits_Len64.j2 k x0 x2)
def bits_Len64.j2 : Nat → Int → Int → Option (Int)
  | 0, _, _ => none
  | k + 1, x0, x2 => if 0 ≤ x0 % 256 then (if x0 % 256 < (txt0.size : Int) then (some (wrap64 (x2 + (wrap64 (bt txt0 (x0 % 256)))))) else (none)) else (none)
end
def bits_Len64.f (k : Nat) (x0 : Int) : Option (Int) := if x0 ≥ 4294967296 then (bits_Len64.j0 k (x0 / 4294967296) 32) else (bits_Len64.j0 k x0 0)
abbrev bits_Len64.S : Sig := { ps := [.lf (.i .u64)], rs := [.lf (.i .i64)], wb := [], R := Int, mkR := fun y0 => some y0, un := fun r => [.int .i64 r] }
def bits_Len64.F (k : Nat) : Fun := { S := bits_Len64.S, f := bits_Len64.f k }
abbrev bits_Len64.vj0 : List (Nat × Kx) := [(0, .lf (.i .u64)), (2, .lf (.i .i64))]
abbrev bits_Len64.vj1 : List (Nat × Kx) := [(0, .lf (.i .u64)), (2, .lf (.i .i64))]
abbrev bits_Len64.vj2 : List (Nat × Kx) := [(0, .lf (.i .u64)), (2, .lf (.i .i64))]
def bits_Len64.C (k : Nat) : Cfg := { T := TT, G := lookG [], nt := 25, cuts := [⟨codeOf [true, true] 1, [true, true], bits_Len64.vj0⟩, ⟨codeOf [true, true, true] 1, [true, true, true], bits_Len64.vj1⟩, ⟨codeOf [true, true, true, true] 1, [true, true, true, true], bits_Len64.vj2⟩], M0 := tabM }
def bits_Len64.H (k : Nat) : List (CutF bits_Len64.S.R) := [⟨bits_Len64.vj0, bits_Len64.j0 k⟩, ⟨bits_Len64.vj1, bits_Len64.j1 k⟩, ⟨bits_Len64.vj2, bits_Len64.j2 k⟩]
def word_shape_join.f (x0_0 : Int) (x0_1 : Int) (x0_2 : Int) (x1_0 : Bool) (x1_1 : Int) (x1_2 : Int) : Option (Int) := if 0 ≤ x0_0 then (if x1_0 = true then (some (Go.bits .or .u64 (Go.bits .or .u64 (shl .u64 (IntKind.u64.wrap x1_1) x0_0) x1_2) x0_2)) else (some (Go.bits .or .u64 (shl .u64 (IntKind.u64.wrap x1_1) x0_0) x1_2))) else (none)
abbrev word_shape_join.S : Sig := { ps := [.ag [.i .i64, .i .i64, .i .u64], .ag [.b, .i .i64, .i .u64]], rs := [.lf (.i .u64)], wb := [], R := Int, mkR := fun y0 => some y0, un := fun r => [.int .u64 r] }
def word_shape_join.F (k : Nat) : Fun := { S := word_shape_join.S, f := word_shape_join.f }
def word_shape_join.C (k : Nat) : Cfg := { T := TT, G := lookG [], nt := 22, cuts := [], M0 := tabM }
def word_shape_join.H (k : Nat) : List (CutF word_shape_join.S.R) := []
def word_Of.f (k : Nat) (x0 : Int) (x1_0 : Bool) (x1_1 : List Int) (x1_2 : Int) : Option (Int × Int) := (word_open.f k x0 ([] : List Int)).bind fun t329 => (if ¬ (t329.2.2.2 = 0) then (some (0, t329.2.2.2)) else ((dyad_May.f x1_0 x1_1 x1_2).bind fun t330 => (if (!t330) = true then (some (0, 2)) else ((nat_Num.f k x1_1).bind fun t331 => ((bits_Len64.f k t331.1).bind fun t332 => (if (!t331.2) = true then (some (0, 7)) else (if t332 > (wrap64 (t329.1 + 1)) then (some (0, 7)) else (if ¬ (t331.1 = 0) then ((word_shape_low.f t329.1 t329.2.1 t329.2.2.1).bind fun t333 => (if x1_2 < t333 then (some (0, 7)) else (if (wrap64 (x1_2 + t332)) > (wrap64 ((wrap64 (Int.tdiv t329.2.1 2)) + 1)) then (some (0, 7)) else (if t331.1 = 0 then (some (0, 0)) else ((word_shape_low.f t329.1 t329.2.1 t329.2.2.1).bind fun t334 => (if 0 ≤ (wrap64 (x1_2 - (mx (wrap64 ((wrap64 ((wrap64 (x1_2 + t332)) - t329.1)) - 1)) t334))) then ((word_shape_low.f t329.1 t329.2.1 t329.2.2.1).bind fun t335 => (if 0 ≤ t329.1 then ((word_shape_join.f t329.1 t329.2.1 t329.2.2.1 x1_0 0 (IntKind.u64.wrap ((shl .u64 (IntKind.u64.wrap (wrap64 ((mx (wrap64 ((wrap64 ((wrap64 (x1_2 + t332)) - t329.1)) - 1)) t334) - t335))) t329.1) + (shl .u64 t331.1 (wrap64 (x1_2 - (mx (wrap64 ((wrap64 ((wrap64 (x1_2 + t332)) - t329.1)) - 1)) t334))))))).bind fun t336 => (some (t336, 0))) else (none))) else (none))))))) else (if t331.1 = 0 then (some (0, 0)) else ((word_shape_low.f t329.1 t329.2.1 t329.2.2.1).bind fun t337 => (if 0 ≤ (wrap64 (x1_2 - (mx (wrap64 ((wrap64 ((wrap64 (x1_2 + t332)) - t329.1)) - 1)) t337))) then ((word_shape_low.f t329.1 t329.2.1 t329.2.2.1).bind fun t338 => (if 0 ≤ t329.1 then ((word_shape_join.f t329.1 t329.2.1 t329.2.2.1 x1_0 0 (IntKind.u64.wrap ((shl .u64 (IntKind.u64.wrap (wrap64 ((mx (wrap64 ((wrap64 ((wrap64 (x1_2 + t332)) - t329.1)) - 1)) t337) - t338))) t329.1) + (shl .u64 t331.1 (wrap64 (x1_2 - (mx (wrap64 ((wrap64 ((wrap64 (x1_2 + t332)) - t329.1)) - 1)) t337))))))).bind fun t339 => (some (t339, 0))) else (none))) else (none))))))))))))
abbrev word_Of.S : Sig := { ps := [.lf (.i .u8), .ag [.b, .is .u32, .i .i64]], rs := [.lf (.i .u64), .lf (.i .i64)], wb := [], R := Int × Int, mkR := fun y0 y1 => some (y0, y1), un := fun r => [.int .u64 r.1, .int .i64 r.2] }
def word_Of.F (k : Nat) : Fun := { S := word_Of.S, f := word_Of.f k }
def word_Of.C (k : Nat) : Cfg := { T := TT, G := lookG [(89, [word_shape_low.F k]), (101, [word_open.F k]), (102, [dyad_May.F k]), (103, [nat_Num.F k]), (104, [bits_Len64.F k]), (105, [word_shape_join.F k])], nt := 95, cuts := [], M0 := tabM }
def word_Of.H (k : Nat) : List (CutF word_Of.S.R) := []
def round_part_word.j1 : Nat → Int → Bool → Int → Int → Bool → Int → Int → Int → Bool → Int → Option (Int × Int)
  | 0, _, _, _, _, _, _, _, _, _, _ => none
  | k + 1, x3, x4, x5_0, x5_1, x5_2, x7_0, x7_1, x7_2, x14, x19 => if x14 = true then (some (x19, 0)) else ((round_part_units.f k x5_0 x5_1 x5_2 x3 x4 (wrap64 (x5_1 - x7_0))).bind fun t373 => ((bits_Len64.f k t373.1).bind fun t374 => (if (wrap64 ((wrap64 (t374 + x5_1)) - x7_0)) < (wrap64 (x7_1 + x7_0)) then (some (x19, 24)) else (some (x19, 16)))))
def round_part_word.f (k : Nat) (x0_0 : Int) (x0_1 : Int) (x0_2 : Bool) (x1 : Int) (x2_0 : Int) (x2_1 : Int) (x2_2 : Int) (x3 : Int) (x4 : Bool) : Option (Int × Int) := (round_part_units.f k x0_0 x0_1 x0_2 x3 x4 (mx (wrap64 (x0_1 - x2_0)) x2_1)).bind fun t366 => ((bits_Len64.f k t366.1).bind fun t367 => (if (wrap64 (t367 + (mx (wrap64 (x0_1 - x2_0)) x2_1))) > x2_2 then ((round_Over.f k x1 x3 x4).bind fun t368 => (some (t368.1, 20))) else ((nat_Of.f k t366.1).bind fun t369 => ((dyad_Make.f k x4 t369 (mx (wrap64 (x0_1 - x2_0)) x2_1)).bind fun t370 => ((word_Of.f k x1 t370.1 t370.2.1 t370.2.2.1).bind fun t371 => (if t366.1 = 0 then ((word_Zero.f k x1 x4).bind fun t372 => (round_part_word.j1 k x3 x4 x0_0 x0_1 x0_2 x2_0 x2_1 x2_2 t366.2 t372.1)) else (round_part_word.j1 k x3 x4 x0_0 x0_1 x0_2 x2_0 x2_1 x2_2 t366.2 t371.1)))))))
abbrev round_part_word.S : Sig := { ps := [.ag [.i .u64, .i .i64, .b], .lf (.i .u8), .ag [.i .i64, .i .i64, .i .i64], .lf (.i .u8), .lf (.b)], rs := [.lf (.i .u64), .lf (.i .u8)], wb := [], R := Int × Int, mkR := fun y0 y1 => some (y0, y1), un := fun r => [.int .u64 r.1, .int .u8 r.2] }
def round_part_word.F (k : Nat) : Fun := { S := round_part_word.S, f := round_part_word.f k }
abbrev round_part_word.vj1 : List (Nat × Kx) := [(3, .lf (.i .u8)), (4, .lf (.b)), (5, .bx [.i .u64, .i .i64, .b]), (7, .bx [.i .i64, .i .i64, .i .i64]), (14, .lf (.b)), (19, .lf (.i .u64))]
def round_part_word.C (k : Nat) : Cfg := { T := TT, G := lookG [(45, [word_Zero.F k]), (55, [word_Of.F k]), (79, [round_Over.F k]), (87, [dyad_Make.F k]), (88, [nat_Of.F k]), (104, [bits_Len64.F k]), (126, [round_part_units.F k])], nt := 106, cuts := [⟨codeOf [true, true, true, true, true, true, true] 1, [true, true, true, true, true, true, true], round_part_word.vj1⟩], M0 := tabM }
def round_part_word.H (k : Nat) : List (CutF round_part_word.S.R) := [⟨round_part_word.vj1, round_part_word.j1 k⟩]
def round_Round.f (k : Nat) (x0 : Int) (x1 : Int) (x2_0 : Bool) (x2_1 : List Int) (x2_2 : Int) : Option (Int × Int × Int) := (round_open.f k x0 x1 [(x2_0, x2_1, x2_2)]).bind fun t377 => (if ¬ (t377.2.2.2 = 0) then (some (0, 0, t377.2.2.2)) else ((dyad_Sign.f k x2_0 x2_1 x2_2).bind fun t378 => (if t378 = 0 then (some (0, 0, 0)) else ((round_partOf.f k x2_0 x2_1 x2_2).bind fun t379 => ((round_part_word.f k t379.1 t379.2.1 t379.2.2 x0 t377.1 t377.2.1 t377.2.2.1 x1 x2_0).bind fun t380 => (some (t380.1, t380.2, 0)))))))
abbrev round_Round.S : Sig := { ps := [.lf (.i .u8), .lf (.i .u8), .ag [.b, .is .u32, .i .i64]], rs := [.lf (.i .u64), .lf (.i .u8), .lf (.i .i64)], wb := [], R := Int × Int × Int, mkR := fun y0 y1 y2 => some (y0, y1, y2), un := fun r => [.int .u64 r.1, .int .u8 r.2.1, .int .i64 r.2.2] }
def round_Round.F (k : Nat) : Fun := { S := round_Round.S, f := round_Round.f k }
def round_Round.C (k : Nat) : Cfg := { T := TT, G := lookG [(56, [dyad_Sign.F k]), (90, [round_open.F k]), (91, [round_partOf.F k]), (92, [round_part_word.F k])], nt := 40, cuts := [], M0 := tabM }
def round_Round.H (k : Nat) : List (CutF round_Round.S.R) := []
def conv_To.f (k : Nat) (x0 : Int) (x1 : Int) (x2 : Int) (x3 : Int) : Option (Int × Int × Int) := (conv_mode.f k x1 x2).bind fun t386 => (if t386 = 4 then (some (0, 0, t386)) else ((conv_open.f k x0 x2 x3).bind fun t387 => (if ¬ (t387.2.2 = 0) then (some (0, 0, t387.2.2)) else (if t387.1 = 5 then ((word_None.f k x1).bind fun t388 => (some (t388.1, 0, 0))) else (if t387.1 = 4 then ((word_Inf.f k x1 t387.2.1).bind fun t389 => (some (t389.1, 0, 0))) else (if t387.1 = 1 then ((word_Zero.f k x1 t387.2.1).bind fun t390 => (some (t390.1, 0, 0))) else ((word_Value.f k x0 x3).bind fun t391 => ((round_Round.f k x1 x2 t391.1 t391.2.1 t391.2.2.1).bind fun t392 => (some (t392.1, t392.2.1, t392.2.2))))))))))
abbrev conv_To.S : Sig := { ps := [.lf (.i .u8), .lf (.i .u8), .lf (.i .u8), .lf (.i .u64)], rs := [.lf (.i .u64), .lf (.i .u8), .lf (.i .i64)], wb := [], R := Int × Int × Int, mkR := fun y0 y1 y2 => some (y0, y1, y2), un := fun r => [.int .u64 r.1, .int .u8 r.2.1, .int .i64 r.2.2] }
def conv_To.F (k : Nat) : Fun := { S := conv_To.S, f := conv_To.f k }
def conv_To.C (k : Nat) : Cfg := { T := TT, G := lookG [(41, [conv_mode.F k]), (42, [conv_open.F k]), (43, [word_None.F k]), (44, [word_Inf.F k]), (45, [word_Zero.F k]), (46, [word_Value.F k]), (47, [round_Round.F k])], nt := 80, cuts := [], M0 := tabM }
def conv_To.H (k : Nat) : List (CutF conv_To.S.R) := []
def nat_all.l0 : Nat → List (List Int) → Int → Int → Option (Bool)
  | 0, _, _, _ => none
  | k + 1, x5, x6, x7 => if x7 < x6 then (if 0 ≤ x7 then (if x7 < (x5.length : Int) then ((nat_May.f (rdT [.is .u32] x5 x7)).bind fun t409 => (if (!t409) = true then (some false) else (nat_all.l0 k x5 x6 (wrap64 (x7 + 1))))) else (none)) else (none)) else (some true)
def nat_all.f (k : Nat) (x0 : List (List Int)) : Option (Bool) := nat_all.l0 k x0 (x0.length : Int) 0
abbrev nat_all.S : Sig := { ps := [.lf (.rw [.is .u32])], rs := [.lf (.b)], wb := [], R := Bool, mkR := fun y0 => some y0, un := fun r => [.bool r] }
def nat_all.F (k : Nat) : Fun := { S := nat_all.S, f := nat_all.f k }
abbrev nat_all.vl0 : List (Nat × Kx) := [(5, .lf (.rw [.is .u32])), (6, .lf (.i .i64)), (7, .lf (.i .i64))]
def nat_all.C (k : Nat) : Cfg := { T := TT, G := lookG [(122, [nat_May.F k])], nt := 15, cuts := [⟨codeOf [true, false, true, false] 1, [true, false, true, false], nat_all.vl0⟩], M0 := tabM }
def nat_all.H (k : Nat) : List (CutF nat_all.S.R) := [⟨nat_all.vl0, nat_all.l0 k⟩]
def nat_cmp.l0 : Nat → List Int → List Int → Int → Option (Int)
  | 0, _, _, _ => none
  | k + 1, x0, x1, x5 => if x5 ≥ 0 then (if 0 ≤ x5 then (if x5 < (x0.length : Int) then (if 0 ≤ x5 then (if x5 < (x1.length : Int) then (if ¬ (rd x0 x5 = rd x1 x5) then (if 0 ≤ x5 then (if x5 < (x0.length : Int) then (if 0 ≤ x5 then (if x5 < (x1.length : Int) then (if (rd x0 x5) < (rd x1 x5) then (some (-1)) else (some 1)) else (none)) else (none)) else (none)) else (none)) else (nat_cmp.l0 k x0 x1 (wrap64 (x5 - 1)))) else (none)) else (none)) else (none)) else (none)) else (some 0)
def nat_cmp.f (k : Nat) (x0 : List Int) (x1 : List Int) : Option (Int) := if (x0.length : Int) < (x1.length : Int) then (some (-1)) else (if (x0.length : Int) > (x1.length : Int) then (some 1) else (nat_cmp.l0 k x0 x1 (wrap64 ((x0.length : Int) - 1))))
abbrev nat_cmp.S : Sig := { ps := [.lf (.is .u32), .lf (.is .u32)], rs := [.lf (.i .i64)], wb := [], R := Int, mkR := fun y0 => some y0, un := fun r => [.int .i64 r] }
def nat_cmp.F (k : Nat) : Fun := { S := nat_cmp.S, f := nat_cmp.f k }
abbrev nat_cmp.vl0 : List (Nat × Kx) := [(0, .lf (.is .u32)), (1, .lf (.is .u32)), (5, .lf (.i .i64))]
def nat_cmp.C (k : Nat) : Cfg := { T := TT, G := lookG [], nt := 43, cuts := [⟨codeOf [true, true, false, true, false] 1, [true, true, false, true, false], nat_cmp.vl0⟩], M0 := tabM }
def nat_cmp.H (k : Nat) : List (CutF nat_cmp.S.R) := [⟨nat_cmp.vl0, nat_cmp.l0 k⟩]
def bits_Div32.f (x0 : Int) (x1 : Int) (x2 : Int) : Option (Int × Int) := if ¬ (x2 = 0) then (if x2 ≤ x0 then (none) else (if (IntKind.u64.wrap x2) = 0 then (none) else (if (IntKind.u64.wrap x2) = 0 then (none) else (some ((IntKind.u64.wrap (Int.tdiv (Go.bits .or .u64 (IntKind.u64.wrap ((IntKind.u64.wrap x0) * 4294967296)) (IntKind.u64.wrap x1)) (IntKind.u64.wrap x2))) % 4294967296, (Int.tmod (Go.bits .or .u64 (IntKind.u64.wrap ((IntKind.u64.wrap x0) * 4294967296)) (IntKind.u64.wrap x1)) (IntKind.u64.wrap x2)) % 4294967296))))) else (if (IntKind.u64.wrap x2) = 0 then (none) else (if (IntKind.u64.wrap x2) = 0 then (none) else (some ((IntKind.u64.wrap (Int.tdiv (Go.bits .or .u64 (IntKind.u64.wrap ((IntKind.u64.wrap x0) * 4294967296)) (IntKind.u64.wrap x1)) (IntKind.u64.wrap x2))) % 4294967296, (Int.tmod (Go.bits .or .u64 (IntKind.u64.wrap ((IntKind.u64.wrap x0) * 4294967296)) (IntKind.u64.wrap x1)) (IntKind.u64.wrap x2)) % 4294967296))))
abbrev bits_Div32.S : Sig := { ps := [.lf (.i .u32), .lf (.i .u32), .lf (.i .u32)], rs := [.lf (.i .u32), .lf (.i .u32)], wb := [], R := Int × Int, mkR := fun y0 y1 => some (y0, y1), un := fun r => [.int .u32 r.1, .int .u32 r.2] }
def bits_Div32.F (k : Nat) : Fun := { S := bits_Div32.S, f := bits_Div32.f }
def bits_Div32.C (k : Nat) : Cfg := { T := TT, G := lookG [], nt := 33, cuts := [], M0 := tabM }
def bits_Div32.H (k : Nat) : List (CutF bits_Div32.S.R) := []
def nat_small.l0 : Nat → List Int → Int → List Int → Int → Int → Option (List Int × Int)
  | 0, _, _, _, _, _ => none
  | k + 1, x0, x1, x6, x7, x8 => if x8 ≥ 0 then (if 0 ≤ x8 then (if x8 < (x0.length : Int) then ((bits_Div32.f x7 (rd x0 x8) x1).bind fun t415 => (if 0 ≤ x8 then (if x8 < (x6.length : Int) then (nat_small.l0 k x0 x1 (x6.set (x8 : Int).toNat t415.1) t415.2 (wrap64 (x8 - 1))) else (none)) else (none))) else (none)) else (none)) else ((nat_trim.f k x6).bind fun t416 => (some (t416, x7)))
def nat_small.f (k : Nat) (x0 : List Int) (x1 : Int) : Option (List Int × Int) := if 0 ≤ (x0.length : Int) then (if ((x0.length : Int) : Int).toNat ≤ 70368744177664 then (nat_small.l0 k x0 x1 (List.replicate ((x0.length : Int) : Int).toNat (0 : Int)) 0 (wrap64 ((x0.length : Int) - 1))) else (none)) else (none)
abbrev nat_small.S : Sig := { ps := [.lf (.is .u32), .lf (.i .u32)], rs := [.lf (.is .u32), .lf (.i .u32)], wb := [], R := List Int × Int, mkR := fun y0 y1 => some (y0, y1), un := fun r => [.ints .u32 r.1, .int .u32 r.2] }
def nat_small.F (k : Nat) : Fun := { S := nat_small.S, f := nat_small.f k }
abbrev nat_small.vl0 : List (Nat × Kx) := [(0, .lf (.is .u32)), (1, .lf (.i .u32)), (6, .ow .u32), (7, .lf (.i .u32)), (8, .lf (.i .i64))]
def nat_small.C (k : Nat) : Cfg := { T := TT, G := lookG [(124, [nat_trim.F k, nat_trim.F1 k]), (151, [bits_Div32.F k])], nt := 35, cuts := [⟨codeOf [true, true, true, false, true, false] 1, [true, true, true, false, true, false], nat_small.vl0⟩], M0 := tabM }
def nat_small.H (k : Nat) : List (CutF nat_small.S.R) := [⟨nat_small.vl0, nat_small.l0 k⟩]
def bits_LeadingZeros32.f (k : Nat) (x0 : Int) : Option (Int) := (bits_Len32.f k x0).bind fun t420 => (some (wrap64 (32 - t420)))
abbrev bits_LeadingZeros32.S : Sig := { ps := [.lf (.i .u32)], rs := [.lf (.i .i64)], wb := [], R := Int, mkR := fun y0 => some y0, un := fun r => [.int .i64 r] }
def bits_LeadingZeros32.F (k : Nat) : Fun := { S := bits_LeadingZeros32.S, f := bits_LeadingZeros32.f k }
def bits_LeadingZeros32.C (k : Nat) : Cfg := { T := TT, G := lookG [(140, [bits_Len32.F k])], nt := 6, cuts := [], M0 := tabM }
def bits_LeadingZeros32.H (k : Nat) : List (CutF bits_LeadingZeros32.S.R) := []
def bits_Sub32.f (x0 : Int) (x1 : Int) (x2 : Int) : Option (Int × Int) := some ((((x0 - x1) % 4294967296) - x2) % 4294967296, (Go.bits .or .u32 (Go.bits .and .u32 (Go.bits .xor .u32 4294967295 x0) x1) (Go.bits .and .u32 (Go.bits .xor .u32 4294967295 (Go.bits .xor .u32 x0 x1)) ((((x0 - x1) % 4294967296) - x2) % 4294967296))) / 2147483648)
abbrev bits_Sub32.S : Sig := { ps := [.lf (.i .u32), .lf (.i .u32), .lf (.i .u32)], rs := [.lf (.i .u32), .lf (.i .u32)], wb := [], R := Int × Int, mkR := fun y0 y1 => some (y0, y1), un := fun r => [.int .u32 r.1, .int .u32 r.2] }
def bits_Sub32.F (k : Nat) : Fun := { S := bits_Sub32.S, f := bits_Sub32.f }
def bits_Sub32.C (k : Nat) : Cfg := { T := TT, G := lookG [], nt := 25, cuts := [], M0 := tabM }
def bits_Sub32.H (k : Nat) : List (CutF bits_Sub32.S.R) := []
def bits_Add32.f (x0 : Int) (x1 : Int) (x2 : Int) : Option (Int × Int) := some ((IntKind.u64.wrap ((IntKind.u64.wrap ((IntKind.u64.wrap x0) + (IntKind.u64.wrap x1))) + (IntKind.u64.wrap x2))) % 4294967296, ((IntKind.u64.wrap ((IntKind.u64.wrap ((IntKind.u64.wrap x0) + (IntKind.u64.wrap x1))) + (IntKind.u64.wrap x2))) / 4294967296) % 4294967296)
abbrev bits_Add32.S : Sig := { ps := [.lf (.i .u32), .lf (.i .u32), .lf (.i .u32)], rs := [.lf (.i .u32), .lf (.i .u32)], wb := [], R := Int × Int, mkR := fun y0 y1 => some (y0, y1), un := fun r => [.int .u32 r.1, .int .u32 r.2] }
def bits_Add32.F (k : Nat) : Fun := { S := bits_Add32.S, f := bits_Add32.f }
def bits_Add32.C (k : Nat) : Cfg := { T := TT, G := lookG [], nt := 22, cuts := [], M0 := tabM }
def bits_Add32.H (k : Nat) : List (CutF bits_Add32.S.R) := []
mutual
def nat_step.l0 : Nat → List Int → List Int → Int → Int → Int → Option (Int × List Int)
  | 0, _, _, _, _, _ => none
  | k + 1, x0, x1, x5, x7, x8 => if x7 ≥ 4294967296 then (if 0 ≤ wrap64 (x5 - 1) then (if wrap64 (x5 - 1) < (x1.length : Int) then (if (IntKind.u64.wrap (x8 + (IntKind.u64.wrap (rd x1 (wrap64 (x5 - 1)))))) ≥ 4294967296 then (nat_step.l1 k x0 x1 x5 (IntKind.u64.wrap (x7 - 1)) 0 0 x1 (x1.length : Int) 0) else (nat_step.l0 k x0 x1 x5 (IntKind.u64.wrap (x7 - 1)) (IntKind.u64.wrap (x8 + (IntKind.u64.wrap (rd x1 (wrap64 (x5 - 1)))))))) else (none)) else (none)) else (if 0 ≤ wrap64 (x5 - 2) then (if wrap64 (x5 - 2) < (x1.length : Int) then (if 0 ≤ wrap64 (x5 - 2) then (if wrap64 (x5 - 2) < (x0.length : Int) then (if (IntKind.u64.wrap (x7 * (IntKind.u64.wrap (rd x1 (wrap64 (x5 - 2)))))) > (Go.bits .or .u64 (IntKind.u64.wrap (x8 * 4294967296)) (IntKind.u64.wrap (rd x0 (wrap64 (x5 - 2))))) then (if 0 ≤ wrap64 (x5 - 1) then (if wrap64 (x5 - 1) < (x1.length : Int) then (if (IntKind.u64.wrap (x8 + (IntKind.u64.wrap (rd x1 (wrap64 (x5 - 1)))))) ≥ 4294967296 then (nat_step.l1 k x0 x1 x5 (IntKind.u64.wrap (x7 - 1)) 0 0 x1 (x1.length : Int) 0) else (nat_step.l0 k x0 x1 x5 (IntKind.u64.wrap (x7 - 1)) (IntKind.u64.wrap (x8 + (IntKind.u64.wrap (rd x1 (wrap64 (x5 - 1)))))))) else (none)) else (none)) else (nat_step.l1 k x0 x1 x5 x7 0 0 x1 (x1.length : Int) 0)) else (none)) else (none)) else (none)) else (none))
def nat_step.l1 : Nat → List Int → List Int → Int → Int → Int → Int → List Int → Int → Int → Option (Int × List Int)
  | 0, _, _, _, _, _, _, _, _, _ => none
  | k + 1, x0, x1, x5, x7, x9, x10, x81, x82, x83 => if x83 < x82 then (if 0 ≤ x83 then (if x83 < (x81.length : Int) then (if 0 ≤ x83 then (if x83 < (x0.length : Int) then ((bits_Sub32.f (rd x0 x83) ((IntKind.u64.wrap (x10 + (IntKind.u64.wrap (x7 * (IntKind.u64.wrap (rd x81 x83)))))) % 4294967296) x9).bind fun t450 => (if 0 ≤ x83 then (if x83 < (x0.length : Int) then (nat_step.l1 k (x0.set (x83 : Int).toNat t450.1) x1 x5 x7 t450.2 ((IntKind.u64.wrap (x10 + (IntKind.u64.wrap (x7 * (IntKind.u64.wrap (rd x81 x83)))))) / 4294967296) x81 x82 (wrap64 (x83 + 1))) else (none)) else (none))) else (none)) else (none)) else (none)) else (none)) else (if 0 ≤ x5 then (if x5 < (x0.length : Int) then ((bits_Sub32.f (rd x0 x5) (x10 % 4294967296) x9).bind fun t451 => (if 0 ≤ x5 then (if x5 < (x0.length : Int) then (if t451.2 = 0 then (some (x7 % 4294967296, x0.set (x5 : Int).toNat t451.1)) else (nat_step.l2 k (x0.set (x5 : Int).toNat t451.1) x5 x7 0 x1 (x1.length : Int) 0)) else (none)) else (none))) else (none)) else (none))
def nat_step.l2 : Nat → List Int → Int → Int → Int → List Int → Int → Int → Option (Int × List Int)
  | 0, _, _, _, _, _, _, _ => none
  | k + 1, x0, x5, x7, x13, x129, x130, x131 => if x131 < x130 then (if 0 ≤ x131 then (if x131 < (x129.length : Int) then (if 0 ≤ x131 then (if x131 < (x0.length : Int) then ((bits_Add32.f (rd x0 x131) (rd x129 x131) x13).bind fun t449 => (if 0 ≤ x131 then (if x131 < (x0.length : Int) then (nat_step.l2 k (x0.set (x131 : Int).toNat t449.1) x5 x7 t449.2 x129 x130 (wrap64 (x131 + 1))) else (none)) else (none))) else (none)) else (none)) else (none)) else (none)) else (if 0 ≤ x5 then (if x5 < (x0.length : Int) then (if 0 ≤ x5 then (if x5 < (x0.length : Int) then (some ((IntKind.u64.wrap (x7 - 1)) % 4294967296, x0.set (x5 : Int).toNat (((rd x0 x5) + x13) % 4294967296))) else (none)) else (none)) else (none)) else (none))
end
def nat_step.f (k : Nat) (x0 : List Int) (x1 : List Int) : Option (Int × List Int) := if 0 ≤ (x1.length : Int) then (if (x1.length : Int) < (x0.length : Int) then (if 0 ≤ wrap64 ((x1.length : Int) - 1) then (if wrap64 ((x1.length : Int) - 1) < (x0.length : Int) then (if 0 ≤ wrap64 ((x1.length : Int) - 1) then (if wrap64 ((x1.length : Int) - 1) < (x1.length : Int) then (if (IntKind.u64.wrap (rd x1 (wrap64 ((x1.length : Int) - 1)))) = 0 then (none) else (if 0 ≤ wrap64 ((x1.length : Int) - 1) then (if wrap64 ((x1.length : Int) - 1) < (x1.length : Int) then (if (IntKind.u64.wrap (rd x1 (wrap64 ((x1.length : Int) - 1)))) = 0 then (none) else (nat_step.l0 k x0 x1 (x1.length : Int) (IntKind.u64.wrap (Int.tdiv (Go.bits .or .u64 (IntKind.u64.wrap ((IntKind.u64.wrap (rd x0 (x1.length : Int))) * 4294967296)) (IntKind.u64.wrap (rd x0 (wrap64 ((x1.length : Int) - 1))))) (IntKind.u64.wrap (rd x1 (wrap64 ((x1.length : Int) - 1)))))) (Int.tmod (Go.bits .or .u64 (IntKind.u64.wrap ((IntKind.u64.wrap (rd x0 (x1.length : Int))) * 4294967296)) (IntKind.u64.wrap (rd x0 (wrap64 ((x1.length : Int) - 1))))) (IntKind.u64.wrap (rd x1 (wrap64 ((x1.length : Int) - 1))))))) else (none)) else (none))) else (none)) else (none)) else (none)) else (none)) else (none)) else (none)
abbrev nat_step.S : Sig := { ps := [.bo .u32, .lf (.is .u32)], rs := [.lf (.i .u32)], wb := [.is .u32], R := Int × List Int, mkR := fun y0 y1 => some (y0, y1), un := fun r => [.int .u32 r.1, .ints .u32 r.2] }
def nat_step.F (k : Nat) : Fun := { S := nat_step.S, f := nat_step.f k }
abbrev nat_step.vl0 : List (Nat × Kx) := [(0, .bo .u32), (1, .lf (.is .u32)), (5, .lf (.i .i64)), (7, .lf (.i .u64)), (8, .lf (.i .u64))]
abbrev nat_step.vl1 : List (Nat × Kx) := [(0, .bo .u32), (1, .lf (.is .u32)), (5, .lf (.i .i64)), (7, .lf (.i .u64)), (9, .lf (.i .u32)), (10, .lf (.i .u64)), (81, .lf (.is .u32)), (82, .lf (.i .i64)), (83, .lf (.i .i64))]
abbrev nat_step.vl2 : List (Nat × Kx) := [(0, .bo .u32), (5, .lf (.i .i64)), (7, .lf (.i .u64)), (13, .lf (.i .u32)), (129, .lf (.is .u32)), (130, .lf (.i .i64)), (131, .lf (.i .i64))]
def nat_step.C (k : Nat) : Cfg := { T := TT, G := lookG [(154, [bits_Sub32.F k]), (156, [bits_Add32.F k])], nt := 160, cuts := [⟨codeOf [true, true, true, true, false, false] 1, [true, true, true, true, false, false], nat_step.vl0⟩, ⟨codeOf [true, true, true, true, true, true, false, true, false] 1, [true, true, true, true, true, true, false, true, false], nat_step.vl1⟩, ⟨codeOf [true, true, true, true, true, true, true, true, true, true, false, true, false] 1, [true, true, true, true, true, true, true, true, true, true, false, true, false], nat_step.vl2⟩], M0 := tabM }
def nat_step.H (k : Nat) : List (CutF nat_step.S.R) := [⟨nat_step.vl0, nat_step.l0 k⟩, ⟨nat_step.vl1, nat_step.l1 k⟩, ⟨nat_step.vl2, nat_step.l2 k⟩]
mutual
def nat_long.l0 : Nat → List Int → Int → List Int → List Int → Option (List Int × List Int)
  | 0, _, _, _, _ => none
  | k + 1, x0, x6, x7, x8 => if (x8.length : Int) ≤ (x0.length : Int) then (if x8.length + ([0] : List Int).length < 35184372088832 then (nat_long.l0 k x0 x6 x7 (x8 ++ ([0] : List Int))) else (none)) else (if 0 ≤ (wrap64 ((x8.length : Int) - (x7.length : Int))) then (if (wrap64 ((x8.length : Int) - (x7.length : Int)) : Int).toNat ≤ 70368744177664 then (nat_long.l1 k x6 x7 x8 (x7.length : Int) (List.replicate (wrap64 ((x8.length : Int) - (x7.length : Int)) : Int).toNat (0 : Int)) (wrap64 (((List.replicate (wrap64 ((x8.length : Int) - (x7.length : Int)) : Int).toNat (0 : Int)).length : Int) - 1))) else (none)) else (none))
def nat_long.l1 : Nat → Int → List Int → List Int → Int → List Int → Int → Option (List Int × List Int)
  | 0, _, _, _, _, _, _ => none
  | k + 1, x6, x7, x8, x9, x10, x11 => if x11 ≥ 0 then (if 0 ≤ x11 then (if x11 ≤ (wrap64 ((wrap64 (x11 + x9)) + 1)) then (if (wrap64 ((wrap64 (x11 + x9)) + 1)) ≤ (x8.length : Int) then ((nat_step.f k ((x8.take (wrap64 ((wrap64 (x11 + x9)) + 1) : Int).toNat).drop (x11 : Int).toNat) x7).bind fun t466 => (if 0 ≤ x11 then (if x11 < (x10.length : Int) then (nat_long.l1 k x6 x7 (x8.take (x11 : Int).toNat ++ t466.2 ++ x8.drop (wrap64 ((wrap64 (x11 + x9)) + 1) : Int).toNat) x9 (x10.set (x11 : Int).toNat t466.1) (wrap64 (x11 - 1))) else (none)) else (none))) else (none)) else (none)) else (none)) else ((nat_trim.f k x10).bind fun t467 => (if 0 ≤ x9 then (if x9 ≤ (x8.length : Int) then ((nat_trim.f k (x8.take (x9 : Int).toNat)).bind fun t468 => ((nat_down.f k t468 x6).bind fun t469 => ((nat_trim.f k t469).bind fun t470 => (some (t467, t470))))) else (none)) else (none)))
end
def nat_long.f (k : Nat) (x0 : List Int) (x1 : List Int) : Option (List Int × List Int) := if 0 ≤ wrap64 ((x1.length : Int) - 1) then (if wrap64 ((x1.length : Int) - 1) < (x1.length : Int) then ((bits_LeadingZeros32.f k (rd x1 (wrap64 ((x1.length : Int) - 1)))).bind fun t463 => ((nat_up.f k x1 t463).bind fun t464 => ((nat_up.f k x0 t463).bind fun t465 => (nat_long.l0 k x0 t463 t464 t465)))) else (none)) else (none)
abbrev nat_long.S : Sig := { ps := [.lf (.is .u32), .lf (.is .u32)], rs := [.lf (.is .u32), .lf (.is .u32)], wb := [], R := List Int × List Int, mkR := fun y0 y1 => some (y0, y1), un := fun r => [.ints .u32 r.1, .ints .u32 r.2] }
def nat_long.F (k : Nat) : Fun := { S := nat_long.S, f := nat_long.f k }
abbrev nat_long.vl0 : List (Nat × Kx) := [(0, .lf (.is .u32)), (6, .lf (.i .i64)), (7, .ow .u32), (8, .ow .u32)]
abbrev nat_long.vl1 : List (Nat × Kx) := [(6, .lf (.i .i64)), (7, .ow .u32), (8, .ow .u32), (9, .lf (.i .i64)), (10, .ow .u32), (11, .lf (.i .i64))]
def nat_long.C (k : Nat) : Cfg := { T := TT, G := lookG [(124, [nat_trim.F k, nat_trim.F1 k]), (129, [nat_down.F k]), (130, [nat_up.F k]), (152, [bits_LeadingZeros32.F k]), (153, [nat_step.F k])], nt := 68, cuts := [⟨codeOf [true, true, true, true, false, false] 1, [true, true, true, true, false, false], nat_long.vl0⟩, ⟨codeOf [true, true, true, true, true, true, true, false, true, false] 1, [true, true, true, true, true, true, true, false, true, false], nat_long.vl1⟩], M0 := tabM }
def nat_long.H (k : Nat) : List (CutF nat_long.S.R) := [⟨nat_long.vl0, nat_long.l0 k⟩, ⟨nat_long.vl1, nat_long.l1 k⟩]
def nat_QuoRem.f (k : Nat) (x0 : List Int) (x1 : List Int) : Option (List Int × List Int × Int) := (nat_all.f k [x0, x1]).bind fun t475 => (if (!t475) = true then (some (([] : List Int), ([] : List Int), 2)) else (if (x1.length : Int) = 0 then (some (([] : List Int), ([] : List Int), 11)) else ((nat_cmp.f k x0 x1).bind fun t476 => (if t476 < 0 then (if x0.length < 35184372088832 then (some (([] : List Int), x0, 0)) else (none)) else (if (x1.length : Int) = 1 then (if 0 < (x1.length : Int) then ((nat_small.f k x0 (rd x1 0)).bind fun t477 => ((nat_trim.f k ([t477.2] : List Int)).bind fun t478 => (some (t477.1, t478, 0)))) else (none)) else ((nat_long.f k x0 x1).bind fun t479 => (some (t479.1, t479.2, 0))))))))
abbrev nat_QuoRem.S : Sig := { ps := [.lf (.is .u32), .lf (.is .u32)], rs := [.lf (.is .u32), .lf (.is .u32), .lf (.i .i64)], wb := [], R := List Int × List Int × Int, mkR := fun y0 y1 y2 => some (y0, y1, y2), un := fun r => [.ints .u32 r.1, .ints .u32 r.2.1, .int .i64 r.2.2] }
def nat_QuoRem.F (k : Nat) : Fun := { S := nat_QuoRem.S, f := nat_QuoRem.f k }
def nat_QuoRem.C (k : Nat) : Cfg := { T := TT, G := lookG [(124, [nat_trim.F k, nat_trim.F1 k]), (131, [nat_all.F k]), (132, [nat_cmp.F k]), (133, [nat_small.F k]), (134, [nat_long.F k])], nt := 49, cuts := [], M0 := tabM }
def nat_QuoRem.H (k : Nat) : List (CutF nat_QuoRem.S.R) := []
def nat_Cmp.f (k : Nat) (x0 : List Int) (x1 : List Int) : Option (Int × Int) := (nat_all.f k [x0, x1]).bind fun t485 => (if (!t485) = true then (some (0, 2)) else ((nat_cmp.f k x0 x1).bind fun t486 => (some (t486, 0))))
abbrev nat_Cmp.S : Sig := { ps := [.lf (.is .u32), .lf (.is .u32)], rs := [.lf (.i .i64), .lf (.i .i64)], wb := [], R := Int × Int, mkR := fun y0 y1 => some (y0, y1), un := fun r => [.int .i64 r.1, .int .i64 r.2] }
def nat_Cmp.F (k : Nat) : Fun := { S := nat_Cmp.S, f := nat_Cmp.f k }
def nat_Cmp.C (k : Nat) : Cfg := { T := TT, G := lookG [(131, [nat_all.F k]), (132, [nat_cmp.F k])], nt := 14, cuts := [], M0 := tabM }
def nat_Cmp.H (k : Nat) : List (CutF nat_Cmp.S.R) := []
mutual
def nat_sub.l0 : Nat → List Int → List Int → List Int → Int → Int → Int → Option (List Int)
  | 0, _, _, _, _, _, _ => none
  | k + 1, x0, x1, x5, x6, x13, x14 => if x14 < x13 then (if x14 < (x1.length : Int) then (if 0 ≤ x14 then (if x14 < (x1.length : Int) then (nat_sub.j1 k x0 x1 x5 x6 x14 (rd x1 x14) x13 x14) else (none)) else (none)) else (nat_sub.j1 k x0 x1 x5 x6 x14 0 x13 x14)) else ((nat_trim.f k x5).bind fun t506 => (some t506))
def nat_sub.j1 : Nat → List Int → List Int → List Int → Int → Int → Int → Int → Int → Option (List Int)
  | 0, _, _, _, _, _, _, _, _ => none
  | k + 1, x0, x1, x5, x6, x7, x8, x13, x14 => if 0 ≤ x7 then (if x7 < (x0.length : Int) then ((bits_Sub32.f (rd x0 x7) x8 x6).bind fun t505 => (if 0 ≤ x7 then (if x7 < (x5.length : Int) then (nat_sub.l0 k x0 x1 (x5.set (x7 : Int).toNat t505.1) t505.2 x13 (wrap64 (x14 + 1))) else (none)) else (none))) else (none)) else (none)
end
def nat_sub.f (k : Nat) (x0 : List Int) (x1 : List Int) : Option (List Int) := if 0 ≤ (x0.length : Int) then (if ((x0.length : Int) : Int).toNat ≤ 70368744177664 then (nat_sub.l0 k x0 x1 (List.replicate ((x0.length : Int) : Int).toNat (0 : Int)) 0 (x0.length : Int) 0) else (none)) else (none)
abbrev nat_sub.S : Sig := { ps := [.lf (.is .u32), .lf (.is .u32)], rs := [.lf (.is .u32)], wb := [], R := List Int, mkR := fun y0 => some y0, un := fun r => [.ints .u32 r] }
def nat_sub.F (k : Nat) : Fun := { S := nat_sub.S, f := nat_sub.f k }
abbrev nat_sub.vl0 : List (Nat × Kx) := [(0, .lf (.is .u32)), (1, .lf (.is .u32)), (5, .ow .u32), (6, .lf (.i .u32)), (13, .lf (.i .i64)), (14, .lf (.i .i64))]
abbrev nat_sub.vj1 : List (Nat × Kx) := [(0, .lf (.is .u32)), (1, .lf (.is .u32)), (5, .ow .u32), (6, .lf (.i .u32)), (7, .lf (.i .i64)), (8, .lf (.i .u32)), (13, .lf (.i .i64)), (14, .lf (.i .i64))]
def nat_sub.C (k : Nat) : Cfg := { T := TT, G := lookG [(124, [nat_trim.F k, nat_trim.F1 k]), (154, [bits_Sub32.F k])], nt := 41, cuts := [⟨codeOf [true, true, true, false, true, false] 1, [true, true, true, false, true, false], nat_sub.vl0⟩, ⟨codeOf [true, true, true, false, true, false, false, true, true, false, false, true, true, true] 1, [true, true, true, false, true, false, false, true, true, false, false, true, true, true], nat_sub.vj1⟩], M0 := tabM }
def nat_sub.H (k : Nat) : List (CutF nat_sub.S.R) := [⟨nat_sub.vl0, nat_sub.l0 k⟩, ⟨nat_sub.vj1, nat_sub.j1 k⟩]
def nat_Sub.f (k : Nat) (x0 : List Int) (x1 : List Int) : Option (List Int × Int) := (nat_all.f k [x0, x1]).bind fun t509 => (if (!t509) = true then (some (([] : List Int), 2)) else ((nat_cmp.f k x0 x1).bind fun t510 => (if t510 < 0 then (some (([] : List Int), 10)) else ((nat_sub.f k x0 x1).bind fun t511 => (some (t511, 0))))))
abbrev nat_Sub.S : Sig := { ps := [.lf (.is .u32), .lf (.is .u32)], rs := [.lf (.is .u32), .lf (.i .i64)], wb := [], R := List Int × Int, mkR := fun y0 y1 => some (y0, y1), un := fun r => [.ints .u32 r.1, .int .i64 r.2] }
def nat_Sub.F (k : Nat) : Fun := { S := nat_Sub.S, f := nat_Sub.f k }
def nat_Sub.C (k : Nat) : Cfg := { T := TT, G := lookG [(131, [nat_all.F k]), (132, [nat_cmp.F k]), (135, [nat_sub.F k])], nt := 18, cuts := [], M0 := tabM }
def nat_Sub.H (k : Nat) : List (CutF nat_Sub.S.R) := []
mutual
def conv_left.j0 : Nat → Bool → List Int → Int → Bool → List Int → Int → Int → List Int → List Int → Int → Bool → Option (Bool × List Int × Int)
  | 0, _, _, _, _, _, _, _, _, _, _, _ => none
  | k + 1, x2_0, x2_1, x2_2, x4_0, x4_1, x4_2, x5, x9, x13, x18, x20 => if x18 > 0 then (conv_left.j1 k x4_0 x4_1 x4_2 x5 x9 x13 x2_0 true) else (if x18 = 0 then (conv_left.j1 k x4_0 x4_1 x4_2 x5 x9 x13 x2_0 x20) else (conv_left.j1 k x4_0 x4_1 x4_2 x5 x9 x13 x2_0 false))
def conv_left.j1 : Nat → Bool → List Int → Int → Int → List Int → List Int → Bool → Bool → Option (Bool × List Int × Int)
  | 0, _, _, _, _, _, _, _, _ => none
  | k + 1, x4_0, x4_1, x4_2, x5, x9, x13, x21, x90 => if x90 = true then ((nat_Sub.f k x9 x13).bind fun t519 => (conv_left.j2 k x4_0 x4_1 x4_2 x5 t519.1 (!x21))) else (conv_left.j2 k x4_0 x4_1 x4_2 x5 x13 x21)
def conv_left.j2 : Nat → Bool → List Int → Int → Int → List Int → Bool → Option (Bool × List Int × Int)
  | 0, _, _, _, _, _, _ => none
  | k + 1, x4_0, x4_1, x4_2, x5, x13, x21 => (dyad_Make.f k x21 x13 x5).bind fun t518 => (some (t518.1, t518.2.1, t518.2.2.1))
end
def conv_left.f (k : Nat) (x0_0 : Bool) (x0_1 : List Int) (x0_2 : Int) (x1_0 : Bool) (x1_1 : List Int) (x1_2 : Int) : Option (Bool × List Int × Int) := (nat_Shift.f k x0_1 (wrap64 (x0_2 - (mn x0_2 x1_2)))).bind fun t513 => ((nat_Shift.f k x1_1 (wrap64 (x1_2 - (mn x0_2 x1_2)))).bind fun t514 => ((nat_QuoRem.f k t513.1 t514.1).bind fun t515 => ((nat_Shift.f k t515.2.1 1).bind fun t516 => ((nat_Cmp.f k t516.1 t514.1).bind fun t517 => (if (t515.1.length : Int) > 0 then (if 0 < (t515.1.length : Int) then (conv_left.j0 k x0_0 x0_1 x0_2 false ([] : List Int) 0 (mn x0_2 x1_2) t514.1 t515.2.1 t517.1 (decide ((Go.bits .and .u32 (rd t515.1 0) 1) = 1))) else (none)) else (conv_left.j0 k x0_0 x0_1 x0_2 false ([] : List Int) 0 (mn x0_2 x1_2) t514.1 t515.2.1 t517.1 false))))))
abbrev conv_left.S : Sig := { ps := [.ag [.b, .is .u32, .i .i64], .ag [.b, .is .u32, .i .i64]], rs := [.ag [.b, .is .u32, .i .i64]], wb := [], R := Bool × List Int × Int, mkR := fun y0 y1 y2 => some (y0, y1, y2), un := fun r => [.bool r.1, .ints .u32 r.2.1, .int .i64 r.2.2] }
def conv_left.F (k : Nat) : Fun := { S := conv_left.S, f := conv_left.f k }
abbrev conv_left.vj0 : List (Nat × Kx) := [(2, .bx [.b, .is .u32, .i .i64]), (4, .bx [.b, .is .u32, .i .i64]), (5, .lf (.i .i64)), (9, .lf (.is .u32)), (13, .lf (.is .u32)), (18, .lf (.i .i64)), (20, .lf (.b))]
abbrev conv_left.vj1 : List (Nat × Kx) := [(4, .bx [.b, .is .u32, .i .i64]), (5, .lf (.i .i64)), (9, .lf (.is .u32)), (13, .lf (.is .u32)), (21, .lf (.b)), (90, .lf (.b))]
abbrev conv_left.vj2 : List (Nat × Kx) := [(4, .bx [.b, .is .u32, .i .i64]), (5, .lf (.i .i64)), (13, .lf (.is .u32)), (21, .lf (.b))]
def conv_left.C (k : Nat) : Cfg := { T := TT, G := lookG [(87, [dyad_Make.F k]), (97, [nat_Shift.F k]), (98, [nat_QuoRem.F k]), (99, [nat_Cmp.F k]), (100, [nat_Sub.F k])], nt := 107, cuts := [⟨codeOf [true, true, true, true, true, true, true, true] 1, [true, true, true, true, true, true, true, true], conv_left.vj0⟩, ⟨codeOf [true, true, true, true, true, true, true, true, true, false, true] 1, [true, true, true, true, true, true, true, true, true, false, true], conv_left.vj1⟩, ⟨codeOf [true, true, true, true, true, true, true, true, true, true] 1, [true, true, true, true, true, true, true, true, true, true], conv_left.vj2⟩], M0 := tabM }
def conv_left.H (k : Nat) : List (CutF conv_left.S.R) := [⟨conv_left.vj0, conv_left.j0 k⟩, ⟨conv_left.vj1, conv_left.j1 k⟩, ⟨conv_left.vj2, conv_left.j2 k⟩]
mutual
def conv_Rem.j1 : Nat → Int → Int → Int → Int → Bool → Int → Bool → Option (Int × Int × Int)
  | 0, _, _, _, _, _, _, _ => none
  | k + 1, x0, x1, x2, x9, x10, x12, x46 => if x46 = true then ((word_None.f k x0).bind fun t577 => (some (t577.1, 0, 0))) else (if x9 = 4 then (conv_Rem.j2 k x0 x1 x2 x9 x10 x12 true) else (conv_Rem.j2 k x0 x1 x2 x9 x10 x12 (decide (x12 = 1))))
def conv_Rem.j2 : Nat → Int → Int → Int → Int → Bool → Int → Bool → Option (Int × Int × Int)
  | 0, _, _, _, _, _, _, _ => none
  | k + 1, x0, x1, x2, x9, x10, x12, x59 => if x59 = true then ((word_None.f k x0).bind fun t576 => (some (t576.1, 1, 0))) else (if x12 = 4 then (conv_Rem.j3 k x0 x1 x2 x10 true) else (conv_Rem.j3 k x0 x1 x2 x10 (decide (x9 = 1))))
def conv_Rem.j3 : Nat → Int → Int → Int → Bool → Bool → Option (Int × Int × Int)
  | 0, _, _, _, _, _ => none
  | k + 1, x0, x1, x2, x10, x72 => if x72 = true then (some (x1, 0, 0)) else ((word_Value.f k x0 x1).bind fun t570 => ((word_Value.f k x0 x2).bind fun t571 => ((conv_left.f k t570.1 t570.2.1 t570.2.2.1 t571.1 t571.2.1 t571.2.2.1).bind fun t572 => ((word_Of.f k x0 t572.1 t572.2.1 t572.2.2).bind fun t573 => ((dyad_Sign.f k t572.1 t572.2.1 t572.2.2).bind fun t574 => (if t574 = 0 then ((word_Zero.f k x0 x10).bind fun t575 => (some (t575.1, 0, 0))) else (some (t573.1, 0, 0))))))))
end
def conv_Rem.f (k : Nat) (x0 : Int) (x1 : Int) (x2 : Int) : Option (Int × Int × Int) := (conv_open.f k x0 1 x1).bind fun t568 => (if ¬ (t568.2.2 = 0) then (some (0, 0, t568.2.2)) else ((conv_open.f k x0 1 x2).bind fun t569 => (if ¬ (t569.2.2 = 0) then (some (0, 0, t569.2.2)) else (if t568.1 = 5 then (conv_Rem.j1 k x0 x1 x2 t568.1 t568.2.1 t569.1 true) else (conv_Rem.j1 k x0 x1 x2 t568.1 t568.2.1 t569.1 (decide (t569.1 = 5)))))))
abbrev conv_Rem.S : Sig := { ps := [.lf (.i .u8), .lf (.i .u64), .lf (.i .u64)], rs := [.lf (.i .u64), .lf (.i .u8), .lf (.i .i64)], wb := [], R := Int × Int × Int, mkR := fun y0 y1 y2 => some (y0, y1, y2), un := fun r => [.int .u64 r.1, .int .u8 r.2.1, .int .i64 r.2.2] }
def conv_Rem.F (k : Nat) : Fun := { S := conv_Rem.S, f := conv_Rem.f k }
abbrev conv_Rem.vj1 : List (Nat × Kx) := [(0, .lf (.i .u8)), (1, .lf (.i .u64)), (2, .lf (.i .u64)), (9, .lf (.i .u8)), (10, .lf (.b)), (12, .lf (.i .u8)), (46, .lf (.b))]
abbrev conv_Rem.vj2 : List (Nat × Kx) := [(0, .lf (.i .u8)), (1, .lf (.i .u64)), (2, .lf (.i .u64)), (9, .lf (.i .u8)), (10, .lf (.b)), (12, .lf (.i .u8)), (59, .lf (.b))]
abbrev conv_Rem.vj3 : List (Nat × Kx) := [(0, .lf (.i .u8)), (1, .lf (.i .u64)), (2, .lf (.i .u64)), (10, .lf (.b)), (72, .lf (.b))]
def conv_Rem.C (k : Nat) : Cfg := { T := TT, G := lookG [(42, [conv_open.F k]), (43, [word_None.F k]), (45, [word_Zero.F k]), (46, [word_Value.F k]), (54, [conv_left.F k]), (55, [word_Of.F k]), (56, [dyad_Sign.F k])], nt := 111, cuts := [⟨codeOf [true, true, true, true, false, false, true, true, true] 1, [true, true, true, true, false, false, true, true, true], conv_Rem.vj1⟩, ⟨codeOf [true, true, true, true, false, false, true, true, true, true, true] 1, [true, true, true, true, false, false, true, true, true, true, true], conv_Rem.vj2⟩, ⟨codeOf [true, true, true, true, false, false, true, true, true, true, true, true, true] 1, [true, true, true, true, false, false, true, true, true, true, true, true, true], conv_Rem.vj3⟩], M0 := tabM }
def conv_Rem.H (k : Nat) : List (CutF conv_Rem.S.R) := [⟨conv_Rem.vj1, conv_Rem.j1 k⟩, ⟨conv_Rem.vj2, conv_Rem.j2 k⟩, ⟨conv_Rem.vj3, conv_Rem.j3 k⟩]
def cutplanelaw06_known.f (k : Nat) : Option (Bool) := (conv_To.f k 2 1 4 4607182419068452864).bind fun t581 => ((conv_Rem.f k 2 4617315517961601024 4613937818241073152).bind fun t582 => (if t581.1 = 1065353217 then (if t581.2.1 = 16 then (if t581.2.2 = 0 then (if t582.1 = 13830554455654793216 then (if t582.2.1 = 0 then (some (decide (t582.2.2 = 0))) else (some false)) else (some false)) else (some false)) else (some false)) else (some false)))
abbrev cutplanelaw06_known.S : Sig := { ps := [], rs := [.lf (.b)], wb := [], R := Bool, mkR := fun y0 => some y0, un := fun r => [.bool r] }
def cutplanelaw06_known.F (k : Nat) : Fun := { S := cutplanelaw06_known.S, f := cutplanelaw06_known.f k }
def cutplanelaw06_known.C (k : Nat) : Cfg := { T := TT, G := lookG [(9, [conv_To.F k]), (15, [conv_Rem.F k])], nt := 39, cuts := [], M0 := tabM }
def cutplanelaw06_known.H (k : Nat) : List (CutF cutplanelaw06_known.S.R) := []
def cutplaneref01_Trim.l0 : Nat → List Int → Int → Option (List Int)
  | 0, _, _ => none
  | k + 1, x0, x3 => if x3 > 0 then (if 0 ≤ wrap64 (x3 - 1) then (if wrap64 (x3 - 1) < (x0.length : Int) then (if (rd x0 (wrap64 (x3 - 1))) = 0 then (cutplaneref01_Trim.l0 k x0 (wrap64 (x3 - 1))) else (if 0 ≤ x3 then (if x3 ≤ (x0.length : Int) then (some (x0.take (x3 : Int).toNat)) else (none)) else (none))) else (none)) else (none)) else (if 0 ≤ x3 then (if x3 ≤ (x0.length : Int) then (some (x0.take (x3 : Int).toNat)) else (none)) else (none))
def cutplaneref01_Trim.f (k : Nat) (x0 : List Int) : Option (List Int) := cutplaneref01_Trim.l0 k x0 (x0.length : Int)
abbrev cutplaneref01_Trim.S : Sig := { ps := [.ow .u32], rs := [.ow .u32], wb := [], R := List Int, mkR := fun y0 => some y0, un := fun r => [.ints .u32 r] }
def cutplaneref01_Trim.F (k : Nat) : Fun := { S := cutplaneref01_Trim.S, f := cutplaneref01_Trim.f k }
abbrev cutplaneref01_Trim.vl0 : List (Nat × Kx) := [(0, .ow .u32), (3, .lf (.i .i64))]
def cutplaneref01_Trim.C (k : Nat) : Cfg := { T := TT, G := lookG [], nt := 21, cuts := [⟨codeOf [true, true, false, false] 1, [true, true, false, false], cutplaneref01_Trim.vl0⟩], M0 := tabM }
def cutplaneref01_Trim.H (k : Nat) : List (CutF cutplaneref01_Trim.S.R) := [⟨cutplaneref01_Trim.vl0, cutplaneref01_Trim.l0 k⟩]
abbrev cutplaneref01_Trim.S1 : Sig := { ps := [.lf (.is .u32)], rs := [.lf (.is .u32)], wb := [], R := List Int, mkR := fun y0 => some y0, un := fun r => [.ints .u32 r] }
def cutplaneref01_Trim.F1 (k : Nat) : Fun := { S := cutplaneref01_Trim.S1, f := cutplaneref01_Trim.f k }
abbrev cutplaneref01_Trim.vl01 : List (Nat × Kx) := [(0, .lf (.is .u32)), (3, .lf (.i .i64))]
def cutplaneref01_Trim.C1 (k : Nat) : Cfg := { T := TT, G := lookG [], nt := 21, cuts := [⟨codeOf [true, true, false, false] 1, [true, true, false, false], cutplaneref01_Trim.vl01⟩], M0 := tabM }
def cutplaneref01_Trim.H1 (k : Nat) : List (CutF cutplaneref01_Trim.S1.R) := [⟨cutplaneref01_Trim.vl01, cutplaneref01_Trim.l0 k⟩]
def cutplaneref01_Of.f (k : Nat) (x0 : Int) : Option (List Int) := (cutplaneref01_Trim.f k ([x0 % 4294967296, (x0 / 4294967296) % 4294967296] : List Int)).bind fun t586 => (some t586)
abbrev cutplaneref01_Of.S : Sig := { ps := [.lf (.i .u64)], rs := [.lf (.is .u32)], wb := [], R := List Int, mkR := fun y0 => some y0, un := fun r => [.ints .u32 r] }
def cutplaneref01_Of.F (k : Nat) : Fun := { S := cutplaneref01_Of.S, f := cutplaneref01_Of.f k }
def cutplaneref01_Of.C (k : Nat) : Cfg := { T := TT, G := lookG [(113, [cutplaneref01_Trim.F k, cutplaneref01_Trim.F1 k])], nt := 10, cuts := [], M0 := tabM }
def cutplaneref01_Of.H (k : Nat) : List (CutF cutplaneref01_Of.S.R) := []
def cutplaneref01_Bit.f (x0 : List Int) (x1 : Int) : Option (Int) := if x1 < 0 then (some 0) else (if (wrap64 (Int.tdiv x1 32)) ≥ (x0.length : Int) then (some 0) else (if 0 ≤ wrap64 (Int.tdiv x1 32) then (if wrap64 (Int.tdiv x1 32) < (x0.length : Int) then (if 0 ≤ (Int.tmod x1 32) then (some (Go.bits .and .u32 (shr .u32 (rd x0 (wrap64 (Int.tdiv x1 32))) (Int.tmod x1 32)) 1)) else (none)) else (none)) else (none)))
abbrev cutplaneref01_Bit.S : Sig := { ps := [.lf (.is .u32), .lf (.i .i64)], rs := [.lf (.i .u32)], wb := [], R := Int, mkR := fun y0 => some y0, un := fun r => [.int .u32 r] }
def cutplaneref01_Bit.F (k : Nat) : Fun := { S := cutplaneref01_Bit.S, f := cutplaneref01_Bit.f }
def cutplaneref01_Bit.C (k : Nat) : Cfg := { T := TT, G := lookG [], nt := 23, cuts := [], M0 := tabM }
def cutplaneref01_Bit.H (k : Nat) : List (CutF cutplaneref01_Bit.S.R) := []
def cutplaneref01_Low.l0 : Nat → List Int → Int → Option (Int)
  | 0, _, _ => none
  | k + 1, x0, x3 => if x3 < (wrap64 (32 * (x0.length : Int))) then ((cutplaneref01_Bit.f x0 x3).bind fun t592 => (if t592 = 0 then (if 0 ≤ wrap64 (Int.tdiv x3 32) then (if wrap64 (Int.tdiv x3 32) < (x0.length : Int) then (if (rd x0 (wrap64 (Int.tdiv x3 32))) = 0 then (cutplaneref01_Low.l0 k x0 (wrap64 (x3 + 32))) else (cutplaneref01_Low.l0 k x0 (wrap64 (x3 + 1)))) else (none)) else (none)) else (if x3 = (wrap64 (32 * (x0.length : Int))) then (some 0) else (some x3)))) else (if x3 = (wrap64 (32 * (x0.length : Int))) then (some 0) else (some x3))
def cutplaneref01_Low.f (k : Nat) (x0 : List Int) : Option (Int) := cutplaneref01_Low.l0 k x0 0
abbrev cutplaneref01_Low.S : Sig := { ps := [.lf (.is .u32)], rs := [.lf (.i .i64)], wb := [], R := Int, mkR := fun y0 => some y0, un := fun r => [.int .i64 r] }
def cutplaneref01_Low.F (k : Nat) : Fun := { S := cutplaneref01_Low.S, f := cutplaneref01_Low.f k }
abbrev cutplaneref01_Low.vl0 : List (Nat × Kx) := [(0, .lf (.is .u32)), (3, .lf (.i .i64))]
def cutplaneref01_Low.C (k : Nat) : Cfg := { T := TT, G := lookG [(141, [cutplaneref01_Bit.F k])], nt := 31, cuts := [⟨codeOf [true, true, false, false] 1, [true, true, false, false], cutplaneref01_Low.vl0⟩], M0 := tabM }
def cutplaneref01_Low.H (k : Nat) : List (CutF cutplaneref01_Low.S.R) := [⟨cutplaneref01_Low.vl0, cutplaneref01_Low.l0 k⟩]
def cutplaneref01_Len.l0 : Nat → Int → Int → Option (Int)
  | 0, _, _ => none
  | k + 1, x3, x4 => if x4 > 0 then (cutplaneref01_Len.l0 k (wrap64 (x3 + 1)) (x4 / 2)) else (some x3)
def cutplaneref01_Len.f (k : Nat) (x0 : List Int) : Option (Int) := if (x0.length : Int) = 0 then (some 0) else (if 0 ≤ wrap64 ((x0.length : Int) - 1) then (if wrap64 ((x0.length : Int) - 1) < (x0.length : Int) then (cutplaneref01_Len.l0 k (wrap64 (32 * (wrap64 ((x0.length : Int) - 1)))) (rd x0 (wrap64 ((x0.length : Int) - 1)))) else (none)) else (none))
abbrev cutplaneref01_Len.S : Sig := { ps := [.lf (.is .u32)], rs := [.lf (.i .i64)], wb := [], R := Int, mkR := fun y0 => some y0, un := fun r => [.int .i64 r] }
def cutplaneref01_Len.F (k : Nat) : Fun := { S := cutplaneref01_Len.S, f := cutplaneref01_Len.f k }
abbrev cutplaneref01_Len.vl0 : List (Nat × Kx) := [(3, .lf (.i .i64)), (4, .lf (.i .u32))]
def cutplaneref01_Len.C (k : Nat) : Cfg := { T := TT, G := lookG [], nt := 25, cuts := [⟨codeOf [true, true, true, false, true, false] 1, [true, true, true, false, true, false], cutplaneref01_Len.vl0⟩], M0 := tabM }
def cutplaneref01_Len.H (k : Nat) : List (CutF cutplaneref01_Len.S.R) := [⟨cutplaneref01_Len.vl0, cutplaneref01_Len.l0 k⟩]
def cutplaneref01_Down.l0 : Nat → List Int → Bool → List Int → Int → Int → Option (List Int × Bool)
  | 0, _, _, _, _, _ => none
  | k + 1, x0, x6, x7, x8, x9 => if x9 < (x0.length : Int) then (if 0 ≤ x9 then (if x9 < (x0.length : Int) then (if 0 ≤ x8 then (if (wrap64 (x9 + 1)) < (x0.length : Int) then (if 0 ≤ wrap64 (x9 + 1) then (if wrap64 (x9 + 1) < (x0.length : Int) then (if 0 ≤ (wrap64 (32 - x8)) then (if x7.length + ([(Go.bits .or .u64 (shr .u64 (IntKind.u64.wrap (rd x0 x9)) x8) (shl .u64 (IntKind.u64.wrap (rd x0 (wrap64 (x9 + 1)))) (wrap64 (32 - x8)))) % 4294967296] : List Int).length < 35184372088832 then (cutplaneref01_Down.l0 k x0 x6 (x7 ++ ([(Go.bits .or .u64 (shr .u64 (IntKind.u64.wrap (rd x0 x9)) x8) (shl .u64 (IntKind.u64.wrap (rd x0 (wrap64 (x9 + 1)))) (wrap64 (32 - x8)))) % 4294967296] : List Int)) x8 (wrap64 (x9 + 1))) else (none)) else (none)) else (none)) else (none)) else (if x7.length + ([(shr .u64 (IntKind.u64.wrap (rd x0 x9)) x8) % 4294967296] : List Int).length < 35184372088832 then (cutplaneref01_Down.l0 k x0 x6 (x7 ++ ([(shr .u64 (IntKind.u64.wrap (rd x0 x9)) x8) % 4294967296] : List Int)) x8 (wrap64 (x9 + 1))) else (none))) else (none)) else (none)) else (none)) else ((cutplaneref01_Trim.f k x7).bind fun t620 => (some (t620, x6)))
def cutplaneref01_Down.f (k : Nat) (x0 : List Int) (x1 : Int) : Option (List Int × Bool) := (cutplaneref01_Len.f k x0).bind fun t618 => (if x1 ≥ t618 then (some (([] : List Int), decide ((x0.length : Int) > 0))) else ((cutplaneref01_Low.f k x0).bind fun t619 => (cutplaneref01_Down.l0 k x0 (decide (x1 > t619)) ([] : List Int) (Int.tmod x1 32) (wrap64 (Int.tdiv x1 32)))))
abbrev cutplaneref01_Down.S : Sig := { ps := [.lf (.is .u32), .lf (.i .i64)], rs := [.lf (.is .u32), .lf (.b)], wb := [], R := List Int × Bool, mkR := fun y0 y1 => some (y0, y1), un := fun r => [.ints .u32 r.1, .bool r.2] }
def cutplaneref01_Down.F (k : Nat) : Fun := { S := cutplaneref01_Down.S, f := cutplaneref01_Down.f k }
abbrev cutplaneref01_Down.vl0 : List (Nat × Kx) := [(0, .lf (.is .u32)), (6, .lf (.b)), (7, .ow .u32), (8, .lf (.i .i64)), (9, .lf (.i .i64))]
def cutplaneref01_Down.C (k : Nat) : Cfg := { T := TT, G := lookG [(71, [cutplaneref01_Len.F k]), (111, [cutplaneref01_Low.F k]), (113, [cutplaneref01_Trim.F k, cutplaneref01_Trim.F1 k])], nt := 63, cuts := [⟨codeOf [true, true, true, true, true, false, true, false] 1, [true, true, true, true, true, false, true, false], cutplaneref01_Down.vl0⟩], M0 := tabM }
def cutplaneref01_Down.H (k : Nat) : List (CutF cutplaneref01_Down.S.R) := [⟨cutplaneref01_Down.vl0, cutplaneref01_Down.l0 k⟩]
def cutplaneref02_Form.f (k : Nat) (x0 : Bool) (x1 : List Int) (x2 : Int) : Option (Bool × List Int × Int) := if (x1.length : Int) = 0 then (some (false, ([] : List Int), 0)) else ((cutplaneref01_Low.f k x1).bind fun t622 => ((cutplaneref01_Down.f k x1 t622).bind fun t623 => (some (x0, t623.1, wrap64 (x2 + t622)))))
abbrev cutplaneref02_Form.S : Sig := { ps := [.lf (.b), .lf (.is .u32), .lf (.i .i64)], rs := [.ag [.b, .is .u32, .i .i64]], wb := [], R := Bool × List Int × Int, mkR := fun y0 y1 y2 => some (y0, y1, y2), un := fun r => [.bool r.1, .ints .u32 r.2.1, .int .i64 r.2.2] }
def cutplaneref02_Form.F (k : Nat) : Fun := { S := cutplaneref02_Form.S, f := cutplaneref02_Form.f k }
def cutplaneref02_Form.C (k : Nat) : Cfg := { T := TT, G := lookG [(111, [cutplaneref01_Low.F k]), (112, [cutplaneref01_Down.F k])], nt := 28, cuts := [], M0 := tabM }
def cutplaneref02_Form.H (k : Nat) : List (CutF cutplaneref02_Form.S.R) := []
def cutplaneref02_Int.j0 : Nat → Int → Bool → List Int → Int → Int → Option (Bool × List Int × Int)
  | 0, _, _, _, _, _ => none
  | k + 1, x0, x2_0, x2_1, x2_2, x3 => (cutplaneref01_Of.f k x3).bind fun t587 => ((cutplaneref02_Form.f k (decide (x0 < 0)) t587 0).bind fun t624 => (some (t624.1, t624.2.1, t624.2.2)))
def cutplaneref02_Int.f (k : Nat) (x0 : Int) : Option (Bool × List Int × Int) := if x0 < 0 then (cutplaneref02_Int.j0 k x0 false ([] : List Int) 0 (IntKind.u64.wrap (-(IntKind.u64.wrap x0)))) else (cutplaneref02_Int.j0 k x0 false ([] : List Int) 0 (IntKind.u64.wrap x0))
abbrev cutplaneref02_Int.S : Sig := { ps := [.lf (.i .i64)], rs := [.ag [.b, .is .u32, .i .i64]], wb := [], R := Bool × List Int × Int, mkR := fun y0 y1 y2 => some (y0, y1, y2), un := fun r => [.bool r.1, .ints .u32 r.2.1, .int .i64 r.2.2] }
def cutplaneref02_Int.F (k : Nat) : Fun := { S := cutplaneref02_Int.S, f := cutplaneref02_Int.f k }
abbrev cutplaneref02_Int.vj0 : List (Nat × Kx) := [(0, .lf (.i .i64)), (2, .bx [.b, .is .u32, .i .i64]), (3, .lf (.i .u64))]
def cutplaneref02_Int.C (k : Nat) : Cfg := { T := TT, G := lookG [(65, [cutplaneref02_Form.F k]), (66, [cutplaneref01_Of.F k])], nt := 15, cuts := [⟨codeOf [true, true, true] 1, [true, true, true], cutplaneref02_Int.vj0⟩], M0 := tabM }
def cutplaneref02_Int.H (k : Nat) : List (CutF cutplaneref02_Int.S.R) := [⟨cutplaneref02_Int.vj0, cutplaneref02_Int.j0 k⟩]
def dyad_Int.j0 : Nat → Int → Bool → List Int → Int → Int → Option (Bool × List Int × Int)
  | 0, _, _, _, _, _ => none
  | k + 1, x0, x2_0, x2_1, x2_2, x3 => (nat_Of.f k x3).bind fun t626 => ((dyad_Make.f k (decide (x0 < 0)) t626 0).bind fun t627 => (some (t627.1, t627.2.1, t627.2.2.1)))
def dyad_Int.f (k : Nat) (x0 : Int) : Option (Bool × List Int × Int) := if x0 < 0 then (dyad_Int.j0 k x0 false ([] : List Int) 0 (IntKind.u64.wrap (-(IntKind.u64.wrap x0)))) else (dyad_Int.j0 k x0 false ([] : List Int) 0 (IntKind.u64.wrap x0))
abbrev dyad_Int.S : Sig := { ps := [.lf (.i .i64)], rs := [.ag [.b, .is .u32, .i .i64]], wb := [], R := Bool × List Int × Int, mkR := fun y0 y1 y2 => some (y0, y1, y2), un := fun r => [.bool r.1, .ints .u32 r.2.1, .int .i64 r.2.2] }
def dyad_Int.F (k : Nat) : Fun := { S := dyad_Int.S, f := dyad_Int.f k }
abbrev dyad_Int.vj0 : List (Nat × Kx) := [(0, .lf (.i .i64)), (2, .bx [.b, .is .u32, .i .i64]), (3, .lf (.i .u64))]
def dyad_Int.C (k : Nat) : Cfg := { T := TT, G := lookG [(87, [dyad_Make.F k]), (88, [nat_Of.F k])], nt := 21, cuts := [⟨codeOf [true, true, true] 1, [true, true, true], dyad_Int.vj0⟩], M0 := tabM }
def dyad_Int.H (k : Nat) : List (CutF dyad_Int.S.R) := [⟨dyad_Int.vj0, dyad_Int.j0 k⟩]
def conv_FromInt.f (k : Nat) (x0 : Int) (x1 : Int) (x2 : Int) : Option (Int × Int × Int) := (dyad_Int.f k x2).bind fun t628 => ((round_Round.f k x0 x1 t628.1 t628.2.1 t628.2.2).bind fun t629 => (some (t629.1, t629.2.1, t629.2.2)))
abbrev conv_FromInt.S : Sig := { ps := [.lf (.i .u8), .lf (.i .u8), .lf (.i .i64)], rs := [.lf (.i .u64), .lf (.i .u8), .lf (.i .i64)], wb := [], R := Int × Int × Int, mkR := fun y0 y1 y2 => some (y0, y1, y2), un := fun r => [.int .u64 r.1, .int .u8 r.2.1, .int .i64 r.2.2] }
def conv_FromInt.F (k : Nat) : Fun := { S := conv_FromInt.S, f := conv_FromInt.f k }
def conv_FromInt.C (k : Nat) : Cfg := { T := TT, G := lookG [(47, [round_Round.F k]), (67, [dyad_Int.F k])], nt := 17, cuts := [], M0 := tabM }
def conv_FromInt.H (k : Nat) : List (CutF conv_FromInt.S.R) := []
def dyad_own.f (x0_0 : Bool) (x0_1 : List Int) (x0_2 : Int) : Option (Bool × List Int × Int) := if x0_1.length < 35184372088832 then (some (x0_0, x0_1, x0_2)) else (none)
abbrev dyad_own.S : Sig := { ps := [.ag [.b, .is .u32, .i .i64]], rs := [.ag [.b, .is .u32, .i .i64]], wb := [], R := Bool × List Int × Int, mkR := fun y0 y1 y2 => some (y0, y1, y2), un := fun r => [.bool r.1, .ints .u32 r.2.1, .int .i64 r.2.2] }
def dyad_own.F (k : Nat) : Fun := { S := dyad_own.S, f := dyad_own.f }
def dyad_own.C (k : Nat) : Cfg := { T := TT, G := lookG [], nt := 8, cuts := [], M0 := tabM }
def dyad_own.H (k : Nat) : List (CutF dyad_own.S.R) := []
def nat_bound.f (x0 : List Int) : Option (List Int × Int) := if (x0.length : Int) > 4096 then (some (([] : List Int), 3)) else (some (x0, 0))
abbrev nat_bound.S : Sig := { ps := [.ow .u32], rs := [.ow .u32, .lf (.i .i64)], wb := [], R := List Int × Int, mkR := fun y0 y1 => some (y0, y1), un := fun r => [.ints .u32 r.1, .int .i64 r.2] }
def nat_bound.F (k : Nat) : Fun := { S := nat_bound.S, f := nat_bound.f }
def nat_bound.C (k : Nat) : Cfg := { T := TT, G := lookG [], nt := 8, cuts := [], M0 := tabM }
def nat_bound.H (k : Nat) : List (CutF nat_bound.S.R) := []
abbrev nat_bound.S1 : Sig := { ps := [.lf (.is .u32)], rs := [.lf (.is .u32), .lf (.i .i64)], wb := [], R := List Int × Int, mkR := fun y0 y1 => some (y0, y1), un := fun r => [.ints .u32 r.1, .int .i64 r.2] }
def nat_bound.F1 (k : Nat) : Fun := { S := nat_bound.S1, f := nat_bound.f }
def nat_bound.C1 (k : Nat) : Cfg := { T := TT, G := lookG [], nt := 8, cuts := [], M0 := tabM }
def nat_bound.H1 (k : Nat) : List (CutF nat_bound.S1.R) := []
mutual
def nat_Add.l0 : Nat → List Int → List Int → List Int → Int → Int → Int → Option (List Int × Int)
  | 0, _, _, _, _, _, _ => none
  | k + 1, x0, x1, x6, x7, x27, x28 => if x28 < x27 then (if x28 < (x1.length : Int) then (if 0 ≤ x28 then (if x28 < (x1.length : Int) then (nat_Add.j3 k x0 x1 x6 x7 x28 (rd x1 x28) x27 x28) else (none)) else (none)) else (nat_Add.j3 k x0 x1 x6 x7 x28 0 x27 x28)) else (if 0 ≤ (x0.length : Int) then (if (x0.length : Int) < (x6.length : Int) then ((nat_trim.f k (x6.set ((x0.length : Int) : Int).toNat x7)).bind fun t657 => ((nat_bound.f t657).bind fun t658 => (some (t658.1, t658.2)))) else (none)) else (none))
def nat_Add.j1 : Nat → List Int → List Int → Option (List Int × Int)
  | 0, _, _ => none
  | k + 1, x0, x1 => if 0 ≤ (wrap64 ((x0.length : Int) + 1)) then (if (wrap64 ((x0.length : Int) + 1) : Int).toNat ≤ 70368744177664 then (nat_Add.l0 k x0 x1 (List.replicate (wrap64 ((x0.length : Int) + 1) : Int).toNat (0 : Int)) 0 (x0.length : Int) 0) else (none)) else (none)
def nat_Add.j3 : Nat → List Int → List Int → List Int → Int → Int → Int → Int → Int → Option (List Int × Int)
  | 0, _, _, _, _, _, _, _, _ => none
  | k + 1, x0, x1, x6, x7, x8, x9, x27, x28 => if 0 ≤ x8 then (if x8 < (x0.length : Int) then ((bits_Add32.f (rd x0 x8) x9 x7).bind fun t656 => (if 0 ≤ x8 then (if x8 < (x6.length : Int) then (nat_Add.l0 k x0 x1 (x6.set (x8 : Int).toNat t656.1) t656.2 x27 (wrap64 (x28 + 1))) else (none)) else (none))) else (none)) else (none)
end
def nat_Add.f (k : Nat) (x0 : List Int) (x1 : List Int) : Option (List Int × Int) := (nat_all.f k [x0, x1]).bind fun t655 => (if (!t655) = true then (some (([] : List Int), 2)) else (if (x0.length : Int) < (x1.length : Int) then (nat_Add.j1 k x1 x0) else (nat_Add.j1 k x0 x1)))
abbrev nat_Add.S : Sig := { ps := [.lf (.is .u32), .lf (.is .u32)], rs := [.lf (.is .u32), .lf (.i .i64)], wb := [], R := List Int × Int, mkR := fun y0 y1 => some (y0, y1), un := fun r => [.ints .u32 r.1, .int .i64 r.2] }
def nat_Add.F (k : Nat) : Fun := { S := nat_Add.S, f := nat_Add.f k }
abbrev nat_Add.vl0 : List (Nat × Kx) := [(0, .lf (.is .u32)), (1, .lf (.is .u32)), (6, .ow .u32), (7, .lf (.i .u32)), (27, .lf (.i .i64)), (28, .lf (.i .i64))]
abbrev nat_Add.vj1 : List (Nat × Kx) := [(0, .lf (.is .u32)), (1, .lf (.is .u32))]
abbrev nat_Add.vj3 : List (Nat × Kx) := [(0, .lf (.is .u32)), (1, .lf (.is .u32)), (6, .ow .u32), (7, .lf (.i .u32)), (8, .lf (.i .i64)), (9, .lf (.i .u32)), (27, .lf (.i .i64)), (28, .lf (.i .i64))]
def nat_Add.C (k : Nat) : Cfg := { T := TT, G := lookG [(124, [nat_trim.F k, nat_trim.F1 k]), (131, [nat_all.F k]), (156, [bits_Add32.F k]), (157, [nat_bound.F k, nat_bound.F1 k])], nt := 63, cuts := [⟨codeOf [true, true, true, true, true, false, true, false] 1, [true, true, true, true, true, false, true, false], nat_Add.vl0⟩, ⟨codeOf [true, true, true] 1, [true, true, true], nat_Add.vj1⟩, ⟨codeOf [true, true, true, true, true, false, true, false, false, true, true, false, false, true, true, true] 1, [true, true, true, true, true, false, true, false, false, true, true, false, false, true, true, true], nat_Add.vj3⟩], M0 := tabM }
def nat_Add.H (k : Nat) : List (CutF nat_Add.S.R) := [⟨nat_Add.vl0, nat_Add.l0 k⟩, ⟨nat_Add.vj1, nat_Add.j1 k⟩, ⟨nat_Add.vj3, nat_Add.j3 k⟩]
mutual
def dyad_Floor.j2 : Nat → Bool → List Int → Int → Bool → List Int → Int → List Int → Bool → Option (Bool × List Int × Int × Int)
  | 0, _, _, _, _, _, _, _, _ => none
  | k + 1, x1_0, x1_1, x1_2, x2_0, x2_1, x2_2, x4, x29 => if x29 = true then ((nat_Of.f k 1).bind fun t678 => ((nat_Add.f k x4 t678).bind fun t679 => (dyad_Floor.j3 k x1_0 x1_1 x1_2 x2_0 x2_1 x2_2 t679.1))) else (dyad_Floor.j3 k x1_0 x1_1 x1_2 x2_0 x2_1 x2_2 x4)
def dyad_Floor.j3 : Nat → Bool → List Int → Int → Bool → List Int → Int → List Int → Option (Bool × List Int × Int × Int)
  | 0, _, _, _, _, _, _, _ => none
  | k + 1, x1_0, x1_1, x1_2, x2_0, x2_1, x2_2, x4 => (dyad_Make.f k x1_0 x4 0).bind fun t677 => (some (t677.1, t677.2.1, t677.2.2.1, t677.2.2.2))
end
def dyad_Floor.f (k : Nat) (x0_0 : Bool) (x0_1 : List Int) (x0_2 : Int) : Option (Bool × List Int × Int × Int) := (dyad_May.f x0_0 x0_1 x0_2).bind fun t674 => (if (!t674) = true then (some (false, ([] : List Int), 0, 2)) else (if x0_2 ≥ 0 then ((dyad_own.f x0_0 x0_1 x0_2).bind fun t675 => (some (t675.1, t675.2.1, t675.2.2, 0))) else ((nat_Shift.f k x0_1 x0_2).bind fun t676 => (if x0_0 = true then (dyad_Floor.j2 k x0_0 x0_1 x0_2 false ([] : List Int) 0 t676.1 t676.2.1) else (dyad_Floor.j2 k x0_0 x0_1 x0_2 false ([] : List Int) 0 t676.1 false)))))
abbrev dyad_Floor.S : Sig := { ps := [.ag [.b, .is .u32, .i .i64]], rs := [.ag [.b, .is .u32, .i .i64], .lf (.i .i64)], wb := [], R := Bool × List Int × Int × Int, mkR := fun y0 y1 y2 y3 => some (y0, y1, y2, y3), un := fun r => [.bool r.1, .ints .u32 r.2.1, .int .i64 r.2.2.1, .int .i64 r.2.2.2] }
def dyad_Floor.F (k : Nat) : Fun := { S := dyad_Floor.S, f := dyad_Floor.f k }
abbrev dyad_Floor.vj2 : List (Nat × Kx) := [(1, .bx [.b, .is .u32, .i .i64]), (2, .bx [.b, .is .u32, .i .i64]), (4, .lf (.is .u32)), (29, .lf (.b))]
abbrev dyad_Floor.vj3 : List (Nat × Kx) := [(1, .bx [.b, .is .u32, .i .i64]), (2, .bx [.b, .is .u32, .i .i64]), (4, .lf (.is .u32))]
def dyad_Floor.C (k : Nat) : Cfg := { T := TT, G := lookG [(87, [dyad_Make.F k]), (88, [nat_Of.F k]), (97, [nat_Shift.F k]), (102, [dyad_May.F k]), (108, [dyad_own.F k]), (142, [nat_Add.F k])], nt := 42, cuts := [⟨codeOf [true, true, true, true, false, true] 1, [true, true, true, true, false, true], dyad_Floor.vj2⟩, ⟨codeOf [true, true, true, true, true] 1, [true, true, true, true, true], dyad_Floor.vj3⟩], M0 := tabM }
def dyad_Floor.H (k : Nat) : List (CutF dyad_Floor.S.R) := [⟨dyad_Floor.vj2, dyad_Floor.j2 k⟩, ⟨dyad_Floor.vj3, dyad_Floor.j3 k⟩]
def dyad_both.l0 : Nat → List (Bool × List Int × Int) → Int → Int → Option (Bool)
  | 0, _, _, _ => none
  | k + 1, x5, x6, x7 => if x7 < x6 then (if 0 ≤ x7 then (if x7 < (x5.length : Int) then ((dyad_May.f ((rdT [.b, .is .u32, .i .i64] x5 x7).1) ((rdT [.b, .is .u32, .i .i64] x5 x7).2.1) ((rdT [.b, .is .u32, .i .i64] x5 x7).2.2)).bind fun t683 => (if (!t683) = true then (some false) else (dyad_both.l0 k x5 x6 (wrap64 (x7 + 1))))) else (none)) else (none)) else (some true)
def dyad_both.f (k : Nat) (x0 : List (Bool × List Int × Int)) : Option (Bool) := dyad_both.l0 k x0 (x0.length : Int) 0
abbrev dyad_both.S : Sig := { ps := [.lf (.rw [.b, .is .u32, .i .i64])], rs := [.lf (.b)], wb := [], R := Bool, mkR := fun y0 => some y0, un := fun r => [.bool r] }
def dyad_both.F (k : Nat) : Fun := { S := dyad_both.S, f := dyad_both.f k }
abbrev dyad_both.vl0 : List (Nat × Kx) := [(5, .lf (.rw [.b, .is .u32, .i .i64])), (6, .lf (.i .i64)), (7, .lf (.i .i64))]
def dyad_both.C (k : Nat) : Cfg := { T := TT, G := lookG [(102, [dyad_May.F k])], nt := 15, cuts := [⟨codeOf [true, false, true, false] 1, [true, false, true, false], dyad_both.vl0⟩], M0 := tabM }
def dyad_both.H (k : Nat) : List (CutF dyad_both.S.R) := [⟨dyad_both.vl0, dyad_both.l0 k⟩]
def dyad_Top.f (k : Nat) (x0_0 : Bool) (x0_1 : List Int) (x0_2 : Int) : Option (Int) := (dyad_May.f x0_0 x0_1 x0_2).bind fun t696 => (if (!t696) = true then (some 0) else (if (x0_1.length : Int) = 0 then (some 0) else ((nat_Len.f k x0_1).bind fun t697 => (some (wrap64 (x0_2 + t697))))))
abbrev dyad_Top.S : Sig := { ps := [.ag [.b, .is .u32, .i .i64]], rs := [.lf (.i .i64)], wb := [], R := Int, mkR := fun y0 => some y0, un := fun r => [.int .i64 r] }
def dyad_Top.F (k : Nat) : Fun := { S := dyad_Top.S, f := dyad_Top.f k }
def dyad_Top.C (k : Nat) : Cfg := { T := TT, G := lookG [(102, [dyad_May.F k]), (110, [nat_Len.F k])], nt := 18, cuts := [], M0 := tabM }
def dyad_Top.H (k : Nat) : List (CutF dyad_Top.S.R) := []
def dyad_sizes.j1 : Nat → List Int → List Int → Option (Int)
  | 0, _, _ => none
  | k + 1, x5, x6 => (nat_Cmp.f k x5 x6).bind fun t733 => (some t733.1)
def dyad_sizes.f (k : Nat) (x0_0 : Bool) (x0_1 : List Int) (x0_2 : Int) (x1_0 : Bool) (x1_1 : List Int) (x1_2 : Int) : Option (Int) := (dyad_Top.f k x0_0 x0_1 x0_2).bind fun t725 => ((dyad_Top.f k x1_0 x1_1 x1_2).bind fun t726 => (if t725 < t726 then (some (-1)) else ((dyad_Top.f k x0_0 x0_1 x0_2).bind fun t727 => ((dyad_Top.f k x1_0 x1_1 x1_2).bind fun t728 => (if t727 > t728 then (some 1) else ((nat_Len.f k x0_1).bind fun t729 => ((nat_Len.f k x1_1).bind fun t730 => (if (wrap64 (t729 - t730)) > 0 then ((nat_Shift.f k x1_1 (wrap64 (t729 - t730))).bind fun t731 => (dyad_sizes.j1 k x0_1 t731.1)) else ((nat_Shift.f k x0_1 (wrap64 (-(wrap64 (t729 - t730))))).bind fun t732 => (dyad_sizes.j1 k t732.1 x1_1))))))))))
abbrev dyad_sizes.S : Sig := { ps := [.ag [.b, .is .u32, .i .i64], .ag [.b, .is .u32, .i .i64]], rs := [.lf (.i .i64)], wb := [], R := Int, mkR := fun y0 => some y0, un := fun r => [.int .i64 r] }
def dyad_sizes.F (k : Nat) : Fun := { S := dyad_sizes.S, f := dyad_sizes.f k }
abbrev dyad_sizes.vj1 : List (Nat × Kx) := [(5, .lf (.is .u32)), (6, .lf (.is .u32))]
def dyad_sizes.C (k : Nat) : Cfg := { T := TT, G := lookG [(62, [dyad_Top.F k]), (97, [nat_Shift.F k]), (99, [nat_Cmp.F k]), (110, [nat_Len.F k])], nt := 55, cuts := [⟨codeOf [true, true, true, true] 1, [true, true, true, true], dyad_sizes.vj1⟩], M0 := tabM }
def dyad_sizes.H (k : Nat) : List (CutF dyad_sizes.S.R) := [⟨dyad_sizes.vj1, dyad_sizes.j1 k⟩]
def dyad_Cmp.f (k : Nat) (x0_0 : Bool) (x0_1 : List Int) (x0_2 : Int) (x1_0 : Bool) (x1_1 : List Int) (x1_2 : Int) : Option (Int × Int) := (dyad_both.f k [(x0_0, x0_1, x0_2), (x1_0, x1_1, x1_2)]).bind fun t737 => (if (!t737) = true then (some (0, 2)) else ((dyad_Sign.f k x0_0 x0_1 x0_2).bind fun t738 => ((dyad_Sign.f k x1_0 x1_1 x1_2).bind fun t739 => (if t738 < t739 then (some ((-1), 0)) else (if t738 > t739 then (some (1, 0)) else ((dyad_sizes.f k x0_0 x0_1 x0_2 x1_0 x1_1 x1_2).bind fun t740 => (some (wrap64 (t738 * t740), 0))))))))
abbrev dyad_Cmp.S : Sig := { ps := [.ag [.b, .is .u32, .i .i64], .ag [.b, .is .u32, .i .i64]], rs := [.lf (.i .i64), .lf (.i .i64)], wb := [], R := Int × Int, mkR := fun y0 y1 => some (y0, y1), un := fun r => [.int .i64 r.1, .int .i64 r.2] }
def dyad_Cmp.F (k : Nat) : Fun := { S := dyad_Cmp.S, f := dyad_Cmp.f k }
def dyad_Cmp.C (k : Nat) : Cfg := { T := TT, G := lookG [(56, [dyad_Sign.F k]), (143, [dyad_both.F k]), (144, [dyad_sizes.F k])], nt := 30, cuts := [], M0 := tabM }
def dyad_Cmp.H (k : Nat) : List (CutF dyad_Cmp.S.R) := []
def dyad_edge.f (k : Nat) (x0_0 : Bool) (x0_1 : List Int) (x0_2 : Int) (x1_0 : Bool) (x1_1 : List Int) (x1_2 : Int) (x2 : Int) : Option (Bool × List Int × Int × Int) := if (x0_0) = (x1_0) then (some (false, ([] : List Int), 0, 3)) else ((nat_Shift.f k x0_1 (wrap64 (x2 - 1))).bind fun t783 => ((nat_Shift.f k x1_1 (-1)).bind fun t784 => ((nat_Sub.f k t783.1 t784.1).bind fun t785 => (if ¬ (t785.2 = 0) then (some (false, ([] : List Int), 0, 3)) else ((nat_Add.f k t785.1 t785.1).bind fun t786 => (if t786.2 = 0 then ((nat_Of.f k 1).bind fun t787 => ((nat_Sub.f k t786.1 t787).bind fun t788 => ((dyad_Make.f k x0_0 t788.1 x1_2).bind fun t789 => (some (t789.1, t789.2.1, t789.2.2.1, t789.2.2.2))))) else ((nat_Len.f k t785.1).bind fun t790 => ((nat_Low.f k t785.1).bind fun t791 => (if t790 = (wrap64 (t791 + 1)) then ((nat_Of.f k 1).bind fun t792 => ((nat_Sub.f k t785.1 t792).bind fun t793 => ((nat_Add.f k t793.1 t785.1).bind fun t794 => ((dyad_Make.f k x0_0 t794.1 x1_2).bind fun t795 => (some (t795.1, t795.2.1, t795.2.2.1, t795.2.2.2)))))) else (some (false, ([] : List Int), 0, 3)))))))))))
abbrev dyad_edge.S : Sig := { ps := [.ag [.b, .is .u32, .i .i64], .ag [.b, .is .u32, .i .i64], .lf (.i .i64)], rs := [.ag [.b, .is .u32, .i .i64], .lf (.i .i64)], wb := [], R := Bool × List Int × Int × Int, mkR := fun y0 y1 y2 y3 => some (y0, y1, y2, y3), un := fun r => [.bool r.1, .ints .u32 r.2.1, .int .i64 r.2.2.1, .int .i64 r.2.2.2] }
def dyad_edge.F (k : Nat) : Fun := { S := dyad_edge.S, f := dyad_edge.f k }
def dyad_edge.C (k : Nat) : Cfg := { T := TT, G := lookG [(87, [dyad_Make.F k]), (88, [nat_Of.F k]), (97, [nat_Shift.F k]), (100, [nat_Sub.F k]), (110, [nat_Len.F k]), (123, [nat_Low.F k]), (142, [nat_Add.F k])], nt := 97, cuts := [], M0 := tabM }
def dyad_edge.H (k : Nat) : List (CutF dyad_edge.S.R) := []
def dyad_halved.j1 : Nat → Bool → Int → Bool → List Int → Int → List Int → Option (Bool × List Int × Int × Int)
  | 0, _, _, _, _, _, _ => none
  | k + 1, x0, x3, x8_0, x8_1, x8_2, x16 => (dyad_Make.f k x0 x16 (wrap64 (x3 + 1))).bind fun t822 => (some (t822.1, t822.2.1, t822.2.2.1, t822.2.2.2))
def dyad_halved.f (k : Nat) (x0 : Bool) (x1 : List Int) (x2 : List Int) (x3 : Int) : Option (Bool × List Int × Int × Int) := if 0 < (x1.length : Int) then (if 0 < (x2.length : Int) then (if ¬ (Go.bits .and .u32 (rd x1 0) 1 = Go.bits .and .u32 (rd x2 0) 1) then (some (false, ([] : List Int), 0, 3)) else ((nat_Shift.f k x1 (-1)).bind fun t817 => ((nat_Shift.f k x2 (-1)).bind fun t818 => ((nat_Add.f k t817.1 t818.1).bind fun t819 => (if 0 < (x1.length : Int) then (if (Go.bits .and .u32 (rd x1 0) 1) = 1 then ((nat_Of.f k 1).bind fun t820 => ((nat_Add.f k t819.1 t820).bind fun t821 => (dyad_halved.j1 k x0 x3 false ([] : List Int) 0 t821.1))) else (dyad_halved.j1 k x0 x3 false ([] : List Int) 0 t819.1)) else (none)))))) else (none)) else (none)
abbrev dyad_halved.S : Sig := { ps := [.lf (.b), .lf (.is .u32), .lf (.is .u32), .lf (.i .i64)], rs := [.ag [.b, .is .u32, .i .i64], .lf (.i .i64)], wb := [], R := Bool × List Int × Int × Int, mkR := fun y0 y1 y2 y3 => some (y0, y1, y2, y3), un := fun r => [.bool r.1, .ints .u32 r.2.1, .int .i64 r.2.2.1, .int .i64 r.2.2.2] }
def dyad_halved.F (k : Nat) : Fun := { S := dyad_halved.S, f := dyad_halved.f k }
abbrev dyad_halved.vj1 : List (Nat × Kx) := [(0, .lf (.b)), (3, .lf (.i .i64)), (8, .bx [.b, .is .u32, .i .i64]), (16, .lf (.is .u32))]
def dyad_halved.C (k : Nat) : Cfg := { T := TT, G := lookG [(87, [dyad_Make.F k]), (88, [nat_Of.F k]), (97, [nat_Shift.F k]), (142, [nat_Add.F k])], nt := 64, cuts := [⟨codeOf [true, true, true, true, true, true] 1, [true, true, true, true, true, true], dyad_halved.vj1⟩], M0 := tabM }
def dyad_halved.H (k : Nat) : List (CutF dyad_halved.S.R) := [⟨dyad_halved.vj1, dyad_halved.j1 k⟩]
def dyad_join.j2 : Nat → Bool → List Int → List Int → Int → Bool → List Int → Int → Option (Bool × List Int × Int × Int)
  | 0, _, _, _, _, _, _, _ => none
  | k + 1, x0, x1, x3, x4, x10_0, x10_1, x10_2 => (nat_Sub.f k x1 x3).bind fun t843 => ((dyad_Make.f k x0 t843.1 x4).bind fun t844 => (some (t844.1, t844.2.1, t844.2.2.1, t844.2.2.2)))
def dyad_join.f (k : Nat) (x0 : Bool) (x1 : List Int) (x2 : Bool) (x3 : List Int) (x4 : Int) : Option (Bool × List Int × Int × Int) := if (x0) = (x2) then ((nat_Add.f k x1 x3).bind fun t839 => (if ¬ (t839.2 = 0) then ((dyad_halved.f k x0 x1 x3 x4).bind fun t840 => (some (t840.1, t840.2.1, t840.2.2.1, t840.2.2.2))) else ((dyad_Make.f k x0 t839.1 x4).bind fun t841 => (some (t841.1, t841.2.1, t841.2.2.1, t841.2.2.2))))) else ((nat_Cmp.f k x1 x3).bind fun t842 => (if t842.1 < 0 then (dyad_join.j2 k x2 x3 x1 x4 false ([] : List Int) 0) else (dyad_join.j2 k x0 x1 x3 x4 false ([] : List Int) 0)))
abbrev dyad_join.S : Sig := { ps := [.lf (.b), .lf (.is .u32), .lf (.b), .lf (.is .u32), .lf (.i .i64)], rs := [.ag [.b, .is .u32, .i .i64], .lf (.i .i64)], wb := [], R := Bool × List Int × Int × Int, mkR := fun y0 y1 y2 y3 => some (y0, y1, y2, y3), un := fun r => [.bool r.1, .ints .u32 r.2.1, .int .i64 r.2.2.1, .int .i64 r.2.2.2] }
def dyad_join.F (k : Nat) : Fun := { S := dyad_join.S, f := dyad_join.f k }
abbrev dyad_join.vj2 : List (Nat × Kx) := [(0, .lf (.b)), (1, .lf (.is .u32)), (3, .lf (.is .u32)), (4, .lf (.i .i64)), (10, .bx [.b, .is .u32, .i .i64])]
def dyad_join.C (k : Nat) : Cfg := { T := TT, G := lookG [(87, [dyad_Make.F k]), (99, [nat_Cmp.F k]), (100, [nat_Sub.F k]), (142, [nat_Add.F k]), (160, [dyad_halved.F k])], nt := 65, cuts := [⟨codeOf [true, true, true] 1, [true, true, true], dyad_join.vj2⟩], M0 := tabM }
def dyad_join.H (k : Nat) : List (CutF dyad_join.S.R) := [⟨dyad_join.vj2, dyad_join.j2 k⟩]
def dyad_add.j1 : Nat → Bool → List Int → Int → Bool → List Int → Int → Bool → List Int → Int → Option (Bool × List Int × Int × Int)
  | 0, _, _, _, _, _, _, _, _, _ => none
  | k + 1, x2_0, x2_1, x2_2, x3_0, x3_1, x3_2, x4_0, x4_1, x4_2 => (nat_Len.f k x2_1).bind fun t853 => (if (wrap64 ((wrap64 (x2_2 - x3_2)) + t853)) > 131073 then (some (false, ([] : List Int), 0, 3)) else ((nat_Len.f k x2_1).bind fun t854 => (if (wrap64 ((wrap64 (x2_2 - x3_2)) + t854)) > 131072 then ((dyad_edge.f k x2_0 x2_1 x2_2 x3_0 x3_1 x3_2 (wrap64 (x2_2 - x3_2))).bind fun t855 => (some (t855.1, t855.2.1, t855.2.2.1, t855.2.2.2))) else ((nat_Shift.f k x2_1 (wrap64 (x2_2 - x3_2))).bind fun t856 => ((dyad_join.f k x2_0 t856.1 x3_0 x3_1 x3_2).bind fun t857 => (some (t857.1, t857.2.1, t857.2.2.1, t857.2.2.2)))))))
def dyad_add.f (k : Nat) (x0_0 : Bool) (x0_1 : List Int) (x0_2 : Int) (x1_0 : Bool) (x1_1 : List Int) (x1_2 : Int) : Option (Bool × List Int × Int × Int) := if (x0_1.length : Int) = 0 then ((dyad_own.f x1_0 x1_1 x1_2).bind fun t851 => (some (t851.1, t851.2.1, t851.2.2, 0))) else (if (x1_1.length : Int) = 0 then ((dyad_own.f x0_0 x0_1 x0_2).bind fun t852 => (some (t852.1, t852.2.1, t852.2.2, 0))) else (if x0_2 < x1_2 then (dyad_add.j1 k x1_0 x1_1 x1_2 x0_0 x0_1 x0_2 false ([] : List Int) 0) else (dyad_add.j1 k x0_0 x0_1 x0_2 x1_0 x1_1 x1_2 false ([] : List Int) 0)))
abbrev dyad_add.S : Sig := { ps := [.ag [.b, .is .u32, .i .i64], .ag [.b, .is .u32, .i .i64]], rs := [.ag [.b, .is .u32, .i .i64], .lf (.i .i64)], wb := [], R := Bool × List Int × Int × Int, mkR := fun y0 y1 y2 y3 => some (y0, y1, y2, y3), un := fun r => [.bool r.1, .ints .u32 r.2.1, .int .i64 r.2.2.1, .int .i64 r.2.2.2] }
def dyad_add.F (k : Nat) : Fun := { S := dyad_add.S, f := dyad_add.f k }
abbrev dyad_add.vj1 : List (Nat × Kx) := [(2, .bx [.b, .is .u32, .i .i64]), (3, .bx [.b, .is .u32, .i .i64]), (4, .bx [.b, .is .u32, .i .i64])]
def dyad_add.C (k : Nat) : Cfg := { T := TT, G := lookG [(97, [nat_Shift.F k]), (108, [dyad_own.F k]), (110, [nat_Len.F k]), (158, [dyad_edge.F k]), (159, [dyad_join.F k])], nt := 79, cuts := [⟨codeOf [true, true, true] 1, [true, true, true], dyad_add.vj1⟩], M0 := tabM }
def dyad_add.H (k : Nat) : List (CutF dyad_add.S.R) := [⟨dyad_add.vj1, dyad_add.j1 k⟩]
def dyad_Add.f (k : Nat) (x0_0 : Bool) (x0_1 : List Int) (x0_2 : Int) (x1_0 : Bool) (x1_1 : List Int) (x1_2 : Int) : Option (Bool × List Int × Int × Int) := (dyad_both.f k [(x0_0, x0_1, x0_2), (x1_0, x1_1, x1_2)]).bind fun t859 => (if (!t859) = true then (some (false, ([] : List Int), 0, 2)) else ((dyad_add.f k x0_0 x0_1 x0_2 x1_0 x1_1 x1_2).bind fun t860 => (some (t860.1, t860.2.1, t860.2.2.1, t860.2.2.2))))
abbrev dyad_Add.S : Sig := { ps := [.ag [.b, .is .u32, .i .i64], .ag [.b, .is .u32, .i .i64]], rs := [.ag [.b, .is .u32, .i .i64], .lf (.i .i64)], wb := [], R := Bool × List Int × Int × Int, mkR := fun y0 y1 y2 y3 => some (y0, y1, y2, y3), un := fun r => [.bool r.1, .ints .u32 r.2.1, .int .i64 r.2.2.1, .int .i64 r.2.2.2] }
def dyad_Add.F (k : Nat) : Fun := { S := dyad_Add.S, f := dyad_Add.f k }
def dyad_Add.C (k : Nat) : Cfg := { T := TT, G := lookG [(143, [dyad_both.F k]), (145, [dyad_add.F k])], nt := 17, cuts := [], M0 := tabM }
def dyad_Add.H (k : Nat) : List (CutF dyad_Add.S.R) := []
def dyad_signed.f (x0_0 : Bool) (x0_1 : List Int) (x0_2 : Int) (x1 : Bool) : Option (Bool × List Int × Int) := (dyad_own.f x0_0 x0_1 x0_2).bind fun t874 => (if x1 = true then (some (decide ((t874.2.1.length : Int) > 0), t874.2.1, t874.2.2)) else (some (false, t874.2.1, t874.2.2)))
abbrev dyad_signed.S : Sig := { ps := [.ag [.b, .is .u32, .i .i64], .lf (.b)], rs := [.ag [.b, .is .u32, .i .i64]], wb := [], R := Bool × List Int × Int, mkR := fun y0 y1 y2 => some (y0, y1, y2), un := fun r => [.bool r.1, .ints .u32 r.2.1, .int .i64 r.2.2] }
def dyad_signed.F (k : Nat) : Fun := { S := dyad_signed.S, f := dyad_signed.f }
def dyad_signed.C (k : Nat) : Cfg := { T := TT, G := lookG [(108, [dyad_own.F k])], nt := 16, cuts := [], M0 := tabM }
def dyad_signed.H (k : Nat) : List (CutF dyad_signed.S.R) := []
def dyad_Sub.f (k : Nat) (x0_0 : Bool) (x0_1 : List Int) (x0_2 : Int) (x1_0 : Bool) (x1_1 : List Int) (x1_2 : Int) : Option (Bool × List Int × Int × Int) := (dyad_both.f k [(x0_0, x0_1, x0_2), (x1_0, x1_1, x1_2)]).bind fun t877 => (if (!t877) = true then (some (false, ([] : List Int), 0, 2)) else ((dyad_signed.f x1_0 x1_1 x1_2 (!x1_0)).bind fun t878 => ((dyad_add.f k x0_0 x0_1 x0_2 t878.1 t878.2.1 t878.2.2).bind fun t879 => (some (t879.1, t879.2.1, t879.2.2.1, t879.2.2.2)))))
abbrev dyad_Sub.S : Sig := { ps := [.ag [.b, .is .u32, .i .i64], .ag [.b, .is .u32, .i .i64]], rs := [.ag [.b, .is .u32, .i .i64], .lf (.i .i64)], wb := [], R := Bool × List Int × Int × Int, mkR := fun y0 y1 y2 y3 => some (y0, y1, y2, y3), un := fun r => [.bool r.1, .ints .u32 r.2.1, .int .i64 r.2.2.1, .int .i64 r.2.2.2] }
def dyad_Sub.F (k : Nat) : Fun := { S := dyad_Sub.S, f := dyad_Sub.f k }
def dyad_Sub.C (k : Nat) : Cfg := { T := TT, G := lookG [(143, [dyad_both.F k]), (145, [dyad_add.F k]), (146, [dyad_signed.F k])], nt := 21, cuts := [], M0 := tabM }
def dyad_Sub.H (k : Nat) : List (CutF dyad_Sub.S.R) := []
mutual
def conv_whole.j1 : Nat → Int → Bool → List Int → Int → Bool → List Int → Int → Bool → List Int → Int → Bool → List Int → Int → Bool → Bool → Option (Bool × List Int × Int × Bool)
  | 0, _, _, _, _, _, _, _, _, _, _, _, _, _, _, _ => none
  | k + 1, x0, x3_0, x3_1, x3_2, x4_0, x4_1, x4_2, x6_0, x6_1, x6_2, x10_0, x10_1, x10_2, x12, x45 => if x45 = true then ((dyad_Sub.f k x3_0 x3_1 x3_2 x6_0 x6_1 x6_2).bind fun t909 => ((dyad_Cmp.f k t909.1 t909.2.1 t909.2.2.1 false ([1] : List Int) (-1)).bind fun t910 => ((dyad_Sign.f k x6_0 x6_1 x6_2).bind fun t911 => (if ¬ (t911 = 0) then (conv_whole.j2 k x0 x3_0 x3_1 x3_2 x4_0 x4_1 x4_2 x6_0 x6_1 x6_2 x10_0 x10_1 x10_2 t910.1 (decide (x6_2 = 0))) else (conv_whole.j2 k x0 x3_0 x3_1 x3_2 x4_0 x4_1 x4_2 x6_0 x6_1 x6_2 x10_0 x10_1 x10_2 t910.1 false))))) else (conv_whole.j3 k x4_0 x4_1 x4_2 x6_0 x6_1 x6_2 x10_0 x10_1 x10_2 x12)
def conv_whole.j2 : Nat → Int → Bool → List Int → Int → Bool → List Int → Int → Bool → List Int → Int → Bool → List Int → Int → Int → Bool → Option (Bool × List Int × Int × Bool)
  | 0, _, _, _, _, _, _, _, _, _, _, _, _, _, _, _ => none
  | k + 1, x0, x3_0, x3_1, x3_2, x4_0, x4_1, x4_2, x6_0, x6_1, x6_2, x10_0, x10_1, x10_2, x15, x17 => if x15 > 0 then (conv_whole.j3 k x4_0 x4_1 x4_2 x6_0 x6_1 x6_2 x10_0 x10_1 x10_2 true) else (if x15 = 0 then (if x0 = 1 then (if x17 = true then (conv_whole.j3 k x4_0 x4_1 x4_2 x6_0 x6_1 x6_2 x10_0 x10_1 x10_2 true) else (if x0 = 2 then (conv_whole.j3 k x4_0 x4_1 x4_2 x6_0 x6_1 x6_2 x10_0 x10_1 x10_2 (!x3_0)) else (conv_whole.j3 k x4_0 x4_1 x4_2 x6_0 x6_1 x6_2 x10_0 x10_1 x10_2 false))) else (if x0 = 2 then (conv_whole.j3 k x4_0 x4_1 x4_2 x6_0 x6_1 x6_2 x10_0 x10_1 x10_2 (!x3_0)) else (conv_whole.j3 k x4_0 x4_1 x4_2 x6_0 x6_1 x6_2 x10_0 x10_1 x10_2 false))) else (conv_whole.j3 k x4_0 x4_1 x4_2 x6_0 x6_1 x6_2 x10_0 x10_1 x10_2 false))
def conv_whole.j3 : Nat → Bool → List Int → Int → Bool → List Int → Int → Bool → List Int → Int → Bool → Option (Bool × List Int × Int × Bool)
  | 0, _, _, _, _, _, _, _, _, _, _ => none
  | k + 1, x4_0, x4_1, x4_2, x6_0, x6_1, x6_2, x10_0, x10_1, x10_2, x12 => if x12 = true then (some (x10_0, x10_1, x10_2, true)) else (some (x6_0, x6_1, x6_2, true))
end
def conv_whole.f (k : Nat) (x0 : Int) (x1_0 : Bool) (x1_1 : List Int) (x1_2 : Int) : Option (Bool × List Int × Int × Bool) := (dyad_Floor.f k x1_0 x1_1 x1_2).bind fun t905 => ((dyad_Cmp.f k t905.1 t905.2.1 t905.2.2.1 x1_0 x1_1 x1_2).bind fun t906 => (if t906.1 = 0 then (some (x1_0, x1_1, x1_2, false)) else ((dyad_Int.f k 1).bind fun t907 => ((dyad_Add.f k t905.1 t905.2.1 t905.2.2.1 t907.1 t907.2.1 t907.2.2).bind fun t908 => (if x0 = 4 then (conv_whole.j3 k false ([] : List Int) 0 t905.1 t905.2.1 t905.2.2.1 t908.1 t908.2.1 t908.2.2.1 true) else (if x0 = 3 then (conv_whole.j3 k false ([] : List Int) 0 t905.1 t905.2.1 t905.2.2.1 t908.1 t908.2.1 t908.2.2.1 x1_0) else (if x0 = 1 then (conv_whole.j1 k x0 x1_0 x1_1 x1_2 false ([] : List Int) 0 t905.1 t905.2.1 t905.2.2.1 t908.1 t908.2.1 t908.2.2.1 false true) else (conv_whole.j1 k x0 x1_0 x1_1 x1_2 false ([] : List Int) 0 t905.1 t905.2.1 t905.2.2.1 t908.1 t908.2.1 t908.2.2.1 false (decide (x0 = 2))))))))))
abbrev conv_whole.S : Sig := { ps := [.lf (.i .u8), .ag [.b, .is .u32, .i .i64]], rs := [.ag [.b, .is .u32, .i .i64], .lf (.b)], wb := [], R := Bool × List Int × Int × Bool, mkR := fun y0 y1 y2 y3 => some (y0, y1, y2, y3), un := fun r => [.bool r.1, .ints .u32 r.2.1, .int .i64 r.2.2.1, .bool r.2.2.2] }
def conv_whole.F (k : Nat) : Fun := { S := conv_whole.S, f := conv_whole.f k }
abbrev conv_whole.vj1 : List (Nat × Kx) := [(0, .lf (.i .u8)), (3, .bx [.b, .is .u32, .i .i64]), (4, .bx [.b, .is .u32, .i .i64]), (6, .bx [.b, .is .u32, .i .i64]), (10, .bx [.b, .is .u32, .i .i64]), (12, .lf (.b)), (45, .lf (.b))]
abbrev conv_whole.vj2 : List (Nat × Kx) := [(0, .lf (.i .u8)), (3, .bx [.b, .is .u32, .i .i64]), (4, .bx [.b, .is .u32, .i .i64]), (6, .bx [.b, .is .u32, .i .i64]), (10, .bx [.b, .is .u32, .i .i64]), (15, .lf (.i .i64)), (17, .lf (.b))]
abbrev conv_whole.vj3 : List (Nat × Kx) := [(4, .bx [.b, .is .u32, .i .i64]), (6, .bx [.b, .is .u32, .i .i64]), (10, .bx [.b, .is .u32, .i .i64]), (12, .lf (.b))]
def conv_whole.C (k : Nat) : Cfg := { T := TT, G := lookG [(56, [dyad_Sign.F k]), (67, [dyad_Int.F k]), (114, [dyad_Floor.F k]), (115, [dyad_Cmp.F k]), (116, [dyad_Add.F k]), (117, [dyad_Sub.F k])], nt := 94, cuts := [⟨codeOf [true, true, true, true, true, false, true, false, true, true, true, true, true] 1, [true, true, true, true, true, false, true, false, true, true, true, true, true], conv_whole.vj1⟩, ⟨codeOf [true, true, true, true, true, false, true, false, true, true, true, true, true, false, true, true, true] 1, [true, true, true, true, true, false, true, false, true, true, true, true, true, false, true, true, true], conv_whole.vj2⟩, ⟨codeOf [true, true, true, true, true, true] 1, [true, true, true, true, true, true], conv_whole.vj3⟩], M0 := tabM }
def conv_whole.H (k : Nat) : List (CutF conv_whole.S.R) := [⟨conv_whole.vj1, conv_whole.j1 k⟩, ⟨conv_whole.vj2, conv_whole.j2 k⟩, ⟨conv_whole.vj3, conv_whole.j3 k⟩]
mutual
def dyad_Int64.j2 : Nat → Bool → List Int → Int → Int → Bool → Option (Int × Bool)
  | 0, _, _, _, _, _ => none
  | k + 1, x1_0, x1_1, x1_2, x7, x36 => if x36 = true then (some (wrap64 (IntKind.u64.wrap (-x7)), true)) else (if (!x1_0) = true then (dyad_Int64.j3 k x7 (decide (x7 < 9223372036854775808))) else (dyad_Int64.j3 k x7 false))
def dyad_Int64.j3 : Nat → Int → Bool → Option (Int × Bool)
  | 0, _, _ => none
  | k + 1, x7, x46 => if x46 = true then (some (wrap64 x7, true)) else (some (0, false))
end
def dyad_Int64.f (k : Nat) (x0_0 : Bool) (x0_1 : List Int) (x0_2 : Int) : Option (Int × Bool) := (dyad_May.f x0_0 x0_1 x0_2).bind fun t947 => (if (!t947) = true then (some (0, false)) else (if x0_2 < 0 then (some (0, false)) else ((dyad_Top.f k x0_0 x0_1 x0_2).bind fun t948 => (if t948 > 64 then (some (0, false)) else ((nat_Shift.f k x0_1 x0_2).bind fun t949 => ((nat_Num.f k t949.1).bind fun t950 => (if x0_0 = true then (dyad_Int64.j2 k x0_0 x0_1 x0_2 t950.1 (decide (t950.1 ≤ 9223372036854775808))) else (dyad_Int64.j2 k x0_0 x0_1 x0_2 t950.1 false))))))))
abbrev dyad_Int64.S : Sig := { ps := [.ag [.b, .is .u32, .i .i64]], rs := [.lf (.i .i64), .lf (.b)], wb := [], R := Int × Bool, mkR := fun y0 y1 => some (y0, y1), un := fun r => [.int .i64 r.1, .bool r.2] }
def dyad_Int64.F (k : Nat) : Fun := { S := dyad_Int64.S, f := dyad_Int64.f k }
abbrev dyad_Int64.vj2 : List (Nat × Kx) := [(1, .bx [.b, .is .u32, .i .i64]), (7, .lf (.i .u64)), (36, .lf (.b))]
abbrev dyad_Int64.vj3 : List (Nat × Kx) := [(7, .lf (.i .u64)), (46, .lf (.b))]
def dyad_Int64.C (k : Nat) : Cfg := { T := TT, G := lookG [(62, [dyad_Top.F k]), (97, [nat_Shift.F k]), (102, [dyad_May.F k]), (103, [nat_Num.F k])], nt := 56, cuts := [⟨codeOf [true, true, true, true, false, false, true] 1, [true, true, true, true, false, false, true], dyad_Int64.vj2⟩, ⟨codeOf [true, true, true, true, false, false, true, true, true] 1, [true, true, true, true, false, false, true, true, true], dyad_Int64.vj3⟩], M0 := tabM }
def dyad_Int64.H (k : Nat) : List (CutF dyad_Int64.S.R) := [⟨dyad_Int64.vj2, dyad_Int64.j2 k⟩, ⟨dyad_Int64.vj3, dyad_Int64.j3 k⟩]
def conv_told.f (x0 : Bool) : Option (Int) := if x0 = true then (some 16) else (some 0)
abbrev conv_told.S : Sig := { ps := [.lf (.b)], rs := [.lf (.i .u8)], wb := [], R := Int, mkR := fun y0 => some y0, un := fun r => [.int .u8 r] }
def conv_told.F (k : Nat) : Fun := { S := conv_told.S, f := conv_told.f }
def conv_told.C (k : Nat) : Cfg := { T := TT, G := lookG [], nt := 4, cuts := [], M0 := tabM }
def conv_told.H (k : Nat) : List (CutF conv_told.S.R) := []
def conv_ToInt.f (k : Nat) (x0 : Int) (x1 : Int) (x2 : Int) : Option (Int × Int × Int) := (conv_open.f k x0 x1 x2).bind fun t957 => (if ¬ (t957.2.2 = 0) then (some (0, 0, t957.2.2)) else (if t957.1 ≥ 4 then (some (0, 1, 0)) else ((word_Value.f k x0 x2).bind fun t958 => ((conv_whole.f k x1 t958.1 t958.2.1 t958.2.2.1).bind fun t959 => ((dyad_Int64.f k t959.1 t959.2.1 t959.2.2.1).bind fun t960 => (if (!t960.2) = true then (some (0, 1, 0)) else ((conv_told.f t959.2.2.2).bind fun t961 => (some (t960.1, t961, 0)))))))))
abbrev conv_ToInt.S : Sig := { ps := [.lf (.i .u8), .lf (.i .u8), .lf (.i .u64)], rs := [.lf (.i .i64), .lf (.i .u8), .lf (.i .i64)], wb := [], R := Int × Int × Int, mkR := fun y0 y1 y2 => some (y0, y1, y2), un := fun r => [.int .i64 r.1, .int .u8 r.2.1, .int .i64 r.2.2] }
def conv_ToInt.F (k : Nat) : Fun := { S := conv_ToInt.S, f := conv_ToInt.f k }
def conv_ToInt.C (k : Nat) : Cfg := { T := TT, G := lookG [(42, [conv_open.F k]), (46, [word_Value.F k]), (68, [conv_whole.F k]), (69, [dyad_Int64.F k]), (70, [conv_told.F k])], nt := 55, cuts := [], M0 := tabM }
def conv_ToInt.H (k : Nat) : List (CutF conv_ToInt.S.R) := []
def cutplaneref02_Top.f (k : Nat) (x0_0 : Bool) (x0_1 : List Int) (x0_2 : Int) : Option (Int) := if (x0_1.length : Int) = 0 then (some 0) else ((cutplaneref01_Len.f k x0_1).bind fun t968 => (some (wrap64 (x0_2 + t968))))
abbrev cutplaneref02_Top.S : Sig := { ps := [.ag [.b, .is .u32, .i .i64]], rs := [.lf (.i .i64)], wb := [], R := Int, mkR := fun y0 => some y0, un := fun r => [.int .i64 r] }
def cutplaneref02_Top.F (k : Nat) : Fun := { S := cutplaneref02_Top.S, f := cutplaneref02_Top.f k }
def cutplaneref02_Top.C (k : Nat) : Cfg := { T := TT, G := lookG [(71, [cutplaneref01_Len.F k])], nt := 13, cuts := [], M0 := tabM }
def cutplaneref02_Top.H (k : Nat) : List (CutF cutplaneref02_Top.S.R) := []
def cutplaneref03_Frac.f (x0 : Int) : Option (Int) := if x0 = 1 then (some 23) else (some 52)
abbrev cutplaneref03_Frac.S : Sig := { ps := [.lf (.i .u8)], rs := [.lf (.i .i64)], wb := [], R := Int, mkR := fun y0 => some y0, un := fun r => [.int .i64 r] }
def cutplaneref03_Frac.F (k : Nat) : Fun := { S := cutplaneref03_Frac.S, f := cutplaneref03_Frac.f }
def cutplaneref03_Frac.C (k : Nat) : Cfg := { T := TT, G := lookG [], nt := 5, cuts := [], M0 := tabM }
def cutplaneref03_Frac.H (k : Nat) : List (CutF cutplaneref03_Frac.S.R) := []
def cutplaneref03_Sign.f (x0 : Int) : Option (Int) := if x0 = 1 then (some 2147483648) else (some 9223372036854775808)
abbrev cutplaneref03_Sign.S : Sig := { ps := [.lf (.i .u8)], rs := [.lf (.i .u64)], wb := [], R := Int, mkR := fun y0 => some y0, un := fun r => [.int .u64 r] }
def cutplaneref03_Sign.F (k : Nat) : Fun := { S := cutplaneref03_Sign.S, f := cutplaneref03_Sign.f }
def cutplaneref03_Sign.C (k : Nat) : Cfg := { T := TT, G := lookG [], nt := 5, cuts := [], M0 := tabM }
def cutplaneref03_Sign.H (k : Nat) : List (CutF cutplaneref03_Sign.S.R) := []
def cutplaneref03_Split.f (x0 : Int) (x1 : Int) : Option (Bool × Int × Int) := (cutplaneref03_Sign.f x0).bind fun t979 => ((cutplaneref03_Sign.f x0).bind fun t980 => (if t980 = 0 then (none) else ((cutplaneref03_Frac.f x0).bind fun t981 => (if 0 ≤ t981 then (if (shl .u64 1 t981) = 0 then (none) else ((cutplaneref03_Frac.f x0).bind fun t982 => (if 0 ≤ t982 then (some (decide (x1 ≥ t979), wrap64 (shr .u64 (Int.tmod x1 t980) t982), Int.tmod (Int.tmod x1 t980) (shl .u64 1 t981))) else (none)))) else (none)))))
abbrev cutplaneref03_Split.S : Sig := { ps := [.lf (.i .u8), .lf (.i .u64)], rs := [.ag [.b, .i .i64, .i .u64]], wb := [], R := Bool × Int × Int, mkR := fun y0 y1 y2 => some (y0, y1, y2), un := fun r => [.bool r.1, .int .i64 r.2.1, .int .u64 r.2.2] }
def cutplaneref03_Split.F (k : Nat) : Fun := { S := cutplaneref03_Split.S, f := cutplaneref03_Split.f }
def cutplaneref03_Split.C (k : Nat) : Cfg := { T := TT, G := lookG [(27, [cutplaneref03_Frac.F k]), (74, [cutplaneref03_Sign.F k])], nt := 28, cuts := [], M0 := tabM }
def cutplaneref03_Split.H (k : Nat) : List (CutF cutplaneref03_Split.S.R) := []
def cutplaneref03_Low.f (x0 : Int) : Option (Int) := if x0 = 1 then (some (-149)) else (some (-1074))
abbrev cutplaneref03_Low.S : Sig := { ps := [.lf (.i .u8)], rs := [.lf (.i .i64)], wb := [], R := Int, mkR := fun y0 => some y0, un := fun r => [.int .i64 r] }
def cutplaneref03_Low.F (k : Nat) : Fun := { S := cutplaneref03_Low.S, f := cutplaneref03_Low.f }
def cutplaneref03_Low.C (k : Nat) : Cfg := { T := TT, G := lookG [], nt := 5, cuts := [], M0 := tabM }
def cutplaneref03_Low.H (k : Nat) : List (CutF cutplaneref03_Low.S.R) := []
def cutplaneref03_Value.f (k : Nat) (x0 : Int) (x1 : Int) : Option (Bool × List Int × Int) := (cutplaneref03_Split.f x0 x1).bind fun t995 => (if t995.2.1 = 0 then ((cutplaneref01_Of.f k t995.2.2).bind fun t996 => ((cutplaneref03_Low.f x0).bind fun t997 => ((cutplaneref02_Form.f k t995.1 t996 t997).bind fun t998 => (some (t998.1, t998.2.1, t998.2.2))))) else ((cutplaneref03_Frac.f x0).bind fun t999 => (if 0 ≤ t999 then ((cutplaneref01_Of.f k (IntKind.u64.wrap ((shl .u64 1 t999) + t995.2.2))).bind fun t1000 => ((cutplaneref03_Low.f x0).bind fun t1001 => ((cutplaneref02_Form.f k t995.1 t1000 (wrap64 ((wrap64 (t995.2.1 - 1)) + t1001))).bind fun t1002 => (some (t1002.1, t1002.2.1, t1002.2.2))))) else (none))))
abbrev cutplaneref03_Value.S : Sig := { ps := [.lf (.i .u8), .lf (.i .u64)], rs := [.ag [.b, .is .u32, .i .i64]], wb := [], R := Bool × List Int × Int, mkR := fun y0 y1 y2 => some (y0, y1, y2), un := fun r => [.bool r.1, .ints .u32 r.2.1, .int .i64 r.2.2] }
def cutplaneref03_Value.F (k : Nat) : Fun := { S := cutplaneref03_Value.S, f := cutplaneref03_Value.f k }
def cutplaneref03_Value.C (k : Nat) : Cfg := { T := TT, G := lookG [(27, [cutplaneref03_Frac.F k]), (31, [cutplaneref03_Split.F k]), (65, [cutplaneref02_Form.F k]), (66, [cutplaneref01_Of.F k]), (73, [cutplaneref03_Low.F k])], nt := 36, cuts := [], M0 := tabM }
def cutplaneref03_Value.H (k : Nat) : List (CutF cutplaneref03_Value.S.R) := []
def cutplaneref01_Same.l0 : Nat → List Int → List Int → Int → Option (Bool)
  | 0, _, _, _ => none
  | k + 1, x0, x1, x5 => if x5 < (x0.length : Int) then (if 0 ≤ x5 then (if x5 < (x0.length : Int) then (if 0 ≤ x5 then (if x5 < (x1.length : Int) then (if ¬ (rd x0 x5 = rd x1 x5) then (some false) else (cutplaneref01_Same.l0 k x0 x1 (wrap64 (x5 + 1)))) else (none)) else (none)) else (none)) else (none)) else (some true)
def cutplaneref01_Same.f (k : Nat) (x0 : List Int) (x1 : List Int) : Option (Bool) := if ¬ ((x0.length : Int) = (x1.length : Int)) then (some false) else (cutplaneref01_Same.l0 k x0 x1 0)
abbrev cutplaneref01_Same.S : Sig := { ps := [.lf (.is .u32), .lf (.is .u32)], rs := [.lf (.b)], wb := [], R := Bool, mkR := fun y0 => some y0, un := fun r => [.bool r] }
def cutplaneref01_Same.F (k : Nat) : Fun := { S := cutplaneref01_Same.S, f := cutplaneref01_Same.f k }
abbrev cutplaneref01_Same.vl0 : List (Nat × Kx) := [(0, .lf (.is .u32)), (1, .lf (.is .u32)), (5, .lf (.i .i64))]
def cutplaneref01_Same.C (k : Nat) : Cfg := { T := TT, G := lookG [], nt := 26, cuts := [⟨codeOf [true, true, false, true, false] 1, [true, true, false, true, false], cutplaneref01_Same.vl0⟩], M0 := tabM }
def cutplaneref01_Same.H (k : Nat) : List (CutF cutplaneref01_Same.S.R) := [⟨cutplaneref01_Same.vl0, cutplaneref01_Same.l0 k⟩]
def cutplaneref02_Same.f (k : Nat) (x0_0 : Bool) (x0_1 : List Int) (x0_2 : Int) (x1_0 : Bool) (x1_1 : List Int) (x1_2 : Int) : Option (Bool) := if (x0_0) = (x1_0) then (if x0_2 = x1_2 then ((cutplaneref01_Same.f k x0_1 x1_1).bind fun t1006 => (some t1006)) else (some false)) else (some false)
abbrev cutplaneref02_Same.S : Sig := { ps := [.ag [.b, .is .u32, .i .i64], .ag [.b, .is .u32, .i .i64]], rs := [.lf (.b)], wb := [], R := Bool, mkR := fun y0 => some y0, un := fun r => [.bool r] }
def cutplaneref02_Same.F (k : Nat) : Fun := { S := cutplaneref02_Same.S, f := cutplaneref02_Same.f k }
def cutplaneref02_Same.C (k : Nat) : Cfg := { T := TT, G := lookG [(72, [cutplaneref01_Same.F k])], nt := 24, cuts := [], M0 := tabM }
def cutplaneref02_Same.H (k : Nat) : List (CutF cutplaneref02_Same.S.R) := []
def cutplaneref03_Most.f (x0 : Int) : Option (Int) := if x0 = 1 then (some 255) else (some 2047)
abbrev cutplaneref03_Most.S : Sig := { ps := [.lf (.i .u8)], rs := [.lf (.i .i64)], wb := [], R := Int, mkR := fun y0 => some y0, un := fun r => [.int .i64 r] }
def cutplaneref03_Most.F (k : Nat) : Fun := { S := cutplaneref03_Most.S, f := cutplaneref03_Most.f }
def cutplaneref03_Most.C (k : Nat) : Cfg := { T := TT, G := lookG [], nt := 5, cuts := [], M0 := tabM }
def cutplaneref03_Most.H (k : Nat) : List (CutF cutplaneref03_Most.S.R) := []
def cutplaneref03_Class.f (x0 : Int) (x1 : Int) : Option (Int) := (cutplaneref03_Split.f x0 x1).bind fun t1031 => (if t1031.2.1 = 0 then (if t1031.2.2 = 0 then (some 1) else (if t1031.2.1 = 0 then (some 2) else ((cutplaneref03_Most.f x0).bind fun t1032 => (if t1031.2.1 < t1032 then (some 3) else (if t1031.2.2 = 0 then (some 4) else (some 5)))))) else (if t1031.2.1 = 0 then (some 2) else ((cutplaneref03_Most.f x0).bind fun t1033 => (if t1031.2.1 < t1033 then (some 3) else (if t1031.2.2 = 0 then (some 4) else (some 5))))))
abbrev cutplaneref03_Class.S : Sig := { ps := [.lf (.i .u8), .lf (.i .u64)], rs := [.lf (.i .u8)], wb := [], R := Int, mkR := fun y0 => some y0, un := fun r => [.int .u8 r] }
def cutplaneref03_Class.F (k : Nat) : Fun := { S := cutplaneref03_Class.S, f := cutplaneref03_Class.f }
def cutplaneref03_Class.C (k : Nat) : Cfg := { T := TT, G := lookG [(31, [cutplaneref03_Split.F k]), (64, [cutplaneref03_Most.F k])], nt := 28, cuts := [], M0 := tabM }
def cutplaneref03_Class.H (k : Nat) : List (CutF cutplaneref03_Class.S.R) := []
def cutplaneref03_Finite.f (x0 : Int) (x1 : Int) : Option (Bool) := (cutplaneref03_Class.f x0 x1).bind fun t1036 => (if ¬ (t1036 = 4) then (some (decide (¬ (t1036 = 5)))) else (some false))
abbrev cutplaneref03_Finite.S : Sig := { ps := [.lf (.i .u8), .lf (.i .u64)], rs := [.lf (.b)], wb := [], R := Bool, mkR := fun y0 => some y0, un := fun r => [.bool r] }
def cutplaneref03_Finite.F (k : Nat) : Fun := { S := cutplaneref03_Finite.S, f := cutplaneref03_Finite.f }
def cutplaneref03_Finite.C (k : Nat) : Cfg := { T := TT, G := lookG [(21, [cutplaneref03_Class.F k])], nt := 15, cuts := [], M0 := tabM }
def cutplaneref03_Finite.H (k : Nat) : List (CutF cutplaneref03_Finite.S.R) := []
def cutplanelaw06_ConvInts.f (k : Nat) (x0 : Int) (x1 : Int) (x2 : Int) (x3 : Int) : Option (Bool) := (cutplanelaw06_opens.f k x0 x1 ([] : List Int)).bind fun t1072 => (if ¬ (t1072 = 0) then ((cutplanelaw06_known.f k).bind fun t1073 => (some t1073)) else ((cutplanelaw06_opens.f k x0 x2 ([] : List Int)).bind fun t1074 => (if ¬ (t1074 = 0) then ((cutplanelaw06_known.f k).bind fun t1075 => (some t1075)) else ((cutplaneref02_Int.f k x3).bind fun t1076 => ((conv_FromInt.f k x0 x1 x3).bind fun t1077 => ((conv_ToInt.f k x0 x2 t1077.1).bind fun t1078 => (if ¬ (t1077.2.2 = 0) then (some false) else (if ¬ (t1078.2.2 = 0) then (some false) else ((cutplaneref03_Finite.f x0 t1077.1).bind fun t1079 => (if (!t1079) = true then (some false) else ((cutplaneref02_Top.f k t1076.1 t1076.2.1 t1076.2.2).bind fun t1080 => ((cutplaneref03_Frac.f x0).bind fun t1081 => (if (wrap64 (t1080 - t1076.2.2)) > (wrap64 (t1081 + 1)) then (if t1077.2.1 = 16 then ((cutplanelaw06_known.f k).bind fun t1082 => (some t1082)) else (some false)) else (if t1077.2.1 = 0 then (if t1078.1 = x3 then (if t1078.2.1 = 0 then ((cutplaneref03_Value.f k x0 t1077.1).bind fun t1083 => ((cutplaneref02_Same.f k t1083.1 t1083.2.1 t1083.2.2 t1076.1 t1076.2.1 t1076.2.2).bind fun t1084 => (if t1084 = true then ((cutplanelaw06_known.f k).bind fun t1085 => (some t1085)) else (some false)))) else (some false)) else (some false)) else (some false)))))))))))))))
abbrev cutplanelaw06_ConvInts.S : Sig := { ps := [.lf (.i .u8), .lf (.i .u8), .lf (.i .u8), .lf (.i .i64)], rs := [.lf (.b)], wb := [], R := Bool, mkR := fun y0 => some y0, un := fun r => [.bool r] }
def cutplanelaw06_ConvInts.F (k : Nat) : Fun := { S := cutplanelaw06_ConvInts.S, f := cutplanelaw06_ConvInts.f k }
def cutplanelaw06_ConvInts.C (k : Nat) : Cfg := { T := TT, G := lookG [(10, [cutplanelaw06_opens.F k]), (13, [cutplanelaw06_known.F k]), (20, [cutplaneref03_Finite.F k]), (23, [cutplaneref02_Int.F k]), (24, [conv_FromInt.F k]), (25, [conv_ToInt.F k]), (26, [cutplaneref02_Top.F k]), (27, [cutplaneref03_Frac.F k]), (28, [cutplaneref02_Same.F k]), (29, [cutplaneref03_Value.F k])], nt := 92, cuts := [], M0 := tabM }
def cutplanelaw06_ConvInts.H (k : Nat) : List (CutF cutplanelaw06_ConvInts.S.R) := []
end Go.Proofs.YtclegbgmhimenaaGreatDoor.Eng

