import Derived.Test.YtclegbgmhimenaaDoorEng2
import Derived.Test.YtclegbgmhimenaaDoorProg
import Derived.KernelRfl
import Derived.Lib.TrailingZeros
set_option linter.unusedVariables false
set_option linter.unusedSimpArgs false
namespace Go.Proofs.YtclegbgmhimenaaDoor.Eng
open Go.RowKit Go.Proofs
set_option maxRecDepth 100000
set_option linter.unusedVariables false
def TL : List (Nat × TI) := [(2, ⟨.int .i64, 1, 8, [(.int .i64)]⟩),
  (3, ⟨.int .i64, 1, 8, [(.int .i64)]⟩),
  (4, ⟨.bool, 1, 1, [.bool]⟩),
  (5, ⟨.int .u8, 1, 1, [(.int .u8)]⟩),
  (6, ⟨.int .u8, 1, 1, [(.int .u8)]⟩),
  (7, ⟨.struct [(0, 2), (1, 3), (2, 4), (3, 6)], 4, 24, [(.int .i64), (.int .i64), .bool, (.int .u8)]⟩),
  (8, ⟨.struct [(0, 2), (1, 3), (2, 4), (3, 6)], 4, 24, [(.int .i64), (.int .i64), .bool, (.int .u8)]⟩),
  (9, ⟨.str, 1, 16, [.str]⟩),
  (10, ⟨.str, 1, 16, [.str]⟩),
  (11, ⟨.str, 1, 16, [.str]⟩),
  (12, ⟨.int .u64, 1, 8, [(.int .u64)]⟩),
  (13, ⟨.struct [(0, 9), (1, 12)], 2, 24, [.str, (.int .u64)]⟩),
  (14, ⟨.struct [(0, 9), (1, 12)], 2, 24, [.str, (.int .u64)]⟩),
  (15, ⟨.ptr 154, 1, 8, [.ptr]⟩),
  (16, ⟨.ptr 157, 1, 8, [.ptr]⟩),
  (17, ⟨.ptr 165, 1, 8, [.ptr]⟩),
  (18, ⟨.struct [(0, 17)], 1, 8, [.ptr]⟩),
  (19, ⟨.struct [(0, 17)], 1, 8, [.ptr]⟩),
  (21, ⟨.int .i32, 1, 4, [(.int .i32)]⟩),
  (22, ⟨.int .u8, 1, 1, [(.int .u8)]⟩),
  (23, ⟨.int .u64, 1, 8, [(.int .u64)]⟩),
  (24, ⟨.int .i64, 1, 8, [(.int .i64)]⟩),
  (26, ⟨.int .u8, 1, 1, [(.int .u8)]⟩),
  (28, ⟨.int .u8, 1, 1, [(.int .u8)]⟩),
  (34, ⟨.slice 107, 1, 24, [(.slice (some .u32))]⟩),
  (35, ⟨.struct [(0, 4), (1, 34), (2, 3)], 3, 40, [.bool, (.slice (some .u32)), (.int .i64)]⟩),
  (36, ⟨.struct [(0, 4), (1, 34), (2, 3)], 3, 40, [.bool, (.slice (some .u32)), (.int .i64)]⟩),
  (39, ⟨.int .u8, 1, 1, [(.int .u8)]⟩),
  (54, ⟨.slice 23, 1, 24, [(.slice (some .u64))]⟩),
  (69, ⟨.struct [(0, 4), (1, 3), (2, 23)], 3, 24, [.bool, (.int .i64), (.int .u64)]⟩),
  (70, ⟨.struct [(0, 4), (1, 3), (2, 23)], 3, 24, [.bool, (.int .i64), (.int .u64)]⟩),
  (90, ⟨.struct [(0, 3), (1, 3), (2, 23)], 3, 24, [(.int .i64), (.int .i64), (.int .u64)]⟩),
  (91, ⟨.struct [(0, 3), (1, 3), (2, 23)], 3, 24, [(.int .i64), (.int .i64), (.int .u64)]⟩),
  (97, ⟨.struct [(0, 3), (1, 3), (2, 3)], 3, 24, [(.int .i64), (.int .i64), (.int .i64)]⟩),
  (98, ⟨.struct [(0, 3), (1, 3), (2, 3)], 3, 24, [(.int .i64), (.int .i64), (.int .i64)]⟩),
  (102, ⟨.struct [(0, 23), (1, 3), (2, 4)], 3, 24, [(.int .u64), (.int .i64), .bool]⟩),
  (103, ⟨.struct [(0, 23), (1, 3), (2, 4)], 3, 24, [(.int .u64), (.int .i64), .bool]⟩),
  (107, ⟨.int .u32, 1, 4, [(.int .u32)]⟩),
  (111, ⟨.int .u64, 1, 8, [(.int .u64)]⟩),
  (132, ⟨.slice 36, 1, 24, [(.slice none)]⟩),
  (145, ⟨.slice 34, 1, 24, [(.slice none)]⟩),
  (149, ⟨.arr 32 5, 32, 32, [(.int .u8), (.int .u8), (.int .u8), (.int .u8), (.int .u8), (.int .u8), (.int .u8), (.int .u8), (.int .u8), (.int .u8), (.int .u8), (.int .u8), (.int .u8), (.int .u8), (.int .u8), (.int .u8), (.int .u8), (.int .u8), (.int .u8), (.int .u8), (.int .u8), (.int .u8), (.int .u8), (.int .u8), (.int .u8), (.int .u8), (.int .u8), (.int .u8), (.int .u8), (.int .u8), (.int .u8), (.int .u8)]⟩),
  (153, ⟨.struct [(0, 17), (1, 17), (2, 17), (3, 9)], 4, 40, [.ptr, .ptr, .ptr, .str]⟩),
  (154, ⟨.struct [(0, 17), (1, 17), (2, 17), (3, 9)], 4, 40, [.ptr, .ptr, .ptr, .str]⟩),
  (155, ⟨.arr 0 16, 0, 0, []⟩),
  (156, ⟨.struct [(0, 155)], 0, 0, []⟩),
  (157, ⟨.struct [(0, 155)], 0, 0, []⟩),
  (158, ⟨.int .u8, 1, 1, [(.int .u8)]⟩),
  (159, ⟨.int .u8, 1, 1, [(.int .u8)]⟩),
  (161, ⟨.ptr 5, 1, 8, [.ptr]⟩),
  (162, ⟨.int .i32, 1, 4, [(.int .i32)]⟩),
  (163, ⟨.int .i32, 1, 4, [(.int .i32)]⟩)]
def TT : Nat → Option TI := lookT TL
def txt0 : ByteArray := ⟨#[0, 1, 2, 2, 3, 3, 3, 3, 4, 4, 4, 4, 4, 4, 4, 4, 5, 5, 5, 5, 5, 5, 5, 5, 5, 5, 5, 5, 5, 5, 5, 5, 6, 6, 6, 6, 6, 6, 6, 6, 6, 6, 6, 6, 6, 6, 6, 6, 6, 6, 6, 6, 6, 6, 6, 6, 6, 6, 6, 6, 6, 6, 6, 6, 7, 7, 7, 7, 7, 7, 7, 7, 7, 7, 7, 7, 7, 7, 7, 7, 7, 7, 7, 7, 7, 7, 7, 7, 7, 7, 7, 7, 7, 7, 7, 7, 7, 7, 7, 7, 7, 7, 7, 7, 7, 7, 7, 7, 7, 7, 7, 7, 7, 7, 7, 7, 7, 7, 7, 7, 7, 7, 7, 7, 7, 7, 7, 7, 8, 8, 8, 8, 8, 8, 8, 8, 8, 8, 8, 8, 8, 8, 8, 8, 8, 8, 8, 8, 8, 8, 8, 8, 8, 8, 8, 8, 8, 8, 8, 8, 8, 8, 8, 8, 8, 8, 8, 8, 8, 8, 8, 8, 8, 8, 8, 8, 8, 8, 8, 8, 8, 8, 8, 8, 8, 8, 8, 8, 8, 8, 8, 8, 8, 8, 8, 8, 8, 8, 8, 8, 8, 8, 8, 8, 8, 8, 8, 8, 8, 8, 8, 8, 8, 8, 8, 8, 8, 8, 8, 8, 8, 8, 8, 8, 8, 8, 8, 8, 8, 8, 8, 8, 8, 8, 8, 8, 8, 8, 8, 8, 8, 8, 8, 8, 8, 8, 8, 8, 8, 8, 8, 8, 8, 8, 8, 8]⟩
def bits_TrailingZeros32.f (x : Int) : Option Int := if 0 ≤ x ∧ x < 4294967296 then some (Lib.ctz 32 x.toNat : Int) else none
def tabM : Nat → Nat → Option Value := fun b o => if b = 0 ∧ o < 32 then some (.int .u8 (Lib.deBruijn32tab.getD o 0)) else none
def cutplaneref03_Is.f (x0 : Int) : Option (Bool) := if x0 = 1 then (some true) else (some (decide (x0 = 2)))
abbrev cutplaneref03_Is.S : Sig := { ps := [.lf (.i .u8)], rs := [.lf (.b)], wb := [], R := Bool, mkR := fun y0 => some y0, un := fun r => [.bool r] }
def cutplaneref03_Is.F (k : Nat) : Fun := { S := cutplaneref03_Is.S, f := cutplaneref03_Is.f }
def cutplaneref03_Is.C (k : Nat) : Cfg := { T := TT, G := lookG [], nt := 9, cuts := [], M0 := tabM }
def cutplaneref03_Is.H (k : Nat) : List (CutF cutplaneref03_Is.S.R) := []
def cutplaneref04_Is.f (x0 : Int) : Option (Bool) := if x0 ≥ 1 then (some (decide (x0 ≤ 5))) else (some false)
abbrev cutplaneref04_Is.S : Sig := { ps := [.lf (.i .u8)], rs := [.lf (.b)], wb := [], R := Bool, mkR := fun y0 => some y0, un := fun r => [.bool r] }
def cutplaneref04_Is.F (k : Nat) : Fun := { S := cutplaneref04_Is.S, f := cutplaneref04_Is.f }
def cutplaneref04_Is.C (k : Nat) : Cfg := { T := TT, G := lookG [], nt := 9, cuts := [], M0 := tabM }
def cutplaneref04_Is.H (k : Nat) : List (CutF cutplaneref04_Is.S.R) := []
def cutplaneref03_Good.f (x0 : Int) (x1 : Int) : Option (Int) := (cutplaneref03_Is.f x0).bind fun t14 => (if (!t14) = true then (some 4) else (if x0 = 1 then (if x1 ≥ 4294967296 then (some 6) else (some 0)) else (some 0)))
abbrev cutplaneref03_Good.S : Sig := { ps := [.lf (.i .u8), .lf (.i .u64)], rs := [.lf (.i .i64)], wb := [], R := Int, mkR := fun y0 => some y0, un := fun r => [.int .i64 r] }
def cutplaneref03_Good.F (k : Nat) : Fun := { S := cutplaneref03_Good.S, f := cutplaneref03_Good.f }
def cutplaneref03_Good.C (k : Nat) : Cfg := { T := TT, G := lookG [(23, [cutplaneref03_Is.F k])], nt := 14, cuts := [], M0 := tabM }
def cutplaneref03_Good.H (k : Nat) : List (CutF cutplaneref03_Good.S.R) := []
def cutplanelaw06_opens.l0 : Nat → Int → List Int → Int → Option (Int)
  | 0, _, _, _ => none
  | k + 1, x0, x2, x7 => if x7 < (x2.length : Int) then (if 0 ≤ x7 then (if x7 < (x2.length : Int) then ((cutplaneref03_Good.f x0 (rd x2 x7)).bind fun t23 => (if ¬ (t23 = 0) then (some 6) else (cutplanelaw06_opens.l0 k x0 x2 (wrap64 (x7 + 1))))) else (none)) else (none)) else (some 0)
def cutplanelaw06_opens.f (k : Nat) (x0 : Int) (x1 : Int) (x2 : List Int) : Option (Int) := (cutplaneref03_Is.f x0).bind fun t21 => (if (!t21) = true then (some 4) else ((cutplaneref04_Is.f x1).bind fun t22 => (if (!t22) = true then (some 5) else (cutplanelaw06_opens.l0 k x0 x2 0))))
abbrev cutplanelaw06_opens.S : Sig := { ps := [.lf (.i .u8), .lf (.i .u8), .lf (.is .u64)], rs := [.lf (.i .i64)], wb := [], R := Int, mkR := fun y0 => some y0, un := fun r => [.int .i64 r] }
def cutplanelaw06_opens.F (k : Nat) : Fun := { S := cutplanelaw06_opens.S, f := cutplanelaw06_opens.f k }
abbrev cutplanelaw06_opens.vl0 : List (Nat × Kx) := [(0, .lf (.i .u8)), (2, .lf (.is .u64)), (7, .lf (.i .i64))]
def cutplanelaw06_opens.C (k : Nat) : Cfg := { T := TT, G := lookG [(23, [cutplaneref03_Is.F k]), (24, [cutplaneref04_Is.F k]), (25, [cutplaneref03_Good.F k])], nt := 27, cuts := [⟨codeOf [true, true, true, false, true, false] 1, [true, true, true, false, true, false], cutplanelaw06_opens.vl0⟩], M0 := tabM }
def cutplanelaw06_opens.H (k : Nat) : List (CutF cutplanelaw06_opens.S.R) := [⟨cutplanelaw06_opens.vl0, cutplanelaw06_opens.l0 k⟩]
def round_formOf.f (x0 : Int) : Option (Int × Int × Int × Bool) := if x0 = 1 then (some (24, (-149), 128, true)) else (if x0 = 2 then (some (53, (-1074), 1024, true)) else (some (0, 0, 0, false)))
abbrev round_formOf.S : Sig := { ps := [.lf (.i .u8)], rs := [.ag [.i .i64, .i .i64, .i .i64], .lf (.b)], wb := [], R := Int × Int × Int × Bool, mkR := fun y0 y1 y2 y3 => some (y0, y1, y2, y3), un := fun r => [.int .i64 r.1, .int .i64 r.2.1, .int .i64 r.2.2.1, .bool r.2.2.2] }
def round_formOf.F (k : Nat) : Fun := { S := round_formOf.S, f := round_formOf.f }
def round_formOf.C (k : Nat) : Cfg := { T := TT, G := lookG [], nt := 12, cuts := [], M0 := tabM }
def round_formOf.H (k : Nat) : List (CutF round_formOf.S.R) := []
def nat_May.f (x0 : List Int) : Option (Bool) := if (x0.length : Int) ≤ 4096 then (if (x0.length : Int) = 0 then (some true) else (if 0 ≤ wrap64 ((x0.length : Int) - 1) then (if wrap64 ((x0.length : Int) - 1) < (x0.length : Int) then (some (decide (¬ (rd x0 (wrap64 ((x0.length : Int) - 1)) = 0)))) else (none)) else (none))) else (some false)
abbrev nat_May.S : Sig := { ps := [.lf (.is .u32)], rs := [.lf (.b)], wb := [], R := Bool, mkR := fun y0 => some y0, un := fun r => [.bool r] }
def nat_May.F (k : Nat) : Fun := { S := nat_May.S, f := nat_May.f }
def nat_May.C (k : Nat) : Cfg := { T := TT, G := lookG [], nt := 20, cuts := [], M0 := tabM }
def nat_May.H (k : Nat) : List (CutF nat_May.S.R) := []
def dyad_inside.f (x0 : Int) : Option (Bool) := if (-16777216) ≤ x0 then (some (decide (x0 ≤ 16777216))) else (some false)
abbrev dyad_inside.S : Sig := { ps := [.lf (.i .i64)], rs := [.lf (.b)], wb := [], R := Bool, mkR := fun y0 => some y0, un := fun r => [.bool r] }
def dyad_inside.F (k : Nat) : Fun := { S := dyad_inside.S, f := dyad_inside.f }
def dyad_inside.C (k : Nat) : Cfg := { T := TT, G := lookG [], nt := 9, cuts := [], M0 := tabM }
def dyad_inside.H (k : Nat) : List (CutF dyad_inside.S.R) := []
def dyad_May.f (x0_0 : Bool) (x0_1 : List Int) (x0_2 : Int) : Option (Bool) := (nat_May.f x0_1).bind fun t44 => (if (!t44) = true then (some false) else (if (x0_1.length : Int) = 0 then (if (!x0_0) = true then (some (decide (x0_2 = 0))) else (some false)) else (if 0 < (x0_1.length : Int) then (if (Go.bits .and .u32 (rd x0_1 0) 1) = 1 then ((dyad_inside.f x0_2).bind fun t45 => (some t45)) else (some false)) else (none))))
abbrev dyad_May.S : Sig := { ps := [.ag [.b, .is .u32, .i .i64]], rs := [.lf (.b)], wb := [], R := Bool, mkR := fun y0 => some y0, un := fun r => [.bool r] }
def dyad_May.F (k : Nat) : Fun := { S := dyad_May.S, f := dyad_May.f }
def dyad_May.C (k : Nat) : Cfg := { T := TT, G := lookG [(91, [nat_May.F k]), (104, [dyad_inside.F k])], nt := 30, cuts := [], M0 := tabM }
def dyad_May.H (k : Nat) : List (CutF dyad_May.S.R) := []
def round_open.l0 : Nat → Int → Int → Int → Int → Int → Int → List (Bool × List Int × Int) → Int → Int → Option (Int × Int × Int × Int)
  | 0, _, _, _, _, _, _, _, _, _ => none
  | k + 1, x6_0, x6_1, x6_2, x8_0, x8_1, x8_2, x27, x28, x29 => if x29 < x28 then (if 0 ≤ x29 then (if x29 < (x27.length : Int) then ((dyad_May.f ((rdT [.b, .is .u32, .i .i64] x27 x29).1) ((rdT [.b, .is .u32, .i .i64] x27 x29).2.1) ((rdT [.b, .is .u32, .i .i64] x27 x29).2.2)).bind fun t55 => (if (!t55) = true then (some (x8_0, x8_1, x8_2, 2)) else (round_open.l0 k x6_0 x6_1 x6_2 x8_0 x8_1 x8_2 x27 x28 (wrap64 (x29 + 1))))) else (none)) else (none)) else (some (x8_0, x8_1, x8_2, 0))
def round_open.f (k : Nat) (x0 : Int) (x1 : Int) (x2 : List (Bool × List Int × Int)) : Option (Int × Int × Int × Int) := (round_formOf.f x0).bind fun t54 => (if (!t54.2.2.2) = true then (some (t54.1, t54.2.1, t54.2.2.1, 4)) else (if x1 < 1 then (some (t54.1, t54.2.1, t54.2.2.1, 5)) else (if x1 > 5 then (some (t54.1, t54.2.1, t54.2.2.1, 5)) else (round_open.l0 k 0 0 0 t54.1 t54.2.1 t54.2.2.1 x2 (x2.length : Int) 0))))
abbrev round_open.S : Sig := { ps := [.lf (.i .u8), .lf (.i .u8), .lf (.rw [.b, .is .u32, .i .i64])], rs := [.ag [.i .i64, .i .i64, .i .i64], .lf (.i .i64)], wb := [], R := Int × Int × Int × Int, mkR := fun y0 y1 y2 y3 => some (y0, y1, y2, y3), un := fun r => [.int .i64 r.1, .int .i64 r.2.1, .int .i64 r.2.2.1, .int .i64 r.2.2.2] }
def round_open.F (k : Nat) : Fun := { S := round_open.S, f := round_open.f k }
abbrev round_open.vl0 : List (Nat × Kx) := [(6, .bx [.i .i64, .i .i64, .i .i64]), (8, .bx [.i .i64, .i .i64, .i .i64]), (27, .lf (.rw [.b, .is .u32, .i .i64])), (28, .lf (.i .i64)), (29, .lf (.i .i64))]
def round_open.C (k : Nat) : Cfg := { T := TT, G := lookG [(78, [dyad_May.F k]), (94, [round_formOf.F k])], nt := 39, cuts := [⟨codeOf [true, true, true, true, false, true, false] 1, [true, true, true, true, false, true, false], round_open.vl0⟩], M0 := tabM }
def round_open.H (k : Nat) : List (CutF round_open.S.R) := [⟨round_open.vl0, round_open.l0 k⟩]
def word_shapeOf.f (x0 : Int) : Option (Int × Int × Int × Bool) := if x0 = 1 then (some (23, 255, 2147483648, true)) else (if x0 = 2 then (some (52, 2047, 9223372036854775808, true)) else (some (0, 0, 0, false)))
abbrev word_shapeOf.S : Sig := { ps := [.lf (.i .u8)], rs := [.ag [.i .i64, .i .i64, .i .u64], .lf (.b)], wb := [], R := Int × Int × Int × Bool, mkR := fun y0 y1 y2 y3 => some (y0, y1, y2, y3), un := fun r => [.int .i64 r.1, .int .i64 r.2.1, .int .u64 r.2.2.1, .bool r.2.2.2] }
def word_shapeOf.F (k : Nat) : Fun := { S := word_shapeOf.S, f := word_shapeOf.f }
def word_shapeOf.C (k : Nat) : Cfg := { T := TT, G := lookG [], nt := 12, cuts := [], M0 := tabM }
def word_shapeOf.H (k : Nat) : List (CutF word_shapeOf.S.R) := []
def word_open.l0 : Nat → Int → Int → Int → Int → Int → Int → List Int → Int → Int → Option (Int × Int × Int × Int)
  | 0, _, _, _, _, _, _, _, _, _ => none
  | k + 1, x4_0, x4_1, x4_2, x6_0, x6_1, x6_2, x18, x19, x20 => if x20 < x19 then (if 0 ≤ x20 then (if x20 < (x18.length : Int) then (if (rd x18 x20) > (Go.bits .or .u64 x6_2 (IntKind.u64.wrap (x6_2 - 1))) then (some (x6_0, x6_1, x6_2, 6)) else (word_open.l0 k x4_0 x4_1 x4_2 x6_0 x6_1 x6_2 x18 x19 (wrap64 (x20 + 1)))) else (none)) else (none)) else (some (x6_0, x6_1, x6_2, 0))
def word_open.f (k : Nat) (x0 : Int) (x1 : List Int) : Option (Int × Int × Int × Int) := (word_shapeOf.f x0).bind fun t65 => (if (!t65.2.2.2) = true then (some (t65.1, t65.2.1, t65.2.2.1, 4)) else (word_open.l0 k 0 0 0 t65.1 t65.2.1 t65.2.2.1 x1 (x1.length : Int) 0))
abbrev word_open.S : Sig := { ps := [.lf (.i .u8), .lf (.is .u64)], rs := [.ag [.i .i64, .i .i64, .i .u64], .lf (.i .i64)], wb := [], R := Int × Int × Int × Int, mkR := fun y0 y1 y2 y3 => some (y0, y1, y2, y3), un := fun r => [.int .i64 r.1, .int .i64 r.2.1, .int .u64 r.2.2.1, .int .i64 r.2.2.2] }
def word_open.F (k : Nat) : Fun := { S := word_open.S, f := word_open.f k }
abbrev word_open.vl0 : List (Nat × Kx) := [(4, .bx [.i .i64, .i .i64, .i .u64]), (6, .bx [.i .i64, .i .i64, .i .u64]), (18, .lf (.is .u64)), (19, .lf (.i .i64)), (20, .lf (.i .i64))]
def word_open.C (k : Nat) : Cfg := { T := TT, G := lookG [(103, [word_shapeOf.F k])], nt := 35, cuts := [⟨codeOf [true, true, true, false, true, false] 1, [true, true, true, false, true, false], word_open.vl0⟩], M0 := tabM }
def word_open.H (k : Nat) : List (CutF word_open.S.R) := [⟨word_open.vl0, word_open.l0 k⟩]
def word_shape_inf.f (x0_0 : Int) (x0_1 : Int) (x0_2 : Int) : Option (Int) := if 0 ≤ x0_0 then (some (shl .u64 (IntKind.u64.wrap x0_1) x0_0)) else (none)
abbrev word_shape_inf.S : Sig := { ps := [.ag [.i .i64, .i .i64, .i .u64]], rs := [.lf (.i .u64)], wb := [], R := Int, mkR := fun y0 => some y0, un := fun r => [.int .u64 r] }
def word_shape_inf.F (k : Nat) : Fun := { S := word_shape_inf.S, f := word_shape_inf.f }
def word_shape_inf.C (k : Nat) : Cfg := { T := TT, G := lookG [], nt := 9, cuts := [], M0 := tabM }
def word_shape_inf.H (k : Nat) : List (CutF word_shape_inf.S.R) := []
def word_Greatest_1.f (x0_0 : Int) (x0_1 : Int) (x0_2 : Int) : Option (Int) := (word_shape_inf.f x0_0 x0_1 x0_2).bind fun t68 => (some (IntKind.u64.wrap (t68 - 1)))
abbrev word_Greatest_1.S : Sig := { ps := [.ag [.i .i64, .i .i64, .i .u64]], rs := [.lf (.i .u64)], wb := [], R := Int, mkR := fun y0 => some y0, un := fun r => [.int .u64 r] }
def word_Greatest_1.F (k : Nat) : Fun := { S := word_Greatest_1.S, f := word_Greatest_1.f }
def word_Greatest_1.C (k : Nat) : Cfg := { T := TT, G := lookG [(58, [word_shape_inf.F k])], nt := 6, cuts := [], M0 := tabM }
def word_Greatest_1.H (k : Nat) : List (CutF word_Greatest_1.S.R) := []
def word_named_word_Greatest_1.f (k : Nat) (x0 : Int) (x1 : Bool) : Option (Int × Int) := (word_open.f k x0 ([] : List Int)).bind fun t76 => (if ¬ (t76.2.2.2 = 0) then (some (0, t76.2.2.2)) else ((word_Greatest_1.f t76.1 t76.2.1 t76.2.2.1).bind fun t77 => (if x1 = true then (some (Go.bits .or .u64 t77 t76.2.2.1, 0)) else (some (t77, 0)))))
abbrev word_named_word_Greatest_1.S : Sig := { ps := [.lf (.i .u8), .lf (.b), .lf (.fn 106)], rs := [.lf (.i .u64), .lf (.i .i64)], wb := [], R := Int × Int, mkR := fun y0 y1 => some (y0, y1), un := fun r => [.int .u64 r.1, .int .i64 r.2] }
def word_named_word_Greatest_1.F (k : Nat) : Fun := { S := word_named_word_Greatest_1.S, f := word_named_word_Greatest_1.f k }
def word_named_word_Greatest_1.C (k : Nat) : Cfg := { T := TT, G := lookG [(77, [word_open.F k]), (106, [word_Greatest_1.F k])], nt := 28, cuts := [], M0 := tabM }
def word_named_word_Greatest_1.H (k : Nat) : List (CutF word_named_word_Greatest_1.S.R) := []
def word_Greatest.f (k : Nat) (x0 : Int) (x1 : Bool) : Option (Int × Int) := (word_named_word_Greatest_1.f k x0 x1).bind fun t78 => (some (t78.1, t78.2))
abbrev word_Greatest.S : Sig := { ps := [.lf (.i .u8), .lf (.b)], rs := [.lf (.i .u64), .lf (.i .i64)], wb := [], R := Int × Int, mkR := fun y0 y1 => some (y0, y1), un := fun r => [.int .u64 r.1, .int .i64 r.2] }
def word_Greatest.F (k : Nat) : Fun := { S := word_Greatest.S, f := word_Greatest.f k }
def word_Greatest.C (k : Nat) : Cfg := { T := TT, G := lookG [(56, [word_named_word_Greatest_1.F k])], nt := 11, cuts := [], M0 := tabM }
def word_Greatest.H (k : Nat) : List (CutF word_Greatest.S.R) := []
def word_named_word_shape_inf.f (k : Nat) (x0 : Int) (x1 : Bool) : Option (Int × Int) := (word_open.f k x0 ([] : List Int)).bind fun t90 => (if ¬ (t90.2.2.2 = 0) then (some (0, t90.2.2.2)) else ((word_shape_inf.f t90.1 t90.2.1 t90.2.2.1).bind fun t91 => (if x1 = true then (some (Go.bits .or .u64 t91 t90.2.2.1, 0)) else (some (t91, 0)))))
abbrev word_named_word_shape_inf.S : Sig := { ps := [.lf (.i .u8), .lf (.b), .lf (.fn 58)], rs := [.lf (.i .u64), .lf (.i .i64)], wb := [], R := Int × Int, mkR := fun y0 y1 => some (y0, y1), un := fun r => [.int .u64 r.1, .int .i64 r.2] }
def word_named_word_shape_inf.F (k : Nat) : Fun := { S := word_named_word_shape_inf.S, f := word_named_word_shape_inf.f k }
def word_named_word_shape_inf.C (k : Nat) : Cfg := { T := TT, G := lookG [(58, [word_shape_inf.F k]), (77, [word_open.F k])], nt := 28, cuts := [], M0 := tabM }
def word_named_word_shape_inf.H (k : Nat) : List (CutF word_named_word_shape_inf.S.R) := []
def word_Inf.f (k : Nat) (x0 : Int) (x1 : Bool) : Option (Int × Int) := (word_named_word_shape_inf.f k x0 x1).bind fun t92 => (some (t92.1, t92.2))
abbrev word_Inf.S : Sig := { ps := [.lf (.i .u8), .lf (.b)], rs := [.lf (.i .u64), .lf (.i .i64)], wb := [], R := Int × Int, mkR := fun y0 y1 => some (y0, y1), un := fun r => [.int .u64 r.1, .int .i64 r.2] }
def word_Inf.F (k : Nat) : Fun := { S := word_Inf.S, f := word_Inf.f k }
def word_Inf.C (k : Nat) : Cfg := { T := TT, G := lookG [(56, [word_named_word_shape_inf.F k])], nt := 11, cuts := [], M0 := tabM }
def word_Inf.H (k : Nat) : List (CutF word_Inf.S.R) := []
def round_Over.j1 : Nat → Int → Bool → Bool → Option (Int × Int)
  | 0, _, _, _ => none
  | k + 1, x0, x2, x35 => if x35 = true then ((word_Greatest.f k x0 x2).bind fun t97 => (some (t97.1, t97.2))) else ((word_Inf.f k x0 x2).bind fun t98 => (some (t98.1, t98.2)))
def round_Over.f (k : Nat) (x0 : Int) (x1 : Int) (x2 : Bool) : Option (Int × Int) := (round_open.f k x0 x1 []).bind fun t96 => (if ¬ (t96.2.2.2 = 0) then (some (0, t96.2.2.2)) else (if x1 = 3 then (round_Over.j1 k x0 x2 true) else (if x1 = 4 then (if x2 = true then (round_Over.j1 k x0 x2 true) else (if x1 = 5 then (round_Over.j1 k x0 x2 (!x2)) else (round_Over.j1 k x0 x2 false))) else (if x1 = 5 then (round_Over.j1 k x0 x2 (!x2)) else (round_Over.j1 k x0 x2 false)))))
abbrev round_Over.S : Sig := { ps := [.lf (.i .u8), .lf (.i .u8), .lf (.b)], rs := [.lf (.i .u64), .lf (.i .i64)], wb := [], R := Int × Int, mkR := fun y0 y1 => some (y0, y1), un := fun r => [.int .u64 r.1, .int .i64 r.2] }
def round_Over.F (k : Nat) : Fun := { S := round_Over.S, f := round_Over.f k }
abbrev round_Over.vj1 : List (Nat × Kx) := [(0, .lf (.i .u8)), (2, .lf (.b)), (35, .lf (.b))]
def round_Over.C (k : Nat) : Cfg := { T := TT, G := lookG [(29, [word_Inf.F k]), (65, [round_open.F k]), (90, [word_Greatest.F k])], nt := 46, cuts := [⟨codeOf [true, true, false, true] 1, [true, true, false, true], round_Over.vj1⟩], M0 := tabM }
def round_Over.H (k : Nat) : List (CutF round_Over.S.R) := [⟨round_Over.vj1, round_Over.j1 k⟩]
def conv_mode.f (k : Nat) (x0 : Int) (x1 : Int) : Option (Int) := (round_Over.f k x0 x1 false).bind fun t99 => (some t99.2)
abbrev conv_mode.S : Sig := { ps := [.lf (.i .u8), .lf (.i .u8)], rs := [.lf (.i .i64)], wb := [], R := Int, mkR := fun y0 => some y0, un := fun r => [.int .i64 r] }
def conv_mode.F (k : Nat) : Fun := { S := conv_mode.S, f := conv_mode.f k }
def conv_mode.C (k : Nat) : Cfg := { T := TT, G := lookG [(54, [round_Over.F k])], nt := 14, cuts := [], M0 := tabM }
def conv_mode.H (k : Nat) : List (CutF conv_mode.S.R) := []
def word_shape_class.f (x0_0 : Int) (x0_1 : Int) (x0_2 : Int) (x1 : Int) : Option (Int) := if (Go.bits .andNot .u64 x1 x0_2) = 0 then (some 1) else (if 0 ≤ x0_0 then (if (Go.bits .andNot .u64 x1 x0_2) < (shl .u64 1 x0_0) then (some 2) else ((word_shape_inf.f x0_0 x0_1 x0_2).bind fun t110 => (if (Go.bits .andNot .u64 x1 x0_2) < t110 then (some 3) else ((word_shape_inf.f x0_0 x0_1 x0_2).bind fun t111 => (if (Go.bits .andNot .u64 x1 x0_2) = t111 then (some 4) else (some 5)))))) else (none))
abbrev word_shape_class.S : Sig := { ps := [.ag [.i .i64, .i .i64, .i .u64], .lf (.i .u64)], rs := [.lf (.i .u8)], wb := [], R := Int, mkR := fun y0 => some y0, un := fun r => [.int .u8 r] }
def word_shape_class.F (k : Nat) : Fun := { S := word_shape_class.S, f := word_shape_class.f }
def word_shape_class.C (k : Nat) : Cfg := { T := TT, G := lookG [(58, [word_shape_inf.F k])], nt := 29, cuts := [], M0 := tabM }
def word_shape_class.H (k : Nat) : List (CutF word_shape_class.S.R) := []
def word_Class.f (k : Nat) (x0 : Int) (x1 : Int) : Option (Int × Int) := (word_open.f k x0 ([x1] : List Int)).bind fun t113 => (if ¬ (t113.2.2.2 = 0) then (some (0, t113.2.2.2)) else ((word_shape_class.f t113.1 t113.2.1 t113.2.2.1 x1).bind fun t114 => (some (t114, 0))))
abbrev word_Class.S : Sig := { ps := [.lf (.i .u8), .lf (.i .u64)], rs := [.lf (.i .u8), .lf (.i .i64)], wb := [], R := Int × Int, mkR := fun y0 y1 => some (y0, y1), un := fun r => [.int .u8 r.1, .int .i64 r.2] }
def word_Class.F (k : Nat) : Fun := { S := word_Class.S, f := word_Class.f k }
def word_Class.C (k : Nat) : Cfg := { T := TT, G := lookG [(77, [word_open.F k]), (88, [word_shape_class.F k])], nt := 21, cuts := [], M0 := tabM }
def word_Class.H (k : Nat) : List (CutF word_Class.S.R) := []
def word_shape_split.f (x0_0 : Int) (x0_1 : Int) (x0_2 : Int) (x1 : Int) : Option (Bool × Int × Int) := if 0 ≤ x0_0 then (if 0 ≤ x0_0 then (some (decide (¬ (Go.bits .and .u64 x1 x0_2 = 0)), wrap64 (shr .u64 (Go.bits .andNot .u64 x1 x0_2) x0_0), Go.bits .and .u64 (Go.bits .andNot .u64 x1 x0_2) (IntKind.u64.wrap ((shl .u64 1 x0_0) - 1)))) else (none)) else (none)
abbrev word_shape_split.S : Sig := { ps := [.ag [.i .i64, .i .i64, .i .u64], .lf (.i .u64)], rs := [.ag [.b, .i .i64, .i .u64]], wb := [], R := Bool × Int × Int, mkR := fun y0 y1 y2 => some (y0, y1, y2), un := fun r => [.bool r.1, .int .i64 r.2.1, .int .u64 r.2.2] }
def word_shape_split.F (k : Nat) : Fun := { S := word_shape_split.S, f := word_shape_split.f }
def word_shape_split.C (k : Nat) : Cfg := { T := TT, G := lookG [], nt := 27, cuts := [], M0 := tabM }
def word_shape_split.H (k : Nat) : List (CutF word_shape_split.S.R) := []
def word_Split.f (k : Nat) (x0 : Int) (x1 : Int) : Option (Bool × Int × Int × Int) := (word_open.f k x0 ([x1] : List Int)).bind fun t119 => (if ¬ (t119.2.2.2 = 0) then (some (false, 0, 0, t119.2.2.2)) else ((word_shape_split.f t119.1 t119.2.1 t119.2.2.1 x1).bind fun t120 => (some (t120.1, t120.2.1, t120.2.2, 0))))
abbrev word_Split.S : Sig := { ps := [.lf (.i .u8), .lf (.i .u64)], rs := [.ag [.b, .i .i64, .i .u64], .lf (.i .i64)], wb := [], R := Bool × Int × Int × Int, mkR := fun y0 y1 y2 y3 => some (y0, y1, y2, y3), un := fun r => [.bool r.1, .int .i64 r.2.1, .int .u64 r.2.2.1, .int .i64 r.2.2.2] }
def word_Split.F (k : Nat) : Fun := { S := word_Split.S, f := word_Split.f k }
def word_Split.C (k : Nat) : Cfg := { T := TT, G := lookG [(61, [word_shape_split.F k]), (77, [word_open.F k])], nt := 22, cuts := [], M0 := tabM }
def word_Split.H (k : Nat) : List (CutF word_Split.S.R) := []
def conv_open.f (k : Nat) (x0 : Int) (x1 : Int) (x2 : Int) : Option (Int × Bool × Int) := (conv_mode.f k x0 x1).bind fun t122 => (if ¬ (t122 = 0) then (some (0, false, t122)) else ((word_Class.f k x0 x2).bind fun t123 => ((word_Split.f k x0 x2).bind fun t124 => (some (t123.1, t124.1, t123.2)))))
abbrev conv_open.S : Sig := { ps := [.lf (.i .u8), .lf (.i .u8), .lf (.i .u64)], rs := [.lf (.i .u8), .lf (.b), .lf (.i .i64)], wb := [], R := Int × Bool × Int, mkR := fun y0 y1 y2 => some (y0, y1, y2), un := fun r => [.int .u8 r.1, .bool r.2.1, .int .i64 r.2.2] }
def conv_open.F (k : Nat) : Fun := { S := conv_open.S, f := conv_open.f k }
def conv_open.C (k : Nat) : Cfg := { T := TT, G := lookG [(26, [conv_mode.F k]), (52, [word_Class.F k]), (55, [word_Split.F k])], nt := 36, cuts := [], M0 := tabM }
def conv_open.H (k : Nat) : List (CutF conv_open.S.R) := []
def word_shape_none.f (x0_0 : Int) (x0_1 : Int) (x0_2 : Int) : Option (Int) := (word_shape_inf.f x0_0 x0_1 x0_2).bind fun t129 => (if 0 ≤ (wrap64 (x0_0 - 1)) then (some (Go.bits .or .u64 t129 (shl .u64 1 (wrap64 (x0_0 - 1))))) else (none))
abbrev word_shape_none.S : Sig := { ps := [.ag [.i .i64, .i .i64, .i .u64]], rs := [.lf (.i .u64)], wb := [], R := Int, mkR := fun y0 => some y0, un := fun r => [.int .u64 r] }
def word_shape_none.F (k : Nat) : Fun := { S := word_shape_none.S, f := word_shape_none.f }
def word_shape_none.C (k : Nat) : Cfg := { T := TT, G := lookG [(58, [word_shape_inf.F k])], nt := 10, cuts := [], M0 := tabM }
def word_shape_none.H (k : Nat) : List (CutF word_shape_none.S.R) := []
def word_named_word_shape_none.f (k : Nat) (x0 : Int) (x1 : Bool) : Option (Int × Int) := (word_open.f k x0 ([] : List Int)).bind fun t137 => (if ¬ (t137.2.2.2 = 0) then (some (0, t137.2.2.2)) else ((word_shape_none.f t137.1 t137.2.1 t137.2.2.1).bind fun t138 => (if x1 = true then (some (Go.bits .or .u64 t138 t137.2.2.1, 0)) else (some (t138, 0)))))
abbrev word_named_word_shape_none.S : Sig := { ps := [.lf (.i .u8), .lf (.b), .lf (.fn 57)], rs := [.lf (.i .u64), .lf (.i .i64)], wb := [], R := Int × Int, mkR := fun y0 y1 => some (y0, y1), un := fun r => [.int .u64 r.1, .int .i64 r.2] }
def word_named_word_shape_none.F (k : Nat) : Fun := { S := word_named_word_shape_none.S, f := word_named_word_shape_none.f k }
def word_named_word_shape_none.C (k : Nat) : Cfg := { T := TT, G := lookG [(57, [word_shape_none.F k]), (77, [word_open.F k])], nt := 28, cuts := [], M0 := tabM }
def word_named_word_shape_none.H (k : Nat) : List (CutF word_named_word_shape_none.S.R) := []
def word_None.f (k : Nat) (x0 : Int) : Option (Int × Int) := (word_named_word_shape_none.f k x0 false).bind fun t139 => (some (t139.1, t139.2))
abbrev word_None.S : Sig := { ps := [.lf (.i .u8)], rs := [.lf (.i .u64), .lf (.i .i64)], wb := [], R := Int × Int, mkR := fun y0 y1 => some (y0, y1), un := fun r => [.int .u64 r.1, .int .i64 r.2] }
def word_None.F (k : Nat) : Fun := { S := word_None.S, f := word_None.f k }
def word_None.C (k : Nat) : Cfg := { T := TT, G := lookG [(56, [word_named_word_shape_none.F k])], nt := 8, cuts := [], M0 := tabM }
def word_None.H (k : Nat) : List (CutF word_None.S.R) := []
def word_Zero_1.f (x0_0 : Int) (x0_1 : Int) (x0_2 : Int) : Option (Int) := some 0
abbrev word_Zero_1.S : Sig := { ps := [.ag [.i .i64, .i .i64, .i .u64]], rs := [.lf (.i .u64)], wb := [], R := Int, mkR := fun y0 => some y0, un := fun r => [.int .u64 r] }
def word_Zero_1.F (k : Nat) : Fun := { S := word_Zero_1.S, f := word_Zero_1.f }
def word_Zero_1.C (k : Nat) : Cfg := { T := TT, G := lookG [], nt := 3, cuts := [], M0 := tabM }
def word_Zero_1.H (k : Nat) : List (CutF word_Zero_1.S.R) := []
def word_named_word_Zero_1.f (k : Nat) (x0 : Int) (x1 : Bool) : Option (Int × Int) := (word_open.f k x0 ([] : List Int)).bind fun t151 => (if ¬ (t151.2.2.2 = 0) then (some (0, t151.2.2.2)) else ((word_Zero_1.f t151.1 t151.2.1 t151.2.2.1).bind fun t152 => (if x1 = true then (some (Go.bits .or .u64 t152 t151.2.2.1, 0)) else (some (t152, 0)))))
abbrev word_named_word_Zero_1.S : Sig := { ps := [.lf (.i .u8), .lf (.b), .lf (.fn 59)], rs := [.lf (.i .u64), .lf (.i .i64)], wb := [], R := Int × Int, mkR := fun y0 y1 => some (y0, y1), un := fun r => [.int .u64 r.1, .int .i64 r.2] }
def word_named_word_Zero_1.F (k : Nat) : Fun := { S := word_named_word_Zero_1.S, f := word_named_word_Zero_1.f k }
def word_named_word_Zero_1.C (k : Nat) : Cfg := { T := TT, G := lookG [(59, [word_Zero_1.F k]), (77, [word_open.F k])], nt := 28, cuts := [], M0 := tabM }
def word_named_word_Zero_1.H (k : Nat) : List (CutF word_named_word_Zero_1.S.R) := []
def word_Zero.f (k : Nat) (x0 : Int) (x1 : Bool) : Option (Int × Int) := (word_named_word_Zero_1.f k x0 x1).bind fun t153 => (some (t153.1, t153.2))
abbrev word_Zero.S : Sig := { ps := [.lf (.i .u8), .lf (.b)], rs := [.lf (.i .u64), .lf (.i .i64)], wb := [], R := Int × Int, mkR := fun y0 y1 => some (y0, y1), un := fun r => [.int .u64 r.1, .int .i64 r.2] }
def word_Zero.F (k : Nat) : Fun := { S := word_Zero.S, f := word_Zero.f k }
def word_Zero.C (k : Nat) : Cfg := { T := TT, G := lookG [(56, [word_named_word_Zero_1.F k])], nt := 11, cuts := [], M0 := tabM }
def word_Zero.H (k : Nat) : List (CutF word_Zero.S.R) := []
def word_finite.f (k : Nat) (x0 : Int) (x1 : Int) : Option (Int × Int × Int × Int) := (word_open.f k x0 ([x1] : List Int)).bind fun t162 => (if t162.2.2.2 = 0 then ((word_shape_class.f t162.1 t162.2.1 t162.2.2.1 x1).bind fun t163 => (if t163 ≥ 4 then (some (t162.1, t162.2.1, t162.2.2.1, 7)) else (some (t162.1, t162.2.1, t162.2.2.1, t162.2.2.2)))) else (some (t162.1, t162.2.1, t162.2.2.1, t162.2.2.2)))
abbrev word_finite.S : Sig := { ps := [.lf (.i .u8), .lf (.i .u64)], rs := [.ag [.i .i64, .i .i64, .i .u64], .lf (.i .i64)], wb := [], R := Int × Int × Int × Int, mkR := fun y0 y1 y2 y3 => some (y0, y1, y2, y3), un := fun r => [.int .i64 r.1, .int .i64 r.2.1, .int .u64 r.2.2.1, .int .i64 r.2.2.2] }
def word_finite.F (k : Nat) : Fun := { S := word_finite.S, f := word_finite.f k }
def word_finite.C (k : Nat) : Cfg := { T := TT, G := lookG [(77, [word_open.F k]), (88, [word_shape_class.F k])], nt := 25, cuts := [], M0 := tabM }
def word_finite.H (k : Nat) : List (CutF word_finite.S.R) := []
def nat_trim.l0 : Nat → List Int → Option (List Int)
  | 0, _ => none
  | k + 1, x0 => if (x0.length : Int) > 0 then (if 0 ≤ wrap64 ((x0.length : Int) - 1) then (if wrap64 ((x0.length : Int) - 1) < (x0.length : Int) then (if (rd x0 (wrap64 ((x0.length : Int) - 1))) = 0 then (if 0 ≤ (wrap64 ((x0.length : Int) - 1)) then (if (wrap64 ((x0.length : Int) - 1)) ≤ (x0.length : Int) then (nat_trim.l0 k (x0.take (wrap64 ((x0.length : Int) - 1) : Int).toNat)) else (none)) else (none)) else (some x0)) else (none)) else (none)) else (some x0)
def nat_trim.f (k : Nat) (x0 : List Int) : Option (List Int) := nat_trim.l0 k x0
abbrev nat_trim.S : Sig := { ps := [.ow .u32], rs := [.ow .u32], wb := [], R := List Int, mkR := fun y0 => some y0, un := fun r => [.ints .u32 r] }
def nat_trim.F (k : Nat) : Fun := { S := nat_trim.S, f := nat_trim.f k }
abbrev nat_trim.vl0 : List (Nat × Kx) := [(0, .ow .u32)]
def nat_trim.C (k : Nat) : Cfg := { T := TT, G := lookG [], nt := 21, cuts := [⟨codeOf [true, false, false] 1, [true, false, false], nat_trim.vl0⟩], M0 := tabM }
def nat_trim.H (k : Nat) : List (CutF nat_trim.S.R) := [⟨nat_trim.vl0, nat_trim.l0 k⟩]
abbrev nat_trim.S1 : Sig := { ps := [.lf (.is .u32)], rs := [.lf (.is .u32)], wb := [], R := List Int, mkR := fun y0 => some y0, un := fun r => [.ints .u32 r] }
def nat_trim.F1 (k : Nat) : Fun := { S := nat_trim.S1, f := nat_trim.f k }
abbrev nat_trim.vl01 : List (Nat × Kx) := [(0, .lf (.is .u32))]
def nat_trim.C1 (k : Nat) : Cfg := { T := TT, G := lookG [], nt := 21, cuts := [⟨codeOf [true, false, false] 1, [true, false, false], nat_trim.vl01⟩], M0 := tabM }
def nat_trim.H1 (k : Nat) : List (CutF nat_trim.S1.R) := [⟨nat_trim.vl01, nat_trim.l0 k⟩]
def nat_Of.f (k : Nat) (x0 : Int) : Option (List Int) := (nat_trim.f k ([x0 % 4294967296, (x0 / 4294967296) % 4294967296] : List Int)).bind fun t168 => (some t168)
abbrev nat_Of.S : Sig := { ps := [.lf (.i .u64)], rs := [.lf (.is .u32)], wb := [], R := List Int, mkR := fun y0 => some y0, un := fun r => [.ints .u32 r] }
def nat_Of.F (k : Nat) : Fun := { S := nat_Of.S, f := nat_Of.f k }
def nat_Of.C (k : Nat) : Cfg := { T := TT, G := lookG [(93, [nat_trim.F k, nat_trim.F1 k])], nt := 10, cuts := [], M0 := tabM }
def nat_Of.H (k : Nat) : List (CutF nat_Of.S.R) := []
def word_shape_low.f (x0_0 : Int) (x0_1 : Int) (x0_2 : Int) : Option (Int) := some (wrap64 ((wrap64 (1 - (wrap64 (Int.tdiv x0_1 2)))) - x0_0))
abbrev word_shape_low.S : Sig := { ps := [.ag [.i .i64, .i .i64, .i .u64]], rs := [.lf (.i .i64)], wb := [], R := Int, mkR := fun y0 => some y0, un := fun r => [.int .i64 r] }
def word_shape_low.F (k : Nat) : Fun := { S := word_shape_low.S, f := word_shape_low.f }
def word_shape_low.C (k : Nat) : Cfg := { T := TT, G := lookG [], nt := 10, cuts := [], M0 := tabM }
def word_shape_low.H (k : Nat) : List (CutF word_shape_low.S.R) := []
abbrev bits_TrailingZeros32.S : Sig := { ps := [.lf (.i .u32)], rs := [.lf (.i .i64)], wb := [], R := Int, mkR := fun y0 => some y0, un := fun r => [.int .i64 r] }
def bits_TrailingZeros32.F (k : Nat) : Fun := { S := bits_TrailingZeros32.S, f := bits_TrailingZeros32.f }
def nat_Low.l0 : Nat → List Int → Int → Int → Option (Int)
  | 0, _, _, _ => none
  | k + 1, x8, x9, x10 => if x10 < x9 then (if 0 ≤ x10 then (if x10 < (x8.length : Int) then (if ¬ (rd x8 x10 = 0) then ((bits_TrailingZeros32.f (rd x8 x10)).bind fun t183 => (some (wrap64 ((wrap64 (32 * x10)) + t183)))) else (nat_Low.l0 k x8 x9 (wrap64 (x10 + 1)))) else (none)) else (none)) else (some 0)
def nat_Low.f (k : Nat) (x0 : List Int) : Option (Int) := (nat_May.f x0).bind fun t182 => (if (!t182) = true then (some 0) else (nat_Low.l0 k x0 (x0.length : Int) 0))
abbrev nat_Low.S : Sig := { ps := [.lf (.is .u32)], rs := [.lf (.i .i64)], wb := [], R := Int, mkR := fun y0 => some y0, un := fun r => [.int .i64 r] }
def nat_Low.F (k : Nat) : Fun := { S := nat_Low.S, f := nat_Low.f k }
abbrev nat_Low.vl0 : List (Nat × Kx) := [(8, .lf (.is .u32)), (9, .lf (.i .i64)), (10, .lf (.i .i64))]
def nat_Low.C (k : Nat) : Cfg := { T := TT, G := lookG [(91, [nat_May.F k]), (107, [bits_TrailingZeros32.F k])], nt := 23, cuts := [⟨codeOf [true, true, false, true, false] 1, [true, true, false, true, false], nat_Low.vl0⟩], M0 := tabM }
def nat_Low.H (k : Nat) : List (CutF nat_Low.S.R) := [⟨nat_Low.vl0, nat_Low.l0 k⟩]
def nat_down.l0 : Nat → List Int → Int → List Int → List Int → Int → Int → Option (List Int)
  | 0, _, _, _, _, _, _ => none
  | k + 1, x0, x5, x6, x23, x24, x25 => if x25 < x24 then (if 0 ≤ x25 then (if x25 < (x23.length : Int) then (if 0 ≤ x5 then (if 0 ≤ x25 then (if x25 < (x6.length : Int) then (if (wrap64 (x25 + 1)) < (x0.length : Int) then (if 0 ≤ x25 then (if x25 < ((x6.set (x25 : Int).toNat (shr .u32 (rd x23 x25) x5)).length : Int) then (if 0 ≤ wrap64 (x25 + 1) then (if wrap64 (x25 + 1) < (x0.length : Int) then (if 0 ≤ (wrap64 (32 - x5)) then (if 0 ≤ x25 then (if x25 < ((x6.set (x25 : Int).toNat (shr .u32 (rd x23 x25) x5)).length : Int) then (nat_down.l0 k x0 x5 ((x6.set (x25 : Int).toNat (shr .u32 (rd x23 x25) x5)).set (x25 : Int).toNat (Go.bits .or .u32 (rd (x6.set (x25 : Int).toNat (shr .u32 (rd x23 x25) x5)) x25) ((shl .u64 (IntKind.u64.wrap (rd x0 (wrap64 (x25 + 1)))) (wrap64 (32 - x5))) % 4294967296))) x23 x24 (wrap64 (x25 + 1))) else (none)) else (none)) else (none)) else (none)) else (none)) else (none)) else (none)) else (nat_down.l0 k x0 x5 (x6.set (x25 : Int).toNat (shr .u32 (rd x23 x25) x5)) x23 x24 (wrap64 (x25 + 1)))) else (none)) else (none)) else (none)) else (none)) else (none)) else ((nat_trim.f k x6).bind fun t190 => (some t190))
def nat_down.f (k : Nat) (x0 : List Int) (x1 : Int) : Option (List Int) := if (wrap64 (Int.tdiv x1 32)) ≥ (x0.length : Int) then (some ([] : List Int)) else (if 0 ≤ (wrap64 (Int.tdiv x1 32)) then (if (wrap64 (Int.tdiv x1 32)) ≤ (x0.length : Int) then (if 0 ≤ ((x0.drop (wrap64 (Int.tdiv x1 32) : Int).toNat).length : Int) then (if (((x0.drop (wrap64 (Int.tdiv x1 32) : Int).toNat).length : Int) : Int).toNat ≤ 70368744177664 then (nat_down.l0 k (x0.drop (wrap64 (Int.tdiv x1 32) : Int).toNat) (Int.tmod x1 32) (List.replicate (((x0.drop (wrap64 (Int.tdiv x1 32) : Int).toNat).length : Int) : Int).toNat (0 : Int)) (x0.drop (wrap64 (Int.tdiv x1 32) : Int).toNat) ((x0.drop (wrap64 (Int.tdiv x1 32) : Int).toNat).length : Int) 0) else (none)) else (none)) else (none)) else (none))
abbrev nat_down.S : Sig := { ps := [.lf (.is .u32), .lf (.i .i64)], rs := [.lf (.is .u32)], wb := [], R := List Int, mkR := fun y0 => some y0, un := fun r => [.ints .u32 r] }
def nat_down.F (k : Nat) : Fun := { S := nat_down.S, f := nat_down.f k }
abbrev nat_down.vl0 : List (Nat × Kx) := [(0, .lf (.is .u32)), (5, .lf (.i .i64)), (6, .ow .u32), (23, .lf (.is .u32)), (24, .lf (.i .i64)), (25, .lf (.i .i64))]
def nat_down.C (k : Nat) : Cfg := { T := TT, G := lookG [(93, [nat_trim.F k, nat_trim.F1 k])], nt := 60, cuts := [⟨codeOf [true, true, true, true, true, false, true, false] 1, [true, true, true, true, true, false, true, false], nat_down.vl0⟩], M0 := tabM }
def nat_down.H (k : Nat) : List (CutF nat_down.S.R) := [⟨nat_down.vl0, nat_down.l0 k⟩]
mutual
def bits_Len32.j0 : Nat → Int → Int → Option (Int)
  | 0, _, _ => none
  | k + 1, x0, x2 => if x0 ≥ 256 then (bits_Len32.j1 k (x0 / 256) (wrap64 (x2 + 8))) else (bits_Len32.j1 k x0 x2)
def bits_Len32.j1 : Nat → Int → Int → Option (Int)
  | 0, _, _ => none
  | k + 1, x0, x2 => if 0 ≤ x0 % 256 then (if x0 % 256 < (txt0.size : Int) then (some (wrap64 (x2 + (wrap64 (bt txt0 (x0 % 256)))))) else (none)) else (none)
end
def bits_Len32.f (k : Nat) (x0 : Int) : Option (Int) := if x0 ≥ 65536 then (bits_Len32.j0 k (x0 / 65536) 16) else (bits_Len32.j0 k x0 0)
abbrev bits_Len32.S : Sig := { ps := [.lf (.i .u32)], rs := [.lf (.i .i64)], wb := [], R := Int, mkR := fun y0 => some y0, un := fun r => [.int .i64 r] }
def bits_Len32.F (k : Nat) : Fun := { S := bits_Len32.S, f := bits_Len32.f k }
abbrev bits_Len32.vj0 : List (Nat × Kx) := [(0, .lf (.i .u32)), (2, .lf (.i .i64))]
abbrev bits_Len32.vj1 : List (Nat × Kx) := [(0, .lf (.i .u32)), (2, .lf (.i .i64))]
def bits_Len32.C (k : Nat) : Cfg := { T := TT, G := lookG [], nt := 19, cuts := [⟨codeOf [true, true] 1, [true, true], bits_Len32.vj0⟩, ⟨codeOf [true, true, true] 1, [true, true, true], bits_Len32.vj1⟩], M0 := tabM }
def bits_Len32.H (k : Nat) : List (CutF bits_Len32.S.R) := [⟨bits_Len32.vj0, bits_Len32.j0 k⟩, ⟨bits_Len32.vj1, bits_Len32.j1 k⟩]
def nat_Len.f (k : Nat) (x0 : List Int) : Option (Int) := (nat_May.f x0).bind fun t200 => (if (!t200) = true then (some 0) else (if (x0.length : Int) = 0 then (some 0) else (if 0 ≤ wrap64 ((x0.length : Int) - 1) then (if wrap64 ((x0.length : Int) - 1) < (x0.length : Int) then ((bits_Len32.f k (rd x0 (wrap64 ((x0.length : Int) - 1)))).bind fun t201 => (some (wrap64 ((wrap64 (32 * (wrap64 ((x0.length : Int) - 1)))) + t201)))) else (none)) else (none))))
abbrev nat_Len.S : Sig := { ps := [.lf (.is .u32)], rs := [.lf (.i .i64)], wb := [], R := Int, mkR := fun y0 => some y0, un := fun r => [.int .i64 r] }
def nat_Len.F (k : Nat) : Fun := { S := nat_Len.S, f := nat_Len.f k }
def nat_Len.C (k : Nat) : Cfg := { T := TT, G := lookG [(91, [nat_May.F k]), (105, [bits_Len32.F k])], nt := 23, cuts := [], M0 := tabM }
def nat_Len.H (k : Nat) : List (CutF nat_Len.S.R) := []
def nat_up.l0 : Nat → List Int → Int → Int → List Int → Int → Int → Option (List Int)
  | 0, _, _, _, _, _, _ => none
  | k + 1, x5, x6, x7, x24, x25, x26 => if x26 < x25 then (if 0 ≤ x26 then (if x26 < (x24.length : Int) then (if 0 ≤ x6 then (if x5.length + ([Go.bits .or .u32 (shl .u32 (rd x24 x26) x6) x7] : List Int).length < 35184372088832 then (if 0 ≤ (wrap64 (32 - x6)) then (nat_up.l0 k (x5 ++ ([Go.bits .or .u32 (shl .u32 (rd x24 x26) x6) x7] : List Int)) x6 ((shr .u64 (IntKind.u64.wrap (rd x24 x26)) (wrap64 (32 - x6))) % 4294967296) x24 x25 (wrap64 (x26 + 1))) else (none)) else (none)) else (none)) else (none)) else (none)) else (if x5.length + ([x7] : List Int).length < 35184372088832 then ((nat_trim.f k (x5 ++ ([x7] : List Int))).bind fun t208 => (some t208)) else (none))
def nat_up.f (k : Nat) (x0 : List Int) (x1 : Int) : Option (List Int) := if (x0.length : Int) = 0 then (some ([] : List Int)) else (if 0 ≤ (wrap64 (Int.tdiv x1 32)) then (if (wrap64 (Int.tdiv x1 32)) ≤ (wrap64 ((wrap64 ((wrap64 (Int.tdiv x1 32)) + (x0.length : Int))) + 1)) then (if (wrap64 ((wrap64 ((wrap64 (Int.tdiv x1 32)) + (x0.length : Int))) + 1) : Int).toNat ≤ 70368744177664 then (nat_up.l0 k (List.replicate (wrap64 (Int.tdiv x1 32) : Int).toNat (0 : Int)) (Int.tmod x1 32) 0 x0 (x0.length : Int) 0) else (none)) else (none)) else (none))
abbrev nat_up.S : Sig := { ps := [.lf (.is .u32), .lf (.i .i64)], rs := [.ow .u32], wb := [], R := List Int, mkR := fun y0 => some y0, un := fun r => [.ints .u32 r] }
def nat_up.F (k : Nat) : Fun := { S := nat_up.S, f := nat_up.f k }
abbrev nat_up.vl0 : List (Nat × Kx) := [(5, .ow .u32), (6, .lf (.i .i64)), (7, .lf (.i .u32)), (24, .lf (.is .u32)), (25, .lf (.i .i64)), (26, .lf (.i .i64))]
def nat_up.C (k : Nat) : Cfg := { T := TT, G := lookG [(93, [nat_trim.F k, nat_trim.F1 k])], nt := 50, cuts := [⟨codeOf [true, true, true, true, false, true, false] 1, [true, true, true, true, false, true, false], nat_up.vl0⟩], M0 := tabM }
def nat_up.H (k : Nat) : List (CutF nat_up.S.R) := [⟨nat_up.vl0, nat_up.l0 k⟩]
def nat_Shift.f (k : Nat) (x0 : List Int) (x1 : Int) : Option (List Int × Bool × Int) := (nat_May.f x0).bind fun t210 => (if (!t210) = true then (some (([] : List Int), false, 2)) else (if (x0.length : Int) = 0 then (some (([] : List Int), false, 0)) else (if x1 < (-131072) then (some (([] : List Int), true, 0)) else (if x1 < 0 then ((nat_down.f k x0 (wrap64 (-x1))).bind fun t211 => ((nat_Low.f k x0).bind fun t212 => (some (t211, decide (t212 < (wrap64 (-x1))), 0)))) else ((nat_Len.f k x0).bind fun t213 => (if x1 > (wrap64 (131072 - t213)) then (some (([] : List Int), false, 3)) else ((nat_up.f k x0 x1).bind fun t214 => (some (t214, false, 0)))))))))
abbrev nat_Shift.S : Sig := { ps := [.lf (.is .u32), .lf (.i .i64)], rs := [.lf (.is .u32), .lf (.b), .lf (.i .i64)], wb := [], R := List Int × Bool × Int, mkR := fun y0 y1 y2 => some (y0, y1, y2), un := fun r => [.ints .u32 r.1, .bool r.2.1, .int .i64 r.2.2] }
def nat_Shift.F (k : Nat) : Fun := { S := nat_Shift.S, f := nat_Shift.f k }
def nat_Shift.C (k : Nat) : Cfg := { T := TT, G := lookG [(89, [nat_Len.F k]), (91, [nat_May.F k]), (92, [nat_Low.F k]), (96, [nat_down.F k]), (97, [nat_up.F k])], nt := 39, cuts := [], M0 := tabM }
def nat_Shift.H (k : Nat) : List (CutF nat_Shift.S.R) := []
def dyad_Make.f (k : Nat) (x0 : Bool) (x1 : List Int) (x2 : Int) : Option (Bool × List Int × Int × Int) := (nat_May.f x1).bind fun t222 => (if (!t222) = true then (some (false, ([] : List Int), 0, 2)) else (if (x1.length : Int) = 0 then (some (false, ([] : List Int), 0, 0)) else ((nat_Low.f k x1).bind fun t223 => (if x2 > (wrap64 (16777216 - t223)) then (some (false, ([] : List Int), 0, 20)) else (if x2 < (wrap64 ((-16777216) - t223)) then (some (false, ([] : List Int), 0, 20)) else ((nat_Shift.f k x1 (wrap64 (-t223))).bind fun t224 => (some (x0, t224.1, wrap64 (x2 + t223), 0))))))))
abbrev dyad_Make.S : Sig := { ps := [.lf (.b), .lf (.is .u32), .lf (.i .i64)], rs := [.ag [.b, .is .u32, .i .i64], .lf (.i .i64)], wb := [], R := Bool × List Int × Int × Int, mkR := fun y0 y1 y2 y3 => some (y0, y1, y2, y3), un := fun r => [.bool r.1, .ints .u32 r.2.1, .int .i64 r.2.2.1, .int .i64 r.2.2.2] }
def dyad_Make.F (k : Nat) : Fun := { S := dyad_Make.S, f := dyad_Make.f k }
def dyad_Make.C (k : Nat) : Cfg := { T := TT, G := lookG [(73, [nat_Shift.F k]), (91, [nat_May.F k]), (92, [nat_Low.F k])], nt := 47, cuts := [], M0 := tabM }
def dyad_Make.H (k : Nat) : List (CutF dyad_Make.S.R) := []
def word_Value.j1 : Nat → Bool → List Int → Int → Int → Int → Int → Bool → Int → Int → Option (Bool × List Int × Int × Int)
  | 0, _, _, _, _, _, _, _, _, _ => none
  | k + 1, x4_0, x4_1, x4_2, x6_0, x6_1, x6_2, x8_0, x8_1, x8_2 => (nat_Of.f k x8_2).bind fun t231 => ((word_shape_low.f x6_0 x6_1 x6_2).bind fun t232 => ((dyad_Make.f k x8_0 t231 (wrap64 ((wrap64 ((mx x8_1 1) - 1)) + t232))).bind fun t233 => (some (t233.1, t233.2.1, t233.2.2.1, t233.2.2.2))))
def word_Value.f (k : Nat) (x0 : Int) (x1 : Int) : Option (Bool × List Int × Int × Int) := (word_finite.f k x0 x1).bind fun t229 => (if ¬ (t229.2.2.2 = 0) then (some (false, ([] : List Int), 0, t229.2.2.2)) else ((word_shape_split.f t229.1 t229.2.1 t229.2.2.1 x1).bind fun t230 => (if t230.2.1 > 0 then (if 0 ≤ t229.1 then (word_Value.j1 k false ([] : List Int) 0 t229.1 t229.2.1 t229.2.2.1 t230.1 t230.2.1 (Go.bits .or .u64 t230.2.2 (shl .u64 1 t229.1))) else (none)) else (word_Value.j1 k false ([] : List Int) 0 t229.1 t229.2.1 t229.2.2.1 t230.1 t230.2.1 t230.2.2))))
abbrev word_Value.S : Sig := { ps := [.lf (.i .u8), .lf (.i .u64)], rs := [.ag [.b, .is .u32, .i .i64], .lf (.i .i64)], wb := [], R := Bool × List Int × Int × Int, mkR := fun y0 y1 y2 y3 => some (y0, y1, y2, y3), un := fun r => [.bool r.1, .ints .u32 r.2.1, .int .i64 r.2.2.1, .int .i64 r.2.2.2] }
def word_Value.F (k : Nat) : Fun := { S := word_Value.S, f := word_Value.f k }
abbrev word_Value.vj1 : List (Nat × Kx) := [(4, .bx [.b, .is .u32, .i .i64]), (6, .bx [.i .i64, .i .i64, .i .u64]), (8, .bx [.b, .i .i64, .i .u64])]
def word_Value.C (k : Nat) : Cfg := { T := TT, G := lookG [(60, [word_finite.F k]), (61, [word_shape_split.F k]), (62, [dyad_Make.F k]), (63, [nat_Of.F k]), (64, [word_shape_low.F k])], nt := 47, cuts := [⟨codeOf [true, true, true, true, true] 1, [true, true, true, true, true], word_Value.vj1⟩], M0 := tabM }
def word_Value.H (k : Nat) : List (CutF word_Value.S.R) := [⟨word_Value.vj1, word_Value.j1 k⟩]
def dyad_Sign.j0 : Nat → Bool → List Int → Int → Bool → Option (Int)
  | 0, _, _, _, _ => none
  | k + 1, x1_0, x1_1, x1_2, x3 => if x3 = true then (some 0) else (if x1_0 = true then (some (-1)) else (some 1))
def dyad_Sign.f (k : Nat) (x0_0 : Bool) (x0_1 : List Int) (x0_2 : Int) : Option (Int) := (dyad_May.f x0_0 x0_1 x0_2).bind fun t241 => (if (!t241) = true then (dyad_Sign.j0 k x0_0 x0_1 x0_2 true) else (dyad_Sign.j0 k x0_0 x0_1 x0_2 (decide ((x0_1.length : Int) = 0))))
abbrev dyad_Sign.S : Sig := { ps := [.ag [.b, .is .u32, .i .i64]], rs := [.lf (.i .i64)], wb := [], R := Int, mkR := fun y0 => some y0, un := fun r => [.int .i64 r] }
def dyad_Sign.F (k : Nat) : Fun := { S := dyad_Sign.S, f := dyad_Sign.f k }
abbrev dyad_Sign.vj0 : List (Nat × Kx) := [(1, .bx [.b, .is .u32, .i .i64]), (3, .lf (.b))]
def dyad_Sign.C (k : Nat) : Cfg := { T := TT, G := lookG [(78, [dyad_May.F k])], nt := 16, cuts := [⟨codeOf [true, false, false, true] 1, [true, false, false, true], dyad_Sign.vj0⟩], M0 := tabM }
def dyad_Sign.H (k : Nat) : List (CutF dyad_Sign.S.R) := [⟨dyad_Sign.vj0, dyad_Sign.j0 k⟩]
def nat_Num.l0 : Nat → Int → List Int → Int → Int → Option (Int × Bool)
  | 0, _, _, _, _ => none
  | k + 1, x4, x15, x16, x17 => if x17 < x16 then (if 0 ≤ x17 then (if x17 < (x15.length : Int) then (if 0 ≤ (wrap64 (32 * x17)) then (nat_Num.l0 k (Go.bits .or .u64 x4 (shl .u64 (IntKind.u64.wrap (rd x15 x17)) (wrap64 (32 * x17)))) x15 x16 (wrap64 (x17 + 1))) else (none)) else (none)) else (none)) else (some (x4, true))
def nat_Num.f (k : Nat) (x0 : List Int) : Option (Int × Bool) := (nat_May.f x0).bind fun t255 => (if (!t255) = true then (some (0, false)) else (if (x0.length : Int) > 2 then (some (0, false)) else (nat_Num.l0 k 0 x0 (x0.length : Int) 0)))
abbrev nat_Num.S : Sig := { ps := [.lf (.is .u32)], rs := [.lf (.i .u64), .lf (.b)], wb := [], R := Int × Bool, mkR := fun y0 y1 => some (y0, y1), un := fun r => [.int .u64 r.1, .bool r.2] }
def nat_Num.F (k : Nat) : Fun := { S := nat_Num.S, f := nat_Num.f k }
abbrev nat_Num.vl0 : List (Nat × Kx) := [(4, .lf (.i .u64)), (15, .lf (.is .u32)), (16, .lf (.i .i64)), (17, .lf (.i .i64))]
def nat_Num.C (k : Nat) : Cfg := { T := TT, G := lookG [(91, [nat_May.F k])], nt := 31, cuts := [⟨codeOf [true, true, true, false, true, false] 1, [true, true, true, false, true, false], nat_Num.vl0⟩], M0 := tabM }
def nat_Num.H (k : Nat) : List (CutF nat_Num.S.R) := [⟨nat_Num.vl0, nat_Num.l0 k⟩]
def round_partOf.f (k : Nat) (x0_0 : Bool) (x0_1 : List Int) (x0_2 : Int) : Option (Int × Int × Bool) := (nat_Len.f k x0_1).bind fun t244 => ((nat_Shift.f k x0_1 (wrap64 (64 - t244))).bind fun t245 => ((nat_Num.f k t245.1).bind fun t256 => (some (t256.1, wrap64 (x0_2 + t244), t245.2.1))))
abbrev round_partOf.S : Sig := { ps := [.ag [.b, .is .u32, .i .i64]], rs := [.ag [.i .u64, .i .i64, .b]], wb := [], R := Int × Int × Bool, mkR := fun y0 y1 y2 => some (y0, y1, y2), un := fun r => [.int .u64 r.1, .int .i64 r.2.1, .bool r.2.2] }
def round_partOf.F (k : Nat) : Fun := { S := round_partOf.S, f := round_partOf.f k }
def round_partOf.C (k : Nat) : Cfg := { T := TT, G := lookG [(73, [nat_Shift.F k]), (79, [nat_Num.F k]), (89, [nat_Len.F k])], nt := 33, cuts := [], M0 := tabM }
def round_partOf.H (k : Nat) : List (CutF round_partOf.S.R) := []
def round_up.f (x0 : Int) (x1 : Bool) (x2 : Bool) (x3 : Bool) (x4 : Bool) : Option (Bool) := if x0 = 1 then (if (!x4) = true then (if (!x2) = true then (some false) else (some x3)) else (some x3)) else (if x0 = 2 then (some x3) else (if x0 = 4 then (if (!x1) = true then (if x3 = true then (some true) else (some x4)) else (some false)) else (if x0 = 5 then (if x1 = true then (if x3 = true then (some true) else (some x4)) else (some false)) else (some false))))
abbrev round_up.S : Sig := { ps := [.lf (.i .u8), .lf (.b), .lf (.b), .lf (.b), .lf (.b)], rs := [.lf (.b)], wb := [], R := Bool, mkR := fun y0 => some y0, un := fun r => [.bool r] }
def round_up.F (k : Nat) : Fun := { S := round_up.S, f := round_up.f }
def round_up.C (k : Nat) : Cfg := { T := TT, G := lookG [], nt := 42, cuts := [], M0 := tabM }
def round_up.H (k : Nat) : List (CutF round_up.S.R) := []
def round_btoi.f (x0 : Bool) : Option (Int) := if x0 = true then (some 1) else (some 0)
abbrev round_btoi.S : Sig := { ps := [.lf (.b)], rs := [.lf (.i .u64)], wb := [], R := Int, mkR := fun y0 => some y0, un := fun r => [.int .u64 r] }
def round_btoi.F (k : Nat) : Fun := { S := round_btoi.S, f := round_btoi.f }
def round_btoi.C (k : Nat) : Cfg := { T := TT, G := lookG [], nt := 4, cuts := [], M0 := tabM }
def round_btoi.H (k : Nat) : List (CutF round_btoi.S.R) := []
mutual
def round_part_units.j1 : Nat → Int → Bool → Int → Int → Bool → Int → Int → Bool → Bool → Option (Int × Bool)
  | 0, _, _, _, _, _, _, _, _, _ => none
  | k + 1, x1, x2, x4_0, x4_1, x4_2, x10, x11, x12, x13 => if x10 > 0 then (if 0 ≤ (wrap64 (x10 - 1)) then (if x13 = true then (round_part_units.j2 k x1 x2 x11 (decide ((Go.bits .and .u64 (shr .u64 x4_0 (wrap64 (x10 - 1))) 1) = 1)) true) else (if 0 ≤ (wrap64 (x10 - 1)) then (round_part_units.j2 k x1 x2 x11 (decide ((Go.bits .and .u64 (shr .u64 x4_0 (wrap64 (x10 - 1))) 1) = 1)) (decide (¬ (Go.bits .and .u64 x4_0 (IntKind.u64.wrap ((shl .u64 1 (wrap64 (x10 - 1))) - 1)) = 0)))) else (none))) else (none)) else (round_part_units.j2 k x1 x2 x11 x12 x13)
def round_part_units.j2 : Nat → Int → Bool → Int → Bool → Bool → Option (Int × Bool)
  | 0, _, _, _, _, _ => none
  | k + 1, x1, x2, x11, x12, x13 => (round_up.f x1 x2 (decide ((Go.bits .and .u64 x11 1) = 1)) x12 x13).bind fun t290 => ((round_btoi.f t290).bind fun t291 => (if (!x12) = true then (some (IntKind.u64.wrap (x11 + t291), (!x13))) else (some (IntKind.u64.wrap (x11 + t291), false))))
end
def round_part_units.f (k : Nat) (x0_0 : Int) (x0_1 : Int) (x0_2 : Bool) (x1 : Int) (x2 : Bool) (x3 : Int) : Option (Int × Bool) := if (wrap64 ((wrap64 (x3 - x0_1)) + 64)) > 64 then ((round_up.f x1 x2 false false true).bind fun t288 => ((round_btoi.f t288).bind fun t289 => (some (t289, false)))) else (if (wrap64 ((wrap64 (x3 - x0_1)) + 64)) < 64 then (if 0 ≤ (wrap64 ((wrap64 (x3 - x0_1)) + 64)) then (round_part_units.j1 k x1 x2 x0_0 x0_1 x0_2 (wrap64 ((wrap64 (x3 - x0_1)) + 64)) (shr .u64 x0_0 (wrap64 ((wrap64 (x3 - x0_1)) + 64))) false x0_2) else (none)) else (round_part_units.j1 k x1 x2 x0_0 x0_1 x0_2 (wrap64 ((wrap64 (x3 - x0_1)) + 64)) 0 false x0_2))
abbrev round_part_units.S : Sig := { ps := [.ag [.i .u64, .i .i64, .b], .lf (.i .u8), .lf (.b), .lf (.i .i64)], rs := [.lf (.i .u64), .lf (.b)], wb := [], R := Int × Bool, mkR := fun y0 y1 => some (y0, y1), un := fun r => [.int .u64 r.1, .bool r.2] }
def round_part_units.F (k : Nat) : Fun := { S := round_part_units.S, f := round_part_units.f k }
abbrev round_part_units.vj1 : List (Nat × Kx) := [(1, .lf (.i .u8)), (2, .lf (.b)), (4, .bx [.i .u64, .i .i64, .b]), (10, .lf (.i .i64)), (11, .lf (.i .u64)), (12, .lf (.b)), (13, .lf (.b))]
abbrev round_part_units.vj2 : List (Nat × Kx) := [(1, .lf (.i .u8)), (2, .lf (.b)), (11, .lf (.i .u64)), (12, .lf (.b)), (13, .lf (.b))]
def round_part_units.C (k : Nat) : Cfg := { T := TT, G := lookG [(108, [round_btoi.F k]), (109, [round_up.F k])], nt := 70, cuts := [⟨codeOf [true, true, true, true, true] 1, [true, true, true, true, true], round_part_units.vj1⟩, ⟨codeOf [true, true, true, true, true, true] 1, [true, true, true, true, true, true], round_part_units.vj2⟩], M0 := tabM }
def round_part_units.H (k : Nat) : List (CutF round_part_units.S.R) := [⟨round_part_units.vj1, round_part_units.j1 k⟩, ⟨round_part_units.vj2, round_part_units.j2 k⟩]
mutual
def bits_Len64.j0 : Nat → Int → Int → Option (Int)
  | 0, _, _ => none
  | k + 1, x0, x2 => if x0 ≥ 65536 then (bits_Len64.j1 k (x0 / 65536) (wrap64 (x2 + 16))) else (bits_Len64.j1 k x0 x2)
def bits_Len64.j1 : Nat → Int → Int → Option (Int)
  | 0, _, _ => none
  | k + 1, x0, x2 => if x0 ≥ 256 then (bits_Len64.j2 k (x0 / 256) (wrap64 (x2 + 8))) else (bits_Len64.j2 k x0 x2)
def bits_Len64.j2 : Nat → Int → Int → Option (Int)
  | 0, _, _ => none
  | k + 1, x0, x2 => if 0 ≤ x0 % 256 then (if x0 % 256 < (txt0.size : Int) then (some (wrap64 (x2 + (wrap64 (bt txt0 (x0 % 256)))))) else (none)) else (none)
end
def bits_Len64.f (k : Nat) (x0 : Int) : Option (Int) := if x0 ≥ 4294967296 then (bits_Len64.j0 k (x0 / 4294967296) 32) else (bits_Len64.j0 k x0 0)
abbrev bits_Len64.S : Sig := { ps := [.lf (.i .u64)], rs := [.lf (.i .i64)], wb := [], R := Int, mkR := fun y0 => some y0, un := fun r => [.int .i64 r] }
def bits_Len64.F (k : Nat) : Fun := { S := bits_Len64.S, f := bits_Len64.f k }
abbrev bits_Len64.vj0 : List (Nat × Kx) := [(0, .lf (.i .u64)), (2, .lf (.i .i64))]
abbrev bits_Len64.vj1 : List (Nat × Kx) := [(0, .lf (.i .u64)), (2, .lf (.i .i64))]
abbrev bits_Len64.vj2 : List (Nat × Kx) := [(0, .lf (.i .u64)), (2, .lf (.i .i64))]
def bits_Len64.C (k : Nat) : Cfg := { T := TT, G := lookG [], nt := 25, cuts := [⟨codeOf [true, true] 1, [true, true], bits_Len64.vj0⟩, ⟨codeOf [true, true, true] 1, [true, true, true], bits_Len64.vj1⟩, ⟨codeOf [true, true, true, true] 1, [true, true, true, true], bits_Len64.vj2⟩], M0 := tabM }
def bits_Len64.H (k : Nat) : List (CutF bits_Len64.S.R) := [⟨bits_Len64.vj0, bits_Len64.j0 k⟩, ⟨bits_Len64.vj1, bits_Len64.j1 k⟩, ⟨bits_Len64.vj2, bits_Len64.j2 k⟩]
def word_shape_join.f (x0_0 : Int) (x0_1 : Int) (x0_2 : Int) (x1_0 : Bool) (x1_1 : Int) (x1_2 : Int) : Option (Int) := if 0 ≤ x0_0 then (if x1_0 = true then (some (Go.bits .or .u64 (Go.bits .or .u64 (shl .u64 (IntKind.u64.wrap x1_1) x0_0) x1_2) x0_2)) else (some (Go.bits .or .u64 (shl .u64 (IntKind.u64.wrap x1_1) x0_0) x1_2))) else (none)
abbrev word_shape_join.S : Sig := { ps := [.ag [.i .i64, .i .i64, .i .u64], .ag [.b, .i .i64, .i .u64]], rs := [.lf (.i .u64)], wb := [], R := Int, mkR := fun y0 => some y0, un := fun r => [.int .u64 r] }
def word_shape_join.F (k : Nat) : Fun := { S := word_shape_join.S, f := word_shape_join.f }
def word_shape_join.C (k : Nat) : Cfg := { T := TT, G := lookG [], nt := 22, cuts := [], M0 := tabM }
def word_shape_join.H (k : Nat) : List (CutF word_shape_join.S.R) := []
def word_Of.f (k : Nat) (x0 : Int) (x1_0 : Bool) (x1_1 : List Int) (x1_2 : Int) : Option (Int × Int) := (word_open.f k x0 ([] : List Int)).bind fun t328 => (if ¬ (t328.2.2.2 = 0) then (some (0, t328.2.2.2)) else ((dyad_May.f x1_0 x1_1 x1_2).bind fun t329 => (if (!t329) = true then (some (0, 2)) else ((nat_Num.f k x1_1).bind fun t330 => ((bits_Len64.f k t330.1).bind fun t331 => (if (!t330.2) = true then (some (0, 7)) else (if t331 > (wrap64 (t328.1 + 1)) then (some (0, 7)) else (if ¬ (t330.1 = 0) then ((word_shape_low.f t328.1 t328.2.1 t328.2.2.1).bind fun t332 => (if x1_2 < t332 then (some (0, 7)) else (if (wrap64 (x1_2 + t331)) > (wrap64 ((wrap64 (Int.tdiv t328.2.1 2)) + 1)) then (some (0, 7)) else (if t330.1 = 0 then (some (0, 0)) else ((word_shape_low.f t328.1 t328.2.1 t328.2.2.1).bind fun t333 => (if 0 ≤ (wrap64 (x1_2 - (mx (wrap64 ((wrap64 ((wrap64 (x1_2 + t331)) - t328.1)) - 1)) t333))) then ((word_shape_low.f t328.1 t328.2.1 t328.2.2.1).bind fun t334 => (if 0 ≤ t328.1 then ((word_shape_join.f t328.1 t328.2.1 t328.2.2.1 x1_0 0 (IntKind.u64.wrap ((shl .u64 (IntKind.u64.wrap (wrap64 ((mx (wrap64 ((wrap64 ((wrap64 (x1_2 + t331)) - t328.1)) - 1)) t333) - t334))) t328.1) + (shl .u64 t330.1 (wrap64 (x1_2 - (mx (wrap64 ((wrap64 ((wrap64 (x1_2 + t331)) - t328.1)) - 1)) t333))))))).bind fun t335 => (some (t335, 0))) else (none))) else (none))))))) else (if t330.1 = 0 then (some (0, 0)) else ((word_shape_low.f t328.1 t328.2.1 t328.2.2.1).bind fun t336 => (if 0 ≤ (wrap64 (x1_2 - (mx (wrap64 ((wrap64 ((wrap64 (x1_2 + t331)) - t328.1)) - 1)) t336))) then ((word_shape_low.f t328.1 t328.2.1 t328.2.2.1).bind fun t337 => (if 0 ≤ t328.1 then ((word_shape_join.f t328.1 t328.2.1 t328.2.2.1 x1_0 0 (IntKind.u64.wrap ((shl .u64 (IntKind.u64.wrap (wrap64 ((mx (wrap64 ((wrap64 ((wrap64 (x1_2 + t331)) - t328.1)) - 1)) t336) - t337))) t328.1) + (shl .u64 t330.1 (wrap64 (x1_2 - (mx (wrap64 ((wrap64 ((wrap64 (x1_2 + t331)) - t328.1)) - 1)) t336))))))).bind fun t338 => (some (t338, 0))) else (none))) else (none))))))))))))
abbrev word_Of.S : Sig := { ps := [.lf (.i .u8), .ag [.b, .is .u32, .i .i64]], rs := [.lf (.i .u64), .lf (.i .i64)], wb := [], R := Int × Int, mkR := fun y0 y1 => some (y0, y1), un := fun r => [.int .u64 r.1, .int .i64 r.2] }
def word_Of.F (k : Nat) : Fun := { S := word_Of.S, f := word_Of.f k }
def word_Of.C (k : Nat) : Cfg := { T := TT, G := lookG [(64, [word_shape_low.F k]), (77, [word_open.F k]), (78, [dyad_May.F k]), (79, [nat_Num.F k]), (80, [bits_Len64.F k]), (81, [word_shape_join.F k])], nt := 95, cuts := [], M0 := tabM }
def word_Of.H (k : Nat) : List (CutF word_Of.S.R) := []
def round_part_word.j1 : Nat → Int → Bool → Int → Int → Bool → Int → Int → Int → Bool → Int → Option (Int × Int)
  | 0, _, _, _, _, _, _, _, _, _, _ => none
  | k + 1, x3, x4, x5_0, x5_1, x5_2, x7_0, x7_1, x7_2, x14, x19 => if x14 = true then (some (x19, 0)) else ((round_part_units.f k x5_0 x5_1 x5_2 x3 x4 (wrap64 (x5_1 - x7_0))).bind fun t372 => ((bits_Len64.f k t372.1).bind fun t373 => (if (wrap64 ((wrap64 (t373 + x5_1)) - x7_0)) < (wrap64 (x7_1 + x7_0)) then (some (x19, 24)) else (some (x19, 16)))))
def round_part_word.f (k : Nat) (x0_0 : Int) (x0_1 : Int) (x0_2 : Bool) (x1 : Int) (x2_0 : Int) (x2_1 : Int) (x2_2 : Int) (x3 : Int) (x4 : Bool) : Option (Int × Int) := (round_part_units.f k x0_0 x0_1 x0_2 x3 x4 (mx (wrap64 (x0_1 - x2_0)) x2_1)).bind fun t365 => ((bits_Len64.f k t365.1).bind fun t366 => (if (wrap64 (t366 + (mx (wrap64 (x0_1 - x2_0)) x2_1))) > x2_2 then ((round_Over.f k x1 x3 x4).bind fun t367 => (some (t367.1, 20))) else ((nat_Of.f k t365.1).bind fun t368 => ((dyad_Make.f k x4 t368 (mx (wrap64 (x0_1 - x2_0)) x2_1)).bind fun t369 => ((word_Of.f k x1 t369.1 t369.2.1 t369.2.2.1).bind fun t370 => (if t365.1 = 0 then ((word_Zero.f k x1 x4).bind fun t371 => (round_part_word.j1 k x3 x4 x0_0 x0_1 x0_2 x2_0 x2_1 x2_2 t365.2 t371.1)) else (round_part_word.j1 k x3 x4 x0_0 x0_1 x0_2 x2_0 x2_1 x2_2 t365.2 t370.1)))))))
abbrev round_part_word.S : Sig := { ps := [.ag [.i .u64, .i .i64, .b], .lf (.i .u8), .ag [.i .i64, .i .i64, .i .i64], .lf (.i .u8), .lf (.b)], rs := [.lf (.i .u64), .lf (.i .u8)], wb := [], R := Int × Int, mkR := fun y0 y1 => some (y0, y1), un := fun r => [.int .u64 r.1, .int .u8 r.2] }
def round_part_word.F (k : Nat) : Fun := { S := round_part_word.S, f := round_part_word.f k }
abbrev round_part_word.vj1 : List (Nat × Kx) := [(3, .lf (.i .u8)), (4, .lf (.b)), (5, .bx [.i .u64, .i .i64, .b]), (7, .bx [.i .i64, .i .i64, .i .i64]), (14, .lf (.b)), (19, .lf (.i .u64))]
def round_part_word.C (k : Nat) : Cfg := { T := TT, G := lookG [(30, [word_Zero.F k]), (42, [word_Of.F k]), (54, [round_Over.F k]), (62, [dyad_Make.F k]), (63, [nat_Of.F k]), (80, [bits_Len64.F k]), (95, [round_part_units.F k])], nt := 106, cuts := [⟨codeOf [true, true, true, true, true, true, true] 1, [true, true, true, true, true, true, true], round_part_word.vj1⟩], M0 := tabM }
def round_part_word.H (k : Nat) : List (CutF round_part_word.S.R) := [⟨round_part_word.vj1, round_part_word.j1 k⟩]
def round_Round.f (k : Nat) (x0 : Int) (x1 : Int) (x2_0 : Bool) (x2_1 : List Int) (x2_2 : Int) : Option (Int × Int × Int) := (round_open.f k x0 x1 [(x2_0, x2_1, x2_2)]).bind fun t376 => (if ¬ (t376.2.2.2 = 0) then (some (0, 0, t376.2.2.2)) else ((dyad_Sign.f k x2_0 x2_1 x2_2).bind fun t377 => (if t377 = 0 then (some (0, 0, 0)) else ((round_partOf.f k x2_0 x2_1 x2_2).bind fun t378 => ((round_part_word.f k t378.1 t378.2.1 t378.2.2 x0 t376.1 t376.2.1 t376.2.2.1 x1 x2_0).bind fun t379 => (some (t379.1, t379.2, 0)))))))
abbrev round_Round.S : Sig := { ps := [.lf (.i .u8), .lf (.i .u8), .ag [.b, .is .u32, .i .i64]], rs := [.lf (.i .u64), .lf (.i .u8), .lf (.i .i64)], wb := [], R := Int × Int × Int, mkR := fun y0 y1 y2 => some (y0, y1, y2), un := fun r => [.int .u64 r.1, .int .u8 r.2.1, .int .i64 r.2.2] }
def round_Round.F (k : Nat) : Fun := { S := round_Round.S, f := round_Round.f k }
def round_Round.C (k : Nat) : Cfg := { T := TT, G := lookG [(43, [dyad_Sign.F k]), (65, [round_open.F k]), (66, [round_partOf.F k]), (67, [round_part_word.F k])], nt := 40, cuts := [], M0 := tabM }
def round_Round.H (k : Nat) : List (CutF round_Round.S.R) := []
def conv_To.f (k : Nat) (x0 : Int) (x1 : Int) (x2 : Int) (x3 : Int) : Option (Int × Int × Int) := (conv_mode.f k x1 x2).bind fun t385 => (if t385 = 4 then (some (0, 0, t385)) else ((conv_open.f k x0 x2 x3).bind fun t386 => (if ¬ (t386.2.2 = 0) then (some (0, 0, t386.2.2)) else (if t386.1 = 5 then ((word_None.f k x1).bind fun t387 => (some (t387.1, 0, 0))) else (if t386.1 = 4 then ((word_Inf.f k x1 t386.2.1).bind fun t388 => (some (t388.1, 0, 0))) else (if t386.1 = 1 then ((word_Zero.f k x1 t386.2.1).bind fun t389 => (some (t389.1, 0, 0))) else ((word_Value.f k x0 x3).bind fun t390 => ((round_Round.f k x1 x2 t390.1 t390.2.1 t390.2.2.1).bind fun t391 => (some (t391.1, t391.2.1, t391.2.2))))))))))
abbrev conv_To.S : Sig := { ps := [.lf (.i .u8), .lf (.i .u8), .lf (.i .u8), .lf (.i .u64)], rs := [.lf (.i .u64), .lf (.i .u8), .lf (.i .i64)], wb := [], R := Int × Int × Int, mkR := fun y0 y1 y2 => some (y0, y1, y2), un := fun r => [.int .u64 r.1, .int .u8 r.2.1, .int .i64 r.2.2] }
def conv_To.F (k : Nat) : Fun := { S := conv_To.S, f := conv_To.f k }
def conv_To.C (k : Nat) : Cfg := { T := TT, G := lookG [(26, [conv_mode.F k]), (27, [conv_open.F k]), (28, [word_None.F k]), (29, [word_Inf.F k]), (30, [word_Zero.F k]), (31, [word_Value.F k]), (32, [round_Round.F k])], nt := 80, cuts := [], M0 := tabM }
def conv_To.H (k : Nat) : List (CutF conv_To.S.R) := []
def nat_all.l0 : Nat → List (List Int) → Int → Int → Option (Bool)
  | 0, _, _, _ => none
  | k + 1, x5, x6, x7 => if x7 < x6 then (if 0 ≤ x7 then (if x7 < (x5.length : Int) then ((nat_May.f (rdT [.is .u32] x5 x7)).bind fun t408 => (if (!t408) = true then (some false) else (nat_all.l0 k x5 x6 (wrap64 (x7 + 1))))) else (none)) else (none)) else (some true)
def nat_all.f (k : Nat) (x0 : List (List Int)) : Option (Bool) := nat_all.l0 k x0 (x0.length : Int) 0
abbrev nat_all.S : Sig := { ps := [.lf (.rw [.is .u32])], rs := [.lf (.b)], wb := [], R := Bool, mkR := fun y0 => some y0, un := fun r => [.bool r] }
def nat_all.F (k : Nat) : Fun := { S := nat_all.S, f := nat_all.f k }
abbrev nat_all.vl0 : List (Nat × Kx) := [(5, .lf (.rw [.is .u32])), (6, .lf (.i .i64)), (7, .lf (.i .i64))]
def nat_all.C (k : Nat) : Cfg := { T := TT, G := lookG [(91, [nat_May.F k])], nt := 15, cuts := [⟨codeOf [true, false, true, false] 1, [true, false, true, false], nat_all.vl0⟩], M0 := tabM }
def nat_all.H (k : Nat) : List (CutF nat_all.S.R) := [⟨nat_all.vl0, nat_all.l0 k⟩]
def nat_cmp.l0 : Nat → List Int → List Int → Int → Option (Int)
  | 0, _, _, _ => none
  | k + 1, x0, x1, x5 => if x5 ≥ 0 then (if 0 ≤ x5 then (if x5 < (x0.length : Int) then (if 0 ≤ x5 then (if x5 < (x1.length : Int) then (if ¬ (rd x0 x5 = rd x1 x5) then (if 0 ≤ x5 then (if x5 < (x0.length : Int) then (if 0 ≤ x5 then (if x5 < (x1.length : Int) then (if (rd x0 x5) < (rd x1 x5) then (some (-1)) else (some 1)) else (none)) else (none)) else (none)) else (none)) else (nat_cmp.l0 k x0 x1 (wrap64 (x5 - 1)))) else (none)) else (none)) else (none)) else (none)) else (some 0)
def nat_cmp.f (k : Nat) (x0 : List Int) (x1 : List Int) : Option (Int) := if (x0.length : Int) < (x1.length : Int) then (some (-1)) else (if (x0.length : Int) > (x1.length : Int) then (some 1) else (nat_cmp.l0 k x0 x1 (wrap64 ((x0.length : Int) - 1))))
abbrev nat_cmp.S : Sig := { ps := [.lf (.is .u32), .lf (.is .u32)], rs := [.lf (.i .i64)], wb := [], R := Int, mkR := fun y0 => some y0, un := fun r => [.int .i64 r] }
def nat_cmp.F (k : Nat) : Fun := { S := nat_cmp.S, f := nat_cmp.f k }
abbrev nat_cmp.vl0 : List (Nat × Kx) := [(0, .lf (.is .u32)), (1, .lf (.is .u32)), (5, .lf (.i .i64))]
def nat_cmp.C (k : Nat) : Cfg := { T := TT, G := lookG [], nt := 43, cuts := [⟨codeOf [true, true, false, true, false] 1, [true, true, false, true, false], nat_cmp.vl0⟩], M0 := tabM }
def nat_cmp.H (k : Nat) : List (CutF nat_cmp.S.R) := [⟨nat_cmp.vl0, nat_cmp.l0 k⟩]
def bits_Div32.f (x0 : Int) (x1 : Int) (x2 : Int) : Option (Int × Int) := if ¬ (x2 = 0) then (if x2 ≤ x0 then (none) else (if (IntKind.u64.wrap x2) = 0 then (none) else (if (IntKind.u64.wrap x2) = 0 then (none) else (some ((IntKind.u64.wrap (Int.tdiv (Go.bits .or .u64 (IntKind.u64.wrap ((IntKind.u64.wrap x0) * 4294967296)) (IntKind.u64.wrap x1)) (IntKind.u64.wrap x2))) % 4294967296, (Int.tmod (Go.bits .or .u64 (IntKind.u64.wrap ((IntKind.u64.wrap x0) * 4294967296)) (IntKind.u64.wrap x1)) (IntKind.u64.wrap x2)) % 4294967296))))) else (if (IntKind.u64.wrap x2) = 0 then (none) else (if (IntKind.u64.wrap x2) = 0 then (none) else (some ((IntKind.u64.wrap (Int.tdiv (Go.bits .or .u64 (IntKind.u64.wrap ((IntKind.u64.wrap x0) * 4294967296)) (IntKind.u64.wrap x1)) (IntKind.u64.wrap x2))) % 4294967296, (Int.tmod (Go.bits .or .u64 (IntKind.u64.wrap ((IntKind.u64.wrap x0) * 4294967296)) (IntKind.u64.wrap x1)) (IntKind.u64.wrap x2)) % 4294967296))))
abbrev bits_Div32.S : Sig := { ps := [.lf (.i .u32), .lf (.i .u32), .lf (.i .u32)], rs := [.lf (.i .u32), .lf (.i .u32)], wb := [], R := Int × Int, mkR := fun y0 y1 => some (y0, y1), un := fun r => [.int .u32 r.1, .int .u32 r.2] }
def bits_Div32.F (k : Nat) : Fun := { S := bits_Div32.S, f := bits_Div32.f }
def bits_Div32.C (k : Nat) : Cfg := { T := TT, G := lookG [], nt := 33, cuts := [], M0 := tabM }
def bits_Div32.H (k : Nat) : List (CutF bits_Div32.S.R) := []
def nat_small.l0 : Nat → List Int → Int → List Int → Int → Int → Option (List Int × Int)
  | 0, _, _, _, _, _ => none
  | k + 1, x0, x1, x6, x7, x8 => if x8 ≥ 0 then (if 0 ≤ x8 then (if x8 < (x0.length : Int) then ((bits_Div32.f x7 (rd x0 x8) x1).bind fun t414 => (if 0 ≤ x8 then (if x8 < (x6.length : Int) then (nat_small.l0 k x0 x1 (x6.set (x8 : Int).toNat t414.1) t414.2 (wrap64 (x8 - 1))) else (none)) else (none))) else (none)) else (none)) else ((nat_trim.f k x6).bind fun t415 => (some (t415, x7)))
def nat_small.f (k : Nat) (x0 : List Int) (x1 : Int) : Option (List Int × Int) := if 0 ≤ (x0.length : Int) then (if ((x0.length : Int) : Int).toNat ≤ 70368744177664 then (nat_small.l0 k x0 x1 (List.replicate ((x0.length : Int) : Int).toNat (0 : Int)) 0 (wrap64 ((x0.length : Int) - 1))) else (none)) else (none)
abbrev nat_small.S : Sig := { ps := [.lf (.is .u32), .lf (.i .u32)], rs := [.lf (.is .u32), .lf (.i .u32)], wb := [], R := List Int × Int, mkR := fun y0 y1 => some (y0, y1), un := fun r => [.ints .u32 r.1, .int .u32 r.2] }
def nat_small.F (k : Nat) : Fun := { S := nat_small.S, f := nat_small.f k }
abbrev nat_small.vl0 : List (Nat × Kx) := [(0, .lf (.is .u32)), (1, .lf (.i .u32)), (6, .ow .u32), (7, .lf (.i .u32)), (8, .lf (.i .i64))]
def nat_small.C (k : Nat) : Cfg := { T := TT, G := lookG [(93, [nat_trim.F k, nat_trim.F1 k]), (110, [bits_Div32.F k])], nt := 35, cuts := [⟨codeOf [true, true, true, false, true, false] 1, [true, true, true, false, true, false], nat_small.vl0⟩], M0 := tabM }
def nat_small.H (k : Nat) : List (CutF nat_small.S.R) := [⟨nat_small.vl0, nat_small.l0 k⟩]
def bits_LeadingZeros32.f (k : Nat) (x0 : Int) : Option (Int) := (bits_Len32.f k x0).bind fun t419 => (some (wrap64 (32 - t419)))
abbrev bits_LeadingZeros32.S : Sig := { ps := [.lf (.i .u32)], rs := [.lf (.i .i64)], wb := [], R := Int, mkR := fun y0 => some y0, un := fun r => [.int .i64 r] }
def bits_LeadingZeros32.F (k : Nat) : Fun := { S := bits_LeadingZeros32.S, f := bits_LeadingZeros32.f k }
def bits_LeadingZeros32.C (k : Nat) : Cfg := { T := TT, G := lookG [(105, [bits_Len32.F k])], nt := 6, cuts := [], M0 := tabM }
def bits_LeadingZeros32.H (k : Nat) : List (CutF bits_LeadingZeros32.S.R) := []
def bits_Sub32.f (x0 : Int) (x1 : Int) (x2 : Int) : Option (Int × Int) := some ((((x0 - x1) % 4294967296) - x2) % 4294967296, (Go.bits .or .u32 (Go.bits .and .u32 (Go.bits .xor .u32 4294967295 x0) x1) (Go.bits .and .u32 (Go.bits .xor .u32 4294967295 (Go.bits .xor .u32 x0 x1)) ((((x0 - x1) % 4294967296) - x2) % 4294967296))) / 2147483648)
abbrev bits_Sub32.S : Sig := { ps := [.lf (.i .u32), .lf (.i .u32), .lf (.i .u32)], rs := [.lf (.i .u32), .lf (.i .u32)], wb := [], R := Int × Int, mkR := fun y0 y1 => some (y0, y1), un := fun r => [.int .u32 r.1, .int .u32 r.2] }
def bits_Sub32.F (k : Nat) : Fun := { S := bits_Sub32.S, f := bits_Sub32.f }
def bits_Sub32.C (k : Nat) : Cfg := { T := TT, G := lookG [], nt := 25, cuts := [], M0 := tabM }
def bits_Sub32.H (k : Nat) : List (CutF bits_Sub32.S.R) := []
def bits_Add32.f (x0 : Int) (x1 : Int) (x2 : Int) : Option (Int × Int) := some ((IntKind.u64.wrap ((IntKind.u64.wrap ((IntKind.u64.wrap x0) + (IntKind.u64.wrap x1))) + (IntKind.u64.wrap x2))) % 4294967296, ((IntKind.u64.wrap ((IntKind.u64.wrap ((IntKind.u64.wrap x0) + (IntKind.u64.wrap x1))) + (IntKind.u64.wrap x2))) / 4294967296) % 4294967296)
abbrev bits_Add32.S : Sig := { ps := [.lf (.i .u32), .lf (.i .u32), .lf (.i .u32)], rs := [.lf (.i .u32), .lf (.i .u32)], wb := [], R := Int × Int, mkR := fun y0 y1 => some (y0, y1), un := fun r => [.int .u32 r.1, .int .u32 r.2] }
def bits_Add32.F (k : Nat) : Fun := { S := bits_Add32.S, f := bits_Add32.f }
def bits_Add32.C (k : Nat) : Cfg := { T := TT, G := lookG [], nt := 22, cuts := [], M0 := tabM }
def bits_Add32.H (k : Nat) : List (CutF bits_Add32.S.R) := []
mutual
def nat_step.l0 : Nat → List Int → List Int → Int → Int → Int → Option (Int × List Int)
  | 0, _, _, _, _, _ => none
  | k + 1, x0, x1, x5, x7, x8 => if x7 ≥ 4294967296 then (if 0 ≤ wrap64 (x5 - 1) then (if wrap64 (x5 - 1) < (x1.length : Int) then (if (IntKind.u64.wrap (x8 + (IntKind.u64.wrap (rd x1 (wrap64 (x5 - 1)))))) ≥ 4294967296 then (nat_step.l1 k x0 x1 x5 (IntKind.u64.wrap (x7 - 1)) 0 0 x1 (x1.length : Int) 0) else (nat_step.l0 k x0 x1 x5 (IntKind.u64.wrap (x7 - 1)) (IntKind.u64.wrap (x8 + (IntKind.u64.wrap (rd x1 (wrap64 (x5 - 1)))))))) else (none)) else (none)) else (if 0 ≤ wrap64 (x5 - 2) then (if wrap64 (x5 - 2) < (x1.length : Int) then (if 0 ≤ wrap64 (x5 - 2) then (if wrap64 (x5 - 2) < (x0.length : Int) then (if (IntKind.u64.wrap (x7 * (IntKind.u64.wrap (rd x1 (wrap64 (x5 - 2)))))) > (Go.bits .or .u64 (IntKind.u64.wrap (x8 * 4294967296)) (IntKind.u64.wrap (rd x0 (wrap64 (x5 - 2))))) then (if 0 ≤ wrap64 (x5 - 1) then (if wrap64 (x5 - 1) < (x1.length : Int) then (if (IntKind.u64.wrap (x8 + (IntKind.u64.wrap (rd x1 (wrap64 (x5 - 1)))))) ≥ 4294967296 then (nat_step.l1 k x0 x1 x5 (IntKind.u64.wrap (x7 - 1)) 0 0 x1 (x1.length : Int) 0) else (nat_step.l0 k x0 x1 x5 (IntKind.u64.wrap (x7 - 1)) (IntKind.u64.wrap (x8 + (IntKind.u64.wrap (rd x1 (wrap64 (x5 - 1)))))))) else (none)) else (none)) else (nat_step.l1 k x0 x1 x5 x7 0 0 x1 (x1.length : Int) 0)) else (none)) else (none)) else (none)) else (none))
def nat_step.l1 : Nat → List Int → List Int → Int → Int → Int → Int → List Int → Int → Int → Option (Int × List Int)
  | 0, _, _, _, _, _, _, _, _, _ => none
  | k + 1, x0, x1, x5, x7, x9, x10, x81, x82, x83 => if x83 < x82 then (if 0 ≤ x83 then (if x83 < (x81.length : Int) then (if 0 ≤ x83 then (if x83 < (x0.length : Int) then ((bits_Sub32.f (rd x0 x83) ((IntKind.u64.wrap (x10 + (IntKind.u64.wrap (x7 * (IntKind.u64.wrap (rd x81 x83)))))) % 4294967296) x9).bind fun t449 => (if 0 ≤ x83 then (if x83 < (x0.length : Int) then (nat_step.l1 k (x0.set (x83 : Int).toNat t449.1) x1 x5 x7 t449.2 ((IntKind.u64.wrap (x10 + (IntKind.u64.wrap (x7 * (IntKind.u64.wrap (rd x81 x83)))))) / 4294967296) x81 x82 (wrap64 (x83 + 1))) else (none)) else (none))) else (none)) else (none)) else (none)) else (none)) else (if 0 ≤ x5 then (if x5 < (x0.length : Int) then ((bits_Sub32.f (rd x0 x5) (x10 % 4294967296) x9).bind fun t450 => (if 0 ≤ x5 then (if x5 < (x0.length : Int) then (if t450.2 = 0 then (some (x7 % 4294967296, x0.set (x5 : Int).toNat t450.1)) else (nat_step.l2 k (x0.set (x5 : Int).toNat t450.1) x5 x7 0 x1 (x1.length : Int) 0)) else (none)) else (none))) else (none)) else (none))
def nat_step.l2 : Nat → List Int → Int → Int → Int → List Int → Int → Int → Option (Int × List Int)
  | 0, _, _, _, _, _, _, _ => none
  | k + 1, x0, x5, x7, x13, x129, x130, x131 => if x131 < x130 then (if 0 ≤ x131 then (if x131 < (x129.length : Int) then (if 0 ≤ x131 then (if x131 < (x0.length : Int) then ((bits_Add32.f (rd x0 x131) (rd x129 x131) x13).bind fun t448 => (if 0 ≤ x131 then (if x131 < (x0.length : Int) then (nat_step.l2 k (x0.set (x131 : Int).toNat t448.1) x5 x7 t448.2 x129 x130 (wrap64 (x131 + 1))) else (none)) else (none))) else (none)) else (none)) else (none)) else (none)) else (if 0 ≤ x5 then (if x5 < (x0.length : Int) then (if 0 ≤ x5 then (if x5 < (x0.length : Int) then (some ((IntKind.u64.wrap (x7 - 1)) % 4294967296, x0.set (x5 : Int).toNat (((rd x0 x5) + x13) % 4294967296))) else (none)) else (none)) else (none)) else (none))
end
def nat_step.f (k : Nat) (x0 : List Int) (x1 : List Int) : Option (Int × List Int) := if 0 ≤ (x1.length : Int) then (if (x1.length : Int) < (x0.length : Int) then (if 0 ≤ wrap64 ((x1.length : Int) - 1) then (if wrap64 ((x1.length : Int) - 1) < (x0.length : Int) then (if 0 ≤ wrap64 ((x1.length : Int) - 1) then (if wrap64 ((x1.length : Int) - 1) < (x1.length : Int) then (if (IntKind.u64.wrap (rd x1 (wrap64 ((x1.length : Int) - 1)))) = 0 then (none) else (if 0 ≤ wrap64 ((x1.length : Int) - 1) then (if wrap64 ((x1.length : Int) - 1) < (x1.length : Int) then (if (IntKind.u64.wrap (rd x1 (wrap64 ((x1.length : Int) - 1)))) = 0 then (none) else (nat_step.l0 k x0 x1 (x1.length : Int) (IntKind.u64.wrap (Int.tdiv (Go.bits .or .u64 (IntKind.u64.wrap ((IntKind.u64.wrap (rd x0 (x1.length : Int))) * 4294967296)) (IntKind.u64.wrap (rd x0 (wrap64 ((x1.length : Int) - 1))))) (IntKind.u64.wrap (rd x1 (wrap64 ((x1.length : Int) - 1)))))) (Int.tmod (Go.bits .or .u64 (IntKind.u64.wrap ((IntKind.u64.wrap (rd x0 (x1.length : Int))) * 4294967296)) (IntKind.u64.wrap (rd x0 (wrap64 ((x1.length : Int) - 1))))) (IntKind.u64.wrap (rd x1 (wrap64 ((x1.length : Int) - 1))))))) else (none)) else (none))) else (none)) else (none)) else (none)) else (none)) else (none)) else (none)
abbrev nat_step.S : Sig := { ps := [.bo .u32, .lf (.is .u32)], rs := [.lf (.i .u32)], wb := [.is .u32], R := Int × List Int, mkR := fun y0 y1 => some (y0, y1), un := fun r => [.int .u32 r.1, .ints .u32 r.2] }
def nat_step.F (k : Nat) : Fun := { S := nat_step.S, f := nat_step.f k }
abbrev nat_step.vl0 : List (Nat × Kx) := [(0, .bo .u32), (1, .lf (.is .u32)), (5, .lf (.i .i64)), (7, .lf (.i .u64)), (8, .lf (.i .u64))]
abbrev nat_step.vl1 : List (Nat × Kx) := [(0, .bo .u32), (1, .lf (.is .u32)), (5, .lf (.i .i64)), (7, .lf (.i .u64)), (9, .lf (.i .u32)), (10, .lf (.i .u64)), (81, .lf (.is .u32)), (82, .lf (.i .i64)), (83, .lf (.i .i64))]
abbrev nat_step.vl2 : List (Nat × Kx) := [(0, .bo .u32), (5, .lf (.i .i64)), (7, .lf (.i .u64)), (13, .lf (.i .u32)), (129, .lf (.is .u32)), (130, .lf (.i .i64)), (131, .lf (.i .i64))]
def nat_step.C (k : Nat) : Cfg := { T := TT, G := lookG [(113, [bits_Sub32.F k]), (114, [bits_Add32.F k])], nt := 160, cuts := [⟨codeOf [true, true, true, true, false, false] 1, [true, true, true, true, false, false], nat_step.vl0⟩, ⟨codeOf [true, true, true, true, true, true, false, true, false] 1, [true, true, true, true, true, true, false, true, false], nat_step.vl1⟩, ⟨codeOf [true, true, true, true, true, true, true, true, true, true, false, true, false] 1, [true, true, true, true, true, true, true, true, true, true, false, true, false], nat_step.vl2⟩], M0 := tabM }
def nat_step.H (k : Nat) : List (CutF nat_step.S.R) := [⟨nat_step.vl0, nat_step.l0 k⟩, ⟨nat_step.vl1, nat_step.l1 k⟩, ⟨nat_step.vl2, nat_step.l2 k⟩]
mutual
def nat_long.l0 : Nat → List Int → Int → List Int → List Int → Option (List Int × List Int)
  | 0, _, _, _, _ => none
  | k + 1, x0, x6, x7, x8 => if (x8.length : Int) ≤ (x0.length : Int) then (if x8.length + ([0] : List Int).length < 35184372088832 then (nat_long.l0 k x0 x6 x7 (x8 ++ ([0] : List Int))) else (none)) else (if 0 ≤ (wrap64 ((x8.length : Int) - (x7.length : Int))) then (if (wrap64 ((x8.length : Int) - (x7.length : Int)) : Int).toNat ≤ 70368744177664 then (nat_long.l1 k x6 x7 x8 (x7.length : Int) (List.replicate (wrap64 ((x8.length : Int) - (x7.length : Int)) : Int).toNat (0 : Int)) (wrap64 (((List.replicate (wrap64 ((x8.length : Int) - (x7.length : Int)) : Int).toNat (0 : Int)).length : Int) - 1))) else (none)) else (none))
def nat_long.l1 : Nat → Int → List Int → List Int → Int → List Int → Int → Option (List Int × List Int)
  | 0, _, _, _, _, _, _ => none
  | k + 1, x6, x7, x8, x9, x10, x11 => if x11 ≥ 0 then (if 0 ≤ x11 then (if x11 ≤ (wrap64 ((wrap64 (x11 + x9)) + 1)) then (if (wrap64 ((wrap64 (x11 + x9)) + 1)) ≤ (x8.length : Int) then ((nat_step.f k ((x8.take (wrap64 ((wrap64 (x11 + x9)) + 1) : Int).toNat).drop (x11 : Int).toNat) x7).bind fun t465 => (if 0 ≤ x11 then (if x11 < (x10.length : Int) then (nat_long.l1 k x6 x7 (x8.take (x11 : Int).toNat ++ t465.2 ++ x8.drop (wrap64 ((wrap64 (x11 + x9)) + 1) : Int).toNat) x9 (x10.set (x11 : Int).toNat t465.1) (wrap64 (x11 - 1))) else (none)) else (none))) else (none)) else (none)) else (none)) else ((nat_trim.f k x10).bind fun t466 => (if 0 ≤ x9 then (if x9 ≤ (x8.length : Int) then ((nat_trim.f k (x8.take (x9 : Int).toNat)).bind fun t467 => ((nat_down.f k t467 x6).bind fun t468 => ((nat_trim.f k t468).bind fun t469 => (some (t466, t469))))) else (none)) else (none)))
end
def nat_long.f (k : Nat) (x0 : List Int) (x1 : List Int) : Option (List Int × List Int) := if 0 ≤ wrap64 ((x1.length : Int) - 1) then (if wrap64 ((x1.length : Int) - 1) < (x1.length : Int) then ((bits_LeadingZeros32.f k (rd x1 (wrap64 ((x1.length : Int) - 1)))).bind fun t462 => ((nat_up.f k x1 t462).bind fun t463 => ((nat_up.f k x0 t462).bind fun t464 => (nat_long.l0 k x0 t462 t463 t464)))) else (none)) else (none)
abbrev nat_long.S : Sig := { ps := [.lf (.is .u32), .lf (.is .u32)], rs := [.lf (.is .u32), .lf (.is .u32)], wb := [], R := List Int × List Int, mkR := fun y0 y1 => some (y0, y1), un := fun r => [.ints .u32 r.1, .ints .u32 r.2] }
def nat_long.F (k : Nat) : Fun := { S := nat_long.S, f := nat_long.f k }
abbrev nat_long.vl0 : List (Nat × Kx) := [(0, .lf (.is .u32)), (6, .lf (.i .i64)), (7, .ow .u32), (8, .ow .u32)]
abbrev nat_long.vl1 : List (Nat × Kx) := [(6, .lf (.i .i64)), (7, .ow .u32), (8, .ow .u32), (9, .lf (.i .i64)), (10, .ow .u32), (11, .lf (.i .i64))]
def nat_long.C (k : Nat) : Cfg := { T := TT, G := lookG [(93, [nat_trim.F k, nat_trim.F1 k]), (96, [nat_down.F k]), (97, [nat_up.F k]), (111, [bits_LeadingZeros32.F k]), (112, [nat_step.F k])], nt := 68, cuts := [⟨codeOf [true, true, true, true, false, false] 1, [true, true, true, true, false, false], nat_long.vl0⟩, ⟨codeOf [true, true, true, true, true, true, true, false, true, false] 1, [true, true, true, true, true, true, true, false, true, false], nat_long.vl1⟩], M0 := tabM }
def nat_long.H (k : Nat) : List (CutF nat_long.S.R) := [⟨nat_long.vl0, nat_long.l0 k⟩, ⟨nat_long.vl1, nat_long.l1 k⟩]
def nat_QuoRem.f (k : Nat) (x0 : List Int) (x1 : List Int) : Option (List Int × List Int × Int) := (nat_all.f k [x0, x1]).bind fun t474 => (if (!t474) = true then (some (([] : List Int), ([] : List Int), 2)) else (if (x1.length : Int) = 0 then (some (([] : List Int), ([] : List Int), 11)) else ((nat_cmp.f k x0 x1).bind fun t475 => (if t475 < 0 then (if x0.length < 35184372088832 then (some (([] : List Int), x0, 0)) else (none)) else (if (x1.length : Int) = 1 then (if 0 < (x1.length : Int) then ((nat_small.f k x0 (rd x1 0)).bind fun t476 => ((nat_trim.f k ([t476.2] : List Int)).bind fun t477 => (some (t476.1, t477, 0)))) else (none)) else ((nat_long.f k x0 x1).bind fun t478 => (some (t478.1, t478.2, 0))))))))
abbrev nat_QuoRem.S : Sig := { ps := [.lf (.is .u32), .lf (.is .u32)], rs := [.lf (.is .u32), .lf (.is .u32), .lf (.i .i64)], wb := [], R := List Int × List Int × Int, mkR := fun y0 y1 y2 => some (y0, y1, y2), un := fun r => [.ints .u32 r.1, .ints .u32 r.2.1, .int .i64 r.2.2] }
def nat_QuoRem.F (k : Nat) : Fun := { S := nat_QuoRem.S, f := nat_QuoRem.f k }
def nat_QuoRem.C (k : Nat) : Cfg := { T := TT, G := lookG [(93, [nat_trim.F k, nat_trim.F1 k]), (98, [nat_all.F k]), (99, [nat_cmp.F k]), (100, [nat_small.F k]), (101, [nat_long.F k])], nt := 49, cuts := [], M0 := tabM }
def nat_QuoRem.H (k : Nat) : List (CutF nat_QuoRem.S.R) := []
def nat_Cmp.f (k : Nat) (x0 : List Int) (x1 : List Int) : Option (Int × Int) := (nat_all.f k [x0, x1]).bind fun t484 => (if (!t484) = true then (some (0, 2)) else ((nat_cmp.f k x0 x1).bind fun t485 => (some (t485, 0))))
abbrev nat_Cmp.S : Sig := { ps := [.lf (.is .u32), .lf (.is .u32)], rs := [.lf (.i .i64), .lf (.i .i64)], wb := [], R := Int × Int, mkR := fun y0 y1 => some (y0, y1), un := fun r => [.int .i64 r.1, .int .i64 r.2] }
def nat_Cmp.F (k : Nat) : Fun := { S := nat_Cmp.S, f := nat_Cmp.f k }
def nat_Cmp.C (k : Nat) : Cfg := { T := TT, G := lookG [(98, [nat_all.F k]), (99, [nat_cmp.F k])], nt := 14, cuts := [], M0 := tabM }
def nat_Cmp.H (k : Nat) : List (CutF nat_Cmp.S.R) := []
mutual
def nat_sub.l0 : Nat → List Int → List Int → List Int → Int → Int → Int → Option (List Int)
  | 0, _, _, _, _, _, _ => none
  | k + 1, x0, x1, x5, x6, x13, x14 => if x14 < x13 then (if x14 < (x1.length : Int) then (if 0 ≤ x14 then (if x14 < (x1.length : Int) then (nat_sub.j1 k x0 x1 x5 x6 x14 (rd x1 x14) x13 x14) else (none)) else (none)) else (nat_sub.j1 k x0 x1 x5 x6 x14 0 x13 x14)) else ((nat_trim.f k x5).bind fun t505 => (some t505))
def nat_sub.j1 : Nat → List Int → List Int → List Int → Int → Int → Int → Int → Int → Option (List Int)
  | 0, _, _, _, _, _, _, _, _ => none
  | k + 1, x0, x1, x5, x6, x7, x8, x13, x14 => if 0 ≤ x7 then (if x7 < (x0.length : Int) then ((bits_Sub32.f (rd x0 x7) x8 x6).bind fun t504 => (if 0 ≤ x7 then (if x7 < (x5.length : Int) then (nat_sub.l0 k x0 x1 (x5.set (x7 : Int).toNat t504.1) t504.2 x13 (wrap64 (x14 + 1))) else (none)) else (none))) else (none)) else (none)
end
def nat_sub.f (k : Nat) (x0 : List Int) (x1 : List Int) : Option (List Int) := if 0 ≤ (x0.length : Int) then (if ((x0.length : Int) : Int).toNat ≤ 70368744177664 then (nat_sub.l0 k x0 x1 (List.replicate ((x0.length : Int) : Int).toNat (0 : Int)) 0 (x0.length : Int) 0) else (none)) else (none)
abbrev nat_sub.S : Sig := { ps := [.lf (.is .u32), .lf (.is .u32)], rs := [.lf (.is .u32)], wb := [], R := List Int, mkR := fun y0 => some y0, un := fun r => [.ints .u32 r] }
def nat_sub.F (k : Nat) : Fun := { S := nat_sub.S, f := nat_sub.f k }
abbrev nat_sub.vl0 : List (Nat × Kx) := [(0, .lf (.is .u32)), (1, .lf (.is .u32)), (5, .ow .u32), (6, .lf (.i .u32)), (13, .lf (.i .i64)), (14, .lf (.i .i64))]
abbrev nat_sub.vj1 : List (Nat × Kx) := [(0, .lf (.is .u32)), (1, .lf (.is .u32)), (5, .ow .u32), (6, .lf (.i .u32)), (7, .lf (.i .i64)), (8, .lf (.i .u32)), (13, .lf (.i .i64)), (14, .lf (.i .i64))]
def nat_sub.C (k : Nat) : Cfg := { T := TT, G := lookG [(93, [nat_trim.F k, nat_trim.F1 k]), (113, [bits_Sub32.F k])], nt := 41, cuts := [⟨codeOf [true, true, true, false, true, false] 1, [true, true, true, false, true, false], nat_sub.vl0⟩, ⟨codeOf [true, true, true, false, true, false, false, true, true, false, false, true, true, true] 1, [true, true, true, false, true, false, false, true, true, false, false, true, true, true], nat_sub.vj1⟩], M0 := tabM }
def nat_sub.H (k : Nat) : List (CutF nat_sub.S.R) := [⟨nat_sub.vl0, nat_sub.l0 k⟩, ⟨nat_sub.vj1, nat_sub.j1 k⟩]
def nat_Sub.f (k : Nat) (x0 : List Int) (x1 : List Int) : Option (List Int × Int) := (nat_all.f k [x0, x1]).bind fun t508 => (if (!t508) = true then (some (([] : List Int), 2)) else ((nat_cmp.f k x0 x1).bind fun t509 => (if t509 < 0 then (some (([] : List Int), 10)) else ((nat_sub.f k x0 x1).bind fun t510 => (some (t510, 0))))))
abbrev nat_Sub.S : Sig := { ps := [.lf (.is .u32), .lf (.is .u32)], rs := [.lf (.is .u32), .lf (.i .i64)], wb := [], R := List Int × Int, mkR := fun y0 y1 => some (y0, y1), un := fun r => [.ints .u32 r.1, .int .i64 r.2] }
def nat_Sub.F (k : Nat) : Fun := { S := nat_Sub.S, f := nat_Sub.f k }
def nat_Sub.C (k : Nat) : Cfg := { T := TT, G := lookG [(98, [nat_all.F k]), (99, [nat_cmp.F k]), (102, [nat_sub.F k])], nt := 18, cuts := [], M0 := tabM }
def nat_Sub.H (k : Nat) : List (CutF nat_Sub.S.R) := []
mutual
def conv_left.j0 : Nat → Bool → List Int → Int → Bool → List Int → Int → Int → List Int → List Int → Int → Bool → Option (Bool × List Int × Int)
  | 0, _, _, _, _, _, _, _, _, _, _, _ => none
  | k + 1, x2_0, x2_1, x2_2, x4_0, x4_1, x4_2, x5, x9, x13, x18, x20 => if x18 > 0 then (conv_left.j1 k x4_0 x4_1 x4_2 x5 x9 x13 x2_0 true) else (if x18 = 0 then (conv_left.j1 k x4_0 x4_1 x4_2 x5 x9 x13 x2_0 x20) else (conv_left.j1 k x4_0 x4_1 x4_2 x5 x9 x13 x2_0 false))
def conv_left.j1 : Nat → Bool → List Int → Int → Int → List Int → List Int → Bool → Bool → Option (Bool × List Int × Int)
  | 0, _, _, _, _, _, _, _, _ => none
  | k + 1, x4_0, x4_1, x4_2, x5, x9, x13, x21, x90 => if x90 = true then ((nat_Sub.f k x9 x13).bind fun t518 => (conv_left.j2 k x4_0 x4_1 x4_2 x5 t518.1 (!x21))) else (conv_left.j2 k x4_0 x4_1 x4_2 x5 x13 x21)
def conv_left.j2 : Nat → Bool → List Int → Int → Int → List Int → Bool → Option (Bool × List Int × Int)
  | 0, _, _, _, _, _, _ => none
  | k + 1, x4_0, x4_1, x4_2, x5, x13, x21 => (dyad_Make.f k x21 x13 x5).bind fun t517 => (some (t517.1, t517.2.1, t517.2.2.1))
end
def conv_left.f (k : Nat) (x0_0 : Bool) (x0_1 : List Int) (x0_2 : Int) (x1_0 : Bool) (x1_1 : List Int) (x1_2 : Int) : Option (Bool × List Int × Int) := (nat_Shift.f k x0_1 (wrap64 (x0_2 - (mn x0_2 x1_2)))).bind fun t512 => ((nat_Shift.f k x1_1 (wrap64 (x1_2 - (mn x0_2 x1_2)))).bind fun t513 => ((nat_QuoRem.f k t512.1 t513.1).bind fun t514 => ((nat_Shift.f k t514.2.1 1).bind fun t515 => ((nat_Cmp.f k t515.1 t513.1).bind fun t516 => (if (t514.1.length : Int) > 0 then (if 0 < (t514.1.length : Int) then (conv_left.j0 k x0_0 x0_1 x0_2 false ([] : List Int) 0 (mn x0_2 x1_2) t513.1 t514.2.1 t516.1 (decide ((Go.bits .and .u32 (rd t514.1 0) 1) = 1))) else (none)) else (conv_left.j0 k x0_0 x0_1 x0_2 false ([] : List Int) 0 (mn x0_2 x1_2) t513.1 t514.2.1 t516.1 false))))))
abbrev conv_left.S : Sig := { ps := [.ag [.b, .is .u32, .i .i64], .ag [.b, .is .u32, .i .i64]], rs := [.ag [.b, .is .u32, .i .i64]], wb := [], R := Bool × List Int × Int, mkR := fun y0 y1 y2 => some (y0, y1, y2), un := fun r => [.bool r.1, .ints .u32 r.2.1, .int .i64 r.2.2] }
def conv_left.F (k : Nat) : Fun := { S := conv_left.S, f := conv_left.f k }
abbrev conv_left.vj0 : List (Nat × Kx) := [(2, .bx [.b, .is .u32, .i .i64]), (4, .bx [.b, .is .u32, .i .i64]), (5, .lf (.i .i64)), (9, .lf (.is .u32)), (13, .lf (.is .u32)), (18, .lf (.i .i64)), (20, .lf (.b))]
abbrev conv_left.vj1 : List (Nat × Kx) := [(4, .bx [.b, .is .u32, .i .i64]), (5, .lf (.i .i64)), (9, .lf (.is .u32)), (13, .lf (.is .u32)), (21, .lf (.b)), (90, .lf (.b))]
abbrev conv_left.vj2 : List (Nat × Kx) := [(4, .bx [.b, .is .u32, .i .i64]), (5, .lf (.i .i64)), (13, .lf (.is .u32)), (21, .lf (.b))]
def conv_left.C (k : Nat) : Cfg := { T := TT, G := lookG [(62, [dyad_Make.F k]), (73, [nat_Shift.F k]), (74, [nat_QuoRem.F k]), (75, [nat_Cmp.F k]), (76, [nat_Sub.F k])], nt := 107, cuts := [⟨codeOf [true, true, true, true, true, true, true, true] 1, [true, true, true, true, true, true, true, true], conv_left.vj0⟩, ⟨codeOf [true, true, true, true, true, true, true, true, true, false, true] 1, [true, true, true, true, true, true, true, true, true, false, true], conv_left.vj1⟩, ⟨codeOf [true, true, true, true, true, true, true, true, true, true] 1, [true, true, true, true, true, true, true, true, true, true], conv_left.vj2⟩], M0 := tabM }
def conv_left.H (k : Nat) : List (CutF conv_left.S.R) := [⟨conv_left.vj0, conv_left.j0 k⟩, ⟨conv_left.vj1, conv_left.j1 k⟩, ⟨conv_left.vj2, conv_left.j2 k⟩]
mutual
def conv_Rem.j1 : Nat → Int → Int → Int → Int → Bool → Int → Bool → Option (Int × Int × Int)
  | 0, _, _, _, _, _, _, _ => none
  | k + 1, x0, x1, x2, x9, x10, x12, x46 => if x46 = true then ((word_None.f k x0).bind fun t576 => (some (t576.1, 0, 0))) else (if x9 = 4 then (conv_Rem.j2 k x0 x1 x2 x9 x10 x12 true) else (conv_Rem.j2 k x0 x1 x2 x9 x10 x12 (decide (x12 = 1))))
def conv_Rem.j2 : Nat → Int → Int → Int → Int → Bool → Int → Bool → Option (Int × Int × Int)
  | 0, _, _, _, _, _, _, _ => none
  | k + 1, x0, x1, x2, x9, x10, x12, x59 => if x59 = true then ((word_None.f k x0).bind fun t575 => (some (t575.1, 1, 0))) else (if x12 = 4 then (conv_Rem.j3 k x0 x1 x2 x10 true) else (conv_Rem.j3 k x0 x1 x2 x10 (decide (x9 = 1))))
def conv_Rem.j3 : Nat → Int → Int → Int → Bool → Bool → Option (Int × Int × Int)
  | 0, _, _, _, _, _ => none
  | k + 1, x0, x1, x2, x10, x72 => if x72 = true then (some (x1, 0, 0)) else ((word_Value.f k x0 x1).bind fun t569 => ((word_Value.f k x0 x2).bind fun t570 => ((conv_left.f k t569.1 t569.2.1 t569.2.2.1 t570.1 t570.2.1 t570.2.2.1).bind fun t571 => ((word_Of.f k x0 t571.1 t571.2.1 t571.2.2).bind fun t572 => ((dyad_Sign.f k t571.1 t571.2.1 t571.2.2).bind fun t573 => (if t573 = 0 then ((word_Zero.f k x0 x10).bind fun t574 => (some (t574.1, 0, 0))) else (some (t572.1, 0, 0))))))))
end
def conv_Rem.f (k : Nat) (x0 : Int) (x1 : Int) (x2 : Int) : Option (Int × Int × Int) := (conv_open.f k x0 1 x1).bind fun t567 => (if ¬ (t567.2.2 = 0) then (some (0, 0, t567.2.2)) else ((conv_open.f k x0 1 x2).bind fun t568 => (if ¬ (t568.2.2 = 0) then (some (0, 0, t568.2.2)) else (if t567.1 = 5 then (conv_Rem.j1 k x0 x1 x2 t567.1 t567.2.1 t568.1 true) else (conv_Rem.j1 k x0 x1 x2 t567.1 t567.2.1 t568.1 (decide (t568.1 = 5)))))))
abbrev conv_Rem.S : Sig := { ps := [.lf (.i .u8), .lf (.i .u64), .lf (.i .u64)], rs := [.lf (.i .u64), .lf (.i .u8), .lf (.i .i64)], wb := [], R := Int × Int × Int, mkR := fun y0 y1 y2 => some (y0, y1, y2), un := fun r => [.int .u64 r.1, .int .u8 r.2.1, .int .i64 r.2.2] }
def conv_Rem.F (k : Nat) : Fun := { S := conv_Rem.S, f := conv_Rem.f k }
abbrev conv_Rem.vj1 : List (Nat × Kx) := [(0, .lf (.i .u8)), (1, .lf (.i .u64)), (2, .lf (.i .u64)), (9, .lf (.i .u8)), (10, .lf (.b)), (12, .lf (.i .u8)), (46, .lf (.b))]
abbrev conv_Rem.vj2 : List (Nat × Kx) := [(0, .lf (.i .u8)), (1, .lf (.i .u64)), (2, .lf (.i .u64)), (9, .lf (.i .u8)), (10, .lf (.b)), (12, .lf (.i .u8)), (59, .lf (.b))]
abbrev conv_Rem.vj3 : List (Nat × Kx) := [(0, .lf (.i .u8)), (1, .lf (.i .u64)), (2, .lf (.i .u64)), (10, .lf (.b)), (72, .lf (.b))]
def conv_Rem.C (k : Nat) : Cfg := { T := TT, G := lookG [(27, [conv_open.F k]), (28, [word_None.F k]), (30, [word_Zero.F k]), (31, [word_Value.F k]), (41, [conv_left.F k]), (42, [word_Of.F k]), (43, [dyad_Sign.F k])], nt := 111, cuts := [⟨codeOf [true, true, true, true, false, false, true, true, true] 1, [true, true, true, true, false, false, true, true, true], conv_Rem.vj1⟩, ⟨codeOf [true, true, true, true, false, false, true, true, true, true, true] 1, [true, true, true, true, false, false, true, true, true, true, true], conv_Rem.vj2⟩, ⟨codeOf [true, true, true, true, false, false, true, true, true, true, true, true, true] 1, [true, true, true, true, false, false, true, true, true, true, true, true, true], conv_Rem.vj3⟩], M0 := tabM }
def conv_Rem.H (k : Nat) : List (CutF conv_Rem.S.R) := [⟨conv_Rem.vj1, conv_Rem.j1 k⟩, ⟨conv_Rem.vj2, conv_Rem.j2 k⟩, ⟨conv_Rem.vj3, conv_Rem.j3 k⟩]
def cutplanelaw06_known.f (k : Nat) : Option (Bool) := (conv_To.f k 2 1 4 4607182419068452864).bind fun t580 => ((conv_Rem.f k 2 4617315517961601024 4613937818241073152).bind fun t581 => (if t580.1 = 1065353217 then (if t580.2.1 = 16 then (if t580.2.2 = 0 then (if t581.1 = 13830554455654793216 then (if t581.2.1 = 0 then (some (decide (t581.2.2 = 0))) else (some false)) else (some false)) else (some false)) else (some false)) else (some false)))
abbrev cutplanelaw06_known.S : Sig := { ps := [], rs := [.lf (.b)], wb := [], R := Bool, mkR := fun y0 => some y0, un := fun r => [.bool r] }
def cutplanelaw06_known.F (k : Nat) : Fun := { S := cutplanelaw06_known.S, f := cutplanelaw06_known.f k }
def cutplanelaw06_known.C (k : Nat) : Cfg := { T := TT, G := lookG [(8, [conv_To.F k]), (14, [conv_Rem.F k])], nt := 39, cuts := [], M0 := tabM }
def cutplanelaw06_known.H (k : Nat) : List (CutF cutplanelaw06_known.S.R) := []
def dyad_own.f (x0_0 : Bool) (x0_1 : List Int) (x0_2 : Int) : Option (Bool × List Int × Int) := if x0_1.length < 35184372088832 then (some (x0_0, x0_1, x0_2)) else (none)
abbrev dyad_own.S : Sig := { ps := [.ag [.b, .is .u32, .i .i64]], rs := [.ag [.b, .is .u32, .i .i64]], wb := [], R := Bool × List Int × Int, mkR := fun y0 y1 y2 => some (y0, y1, y2), un := fun r => [.bool r.1, .ints .u32 r.2.1, .int .i64 r.2.2] }
def dyad_own.F (k : Nat) : Fun := { S := dyad_own.S, f := dyad_own.f }
def dyad_own.C (k : Nat) : Cfg := { T := TT, G := lookG [], nt := 8, cuts := [], M0 := tabM }
def dyad_own.H (k : Nat) : List (CutF dyad_own.S.R) := []
def dyad_Shift.f (x0_0 : Bool) (x0_1 : List Int) (x0_2 : Int) (x1 : Int) : Option (Bool × List Int × Int × Int) := (dyad_May.f x0_0 x0_1 x0_2).bind fun t598 => (if (!t598) = true then (some (false, ([] : List Int), 0, 2)) else (if (x0_1.length : Int) = 0 then (some (false, ([] : List Int), 0, 0)) else (if x1 > (wrap64 (16777216 - x0_2)) then (some (false, ([] : List Int), 0, 20)) else (if x1 < (wrap64 ((-16777216) - x0_2)) then (some (false, ([] : List Int), 0, 20)) else ((dyad_own.f x0_0 x0_1 x0_2).bind fun t599 => (some (t599.1, t599.2.1, wrap64 (t599.2.2 + x1), 0)))))))
abbrev dyad_Shift.S : Sig := { ps := [.ag [.b, .is .u32, .i .i64], .lf (.i .i64)], rs := [.ag [.b, .is .u32, .i .i64], .lf (.i .i64)], wb := [], R := Bool × List Int × Int × Int, mkR := fun y0 y1 y2 y3 => some (y0, y1, y2, y3), un := fun r => [.bool r.1, .ints .u32 r.2.1, .int .i64 r.2.2.1, .int .i64 r.2.2.2] }
def dyad_Shift.F (k : Nat) : Fun := { S := dyad_Shift.S, f := dyad_Shift.f }
def dyad_Shift.C (k : Nat) : Cfg := { T := TT, G := lookG [(78, [dyad_May.F k]), (87, [dyad_own.F k])], nt := 39, cuts := [], M0 := tabM }
def dyad_Shift.H (k : Nat) : List (CutF dyad_Shift.S.R) := []
def conv_Scale.j0 : Nat → Int → Int → Int → Int → Bool → Option (Int × Int × Int)
  | 0, _, _, _, _, _ => none
  | k + 1, x0, x1, x2, x3, x39 => if x39 = true then (some (x2, 0, 0)) else ((word_Value.f k x0 x2).bind fun t606 => ((dyad_Shift.f t606.1 t606.2.1 t606.2.2.1 (mn 16384 (mx (-16384) x3))).bind fun t607 => ((round_Round.f k x0 x1 t607.1 t607.2.1 t607.2.2.1).bind fun t608 => (some (t608.1, t608.2.1, t608.2.2)))))
def conv_Scale.f (k : Nat) (x0 : Int) (x1 : Int) (x2 : Int) (x3 : Int) : Option (Int × Int × Int) := (conv_open.f k x0 x1 x2).bind fun t604 => (if ¬ (t604.2.2 = 0) then (some (0, 0, t604.2.2)) else (if t604.1 = 5 then ((word_None.f k x0).bind fun t605 => (some (t605.1, 0, 0))) else (if t604.1 = 4 then (conv_Scale.j0 k x0 x1 x2 x3 true) else (conv_Scale.j0 k x0 x1 x2 x3 (decide (t604.1 = 1))))))
abbrev conv_Scale.S : Sig := { ps := [.lf (.i .u8), .lf (.i .u8), .lf (.i .u64), .lf (.i .i64)], rs := [.lf (.i .u64), .lf (.i .u8), .lf (.i .i64)], wb := [], R := Int × Int × Int, mkR := fun y0 y1 y2 => some (y0, y1, y2), un := fun r => [.int .u64 r.1, .int .u8 r.2.1, .int .i64 r.2.2] }
def conv_Scale.F (k : Nat) : Fun := { S := conv_Scale.S, f := conv_Scale.f k }
abbrev conv_Scale.vj0 : List (Nat × Kx) := [(0, .lf (.i .u8)), (1, .lf (.i .u8)), (2, .lf (.i .u64)), (3, .lf (.i .i64)), (39, .lf (.b))]
def conv_Scale.C (k : Nat) : Cfg := { T := TT, G := lookG [(27, [conv_open.F k]), (28, [word_None.F k]), (31, [word_Value.F k]), (32, [round_Round.F k]), (51, [dyad_Shift.F k])], nt := 68, cuts := [⟨codeOf [true, true, false, false, true, true, true, true, true] 1, [true, true, false, false, true, true, true, true, true], conv_Scale.vj0⟩], M0 := tabM }
def conv_Scale.H (k : Nat) : List (CutF conv_Scale.S.R) := [⟨conv_Scale.vj0, conv_Scale.j0 k⟩]
def dyad_Top.f (k : Nat) (x0_0 : Bool) (x0_1 : List Int) (x0_2 : Int) : Option (Int) := (dyad_May.f x0_0 x0_1 x0_2).bind fun t623 => (if (!t623) = true then (some 0) else (if (x0_1.length : Int) = 0 then (some 0) else ((nat_Len.f k x0_1).bind fun t624 => (some (wrap64 (x0_2 + t624))))))
abbrev dyad_Top.S : Sig := { ps := [.ag [.b, .is .u32, .i .i64]], rs := [.lf (.i .i64)], wb := [], R := Int, mkR := fun y0 => some y0, un := fun r => [.int .i64 r] }
def dyad_Top.F (k : Nat) : Fun := { S := dyad_Top.S, f := dyad_Top.f k }
def dyad_Top.C (k : Nat) : Cfg := { T := TT, G := lookG [(78, [dyad_May.F k]), (89, [nat_Len.F k])], nt := 18, cuts := [], M0 := tabM }
def dyad_Top.H (k : Nat) : List (CutF dyad_Top.S.R) := []
def conv_Parts.f (k : Nat) (x0 : Int) (x1 : Int) : Option (Int × Int × Int) := (word_Class.f k x0 x1).bind fun t628 => (if ¬ (t628.2 = 0) then (some (0, 0, t628.2)) else (if t628.1 ≥ 4 then (some (0, 0, 7)) else (if t628.1 = 1 then (some (x1, 0, 0)) else ((word_Value.f k x0 x1).bind fun t629 => ((dyad_Top.f k t629.1 t629.2.1 t629.2.2.1).bind fun t630 => ((dyad_Shift.f t629.1 t629.2.1 t629.2.2.1 (wrap64 (-t630))).bind fun t631 => ((word_Of.f k x0 t631.1 t631.2.1 t631.2.2.1).bind fun t632 => (some (t632.1, t630, t632.2)))))))))
abbrev conv_Parts.S : Sig := { ps := [.lf (.i .u8), .lf (.i .u64)], rs := [.lf (.i .u64), .lf (.i .i64), .lf (.i .i64)], wb := [], R := Int × Int × Int, mkR := fun y0 y1 y2 => some (y0, y1, y2), un := fun r => [.int .u64 r.1, .int .i64 r.2.1, .int .i64 r.2.2] }
def conv_Parts.F (k : Nat) : Fun := { S := conv_Parts.S, f := conv_Parts.f k }
def conv_Parts.C (k : Nat) : Cfg := { T := TT, G := lookG [(31, [word_Value.F k]), (42, [word_Of.F k]), (51, [dyad_Shift.F k]), (52, [word_Class.F k]), (53, [dyad_Top.F k])], nt := 51, cuts := [], M0 := tabM }
def conv_Parts.H (k : Nat) : List (CutF conv_Parts.S.R) := []
def cutplaneref03_Sign.f (x0 : Int) : Option (Int) := if x0 = 1 then (some 2147483648) else (some 9223372036854775808)
abbrev cutplaneref03_Sign.S : Sig := { ps := [.lf (.i .u8)], rs := [.lf (.i .u64)], wb := [], R := Int, mkR := fun y0 => some y0, un := fun r => [.int .u64 r] }
def cutplaneref03_Sign.F (k : Nat) : Fun := { S := cutplaneref03_Sign.S, f := cutplaneref03_Sign.f }
def cutplaneref03_Sign.C (k : Nat) : Cfg := { T := TT, G := lookG [], nt := 5, cuts := [], M0 := tabM }
def cutplaneref03_Sign.H (k : Nat) : List (CutF cutplaneref03_Sign.S.R) := []
def cutplaneref03_Frac.f (x0 : Int) : Option (Int) := if x0 = 1 then (some 23) else (some 52)
abbrev cutplaneref03_Frac.S : Sig := { ps := [.lf (.i .u8)], rs := [.lf (.i .i64)], wb := [], R := Int, mkR := fun y0 => some y0, un := fun r => [.int .i64 r] }
def cutplaneref03_Frac.F (k : Nat) : Fun := { S := cutplaneref03_Frac.S, f := cutplaneref03_Frac.f }
def cutplaneref03_Frac.C (k : Nat) : Cfg := { T := TT, G := lookG [], nt := 5, cuts := [], M0 := tabM }
def cutplaneref03_Frac.H (k : Nat) : List (CutF cutplaneref03_Frac.S.R) := []
def cutplaneref03_Split.f (x0 : Int) (x1 : Int) : Option (Bool × Int × Int) := (cutplaneref03_Sign.f x0).bind fun t648 => ((cutplaneref03_Sign.f x0).bind fun t649 => (if t649 = 0 then (none) else ((cutplaneref03_Frac.f x0).bind fun t650 => (if 0 ≤ t650 then (if (shl .u64 1 t650) = 0 then (none) else ((cutplaneref03_Frac.f x0).bind fun t651 => (if 0 ≤ t651 then (some (decide (x1 ≥ t648), wrap64 (shr .u64 (Int.tmod x1 t649) t651), Int.tmod (Int.tmod x1 t649) (shl .u64 1 t650))) else (none)))) else (none)))))
abbrev cutplaneref03_Split.S : Sig := { ps := [.lf (.i .u8), .lf (.i .u64)], rs := [.ag [.b, .i .i64, .i .u64]], wb := [], R := Bool × Int × Int, mkR := fun y0 y1 y2 => some (y0, y1, y2), un := fun r => [.bool r.1, .int .i64 r.2.1, .int .u64 r.2.2] }
def cutplaneref03_Split.F (k : Nat) : Fun := { S := cutplaneref03_Split.S, f := cutplaneref03_Split.f }
def cutplaneref03_Split.C (k : Nat) : Cfg := { T := TT, G := lookG [(39, [cutplaneref03_Frac.F k]), (69, [cutplaneref03_Sign.F k])], nt := 28, cuts := [], M0 := tabM }
def cutplaneref03_Split.H (k : Nat) : List (CutF cutplaneref03_Split.S.R) := []
def cutplaneref03_Most.f (x0 : Int) : Option (Int) := if x0 = 1 then (some 255) else (some 2047)
abbrev cutplaneref03_Most.S : Sig := { ps := [.lf (.i .u8)], rs := [.lf (.i .i64)], wb := [], R := Int, mkR := fun y0 => some y0, un := fun r => [.int .i64 r] }
def cutplaneref03_Most.F (k : Nat) : Fun := { S := cutplaneref03_Most.S, f := cutplaneref03_Most.f }
def cutplaneref03_Most.C (k : Nat) : Cfg := { T := TT, G := lookG [], nt := 5, cuts := [], M0 := tabM }
def cutplaneref03_Most.H (k : Nat) : List (CutF cutplaneref03_Most.S.R) := []
def cutplaneref03_Class.f (x0 : Int) (x1 : Int) : Option (Int) := (cutplaneref03_Split.f x0 x1).bind fun t663 => (if t663.2.1 = 0 then (if t663.2.2 = 0 then (some 1) else (if t663.2.1 = 0 then (some 2) else ((cutplaneref03_Most.f x0).bind fun t664 => (if t663.2.1 < t664 then (some 3) else (if t663.2.2 = 0 then (some 4) else (some 5)))))) else (if t663.2.1 = 0 then (some 2) else ((cutplaneref03_Most.f x0).bind fun t665 => (if t663.2.1 < t665 then (some 3) else (if t663.2.2 = 0 then (some 4) else (some 5))))))
abbrev cutplaneref03_Class.S : Sig := { ps := [.lf (.i .u8), .lf (.i .u64)], rs := [.lf (.i .u8)], wb := [], R := Int, mkR := fun y0 => some y0, un := fun r => [.int .u8 r] }
def cutplaneref03_Class.F (k : Nat) : Fun := { S := cutplaneref03_Class.S, f := cutplaneref03_Class.f }
def cutplaneref03_Class.C (k : Nat) : Cfg := { T := TT, G := lookG [(35, [cutplaneref03_Split.F k]), (40, [cutplaneref03_Most.F k])], nt := 28, cuts := [], M0 := tabM }
def cutplaneref03_Class.H (k : Nat) : List (CutF cutplaneref03_Class.S.R) := []
def cutplaneref03_Join.f (x0 : Int) (x1_0 : Bool) (x1_1 : Int) (x1_2 : Int) : Option (Int) := (cutplaneref03_Frac.f x0).bind fun t673 => (if 0 ≤ t673 then (if x1_0 = true then ((cutplaneref03_Sign.f x0).bind fun t674 => (some (IntKind.u64.wrap ((IntKind.u64.wrap ((shl .u64 (IntKind.u64.wrap x1_1) t673) + x1_2)) + t674)))) else (some (IntKind.u64.wrap ((shl .u64 (IntKind.u64.wrap x1_1) t673) + x1_2)))) else (none))
abbrev cutplaneref03_Join.S : Sig := { ps := [.lf (.i .u8), .ag [.b, .i .i64, .i .u64]], rs := [.lf (.i .u64)], wb := [], R := Int, mkR := fun y0 => some y0, un := fun r => [.int .u64 r] }
def cutplaneref03_Join.F (k : Nat) : Fun := { S := cutplaneref03_Join.S, f := cutplaneref03_Join.f }
def cutplaneref03_Join.C (k : Nat) : Cfg := { T := TT, G := lookG [(39, [cutplaneref03_Frac.F k]), (69, [cutplaneref03_Sign.F k])], nt := 22, cuts := [], M0 := tabM }
def cutplaneref03_Join.H (k : Nat) : List (CutF cutplaneref03_Join.S.R) := []
def cutplaneref03_None.f (x0 : Int) : Option (Int) := (cutplaneref03_Most.f x0).bind fun t667 => ((cutplaneref03_Frac.f x0).bind fun t668 => (if 0 ≤ (wrap64 (t668 - 1)) then ((cutplaneref03_Join.f x0 false t667 (shl .u64 1 (wrap64 (t668 - 1)))).bind fun t675 => (some t675)) else (none)))
abbrev cutplaneref03_None.S : Sig := { ps := [.lf (.i .u8)], rs := [.lf (.i .u64)], wb := [], R := Int, mkR := fun y0 => some y0, un := fun r => [.int .u64 r] }
def cutplaneref03_None.F (k : Nat) : Fun := { S := cutplaneref03_None.S, f := cutplaneref03_None.f }
def cutplaneref03_None.C (k : Nat) : Cfg := { T := TT, G := lookG [(39, [cutplaneref03_Frac.F k]), (40, [cutplaneref03_Most.F k]), (68, [cutplaneref03_Join.F k])], nt := 12, cuts := [], M0 := tabM }
def cutplaneref03_None.H (k : Nat) : List (CutF cutplaneref03_None.S.R) := []
def cutplaneref03_Canon.f (x0 : Int) (x1 : Int) : Option (Int) := (cutplaneref03_Class.f x0 x1).bind fun t679 => (if t679 = 5 then ((cutplaneref03_None.f x0).bind fun t680 => (some t680)) else (some x1))
abbrev cutplaneref03_Canon.S : Sig := { ps := [.lf (.i .u8), .lf (.i .u64)], rs := [.lf (.i .u64)], wb := [], R := Int, mkR := fun y0 => some y0, un := fun r => [.int .u64 r] }
def cutplaneref03_Canon.F (k : Nat) : Fun := { S := cutplaneref03_Canon.S, f := cutplaneref03_Canon.f }
def cutplaneref03_Canon.C (k : Nat) : Cfg := { T := TT, G := lookG [(13, [cutplaneref03_Class.F k]), (33, [cutplaneref03_None.F k])], nt := 12, cuts := [], M0 := tabM }
def cutplaneref03_Canon.H (k : Nat) : List (CutF cutplaneref03_Canon.S.R) := []
def cutplanelaw06_ConvBack.f (k : Nat) (x0 : Int) (x1 : Int) (x2 : Int) (x3 : Int) : Option (Bool) := (cutplanelaw06_opens.f k x0 x1 ([x2] : List Int)).bind fun t705 => (if ¬ (t705 = 0) then ((cutplanelaw06_known.f k).bind fun t706 => (some t706)) else (if x3 < (-5000) then ((cutplanelaw06_known.f k).bind fun t707 => (some t707)) else (if x3 > 5000 then ((cutplanelaw06_known.f k).bind fun t708 => (some t708)) else ((conv_Scale.f k x0 x1 x2 x3).bind fun t709 => ((conv_Scale.f k x0 x1 t709.1 (wrap64 (-x3))).bind fun t710 => (if ¬ (t709.2.2 = 0) then (some false) else (if ¬ (t710.2.2 = 0) then (some false) else (if t709.2.1 = 0 then ((cutplaneref03_Canon.f x0 x2).bind fun t711 => (if ¬ (t710.1 = t711) then (some false) else (if ¬ (t710.2.1 = 0) then (some false) else ((conv_Parts.f k x0 x2).bind fun t712 => (if ¬ (t712.2.2 = 0) then (if t712.2.2 = 7 then ((cutplanelaw06_known.f k).bind fun t713 => (some t713)) else (some false)) else ((conv_Scale.f k x0 x1 t712.1 t712.2.1).bind fun t714 => (if t714.2.2 = 0 then (if t714.1 = x2 then (if t714.2.1 = 0 then ((cutplanelaw06_known.f k).bind fun t715 => (some t715)) else (some false)) else (some false)) else (some false)))))))) else ((conv_Parts.f k x0 x2).bind fun t716 => (if ¬ (t716.2.2 = 0) then (if t716.2.2 = 7 then ((cutplanelaw06_known.f k).bind fun t717 => (some t717)) else (some false)) else ((conv_Scale.f k x0 x1 t716.1 t716.2.1).bind fun t718 => (if t718.2.2 = 0 then (if t718.1 = x2 then (if t718.2.1 = 0 then ((cutplanelaw06_known.f k).bind fun t719 => (some t719)) else (some false)) else (some false)) else (some false)))))))))))))
abbrev cutplanelaw06_ConvBack.S : Sig := { ps := [.lf (.i .u8), .lf (.i .u8), .lf (.i .u64), .lf (.i .i64)], rs := [.lf (.b)], wb := [], R := Bool, mkR := fun y0 => some y0, un := fun r => [.bool r] }
def cutplanelaw06_ConvBack.F (k : Nat) : Fun := { S := cutplanelaw06_ConvBack.S, f := cutplanelaw06_ConvBack.f k }
def cutplanelaw06_ConvBack.C (k : Nat) : Cfg := { T := TT, G := lookG [(6, [cutplanelaw06_opens.F k]), (7, [cutplanelaw06_known.F k]), (9, [cutplaneref03_Canon.F k]), (21, [conv_Scale.F k]), (22, [conv_Parts.F k])], nt := 113, cuts := [], M0 := tabM }
def cutplanelaw06_ConvBack.H (k : Nat) : List (CutF cutplanelaw06_ConvBack.S.R) := []
end Go.Proofs.YtclegbgmhimenaaDoor.Eng

