import Derived.Test.YtclegbgmhimenaaGreatDoorEng2
import Derived.Test.YtclegbgmhimenaaGreatDoorProg
import Derived.KernelRfl
import Derived.Lib.TrailingZeros
set_option linter.unusedVariables false
set_option linter.unusedSimpArgs false
namespace Go.Proofs.YtclegbgmhimenaaGreatDoor.Eng
open Go.RowKit Go.Proofs
set_option maxRecDepth 100000
set_option linter.unusedVariables false
def TL : List (Nat × TI) := [(2, ⟨.int .i64, 1, 8, [(.int .i64)]⟩),
  (3, ⟨.int .i64, 1, 8, [(.int .i64)]⟩),
  (4, ⟨.bool, 1, 1, [.bool]⟩),
  (5, ⟨.int .u8, 1, 1, [(.int .u8)]⟩),
  (6, ⟨.int .u8, 1, 1, [(.int .u8)]⟩),
  (7, ⟨.struct [(0, 2), (1, 3), (2, 4), (3, 6)], 4, 24, [(.int .i64), (.int .i64), .bool, (.int .u8)]⟩),
  (8, ⟨.struct [(0, 2), (1, 3), (2, 4), (3, 6)], 4, 24, [(.int .i64), (.int .i64), .bool, (.int .u8)]⟩),
  (9, ⟨.str, 1, 16, [.str]⟩),
  (10, ⟨.str, 1, 16, [.str]⟩),
  (11, ⟨.str, 1, 16, [.str]⟩),
  (12, ⟨.int .u64, 1, 8, [(.int .u64)]⟩),
  (13, ⟨.struct [(0, 9), (1, 12)], 2, 24, [.str, (.int .u64)]⟩),
  (14, ⟨.struct [(0, 9), (1, 12)], 2, 24, [.str, (.int .u64)]⟩),
  (15, ⟨.ptr 192, 1, 8, [.ptr]⟩),
  (16, ⟨.ptr 195, 1, 8, [.ptr]⟩),
  (17, ⟨.ptr 203, 1, 8, [.ptr]⟩),
  (18, ⟨.struct [(0, 17)], 1, 8, [.ptr]⟩),
  (19, ⟨.struct [(0, 17)], 1, 8, [.ptr]⟩),
  (21, ⟨.int .i32, 1, 4, [(.int .i32)]⟩),
  (22, ⟨.int .u8, 1, 1, [(.int .u8)]⟩),
  (23, ⟨.int .u8, 1, 1, [(.int .u8)]⟩),
  (24, ⟨.int .u64, 1, 8, [(.int .u64)]⟩),
  (25, ⟨.int .u8, 1, 1, [(.int .u8)]⟩),
  (26, ⟨.int .i64, 1, 8, [(.int .i64)]⟩),
  (44, ⟨.int .u8, 1, 1, [(.int .u8)]⟩),
  (49, ⟨.slice 107, 1, 24, [(.slice (some .u32))]⟩),
  (50, ⟨.struct [(0, 4), (1, 49), (2, 3)], 3, 40, [.bool, (.slice (some .u32)), (.int .i64)]⟩),
  (51, ⟨.struct [(0, 4), (1, 49), (2, 3)], 3, 40, [.bool, (.slice (some .u32)), (.int .i64)]⟩),
  (62, ⟨.struct [(0, 4), (1, 3), (2, 24)], 3, 24, [.bool, (.int .i64), (.int .u64)]⟩),
  (63, ⟨.struct [(0, 4), (1, 3), (2, 24)], 3, 24, [.bool, (.int .i64), (.int .u64)]⟩),
  (86, ⟨.slice 24, 1, 24, [(.slice (some .u64))]⟩),
  (107, ⟨.int .u32, 1, 4, [(.int .u32)]⟩),
  (109, ⟨.int .u64, 1, 8, [(.int .u64)]⟩),
  (117, ⟨.struct [(0, 3), (1, 3), (2, 24)], 3, 24, [(.int .i64), (.int .i64), (.int .u64)]⟩),
  (118, ⟨.struct [(0, 3), (1, 3), (2, 24)], 3, 24, [(.int .i64), (.int .i64), (.int .u64)]⟩),
  (124, ⟨.struct [(0, 3), (1, 3), (2, 3)], 3, 24, [(.int .i64), (.int .i64), (.int .i64)]⟩),
  (125, ⟨.struct [(0, 3), (1, 3), (2, 3)], 3, 24, [(.int .i64), (.int .i64), (.int .i64)]⟩),
  (128, ⟨.struct [(0, 24), (1, 3), (2, 4)], 3, 24, [(.int .u64), (.int .i64), .bool]⟩),
  (129, ⟨.struct [(0, 24), (1, 3), (2, 4)], 3, 24, [(.int .u64), (.int .i64), .bool]⟩),
  (159, ⟨.slice 51, 1, 24, [(.slice none)]⟩),
  (178, ⟨.slice 49, 1, 24, [(.slice none)]⟩),
  (186, ⟨.arr 32 5, 32, 32, [(.int .u8), (.int .u8), (.int .u8), (.int .u8), (.int .u8), (.int .u8), (.int .u8), (.int .u8), (.int .u8), (.int .u8), (.int .u8), (.int .u8), (.int .u8), (.int .u8), (.int .u8), (.int .u8), (.int .u8), (.int .u8), (.int .u8), (.int .u8), (.int .u8), (.int .u8), (.int .u8), (.int .u8), (.int .u8), (.int .u8), (.int .u8), (.int .u8), (.int .u8), (.int .u8), (.int .u8), (.int .u8)]⟩),
  (191, ⟨.struct [(0, 17), (1, 17), (2, 17), (3, 9)], 4, 40, [.ptr, .ptr, .ptr, .str]⟩),
  (192, ⟨.struct [(0, 17), (1, 17), (2, 17), (3, 9)], 4, 40, [.ptr, .ptr, .ptr, .str]⟩),
  (193, ⟨.arr 0 16, 0, 0, []⟩),
  (194, ⟨.struct [(0, 193)], 0, 0, []⟩),
  (195, ⟨.struct [(0, 193)], 0, 0, []⟩),
  (196, ⟨.int .u8, 1, 1, [(.int .u8)]⟩),
  (197, ⟨.int .u8, 1, 1, [(.int .u8)]⟩),
  (199, ⟨.ptr 5, 1, 8, [.ptr]⟩),
  (200, ⟨.int .i32, 1, 4, [(.int .i32)]⟩),
  (201, ⟨.int .i32, 1, 4, [(.int .i32)]⟩)]
def TT : Nat → Option TI := lookT TL
def txt0 : ByteArray := ⟨#[0, 1, 2, 2, 3, 3, 3, 3, 4, 4, 4, 4, 4, 4, 4, 4, 5, 5, 5, 5, 5, 5, 5, 5, 5, 5, 5, 5, 5, 5, 5, 5, 6, 6, 6, 6, 6, 6, 6, 6, 6, 6, 6, 6, 6, 6, 6, 6, 6, 6, 6, 6, 6, 6, 6, 6, 6, 6, 6, 6, 6, 6, 6, 6, 7, 7, 7, 7, 7, 7, 7, 7, 7, 7, 7, 7, 7, 7, 7, 7, 7, 7, 7, 7, 7, 7, 7, 7, 7, 7, 7, 7, 7, 7, 7, 7, 7, 7, 7, 7, 7, 7, 7, 7, 7, 7, 7, 7, 7, 7, 7, 7, 7, 7, 7, 7, 7, 7, 7, 7, 7, 7, 7, 7, 7, 7, 7, 7, 8, 8, 8, 8, 8, 8, 8, 8, 8, 8, 8, 8, 8, 8, 8, 8, 8, 8, 8, 8, 8, 8, 8, 8, 8, 8, 8, 8, 8, 8, 8, 8, 8, 8, 8, 8, 8, 8, 8, 8, 8, 8, 8, 8, 8, 8, 8, 8, 8, 8, 8, 8, 8, 8, 8, 8, 8, 8, 8, 8, 8, 8, 8, 8, 8, 8, 8, 8, 8, 8, 8, 8, 8, 8, 8, 8, 8, 8, 8, 8, 8, 8, 8, 8, 8, 8, 8, 8, 8, 8, 8, 8, 8, 8, 8, 8, 8, 8, 8, 8, 8, 8, 8, 8, 8, 8, 8, 8, 8, 8, 8, 8, 8, 8, 8, 8, 8, 8, 8, 8, 8, 8, 8, 8, 8, 8, 8, 8]⟩
def bits_TrailingZeros32.f (x : Int) : Option Int := if 0 ≤ x ∧ x < 4294967296 then some (Lib.ctz 32 x.toNat : Int) else none
def tabM : Nat → Nat → Option Value := fun b o => if b = 0 ∧ o < 32 then some (.int .u8 (Lib.deBruijn32tab.getD o 0)) else none
def round_formOf.f (x0 : Int) : Option (Int × Int × Int × Bool) := if x0 = 1 then (some (24, (-149), 128, true)) else (if x0 = 2 then (some (53, (-1074), 1024, true)) else (some (0, 0, 0, false)))
abbrev round_formOf.S : Sig := { ps := [.lf (.i .u8)], rs := [.ag [.i .i64, .i .i64, .i .i64], .lf (.b)], wb := [], R := Int × Int × Int × Bool, mkR := fun y0 y1 y2 y3 => some (y0, y1, y2, y3), un := fun r => [.int .i64 r.1, .int .i64 r.2.1, .int .i64 r.2.2.1, .bool r.2.2.2] }
def round_formOf.F (k : Nat) : Fun := { S := round_formOf.S, f := round_formOf.f }
def round_formOf.C (k : Nat) : Cfg := { T := TT, G := lookG [], nt := 12, cuts := [], M0 := tabM }
def round_formOf.H (k : Nat) : List (CutF round_formOf.S.R) := []
def nat_May.f (x0 : List Int) : Option (Bool) := if (x0.length : Int) ≤ 4096 then (if (x0.length : Int) = 0 then (some true) else (if 0 ≤ wrap64 ((x0.length : Int) - 1) then (if wrap64 ((x0.length : Int) - 1) < (x0.length : Int) then (some (decide (¬ (rd x0 (wrap64 ((x0.length : Int) - 1)) = 0)))) else (none)) else (none))) else (some false)
abbrev nat_May.S : Sig := { ps := [.lf (.is .u32)], rs := [.lf (.b)], wb := [], R := Bool, mkR := fun y0 => some y0, un := fun r => [.bool r] }
def nat_May.F (k : Nat) : Fun := { S := nat_May.S, f := nat_May.f }
def nat_May.C (k : Nat) : Cfg := { T := TT, G := lookG [], nt := 20, cuts := [], M0 := tabM }
def nat_May.H (k : Nat) : List (CutF nat_May.S.R) := []
def dyad_inside.f (x0 : Int) : Option (Bool) := if (-16777216) ≤ x0 then (some (decide (x0 ≤ 16777216))) else (some false)
abbrev dyad_inside.S : Sig := { ps := [.lf (.i .i64)], rs := [.lf (.b)], wb := [], R := Bool, mkR := fun y0 => some y0, un := fun r => [.bool r] }
def dyad_inside.F (k : Nat) : Fun := { S := dyad_inside.S, f := dyad_inside.f }
def dyad_inside.C (k : Nat) : Cfg := { T := TT, G := lookG [], nt := 9, cuts := [], M0 := tabM }
def dyad_inside.H (k : Nat) : List (CutF dyad_inside.S.R) := []
def dyad_May.f (x0_0 : Bool) (x0_1 : List Int) (x0_2 : Int) : Option (Bool) := (nat_May.f x0_1).bind fun t19 => (if (!t19) = true then (some false) else (if (x0_1.length : Int) = 0 then (if (!x0_0) = true then (some (decide (x0_2 = 0))) else (some false)) else (if 0 < (x0_1.length : Int) then (if (Go.bits .and .u32 (rd x0_1 0) 1) = 1 then ((dyad_inside.f x0_2).bind fun t20 => (some t20)) else (some false)) else (none))))
abbrev dyad_May.S : Sig := { ps := [.ag [.b, .is .u32, .i .i64]], rs := [.lf (.b)], wb := [], R := Bool, mkR := fun y0 => some y0, un := fun r => [.bool r] }
def dyad_May.F (k : Nat) : Fun := { S := dyad_May.S, f := dyad_May.f }
def dyad_May.C (k : Nat) : Cfg := { T := TT, G := lookG [(122, [nat_May.F k]), (137, [dyad_inside.F k])], nt := 30, cuts := [], M0 := tabM }
def dyad_May.H (k : Nat) : List (CutF dyad_May.S.R) := []
def round_open.l0 : Nat → Int → Int → Int → Int → Int → Int → List (Bool × List Int × Int) → Int → Int → Option (Int × Int × Int × Int)
  | 0, _, _, _, _, _, _, _, _, _ => none
  | k + 1, x6_0, x6_1, x6_2, x8_0, x8_1, x8_2, x27, x28, x29 => if x29 < x28 then (if 0 ≤ x29 then (if x29 < (x27.length : Int) then ((dyad_May.f ((rdT [.b, .is .u32, .i .i64] x27 x29).1) ((rdT [.b, .is .u32, .i .i64] x27 x29).2.1) ((rdT [.b, .is .u32, .i .i64] x27 x29).2.2)).bind fun t30 => (if (!t30) = true then (some (x8_0, x8_1, x8_2, 2)) else (round_open.l0 k x6_0 x6_1 x6_2 x8_0 x8_1 x8_2 x27 x28 (wrap64 (x29 + 1))))) else (none)) else (none)) else (some (x8_0, x8_1, x8_2, 0))
def round_open.f (k : Nat) (x0 : Int) (x1 : Int) (x2 : List (Bool × List Int × Int)) : Option (Int × Int × Int × Int) := (round_formOf.f x0).bind fun t29 => (if (!t29.2.2.2) = true then (some (t29.1, t29.2.1, t29.2.2.1, 4)) else (if x1 < 1 then (some (t29.1, t29.2.1, t29.2.2.1, 5)) else (if x1 > 5 then (some (t29.1, t29.2.1, t29.2.2.1, 5)) else (round_open.l0 k 0 0 0 t29.1 t29.2.1 t29.2.2.1 x2 (x2.length : Int) 0))))
abbrev round_open.S : Sig := { ps := [.lf (.i .u8), .lf (.i .u8), .lf (.rw [.b, .is .u32, .i .i64])], rs := [.ag [.i .i64, .i .i64, .i .i64], .lf (.i .i64)], wb := [], R := Int × Int × Int × Int, mkR := fun y0 y1 y2 y3 => some (y0, y1, y2, y3), un := fun r => [.int .i64 r.1, .int .i64 r.2.1, .int .i64 r.2.2.1, .int .i64 r.2.2.2] }
def round_open.F (k : Nat) : Fun := { S := round_open.S, f := round_open.f k }
abbrev round_open.vl0 : List (Nat × Kx) := [(6, .bx [.i .i64, .i .i64, .i .i64]), (8, .bx [.i .i64, .i .i64, .i .i64]), (27, .lf (.rw [.b, .is .u32, .i .i64])), (28, .lf (.i .i64)), (29, .lf (.i .i64))]
def round_open.C (k : Nat) : Cfg := { T := TT, G := lookG [(102, [dyad_May.F k]), (125, [round_formOf.F k])], nt := 39, cuts := [⟨codeOf [true, true, true, true, false, true, false] 1, [true, true, true, true, false, true, false], round_open.vl0⟩], M0 := tabM }
def round_open.H (k : Nat) : List (CutF round_open.S.R) := [⟨round_open.vl0, round_open.l0 k⟩]
def word_shapeOf.f (x0 : Int) : Option (Int × Int × Int × Bool) := if x0 = 1 then (some (23, 255, 2147483648, true)) else (if x0 = 2 then (some (52, 2047, 9223372036854775808, true)) else (some (0, 0, 0, false)))
abbrev word_shapeOf.S : Sig := { ps := [.lf (.i .u8)], rs := [.ag [.i .i64, .i .i64, .i .u64], .lf (.b)], wb := [], R := Int × Int × Int × Bool, mkR := fun y0 y1 y2 y3 => some (y0, y1, y2, y3), un := fun r => [.int .i64 r.1, .int .i64 r.2.1, .int .u64 r.2.2.1, .bool r.2.2.2] }
def word_shapeOf.F (k : Nat) : Fun := { S := word_shapeOf.S, f := word_shapeOf.f }
def word_shapeOf.C (k : Nat) : Cfg := { T := TT, G := lookG [], nt := 12, cuts := [], M0 := tabM }
def word_shapeOf.H (k : Nat) : List (CutF word_shapeOf.S.R) := []
def word_open.l0 : Nat → Int → Int → Int → Int → Int → Int → List Int → Int → Int → Option (Int × Int × Int × Int)
  | 0, _, _, _, _, _, _, _, _, _ => none
  | k + 1, x4_0, x4_1, x4_2, x6_0, x6_1, x6_2, x18, x19, x20 => if x20 < x19 then (if 0 ≤ x20 then (if x20 < (x18.length : Int) then (if (rd x18 x20) > (Go.bits .or .u64 x6_2 (IntKind.u64.wrap (x6_2 - 1))) then (some (x6_0, x6_1, x6_2, 6)) else (word_open.l0 k x4_0 x4_1 x4_2 x6_0 x6_1 x6_2 x18 x19 (wrap64 (x20 + 1)))) else (none)) else (none)) else (some (x6_0, x6_1, x6_2, 0))
def word_open.f (k : Nat) (x0 : Int) (x1 : List Int) : Option (Int × Int × Int × Int) := (word_shapeOf.f x0).bind fun t40 => (if (!t40.2.2.2) = true then (some (t40.1, t40.2.1, t40.2.2.1, 4)) else (word_open.l0 k 0 0 0 t40.1 t40.2.1 t40.2.2.1 x1 (x1.length : Int) 0))
abbrev word_open.S : Sig := { ps := [.lf (.i .u8), .lf (.is .u64)], rs := [.ag [.i .i64, .i .i64, .i .u64], .lf (.i .i64)], wb := [], R := Int × Int × Int × Int, mkR := fun y0 y1 y2 y3 => some (y0, y1, y2, y3), un := fun r => [.int .i64 r.1, .int .i64 r.2.1, .int .u64 r.2.2.1, .int .i64 r.2.2.2] }
def word_open.F (k : Nat) : Fun := { S := word_open.S, f := word_open.f k }
abbrev word_open.vl0 : List (Nat × Kx) := [(4, .bx [.i .i64, .i .i64, .i .u64]), (6, .bx [.i .i64, .i .i64, .i .u64]), (18, .lf (.is .u64)), (19, .lf (.i .i64)), (20, .lf (.i .i64))]
def word_open.C (k : Nat) : Cfg := { T := TT, G := lookG [(136, [word_shapeOf.F k])], nt := 35, cuts := [⟨codeOf [true, true, true, false, true, false] 1, [true, true, true, false, true, false], word_open.vl0⟩], M0 := tabM }
def word_open.H (k : Nat) : List (CutF word_open.S.R) := [⟨word_open.vl0, word_open.l0 k⟩]
def word_shape_inf.f (x0_0 : Int) (x0_1 : Int) (x0_2 : Int) : Option (Int) := if 0 ≤ x0_0 then (some (shl .u64 (IntKind.u64.wrap x0_1) x0_0)) else (none)
abbrev word_shape_inf.S : Sig := { ps := [.ag [.i .i64, .i .i64, .i .u64]], rs := [.lf (.i .u64)], wb := [], R := Int, mkR := fun y0 => some y0, un := fun r => [.int .u64 r] }
def word_shape_inf.F (k : Nat) : Fun := { S := word_shape_inf.S, f := word_shape_inf.f }
def word_shape_inf.C (k : Nat) : Cfg := { T := TT, G := lookG [], nt := 9, cuts := [], M0 := tabM }
def word_shape_inf.H (k : Nat) : List (CutF word_shape_inf.S.R) := []
def word_Greatest_1.f (x0_0 : Int) (x0_1 : Int) (x0_2 : Int) : Option (Int) := (word_shape_inf.f x0_0 x0_1 x0_2).bind fun t43 => (some (IntKind.u64.wrap (t43 - 1)))
abbrev word_Greatest_1.S : Sig := { ps := [.ag [.i .i64, .i .i64, .i .u64]], rs := [.lf (.i .u64)], wb := [], R := Int, mkR := fun y0 => some y0, un := fun r => [.int .u64 r] }
def word_Greatest_1.F (k : Nat) : Fun := { S := word_Greatest_1.S, f := word_Greatest_1.f }
def word_Greatest_1.C (k : Nat) : Cfg := { T := TT, G := lookG [(83, [word_shape_inf.F k])], nt := 6, cuts := [], M0 := tabM }
def word_Greatest_1.H (k : Nat) : List (CutF word_Greatest_1.S.R) := []
def word_named_word_Greatest_1.f (k : Nat) (x0 : Int) (x1 : Bool) : Option (Int × Int) := (word_open.f k x0 ([] : List Int)).bind fun t51 => (if ¬ (t51.2.2.2 = 0) then (some (0, t51.2.2.2)) else ((word_Greatest_1.f t51.1 t51.2.1 t51.2.2.1).bind fun t52 => (if x1 = true then (some (Go.bits .or .u64 t52 t51.2.2.1, 0)) else (some (t52, 0)))))
abbrev word_named_word_Greatest_1.S : Sig := { ps := [.lf (.i .u8), .lf (.b), .lf (.fn 147)], rs := [.lf (.i .u64), .lf (.i .i64)], wb := [], R := Int × Int, mkR := fun y0 y1 => some (y0, y1), un := fun r => [.int .u64 r.1, .int .i64 r.2] }
def word_named_word_Greatest_1.F (k : Nat) : Fun := { S := word_named_word_Greatest_1.S, f := word_named_word_Greatest_1.f k }
def word_named_word_Greatest_1.C (k : Nat) : Cfg := { T := TT, G := lookG [(101, [word_open.F k]), (147, [word_Greatest_1.F k])], nt := 28, cuts := [], M0 := tabM }
def word_named_word_Greatest_1.H (k : Nat) : List (CutF word_named_word_Greatest_1.S.R) := []
def word_Greatest.f (k : Nat) (x0 : Int) (x1 : Bool) : Option (Int × Int) := (word_named_word_Greatest_1.f k x0 x1).bind fun t53 => (some (t53.1, t53.2))
abbrev word_Greatest.S : Sig := { ps := [.lf (.i .u8), .lf (.b)], rs := [.lf (.i .u64), .lf (.i .i64)], wb := [], R := Int × Int, mkR := fun y0 y1 => some (y0, y1), un := fun r => [.int .u64 r.1, .int .i64 r.2] }
def word_Greatest.F (k : Nat) : Fun := { S := word_Greatest.S, f := word_Greatest.f k }
def word_Greatest.C (k : Nat) : Cfg := { T := TT, G := lookG [(81, [word_named_word_Greatest_1.F k])], nt := 11, cuts := [], M0 := tabM }
def word_Greatest.H (k : Nat) : List (CutF word_Greatest.S.R) := []
def word_named_word_shape_inf.f (k : Nat) (x0 : Int) (x1 : Bool) : Option (Int × Int) := (word_open.f k x0 ([] : List Int)).bind fun t65 => (if ¬ (t65.2.2.2 = 0) then (some (0, t65.2.2.2)) else ((word_shape_inf.f t65.1 t65.2.1 t65.2.2.1).bind fun t66 => (if x1 = true then (some (Go.bits .or .u64 t66 t65.2.2.1, 0)) else (some (t66, 0)))))
abbrev word_named_word_shape_inf.S : Sig := { ps := [.lf (.i .u8), .lf (.b), .lf (.fn 83)], rs := [.lf (.i .u64), .lf (.i .i64)], wb := [], R := Int × Int, mkR := fun y0 y1 => some (y0, y1), un := fun r => [.int .u64 r.1, .int .i64 r.2] }
def word_named_word_shape_inf.F (k : Nat) : Fun := { S := word_named_word_shape_inf.S, f := word_named_word_shape_inf.f k }
def word_named_word_shape_inf.C (k : Nat) : Cfg := { T := TT, G := lookG [(83, [word_shape_inf.F k]), (101, [word_open.F k])], nt := 28, cuts := [], M0 := tabM }
def word_named_word_shape_inf.H (k : Nat) : List (CutF word_named_word_shape_inf.S.R) := []
def word_Inf.f (k : Nat) (x0 : Int) (x1 : Bool) : Option (Int × Int) := (word_named_word_shape_inf.f k x0 x1).bind fun t67 => (some (t67.1, t67.2))
abbrev word_Inf.S : Sig := { ps := [.lf (.i .u8), .lf (.b)], rs := [.lf (.i .u64), .lf (.i .i64)], wb := [], R := Int × Int, mkR := fun y0 y1 => some (y0, y1), un := fun r => [.int .u64 r.1, .int .i64 r.2] }
def word_Inf.F (k : Nat) : Fun := { S := word_Inf.S, f := word_Inf.f k }
def word_Inf.C (k : Nat) : Cfg := { T := TT, G := lookG [(81, [word_named_word_shape_inf.F k])], nt := 11, cuts := [], M0 := tabM }
def word_Inf.H (k : Nat) : List (CutF word_Inf.S.R) := []
def round_Over.j1 : Nat → Int → Bool → Bool → Option (Int × Int)
  | 0, _, _, _ => none
  | k + 1, x0, x2, x35 => if x35 = true then ((word_Greatest.f k x0 x2).bind fun t72 => (some (t72.1, t72.2))) else ((word_Inf.f k x0 x2).bind fun t73 => (some (t73.1, t73.2)))
def round_Over.f (k : Nat) (x0 : Int) (x1 : Int) (x2 : Bool) : Option (Int × Int) := (round_open.f k x0 x1 []).bind fun t71 => (if ¬ (t71.2.2.2 = 0) then (some (0, t71.2.2.2)) else (if x1 = 3 then (round_Over.j1 k x0 x2 true) else (if x1 = 4 then (if x2 = true then (round_Over.j1 k x0 x2 true) else (if x1 = 5 then (round_Over.j1 k x0 x2 (!x2)) else (round_Over.j1 k x0 x2 false))) else (if x1 = 5 then (round_Over.j1 k x0 x2 (!x2)) else (round_Over.j1 k x0 x2 false)))))
abbrev round_Over.S : Sig := { ps := [.lf (.i .u8), .lf (.i .u8), .lf (.b)], rs := [.lf (.i .u64), .lf (.i .i64)], wb := [], R := Int × Int, mkR := fun y0 y1 => some (y0, y1), un := fun r => [.int .u64 r.1, .int .i64 r.2] }
def round_Over.F (k : Nat) : Fun := { S := round_Over.S, f := round_Over.f k }
abbrev round_Over.vj1 : List (Nat × Kx) := [(0, .lf (.i .u8)), (2, .lf (.b)), (35, .lf (.b))]
def round_Over.C (k : Nat) : Cfg := { T := TT, G := lookG [(44, [word_Inf.F k]), (90, [round_open.F k]), (121, [word_Greatest.F k])], nt := 46, cuts := [⟨codeOf [true, true, false, true] 1, [true, true, false, true], round_Over.vj1⟩], M0 := tabM }
def round_Over.H (k : Nat) : List (CutF round_Over.S.R) := [⟨round_Over.vj1, round_Over.j1 k⟩]
def conv_mode.f (k : Nat) (x0 : Int) (x1 : Int) : Option (Int) := (round_Over.f k x0 x1 false).bind fun t74 => (some t74.2)
abbrev conv_mode.S : Sig := { ps := [.lf (.i .u8), .lf (.i .u8)], rs := [.lf (.i .i64)], wb := [], R := Int, mkR := fun y0 => some y0, un := fun r => [.int .i64 r] }
def conv_mode.F (k : Nat) : Fun := { S := conv_mode.S, f := conv_mode.f k }
def conv_mode.C (k : Nat) : Cfg := { T := TT, G := lookG [(79, [round_Over.F k])], nt := 14, cuts := [], M0 := tabM }
def conv_mode.H (k : Nat) : List (CutF conv_mode.S.R) := []
def word_shape_class.f (x0_0 : Int) (x0_1 : Int) (x0_2 : Int) (x1 : Int) : Option (Int) := if (Go.bits .andNot .u64 x1 x0_2) = 0 then (some 1) else (if 0 ≤ x0_0 then (if (Go.bits .andNot .u64 x1 x0_2) < (shl .u64 1 x0_0) then (some 2) else ((word_shape_inf.f x0_0 x0_1 x0_2).bind fun t83 => (if (Go.bits .andNot .u64 x1 x0_2) < t83 then (some 3) else ((word_shape_inf.f x0_0 x0_1 x0_2).bind fun t84 => (if (Go.bits .andNot .u64 x1 x0_2) = t84 then (some 4) else (some 5)))))) else (none))
abbrev word_shape_class.S : Sig := { ps := [.ag [.i .i64, .i .i64, .i .u64], .lf (.i .u64)], rs := [.lf (.i .u8)], wb := [], R := Int, mkR := fun y0 => some y0, un := fun r => [.int .u8 r] }
def word_shape_class.F (k : Nat) : Fun := { S := word_shape_class.S, f := word_shape_class.f }
def word_shape_class.C (k : Nat) : Cfg := { T := TT, G := lookG [(83, [word_shape_inf.F k])], nt := 29, cuts := [], M0 := tabM }
def word_shape_class.H (k : Nat) : List (CutF word_shape_class.S.R) := []
def word_Class.f (k : Nat) (x0 : Int) (x1 : Int) : Option (Int × Int) := (word_open.f k x0 ([x1] : List Int)).bind fun t86 => (if ¬ (t86.2.2.2 = 0) then (some (0, t86.2.2.2)) else ((word_shape_class.f t86.1 t86.2.1 t86.2.2.1 x1).bind fun t87 => (some (t87, 0))))
abbrev word_Class.S : Sig := { ps := [.lf (.i .u8), .lf (.i .u64)], rs := [.lf (.i .u8), .lf (.i .i64)], wb := [], R := Int × Int, mkR := fun y0 y1 => some (y0, y1), un := fun r => [.int .u8 r.1, .int .i64 r.2] }
def word_Class.F (k : Nat) : Fun := { S := word_Class.S, f := word_Class.f k }
def word_Class.C (k : Nat) : Cfg := { T := TT, G := lookG [(101, [word_open.F k]), (109, [word_shape_class.F k])], nt := 21, cuts := [], M0 := tabM }
def word_Class.H (k : Nat) : List (CutF word_Class.S.R) := []
def word_shape_split.f (x0_0 : Int) (x0_1 : Int) (x0_2 : Int) (x1 : Int) : Option (Bool × Int × Int) := if 0 ≤ x0_0 then (if 0 ≤ x0_0 then (some (decide (¬ (Go.bits .and .u64 x1 x0_2 = 0)), wrap64 (shr .u64 (Go.bits .andNot .u64 x1 x0_2) x0_0), Go.bits .and .u64 (Go.bits .andNot .u64 x1 x0_2) (IntKind.u64.wrap ((shl .u64 1 x0_0) - 1)))) else (none)) else (none)
abbrev word_shape_split.S : Sig := { ps := [.ag [.i .i64, .i .i64, .i .u64], .lf (.i .u64)], rs := [.ag [.b, .i .i64, .i .u64]], wb := [], R := Bool × Int × Int, mkR := fun y0 y1 y2 => some (y0, y1, y2), un := fun r => [.bool r.1, .int .i64 r.2.1, .int .u64 r.2.2] }
def word_shape_split.F (k : Nat) : Fun := { S := word_shape_split.S, f := word_shape_split.f }
def word_shape_split.C (k : Nat) : Cfg := { T := TT, G := lookG [], nt := 27, cuts := [], M0 := tabM }
def word_shape_split.H (k : Nat) : List (CutF word_shape_split.S.R) := []
def word_Split.f (k : Nat) (x0 : Int) (x1 : Int) : Option (Bool × Int × Int × Int) := (word_open.f k x0 ([x1] : List Int)).bind fun t92 => (if ¬ (t92.2.2.2 = 0) then (some (false, 0, 0, t92.2.2.2)) else ((word_shape_split.f t92.1 t92.2.1 t92.2.2.1 x1).bind fun t93 => (some (t93.1, t93.2.1, t93.2.2, 0))))
abbrev word_Split.S : Sig := { ps := [.lf (.i .u8), .lf (.i .u64)], rs := [.ag [.b, .i .i64, .i .u64], .lf (.i .i64)], wb := [], R := Bool × Int × Int × Int, mkR := fun y0 y1 y2 y3 => some (y0, y1, y2, y3), un := fun r => [.bool r.1, .int .i64 r.2.1, .int .u64 r.2.2.1, .int .i64 r.2.2.2] }
def word_Split.F (k : Nat) : Fun := { S := word_Split.S, f := word_Split.f k }
def word_Split.C (k : Nat) : Cfg := { T := TT, G := lookG [(86, [word_shape_split.F k]), (101, [word_open.F k])], nt := 22, cuts := [], M0 := tabM }
def word_Split.H (k : Nat) : List (CutF word_Split.S.R) := []
def conv_open.f (k : Nat) (x0 : Int) (x1 : Int) (x2 : Int) : Option (Int × Bool × Int) := (conv_mode.f k x0 x1).bind fun t95 => (if ¬ (t95 = 0) then (some (0, false, t95)) else ((word_Class.f k x0 x2).bind fun t96 => ((word_Split.f k x0 x2).bind fun t97 => (some (t96.1, t97.1, t96.2)))))
abbrev conv_open.S : Sig := { ps := [.lf (.i .u8), .lf (.i .u8), .lf (.i .u64)], rs := [.lf (.i .u8), .lf (.b), .lf (.i .i64)], wb := [], R := Int × Bool × Int, mkR := fun y0 y1 y2 => some (y0, y1, y2), un := fun r => [.int .u8 r.1, .bool r.2.1, .int .i64 r.2.2] }
def conv_open.F (k : Nat) : Fun := { S := conv_open.S, f := conv_open.f k }
def conv_open.C (k : Nat) : Cfg := { T := TT, G := lookG [(41, [conv_mode.F k]), (61, [word_Class.F k]), (80, [word_Split.F k])], nt := 36, cuts := [], M0 := tabM }
def conv_open.H (k : Nat) : List (CutF conv_open.S.R) := []
def word_shape_none.f (x0_0 : Int) (x0_1 : Int) (x0_2 : Int) : Option (Int) := (word_shape_inf.f x0_0 x0_1 x0_2).bind fun t104 => (if 0 ≤ (wrap64 (x0_0 - 1)) then (some (Go.bits .or .u64 t104 (shl .u64 1 (wrap64 (x0_0 - 1))))) else (none))
abbrev word_shape_none.S : Sig := { ps := [.ag [.i .i64, .i .i64, .i .u64]], rs := [.lf (.i .u64)], wb := [], R := Int, mkR := fun y0 => some y0, un := fun r => [.int .u64 r] }
def word_shape_none.F (k : Nat) : Fun := { S := word_shape_none.S, f := word_shape_none.f }
def word_shape_none.C (k : Nat) : Cfg := { T := TT, G := lookG [(83, [word_shape_inf.F k])], nt := 10, cuts := [], M0 := tabM }
def word_shape_none.H (k : Nat) : List (CutF word_shape_none.S.R) := []
def word_named_word_shape_none.f (k : Nat) (x0 : Int) (x1 : Bool) : Option (Int × Int) := (word_open.f k x0 ([] : List Int)).bind fun t112 => (if ¬ (t112.2.2.2 = 0) then (some (0, t112.2.2.2)) else ((word_shape_none.f t112.1 t112.2.1 t112.2.2.1).bind fun t113 => (if x1 = true then (some (Go.bits .or .u64 t113 t112.2.2.1, 0)) else (some (t113, 0)))))
abbrev word_named_word_shape_none.S : Sig := { ps := [.lf (.i .u8), .lf (.b), .lf (.fn 82)], rs := [.lf (.i .u64), .lf (.i .i64)], wb := [], R := Int × Int, mkR := fun y0 y1 => some (y0, y1), un := fun r => [.int .u64 r.1, .int .i64 r.2] }
def word_named_word_shape_none.F (k : Nat) : Fun := { S := word_named_word_shape_none.S, f := word_named_word_shape_none.f k }
def word_named_word_shape_none.C (k : Nat) : Cfg := { T := TT, G := lookG [(82, [word_shape_none.F k]), (101, [word_open.F k])], nt := 28, cuts := [], M0 := tabM }
def word_named_word_shape_none.H (k : Nat) : List (CutF word_named_word_shape_none.S.R) := []
def word_None.f (k : Nat) (x0 : Int) : Option (Int × Int) := (word_named_word_shape_none.f k x0 false).bind fun t114 => (some (t114.1, t114.2))
abbrev word_None.S : Sig := { ps := [.lf (.i .u8)], rs := [.lf (.i .u64), .lf (.i .i64)], wb := [], R := Int × Int, mkR := fun y0 y1 => some (y0, y1), un := fun r => [.int .u64 r.1, .int .i64 r.2] }
def word_None.F (k : Nat) : Fun := { S := word_None.S, f := word_None.f k }
def word_None.C (k : Nat) : Cfg := { T := TT, G := lookG [(81, [word_named_word_shape_none.F k])], nt := 8, cuts := [], M0 := tabM }
def word_None.H (k : Nat) : List (CutF word_None.S.R) := []
def word_finite.f (k : Nat) (x0 : Int) (x1 : Int) : Option (Int × Int × Int × Int) := (word_open.f k x0 ([x1] : List Int)).bind fun t126 => (if t126.2.2.2 = 0 then ((word_shape_class.f t126.1 t126.2.1 t126.2.2.1 x1).bind fun t127 => (if t127 ≥ 4 then (some (t126.1, t126.2.1, t126.2.2.1, 7)) else (some (t126.1, t126.2.1, t126.2.2.1, t126.2.2.2)))) else (some (t126.1, t126.2.1, t126.2.2.1, t126.2.2.2)))
abbrev word_finite.S : Sig := { ps := [.lf (.i .u8), .lf (.i .u64)], rs := [.ag [.i .i64, .i .i64, .i .u64], .lf (.i .i64)], wb := [], R := Int × Int × Int × Int, mkR := fun y0 y1 y2 y3 => some (y0, y1, y2, y3), un := fun r => [.int .i64 r.1, .int .i64 r.2.1, .int .u64 r.2.2.1, .int .i64 r.2.2.2] }
def word_finite.F (k : Nat) : Fun := { S := word_finite.S, f := word_finite.f k }
def word_finite.C (k : Nat) : Cfg := { T := TT, G := lookG [(101, [word_open.F k]), (109, [word_shape_class.F k])], nt := 25, cuts := [], M0 := tabM }
def word_finite.H (k : Nat) : List (CutF word_finite.S.R) := []
def nat_trim.l0 : Nat → List Int → Option (List Int)
  | 0, _ => none
  | k + 1, x0 => if (x0.length : Int) > 0 then (if 0 ≤ wrap64 ((x0.length : Int) - 1) then (if wrap64 ((x0.length : Int) - 1) < (x0.length : Int) then (if (rd x0 (wrap64 ((x0.length : Int) - 1))) = 0 then (if 0 ≤ (wrap64 ((x0.length : Int) - 1)) then (if (wrap64 ((x0.length : Int) - 1)) ≤ (x0.length : Int) then (nat_trim.l0 k (x0.take (wrap64 ((x0.length : Int) - 1) : Int).toNat)) else (none)) else (none)) else (some x0)) else (none)) else (none)) else (some x0)
def nat_trim.f (k : Nat) (x0 : List Int) : Option (List Int) := nat_trim.l0 k x0
abbrev nat_trim.S : Sig := { ps := [.ow .u32], rs := [.ow .u32], wb := [], R := List Int, mkR := fun y0 => some y0, un := fun r => [.ints .u32 r] }
def nat_trim.F (k : Nat) : Fun := { S := nat_trim.S, f := nat_trim.f k }
abbrev nat_trim.vl0 : List (Nat × Kx) := [(0, .ow .u32)]
def nat_trim.C (k : Nat) : Cfg := { T := TT, G := lookG [], nt := 21, cuts := [⟨codeOf [true, false, false] 1, [true, false, false], nat_trim.vl0⟩], M0 := tabM }
def nat_trim.H (k : Nat) : List (CutF nat_trim.S.R) := [⟨nat_trim.vl0, nat_trim.l0 k⟩]
abbrev nat_trim.S1 : Sig := { ps := [.lf (.is .u32)], rs := [.lf (.is .u32)], wb := [], R := List Int, mkR := fun y0 => some y0, un := fun r => [.ints .u32 r] }
def nat_trim.F1 (k : Nat) : Fun := { S := nat_trim.S1, f := nat_trim.f k }
abbrev nat_trim.vl01 : List (Nat × Kx) := [(0, .lf (.is .u32))]
def nat_trim.C1 (k : Nat) : Cfg := { T := TT, G := lookG [], nt := 21, cuts := [⟨codeOf [true, false, false] 1, [true, false, false], nat_trim.vl01⟩], M0 := tabM }
def nat_trim.H1 (k : Nat) : List (CutF nat_trim.S1.R) := [⟨nat_trim.vl01, nat_trim.l0 k⟩]
def nat_Of.f (k : Nat) (x0 : Int) : Option (List Int) := (nat_trim.f k ([x0 % 4294967296, (x0 / 4294967296) % 4294967296] : List Int)).bind fun t132 => (some t132)
abbrev nat_Of.S : Sig := { ps := [.lf (.i .u64)], rs := [.lf (.is .u32)], wb := [], R := List Int, mkR := fun y0 => some y0, un := fun r => [.ints .u32 r] }
def nat_Of.F (k : Nat) : Fun := { S := nat_Of.S, f := nat_Of.f k }
def nat_Of.C (k : Nat) : Cfg := { T := TT, G := lookG [(124, [nat_trim.F k, nat_trim.F1 k])], nt := 10, cuts := [], M0 := tabM }
def nat_Of.H (k : Nat) : List (CutF nat_Of.S.R) := []
def word_shape_low.f (x0_0 : Int) (x0_1 : Int) (x0_2 : Int) : Option (Int) := some (wrap64 ((wrap64 (1 - (wrap64 (Int.tdiv x0_1 2)))) - x0_0))
abbrev word_shape_low.S : Sig := { ps := [.ag [.i .i64, .i .i64, .i .u64]], rs := [.lf (.i .i64)], wb := [], R := Int, mkR := fun y0 => some y0, un := fun r => [.int .i64 r] }
def word_shape_low.F (k : Nat) : Fun := { S := word_shape_low.S, f := word_shape_low.f }
def word_shape_low.C (k : Nat) : Cfg := { T := TT, G := lookG [], nt := 10, cuts := [], M0 := tabM }
def word_shape_low.H (k : Nat) : List (CutF word_shape_low.S.R) := []
abbrev bits_TrailingZeros32.S : Sig := { ps := [.lf (.i .u32)], rs := [.lf (.i .i64)], wb := [], R := Int, mkR := fun y0 => some y0, un := fun r => [.int .i64 r] }
def bits_TrailingZeros32.F (k : Nat) : Fun := { S := bits_TrailingZeros32.S, f := bits_TrailingZeros32.f }
def nat_Low.l0 : Nat → List Int → Int → Int → Option (Int)
  | 0, _, _, _ => none
  | k + 1, x8, x9, x10 => if x10 < x9 then (if 0 ≤ x10 then (if x10 < (x8.length : Int) then (if ¬ (rd x8 x10 = 0) then ((bits_TrailingZeros32.f (rd x8 x10)).bind fun t147 => (some (wrap64 ((wrap64 (32 * x10)) + t147)))) else (nat_Low.l0 k x8 x9 (wrap64 (x10 + 1)))) else (none)) else (none)) else (some 0)
def nat_Low.f (k : Nat) (x0 : List Int) : Option (Int) := (nat_May.f x0).bind fun t146 => (if (!t146) = true then (some 0) else (nat_Low.l0 k x0 (x0.length : Int) 0))
abbrev nat_Low.S : Sig := { ps := [.lf (.is .u32)], rs := [.lf (.i .i64)], wb := [], R := Int, mkR := fun y0 => some y0, un := fun r => [.int .i64 r] }
def nat_Low.F (k : Nat) : Fun := { S := nat_Low.S, f := nat_Low.f k }
abbrev nat_Low.vl0 : List (Nat × Kx) := [(8, .lf (.is .u32)), (9, .lf (.i .i64)), (10, .lf (.i .i64))]
def nat_Low.C (k : Nat) : Cfg := { T := TT, G := lookG [(122, [nat_May.F k]), (148, [bits_TrailingZeros32.F k])], nt := 23, cuts := [⟨codeOf [true, true, false, true, false] 1, [true, true, false, true, false], nat_Low.vl0⟩], M0 := tabM }
def nat_Low.H (k : Nat) : List (CutF nat_Low.S.R) := [⟨nat_Low.vl0, nat_Low.l0 k⟩]
def nat_down.l0 : Nat → List Int → Int → List Int → List Int → Int → Int → Option (List Int)
  | 0, _, _, _, _, _, _ => none
  | k + 1, x0, x5, x6, x23, x24, x25 => if x25 < x24 then (if 0 ≤ x25 then (if x25 < (x23.length : Int) then (if 0 ≤ x5 then (if 0 ≤ x25 then (if x25 < (x6.length : Int) then (if (wrap64 (x25 + 1)) < (x0.length : Int) then (if 0 ≤ x25 then (if x25 < ((x6.set (x25 : Int).toNat (shr .u32 (rd x23 x25) x5)).length : Int) then (if 0 ≤ wrap64 (x25 + 1) then (if wrap64 (x25 + 1) < (x0.length : Int) then (if 0 ≤ (wrap64 (32 - x5)) then (if 0 ≤ x25 then (if x25 < ((x6.set (x25 : Int).toNat (shr .u32 (rd x23 x25) x5)).length : Int) then (nat_down.l0 k x0 x5 ((x6.set (x25 : Int).toNat (shr .u32 (rd x23 x25) x5)).set (x25 : Int).toNat (Go.bits .or .u32 (rd (x6.set (x25 : Int).toNat (shr .u32 (rd x23 x25) x5)) x25) ((shl .u64 (IntKind.u64.wrap (rd x0 (wrap64 (x25 + 1)))) (wrap64 (32 - x5))) % 4294967296))) x23 x24 (wrap64 (x25 + 1))) else (none)) else (none)) else (none)) else (none)) else (none)) else (none)) else (none)) else (nat_down.l0 k x0 x5 (x6.set (x25 : Int).toNat (shr .u32 (rd x23 x25) x5)) x23 x24 (wrap64 (x25 + 1)))) else (none)) else (none)) else (none)) else (none)) else (none)) else ((nat_trim.f k x6).bind fun t154 => (some t154))
def nat_down.f (k : Nat) (x0 : List Int) (x1 : Int) : Option (List Int) := if (wrap64 (Int.tdiv x1 32)) ≥ (x0.length : Int) then (some ([] : List Int)) else (if 0 ≤ (wrap64 (Int.tdiv x1 32)) then (if (wrap64 (Int.tdiv x1 32)) ≤ (x0.length : Int) then (if 0 ≤ ((x0.drop (wrap64 (Int.tdiv x1 32) : Int).toNat).length : Int) then (if (((x0.drop (wrap64 (Int.tdiv x1 32) : Int).toNat).length : Int) : Int).toNat ≤ 70368744177664 then (nat_down.l0 k (x0.drop (wrap64 (Int.tdiv x1 32) : Int).toNat) (Int.tmod x1 32) (List.replicate (((x0.drop (wrap64 (Int.tdiv x1 32) : Int).toNat).length : Int) : Int).toNat (0 : Int)) (x0.drop (wrap64 (Int.tdiv x1 32) : Int).toNat) ((x0.drop (wrap64 (Int.tdiv x1 32) : Int).toNat).length : Int) 0) else (none)) else (none)) else (none)) else (none))
abbrev nat_down.S : Sig := { ps := [.lf (.is .u32), .lf (.i .i64)], rs := [.lf (.is .u32)], wb := [], R := List Int, mkR := fun y0 => some y0, un := fun r => [.ints .u32 r] }
def nat_down.F (k : Nat) : Fun := { S := nat_down.S, f := nat_down.f k }
abbrev nat_down.vl0 : List (Nat × Kx) := [(0, .lf (.is .u32)), (5, .lf (.i .i64)), (6, .ow .u32), (23, .lf (.is .u32)), (24, .lf (.i .i64)), (25, .lf (.i .i64))]
def nat_down.C (k : Nat) : Cfg := { T := TT, G := lookG [(124, [nat_trim.F k, nat_trim.F1 k])], nt := 60, cuts := [⟨codeOf [true, true, true, true, true, false, true, false] 1, [true, true, true, true, true, false, true, false], nat_down.vl0⟩], M0 := tabM }
def nat_down.H (k : Nat) : List (CutF nat_down.S.R) := [⟨nat_down.vl0, nat_down.l0 k⟩]
mutual
def bits_Len32.j0 : Nat → Int → Int → Option (Int)
  | 0, _, _ => none
  | k + 1, x0, x2 => if x0 ≥ 256 then (bits_Len32.j1 k (x0 / 256) (wrap64 (x2 + 8))) else (bits_Len32.j1 k x0 x2)
def bits_Len32.j1 : Nat → Int → Int → Option (Int)
  | 0, _, _ => none
  | k + 1, x0, x2 => if 0 ≤ x0 % 256 then (if x0 % 256 < (txt0.size : Int) then (some (wrap64 (x2 + (wrap64 (bt txt0 (x0 % 256)))))) else (none)) else (none)
end
def bits_Len32.f (k : Nat) (x0 : Int) : Option (Int) := if x0 ≥ 65536 then (bits_Len32.j0 k (x0 / 65536) 16) else (bits_Len32.j0 k x0 0)
abbrev bits_Len32.S : Sig := { ps := [.lf (.i .u32)], rs := [.lf (.i .i64)], wb := [], R := Int, mkR := fun y0 => some y0, un := fun r => [.int .i64 r] }
def bits_Len32.F (k : Nat) : Fun := { S := bits_Len32.S, f := bits_Len32.f k }
abbrev bits_Len32.vj0 : List (Nat × Kx) := [(0, .lf (.i .u32)), (2, .lf (.i .i64))]
abbrev bits_Len32.vj1 : List (Nat × Kx) := [(0, .lf (.i .u32)), (2, .lf (.i .i64))]
def bits_Len32.C (k : Nat) : Cfg := { T := TT, G := lookG [], nt := 19, cuts := [⟨codeOf [true, true] 1, [true, true], bits_Len32.vj0⟩, ⟨codeOf [true, true, true] 1, [true, true, true], bits_Len32.vj1⟩], M0 := tabM }
def bits_Len32.H (k : Nat) : List (CutF bits_Len32.S.R) := [⟨bits_Len32.vj0, bits_Len32.j0 k⟩, ⟨bits_Len32.vj1, bits_Len32.j1 k⟩]
def nat_Len.f (k : Nat) (x0 : List Int) : Option (Int) := (nat_May.f x0).bind fun t164 => (if (!t164) = true then (some 0) else (if (x0.length : Int) = 0 then (some 0) else (if 0 ≤ wrap64 ((x0.length : Int) - 1) then (if wrap64 ((x0.length : Int) - 1) < (x0.length : Int) then ((bits_Len32.f k (rd x0 (wrap64 ((x0.length : Int) - 1)))).bind fun t165 => (some (wrap64 ((wrap64 (32 * (wrap64 ((x0.length : Int) - 1)))) + t165)))) else (none)) else (none))))
abbrev nat_Len.S : Sig := { ps := [.lf (.is .u32)], rs := [.lf (.i .i64)], wb := [], R := Int, mkR := fun y0 => some y0, un := fun r => [.int .i64 r] }
def nat_Len.F (k : Nat) : Fun := { S := nat_Len.S, f := nat_Len.f k }
def nat_Len.C (k : Nat) : Cfg := { T := TT, G := lookG [(122, [nat_May.F k]), (140, [bits_Len32.F k])], nt := 23, cuts := [], M0 := tabM }
def nat_Len.H (k : Nat) : List (CutF nat_Len.S.R) := []
def nat_up.l0 : Nat → List Int → Int → Int → List Int → Int → Int → Option (List Int)
  | 0, _, _, _, _, _, _ => none
  | k + 1, x5, x6, x7, x24, x25, x26 => if x26 < x25 then (if 0 ≤ x26 then (if x26 < (x24.length : Int) then (if 0 ≤ x6 then (if x5.length + ([Go.bits .or .u32 (shl .u32 (rd x24 x26) x6) x7] : List Int).length < 35184372088832 then (if 0 ≤ (wrap64 (32 - x6)) then (nat_up.l0 k (x5 ++ ([Go.bits .or .u32 (shl .u32 (rd x24 x26) x6) x7] : List Int)) x6 ((shr .u64 (IntKind.u64.wrap (rd x24 x26)) (wrap64 (32 - x6))) % 4294967296) x24 x25 (wrap64 (x26 + 1))) else (none)) else (none)) else (none)) else (none)) else (none)) else (if x5.length + ([x7] : List Int).length < 35184372088832 then ((nat_trim.f k (x5 ++ ([x7] : List Int))).bind fun t172 => (some t172)) else (none))
def nat_up.f (k : Nat) (x0 : List Int) (x1 : Int) : Option (List Int) := if (x0.length : Int) = 0 then (some ([] : List Int)) else (if 0 ≤ (wrap64 (Int.tdiv x1 32)) then (if (wrap64 (Int.tdiv x1 32)) ≤ (wrap64 ((wrap64 ((wrap64 (Int.tdiv x1 32)) + (x0.length : Int))) + 1)) then (if (wrap64 ((wrap64 ((wrap64 (Int.tdiv x1 32)) + (x0.length : Int))) + 1) : Int).toNat ≤ 70368744177664 then (nat_up.l0 k (List.replicate (wrap64 (Int.tdiv x1 32) : Int).toNat (0 : Int)) (Int.tmod x1 32) 0 x0 (x0.length : Int) 0) else (none)) else (none)) else (none))
abbrev nat_up.S : Sig := { ps := [.lf (.is .u32), .lf (.i .i64)], rs := [.ow .u32], wb := [], R := List Int, mkR := fun y0 => some y0, un := fun r => [.ints .u32 r] }
def nat_up.F (k : Nat) : Fun := { S := nat_up.S, f := nat_up.f k }
abbrev nat_up.vl0 : List (Nat × Kx) := [(5, .ow .u32), (6, .lf (.i .i64)), (7, .lf (.i .u32)), (24, .lf (.is .u32)), (25, .lf (.i .i64)), (26, .lf (.i .i64))]
def nat_up.C (k : Nat) : Cfg := { T := TT, G := lookG [(124, [nat_trim.F k, nat_trim.F1 k])], nt := 50, cuts := [⟨codeOf [true, true, true, true, false, true, false] 1, [true, true, true, true, false, true, false], nat_up.vl0⟩], M0 := tabM }
def nat_up.H (k : Nat) : List (CutF nat_up.S.R) := [⟨nat_up.vl0, nat_up.l0 k⟩]
def nat_Shift.f (k : Nat) (x0 : List Int) (x1 : Int) : Option (List Int × Bool × Int) := (nat_May.f x0).bind fun t174 => (if (!t174) = true then (some (([] : List Int), false, 2)) else (if (x0.length : Int) = 0 then (some (([] : List Int), false, 0)) else (if x1 < (-131072) then (some (([] : List Int), true, 0)) else (if x1 < 0 then ((nat_down.f k x0 (wrap64 (-x1))).bind fun t175 => ((nat_Low.f k x0).bind fun t176 => (some (t175, decide (t176 < (wrap64 (-x1))), 0)))) else ((nat_Len.f k x0).bind fun t177 => (if x1 > (wrap64 (131072 - t177)) then (some (([] : List Int), false, 3)) else ((nat_up.f k x0 x1).bind fun t178 => (some (t178, false, 0)))))))))
abbrev nat_Shift.S : Sig := { ps := [.lf (.is .u32), .lf (.i .i64)], rs := [.lf (.is .u32), .lf (.b), .lf (.i .i64)], wb := [], R := List Int × Bool × Int, mkR := fun y0 y1 y2 => some (y0, y1, y2), un := fun r => [.ints .u32 r.1, .bool r.2.1, .int .i64 r.2.2] }
def nat_Shift.F (k : Nat) : Fun := { S := nat_Shift.S, f := nat_Shift.f k }
def nat_Shift.C (k : Nat) : Cfg := { T := TT, G := lookG [(110, [nat_Len.F k]), (122, [nat_May.F k]), (123, [nat_Low.F k]), (129, [nat_down.F k]), (130, [nat_up.F k])], nt := 39, cuts := [], M0 := tabM }
def nat_Shift.H (k : Nat) : List (CutF nat_Shift.S.R) := []
def dyad_Make.f (k : Nat) (x0 : Bool) (x1 : List Int) (x2 : Int) : Option (Bool × List Int × Int × Int) := (nat_May.f x1).bind fun t186 => (if (!t186) = true then (some (false, ([] : List Int), 0, 2)) else (if (x1.length : Int) = 0 then (some (false, ([] : List Int), 0, 0)) else ((nat_Low.f k x1).bind fun t187 => (if x2 > (wrap64 (16777216 - t187)) then (some (false, ([] : List Int), 0, 20)) else (if x2 < (wrap64 ((-16777216) - t187)) then (some (false, ([] : List Int), 0, 20)) else ((nat_Shift.f k x1 (wrap64 (-t187))).bind fun t188 => (some (x0, t188.1, wrap64 (x2 + t187), 0))))))))
abbrev dyad_Make.S : Sig := { ps := [.lf (.b), .lf (.is .u32), .lf (.i .i64)], rs := [.ag [.b, .is .u32, .i .i64], .lf (.i .i64)], wb := [], R := Bool × List Int × Int × Int, mkR := fun y0 y1 y2 y3 => some (y0, y1, y2, y3), un := fun r => [.bool r.1, .ints .u32 r.2.1, .int .i64 r.2.2.1, .int .i64 r.2.2.2] }
def dyad_Make.F (k : Nat) : Fun := { S := dyad_Make.S, f := dyad_Make.f k }
def dyad_Make.C (k : Nat) : Cfg := { T := TT, G := lookG [(97, [nat_Shift.F k]), (122, [nat_May.F k]), (123, [nat_Low.F k])], nt := 47, cuts := [], M0 := tabM }
def dyad_Make.H (k : Nat) : List (CutF dyad_Make.S.R) := []
def word_Value.j1 : Nat → Bool → List Int → Int → Int → Int → Int → Bool → Int → Int → Option (Bool × List Int × Int × Int)
  | 0, _, _, _, _, _, _, _, _, _ => none
  | k + 1, x4_0, x4_1, x4_2, x6_0, x6_1, x6_2, x8_0, x8_1, x8_2 => (nat_Of.f k x8_2).bind fun t195 => ((word_shape_low.f x6_0 x6_1 x6_2).bind fun t196 => ((dyad_Make.f k x8_0 t195 (wrap64 ((wrap64 ((mx x8_1 1) - 1)) + t196))).bind fun t197 => (some (t197.1, t197.2.1, t197.2.2.1, t197.2.2.2))))
def word_Value.f (k : Nat) (x0 : Int) (x1 : Int) : Option (Bool × List Int × Int × Int) := (word_finite.f k x0 x1).bind fun t193 => (if ¬ (t193.2.2.2 = 0) then (some (false, ([] : List Int), 0, t193.2.2.2)) else ((word_shape_split.f t193.1 t193.2.1 t193.2.2.1 x1).bind fun t194 => (if t194.2.1 > 0 then (if 0 ≤ t193.1 then (word_Value.j1 k false ([] : List Int) 0 t193.1 t193.2.1 t193.2.2.1 t194.1 t194.2.1 (Go.bits .or .u64 t194.2.2 (shl .u64 1 t193.1))) else (none)) else (word_Value.j1 k false ([] : List Int) 0 t193.1 t193.2.1 t193.2.2.1 t194.1 t194.2.1 t194.2.2))))
abbrev word_Value.S : Sig := { ps := [.lf (.i .u8), .lf (.i .u64)], rs := [.ag [.b, .is .u32, .i .i64], .lf (.i .i64)], wb := [], R := Bool × List Int × Int × Int, mkR := fun y0 y1 y2 y3 => some (y0, y1, y2, y3), un := fun r => [.bool r.1, .ints .u32 r.2.1, .int .i64 r.2.2.1, .int .i64 r.2.2.2] }
def word_Value.F (k : Nat) : Fun := { S := word_Value.S, f := word_Value.f k }
abbrev word_Value.vj1 : List (Nat × Kx) := [(4, .bx [.b, .is .u32, .i .i64]), (6, .bx [.i .i64, .i .i64, .i .u64]), (8, .bx [.b, .i .i64, .i .u64])]
def word_Value.C (k : Nat) : Cfg := { T := TT, G := lookG [(85, [word_finite.F k]), (86, [word_shape_split.F k]), (87, [dyad_Make.F k]), (88, [nat_Of.F k]), (89, [word_shape_low.F k])], nt := 47, cuts := [⟨codeOf [true, true, true, true, true] 1, [true, true, true, true, true], word_Value.vj1⟩], M0 := tabM }
def word_Value.H (k : Nat) : List (CutF word_Value.S.R) := [⟨word_Value.vj1, word_Value.j1 k⟩]
def nat_all.l0 : Nat → List (List Int) → Int → Int → Option (Bool)
  | 0, _, _, _ => none
  | k + 1, x5, x6, x7 => if x7 < x6 then (if 0 ≤ x7 then (if x7 < (x5.length : Int) then ((nat_May.f (rdT [.is .u32] x5 x7)).bind fun t204 => (if (!t204) = true then (some false) else (nat_all.l0 k x5 x6 (wrap64 (x7 + 1))))) else (none)) else (none)) else (some true)
def nat_all.f (k : Nat) (x0 : List (List Int)) : Option (Bool) := nat_all.l0 k x0 (x0.length : Int) 0
abbrev nat_all.S : Sig := { ps := [.lf (.rw [.is .u32])], rs := [.lf (.b)], wb := [], R := Bool, mkR := fun y0 => some y0, un := fun r => [.bool r] }
def nat_all.F (k : Nat) : Fun := { S := nat_all.S, f := nat_all.f k }
abbrev nat_all.vl0 : List (Nat × Kx) := [(5, .lf (.rw [.is .u32])), (6, .lf (.i .i64)), (7, .lf (.i .i64))]
def nat_all.C (k : Nat) : Cfg := { T := TT, G := lookG [(122, [nat_May.F k])], nt := 15, cuts := [⟨codeOf [true, false, true, false] 1, [true, false, true, false], nat_all.vl0⟩], M0 := tabM }
def nat_all.H (k : Nat) : List (CutF nat_all.S.R) := [⟨nat_all.vl0, nat_all.l0 k⟩]
def nat_cmp.l0 : Nat → List Int → List Int → Int → Option (Int)
  | 0, _, _, _ => none
  | k + 1, x0, x1, x5 => if x5 ≥ 0 then (if 0 ≤ x5 then (if x5 < (x0.length : Int) then (if 0 ≤ x5 then (if x5 < (x1.length : Int) then (if ¬ (rd x0 x5 = rd x1 x5) then (if 0 ≤ x5 then (if x5 < (x0.length : Int) then (if 0 ≤ x5 then (if x5 < (x1.length : Int) then (if (rd x0 x5) < (rd x1 x5) then (some (-1)) else (some 1)) else (none)) else (none)) else (none)) else (none)) else (nat_cmp.l0 k x0 x1 (wrap64 (x5 - 1)))) else (none)) else (none)) else (none)) else (none)) else (some 0)
def nat_cmp.f (k : Nat) (x0 : List Int) (x1 : List Int) : Option (Int) := if (x0.length : Int) < (x1.length : Int) then (some (-1)) else (if (x0.length : Int) > (x1.length : Int) then (some 1) else (nat_cmp.l0 k x0 x1 (wrap64 ((x0.length : Int) - 1))))
abbrev nat_cmp.S : Sig := { ps := [.lf (.is .u32), .lf (.is .u32)], rs := [.lf (.i .i64)], wb := [], R := Int, mkR := fun y0 => some y0, un := fun r => [.int .i64 r] }
def nat_cmp.F (k : Nat) : Fun := { S := nat_cmp.S, f := nat_cmp.f k }
abbrev nat_cmp.vl0 : List (Nat × Kx) := [(0, .lf (.is .u32)), (1, .lf (.is .u32)), (5, .lf (.i .i64))]
def nat_cmp.C (k : Nat) : Cfg := { T := TT, G := lookG [], nt := 43, cuts := [⟨codeOf [true, true, false, true, false] 1, [true, true, false, true, false], nat_cmp.vl0⟩], M0 := tabM }
def nat_cmp.H (k : Nat) : List (CutF nat_cmp.S.R) := [⟨nat_cmp.vl0, nat_cmp.l0 k⟩]
def bits_Div32.f (x0 : Int) (x1 : Int) (x2 : Int) : Option (Int × Int) := if ¬ (x2 = 0) then (if x2 ≤ x0 then (none) else (if (IntKind.u64.wrap x2) = 0 then (none) else (if (IntKind.u64.wrap x2) = 0 then (none) else (some ((IntKind.u64.wrap (Int.tdiv (Go.bits .or .u64 (IntKind.u64.wrap ((IntKind.u64.wrap x0) * 4294967296)) (IntKind.u64.wrap x1)) (IntKind.u64.wrap x2))) % 4294967296, (Int.tmod (Go.bits .or .u64 (IntKind.u64.wrap ((IntKind.u64.wrap x0) * 4294967296)) (IntKind.u64.wrap x1)) (IntKind.u64.wrap x2)) % 4294967296))))) else (if (IntKind.u64.wrap x2) = 0 then (none) else (if (IntKind.u64.wrap x2) = 0 then (none) else (some ((IntKind.u64.wrap (Int.tdiv (Go.bits .or .u64 (IntKind.u64.wrap ((IntKind.u64.wrap x0) * 4294967296)) (IntKind.u64.wrap x1)) (IntKind.u64.wrap x2))) % 4294967296, (Int.tmod (Go.bits .or .u64 (IntKind.u64.wrap ((IntKind.u64.wrap x0) * 4294967296)) (IntKind.u64.wrap x1)) (IntKind.u64.wrap x2)) % 4294967296))))
abbrev bits_Div32.S : Sig := { ps := [.lf (.i .u32), .lf (.i .u32), .lf (.i .u32)], rs := [.lf (.i .u32), .lf (.i .u32)], wb := [], R := Int × Int, mkR := fun y0 y1 => some (y0, y1), un := fun r => [.int .u32 r.1, .int .u32 r.2] }
def bits_Div32.F (k : Nat) : Fun := { S := bits_Div32.S, f := bits_Div32.f }
def bits_Div32.C (k : Nat) : Cfg := { T := TT, G := lookG [], nt := 33, cuts := [], M0 := tabM }
def bits_Div32.H (k : Nat) : List (CutF bits_Div32.S.R) := []
def nat_small.l0 : Nat → List Int → Int → List Int → Int → Int → Option (List Int × Int)
  | 0, _, _, _, _, _ => none
  | k + 1, x0, x1, x6, x7, x8 => if x8 ≥ 0 then (if 0 ≤ x8 then (if x8 < (x0.length : Int) then ((bits_Div32.f x7 (rd x0 x8) x1).bind fun t210 => (if 0 ≤ x8 then (if x8 < (x6.length : Int) then (nat_small.l0 k x0 x1 (x6.set (x8 : Int).toNat t210.1) t210.2 (wrap64 (x8 - 1))) else (none)) else (none))) else (none)) else (none)) else ((nat_trim.f k x6).bind fun t211 => (some (t211, x7)))
def nat_small.f (k : Nat) (x0 : List Int) (x1 : Int) : Option (List Int × Int) := if 0 ≤ (x0.length : Int) then (if ((x0.length : Int) : Int).toNat ≤ 70368744177664 then (nat_small.l0 k x0 x1 (List.replicate ((x0.length : Int) : Int).toNat (0 : Int)) 0 (wrap64 ((x0.length : Int) - 1))) else (none)) else (none)
abbrev nat_small.S : Sig := { ps := [.lf (.is .u32), .lf (.i .u32)], rs := [.lf (.is .u32), .lf (.i .u32)], wb := [], R := List Int × Int, mkR := fun y0 y1 => some (y0, y1), un := fun r => [.ints .u32 r.1, .int .u32 r.2] }
def nat_small.F (k : Nat) : Fun := { S := nat_small.S, f := nat_small.f k }
abbrev nat_small.vl0 : List (Nat × Kx) := [(0, .lf (.is .u32)), (1, .lf (.i .u32)), (6, .ow .u32), (7, .lf (.i .u32)), (8, .lf (.i .i64))]
def nat_small.C (k : Nat) : Cfg := { T := TT, G := lookG [(124, [nat_trim.F k, nat_trim.F1 k]), (151, [bits_Div32.F k])], nt := 35, cuts := [⟨codeOf [true, true, true, false, true, false] 1, [true, true, true, false, true, false], nat_small.vl0⟩], M0 := tabM }
def nat_small.H (k : Nat) : List (CutF nat_small.S.R) := [⟨nat_small.vl0, nat_small.l0 k⟩]
def bits_LeadingZeros32.f (k : Nat) (x0 : Int) : Option (Int) := (bits_Len32.f k x0).bind fun t215 => (some (wrap64 (32 - t215)))
abbrev bits_LeadingZeros32.S : Sig := { ps := [.lf (.i .u32)], rs := [.lf (.i .i64)], wb := [], R := Int, mkR := fun y0 => some y0, un := fun r => [.int .i64 r] }
def bits_LeadingZeros32.F (k : Nat) : Fun := { S := bits_LeadingZeros32.S, f := bits_LeadingZeros32.f k }
def bits_LeadingZeros32.C (k : Nat) : Cfg := { T := TT, G := lookG [(140, [bits_Len32.F k])], nt := 6, cuts := [], M0 := tabM }
def bits_LeadingZeros32.H (k : Nat) : List (CutF bits_LeadingZeros32.S.R) := []
def bits_Sub32.f (x0 : Int) (x1 : Int) (x2 : Int) : Option (Int × Int) := some ((((x0 - x1) % 4294967296) - x2) % 4294967296, (Go.bits .or .u32 (Go.bits .and .u32 (Go.bits .xor .u32 4294967295 x0) x1) (Go.bits .and .u32 (Go.bits .xor .u32 4294967295 (Go.bits .xor .u32 x0 x1)) ((((x0 - x1) % 4294967296) - x2) % 4294967296))) / 2147483648)
abbrev bits_Sub32.S : Sig := { ps := [.lf (.i .u32), .lf (.i .u32), .lf (.i .u32)], rs := [.lf (.i .u32), .lf (.i .u32)], wb := [], R := Int × Int, mkR := fun y0 y1 => some (y0, y1), un := fun r => [.int .u32 r.1, .int .u32 r.2] }
def bits_Sub32.F (k : Nat) : Fun := { S := bits_Sub32.S, f := bits_Sub32.f }
def bits_Sub32.C (k : Nat) : Cfg := { T := TT, G := lookG [], nt := 25, cuts := [], M0 := tabM }
def bits_Sub32.H (k : Nat) : List (CutF bits_Sub32.S.R) := []
def bits_Add32.f (x0 : Int) (x1 : Int) (x2 : Int) : Option (Int × Int) := some ((IntKind.u64.wrap ((IntKind.u64.wrap ((IntKind.u64.wrap x0) + (IntKind.u64.wrap x1))) + (IntKind.u64.wrap x2))) % 4294967296, ((IntKind.u64.wrap ((IntKind.u64.wrap ((IntKind.u64.wrap x0) + (IntKind.u64.wrap x1))) + (IntKind.u64.wrap x2))) / 4294967296) % 4294967296)
abbrev bits_Add32.S : Sig := { ps := [.lf (.i .u32), .lf (.i .u32), .lf (.i .u32)], rs := [.lf (.i .u32), .lf (.i .u32)], wb := [], R := Int × Int, mkR := fun y0 y1 => some (y0, y1), un := fun r => [.int .u32 r.1, .int .u32 r.2] }
def bits_Add32.F (k : Nat) : Fun := { S := bits_Add32.S, f := bits_Add32.f }
def bits_Add32.C (k : Nat) : Cfg := { T := TT, G := lookG [], nt := 22, cuts := [], M0 := tabM }
def bits_Add32.H (k : Nat) : List (CutF bits_Add32.S.R) := []
mutual
def nat_step.l0 : Nat → List Int → List Int → Int → Int → Int → Option (Int × List Int)
  | 0, _, _, _, _, _ => none
  | k + 1, x0, x1, x5, x7, x8 => if x7 ≥ 4294967296 then (if 0 ≤ wrap64 (x5 - 1) then (if wrap64 (x5 - 1) < (x1.length : Int) then (if (IntKind.u64.wrap (x8 + (IntKind.u64.wrap (rd x1 (wrap64 (x5 - 1)))))) ≥ 4294967296 then (nat_step.l1 k x0 x1 x5 (IntKind.u64.wrap (x7 - 1)) 0 0 x1 (x1.length : Int) 0) else (nat_step.l0 k x0 x1 x5 (IntKind.u64.wrap (x7 - 1)) (IntKind.u64.wrap (x8 + (IntKind.u64.wrap (rd x1 (wrap64 (x5 - 1)))))))) else (none)) else (none)) else (if 0 ≤ wrap64 (x5 - 2) then (if wrap64 (x5 - 2) < (x1.length : Int) then (if 0 ≤ wrap64 (x5 - 2) then (if wrap64 (x5 - 2) < (x0.length : Int) then (if (IntKind.u64.wrap (x7 * (IntKind.u64.wrap (rd x1 (wrap64 (x5 - 2)))))) > (Go.bits .or .u64 (IntKind.u64.wrap (x8 * 4294967296)) (IntKind.u64.wrap (rd x0 (wrap64 (x5 - 2))))) then (if 0 ≤ wrap64 (x5 - 1) then (if wrap64 (x5 - 1) < (x1.length : Int) then (if (IntKind.u64.wrap (x8 + (IntKind.u64.wrap (rd x1 (wrap64 (x5 - 1)))))) ≥ 4294967296 then (nat_step.l1 k x0 x1 x5 (IntKind.u64.wrap (x7 - 1)) 0 0 x1 (x1.length : Int) 0) else (nat_step.l0 k x0 x1 x5 (IntKind.u64.wrap (x7 - 1)) (IntKind.u64.wrap (x8 + (IntKind.u64.wrap (rd x1 (wrap64 (x5 - 1)))))))) else (none)) else (none)) else (nat_step.l1 k x0 x1 x5 x7 0 0 x1 (x1.length : Int) 0)) else (none)) else (none)) else (none)) else (none))
def nat_step.l1 : Nat → List Int → List Int → Int → Int → Int → Int → List Int → Int → Int → Option (Int × List Int)
  | 0, _, _, _, _, _, _, _, _, _ => none
  | k + 1, x0, x1, x5, x7, x9, x10, x81, x82, x83 => if x83 < x82 then (if 0 ≤ x83 then (if x83 < (x81.length : Int) then (if 0 ≤ x83 then (if x83 < (x0.length : Int) then ((bits_Sub32.f (rd x0 x83) ((IntKind.u64.wrap (x10 + (IntKind.u64.wrap (x7 * (IntKind.u64.wrap (rd x81 x83)))))) % 4294967296) x9).bind fun t245 => (if 0 ≤ x83 then (if x83 < (x0.length : Int) then (nat_step.l1 k (x0.set (x83 : Int).toNat t245.1) x1 x5 x7 t245.2 ((IntKind.u64.wrap (x10 + (IntKind.u64.wrap (x7 * (IntKind.u64.wrap (rd x81 x83)))))) / 4294967296) x81 x82 (wrap64 (x83 + 1))) else (none)) else (none))) else (none)) else (none)) else (none)) else (none)) else (if 0 ≤ x5 then (if x5 < (x0.length : Int) then ((bits_Sub32.f (rd x0 x5) (x10 % 4294967296) x9).bind fun t246 => (if 0 ≤ x5 then (if x5 < (x0.length : Int) then (if t246.2 = 0 then (some (x7 % 4294967296, x0.set (x5 : Int).toNat t246.1)) else (nat_step.l2 k (x0.set (x5 : Int).toNat t246.1) x5 x7 0 x1 (x1.length : Int) 0)) else (none)) else (none))) else (none)) else (none))
def nat_step.l2 : Nat → List Int → Int → Int → Int → List Int → Int → Int → Option (Int × List Int)
  | 0, _, _, _, _, _, _, _ => none
  | k + 1, x0, x5, x7, x13, x129, x130, x131 => if x131 < x130 then (if 0 ≤ x131 then (if x131 < (x129.length : Int) then (if 0 ≤ x131 then (if x131 < (x0.length : Int) then ((bits_Add32.f (rd x0 x131) (rd x129 x131) x13).bind fun t244 => (if 0 ≤ x131 then (if x131 < (x0.length : Int) then (nat_step.l2 k (x0.set (x131 : Int).toNat t244.1) x5 x7 t244.2 x129 x130 (wrap64 (x131 + 1))) else (none)) else (none))) else (none)) else (none)) else (none)) else (none)) else (if 0 ≤ x5 then (if x5 < (x0.length : Int) then (if 0 ≤ x5 then (if x5 < (x0.length : Int) then (some ((IntKind.u64.wrap (x7 - 1)) % 4294967296, x0.set (x5 : Int).toNat (((rd x0 x5) + x13) % 4294967296))) else (none)) else (none)) else (none)) else (none))
end
def nat_step.f (k : Nat) (x0 : List Int) (x1 : List Int) : Option (Int × List Int) := if 0 ≤ (x1.length : Int) then (if (x1.length : Int) < (x0.length : Int) then (if 0 ≤ wrap64 ((x1.length : Int) - 1) then (if wrap64 ((x1.length : Int) - 1) < (x0.length : Int) then (if 0 ≤ wrap64 ((x1.length : Int) - 1) then (if wrap64 ((x1.length : Int) - 1) < (x1.length : Int) then (if (IntKind.u64.wrap (rd x1 (wrap64 ((x1.length : Int) - 1)))) = 0 then (none) else (if 0 ≤ wrap64 ((x1.length : Int) - 1) then (if wrap64 ((x1.length : Int) - 1) < (x1.length : Int) then (if (IntKind.u64.wrap (rd x1 (wrap64 ((x1.length : Int) - 1)))) = 0 then (none) else (nat_step.l0 k x0 x1 (x1.length : Int) (IntKind.u64.wrap (Int.tdiv (Go.bits .or .u64 (IntKind.u64.wrap ((IntKind.u64.wrap (rd x0 (x1.length : Int))) * 4294967296)) (IntKind.u64.wrap (rd x0 (wrap64 ((x1.length : Int) - 1))))) (IntKind.u64.wrap (rd x1 (wrap64 ((x1.length : Int) - 1)))))) (Int.tmod (Go.bits .or .u64 (IntKind.u64.wrap ((IntKind.u64.wrap (rd x0 (x1.length : Int))) * 4294967296)) (IntKind.u64.wrap (rd x0 (wrap64 ((x1.length : Int) - 1))))) (IntKind.u64.wrap (rd x1 (wrap64 ((x1.length : Int) - 1))))))) else (none)) else (none))) else (none)) else (none)) else (none)) else (none)) else (none)) else (none)
abbrev nat_step.S : Sig := { ps := [.bo .u32, .lf (.is .u32)], rs := [.lf (.i .u32)], wb := [.is .u32], R := Int × List Int, mkR := fun y0 y1 => some (y0, y1), un := fun r => [.int .u32 r.1, .ints .u32 r.2] }
def nat_step.F (k : Nat) : Fun := { S := nat_step.S, f := nat_step.f k }
abbrev nat_step.vl0 : List (Nat × Kx) := [(0, .bo .u32), (1, .lf (.is .u32)), (5, .lf (.i .i64)), (7, .lf (.i .u64)), (8, .lf (.i .u64))]
abbrev nat_step.vl1 : List (Nat × Kx) := [(0, .bo .u32), (1, .lf (.is .u32)), (5, .lf (.i .i64)), (7, .lf (.i .u64)), (9, .lf (.i .u32)), (10, .lf (.i .u64)), (81, .lf (.is .u32)), (82, .lf (.i .i64)), (83, .lf (.i .i64))]
abbrev nat_step.vl2 : List (Nat × Kx) := [(0, .bo .u32), (5, .lf (.i .i64)), (7, .lf (.i .u64)), (13, .lf (.i .u32)), (129, .lf (.is .u32)), (130, .lf (.i .i64)), (131, .lf (.i .i64))]
def nat_step.C (k : Nat) : Cfg := { T := TT, G := lookG [(154, [bits_Sub32.F k]), (156, [bits_Add32.F k])], nt := 160, cuts := [⟨codeOf [true, true, true, true, false, false] 1, [true, true, true, true, false, false], nat_step.vl0⟩, ⟨codeOf [true, true, true, true, true, true, false, true, false] 1, [true, true, true, true, true, true, false, true, false], nat_step.vl1⟩, ⟨codeOf [true, true, true, true, true, true, true, true, true, true, false, true, false] 1, [true, true, true, true, true, true, true, true, true, true, false, true, false], nat_step.vl2⟩], M0 := tabM }
def nat_step.H (k : Nat) : List (CutF nat_step.S.R) := [⟨nat_step.vl0, nat_step.l0 k⟩, ⟨nat_step.vl1, nat_step.l1 k⟩, ⟨nat_step.vl2, nat_step.l2 k⟩]
mutual
def nat_long.l0 : Nat → List Int → Int → List Int → List Int → Option (List Int × List Int)
  | 0, _, _, _, _ => none
  | k + 1, x0, x6, x7, x8 => if (x8.length : Int) ≤ (x0.length : Int) then (if x8.length + ([0] : List Int).length < 35184372088832 then (nat_long.l0 k x0 x6 x7 (x8 ++ ([0] : List Int))) else (none)) else (if 0 ≤ (wrap64 ((x8.length : Int) - (x7.length : Int))) then (if (wrap64 ((x8.length : Int) - (x7.length : Int)) : Int).toNat ≤ 70368744177664 then (nat_long.l1 k x6 x7 x8 (x7.length : Int) (List.replicate (wrap64 ((x8.length : Int) - (x7.length : Int)) : Int).toNat (0 : Int)) (wrap64 (((List.replicate (wrap64 ((x8.length : Int) - (x7.length : Int)) : Int).toNat (0 : Int)).length : Int) - 1))) else (none)) else (none))
def nat_long.l1 : Nat → Int → List Int → List Int → Int → List Int → Int → Option (List Int × List Int)
  | 0, _, _, _, _, _, _ => none
  | k + 1, x6, x7, x8, x9, x10, x11 => if x11 ≥ 0 then (if 0 ≤ x11 then (if x11 ≤ (wrap64 ((wrap64 (x11 + x9)) + 1)) then (if (wrap64 ((wrap64 (x11 + x9)) + 1)) ≤ (x8.length : Int) then ((nat_step.f k ((x8.take (wrap64 ((wrap64 (x11 + x9)) + 1) : Int).toNat).drop (x11 : Int).toNat) x7).bind fun t261 => (if 0 ≤ x11 then (if x11 < (x10.length : Int) then (nat_long.l1 k x6 x7 (x8.take (x11 : Int).toNat ++ t261.2 ++ x8.drop (wrap64 ((wrap64 (x11 + x9)) + 1) : Int).toNat) x9 (x10.set (x11 : Int).toNat t261.1) (wrap64 (x11 - 1))) else (none)) else (none))) else (none)) else (none)) else (none)) else ((nat_trim.f k x10).bind fun t262 => (if 0 ≤ x9 then (if x9 ≤ (x8.length : Int) then ((nat_trim.f k (x8.take (x9 : Int).toNat)).bind fun t263 => ((nat_down.f k t263 x6).bind fun t264 => ((nat_trim.f k t264).bind fun t265 => (some (t262, t265))))) else (none)) else (none)))
end
def nat_long.f (k : Nat) (x0 : List Int) (x1 : List Int) : Option (List Int × List Int) := if 0 ≤ wrap64 ((x1.length : Int) - 1) then (if wrap64 ((x1.length : Int) - 1) < (x1.length : Int) then ((bits_LeadingZeros32.f k (rd x1 (wrap64 ((x1.length : Int) - 1)))).bind fun t258 => ((nat_up.f k x1 t258).bind fun t259 => ((nat_up.f k x0 t258).bind fun t260 => (nat_long.l0 k x0 t258 t259 t260)))) else (none)) else (none)
abbrev nat_long.S : Sig := { ps := [.lf (.is .u32), .lf (.is .u32)], rs := [.lf (.is .u32), .lf (.is .u32)], wb := [], R := List Int × List Int, mkR := fun y0 y1 => some (y0, y1), un := fun r => [.ints .u32 r.1, .ints .u32 r.2] }
def nat_long.F (k : Nat) : Fun := { S := nat_long.S, f := nat_long.f k }
abbrev nat_long.vl0 : List (Nat × Kx) := [(0, .lf (.is .u32)), (6, .lf (.i .i64)), (7, .ow .u32), (8, .ow .u32)]
abbrev nat_long.vl1 : List (Nat × Kx) := [(6, .lf (.i .i64)), (7, .ow .u32), (8, .ow .u32), (9, .lf (.i .i64)), (10, .ow .u32), (11, .lf (.i .i64))]
def nat_long.C (k : Nat) : Cfg := { T := TT, G := lookG [(124, [nat_trim.F k, nat_trim.F1 k]), (129, [nat_down.F k]), (130, [nat_up.F k]), (152, [bits_LeadingZeros32.F k]), (153, [nat_step.F k])], nt := 68, cuts := [⟨codeOf [true, true, true, true, false, false] 1, [true, true, true, true, false, false], nat_long.vl0⟩, ⟨codeOf [true, true, true, true, true, true, true, false, true, false] 1, [true, true, true, true, true, true, true, false, true, false], nat_long.vl1⟩], M0 := tabM }
def nat_long.H (k : Nat) : List (CutF nat_long.S.R) := [⟨nat_long.vl0, nat_long.l0 k⟩, ⟨nat_long.vl1, nat_long.l1 k⟩]
def nat_QuoRem.f (k : Nat) (x0 : List Int) (x1 : List Int) : Option (List Int × List Int × Int) := (nat_all.f k [x0, x1]).bind fun t270 => (if (!t270) = true then (some (([] : List Int), ([] : List Int), 2)) else (if (x1.length : Int) = 0 then (some (([] : List Int), ([] : List Int), 11)) else ((nat_cmp.f k x0 x1).bind fun t271 => (if t271 < 0 then (if x0.length < 35184372088832 then (some (([] : List Int), x0, 0)) else (none)) else (if (x1.length : Int) = 1 then (if 0 < (x1.length : Int) then ((nat_small.f k x0 (rd x1 0)).bind fun t272 => ((nat_trim.f k ([t272.2] : List Int)).bind fun t273 => (some (t272.1, t273, 0)))) else (none)) else ((nat_long.f k x0 x1).bind fun t274 => (some (t274.1, t274.2, 0))))))))
abbrev nat_QuoRem.S : Sig := { ps := [.lf (.is .u32), .lf (.is .u32)], rs := [.lf (.is .u32), .lf (.is .u32), .lf (.i .i64)], wb := [], R := List Int × List Int × Int, mkR := fun y0 y1 y2 => some (y0, y1, y2), un := fun r => [.ints .u32 r.1, .ints .u32 r.2.1, .int .i64 r.2.2] }
def nat_QuoRem.F (k : Nat) : Fun := { S := nat_QuoRem.S, f := nat_QuoRem.f k }
def nat_QuoRem.C (k : Nat) : Cfg := { T := TT, G := lookG [(124, [nat_trim.F k, nat_trim.F1 k]), (131, [nat_all.F k]), (132, [nat_cmp.F k]), (133, [nat_small.F k]), (134, [nat_long.F k])], nt := 49, cuts := [], M0 := tabM }
def nat_QuoRem.H (k : Nat) : List (CutF nat_QuoRem.S.R) := []
def nat_Cmp.f (k : Nat) (x0 : List Int) (x1 : List Int) : Option (Int × Int) := (nat_all.f k [x0, x1]).bind fun t280 => (if (!t280) = true then (some (0, 2)) else ((nat_cmp.f k x0 x1).bind fun t281 => (some (t281, 0))))
abbrev nat_Cmp.S : Sig := { ps := [.lf (.is .u32), .lf (.is .u32)], rs := [.lf (.i .i64), .lf (.i .i64)], wb := [], R := Int × Int, mkR := fun y0 y1 => some (y0, y1), un := fun r => [.int .i64 r.1, .int .i64 r.2] }
def nat_Cmp.F (k : Nat) : Fun := { S := nat_Cmp.S, f := nat_Cmp.f k }
def nat_Cmp.C (k : Nat) : Cfg := { T := TT, G := lookG [(131, [nat_all.F k]), (132, [nat_cmp.F k])], nt := 14, cuts := [], M0 := tabM }
def nat_Cmp.H (k : Nat) : List (CutF nat_Cmp.S.R) := []
mutual
def nat_sub.l0 : Nat → List Int → List Int → List Int → Int → Int → Int → Option (List Int)
  | 0, _, _, _, _, _, _ => none
  | k + 1, x0, x1, x5, x6, x13, x14 => if x14 < x13 then (if x14 < (x1.length : Int) then (if 0 ≤ x14 then (if x14 < (x1.length : Int) then (nat_sub.j1 k x0 x1 x5 x6 x14 (rd x1 x14) x13 x14) else (none)) else (none)) else (nat_sub.j1 k x0 x1 x5 x6 x14 0 x13 x14)) else ((nat_trim.f k x5).bind fun t301 => (some t301))
def nat_sub.j1 : Nat → List Int → List Int → List Int → Int → Int → Int → Int → Int → Option (List Int)
  | 0, _, _, _, _, _, _, _, _ => none
  | k + 1, x0, x1, x5, x6, x7, x8, x13, x14 => if 0 ≤ x7 then (if x7 < (x0.length : Int) then ((bits_Sub32.f (rd x0 x7) x8 x6).bind fun t300 => (if 0 ≤ x7 then (if x7 < (x5.length : Int) then (nat_sub.l0 k x0 x1 (x5.set (x7 : Int).toNat t300.1) t300.2 x13 (wrap64 (x14 + 1))) else (none)) else (none))) else (none)) else (none)
end
def nat_sub.f (k : Nat) (x0 : List Int) (x1 : List Int) : Option (List Int) := if 0 ≤ (x0.length : Int) then (if ((x0.length : Int) : Int).toNat ≤ 70368744177664 then (nat_sub.l0 k x0 x1 (List.replicate ((x0.length : Int) : Int).toNat (0 : Int)) 0 (x0.length : Int) 0) else (none)) else (none)
abbrev nat_sub.S : Sig := { ps := [.lf (.is .u32), .lf (.is .u32)], rs := [.lf (.is .u32)], wb := [], R := List Int, mkR := fun y0 => some y0, un := fun r => [.ints .u32 r] }
def nat_sub.F (k : Nat) : Fun := { S := nat_sub.S, f := nat_sub.f k }
abbrev nat_sub.vl0 : List (Nat × Kx) := [(0, .lf (.is .u32)), (1, .lf (.is .u32)), (5, .ow .u32), (6, .lf (.i .u32)), (13, .lf (.i .i64)), (14, .lf (.i .i64))]
abbrev nat_sub.vj1 : List (Nat × Kx) := [(0, .lf (.is .u32)), (1, .lf (.is .u32)), (5, .ow .u32), (6, .lf (.i .u32)), (7, .lf (.i .i64)), (8, .lf (.i .u32)), (13, .lf (.i .i64)), (14, .lf (.i .i64))]
def nat_sub.C (k : Nat) : Cfg := { T := TT, G := lookG [(124, [nat_trim.F k, nat_trim.F1 k]), (154, [bits_Sub32.F k])], nt := 41, cuts := [⟨codeOf [true, true, true, false, true, false] 1, [true, true, true, false, true, false], nat_sub.vl0⟩, ⟨codeOf [true, true, true, false, true, false, false, true, true, false, false, true, true, true] 1, [true, true, true, false, true, false, false, true, true, false, false, true, true, true], nat_sub.vj1⟩], M0 := tabM }
def nat_sub.H (k : Nat) : List (CutF nat_sub.S.R) := [⟨nat_sub.vl0, nat_sub.l0 k⟩, ⟨nat_sub.vj1, nat_sub.j1 k⟩]
def nat_Sub.f (k : Nat) (x0 : List Int) (x1 : List Int) : Option (List Int × Int) := (nat_all.f k [x0, x1]).bind fun t304 => (if (!t304) = true then (some (([] : List Int), 2)) else ((nat_cmp.f k x0 x1).bind fun t305 => (if t305 < 0 then (some (([] : List Int), 10)) else ((nat_sub.f k x0 x1).bind fun t306 => (some (t306, 0))))))
abbrev nat_Sub.S : Sig := { ps := [.lf (.is .u32), .lf (.is .u32)], rs := [.lf (.is .u32), .lf (.i .i64)], wb := [], R := List Int × Int, mkR := fun y0 y1 => some (y0, y1), un := fun r => [.ints .u32 r.1, .int .i64 r.2] }
def nat_Sub.F (k : Nat) : Fun := { S := nat_Sub.S, f := nat_Sub.f k }
def nat_Sub.C (k : Nat) : Cfg := { T := TT, G := lookG [(131, [nat_all.F k]), (132, [nat_cmp.F k]), (135, [nat_sub.F k])], nt := 18, cuts := [], M0 := tabM }
def nat_Sub.H (k : Nat) : List (CutF nat_Sub.S.R) := []
mutual
def conv_left.j0 : Nat → Bool → List Int → Int → Bool → List Int → Int → Int → List Int → List Int → Int → Bool → Option (Bool × List Int × Int)
  | 0, _, _, _, _, _, _, _, _, _, _, _ => none
  | k + 1, x2_0, x2_1, x2_2, x4_0, x4_1, x4_2, x5, x9, x13, x18, x20 => if x18 > 0 then (conv_left.j1 k x4_0 x4_1 x4_2 x5 x9 x13 x2_0 true) else (if x18 = 0 then (conv_left.j1 k x4_0 x4_1 x4_2 x5 x9 x13 x2_0 x20) else (conv_left.j1 k x4_0 x4_1 x4_2 x5 x9 x13 x2_0 false))
def conv_left.j1 : Nat → Bool → List Int → Int → Int → List Int → List Int → Bool → Bool → Option (Bool × List Int × Int)
  | 0, _, _, _, _, _, _, _, _ => none
  | k + 1, x4_0, x4_1, x4_2, x5, x9, x13, x21, x90 => if x90 = true then ((nat_Sub.f k x9 x13).bind fun t314 => (conv_left.j2 k x4_0 x4_1 x4_2 x5 t314.1 (!x21))) else (conv_left.j2 k x4_0 x4_1 x4_2 x5 x13 x21)
def conv_left.j2 : Nat → Bool → List Int → Int → Int → List Int → Bool → Option (Bool × List Int × Int)
  | 0, _, _, _, _, _, _ => none
  | k + 1, x4_0, x4_1, x4_2, x5, x13, x21 => (dyad_Make.f k x21 x13 x5).bind fun t313 => (some (t313.1, t313.2.1, t313.2.2.1))
end
def conv_left.f (k : Nat) (x0_0 : Bool) (x0_1 : List Int) (x0_2 : Int) (x1_0 : Bool) (x1_1 : List Int) (x1_2 : Int) : Option (Bool × List Int × Int) := (nat_Shift.f k x0_1 (wrap64 (x0_2 - (mn x0_2 x1_2)))).bind fun t308 => ((nat_Shift.f k x1_1 (wrap64 (x1_2 - (mn x0_2 x1_2)))).bind fun t309 => ((nat_QuoRem.f k t308.1 t309.1).bind fun t310 => ((nat_Shift.f k t310.2.1 1).bind fun t311 => ((nat_Cmp.f k t311.1 t309.1).bind fun t312 => (if (t310.1.length : Int) > 0 then (if 0 < (t310.1.length : Int) then (conv_left.j0 k x0_0 x0_1 x0_2 false ([] : List Int) 0 (mn x0_2 x1_2) t309.1 t310.2.1 t312.1 (decide ((Go.bits .and .u32 (rd t310.1 0) 1) = 1))) else (none)) else (conv_left.j0 k x0_0 x0_1 x0_2 false ([] : List Int) 0 (mn x0_2 x1_2) t309.1 t310.2.1 t312.1 false))))))
abbrev conv_left.S : Sig := { ps := [.ag [.b, .is .u32, .i .i64], .ag [.b, .is .u32, .i .i64]], rs := [.ag [.b, .is .u32, .i .i64]], wb := [], R := Bool × List Int × Int, mkR := fun y0 y1 y2 => some (y0, y1, y2), un := fun r => [.bool r.1, .ints .u32 r.2.1, .int .i64 r.2.2] }
def conv_left.F (k : Nat) : Fun := { S := conv_left.S, f := conv_left.f k }
abbrev conv_left.vj0 : List (Nat × Kx) := [(2, .bx [.b, .is .u32, .i .i64]), (4, .bx [.b, .is .u32, .i .i64]), (5, .lf (.i .i64)), (9, .lf (.is .u32)), (13, .lf (.is .u32)), (18, .lf (.i .i64)), (20, .lf (.b))]
abbrev conv_left.vj1 : List (Nat × Kx) := [(4, .bx [.b, .is .u32, .i .i64]), (5, .lf (.i .i64)), (9, .lf (.is .u32)), (13, .lf (.is .u32)), (21, .lf (.b)), (90, .lf (.b))]
abbrev conv_left.vj2 : List (Nat × Kx) := [(4, .bx [.b, .is .u32, .i .i64]), (5, .lf (.i .i64)), (13, .lf (.is .u32)), (21, .lf (.b))]
def conv_left.C (k : Nat) : Cfg := { T := TT, G := lookG [(87, [dyad_Make.F k]), (97, [nat_Shift.F k]), (98, [nat_QuoRem.F k]), (99, [nat_Cmp.F k]), (100, [nat_Sub.F k])], nt := 107, cuts := [⟨codeOf [true, true, true, true, true, true, true, true] 1, [true, true, true, true, true, true, true, true], conv_left.vj0⟩, ⟨codeOf [true, true, true, true, true, true, true, true, true, false, true] 1, [true, true, true, true, true, true, true, true, true, false, true], conv_left.vj1⟩, ⟨codeOf [true, true, true, true, true, true, true, true, true, true] 1, [true, true, true, true, true, true, true, true, true, true], conv_left.vj2⟩], M0 := tabM }
def conv_left.H (k : Nat) : List (CutF conv_left.S.R) := [⟨conv_left.vj0, conv_left.j0 k⟩, ⟨conv_left.vj1, conv_left.j1 k⟩, ⟨conv_left.vj2, conv_left.j2 k⟩]
def nat_Num.l0 : Nat → Int → List Int → Int → Int → Option (Int × Bool)
  | 0, _, _, _, _ => none
  | k + 1, x4, x15, x16, x17 => if x17 < x16 then (if 0 ≤ x17 then (if x17 < (x15.length : Int) then (if 0 ≤ (wrap64 (32 * x17)) then (nat_Num.l0 k (Go.bits .or .u64 x4 (shl .u64 (IntKind.u64.wrap (rd x15 x17)) (wrap64 (32 * x17)))) x15 x16 (wrap64 (x17 + 1))) else (none)) else (none)) else (none)) else (some (x4, true))
def nat_Num.f (k : Nat) (x0 : List Int) : Option (Int × Bool) := (nat_May.f x0).bind fun t329 => (if (!t329) = true then (some (0, false)) else (if (x0.length : Int) > 2 then (some (0, false)) else (nat_Num.l0 k 0 x0 (x0.length : Int) 0)))
abbrev nat_Num.S : Sig := { ps := [.lf (.is .u32)], rs := [.lf (.i .u64), .lf (.b)], wb := [], R := Int × Bool, mkR := fun y0 y1 => some (y0, y1), un := fun r => [.int .u64 r.1, .bool r.2] }
def nat_Num.F (k : Nat) : Fun := { S := nat_Num.S, f := nat_Num.f k }
abbrev nat_Num.vl0 : List (Nat × Kx) := [(4, .lf (.i .u64)), (15, .lf (.is .u32)), (16, .lf (.i .i64)), (17, .lf (.i .i64))]
def nat_Num.C (k : Nat) : Cfg := { T := TT, G := lookG [(122, [nat_May.F k])], nt := 31, cuts := [⟨codeOf [true, true, true, false, true, false] 1, [true, true, true, false, true, false], nat_Num.vl0⟩], M0 := tabM }
def nat_Num.H (k : Nat) : List (CutF nat_Num.S.R) := [⟨nat_Num.vl0, nat_Num.l0 k⟩]
mutual
def bits_Len64.j0 : Nat → Int → Int → Option (Int)
  | 0, _, _ => none
  | k + 1, x0, x2 => if x0 ≥ 65536 then (bits_Len64.j1 k (x0 / 65536) (wrap64 (x2 + 16))) else (bits_Len64.j1 k x0 x2)
def bits_Len64.j1 : Nat → Int → Int → Option (Int)
  | 0, _, _ => none
  | k + 1, x0, x2 => if x0 ≥ 256 then (bits_Len64.j2 k (x0 / 256) (wrap64 (x2 + 8))) else (bits_Len64.j2 k x0 x2)
def bits_Len64.j2 : Nat → Int → Int → Option (Int)
  | 0, _, _ => none
  | k + 1, x0, x2 => if 0 ≤ x0 % 256 then (if x0 % 256 < (txt0.size : Int) then (some (wrap64 (x2 + (wrap64 (bt txt0 (x0 % 256)))))) else (none)) else (none)
end
def bits_Len64.f (k : Nat) (x0 : Int) : Option (Int) := if x0 ≥ 4294967296 then (bits_Len64.j0 k (x0 / 4294967296) 32) else (bits_Len64.j0 k x0 0)
abbrev bits_Len64.S : Sig := { ps := [.lf (.i .u64)], rs := [.lf (.i .i64)], wb := [], R := Int, mkR := fun y0 => some y0, un := fun r => [.int .i64 r] }
def bits_Len64.F (k : Nat) : Fun := { S := bits_Len64.S, f := bits_Len64.f k }
abbrev bits_Len64.vj0 : List (Nat × Kx) := [(0, .lf (.i .u64)), (2, .lf (.i .i64))]
abbrev bits_Len64.vj1 : List (Nat × Kx) := [(0, .lf (.i .u64)), (2, .lf (.i .i64))]
abbrev bits_Len64.vj2 : List (Nat × Kx) := [(0, .lf (.i .u64)), (2, .lf (.i .i64))]
def bits_Len64.C (k : Nat) : Cfg := { T := TT, G := lookG [], nt := 25, cuts := [⟨codeOf [true, true] 1, [true, true], bits_Len64.vj0⟩, ⟨codeOf [true, true, true] 1, [true, true, true], bits_Len64.vj1⟩, ⟨codeOf [true, true, true, true] 1, [true, true, true, true], bits_Len64.vj2⟩], M0 := tabM }
def bits_Len64.H (k : Nat) : List (CutF bits_Len64.S.R) := [⟨bits_Len64.vj0, bits_Len64.j0 k⟩, ⟨bits_Len64.vj1, bits_Len64.j1 k⟩, ⟨bits_Len64.vj2, bits_Len64.j2 k⟩]
def word_shape_join.f (x0_0 : Int) (x0_1 : Int) (x0_2 : Int) (x1_0 : Bool) (x1_1 : Int) (x1_2 : Int) : Option (Int) := if 0 ≤ x0_0 then (if x1_0 = true then (some (Go.bits .or .u64 (Go.bits .or .u64 (shl .u64 (IntKind.u64.wrap x1_1) x0_0) x1_2) x0_2)) else (some (Go.bits .or .u64 (shl .u64 (IntKind.u64.wrap x1_1) x0_0) x1_2))) else (none)
abbrev word_shape_join.S : Sig := { ps := [.ag [.i .i64, .i .i64, .i .u64], .ag [.b, .i .i64, .i .u64]], rs := [.lf (.i .u64)], wb := [], R := Int, mkR := fun y0 => some y0, un := fun r => [.int .u64 r] }
def word_shape_join.F (k : Nat) : Fun := { S := word_shape_join.S, f := word_shape_join.f }
def word_shape_join.C (k : Nat) : Cfg := { T := TT, G := lookG [], nt := 22, cuts := [], M0 := tabM }
def word_shape_join.H (k : Nat) : List (CutF word_shape_join.S.R) := []
def word_Of.f (k : Nat) (x0 : Int) (x1_0 : Bool) (x1_1 : List Int) (x1_2 : Int) : Option (Int × Int) := (word_open.f k x0 ([] : List Int)).bind fun t354 => (if ¬ (t354.2.2.2 = 0) then (some (0, t354.2.2.2)) else ((dyad_May.f x1_0 x1_1 x1_2).bind fun t355 => (if (!t355) = true then (some (0, 2)) else ((nat_Num.f k x1_1).bind fun t356 => ((bits_Len64.f k t356.1).bind fun t357 => (if (!t356.2) = true then (some (0, 7)) else (if t357 > (wrap64 (t354.1 + 1)) then (some (0, 7)) else (if ¬ (t356.1 = 0) then ((word_shape_low.f t354.1 t354.2.1 t354.2.2.1).bind fun t358 => (if x1_2 < t358 then (some (0, 7)) else (if (wrap64 (x1_2 + t357)) > (wrap64 ((wrap64 (Int.tdiv t354.2.1 2)) + 1)) then (some (0, 7)) else (if t356.1 = 0 then (some (0, 0)) else ((word_shape_low.f t354.1 t354.2.1 t354.2.2.1).bind fun t359 => (if 0 ≤ (wrap64 (x1_2 - (mx (wrap64 ((wrap64 ((wrap64 (x1_2 + t357)) - t354.1)) - 1)) t359))) then ((word_shape_low.f t354.1 t354.2.1 t354.2.2.1).bind fun t360 => (if 0 ≤ t354.1 then ((word_shape_join.f t354.1 t354.2.1 t354.2.2.1 x1_0 0 (IntKind.u64.wrap ((shl .u64 (IntKind.u64.wrap (wrap64 ((mx (wrap64 ((wrap64 ((wrap64 (x1_2 + t357)) - t354.1)) - 1)) t359) - t360))) t354.1) + (shl .u64 t356.1 (wrap64 (x1_2 - (mx (wrap64 ((wrap64 ((wrap64 (x1_2 + t357)) - t354.1)) - 1)) t359))))))).bind fun t361 => (some (t361, 0))) else (none))) else (none))))))) else (if t356.1 = 0 then (some (0, 0)) else ((word_shape_low.f t354.1 t354.2.1 t354.2.2.1).bind fun t362 => (if 0 ≤ (wrap64 (x1_2 - (mx (wrap64 ((wrap64 ((wrap64 (x1_2 + t357)) - t354.1)) - 1)) t362))) then ((word_shape_low.f t354.1 t354.2.1 t354.2.2.1).bind fun t363 => (if 0 ≤ t354.1 then ((word_shape_join.f t354.1 t354.2.1 t354.2.2.1 x1_0 0 (IntKind.u64.wrap ((shl .u64 (IntKind.u64.wrap (wrap64 ((mx (wrap64 ((wrap64 ((wrap64 (x1_2 + t357)) - t354.1)) - 1)) t362) - t363))) t354.1) + (shl .u64 t356.1 (wrap64 (x1_2 - (mx (wrap64 ((wrap64 ((wrap64 (x1_2 + t357)) - t354.1)) - 1)) t362))))))).bind fun t364 => (some (t364, 0))) else (none))) else (none))))))))))))
abbrev word_Of.S : Sig := { ps := [.lf (.i .u8), .ag [.b, .is .u32, .i .i64]], rs := [.lf (.i .u64), .lf (.i .i64)], wb := [], R := Int × Int, mkR := fun y0 y1 => some (y0, y1), un := fun r => [.int .u64 r.1, .int .i64 r.2] }
def word_Of.F (k : Nat) : Fun := { S := word_Of.S, f := word_Of.f k }
def word_Of.C (k : Nat) : Cfg := { T := TT, G := lookG [(89, [word_shape_low.F k]), (101, [word_open.F k]), (102, [dyad_May.F k]), (103, [nat_Num.F k]), (104, [bits_Len64.F k]), (105, [word_shape_join.F k])], nt := 95, cuts := [], M0 := tabM }
def word_Of.H (k : Nat) : List (CutF word_Of.S.R) := []
def dyad_Sign.j0 : Nat → Bool → List Int → Int → Bool → Option (Int)
  | 0, _, _, _, _ => none
  | k + 1, x1_0, x1_1, x1_2, x3 => if x3 = true then (some 0) else (if x1_0 = true then (some (-1)) else (some 1))
def dyad_Sign.f (k : Nat) (x0_0 : Bool) (x0_1 : List Int) (x0_2 : Int) : Option (Int) := (dyad_May.f x0_0 x0_1 x0_2).bind fun t370 => (if (!t370) = true then (dyad_Sign.j0 k x0_0 x0_1 x0_2 true) else (dyad_Sign.j0 k x0_0 x0_1 x0_2 (decide ((x0_1.length : Int) = 0))))
abbrev dyad_Sign.S : Sig := { ps := [.ag [.b, .is .u32, .i .i64]], rs := [.lf (.i .i64)], wb := [], R := Int, mkR := fun y0 => some y0, un := fun r => [.int .i64 r] }
def dyad_Sign.F (k : Nat) : Fun := { S := dyad_Sign.S, f := dyad_Sign.f k }
abbrev dyad_Sign.vj0 : List (Nat × Kx) := [(1, .bx [.b, .is .u32, .i .i64]), (3, .lf (.b))]
def dyad_Sign.C (k : Nat) : Cfg := { T := TT, G := lookG [(102, [dyad_May.F k])], nt := 16, cuts := [⟨codeOf [true, false, false, true] 1, [true, false, false, true], dyad_Sign.vj0⟩], M0 := tabM }
def dyad_Sign.H (k : Nat) : List (CutF dyad_Sign.S.R) := [⟨dyad_Sign.vj0, dyad_Sign.j0 k⟩]
def word_Zero_1.f (x0_0 : Int) (x0_1 : Int) (x0_2 : Int) : Option (Int) := some 0
abbrev word_Zero_1.S : Sig := { ps := [.ag [.i .i64, .i .i64, .i .u64]], rs := [.lf (.i .u64)], wb := [], R := Int, mkR := fun y0 => some y0, un := fun r => [.int .u64 r] }
def word_Zero_1.F (k : Nat) : Fun := { S := word_Zero_1.S, f := word_Zero_1.f }
def word_Zero_1.C (k : Nat) : Cfg := { T := TT, G := lookG [], nt := 3, cuts := [], M0 := tabM }
def word_Zero_1.H (k : Nat) : List (CutF word_Zero_1.S.R) := []
def word_named_word_Zero_1.f (k : Nat) (x0 : Int) (x1 : Bool) : Option (Int × Int) := (word_open.f k x0 ([] : List Int)).bind fun t381 => (if ¬ (t381.2.2.2 = 0) then (some (0, t381.2.2.2)) else ((word_Zero_1.f t381.1 t381.2.1 t381.2.2.1).bind fun t382 => (if x1 = true then (some (Go.bits .or .u64 t382 t381.2.2.1, 0)) else (some (t382, 0)))))
abbrev word_named_word_Zero_1.S : Sig := { ps := [.lf (.i .u8), .lf (.b), .lf (.fn 84)], rs := [.lf (.i .u64), .lf (.i .i64)], wb := [], R := Int × Int, mkR := fun y0 y1 => some (y0, y1), un := fun r => [.int .u64 r.1, .int .i64 r.2] }
def word_named_word_Zero_1.F (k : Nat) : Fun := { S := word_named_word_Zero_1.S, f := word_named_word_Zero_1.f k }
def word_named_word_Zero_1.C (k : Nat) : Cfg := { T := TT, G := lookG [(84, [word_Zero_1.F k]), (101, [word_open.F k])], nt := 28, cuts := [], M0 := tabM }
def word_named_word_Zero_1.H (k : Nat) : List (CutF word_named_word_Zero_1.S.R) := []
def word_Zero.f (k : Nat) (x0 : Int) (x1 : Bool) : Option (Int × Int) := (word_named_word_Zero_1.f k x0 x1).bind fun t383 => (some (t383.1, t383.2))
abbrev word_Zero.S : Sig := { ps := [.lf (.i .u8), .lf (.b)], rs := [.lf (.i .u64), .lf (.i .i64)], wb := [], R := Int × Int, mkR := fun y0 y1 => some (y0, y1), un := fun r => [.int .u64 r.1, .int .i64 r.2] }
def word_Zero.F (k : Nat) : Fun := { S := word_Zero.S, f := word_Zero.f k }
def word_Zero.C (k : Nat) : Cfg := { T := TT, G := lookG [(81, [word_named_word_Zero_1.F k])], nt := 11, cuts := [], M0 := tabM }
def word_Zero.H (k : Nat) : List (CutF word_Zero.S.R) := []
mutual
def conv_Rem.j1 : Nat → Int → Int → Int → Int → Bool → Int → Bool → Option (Int × Int × Int)
  | 0, _, _, _, _, _, _, _ => none
  | k + 1, x0, x1, x2, x9, x10, x12, x46 => if x46 = true then ((word_None.f k x0).bind fun t438 => (some (t438.1, 0, 0))) else (if x9 = 4 then (conv_Rem.j2 k x0 x1 x2 x9 x10 x12 true) else (conv_Rem.j2 k x0 x1 x2 x9 x10 x12 (decide (x12 = 1))))
def conv_Rem.j2 : Nat → Int → Int → Int → Int → Bool → Int → Bool → Option (Int × Int × Int)
  | 0, _, _, _, _, _, _, _ => none
  | k + 1, x0, x1, x2, x9, x10, x12, x59 => if x59 = true then ((word_None.f k x0).bind fun t437 => (some (t437.1, 1, 0))) else (if x12 = 4 then (conv_Rem.j3 k x0 x1 x2 x10 true) else (conv_Rem.j3 k x0 x1 x2 x10 (decide (x9 = 1))))
def conv_Rem.j3 : Nat → Int → Int → Int → Bool → Bool → Option (Int × Int × Int)
  | 0, _, _, _, _, _ => none
  | k + 1, x0, x1, x2, x10, x72 => if x72 = true then (some (x1, 0, 0)) else ((word_Value.f k x0 x1).bind fun t431 => ((word_Value.f k x0 x2).bind fun t432 => ((conv_left.f k t431.1 t431.2.1 t431.2.2.1 t432.1 t432.2.1 t432.2.2.1).bind fun t433 => ((word_Of.f k x0 t433.1 t433.2.1 t433.2.2).bind fun t434 => ((dyad_Sign.f k t433.1 t433.2.1 t433.2.2).bind fun t435 => (if t435 = 0 then ((word_Zero.f k x0 x10).bind fun t436 => (some (t436.1, 0, 0))) else (some (t434.1, 0, 0))))))))
end
def conv_Rem.f (k : Nat) (x0 : Int) (x1 : Int) (x2 : Int) : Option (Int × Int × Int) := (conv_open.f k x0 1 x1).bind fun t429 => (if ¬ (t429.2.2 = 0) then (some (0, 0, t429.2.2)) else ((conv_open.f k x0 1 x2).bind fun t430 => (if ¬ (t430.2.2 = 0) then (some (0, 0, t430.2.2)) else (if t429.1 = 5 then (conv_Rem.j1 k x0 x1 x2 t429.1 t429.2.1 t430.1 true) else (conv_Rem.j1 k x0 x1 x2 t429.1 t429.2.1 t430.1 (decide (t430.1 = 5)))))))
abbrev conv_Rem.S : Sig := { ps := [.lf (.i .u8), .lf (.i .u64), .lf (.i .u64)], rs := [.lf (.i .u64), .lf (.i .u8), .lf (.i .i64)], wb := [], R := Int × Int × Int, mkR := fun y0 y1 y2 => some (y0, y1, y2), un := fun r => [.int .u64 r.1, .int .u8 r.2.1, .int .i64 r.2.2] }
def conv_Rem.F (k : Nat) : Fun := { S := conv_Rem.S, f := conv_Rem.f k }
abbrev conv_Rem.vj1 : List (Nat × Kx) := [(0, .lf (.i .u8)), (1, .lf (.i .u64)), (2, .lf (.i .u64)), (9, .lf (.i .u8)), (10, .lf (.b)), (12, .lf (.i .u8)), (46, .lf (.b))]
abbrev conv_Rem.vj2 : List (Nat × Kx) := [(0, .lf (.i .u8)), (1, .lf (.i .u64)), (2, .lf (.i .u64)), (9, .lf (.i .u8)), (10, .lf (.b)), (12, .lf (.i .u8)), (59, .lf (.b))]
abbrev conv_Rem.vj3 : List (Nat × Kx) := [(0, .lf (.i .u8)), (1, .lf (.i .u64)), (2, .lf (.i .u64)), (10, .lf (.b)), (72, .lf (.b))]
def conv_Rem.C (k : Nat) : Cfg := { T := TT, G := lookG [(42, [conv_open.F k]), (43, [word_None.F k]), (45, [word_Zero.F k]), (46, [word_Value.F k]), (54, [conv_left.F k]), (55, [word_Of.F k]), (56, [dyad_Sign.F k])], nt := 111, cuts := [⟨codeOf [true, true, true, true, false, false, true, true, true] 1, [true, true, true, true, false, false, true, true, true], conv_Rem.vj1⟩, ⟨codeOf [true, true, true, true, false, false, true, true, true, true, true] 1, [true, true, true, true, false, false, true, true, true, true, true], conv_Rem.vj2⟩, ⟨codeOf [true, true, true, true, false, false, true, true, true, true, true, true, true] 1, [true, true, true, true, false, false, true, true, true, true, true, true, true], conv_Rem.vj3⟩], M0 := tabM }
def conv_Rem.H (k : Nat) : List (CutF conv_Rem.S.R) := [⟨conv_Rem.vj1, conv_Rem.j1 k⟩, ⟨conv_Rem.vj2, conv_Rem.j2 k⟩, ⟨conv_Rem.vj3, conv_Rem.j3 k⟩]
def cutplaneref03_Is.f (x0 : Int) : Option (Bool) := if x0 = 1 then (some true) else (some (decide (x0 = 2)))
abbrev cutplaneref03_Is.S : Sig := { ps := [.lf (.i .u8)], rs := [.lf (.b)], wb := [], R := Bool, mkR := fun y0 => some y0, un := fun r => [.bool r] }
def cutplaneref03_Is.F (k : Nat) : Fun := { S := cutplaneref03_Is.S, f := cutplaneref03_Is.f }
def cutplaneref03_Is.C (k : Nat) : Cfg := { T := TT, G := lookG [], nt := 9, cuts := [], M0 := tabM }
def cutplaneref03_Is.H (k : Nat) : List (CutF cutplaneref03_Is.S.R) := []
def cutplaneref04_Is.f (x0 : Int) : Option (Bool) := if x0 ≥ 1 then (some (decide (x0 ≤ 5))) else (some false)
abbrev cutplaneref04_Is.S : Sig := { ps := [.lf (.i .u8)], rs := [.lf (.b)], wb := [], R := Bool, mkR := fun y0 => some y0, un := fun r => [.bool r] }
def cutplaneref04_Is.F (k : Nat) : Fun := { S := cutplaneref04_Is.S, f := cutplaneref04_Is.f }
def cutplaneref04_Is.C (k : Nat) : Cfg := { T := TT, G := lookG [], nt := 9, cuts := [], M0 := tabM }
def cutplaneref04_Is.H (k : Nat) : List (CutF cutplaneref04_Is.S.R) := []
def cutplaneref03_Good.f (x0 : Int) (x1 : Int) : Option (Int) := (cutplaneref03_Is.f x0).bind fun t453 => (if (!t453) = true then (some 4) else (if x0 = 1 then (if x1 ≥ 4294967296 then (some 6) else (some 0)) else (some 0)))
abbrev cutplaneref03_Good.S : Sig := { ps := [.lf (.i .u8), .lf (.i .u64)], rs := [.lf (.i .i64)], wb := [], R := Int, mkR := fun y0 => some y0, un := fun r => [.int .i64 r] }
def cutplaneref03_Good.F (k : Nat) : Fun := { S := cutplaneref03_Good.S, f := cutplaneref03_Good.f }
def cutplaneref03_Good.C (k : Nat) : Cfg := { T := TT, G := lookG [(11, [cutplaneref03_Is.F k])], nt := 14, cuts := [], M0 := tabM }
def cutplaneref03_Good.H (k : Nat) : List (CutF cutplaneref03_Good.S.R) := []
def cutplanelaw06_opens.l0 : Nat → Int → List Int → Int → Option (Int)
  | 0, _, _, _ => none
  | k + 1, x0, x2, x7 => if x7 < (x2.length : Int) then (if 0 ≤ x7 then (if x7 < (x2.length : Int) then ((cutplaneref03_Good.f x0 (rd x2 x7)).bind fun t462 => (if ¬ (t462 = 0) then (some 6) else (cutplanelaw06_opens.l0 k x0 x2 (wrap64 (x7 + 1))))) else (none)) else (none)) else (some 0)
def cutplanelaw06_opens.f (k : Nat) (x0 : Int) (x1 : Int) (x2 : List Int) : Option (Int) := (cutplaneref03_Is.f x0).bind fun t460 => (if (!t460) = true then (some 4) else ((cutplaneref04_Is.f x1).bind fun t461 => (if (!t461) = true then (some 5) else (cutplanelaw06_opens.l0 k x0 x2 0))))
abbrev cutplanelaw06_opens.S : Sig := { ps := [.lf (.i .u8), .lf (.i .u8), .lf (.is .u64)], rs := [.lf (.i .i64)], wb := [], R := Int, mkR := fun y0 => some y0, un := fun r => [.int .i64 r] }
def cutplanelaw06_opens.F (k : Nat) : Fun := { S := cutplanelaw06_opens.S, f := cutplanelaw06_opens.f k }
abbrev cutplanelaw06_opens.vl0 : List (Nat × Kx) := [(0, .lf (.i .u8)), (2, .lf (.is .u64)), (7, .lf (.i .i64))]
def cutplanelaw06_opens.C (k : Nat) : Cfg := { T := TT, G := lookG [(11, [cutplaneref03_Is.F k]), (48, [cutplaneref04_Is.F k]), (49, [cutplaneref03_Good.F k])], nt := 27, cuts := [⟨codeOf [true, true, true, false, true, false] 1, [true, true, true, false, true, false], cutplanelaw06_opens.vl0⟩], M0 := tabM }
def cutplanelaw06_opens.H (k : Nat) : List (CutF cutplanelaw06_opens.S.R) := [⟨cutplanelaw06_opens.vl0, cutplanelaw06_opens.l0 k⟩]
def cutplanelaw06_is.f (x0 : Int) (x1 : Int) (x2 : Int) (x3 : Int) (x4 : Int) (x5 : Int) : Option (Bool) := if ¬ (x5 = 0) then (if x0 = 0 then (if x1 = 0 then (some (decide (x2 = x5))) else (some false)) else (some false)) else (if x0 = x3 then (if x1 = x4 then (some (decide (x2 = 0))) else (some false)) else (some false))
abbrev cutplanelaw06_is.S : Sig := { ps := [.lf (.i .u64), .lf (.i .u8), .lf (.i .i64), .lf (.i .u64), .lf (.i .u8), .lf (.i .i64)], rs := [.lf (.b)], wb := [], R := Bool, mkR := fun y0 => some y0, un := fun r => [.bool r] }
def cutplanelaw06_is.F (k : Nat) : Fun := { S := cutplanelaw06_is.S, f := cutplanelaw06_is.f }
def cutplanelaw06_is.C (k : Nat) : Cfg := { T := TT, G := lookG [], nt := 38, cuts := [], M0 := tabM }
def cutplanelaw06_is.H (k : Nat) : List (CutF cutplanelaw06_is.S.R) := []
def round_partOf.f (k : Nat) (x0_0 : Bool) (x0_1 : List Int) (x0_2 : Int) : Option (Int × Int × Bool) := (nat_Len.f k x0_1).bind fun t478 => ((nat_Shift.f k x0_1 (wrap64 (64 - t478))).bind fun t479 => ((nat_Num.f k t479.1).bind fun t480 => (some (t480.1, wrap64 (x0_2 + t478), t479.2.1))))
abbrev round_partOf.S : Sig := { ps := [.ag [.b, .is .u32, .i .i64]], rs := [.ag [.i .u64, .i .i64, .b]], wb := [], R := Int × Int × Bool, mkR := fun y0 y1 y2 => some (y0, y1, y2), un := fun r => [.int .u64 r.1, .int .i64 r.2.1, .bool r.2.2] }
def round_partOf.F (k : Nat) : Fun := { S := round_partOf.S, f := round_partOf.f k }
def round_partOf.C (k : Nat) : Cfg := { T := TT, G := lookG [(97, [nat_Shift.F k]), (103, [nat_Num.F k]), (110, [nat_Len.F k])], nt := 33, cuts := [], M0 := tabM }
def round_partOf.H (k : Nat) : List (CutF round_partOf.S.R) := []
def round_up.f (x0 : Int) (x1 : Bool) (x2 : Bool) (x3 : Bool) (x4 : Bool) : Option (Bool) := if x0 = 1 then (if (!x4) = true then (if (!x2) = true then (some false) else (some x3)) else (some x3)) else (if x0 = 2 then (some x3) else (if x0 = 4 then (if (!x1) = true then (if x3 = true then (some true) else (some x4)) else (some false)) else (if x0 = 5 then (if x1 = true then (if x3 = true then (some true) else (some x4)) else (some false)) else (some false))))
abbrev round_up.S : Sig := { ps := [.lf (.i .u8), .lf (.b), .lf (.b), .lf (.b), .lf (.b)], rs := [.lf (.b)], wb := [], R := Bool, mkR := fun y0 => some y0, un := fun r => [.bool r] }
def round_up.F (k : Nat) : Fun := { S := round_up.S, f := round_up.f }
def round_up.C (k : Nat) : Cfg := { T := TT, G := lookG [], nt := 42, cuts := [], M0 := tabM }
def round_up.H (k : Nat) : List (CutF round_up.S.R) := []
def round_btoi.f (x0 : Bool) : Option (Int) := if x0 = true then (some 1) else (some 0)
abbrev round_btoi.S : Sig := { ps := [.lf (.b)], rs := [.lf (.i .u64)], wb := [], R := Int, mkR := fun y0 => some y0, un := fun r => [.int .u64 r] }
def round_btoi.F (k : Nat) : Fun := { S := round_btoi.S, f := round_btoi.f }
def round_btoi.C (k : Nat) : Cfg := { T := TT, G := lookG [], nt := 4, cuts := [], M0 := tabM }
def round_btoi.H (k : Nat) : List (CutF round_btoi.S.R) := []
mutual
def round_part_units.j1 : Nat → Int → Bool → Int → Int → Bool → Int → Int → Bool → Bool → Option (Int × Bool)
  | 0, _, _, _, _, _, _, _, _, _ => none
  | k + 1, x1, x2, x4_0, x4_1, x4_2, x10, x11, x12, x13 => if x10 > 0 then (if 0 ≤ (wrap64 (x10 - 1)) then (if x13 = true then (round_part_units.j2 k x1 x2 x11 (decide ((Go.bits .and .u64 (shr .u64 x4_0 (wrap64 (x10 - 1))) 1) = 1)) true) else (if 0 ≤ (wrap64 (x10 - 1)) then (round_part_units.j2 k x1 x2 x11 (decide ((Go.bits .and .u64 (shr .u64 x4_0 (wrap64 (x10 - 1))) 1) = 1)) (decide (¬ (Go.bits .and .u64 x4_0 (IntKind.u64.wrap ((shl .u64 1 (wrap64 (x10 - 1))) - 1)) = 0)))) else (none))) else (none)) else (round_part_units.j2 k x1 x2 x11 x12 x13)
def round_part_units.j2 : Nat → Int → Bool → Int → Bool → Bool → Option (Int × Bool)
  | 0, _, _, _, _, _ => none
  | k + 1, x1, x2, x11, x12, x13 => (round_up.f x1 x2 (decide ((Go.bits .and .u64 x11 1) = 1)) x12 x13).bind fun t514 => ((round_btoi.f t514).bind fun t515 => (if (!x12) = true then (some (IntKind.u64.wrap (x11 + t515), (!x13))) else (some (IntKind.u64.wrap (x11 + t515), false))))
end
def round_part_units.f (k : Nat) (x0_0 : Int) (x0_1 : Int) (x0_2 : Bool) (x1 : Int) (x2 : Bool) (x3 : Int) : Option (Int × Bool) := if (wrap64 ((wrap64 (x3 - x0_1)) + 64)) > 64 then ((round_up.f x1 x2 false false true).bind fun t512 => ((round_btoi.f t512).bind fun t513 => (some (t513, false)))) else (if (wrap64 ((wrap64 (x3 - x0_1)) + 64)) < 64 then (if 0 ≤ (wrap64 ((wrap64 (x3 - x0_1)) + 64)) then (round_part_units.j1 k x1 x2 x0_0 x0_1 x0_2 (wrap64 ((wrap64 (x3 - x0_1)) + 64)) (shr .u64 x0_0 (wrap64 ((wrap64 (x3 - x0_1)) + 64))) false x0_2) else (none)) else (round_part_units.j1 k x1 x2 x0_0 x0_1 x0_2 (wrap64 ((wrap64 (x3 - x0_1)) + 64)) 0 false x0_2))
abbrev round_part_units.S : Sig := { ps := [.ag [.i .u64, .i .i64, .b], .lf (.i .u8), .lf (.b), .lf (.i .i64)], rs := [.lf (.i .u64), .lf (.b)], wb := [], R := Int × Bool, mkR := fun y0 y1 => some (y0, y1), un := fun r => [.int .u64 r.1, .bool r.2] }
def round_part_units.F (k : Nat) : Fun := { S := round_part_units.S, f := round_part_units.f k }
abbrev round_part_units.vj1 : List (Nat × Kx) := [(1, .lf (.i .u8)), (2, .lf (.b)), (4, .bx [.i .u64, .i .i64, .b]), (10, .lf (.i .i64)), (11, .lf (.i .u64)), (12, .lf (.b)), (13, .lf (.b))]
abbrev round_part_units.vj2 : List (Nat × Kx) := [(1, .lf (.i .u8)), (2, .lf (.b)), (11, .lf (.i .u64)), (12, .lf (.b)), (13, .lf (.b))]
def round_part_units.C (k : Nat) : Cfg := { T := TT, G := lookG [(149, [round_btoi.F k]), (150, [round_up.F k])], nt := 70, cuts := [⟨codeOf [true, true, true, true, true] 1, [true, true, true, true, true], round_part_units.vj1⟩, ⟨codeOf [true, true, true, true, true, true] 1, [true, true, true, true, true, true], round_part_units.vj2⟩], M0 := tabM }
def round_part_units.H (k : Nat) : List (CutF round_part_units.S.R) := [⟨round_part_units.vj1, round_part_units.j1 k⟩, ⟨round_part_units.vj2, round_part_units.j2 k⟩]
def round_part_word.j1 : Nat → Int → Bool → Int → Int → Bool → Int → Int → Int → Bool → Int → Option (Int × Int)
  | 0, _, _, _, _, _, _, _, _, _, _ => none
  | k + 1, x3, x4, x5_0, x5_1, x5_2, x7_0, x7_1, x7_2, x14, x19 => if x14 = true then (some (x19, 0)) else ((round_part_units.f k x5_0 x5_1 x5_2 x3 x4 (wrap64 (x5_1 - x7_0))).bind fun t557 => ((bits_Len64.f k t557.1).bind fun t558 => (if (wrap64 ((wrap64 (t558 + x5_1)) - x7_0)) < (wrap64 (x7_1 + x7_0)) then (some (x19, 24)) else (some (x19, 16)))))
def round_part_word.f (k : Nat) (x0_0 : Int) (x0_1 : Int) (x0_2 : Bool) (x1 : Int) (x2_0 : Int) (x2_1 : Int) (x2_2 : Int) (x3 : Int) (x4 : Bool) : Option (Int × Int) := (round_part_units.f k x0_0 x0_1 x0_2 x3 x4 (mx (wrap64 (x0_1 - x2_0)) x2_1)).bind fun t550 => ((bits_Len64.f k t550.1).bind fun t551 => (if (wrap64 (t551 + (mx (wrap64 (x0_1 - x2_0)) x2_1))) > x2_2 then ((round_Over.f k x1 x3 x4).bind fun t552 => (some (t552.1, 20))) else ((nat_Of.f k t550.1).bind fun t553 => ((dyad_Make.f k x4 t553 (mx (wrap64 (x0_1 - x2_0)) x2_1)).bind fun t554 => ((word_Of.f k x1 t554.1 t554.2.1 t554.2.2.1).bind fun t555 => (if t550.1 = 0 then ((word_Zero.f k x1 x4).bind fun t556 => (round_part_word.j1 k x3 x4 x0_0 x0_1 x0_2 x2_0 x2_1 x2_2 t550.2 t556.1)) else (round_part_word.j1 k x3 x4 x0_0 x0_1 x0_2 x2_0 x2_1 x2_2 t550.2 t555.1)))))))
abbrev round_part_word.S : Sig := { ps := [.ag [.i .u64, .i .i64, .b], .lf (.i .u8), .ag [.i .i64, .i .i64, .i .i64], .lf (.i .u8), .lf (.b)], rs := [.lf (.i .u64), .lf (.i .u8)], wb := [], R := Int × Int, mkR := fun y0 y1 => some (y0, y1), un := fun r => [.int .u64 r.1, .int .u8 r.2] }
def round_part_word.F (k : Nat) : Fun := { S := round_part_word.S, f := round_part_word.f k }
abbrev round_part_word.vj1 : List (Nat × Kx) := [(3, .lf (.i .u8)), (4, .lf (.b)), (5, .bx [.i .u64, .i .i64, .b]), (7, .bx [.i .i64, .i .i64, .i .i64]), (14, .lf (.b)), (19, .lf (.i .u64))]
def round_part_word.C (k : Nat) : Cfg := { T := TT, G := lookG [(45, [word_Zero.F k]), (55, [word_Of.F k]), (79, [round_Over.F k]), (87, [dyad_Make.F k]), (88, [nat_Of.F k]), (104, [bits_Len64.F k]), (126, [round_part_units.F k])], nt := 106, cuts := [⟨codeOf [true, true, true, true, true, true, true] 1, [true, true, true, true, true, true, true], round_part_word.vj1⟩], M0 := tabM }
def round_part_word.H (k : Nat) : List (CutF round_part_word.S.R) := [⟨round_part_word.vj1, round_part_word.j1 k⟩]
def round_Round.f (k : Nat) (x0 : Int) (x1 : Int) (x2_0 : Bool) (x2_1 : List Int) (x2_2 : Int) : Option (Int × Int × Int) := (round_open.f k x0 x1 [(x2_0, x2_1, x2_2)]).bind fun t561 => (if ¬ (t561.2.2.2 = 0) then (some (0, 0, t561.2.2.2)) else ((dyad_Sign.f k x2_0 x2_1 x2_2).bind fun t562 => (if t562 = 0 then (some (0, 0, 0)) else ((round_partOf.f k x2_0 x2_1 x2_2).bind fun t563 => ((round_part_word.f k t563.1 t563.2.1 t563.2.2 x0 t561.1 t561.2.1 t561.2.2.1 x1 x2_0).bind fun t564 => (some (t564.1, t564.2, 0)))))))
abbrev round_Round.S : Sig := { ps := [.lf (.i .u8), .lf (.i .u8), .ag [.b, .is .u32, .i .i64]], rs := [.lf (.i .u64), .lf (.i .u8), .lf (.i .i64)], wb := [], R := Int × Int × Int, mkR := fun y0 y1 y2 => some (y0, y1, y2), un := fun r => [.int .u64 r.1, .int .u8 r.2.1, .int .i64 r.2.2] }
def round_Round.F (k : Nat) : Fun := { S := round_Round.S, f := round_Round.f k }
def round_Round.C (k : Nat) : Cfg := { T := TT, G := lookG [(56, [dyad_Sign.F k]), (90, [round_open.F k]), (91, [round_partOf.F k]), (92, [round_part_word.F k])], nt := 40, cuts := [], M0 := tabM }
def round_Round.H (k : Nat) : List (CutF round_Round.S.R) := []
def conv_To.f (k : Nat) (x0 : Int) (x1 : Int) (x2 : Int) (x3 : Int) : Option (Int × Int × Int) := (conv_mode.f k x1 x2).bind fun t570 => (if t570 = 4 then (some (0, 0, t570)) else ((conv_open.f k x0 x2 x3).bind fun t571 => (if ¬ (t571.2.2 = 0) then (some (0, 0, t571.2.2)) else (if t571.1 = 5 then ((word_None.f k x1).bind fun t572 => (some (t572.1, 0, 0))) else (if t571.1 = 4 then ((word_Inf.f k x1 t571.2.1).bind fun t573 => (some (t573.1, 0, 0))) else (if t571.1 = 1 then ((word_Zero.f k x1 t571.2.1).bind fun t574 => (some (t574.1, 0, 0))) else ((word_Value.f k x0 x3).bind fun t575 => ((round_Round.f k x1 x2 t575.1 t575.2.1 t575.2.2.1).bind fun t576 => (some (t576.1, t576.2.1, t576.2.2))))))))))
abbrev conv_To.S : Sig := { ps := [.lf (.i .u8), .lf (.i .u8), .lf (.i .u8), .lf (.i .u64)], rs := [.lf (.i .u64), .lf (.i .u8), .lf (.i .i64)], wb := [], R := Int × Int × Int, mkR := fun y0 y1 y2 => some (y0, y1, y2), un := fun r => [.int .u64 r.1, .int .u8 r.2.1, .int .i64 r.2.2] }
def conv_To.F (k : Nat) : Fun := { S := conv_To.S, f := conv_To.f k }
def conv_To.C (k : Nat) : Cfg := { T := TT, G := lookG [(41, [conv_mode.F k]), (42, [conv_open.F k]), (43, [word_None.F k]), (44, [word_Inf.F k]), (45, [word_Zero.F k]), (46, [word_Value.F k]), (47, [round_Round.F k])], nt := 80, cuts := [], M0 := tabM }
def conv_To.H (k : Nat) : List (CutF conv_To.S.R) := []
def cutplanelaw06_known.f (k : Nat) : Option (Bool) := (conv_To.f k 2 1 4 4607182419068452864).bind fun t581 => ((conv_Rem.f k 2 4617315517961601024 4613937818241073152).bind fun t582 => (if t581.1 = 1065353217 then (if t581.2.1 = 16 then (if t581.2.2 = 0 then (if t582.1 = 13830554455654793216 then (if t582.2.1 = 0 then (some (decide (t582.2.2 = 0))) else (some false)) else (some false)) else (some false)) else (some false)) else (some false)))
abbrev cutplanelaw06_known.S : Sig := { ps := [], rs := [.lf (.b)], wb := [], R := Bool, mkR := fun y0 => some y0, un := fun r => [.bool r] }
def cutplanelaw06_known.F (k : Nat) : Fun := { S := cutplanelaw06_known.S, f := cutplanelaw06_known.f k }
def cutplanelaw06_known.C (k : Nat) : Cfg := { T := TT, G := lookG [(9, [conv_To.F k]), (15, [conv_Rem.F k])], nt := 39, cuts := [], M0 := tabM }
def cutplanelaw06_known.H (k : Nat) : List (CutF cutplanelaw06_known.S.R) := []
def cutplaneref03_Sign.f (x0 : Int) : Option (Int) := if x0 = 1 then (some 2147483648) else (some 9223372036854775808)
abbrev cutplaneref03_Sign.S : Sig := { ps := [.lf (.i .u8)], rs := [.lf (.i .u64)], wb := [], R := Int, mkR := fun y0 => some y0, un := fun r => [.int .u64 r] }
def cutplaneref03_Sign.F (k : Nat) : Fun := { S := cutplaneref03_Sign.S, f := cutplaneref03_Sign.f }
def cutplaneref03_Sign.C (k : Nat) : Cfg := { T := TT, G := lookG [], nt := 5, cuts := [], M0 := tabM }
def cutplaneref03_Sign.H (k : Nat) : List (CutF cutplaneref03_Sign.S.R) := []
def cutplaneref03_Frac.f (x0 : Int) : Option (Int) := if x0 = 1 then (some 23) else (some 52)
abbrev cutplaneref03_Frac.S : Sig := { ps := [.lf (.i .u8)], rs := [.lf (.i .i64)], wb := [], R := Int, mkR := fun y0 => some y0, un := fun r => [.int .i64 r] }
def cutplaneref03_Frac.F (k : Nat) : Fun := { S := cutplaneref03_Frac.S, f := cutplaneref03_Frac.f }
def cutplaneref03_Frac.C (k : Nat) : Cfg := { T := TT, G := lookG [], nt := 5, cuts := [], M0 := tabM }
def cutplaneref03_Frac.H (k : Nat) : List (CutF cutplaneref03_Frac.S.R) := []
def cutplaneref03_Split.f (x0 : Int) (x1 : Int) : Option (Bool × Int × Int) := (cutplaneref03_Sign.f x0).bind fun t592 => ((cutplaneref03_Sign.f x0).bind fun t593 => (if t593 = 0 then (none) else ((cutplaneref03_Frac.f x0).bind fun t594 => (if 0 ≤ t594 then (if (shl .u64 1 t594) = 0 then (none) else ((cutplaneref03_Frac.f x0).bind fun t595 => (if 0 ≤ t595 then (some (decide (x1 ≥ t592), wrap64 (shr .u64 (Int.tmod x1 t593) t595), Int.tmod (Int.tmod x1 t593) (shl .u64 1 t594))) else (none)))) else (none)))))
abbrev cutplaneref03_Split.S : Sig := { ps := [.lf (.i .u8), .lf (.i .u64)], rs := [.ag [.b, .i .i64, .i .u64]], wb := [], R := Bool × Int × Int, mkR := fun y0 y1 y2 => some (y0, y1, y2), un := fun r => [.bool r.1, .int .i64 r.2.1, .int .u64 r.2.2] }
def cutplaneref03_Split.F (k : Nat) : Fun := { S := cutplaneref03_Split.S, f := cutplaneref03_Split.f }
def cutplaneref03_Split.C (k : Nat) : Cfg := { T := TT, G := lookG [(27, [cutplaneref03_Frac.F k]), (74, [cutplaneref03_Sign.F k])], nt := 28, cuts := [], M0 := tabM }
def cutplaneref03_Split.H (k : Nat) : List (CutF cutplaneref03_Split.S.R) := []
def cutplaneref03_Most.f (x0 : Int) : Option (Int) := if x0 = 1 then (some 255) else (some 2047)
abbrev cutplaneref03_Most.S : Sig := { ps := [.lf (.i .u8)], rs := [.lf (.i .i64)], wb := [], R := Int, mkR := fun y0 => some y0, un := fun r => [.int .i64 r] }
def cutplaneref03_Most.F (k : Nat) : Fun := { S := cutplaneref03_Most.S, f := cutplaneref03_Most.f }
def cutplaneref03_Most.C (k : Nat) : Cfg := { T := TT, G := lookG [], nt := 5, cuts := [], M0 := tabM }
def cutplaneref03_Most.H (k : Nat) : List (CutF cutplaneref03_Most.S.R) := []
def cutplaneref03_Class.f (x0 : Int) (x1 : Int) : Option (Int) := (cutplaneref03_Split.f x0 x1).bind fun t607 => (if t607.2.1 = 0 then (if t607.2.2 = 0 then (some 1) else (if t607.2.1 = 0 then (some 2) else ((cutplaneref03_Most.f x0).bind fun t608 => (if t607.2.1 < t608 then (some 3) else (if t607.2.2 = 0 then (some 4) else (some 5)))))) else (if t607.2.1 = 0 then (some 2) else ((cutplaneref03_Most.f x0).bind fun t609 => (if t607.2.1 < t609 then (some 3) else (if t607.2.2 = 0 then (some 4) else (some 5))))))
abbrev cutplaneref03_Class.S : Sig := { ps := [.lf (.i .u8), .lf (.i .u64)], rs := [.lf (.i .u8)], wb := [], R := Int, mkR := fun y0 => some y0, un := fun r => [.int .u8 r] }
def cutplaneref03_Class.F (k : Nat) : Fun := { S := cutplaneref03_Class.S, f := cutplaneref03_Class.f }
def cutplaneref03_Class.C (k : Nat) : Cfg := { T := TT, G := lookG [(31, [cutplaneref03_Split.F k]), (64, [cutplaneref03_Most.F k])], nt := 28, cuts := [], M0 := tabM }
def cutplaneref03_Class.H (k : Nat) : List (CutF cutplaneref03_Class.S.R) := []
def cutplaneref03_Join.f (x0 : Int) (x1_0 : Bool) (x1_1 : Int) (x1_2 : Int) : Option (Int) := (cutplaneref03_Frac.f x0).bind fun t620 => (if 0 ≤ t620 then (if x1_0 = true then ((cutplaneref03_Sign.f x0).bind fun t621 => (some (IntKind.u64.wrap ((IntKind.u64.wrap ((shl .u64 (IntKind.u64.wrap x1_1) t620) + x1_2)) + t621)))) else (some (IntKind.u64.wrap ((shl .u64 (IntKind.u64.wrap x1_1) t620) + x1_2)))) else (none))
abbrev cutplaneref03_Join.S : Sig := { ps := [.lf (.i .u8), .ag [.b, .i .i64, .i .u64]], rs := [.lf (.i .u64)], wb := [], R := Int, mkR := fun y0 => some y0, un := fun r => [.int .u64 r] }
def cutplaneref03_Join.F (k : Nat) : Fun := { S := cutplaneref03_Join.S, f := cutplaneref03_Join.f }
def cutplaneref03_Join.C (k : Nat) : Cfg := { T := TT, G := lookG [(27, [cutplaneref03_Frac.F k]), (74, [cutplaneref03_Sign.F k])], nt := 22, cuts := [], M0 := tabM }
def cutplaneref03_Join.H (k : Nat) : List (CutF cutplaneref03_Join.S.R) := []
def cutplaneref03_None.f (x0 : Int) : Option (Int) := (cutplaneref03_Most.f x0).bind fun t614 => ((cutplaneref03_Frac.f x0).bind fun t615 => (if 0 ≤ (wrap64 (t615 - 1)) then ((cutplaneref03_Join.f x0 false t614 (shl .u64 1 (wrap64 (t615 - 1)))).bind fun t622 => (some t622)) else (none)))
abbrev cutplaneref03_None.S : Sig := { ps := [.lf (.i .u8)], rs := [.lf (.i .u64)], wb := [], R := Int, mkR := fun y0 => some y0, un := fun r => [.int .u64 r] }
def cutplaneref03_None.F (k : Nat) : Fun := { S := cutplaneref03_None.S, f := cutplaneref03_None.f }
def cutplaneref03_None.C (k : Nat) : Cfg := { T := TT, G := lookG [(27, [cutplaneref03_Frac.F k]), (64, [cutplaneref03_Most.F k]), (93, [cutplaneref03_Join.F k])], nt := 12, cuts := [], M0 := tabM }
def cutplaneref03_None.H (k : Nat) : List (CutF cutplaneref03_None.S.R) := []
def cutplaneref01_Trim.l0 : Nat → List Int → Int → Option (List Int)
  | 0, _, _ => none
  | k + 1, x0, x3 => if x3 > 0 then (if 0 ≤ wrap64 (x3 - 1) then (if wrap64 (x3 - 1) < (x0.length : Int) then (if (rd x0 (wrap64 (x3 - 1))) = 0 then (cutplaneref01_Trim.l0 k x0 (wrap64 (x3 - 1))) else (if 0 ≤ x3 then (if x3 ≤ (x0.length : Int) then (some (x0.take (x3 : Int).toNat)) else (none)) else (none))) else (none)) else (none)) else (if 0 ≤ x3 then (if x3 ≤ (x0.length : Int) then (some (x0.take (x3 : Int).toNat)) else (none)) else (none))
def cutplaneref01_Trim.f (k : Nat) (x0 : List Int) : Option (List Int) := cutplaneref01_Trim.l0 k x0 (x0.length : Int)
abbrev cutplaneref01_Trim.S : Sig := { ps := [.ow .u32], rs := [.ow .u32], wb := [], R := List Int, mkR := fun y0 => some y0, un := fun r => [.ints .u32 r] }
def cutplaneref01_Trim.F (k : Nat) : Fun := { S := cutplaneref01_Trim.S, f := cutplaneref01_Trim.f k }
abbrev cutplaneref01_Trim.vl0 : List (Nat × Kx) := [(0, .ow .u32), (3, .lf (.i .i64))]
def cutplaneref01_Trim.C (k : Nat) : Cfg := { T := TT, G := lookG [], nt := 21, cuts := [⟨codeOf [true, true, false, false] 1, [true, true, false, false], cutplaneref01_Trim.vl0⟩], M0 := tabM }
def cutplaneref01_Trim.H (k : Nat) : List (CutF cutplaneref01_Trim.S.R) := [⟨cutplaneref01_Trim.vl0, cutplaneref01_Trim.l0 k⟩]
abbrev cutplaneref01_Trim.S1 : Sig := { ps := [.lf (.is .u32)], rs := [.lf (.is .u32)], wb := [], R := List Int, mkR := fun y0 => some y0, un := fun r => [.ints .u32 r] }
def cutplaneref01_Trim.F1 (k : Nat) : Fun := { S := cutplaneref01_Trim.S1, f := cutplaneref01_Trim.f k }
abbrev cutplaneref01_Trim.vl01 : List (Nat × Kx) := [(0, .lf (.is .u32)), (3, .lf (.i .i64))]
def cutplaneref01_Trim.C1 (k : Nat) : Cfg := { T := TT, G := lookG [], nt := 21, cuts := [⟨codeOf [true, true, false, false] 1, [true, true, false, false], cutplaneref01_Trim.vl01⟩], M0 := tabM }
def cutplaneref01_Trim.H1 (k : Nat) : List (CutF cutplaneref01_Trim.S1.R) := [⟨cutplaneref01_Trim.vl01, cutplaneref01_Trim.l0 k⟩]
def cutplaneref01_Of.f (k : Nat) (x0 : Int) : Option (List Int) := (cutplaneref01_Trim.f k ([x0 % 4294967296, (x0 / 4294967296) % 4294967296] : List Int)).bind fun t634 => (some t634)
abbrev cutplaneref01_Of.S : Sig := { ps := [.lf (.i .u64)], rs := [.lf (.is .u32)], wb := [], R := List Int, mkR := fun y0 => some y0, un := fun r => [.ints .u32 r] }
def cutplaneref01_Of.F (k : Nat) : Fun := { S := cutplaneref01_Of.S, f := cutplaneref01_Of.f k }
def cutplaneref01_Of.C (k : Nat) : Cfg := { T := TT, G := lookG [(113, [cutplaneref01_Trim.F k, cutplaneref01_Trim.F1 k])], nt := 10, cuts := [], M0 := tabM }
def cutplaneref01_Of.H (k : Nat) : List (CutF cutplaneref01_Of.S.R) := []
def cutplaneref03_Low.f (x0 : Int) : Option (Int) := if x0 = 1 then (some (-149)) else (some (-1074))
abbrev cutplaneref03_Low.S : Sig := { ps := [.lf (.i .u8)], rs := [.lf (.i .i64)], wb := [], R := Int, mkR := fun y0 => some y0, un := fun r => [.int .i64 r] }
def cutplaneref03_Low.F (k : Nat) : Fun := { S := cutplaneref03_Low.S, f := cutplaneref03_Low.f }
def cutplaneref03_Low.C (k : Nat) : Cfg := { T := TT, G := lookG [], nt := 5, cuts := [], M0 := tabM }
def cutplaneref03_Low.H (k : Nat) : List (CutF cutplaneref03_Low.S.R) := []
def cutplaneref01_Bit.f (x0 : List Int) (x1 : Int) : Option (Int) := if x1 < 0 then (some 0) else (if (wrap64 (Int.tdiv x1 32)) ≥ (x0.length : Int) then (some 0) else (if 0 ≤ wrap64 (Int.tdiv x1 32) then (if wrap64 (Int.tdiv x1 32) < (x0.length : Int) then (if 0 ≤ (Int.tmod x1 32) then (some (Go.bits .and .u32 (shr .u32 (rd x0 (wrap64 (Int.tdiv x1 32))) (Int.tmod x1 32)) 1)) else (none)) else (none)) else (none)))
abbrev cutplaneref01_Bit.S : Sig := { ps := [.lf (.is .u32), .lf (.i .i64)], rs := [.lf (.i .u32)], wb := [], R := Int, mkR := fun y0 => some y0, un := fun r => [.int .u32 r] }
def cutplaneref01_Bit.F (k : Nat) : Fun := { S := cutplaneref01_Bit.S, f := cutplaneref01_Bit.f }
def cutplaneref01_Bit.C (k : Nat) : Cfg := { T := TT, G := lookG [], nt := 23, cuts := [], M0 := tabM }
def cutplaneref01_Bit.H (k : Nat) : List (CutF cutplaneref01_Bit.S.R) := []
def cutplaneref01_Low.l0 : Nat → List Int → Int → Option (Int)
  | 0, _, _ => none
  | k + 1, x0, x3 => if x3 < (wrap64 (32 * (x0.length : Int))) then ((cutplaneref01_Bit.f x0 x3).bind fun t641 => (if t641 = 0 then (if 0 ≤ wrap64 (Int.tdiv x3 32) then (if wrap64 (Int.tdiv x3 32) < (x0.length : Int) then (if (rd x0 (wrap64 (Int.tdiv x3 32))) = 0 then (cutplaneref01_Low.l0 k x0 (wrap64 (x3 + 32))) else (cutplaneref01_Low.l0 k x0 (wrap64 (x3 + 1)))) else (none)) else (none)) else (if x3 = (wrap64 (32 * (x0.length : Int))) then (some 0) else (some x3)))) else (if x3 = (wrap64 (32 * (x0.length : Int))) then (some 0) else (some x3))
def cutplaneref01_Low.f (k : Nat) (x0 : List Int) : Option (Int) := cutplaneref01_Low.l0 k x0 0
abbrev cutplaneref01_Low.S : Sig := { ps := [.lf (.is .u32)], rs := [.lf (.i .i64)], wb := [], R := Int, mkR := fun y0 => some y0, un := fun r => [.int .i64 r] }
def cutplaneref01_Low.F (k : Nat) : Fun := { S := cutplaneref01_Low.S, f := cutplaneref01_Low.f k }
abbrev cutplaneref01_Low.vl0 : List (Nat × Kx) := [(0, .lf (.is .u32)), (3, .lf (.i .i64))]
def cutplaneref01_Low.C (k : Nat) : Cfg := { T := TT, G := lookG [(141, [cutplaneref01_Bit.F k])], nt := 31, cuts := [⟨codeOf [true, true, false, false] 1, [true, true, false, false], cutplaneref01_Low.vl0⟩], M0 := tabM }
def cutplaneref01_Low.H (k : Nat) : List (CutF cutplaneref01_Low.S.R) := [⟨cutplaneref01_Low.vl0, cutplaneref01_Low.l0 k⟩]
def cutplaneref01_Len.l0 : Nat → Int → Int → Option (Int)
  | 0, _, _ => none
  | k + 1, x3, x4 => if x4 > 0 then (cutplaneref01_Len.l0 k (wrap64 (x3 + 1)) (x4 / 2)) else (some x3)
def cutplaneref01_Len.f (k : Nat) (x0 : List Int) : Option (Int) := if (x0.length : Int) = 0 then (some 0) else (if 0 ≤ wrap64 ((x0.length : Int) - 1) then (if wrap64 ((x0.length : Int) - 1) < (x0.length : Int) then (cutplaneref01_Len.l0 k (wrap64 (32 * (wrap64 ((x0.length : Int) - 1)))) (rd x0 (wrap64 ((x0.length : Int) - 1)))) else (none)) else (none))
abbrev cutplaneref01_Len.S : Sig := { ps := [.lf (.is .u32)], rs := [.lf (.i .i64)], wb := [], R := Int, mkR := fun y0 => some y0, un := fun r => [.int .i64 r] }
def cutplaneref01_Len.F (k : Nat) : Fun := { S := cutplaneref01_Len.S, f := cutplaneref01_Len.f k }
abbrev cutplaneref01_Len.vl0 : List (Nat × Kx) := [(3, .lf (.i .i64)), (4, .lf (.i .u32))]
def cutplaneref01_Len.C (k : Nat) : Cfg := { T := TT, G := lookG [], nt := 25, cuts := [⟨codeOf [true, true, true, false, true, false] 1, [true, true, true, false, true, false], cutplaneref01_Len.vl0⟩], M0 := tabM }
def cutplaneref01_Len.H (k : Nat) : List (CutF cutplaneref01_Len.S.R) := [⟨cutplaneref01_Len.vl0, cutplaneref01_Len.l0 k⟩]
def cutplaneref01_Down.l0 : Nat → List Int → Bool → List Int → Int → Int → Option (List Int × Bool)
  | 0, _, _, _, _, _ => none
  | k + 1, x0, x6, x7, x8, x9 => if x9 < (x0.length : Int) then (if 0 ≤ x9 then (if x9 < (x0.length : Int) then (if 0 ≤ x8 then (if (wrap64 (x9 + 1)) < (x0.length : Int) then (if 0 ≤ wrap64 (x9 + 1) then (if wrap64 (x9 + 1) < (x0.length : Int) then (if 0 ≤ (wrap64 (32 - x8)) then (if x7.length + ([(Go.bits .or .u64 (shr .u64 (IntKind.u64.wrap (rd x0 x9)) x8) (shl .u64 (IntKind.u64.wrap (rd x0 (wrap64 (x9 + 1)))) (wrap64 (32 - x8)))) % 4294967296] : List Int).length < 35184372088832 then (cutplaneref01_Down.l0 k x0 x6 (x7 ++ ([(Go.bits .or .u64 (shr .u64 (IntKind.u64.wrap (rd x0 x9)) x8) (shl .u64 (IntKind.u64.wrap (rd x0 (wrap64 (x9 + 1)))) (wrap64 (32 - x8)))) % 4294967296] : List Int)) x8 (wrap64 (x9 + 1))) else (none)) else (none)) else (none)) else (none)) else (if x7.length + ([(shr .u64 (IntKind.u64.wrap (rd x0 x9)) x8) % 4294967296] : List Int).length < 35184372088832 then (cutplaneref01_Down.l0 k x0 x6 (x7 ++ ([(shr .u64 (IntKind.u64.wrap (rd x0 x9)) x8) % 4294967296] : List Int)) x8 (wrap64 (x9 + 1))) else (none))) else (none)) else (none)) else (none)) else ((cutplaneref01_Trim.f k x7).bind fun t669 => (some (t669, x6)))
def cutplaneref01_Down.f (k : Nat) (x0 : List Int) (x1 : Int) : Option (List Int × Bool) := (cutplaneref01_Len.f k x0).bind fun t667 => (if x1 ≥ t667 then (some (([] : List Int), decide ((x0.length : Int) > 0))) else ((cutplaneref01_Low.f k x0).bind fun t668 => (cutplaneref01_Down.l0 k x0 (decide (x1 > t668)) ([] : List Int) (Int.tmod x1 32) (wrap64 (Int.tdiv x1 32)))))
abbrev cutplaneref01_Down.S : Sig := { ps := [.lf (.is .u32), .lf (.i .i64)], rs := [.lf (.is .u32), .lf (.b)], wb := [], R := List Int × Bool, mkR := fun y0 y1 => some (y0, y1), un := fun r => [.ints .u32 r.1, .bool r.2] }
def cutplaneref01_Down.F (k : Nat) : Fun := { S := cutplaneref01_Down.S, f := cutplaneref01_Down.f k }
abbrev cutplaneref01_Down.vl0 : List (Nat × Kx) := [(0, .lf (.is .u32)), (6, .lf (.b)), (7, .ow .u32), (8, .lf (.i .i64)), (9, .lf (.i .i64))]
def cutplaneref01_Down.C (k : Nat) : Cfg := { T := TT, G := lookG [(71, [cutplaneref01_Len.F k]), (111, [cutplaneref01_Low.F k]), (113, [cutplaneref01_Trim.F k, cutplaneref01_Trim.F1 k])], nt := 63, cuts := [⟨codeOf [true, true, true, true, true, false, true, false] 1, [true, true, true, true, true, false, true, false], cutplaneref01_Down.vl0⟩], M0 := tabM }
def cutplaneref01_Down.H (k : Nat) : List (CutF cutplaneref01_Down.S.R) := [⟨cutplaneref01_Down.vl0, cutplaneref01_Down.l0 k⟩]
def cutplaneref02_Form.f (k : Nat) (x0 : Bool) (x1 : List Int) (x2 : Int) : Option (Bool × List Int × Int) := if (x1.length : Int) = 0 then (some (false, ([] : List Int), 0)) else ((cutplaneref01_Low.f k x1).bind fun t671 => ((cutplaneref01_Down.f k x1 t671).bind fun t672 => (some (x0, t672.1, wrap64 (x2 + t671)))))
abbrev cutplaneref02_Form.S : Sig := { ps := [.lf (.b), .lf (.is .u32), .lf (.i .i64)], rs := [.ag [.b, .is .u32, .i .i64]], wb := [], R := Bool × List Int × Int, mkR := fun y0 y1 y2 => some (y0, y1, y2), un := fun r => [.bool r.1, .ints .u32 r.2.1, .int .i64 r.2.2] }
def cutplaneref02_Form.F (k : Nat) : Fun := { S := cutplaneref02_Form.S, f := cutplaneref02_Form.f k }
def cutplaneref02_Form.C (k : Nat) : Cfg := { T := TT, G := lookG [(111, [cutplaneref01_Low.F k]), (112, [cutplaneref01_Down.F k])], nt := 28, cuts := [], M0 := tabM }
def cutplaneref02_Form.H (k : Nat) : List (CutF cutplaneref02_Form.S.R) := []
def cutplaneref03_Value.f (k : Nat) (x0 : Int) (x1 : Int) : Option (Bool × List Int × Int) := (cutplaneref03_Split.f x0 x1).bind fun t682 => (if t682.2.1 = 0 then ((cutplaneref01_Of.f k t682.2.2).bind fun t683 => ((cutplaneref03_Low.f x0).bind fun t684 => ((cutplaneref02_Form.f k t682.1 t683 t684).bind fun t685 => (some (t685.1, t685.2.1, t685.2.2))))) else ((cutplaneref03_Frac.f x0).bind fun t686 => (if 0 ≤ t686 then ((cutplaneref01_Of.f k (IntKind.u64.wrap ((shl .u64 1 t686) + t682.2.2))).bind fun t687 => ((cutplaneref03_Low.f x0).bind fun t688 => ((cutplaneref02_Form.f k t682.1 t687 (wrap64 ((wrap64 (t682.2.1 - 1)) + t688))).bind fun t689 => (some (t689.1, t689.2.1, t689.2.2))))) else (none))))
abbrev cutplaneref03_Value.S : Sig := { ps := [.lf (.i .u8), .lf (.i .u64)], rs := [.ag [.b, .is .u32, .i .i64]], wb := [], R := Bool × List Int × Int, mkR := fun y0 y1 y2 => some (y0, y1, y2), un := fun r => [.bool r.1, .ints .u32 r.2.1, .int .i64 r.2.2] }
def cutplaneref03_Value.F (k : Nat) : Fun := { S := cutplaneref03_Value.S, f := cutplaneref03_Value.f k }
def cutplaneref03_Value.C (k : Nat) : Cfg := { T := TT, G := lookG [(27, [cutplaneref03_Frac.F k]), (31, [cutplaneref03_Split.F k]), (65, [cutplaneref02_Form.F k]), (66, [cutplaneref01_Of.F k]), (73, [cutplaneref03_Low.F k])], nt := 36, cuts := [], M0 := tabM }
def cutplaneref03_Value.H (k : Nat) : List (CutF cutplaneref03_Value.S.R) := []
def cutplaneref02_Sign.f (x0_0 : Bool) (x0_1 : List Int) (x0_2 : Int) : Option (Int) := if (x0_1.length : Int) = 0 then (some 0) else (if x0_0 = true then (some (-1)) else (some 1))
abbrev cutplaneref02_Sign.S : Sig := { ps := [.ag [.b, .is .u32, .i .i64]], rs := [.lf (.i .i64)], wb := [], R := Int, mkR := fun y0 => some y0, un := fun r => [.int .i64 r] }
def cutplaneref02_Sign.F (k : Nat) : Fun := { S := cutplaneref02_Sign.S, f := cutplaneref02_Sign.f }
def cutplaneref02_Sign.C (k : Nat) : Cfg := { T := TT, G := lookG [], nt := 9, cuts := [], M0 := tabM }
def cutplaneref02_Sign.H (k : Nat) : List (CutF cutplaneref02_Sign.S.R) := []
def cutplaneref02_Top.f (k : Nat) (x0_0 : Bool) (x0_1 : List Int) (x0_2 : Int) : Option (Int) := if (x0_1.length : Int) = 0 then (some 0) else ((cutplaneref01_Len.f k x0_1).bind fun t695 => (some (wrap64 (x0_2 + t695))))
abbrev cutplaneref02_Top.S : Sig := { ps := [.ag [.b, .is .u32, .i .i64]], rs := [.lf (.i .i64)], wb := [], R := Int, mkR := fun y0 => some y0, un := fun r => [.int .i64 r] }
def cutplaneref02_Top.F (k : Nat) : Fun := { S := cutplaneref02_Top.S, f := cutplaneref02_Top.f k }
def cutplaneref02_Top.C (k : Nat) : Cfg := { T := TT, G := lookG [(71, [cutplaneref01_Len.F k])], nt := 13, cuts := [], M0 := tabM }
def cutplaneref02_Top.H (k : Nat) : List (CutF cutplaneref02_Top.S.R) := []
def cutplaneref01_Up.l0 : Nat → List Int → List Int → Int → Int → Int → Option (List Int)
  | 0, _, _, _, _, _ => none
  | k + 1, x0, x5, x6, x7, x8 => if x8 < (x0.length : Int) then (if 0 ≤ x8 then (if x8 < (x0.length : Int) then (if 0 ≤ x6 then (if x5.length + ([(Go.bits .or .u64 x7 (shl .u64 (IntKind.u64.wrap (rd x0 x8)) x6)) % 4294967296] : List Int).length < 35184372088832 then (cutplaneref01_Up.l0 k x0 (x5 ++ ([(Go.bits .or .u64 x7 (shl .u64 (IntKind.u64.wrap (rd x0 x8)) x6)) % 4294967296] : List Int)) x6 ((Go.bits .or .u64 x7 (shl .u64 (IntKind.u64.wrap (rd x0 x8)) x6)) / 4294967296) (wrap64 (x8 + 1))) else (none)) else (none)) else (none)) else (none)) else (if x5.length + ([x7 % 4294967296] : List Int).length < 35184372088832 then ((cutplaneref01_Trim.f k (x5 ++ ([x7 % 4294967296] : List Int))).bind fun t702 => (some t702)) else (none))
def cutplaneref01_Up.f (k : Nat) (x0 : List Int) (x1 : Int) : Option (List Int) := if (x0.length : Int) = 0 then (some ([] : List Int)) else (if 0 ≤ (wrap64 (Int.tdiv x1 32)) then (if (wrap64 (Int.tdiv x1 32) : Int).toNat ≤ 70368744177664 then (cutplaneref01_Up.l0 k x0 (List.replicate (wrap64 (Int.tdiv x1 32) : Int).toNat (0 : Int)) (Int.tmod x1 32) 0 0) else (none)) else (none))
abbrev cutplaneref01_Up.S : Sig := { ps := [.lf (.is .u32), .lf (.i .i64)], rs := [.lf (.is .u32)], wb := [], R := List Int, mkR := fun y0 => some y0, un := fun r => [.ints .u32 r] }
def cutplaneref01_Up.F (k : Nat) : Fun := { S := cutplaneref01_Up.S, f := cutplaneref01_Up.f k }
abbrev cutplaneref01_Up.vl0 : List (Nat × Kx) := [(0, .lf (.is .u32)), (5, .ow .u32), (6, .lf (.i .i64)), (7, .lf (.i .u64)), (8, .lf (.i .i64))]
def cutplaneref01_Up.C (k : Nat) : Cfg := { T := TT, G := lookG [(113, [cutplaneref01_Trim.F k, cutplaneref01_Trim.F1 k])], nt := 45, cuts := [⟨codeOf [true, true, true, true, true, false, true, false] 1, [true, true, true, true, true, false, true, false], cutplaneref01_Up.vl0⟩], M0 := tabM }
def cutplaneref01_Up.H (k : Nat) : List (CutF cutplaneref01_Up.S.R) := [⟨cutplaneref01_Up.vl0, cutplaneref01_Up.l0 k⟩]
def cutplaneref01_byDigit.l0 : Nat → List Int → Int → List Int → Int → Int → Option (List Int × List Int)
  | 0, _, _, _, _, _ => none
  | k + 1, x0, x1, x6, x7, x8 => if x8 ≥ 0 then (if 0 ≤ x8 then (if x8 < (x0.length : Int) then (if (IntKind.u64.wrap x1) = 0 then (none) else (if 0 ≤ x8 then (if x8 < (x6.length : Int) then (if (IntKind.u64.wrap x1) = 0 then (none) else (cutplaneref01_byDigit.l0 k x0 x1 (x6.set (x8 : Int).toNat ((IntKind.u64.wrap (Int.tdiv (Go.bits .or .u64 (IntKind.u64.wrap (x7 * 4294967296)) (IntKind.u64.wrap (rd x0 x8))) (IntKind.u64.wrap x1))) % 4294967296)) (Int.tmod (Go.bits .or .u64 (IntKind.u64.wrap (x7 * 4294967296)) (IntKind.u64.wrap (rd x0 x8))) (IntKind.u64.wrap x1)) (wrap64 (x8 - 1)))) else (none)) else (none))) else (none)) else (none)) else ((cutplaneref01_Trim.f k x6).bind fun t706 => ((cutplaneref01_Of.f k x7).bind fun t707 => (some (t706, t707))))
def cutplaneref01_byDigit.f (k : Nat) (x0 : List Int) (x1 : Int) : Option (List Int × List Int) := if 0 ≤ (x0.length : Int) then (if ((x0.length : Int) : Int).toNat ≤ 70368744177664 then (cutplaneref01_byDigit.l0 k x0 x1 (List.replicate ((x0.length : Int) : Int).toNat (0 : Int)) 0 (wrap64 ((x0.length : Int) - 1))) else (none)) else (none)
abbrev cutplaneref01_byDigit.S : Sig := { ps := [.lf (.is .u32), .lf (.i .u32)], rs := [.lf (.is .u32), .lf (.is .u32)], wb := [], R := List Int × List Int, mkR := fun y0 y1 => some (y0, y1), un := fun r => [.ints .u32 r.1, .ints .u32 r.2] }
def cutplaneref01_byDigit.F (k : Nat) : Fun := { S := cutplaneref01_byDigit.S, f := cutplaneref01_byDigit.f k }
abbrev cutplaneref01_byDigit.vl0 : List (Nat × Kx) := [(0, .lf (.is .u32)), (1, .lf (.i .u32)), (6, .ow .u32), (7, .lf (.i .u64)), (8, .lf (.i .i64))]
def cutplaneref01_byDigit.C (k : Nat) : Cfg := { T := TT, G := lookG [(66, [cutplaneref01_Of.F k]), (113, [cutplaneref01_Trim.F k, cutplaneref01_Trim.F1 k])], nt := 43, cuts := [⟨codeOf [true, true, true, false, true, false] 1, [true, true, true, false, true, false], cutplaneref01_byDigit.vl0⟩], M0 := tabM }
def cutplaneref01_byDigit.H (k : Nat) : List (CutF cutplaneref01_byDigit.S.R) := [⟨cutplaneref01_byDigit.vl0, cutplaneref01_byDigit.l0 k⟩]
mutual
def cutplaneref01_Add.l0 : Nat → List Int → List Int → List Int → Int → Int → Option (List Int)
  | 0, _, _, _, _, _ => none
  | k + 1, x0, x1, x5, x6, x7 => if x7 < (x0.length : Int) then (if x7 < (x0.length : Int) then (if 0 ≤ x7 then (if x7 < (x0.length : Int) then (cutplaneref01_Add.j2 k x0 x1 x5 (IntKind.u64.wrap (x6 + (IntKind.u64.wrap (rd x0 x7)))) x7) else (none)) else (none)) else (cutplaneref01_Add.j2 k x0 x1 x5 x6 x7)) else (if x7 < (x1.length : Int) then (if x7 < (x0.length : Int) then (if 0 ≤ x7 then (if x7 < (x0.length : Int) then (cutplaneref01_Add.j2 k x0 x1 x5 (IntKind.u64.wrap (x6 + (IntKind.u64.wrap (rd x0 x7)))) x7) else (none)) else (none)) else (cutplaneref01_Add.j2 k x0 x1 x5 x6 x7)) else (if x5.length + ([x6 % 4294967296] : List Int).length < 35184372088832 then ((cutplaneref01_Trim.f k (x5 ++ ([x6 % 4294967296] : List Int))).bind fun t722 => (some t722)) else (none)))
def cutplaneref01_Add.j2 : Nat → List Int → List Int → List Int → Int → Int → Option (List Int)
  | 0, _, _, _, _, _ => none
  | k + 1, x0, x1, x5, x6, x7 => if x7 < (x1.length : Int) then (if 0 ≤ x7 then (if x7 < (x1.length : Int) then (cutplaneref01_Add.j3 k x0 x1 x5 (IntKind.u64.wrap (x6 + (IntKind.u64.wrap (rd x1 x7)))) x7) else (none)) else (none)) else (cutplaneref01_Add.j3 k x0 x1 x5 x6 x7)
def cutplaneref01_Add.j3 : Nat → List Int → List Int → List Int → Int → Int → Option (List Int)
  | 0, _, _, _, _, _ => none
  | k + 1, x0, x1, x5, x6, x7 => if x5.length + ([x6 % 4294967296] : List Int).length < 35184372088832 then (cutplaneref01_Add.l0 k x0 x1 (x5 ++ ([x6 % 4294967296] : List Int)) (x6 / 4294967296) (wrap64 (x7 + 1))) else (none)
end
def cutplaneref01_Add.f (k : Nat) (x0 : List Int) (x1 : List Int) : Option (List Int) := cutplaneref01_Add.l0 k x0 x1 ([] : List Int) 0 0
abbrev cutplaneref01_Add.S : Sig := { ps := [.lf (.is .u32), .lf (.is .u32)], rs := [.lf (.is .u32)], wb := [], R := List Int, mkR := fun y0 => some y0, un := fun r => [.ints .u32 r] }
def cutplaneref01_Add.F (k : Nat) : Fun := { S := cutplaneref01_Add.S, f := cutplaneref01_Add.f k }
abbrev cutplaneref01_Add.vl0 : List (Nat × Kx) := [(0, .lf (.is .u32)), (1, .lf (.is .u32)), (5, .ow .u32), (6, .lf (.i .u64)), (7, .lf (.i .i64))]
abbrev cutplaneref01_Add.vj2 : List (Nat × Kx) := [(0, .lf (.is .u32)), (1, .lf (.is .u32)), (5, .ow .u32), (6, .lf (.i .u64)), (7, .lf (.i .i64))]
abbrev cutplaneref01_Add.vj3 : List (Nat × Kx) := [(0, .lf (.is .u32)), (1, .lf (.is .u32)), (5, .ow .u32), (6, .lf (.i .u64)), (7, .lf (.i .i64))]
def cutplaneref01_Add.C (k : Nat) : Cfg := { T := TT, G := lookG [(113, [cutplaneref01_Trim.F k, cutplaneref01_Trim.F1 k])], nt := 55, cuts := [⟨codeOf [true, true, true, false, true, false] 1, [true, true, true, false, true, false], cutplaneref01_Add.vl0⟩, ⟨codeOf [true, true, true, false, true, false, false, true, false, false, true] 1, [true, true, true, false, true, false, false, true, false, false, true], cutplaneref01_Add.vj2⟩, ⟨codeOf [true, true, true, false, true, false, false, true, false, false, true, true] 1, [true, true, true, false, true, false, false, true, false, false, true, true], cutplaneref01_Add.vj3⟩], M0 := tabM }
def cutplaneref01_Add.H (k : Nat) : List (CutF cutplaneref01_Add.S.R) := [⟨cutplaneref01_Add.vl0, cutplaneref01_Add.l0 k⟩, ⟨cutplaneref01_Add.vj2, cutplaneref01_Add.j2 k⟩, ⟨cutplaneref01_Add.vj3, cutplaneref01_Add.j3 k⟩]
def cutplaneref01_Cmp.l0 : Nat → List Int → List Int → Int → Option (Int)
  | 0, _, _, _ => none
  | k + 1, x0, x1, x5 => if x5 ≥ 0 then (if 0 ≤ x5 then (if x5 < (x0.length : Int) then (if 0 ≤ x5 then (if x5 < (x1.length : Int) then (if (rd x0 x5) < (rd x1 x5) then (some (-1)) else (if 0 ≤ x5 then (if x5 < (x0.length : Int) then (if 0 ≤ x5 then (if x5 < (x1.length : Int) then (if (rd x0 x5) > (rd x1 x5) then (some 1) else (cutplaneref01_Cmp.l0 k x0 x1 (wrap64 (x5 - 1)))) else (none)) else (none)) else (none)) else (none))) else (none)) else (none)) else (none)) else (none)) else (some 0)
def cutplaneref01_Cmp.f (k : Nat) (x0 : List Int) (x1 : List Int) : Option (Int) := if ¬ ((x0.length : Int) = (x1.length : Int)) then (if (x0.length : Int) < (x1.length : Int) then (some (-1)) else (some 1)) else (cutplaneref01_Cmp.l0 k x0 x1 (wrap64 ((x0.length : Int) - 1)))
abbrev cutplaneref01_Cmp.S : Sig := { ps := [.lf (.is .u32), .lf (.is .u32)], rs := [.lf (.i .i64)], wb := [], R := Int, mkR := fun y0 => some y0, un := fun r => [.int .i64 r] }
def cutplaneref01_Cmp.F (k : Nat) : Fun := { S := cutplaneref01_Cmp.S, f := cutplaneref01_Cmp.f k }
abbrev cutplaneref01_Cmp.vl0 : List (Nat × Kx) := [(0, .lf (.is .u32)), (1, .lf (.is .u32)), (5, .lf (.i .i64))]
def cutplaneref01_Cmp.C (k : Nat) : Cfg := { T := TT, G := lookG [], nt := 41, cuts := [⟨codeOf [true, true, false, true, false] 1, [true, true, false, true, false], cutplaneref01_Cmp.vl0⟩], M0 := tabM }
def cutplaneref01_Cmp.H (k : Nat) : List (CutF cutplaneref01_Cmp.S.R) := [⟨cutplaneref01_Cmp.vl0, cutplaneref01_Cmp.l0 k⟩]
mutual
def cutplaneref01_Sub.l0 : Nat → List Int → List Int → List Int → Int → Int → Option (List Int)
  | 0, _, _, _, _, _ => none
  | k + 1, x0, x1, x5, x6, x7 => if x7 < (x0.length : Int) then (if x7 < (x1.length : Int) then (if 0 ≤ x7 then (if x7 < (x1.length : Int) then (cutplaneref01_Sub.j1 k x0 x1 x5 x7 (IntKind.u64.wrap (x6 + (IntKind.u64.wrap (rd x1 x7))))) else (none)) else (none)) else (cutplaneref01_Sub.j1 k x0 x1 x5 x7 x6)) else ((cutplaneref01_Trim.f k x5).bind fun t727 => (some t727))
def cutplaneref01_Sub.j1 : Nat → List Int → List Int → List Int → Int → Int → Option (List Int)
  | 0, _, _, _, _, _ => none
  | k + 1, x0, x1, x5, x7, x8 => if 0 ≤ x7 then (if x7 < (x0.length : Int) then (if (IntKind.u64.wrap (rd x0 x7)) < x8 then (cutplaneref01_Sub.j2 k x0 x1 x5 1 x7 x8 (IntKind.u64.wrap ((IntKind.u64.wrap (rd x0 x7)) + 4294967296))) else (cutplaneref01_Sub.j2 k x0 x1 x5 0 x7 x8 (IntKind.u64.wrap (rd x0 x7)))) else (none)) else (none)
def cutplaneref01_Sub.j2 : Nat → List Int → List Int → List Int → Int → Int → Int → Int → Option (List Int)
  | 0, _, _, _, _, _, _, _ => none
  | k + 1, x0, x1, x5, x6, x7, x8, x9 => if x5.length + ([(IntKind.u64.wrap (x9 - x8)) % 4294967296] : List Int).length < 35184372088832 then (cutplaneref01_Sub.l0 k x0 x1 (x5 ++ ([(IntKind.u64.wrap (x9 - x8)) % 4294967296] : List Int)) x6 (wrap64 (x7 + 1))) else (none)
end
def cutplaneref01_Sub.f (k : Nat) (x0 : List Int) (x1 : List Int) : Option (List Int) := cutplaneref01_Sub.l0 k x0 x1 ([] : List Int) 0 0
abbrev cutplaneref01_Sub.S : Sig := { ps := [.lf (.is .u32), .lf (.is .u32)], rs := [.lf (.is .u32)], wb := [], R := List Int, mkR := fun y0 => some y0, un := fun r => [.ints .u32 r] }
def cutplaneref01_Sub.F (k : Nat) : Fun := { S := cutplaneref01_Sub.S, f := cutplaneref01_Sub.f k }
abbrev cutplaneref01_Sub.vl0 : List (Nat × Kx) := [(0, .lf (.is .u32)), (1, .lf (.is .u32)), (5, .ow .u32), (6, .lf (.i .u64)), (7, .lf (.i .i64))]
abbrev cutplaneref01_Sub.vj1 : List (Nat × Kx) := [(0, .lf (.is .u32)), (1, .lf (.is .u32)), (5, .ow .u32), (7, .lf (.i .i64)), (8, .lf (.i .u64))]
abbrev cutplaneref01_Sub.vj2 : List (Nat × Kx) := [(0, .lf (.is .u32)), (1, .lf (.is .u32)), (5, .ow .u32), (6, .lf (.i .u64)), (7, .lf (.i .i64)), (8, .lf (.i .u64)), (9, .lf (.i .u64))]
def cutplaneref01_Sub.C (k : Nat) : Cfg := { T := TT, G := lookG [(113, [cutplaneref01_Trim.F k, cutplaneref01_Trim.F1 k])], nt := 47, cuts := [⟨codeOf [true, true, true, false, true, false] 1, [true, true, true, false, true, false], cutplaneref01_Sub.vl0⟩, ⟨codeOf [true, true, true, false, true, false, false, true, false, false, true, true] 1, [true, true, true, false, true, false, false, true, false, false, true, true], cutplaneref01_Sub.vj1⟩, ⟨codeOf [true, true, true, false, true, false, false, true, false, false, true, true, true, true, true] 1, [true, true, true, false, true, false, false, true, false, false, true, true, true, true, true], cutplaneref01_Sub.vj2⟩], M0 := tabM }
def cutplaneref01_Sub.H (k : Nat) : List (CutF cutplaneref01_Sub.S.R) := [⟨cutplaneref01_Sub.vl0, cutplaneref01_Sub.l0 k⟩, ⟨cutplaneref01_Sub.vj1, cutplaneref01_Sub.j1 k⟩, ⟨cutplaneref01_Sub.vj2, cutplaneref01_Sub.j2 k⟩]
mutual
def cutplaneref01_QuoRem.l0 : Nat → List Int → List Int → List Int → List Int → Int → Option (List Int × List Int)
  | 0, _, _, _, _, _ => none
  | k + 1, x0, x1, x6, x8, x10 => if x10 ≥ 0 then ((cutplaneref01_Up.f k x8 1).bind fun t783 => ((cutplaneref01_Bit.f x0 x10).bind fun t784 => (if t784 = 1 then ((cutplaneref01_Add.f k t783 ([1] : List Int)).bind fun t785 => (cutplaneref01_QuoRem.j2 k x0 x1 x6 t785 x10)) else (cutplaneref01_QuoRem.j2 k x0 x1 x6 t783 x10)))) else ((cutplaneref01_Trim.f k x6).bind fun t786 => (some (t786, x8)))
def cutplaneref01_QuoRem.j2 : Nat → List Int → List Int → List Int → List Int → Int → Option (List Int × List Int)
  | 0, _, _, _, _, _ => none
  | k + 1, x0, x1, x6, x8, x10 => (cutplaneref01_Cmp.f k x8 x1).bind fun t781 => (if t781 ≥ 0 then ((cutplaneref01_Sub.f k x8 x1).bind fun t782 => (if 0 ≤ wrap64 (Int.tdiv x10 32) then (if wrap64 (Int.tdiv x10 32) < (x6.length : Int) then (if 0 ≤ (Int.tmod x10 32) then (if 0 ≤ wrap64 (Int.tdiv x10 32) then (if wrap64 (Int.tdiv x10 32) < (x6.length : Int) then (cutplaneref01_QuoRem.l0 k x0 x1 (x6.set (wrap64 (Int.tdiv x10 32) : Int).toNat (Go.bits .or .u32 (rd x6 (wrap64 (Int.tdiv x10 32))) (shl .u32 1 (Int.tmod x10 32)))) t782 (wrap64 (x10 - 1))) else (none)) else (none)) else (none)) else (none)) else (none))) else (cutplaneref01_QuoRem.l0 k x0 x1 x6 x8 (wrap64 (x10 - 1))))
end
def cutplaneref01_QuoRem.f (k : Nat) (x0 : List Int) (x1 : List Int) : Option (List Int × List Int) := if (x1.length : Int) = 1 then (if 0 < (x1.length : Int) then ((cutplaneref01_byDigit.f k x0 (rd x1 0)).bind fun t777 => (some (t777.1, t777.2))) else (none)) else (if 0 ≤ (x0.length : Int) then (if ((x0.length : Int) : Int).toNat ≤ 70368744177664 then ((cutplaneref01_Len.f k x0).bind fun t778 => ((cutplaneref01_Len.f k x1).bind fun t779 => ((cutplaneref01_Down.f k x0 (mx 0 (wrap64 ((wrap64 (t778 - t779)) + 1)))).bind fun t780 => (cutplaneref01_QuoRem.l0 k x0 x1 (List.replicate ((x0.length : Int) : Int).toNat (0 : Int)) t780.1 (wrap64 ((mx 0 (wrap64 ((wrap64 (t778 - t779)) + 1))) - 1)))))) else (none)) else (none))
abbrev cutplaneref01_QuoRem.S : Sig := { ps := [.lf (.is .u32), .lf (.is .u32)], rs := [.lf (.is .u32), .lf (.is .u32)], wb := [], R := List Int × List Int, mkR := fun y0 y1 => some (y0, y1), un := fun r => [.ints .u32 r.1, .ints .u32 r.2] }
def cutplaneref01_QuoRem.F (k : Nat) : Fun := { S := cutplaneref01_QuoRem.S, f := cutplaneref01_QuoRem.f k }
abbrev cutplaneref01_QuoRem.vl0 : List (Nat × Kx) := [(0, .lf (.is .u32)), (1, .lf (.is .u32)), (6, .ow .u32), (8, .lf (.is .u32)), (10, .lf (.i .i64))]
abbrev cutplaneref01_QuoRem.vj2 : List (Nat × Kx) := [(0, .lf (.is .u32)), (1, .lf (.is .u32)), (6, .ow .u32), (8, .lf (.is .u32)), (10, .lf (.i .i64))]
def cutplaneref01_QuoRem.C (k : Nat) : Cfg := { T := TT, G := lookG [(71, [cutplaneref01_Len.F k]), (77, [cutplaneref01_Up.F k]), (112, [cutplaneref01_Down.F k]), (113, [cutplaneref01_Trim.F k, cutplaneref01_Trim.F1 k]), (118, [cutplaneref01_Add.F k]), (119, [cutplaneref01_Cmp.F k]), (120, [cutplaneref01_Sub.F k]), (141, [cutplaneref01_Bit.F k]), (155, [cutplaneref01_byDigit.F k])], nt := 75, cuts := [⟨codeOf [true, true, true, true, true, false, true, false] 1, [true, true, true, true, true, false, true, false], cutplaneref01_QuoRem.vl0⟩, ⟨codeOf [true, true, true, true, true, false, true, false, false, true, false, false, true, true] 1, [true, true, true, true, true, false, true, false, false, true, false, false, true, true], cutplaneref01_QuoRem.vj2⟩], M0 := tabM }
def cutplaneref01_QuoRem.H (k : Nat) : List (CutF cutplaneref01_QuoRem.S.R) := [⟨cutplaneref01_QuoRem.vl0, cutplaneref01_QuoRem.l0 k⟩, ⟨cutplaneref01_QuoRem.vj2, cutplaneref01_QuoRem.j2 k⟩]
def cutplaneref02_Cut.f (k : Nat) (x0_0 : Bool) (x0_1 : List Int) (x0_2 : Int) (x1 : Int) : Option (Bool × List Int × Int × Bool) := (cutplaneref01_Len.f k x0_1).bind fun t793 => (if (wrap64 (t793 - x1)) ≤ 0 then (some (x0_0, x0_1, x0_2, false)) else ((cutplaneref01_Down.f k x0_1 (wrap64 (t793 - x1))).bind fun t794 => ((cutplaneref02_Form.f k x0_0 t794.1 (wrap64 (x0_2 + (wrap64 (t793 - x1))))).bind fun t795 => (some (t795.1, t795.2.1, t795.2.2, t794.2)))))
abbrev cutplaneref02_Cut.S : Sig := { ps := [.ag [.b, .is .u32, .i .i64], .lf (.i .i64)], rs := [.ag [.b, .is .u32, .i .i64], .lf (.b)], wb := [], R := Bool × List Int × Int × Bool, mkR := fun y0 y1 y2 y3 => some (y0, y1, y2, y3), un := fun r => [.bool r.1, .ints .u32 r.2.1, .int .i64 r.2.2.1, .bool r.2.2.2] }
def cutplaneref02_Cut.F (k : Nat) : Fun := { S := cutplaneref02_Cut.S, f := cutplaneref02_Cut.f k }
def cutplaneref02_Cut.C (k : Nat) : Cfg := { T := TT, G := lookG [(65, [cutplaneref02_Form.F k]), (71, [cutplaneref01_Len.F k]), (112, [cutplaneref01_Down.F k])], nt := 33, cuts := [], M0 := tabM }
def cutplaneref02_Cut.H (k : Nat) : List (CutF cutplaneref02_Cut.S.R) := []
def cutplaneref02_Quo.j1 : Nat → Int → Bool → List Int → Int → Bool → List Int → Int → Bool → List Int → Int → Int → Option (Bool × List Int × Int × Bool)
  | 0, _, _, _, _, _, _, _, _, _, _, _ => none
  | k + 1, x2, x3_0, x3_1, x3_2, x4_0, x4_1, x4_2, x6_0, x6_1, x6_2, x8 => (cutplaneref01_Up.f k x3_1 x8).bind fun t821 => ((cutplaneref01_QuoRem.f k t821 x4_1).bind fun t822 => ((cutplaneref02_Form.f k (decide (¬ ((x3_0) = (x4_0)))) t822.1 (wrap64 ((wrap64 (x3_2 - x4_2)) - x8))).bind fun t823 => ((cutplaneref02_Cut.f k t823.1 t823.2.1 t823.2.2 x2).bind fun t824 => (if t824.2.2.2 = true then (some (t824.1, t824.2.1, t824.2.2.1, true)) else (some (t824.1, t824.2.1, t824.2.2.1, decide ((t822.2.length : Int) > 0)))))))
def cutplaneref02_Quo.f (k : Nat) (x0_0 : Bool) (x0_1 : List Int) (x0_2 : Int) (x1_0 : Bool) (x1_1 : List Int) (x1_2 : Int) (x2 : Int) : Option (Bool × List Int × Int × Bool) := if (x0_1.length : Int) = 0 then (some (false, ([] : List Int), 0, false)) else ((cutplaneref01_Len.f k x1_1).bind fun t819 => ((cutplaneref01_Len.f k x0_1).bind fun t820 => (if (wrap64 ((wrap64 ((wrap64 (x2 + 1)) + t819)) - t820)) < 0 then (cutplaneref02_Quo.j1 k x2 x0_0 x0_1 x0_2 x1_0 x1_1 x1_2 false ([] : List Int) 0 0) else (cutplaneref02_Quo.j1 k x2 x0_0 x0_1 x0_2 x1_0 x1_1 x1_2 false ([] : List Int) 0 (wrap64 ((wrap64 ((wrap64 (x2 + 1)) + t819)) - t820))))))
abbrev cutplaneref02_Quo.S : Sig := { ps := [.ag [.b, .is .u32, .i .i64], .ag [.b, .is .u32, .i .i64], .lf (.i .i64)], rs := [.ag [.b, .is .u32, .i .i64], .lf (.b)], wb := [], R := Bool × List Int × Int × Bool, mkR := fun y0 y1 y2 y3 => some (y0, y1, y2, y3), un := fun r => [.bool r.1, .ints .u32 r.2.1, .int .i64 r.2.2.1, .bool r.2.2.2] }
def cutplaneref02_Quo.F (k : Nat) : Fun := { S := cutplaneref02_Quo.S, f := cutplaneref02_Quo.f k }
abbrev cutplaneref02_Quo.vj1 : List (Nat × Kx) := [(2, .lf (.i .i64)), (3, .bx [.b, .is .u32, .i .i64]), (4, .bx [.b, .is .u32, .i .i64]), (6, .bx [.b, .is .u32, .i .i64]), (8, .lf (.i .i64))]
def cutplaneref02_Quo.C (k : Nat) : Cfg := { T := TT, G := lookG [(65, [cutplaneref02_Form.F k]), (71, [cutplaneref01_Len.F k]), (77, [cutplaneref01_Up.F k]), (138, [cutplaneref01_QuoRem.F k]), (139, [cutplaneref02_Cut.F k])], nt := 66, cuts := [⟨codeOf [true, true, true, true] 1, [true, true, true, true], cutplaneref02_Quo.vj1⟩], M0 := tabM }
def cutplaneref02_Quo.H (k : Nat) : List (CutF cutplaneref02_Quo.S.R) := [⟨cutplaneref02_Quo.vj1, cutplaneref02_Quo.j1 k⟩]
def cutplaneref02_Two.f (x0 : Int) : Option (Bool × List Int × Int) := some (false, ([1] : List Int), x0)
abbrev cutplaneref02_Two.S : Sig := { ps := [.lf (.i .i64)], rs := [.ag [.b, .is .u32, .i .i64]], wb := [], R := Bool × List Int × Int, mkR := fun y0 y1 y2 => some (y0, y1, y2), un := fun r => [.bool r.1, .ints .u32 r.2.1, .int .i64 r.2.2] }
def cutplaneref02_Two.F (k : Nat) : Fun := { S := cutplaneref02_Two.S, f := cutplaneref02_Two.f }
def cutplaneref02_Two.C (k : Nat) : Cfg := { T := TT, G := lookG [], nt := 6, cuts := [], M0 := tabM }
def cutplaneref02_Two.H (k : Nat) : List (CutF cutplaneref02_Two.S.R) := []
def cutplaneref02_Neg.f (x0_0 : Bool) (x0_1 : List Int) (x0_2 : Int) : Option (Bool × List Int × Int) := if (x0_1.length : Int) > 0 then (some ((!x0_0), x0_1, x0_2)) else (some (x0_0, x0_1, x0_2))
abbrev cutplaneref02_Neg.S : Sig := { ps := [.ag [.b, .is .u32, .i .i64]], rs := [.ag [.b, .is .u32, .i .i64]], wb := [], R := Bool × List Int × Int, mkR := fun y0 y1 y2 => some (y0, y1, y2), un := fun r => [.bool r.1, .ints .u32 r.2.1, .int .i64 r.2.2] }
def cutplaneref02_Neg.F (k : Nat) : Fun := { S := cutplaneref02_Neg.S, f := cutplaneref02_Neg.f }
def cutplaneref02_Neg.C (k : Nat) : Cfg := { T := TT, G := lookG [], nt := 12, cuts := [], M0 := tabM }
def cutplaneref02_Neg.H (k : Nat) : List (CutF cutplaneref02_Neg.S.R) := []
def cutplaneref02_Add.j2 : Nat → Bool → List Int → Int → Bool → List Int → Int → Bool → List Int → Int → Int → Option (Bool × List Int × Int)
  | 0, _, _, _, _, _, _, _, _, _, _ => none
  | k + 1, x2_0, x2_1, x2_2, x3_0, x3_1, x3_2, x4_0, x4_1, x4_2, x5 => (cutplaneref01_Up.f k x2_1 (wrap64 (x2_2 - x5))).bind fun t845 => ((cutplaneref01_Up.f k x3_1 (wrap64 (x3_2 - x5))).bind fun t846 => (if (x2_0) = (x3_0) then ((cutplaneref01_Add.f k t845 t846).bind fun t847 => ((cutplaneref02_Form.f k x2_0 t847 x5).bind fun t848 => (some (t848.1, t848.2.1, t848.2.2)))) else ((cutplaneref01_Cmp.f k t845 t846).bind fun t849 => (if t849 ≥ 0 then ((cutplaneref01_Sub.f k t845 t846).bind fun t850 => ((cutplaneref02_Form.f k x2_0 t850 x5).bind fun t851 => (some (t851.1, t851.2.1, t851.2.2)))) else ((cutplaneref01_Sub.f k t846 t845).bind fun t852 => ((cutplaneref02_Form.f k x3_0 t852 x5).bind fun t853 => (some (t853.1, t853.2.1, t853.2.2))))))))
def cutplaneref02_Add.f (k : Nat) (x0_0 : Bool) (x0_1 : List Int) (x0_2 : Int) (x1_0 : Bool) (x1_1 : List Int) (x1_2 : Int) : Option (Bool × List Int × Int) := if (x0_1.length : Int) = 0 then (some (x1_0, x1_1, x1_2)) else (if (x1_1.length : Int) = 0 then (some (x0_0, x0_1, x0_2)) else (if x1_2 < x0_2 then (cutplaneref02_Add.j2 k x0_0 x0_1 x0_2 x1_0 x1_1 x1_2 false ([] : List Int) 0 x1_2) else (cutplaneref02_Add.j2 k x0_0 x0_1 x0_2 x1_0 x1_1 x1_2 false ([] : List Int) 0 x0_2)))
abbrev cutplaneref02_Add.S : Sig := { ps := [.ag [.b, .is .u32, .i .i64], .ag [.b, .is .u32, .i .i64]], rs := [.ag [.b, .is .u32, .i .i64]], wb := [], R := Bool × List Int × Int, mkR := fun y0 y1 y2 => some (y0, y1, y2), un := fun r => [.bool r.1, .ints .u32 r.2.1, .int .i64 r.2.2] }
def cutplaneref02_Add.F (k : Nat) : Fun := { S := cutplaneref02_Add.S, f := cutplaneref02_Add.f k }
abbrev cutplaneref02_Add.vj2 : List (Nat × Kx) := [(2, .bx [.b, .is .u32, .i .i64]), (3, .bx [.b, .is .u32, .i .i64]), (4, .bx [.b, .is .u32, .i .i64]), (5, .lf (.i .i64))]
def cutplaneref02_Add.C (k : Nat) : Cfg := { T := TT, G := lookG [(65, [cutplaneref02_Form.F k]), (77, [cutplaneref01_Up.F k]), (118, [cutplaneref01_Add.F k]), (119, [cutplaneref01_Cmp.F k]), (120, [cutplaneref01_Sub.F k])], nt := 70, cuts := [⟨codeOf [true, true, true, true, true] 1, [true, true, true, true, true], cutplaneref02_Add.vj2⟩], M0 := tabM }
def cutplaneref02_Add.H (k : Nat) : List (CutF cutplaneref02_Add.S.R) := [⟨cutplaneref02_Add.vj2, cutplaneref02_Add.j2 k⟩]
def cutplaneref02_Shift.f (x0_0 : Bool) (x0_1 : List Int) (x0_2 : Int) (x1 : Int) : Option (Bool × List Int × Int) := if (x0_1.length : Int) > 0 then (some (x0_0, x0_1, wrap64 (x0_2 + x1))) else (some (x0_0, x0_1, x0_2))
abbrev cutplaneref02_Shift.S : Sig := { ps := [.ag [.b, .is .u32, .i .i64], .lf (.i .i64)], rs := [.ag [.b, .is .u32, .i .i64]], wb := [], R := Bool × List Int × Int, mkR := fun y0 y1 y2 => some (y0, y1, y2), un := fun r => [.bool r.1, .ints .u32 r.2.1, .int .i64 r.2.2] }
def cutplaneref02_Shift.F (k : Nat) : Fun := { S := cutplaneref02_Shift.S, f := cutplaneref02_Shift.f }
def cutplaneref02_Shift.C (k : Nat) : Cfg := { T := TT, G := lookG [], nt := 15, cuts := [], M0 := tabM }
def cutplaneref02_Shift.H (k : Nat) : List (CutF cutplaneref02_Shift.S.R) := []
def cutplaneref02_Floor.f (k : Nat) (x0_0 : Bool) (x0_1 : List Int) (x0_2 : Int) : Option (Bool × List Int × Int) := if x0_2 ≥ 0 then (some (x0_0, x0_1, x0_2)) else ((cutplaneref01_Down.f k x0_1 (wrap64 (-x0_2))).bind fun t870 => (if x0_0 = true then (if t870.2 = true then ((cutplaneref01_Add.f k t870.1 ([1] : List Int)).bind fun t871 => ((cutplaneref02_Form.f k x0_0 t871 0).bind fun t872 => (some (t872.1, t872.2.1, t872.2.2)))) else ((cutplaneref02_Form.f k x0_0 t870.1 0).bind fun t873 => (some (t873.1, t873.2.1, t873.2.2)))) else ((cutplaneref02_Form.f k x0_0 t870.1 0).bind fun t874 => (some (t874.1, t874.2.1, t874.2.2)))))
abbrev cutplaneref02_Floor.S : Sig := { ps := [.ag [.b, .is .u32, .i .i64]], rs := [.ag [.b, .is .u32, .i .i64]], wb := [], R := Bool × List Int × Int, mkR := fun y0 y1 y2 => some (y0, y1, y2), un := fun r => [.bool r.1, .ints .u32 r.2.1, .int .i64 r.2.2] }
def cutplaneref02_Floor.F (k : Nat) : Fun := { S := cutplaneref02_Floor.S, f := cutplaneref02_Floor.f k }
def cutplaneref02_Floor.C (k : Nat) : Cfg := { T := TT, G := lookG [(65, [cutplaneref02_Form.F k]), (112, [cutplaneref01_Down.F k]), (118, [cutplaneref01_Add.F k])], nt := 30, cuts := [], M0 := tabM }
def cutplaneref02_Floor.H (k : Nat) : List (CutF cutplaneref02_Floor.S.R) := []
def cutplaneref01_Same.l0 : Nat → List Int → List Int → Int → Option (Bool)
  | 0, _, _, _ => none
  | k + 1, x0, x1, x5 => if x5 < (x0.length : Int) then (if 0 ≤ x5 then (if x5 < (x0.length : Int) then (if 0 ≤ x5 then (if x5 < (x1.length : Int) then (if ¬ (rd x0 x5 = rd x1 x5) then (some false) else (cutplaneref01_Same.l0 k x0 x1 (wrap64 (x5 + 1)))) else (none)) else (none)) else (none)) else (none)) else (some true)
def cutplaneref01_Same.f (k : Nat) (x0 : List Int) (x1 : List Int) : Option (Bool) := if ¬ ((x0.length : Int) = (x1.length : Int)) then (some false) else (cutplaneref01_Same.l0 k x0 x1 0)
abbrev cutplaneref01_Same.S : Sig := { ps := [.lf (.is .u32), .lf (.is .u32)], rs := [.lf (.b)], wb := [], R := Bool, mkR := fun y0 => some y0, un := fun r => [.bool r] }
def cutplaneref01_Same.F (k : Nat) : Fun := { S := cutplaneref01_Same.S, f := cutplaneref01_Same.f k }
abbrev cutplaneref01_Same.vl0 : List (Nat × Kx) := [(0, .lf (.is .u32)), (1, .lf (.is .u32)), (5, .lf (.i .i64))]
def cutplaneref01_Same.C (k : Nat) : Cfg := { T := TT, G := lookG [], nt := 26, cuts := [⟨codeOf [true, true, false, true, false] 1, [true, true, false, true, false], cutplaneref01_Same.vl0⟩], M0 := tabM }
def cutplaneref01_Same.H (k : Nat) : List (CutF cutplaneref01_Same.S.R) := [⟨cutplaneref01_Same.vl0, cutplaneref01_Same.l0 k⟩]
def cutplaneref02_Same.f (k : Nat) (x0_0 : Bool) (x0_1 : List Int) (x0_2 : Int) (x1_0 : Bool) (x1_1 : List Int) (x1_2 : Int) : Option (Bool) := if (x0_0) = (x1_0) then (if x0_2 = x1_2 then ((cutplaneref01_Same.f k x0_1 x1_1).bind fun t879 => (some t879)) else (some false)) else (some false)
abbrev cutplaneref02_Same.S : Sig := { ps := [.ag [.b, .is .u32, .i .i64], .ag [.b, .is .u32, .i .i64]], rs := [.lf (.b)], wb := [], R := Bool, mkR := fun y0 => some y0, un := fun r => [.bool r] }
def cutplaneref02_Same.F (k : Nat) : Fun := { S := cutplaneref02_Same.S, f := cutplaneref02_Same.f k }
def cutplaneref02_Same.C (k : Nat) : Cfg := { T := TT, G := lookG [(72, [cutplaneref01_Same.F k])], nt := 24, cuts := [], M0 := tabM }
def cutplaneref02_Same.H (k : Nat) : List (CutF cutplaneref02_Same.S.R) := []
def cutplaneref02_Sub.f (k : Nat) (x0_0 : Bool) (x0_1 : List Int) (x0_2 : Int) (x1_0 : Bool) (x1_1 : List Int) (x1_2 : Int) : Option (Bool × List Int × Int) := (cutplaneref02_Neg.f x1_0 x1_1 x1_2).bind fun t903 => ((cutplaneref02_Add.f k x0_0 x0_1 x0_2 t903.1 t903.2.1 t903.2.2).bind fun t904 => (some (t904.1, t904.2.1, t904.2.2)))
abbrev cutplaneref02_Sub.S : Sig := { ps := [.ag [.b, .is .u32, .i .i64], .ag [.b, .is .u32, .i .i64]], rs := [.ag [.b, .is .u32, .i .i64]], wb := [], R := Bool × List Int × Int, mkR := fun y0 y1 y2 => some (y0, y1, y2), un := fun r => [.bool r.1, .ints .u32 r.2.1, .int .i64 r.2.2] }
def cutplaneref02_Sub.F (k : Nat) : Fun := { S := cutplaneref02_Sub.S, f := cutplaneref02_Sub.f k }
def cutplaneref02_Sub.C (k : Nat) : Cfg := { T := TT, G := lookG [(75, [cutplaneref02_Add.F k]), (76, [cutplaneref02_Neg.F k])], nt := 9, cuts := [], M0 := tabM }
def cutplaneref02_Sub.H (k : Nat) : List (CutF cutplaneref02_Sub.S.R) := []
def cutplaneref02_Cmp.f (k : Nat) (x0_0 : Bool) (x0_1 : List Int) (x0_2 : Int) (x1_0 : Bool) (x1_1 : List Int) (x1_2 : Int) : Option (Int) := (cutplaneref02_Sign.f x0_0 x0_1 x0_2).bind fun t933 => ((cutplaneref02_Sign.f x1_0 x1_1 x1_2).bind fun t934 => (if ¬ (t933 = t934) then (if t933 < t934 then (some (-1)) else (some 1)) else (if t933 = 0 then (some 0) else ((cutplaneref02_Top.f k x0_0 x0_1 x0_2).bind fun t935 => ((cutplaneref02_Top.f k x1_0 x1_1 x1_2).bind fun t936 => (if ¬ (t935 = t936) then ((cutplaneref02_Top.f k x0_0 x0_1 x0_2).bind fun t937 => ((cutplaneref02_Top.f k x1_0 x1_1 x1_2).bind fun t938 => (if (decide (t937 < t938)) = (decide (t933 > 0)) then (some (-1)) else (some 1)))) else ((cutplaneref02_Sub.f k x0_0 x0_1 x0_2 x1_0 x1_1 x1_2).bind fun t939 => ((cutplaneref02_Sign.f t939.1 t939.2.1 t939.2.2).bind fun t940 => (some t940)))))))))
abbrev cutplaneref02_Cmp.S : Sig := { ps := [.ag [.b, .is .u32, .i .i64], .ag [.b, .is .u32, .i .i64]], rs := [.lf (.i .i64)], wb := [], R := Int, mkR := fun y0 => some y0, un := fun r => [.int .i64 r] }
def cutplaneref02_Cmp.F (k : Nat) : Fun := { S := cutplaneref02_Cmp.S, f := cutplaneref02_Cmp.f k }
def cutplaneref02_Cmp.C (k : Nat) : Cfg := { T := TT, G := lookG [(26, [cutplaneref02_Top.F k]), (33, [cutplaneref02_Sub.F k]), (36, [cutplaneref02_Sign.F k])], nt := 36, cuts := [], M0 := tabM }
def cutplaneref02_Cmp.H (k : Nat) : List (CutF cutplaneref02_Cmp.S.R) := []
def cutplaneref04_half.f (x0_0 : Bool) (x0_1 : List Int) (x0_2 : Int) : Option (Bool × List Int × Int) := (cutplaneref02_Shift.f x0_0 x0_1 x0_2 (-1)).bind fun t955 => (some (t955.1, t955.2.1, t955.2.2))
abbrev cutplaneref04_half.S : Sig := { ps := [.ag [.b, .is .u32, .i .i64]], rs := [.ag [.b, .is .u32, .i .i64]], wb := [], R := Bool × List Int × Int, mkR := fun y0 y1 y2 => some (y0, y1, y2), un := fun r => [.bool r.1, .ints .u32 r.2.1, .int .i64 r.2.2] }
def cutplaneref04_half.F (k : Nat) : Fun := { S := cutplaneref04_half.S, f := cutplaneref04_half.f }
def cutplaneref04_half.C (k : Nat) : Cfg := { T := TT, G := lookG [(63, [cutplaneref02_Shift.F k])], nt := 5, cuts := [], M0 := tabM }
def cutplaneref04_half.H (k : Nat) : List (CutF cutplaneref04_half.S.R) := []
def cutplaneref04_Taken.j1 : Nat → Int → Int → Bool → List Int → Int → Bool → List Int → Int → Bool → List Int → Int → Bool → List Int → Int → Bool → List Int → Int → Bool → List Int → Int → Option (Bool × List Int × Int)
  | 0, _, _, _, _, _, _, _, _, _, _, _, _, _, _, _, _, _, _, _, _ => none
  | k + 1, x0, x2, x4_0, x4_1, x4_2, x6_0, x6_1, x6_2, x7_0, x7_1, x7_2, x8_0, x8_1, x8_2, x9_0, x9_1, x9_2, x10_0, x10_1, x10_2 => if x0 = 5 then (some (x7_0, x7_1, x7_2)) else (if x0 = 4 then (some (x8_0, x8_1, x8_2)) else (if x0 = 3 then (some (x10_0, x10_1, x10_2)) else ((cutplaneref02_Sub.f k x4_0 x4_1 x4_2 x7_0 x7_1 x7_2).bind fun t986 => ((cutplaneref02_Sub.f k x8_0 x8_1 x8_2 x4_0 x4_1 x4_2).bind fun t987 => ((cutplaneref02_Cmp.f k t986.1 t986.2.1 t986.2.2 t987.1 t987.2.1 t987.2.2).bind fun t988 => (if t988 < 0 then (some (x7_0, x7_1, x7_2)) else (if t988 > 0 then (some (x8_0, x8_1, x8_2)) else (if x0 = 2 then (some (x9_0, x9_1, x9_2)) else ((cutplaneref02_Shift.f x7_0 x7_1 x7_2 (wrap64 (-x2))).bind fun t989 => ((cutplaneref04_half.f t989.1 t989.2.1 t989.2.2).bind fun t990 => ((cutplaneref02_Floor.f k t990.1 t990.2.1 t990.2.2).bind fun t991 => ((cutplaneref04_half.f t989.1 t989.2.1 t989.2.2).bind fun t992 => ((cutplaneref02_Same.f k t991.1 t991.2.1 t991.2.2 t992.1 t992.2.1 t992.2.2).bind fun t993 => (if t993 = true then (some (x7_0, x7_1, x7_2)) else (some (x8_0, x8_1, x8_2))))))))))))))))
def cutplaneref04_Taken.f (k : Nat) (x0 : Int) (x1_0 : Bool) (x1_1 : List Int) (x1_2 : Int) (x2 : Int) : Option (Bool × List Int × Int) := (cutplaneref02_Shift.f x1_0 x1_1 x1_2 (wrap64 (-x2))).bind fun t980 => ((cutplaneref02_Floor.f k t980.1 t980.2.1 t980.2.2).bind fun t981 => ((cutplaneref02_Shift.f t981.1 t981.2.1 t981.2.2 x2).bind fun t982 => ((cutplaneref02_Same.f k t982.1 t982.2.1 t982.2.2 x1_0 x1_1 x1_2).bind fun t983 => (if t983 = true then (some (x1_0, x1_1, x1_2)) else ((cutplaneref02_Two.f x2).bind fun t984 => ((cutplaneref02_Add.f k t982.1 t982.2.1 t982.2.2 t984.1 t984.2.1 t984.2.2).bind fun t985 => (if x1_0 = true then (cutplaneref04_Taken.j1 k x0 x2 x1_0 x1_1 x1_2 false ([] : List Int) 0 t982.1 t982.2.1 t982.2.2 t985.1 t985.2.1 t985.2.2 t982.1 t982.2.1 t982.2.2 t985.1 t985.2.1 t985.2.2) else (cutplaneref04_Taken.j1 k x0 x2 x1_0 x1_1 x1_2 false ([] : List Int) 0 t982.1 t982.2.1 t982.2.2 t985.1 t985.2.1 t985.2.2 t985.1 t985.2.1 t985.2.2 t982.1 t982.2.1 t982.2.2))))))))
abbrev cutplaneref04_Taken.S : Sig := { ps := [.lf (.i .u8), .ag [.b, .is .u32, .i .i64], .lf (.i .i64)], rs := [.ag [.b, .is .u32, .i .i64]], wb := [], R := Bool × List Int × Int, mkR := fun y0 y1 y2 => some (y0, y1, y2), un := fun r => [.bool r.1, .ints .u32 r.2.1, .int .i64 r.2.2] }
def cutplaneref04_Taken.F (k : Nat) : Fun := { S := cutplaneref04_Taken.S, f := cutplaneref04_Taken.f k }
abbrev cutplaneref04_Taken.vj1 : List (Nat × Kx) := [(0, .lf (.i .u8)), (2, .lf (.i .i64)), (4, .bx [.b, .is .u32, .i .i64]), (6, .bx [.b, .is .u32, .i .i64]), (7, .bx [.b, .is .u32, .i .i64]), (8, .bx [.b, .is .u32, .i .i64]), (9, .bx [.b, .is .u32, .i .i64]), (10, .bx [.b, .is .u32, .i .i64])]
def cutplaneref04_Taken.C (k : Nat) : Cfg := { T := TT, G := lookG [(28, [cutplaneref02_Same.F k]), (33, [cutplaneref02_Sub.F k]), (34, [cutplaneref02_Two.F k]), (35, [cutplaneref02_Cmp.F k]), (63, [cutplaneref02_Shift.F k]), (75, [cutplaneref02_Add.F k]), (127, [cutplaneref02_Floor.F k]), (128, [cutplaneref04_half.F k])], nt := 71, cuts := [⟨codeOf [true, true, true, true, true, true] 1, [true, true, true, true, true, true], cutplaneref04_Taken.vj1⟩], M0 := tabM }
def cutplaneref04_Taken.H (k : Nat) : List (CutF cutplaneref04_Taken.S.R) := [⟨cutplaneref04_Taken.vj1, cutplaneref04_Taken.j1 k⟩]
def cutplaneref06_Whole.f (k : Nat) (x0 : Int) (x1_0 : Bool) (x1_1 : List Int) (x1_2 : Int) : Option (Bool × List Int × Int) := (cutplaneref02_Sign.f x1_0 x1_1 x1_2).bind fun t995 => (if t995 = 0 then (some (x1_0, x1_1, x1_2)) else ((cutplaneref04_Taken.f k x0 x1_0 x1_1 x1_2 0).bind fun t996 => (some (t996.1, t996.2.1, t996.2.2))))
abbrev cutplaneref06_Whole.S : Sig := { ps := [.lf (.i .u8), .ag [.b, .is .u32, .i .i64]], rs := [.ag [.b, .is .u32, .i .i64]], wb := [], R := Bool × List Int × Int, mkR := fun y0 y1 y2 => some (y0, y1, y2), un := fun r => [.bool r.1, .ints .u32 r.2.1, .int .i64 r.2.2] }
def cutplaneref06_Whole.F (k : Nat) : Fun := { S := cutplaneref06_Whole.S, f := cutplaneref06_Whole.f k }
def cutplaneref06_Whole.C (k : Nat) : Cfg := { T := TT, G := lookG [(36, [cutplaneref02_Sign.F k]), (94, [cutplaneref04_Taken.F k])], nt := 12, cuts := [], M0 := tabM }
def cutplaneref06_Whole.H (k : Nat) : List (CutF cutplaneref06_Whole.S.R) := []
def cutplaneref06_nearest.f (k : Nat) (x0_0 : Bool) (x0_1 : List Int) (x0_2 : Int) (x1_0 : Bool) (x1_1 : List Int) (x1_2 : Int) : Option (Bool × List Int × Int) := (cutplaneref02_Sign.f x0_0 x0_1 x0_2).bind fun t1024 => (if t1024 = 0 then (some (x0_0, x0_1, x0_2)) else ((cutplaneref02_Top.f k x0_0 x0_1 x0_2).bind fun t1025 => ((cutplaneref02_Top.f k x1_0 x1_1 x1_2).bind fun t1026 => (if (wrap64 ((wrap64 (t1025 - t1026)) + 3)) < 2 then (some (false, ([] : List Int), 0)) else ((cutplaneref02_Quo.f k x0_0 x0_1 x0_2 x1_0 x1_1 x1_2 (wrap64 ((wrap64 (t1025 - t1026)) + 3))).bind fun t1027 => (if t1027.2.2.2 = true then ((cutplaneref02_Two.f (-9)).bind fun t1028 => (if t1027.1 = true then ((cutplaneref02_Neg.f t1028.1 t1028.2.1 t1028.2.2).bind fun t1029 => ((cutplaneref02_Add.f k t1027.1 t1027.2.1 t1027.2.2.1 t1029.1 t1029.2.1 t1029.2.2).bind fun t1030 => ((cutplaneref06_Whole.f k 1 t1030.1 t1030.2.1 t1030.2.2).bind fun t1031 => (some (t1031.1, t1031.2.1, t1031.2.2))))) else ((cutplaneref02_Add.f k t1027.1 t1027.2.1 t1027.2.2.1 t1028.1 t1028.2.1 t1028.2.2).bind fun t1032 => ((cutplaneref06_Whole.f k 1 t1032.1 t1032.2.1 t1032.2.2).bind fun t1033 => (some (t1033.1, t1033.2.1, t1033.2.2)))))) else ((cutplaneref06_Whole.f k 1 t1027.1 t1027.2.1 t1027.2.2.1).bind fun t1034 => (some (t1034.1, t1034.2.1, t1034.2.2)))))))))
abbrev cutplaneref06_nearest.S : Sig := { ps := [.ag [.b, .is .u32, .i .i64], .ag [.b, .is .u32, .i .i64]], rs := [.ag [.b, .is .u32, .i .i64]], wb := [], R := Bool × List Int × Int, mkR := fun y0 y1 y2 => some (y0, y1, y2), un := fun r => [.bool r.1, .ints .u32 r.2.1, .int .i64 r.2.2] }
def cutplaneref06_nearest.F (k : Nat) : Fun := { S := cutplaneref06_nearest.S, f := cutplaneref06_nearest.f k }
def cutplaneref06_nearest.C (k : Nat) : Cfg := { T := TT, G := lookG [(26, [cutplaneref02_Top.F k]), (34, [cutplaneref02_Two.F k]), (36, [cutplaneref02_Sign.F k]), (75, [cutplaneref02_Add.F k]), (76, [cutplaneref02_Neg.F k]), (78, [cutplaneref06_Whole.F k]), (106, [cutplaneref02_Quo.F k])], nt := 40, cuts := [], M0 := tabM }
def cutplaneref06_nearest.H (k : Nat) : List (CutF cutplaneref06_nearest.S.R) := []
mutual
def cutplaneref01_Mul.l0 : Nat → List Int → List Int → List Int → Int → Int → Int → Option (List Int)
  | 0, _, _, _, _, _, _ => none
  | k + 1, x0, x1, x5, x6, x7, x8 => if x8 < (wrap64 ((x0.length : Int) + (x1.length : Int))) then (if x8 ≥ (x1.length : Int) then (cutplaneref01_Mul.j3 k x0 x1 x5 x6 x7 x8 (wrap64 ((wrap64 (x8 - (x1.length : Int))) + 1))) else (cutplaneref01_Mul.j3 k x0 x1 x5 x6 x7 x8 0)) else ((cutplaneref01_Trim.f k x5).bind fun t1038 => (some t1038))
def cutplaneref01_Mul.l1 : Nat → List Int → List Int → List Int → Int → Int → Int → Int → Option (List Int)
  | 0, _, _, _, _, _, _, _ => none
  | k + 1, x0, x1, x5, x6, x7, x8, x10 => if x10 ≤ x8 then (if x10 < (x0.length : Int) then (if 0 ≤ x10 then (if x10 < (x0.length : Int) then (if 0 ≤ wrap64 (x8 - x10) then (if wrap64 (x8 - x10) < (x1.length : Int) then (if (IntKind.u64.wrap (x6 + (IntKind.u64.wrap ((IntKind.u64.wrap (rd x0 x10)) * (IntKind.u64.wrap (rd x1 (wrap64 (x8 - x10)))))))) < (IntKind.u64.wrap ((IntKind.u64.wrap (rd x0 x10)) * (IntKind.u64.wrap (rd x1 (wrap64 (x8 - x10)))))) then (cutplaneref01_Mul.l1 k x0 x1 x5 (IntKind.u64.wrap (x6 + (IntKind.u64.wrap ((IntKind.u64.wrap (rd x0 x10)) * (IntKind.u64.wrap (rd x1 (wrap64 (x8 - x10)))))))) (IntKind.u64.wrap (x7 + 1)) x8 (wrap64 (x10 + 1))) else (cutplaneref01_Mul.l1 k x0 x1 x5 (IntKind.u64.wrap (x6 + (IntKind.u64.wrap ((IntKind.u64.wrap (rd x0 x10)) * (IntKind.u64.wrap (rd x1 (wrap64 (x8 - x10)))))))) x7 x8 (wrap64 (x10 + 1)))) else (none)) else (none)) else (none)) else (none)) else (if x5.length + ([x6 % 4294967296] : List Int).length < 35184372088832 then (cutplaneref01_Mul.l0 k x0 x1 (x5 ++ ([x6 % 4294967296] : List Int)) (Go.bits .or .u64 (x6 / 4294967296) (IntKind.u64.wrap (x7 * 4294967296))) (x7 / 4294967296) (wrap64 (x8 + 1))) else (none))) else (if x5.length + ([x6 % 4294967296] : List Int).length < 35184372088832 then (cutplaneref01_Mul.l0 k x0 x1 (x5 ++ ([x6 % 4294967296] : List Int)) (Go.bits .or .u64 (x6 / 4294967296) (IntKind.u64.wrap (x7 * 4294967296))) (x7 / 4294967296) (wrap64 (x8 + 1))) else (none))
def cutplaneref01_Mul.j3 : Nat → List Int → List Int → List Int → Int → Int → Int → Int → Option (List Int)
  | 0, _, _, _, _, _, _, _ => none
  | k + 1, x0, x1, x5, x6, x7, x8, x9 => cutplaneref01_Mul.l1 k x0 x1 x5 x6 x7 x8 x9
end
def cutplaneref01_Mul.f (k : Nat) (x0 : List Int) (x1 : List Int) : Option (List Int) := if (x0.length : Int) = 0 then (some ([] : List Int)) else (if (x1.length : Int) = 0 then (some ([] : List Int)) else (cutplaneref01_Mul.l0 k x0 x1 ([] : List Int) 0 0 0))
abbrev cutplaneref01_Mul.S : Sig := { ps := [.lf (.is .u32), .lf (.is .u32)], rs := [.lf (.is .u32)], wb := [], R := List Int, mkR := fun y0 => some y0, un := fun r => [.ints .u32 r] }
def cutplaneref01_Mul.F (k : Nat) : Fun := { S := cutplaneref01_Mul.S, f := cutplaneref01_Mul.f k }
abbrev cutplaneref01_Mul.vl0 : List (Nat × Kx) := [(0, .lf (.is .u32)), (1, .lf (.is .u32)), (5, .ow .u32), (6, .lf (.i .u64)), (7, .lf (.i .u64)), (8, .lf (.i .i64))]
abbrev cutplaneref01_Mul.vl1 : List (Nat × Kx) := [(0, .lf (.is .u32)), (1, .lf (.is .u32)), (5, .ow .u32), (6, .lf (.i .u64)), (7, .lf (.i .u64)), (8, .lf (.i .i64)), (10, .lf (.i .i64))]
abbrev cutplaneref01_Mul.vj3 : List (Nat × Kx) := [(0, .lf (.is .u32)), (1, .lf (.is .u32)), (5, .ow .u32), (6, .lf (.i .u64)), (7, .lf (.i .u64)), (8, .lf (.i .i64)), (9, .lf (.i .i64))]
def cutplaneref01_Mul.C (k : Nat) : Cfg := { T := TT, G := lookG [(113, [cutplaneref01_Trim.F k, cutplaneref01_Trim.F1 k])], nt := 85, cuts := [⟨codeOf [true, true, true, true, true, false, true, false] 1, [true, true, true, true, true, false, true, false], cutplaneref01_Mul.vl0⟩, ⟨codeOf [true, true, true, true, true, false, true, false, false, true, false, false, true, true, false, true, false] 1, [true, true, true, true, true, false, true, false, false, true, false, false, true, true, false, true, false], cutplaneref01_Mul.vl1⟩, ⟨codeOf [true, true, true, true, true, false, true, false, false, true, false, false, true, true] 1, [true, true, true, true, true, false, true, false, false, true, false, false, true, true], cutplaneref01_Mul.vj3⟩], M0 := tabM }
def cutplaneref01_Mul.H (k : Nat) : List (CutF cutplaneref01_Mul.S.R) := [⟨cutplaneref01_Mul.vl0, cutplaneref01_Mul.l0 k⟩, ⟨cutplaneref01_Mul.vl1, cutplaneref01_Mul.l1 k⟩, ⟨cutplaneref01_Mul.vj3, cutplaneref01_Mul.j3 k⟩]
def cutplaneref02_Mul.f (k : Nat) (x0_0 : Bool) (x0_1 : List Int) (x0_2 : Int) (x1_0 : Bool) (x1_1 : List Int) (x1_2 : Int) : Option (Bool × List Int × Int) := (cutplaneref01_Mul.f k x0_1 x1_1).bind fun t1039 => ((cutplaneref02_Form.f k (decide (¬ ((x0_0) = (x1_0)))) t1039 (wrap64 (x0_2 + x1_2))).bind fun t1040 => (some (t1040.1, t1040.2.1, t1040.2.2)))
abbrev cutplaneref02_Mul.S : Sig := { ps := [.ag [.b, .is .u32, .i .i64], .ag [.b, .is .u32, .i .i64]], rs := [.ag [.b, .is .u32, .i .i64]], wb := [], R := Bool × List Int × Int, mkR := fun y0 y1 y2 => some (y0, y1, y2), un := fun r => [.bool r.1, .ints .u32 r.2.1, .int .i64 r.2.2] }
def cutplaneref02_Mul.F (k : Nat) : Fun := { S := cutplaneref02_Mul.S, f := cutplaneref02_Mul.f k }
def cutplaneref02_Mul.C (k : Nat) : Cfg := { T := TT, G := lookG [(65, [cutplaneref02_Form.F k]), (107, [cutplaneref01_Mul.F k])], nt := 21, cuts := [], M0 := tabM }
def cutplaneref02_Mul.H (k : Nat) : List (CutF cutplaneref02_Mul.S.R) := []
def cutplaneref03_Wide.f (x0 : Int) : Option (Int) := if x0 = 1 then (some 128) else (some 1024)
abbrev cutplaneref03_Wide.S : Sig := { ps := [.lf (.i .u8)], rs := [.lf (.i .i64)], wb := [], R := Int, mkR := fun y0 => some y0, un := fun r => [.int .i64 r] }
def cutplaneref03_Wide.F (k : Nat) : Fun := { S := cutplaneref03_Wide.S, f := cutplaneref03_Wide.f }
def cutplaneref03_Wide.C (k : Nat) : Cfg := { T := TT, G := lookG [], nt := 5, cuts := [], M0 := tabM }
def cutplaneref03_Wide.H (k : Nat) : List (CutF cutplaneref03_Wide.S.R) := []
mutual
def cutplaneref03_Of.j3 : Nat → Int → Bool → List Int → Int → Int → Option (Int × Bool)
  | 0, _, _, _, _, _ => none
  | k + 1, x0, x3_0, x3_1, x3_2, x7 => (cutplaneref01_Up.f k x3_1 (wrap64 (x3_2 - x7))).bind fun t1147 => (if 0 < (t1147.length : Int) then (if (t1147.length : Int) > 1 then (if 1 < (t1147.length : Int) then (cutplaneref03_Of.j4 k x0 x3_0 x3_1 x3_2 x7 (IntKind.u64.wrap ((IntKind.u64.wrap (rd t1147 0)) + (IntKind.u64.wrap ((IntKind.u64.wrap (rd t1147 1)) * 4294967296))))) else (none)) else (cutplaneref03_Of.j4 k x0 x3_0 x3_1 x3_2 x7 (IntKind.u64.wrap (rd t1147 0)))) else (none))
def cutplaneref03_Of.j4 : Nat → Int → Bool → List Int → Int → Int → Int → Option (Int × Bool)
  | 0, _, _, _, _, _, _ => none
  | k + 1, x0, x3_0, x3_1, x3_2, x7, x9 => (cutplaneref03_Frac.f x0).bind fun t1142 => (if 0 ≤ t1142 then (if (shr .u64 x9 t1142) > 0 then ((cutplaneref03_Frac.f x0).bind fun t1143 => (if 0 ≤ t1143 then ((cutplaneref03_Low.f x0).bind fun t1144 => ((cutplaneref03_Join.f x0 x3_0 (wrap64 ((wrap64 (x7 - t1144)) + 1)) (IntKind.u64.wrap (x9 - (shl .u64 1 t1143)))).bind fun t1145 => (some (t1145, true)))) else (none))) else ((cutplaneref03_Join.f x0 x3_0 0 x9).bind fun t1146 => (some (t1146, true)))) else (none))
end
def cutplaneref03_Of.f (k : Nat) (x0 : Int) (x1_0 : Bool) (x1_1 : List Int) (x1_2 : Int) : Option (Int × Bool) := (cutplaneref02_Sign.f x1_0 x1_1 x1_2).bind fun t1133 => (if t1133 = 0 then (some (0, true)) else ((cutplaneref02_Top.f k x1_0 x1_1 x1_2).bind fun t1134 => ((cutplaneref03_Wide.f x0).bind fun t1135 => (if t1134 > t1135 then (some (0, false)) else ((cutplaneref03_Low.f x0).bind fun t1136 => (if x1_2 < t1136 then (some (0, false)) else ((cutplaneref01_Len.f k x1_1).bind fun t1137 => ((cutplaneref03_Frac.f x0).bind fun t1138 => (if t1137 > (wrap64 (t1138 + 1)) then (some (0, false)) else ((cutplaneref03_Frac.f x0).bind fun t1139 => ((cutplaneref03_Low.f x0).bind fun t1140 => (if (wrap64 ((wrap64 (t1134 - t1139)) - 1)) < t1140 then ((cutplaneref03_Low.f x0).bind fun t1141 => (cutplaneref03_Of.j3 k x0 x1_0 x1_1 x1_2 t1141)) else (cutplaneref03_Of.j3 k x0 x1_0 x1_1 x1_2 (wrap64 ((wrap64 (t1134 - t1139)) - 1)))))))))))))))
abbrev cutplaneref03_Of.S : Sig := { ps := [.lf (.i .u8), .ag [.b, .is .u32, .i .i64]], rs := [.lf (.i .u64), .lf (.b)], wb := [], R := Int × Bool, mkR := fun y0 y1 => some (y0, y1), un := fun r => [.int .u64 r.1, .bool r.2] }
def cutplaneref03_Of.F (k : Nat) : Fun := { S := cutplaneref03_Of.S, f := cutplaneref03_Of.f k }
abbrev cutplaneref03_Of.vj3 : List (Nat × Kx) := [(0, .lf (.i .u8)), (3, .bx [.b, .is .u32, .i .i64]), (7, .lf (.i .i64))]
abbrev cutplaneref03_Of.vj4 : List (Nat × Kx) := [(0, .lf (.i .u8)), (3, .bx [.b, .is .u32, .i .i64]), (7, .lf (.i .i64)), (9, .lf (.i .u64))]
def cutplaneref03_Of.C (k : Nat) : Cfg := { T := TT, G := lookG [(26, [cutplaneref02_Top.F k]), (27, [cutplaneref03_Frac.F k]), (36, [cutplaneref02_Sign.F k]), (71, [cutplaneref01_Len.F k]), (73, [cutplaneref03_Low.F k]), (77, [cutplaneref01_Up.F k]), (93, [cutplaneref03_Join.F k]), (95, [cutplaneref03_Wide.F k])], nt := 92, cuts := [⟨codeOf [true, true, true, true, true, true] 1, [true, true, true, true, true, true], cutplaneref03_Of.vj3⟩, ⟨codeOf [true, true, true, true, true, true, true, true, true] 1, [true, true, true, true, true, true, true, true, true], cutplaneref03_Of.vj4⟩], M0 := tabM }
def cutplaneref03_Of.H (k : Nat) : List (CutF cutplaneref03_Of.S.R) := [⟨cutplaneref03_Of.vj3, cutplaneref03_Of.j3 k⟩, ⟨cutplaneref03_Of.vj4, cutplaneref03_Of.j4 k⟩]
def cutplaneref03_Signed.f (x0 : Int) (x1 : Int) (x2 : Bool) : Option (Int) := (cutplaneref03_Sign.f x0).bind fun t1155 => (if t1155 = 0 then (none) else (if x2 = true then ((cutplaneref03_Sign.f x0).bind fun t1156 => (some (IntKind.u64.wrap ((Int.tmod x1 t1155) + t1156)))) else (some (Int.tmod x1 t1155))))
abbrev cutplaneref03_Signed.S : Sig := { ps := [.lf (.i .u8), .lf (.i .u64), .lf (.b)], rs := [.lf (.i .u64)], wb := [], R := Int, mkR := fun y0 => some y0, un := fun r => [.int .u64 r] }
def cutplaneref03_Signed.F (k : Nat) : Fun := { S := cutplaneref03_Signed.S, f := cutplaneref03_Signed.f }
def cutplaneref03_Signed.C (k : Nat) : Cfg := { T := TT, G := lookG [(74, [cutplaneref03_Sign.F k])], nt := 17, cuts := [], M0 := tabM }
def cutplaneref03_Signed.H (k : Nat) : List (CutF cutplaneref03_Signed.S.R) := []
mutual
def cutplaneref06_Rem.j0 : Nat → Int → Int → Int → Int → Int → Bool → Option (Int × Int)
  | 0, _, _, _, _, _, _ => none
  | k + 1, x0, x1, x2, x8, x9, x27 => if x27 = true then ((cutplaneref03_None.f x0).bind fun t1218 => (some (t1218, 0))) else (if x8 = 4 then (cutplaneref06_Rem.j2 k x0 x1 x2 x9 true) else (cutplaneref06_Rem.j2 k x0 x1 x2 x9 (decide (x9 = 1))))
def cutplaneref06_Rem.j2 : Nat → Int → Int → Int → Int → Bool → Option (Int × Int)
  | 0, _, _, _, _, _ => none
  | k + 1, x0, x1, x2, x9, x35 => if x35 = true then ((cutplaneref03_None.f x0).bind fun t1208 => (some (t1208, 1))) else (if x9 = 4 then (some (x1, 0)) else ((cutplaneref03_Value.f k x0 x1).bind fun t1209 => ((cutplaneref03_Value.f k x0 x2).bind fun t1210 => ((cutplaneref06_nearest.f k t1209.1 t1209.2.1 t1209.2.2 t1210.1 t1210.2.1 t1210.2.2).bind fun t1211 => ((cutplaneref02_Mul.f k t1211.1 t1211.2.1 t1211.2.2 t1210.1 t1210.2.1 t1210.2.2).bind fun t1212 => ((cutplaneref02_Sub.f k t1209.1 t1209.2.1 t1209.2.2 t1212.1 t1212.2.1 t1212.2.2).bind fun t1213 => ((cutplaneref03_Of.f k x0 t1213.1 t1213.2.1 t1213.2.2).bind fun t1214 => ((cutplaneref02_Sign.f t1213.1 t1213.2.1 t1213.2.2).bind fun t1215 => (if t1215 = 0 then ((cutplaneref03_Split.f x0 x1).bind fun t1216 => ((cutplaneref03_Signed.f x0 0 t1216.1).bind fun t1217 => (some (t1217, 0)))) else (some (t1214.1, 0)))))))))))
end
def cutplaneref06_Rem.f (k : Nat) (x0 : Int) (x1 : Int) (x2 : Int) : Option (Int × Int) := (cutplaneref03_Class.f x0 x1).bind fun t1206 => ((cutplaneref03_Class.f x0 x2).bind fun t1207 => (if t1206 = 5 then (cutplaneref06_Rem.j0 k x0 x1 x2 t1206 t1207 true) else (cutplaneref06_Rem.j0 k x0 x1 x2 t1206 t1207 (decide (t1207 = 5)))))
abbrev cutplaneref06_Rem.S : Sig := { ps := [.lf (.i .u8), .lf (.i .u64), .lf (.i .u64)], rs := [.lf (.i .u64), .lf (.i .u8)], wb := [], R := Int × Int, mkR := fun y0 y1 => some (y0, y1), un := fun r => [.int .u64 r.1, .int .u8 r.2] }
def cutplaneref06_Rem.F (k : Nat) : Fun := { S := cutplaneref06_Rem.S, f := cutplaneref06_Rem.f k }
abbrev cutplaneref06_Rem.vj0 : List (Nat × Kx) := [(0, .lf (.i .u8)), (1, .lf (.i .u64)), (2, .lf (.i .u64)), (8, .lf (.i .u8)), (9, .lf (.i .u8)), (27, .lf (.b))]
abbrev cutplaneref06_Rem.vj2 : List (Nat × Kx) := [(0, .lf (.i .u8)), (1, .lf (.i .u64)), (2, .lf (.i .u64)), (9, .lf (.i .u8)), (35, .lf (.b))]
def cutplaneref06_Rem.C (k : Nat) : Cfg := { T := TT, G := lookG [(21, [cutplaneref03_Class.F k]), (29, [cutplaneref03_Value.F k]), (31, [cutplaneref03_Split.F k]), (33, [cutplaneref02_Sub.F k]), (36, [cutplaneref02_Sign.F k]), (50, [cutplaneref03_None.F k]), (52, [cutplaneref03_Signed.F k]), (57, [cutplaneref06_nearest.F k]), (58, [cutplaneref02_Mul.F k]), (59, [cutplaneref03_Of.F k])], nt := 71, cuts := [⟨codeOf [true, true, false, true] 1, [true, true, false, true], cutplaneref06_Rem.vj0⟩, ⟨codeOf [true, true, true, false, true] 1, [true, true, true, false, true], cutplaneref06_Rem.vj2⟩], M0 := tabM }
def cutplaneref06_Rem.H (k : Nat) : List (CutF cutplaneref06_Rem.S.R) := [⟨cutplaneref06_Rem.vj0, cutplaneref06_Rem.j0 k⟩, ⟨cutplaneref06_Rem.vj2, cutplaneref06_Rem.j2 k⟩]
def cutplanelaw06_ConvRemainders.f (k : Nat) (x0 : Int) (x1 : Int) (x2 : Int) : Option (Bool) := (conv_Rem.f k x0 x1 x2).bind fun t1247 => ((cutplanelaw06_opens.f k x0 1 ([x1, x2] : List Int)).bind fun t1248 => (if ¬ (t1248 = 0) then ((cutplanelaw06_is.f t1247.1 t1247.2.1 t1247.2.2 0 0 t1248).bind fun t1249 => (if t1249 = true then ((cutplanelaw06_known.f k).bind fun t1250 => (some t1250)) else (some false))) else ((cutplaneref06_Rem.f k x0 x1 x2).bind fun t1251 => ((cutplanelaw06_is.f t1247.1 t1247.2.1 t1247.2.2 t1251.1 t1251.2 0).bind fun t1252 => (if t1252 = true then ((cutplanelaw06_known.f k).bind fun t1253 => (some t1253)) else (some false))))))
abbrev cutplanelaw06_ConvRemainders.S : Sig := { ps := [.lf (.i .u8), .lf (.i .u64), .lf (.i .u64)], rs := [.lf (.b)], wb := [], R := Bool, mkR := fun y0 => some y0, un := fun r => [.bool r] }
def cutplanelaw06_ConvRemainders.F (k : Nat) : Fun := { S := cutplanelaw06_ConvRemainders.S, f := cutplanelaw06_ConvRemainders.f k }
def cutplanelaw06_ConvRemainders.C (k : Nat) : Cfg := { T := TT, G := lookG [(10, [cutplanelaw06_opens.F k]), (12, [cutplanelaw06_is.F k]), (13, [cutplanelaw06_known.F k]), (15, [conv_Rem.F k]), (16, [cutplaneref06_Rem.F k])], nt := 52, cuts := [], M0 := tabM }
def cutplanelaw06_ConvRemainders.H (k : Nat) : List (CutF cutplanelaw06_ConvRemainders.S.R) := []
end Go.Proofs.YtclegbgmhimenaaGreatDoor.Eng

