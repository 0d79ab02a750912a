import Derived.Test.YtclegbgmhimenaaGreatDoorEng2
import Derived.Test.YtclegbgmhimenaaGreatDoorProg
import Derived.KernelRfl
import Derived.Lib.TrailingZeros
set_option linter.unusedVariables false
set_option linter.unusedSimpArgs false
namespace Go.Proofs.YtclegbgmhimenaaGreatDoor.Eng
open Go.RowKit Go.Proofs
set_option maxRecDepth 100000
set_option linter.unusedVariables false
def TL : List (Nat × TI) := [(2, ⟨.int .i64, 1, 8, [(.int .i64)]⟩),
  (3, ⟨.int .i64, 1, 8, [(.int .i64)]⟩),
  (4, ⟨.bool, 1, 1, [.bool]⟩),
  (5, ⟨.int .u8, 1, 1, [(.int .u8)]⟩),
  (6, ⟨.int .u8, 1, 1, [(.int .u8)]⟩),
  (7, ⟨.struct [(0, 2), (1, 3), (2, 4), (3, 6)], 4, 24, [(.int .i64), (.int .i64), .bool, (.int .u8)]⟩),
  (8, ⟨.struct [(0, 2), (1, 3), (2, 4), (3, 6)], 4, 24, [(.int .i64), (.int .i64), .bool, (.int .u8)]⟩),
  (9, ⟨.str, 1, 16, [.str]⟩),
  (10, ⟨.str, 1, 16, [.str]⟩),
  (11, ⟨.str, 1, 16, [.str]⟩),
  (12, ⟨.int .u64, 1, 8, [(.int .u64)]⟩),
  (13, ⟨.struct [(0, 9), (1, 12)], 2, 24, [.str, (.int .u64)]⟩),
  (14, ⟨.struct [(0, 9), (1, 12)], 2, 24, [.str, (.int .u64)]⟩),
  (15, ⟨.ptr 192, 1, 8, [.ptr]⟩),
  (16, ⟨.ptr 195, 1, 8, [.ptr]⟩),
  (17, ⟨.ptr 203, 1, 8, [.ptr]⟩),
  (18, ⟨.struct [(0, 17)], 1, 8, [.ptr]⟩),
  (19, ⟨.struct [(0, 17)], 1, 8, [.ptr]⟩),
  (21, ⟨.int .i32, 1, 4, [(.int .i32)]⟩),
  (22, ⟨.int .u8, 1, 1, [(.int .u8)]⟩),
  (23, ⟨.int .u8, 1, 1, [(.int .u8)]⟩),
  (24, ⟨.int .u64, 1, 8, [(.int .u64)]⟩),
  (25, ⟨.int .u8, 1, 1, [(.int .u8)]⟩),
  (26, ⟨.int .i64, 1, 8, [(.int .i64)]⟩),
  (44, ⟨.int .u8, 1, 1, [(.int .u8)]⟩),
  (49, ⟨.slice 107, 1, 24, [(.slice (some .u32))]⟩),
  (50, ⟨.struct [(0, 4), (1, 49), (2, 3)], 3, 40, [.bool, (.slice (some .u32)), (.int .i64)]⟩),
  (51, ⟨.struct [(0, 4), (1, 49), (2, 3)], 3, 40, [.bool, (.slice (some .u32)), (.int .i64)]⟩),
  (62, ⟨.struct [(0, 4), (1, 3), (2, 24)], 3, 24, [.bool, (.int .i64), (.int .u64)]⟩),
  (63, ⟨.struct [(0, 4), (1, 3), (2, 24)], 3, 24, [.bool, (.int .i64), (.int .u64)]⟩),
  (86, ⟨.slice 24, 1, 24, [(.slice (some .u64))]⟩),
  (107, ⟨.int .u32, 1, 4, [(.int .u32)]⟩),
  (109, ⟨.int .u64, 1, 8, [(.int .u64)]⟩),
  (117, ⟨.struct [(0, 3), (1, 3), (2, 24)], 3, 24, [(.int .i64), (.int .i64), (.int .u64)]⟩),
  (118, ⟨.struct [(0, 3), (1, 3), (2, 24)], 3, 24, [(.int .i64), (.int .i64), (.int .u64)]⟩),
  (124, ⟨.struct [(0, 3), (1, 3), (2, 3)], 3, 24, [(.int .i64), (.int .i64), (.int .i64)]⟩),
  (125, ⟨.struct [(0, 3), (1, 3), (2, 3)], 3, 24, [(.int .i64), (.int .i64), (.int .i64)]⟩),
  (128, ⟨.struct [(0, 24), (1, 3), (2, 4)], 3, 24, [(.int .u64), (.int .i64), .bool]⟩),
  (129, ⟨.struct [(0, 24), (1, 3), (2, 4)], 3, 24, [(.int .u64), (.int .i64), .bool]⟩),
  (159, ⟨.slice 51, 1, 24, [(.slice none)]⟩),
  (178, ⟨.slice 49, 1, 24, [(.slice none)]⟩),
  (186, ⟨.arr 32 5, 32, 32, [(.int .u8), (.int .u8), (.int .u8), (.int .u8), (.int .u8), (.int .u8), (.int .u8), (.int .u8), (.int .u8), (.int .u8), (.int .u8), (.int .u8), (.int .u8), (.int .u8), (.int .u8), (.int .u8), (.int .u8), (.int .u8), (.int .u8), (.int .u8), (.int .u8), (.int .u8), (.int .u8), (.int .u8), (.int .u8), (.int .u8), (.int .u8), (.int .u8), (.int .u8), (.int .u8), (.int .u8), (.int .u8)]⟩),
  (191, ⟨.struct [(0, 17), (1, 17), (2, 17), (3, 9)], 4, 40, [.ptr, .ptr, .ptr, .str]⟩),
  (192, ⟨.struct [(0, 17), (1, 17), (2, 17), (3, 9)], 4, 40, [.ptr, .ptr, .ptr, .str]⟩),
  (193, ⟨.arr 0 16, 0, 0, []⟩),
  (194, ⟨.struct [(0, 193)], 0, 0, []⟩),
  (195, ⟨.struct [(0, 193)], 0, 0, []⟩),
  (196, ⟨.int .u8, 1, 1, [(.int .u8)]⟩),
  (197, ⟨.int .u8, 1, 1, [(.int .u8)]⟩),
  (199, ⟨.ptr 5, 1, 8, [.ptr]⟩),
  (200, ⟨.int .i32, 1, 4, [(.int .i32)]⟩),
  (201, ⟨.int .i32, 1, 4, [(.int .i32)]⟩)]
def TT : Nat → Option TI := lookT TL
def txt0 : ByteArray := ⟨#[0, 1, 2, 2, 3, 3, 3, 3, 4, 4, 4, 4, 4, 4, 4, 4, 5, 5, 5, 5, 5, 5, 5, 5, 5, 5, 5, 5, 5, 5, 5, 5, 6, 6, 6, 6, 6, 6, 6, 6, 6, 6, 6, 6, 6, 6, 6, 6, 6, 6, 6, 6, 6, 6, 6, 6, 6, 6, 6, 6, 6, 6, 6, 6, 7, 7, 7, 7, 7, 7, 7, 7, 7, 7, 7, 7, 7, 7, 7, 7, 7, 7, 7, 7, 7, 7, 7, 7, 7, 7, 7, 7, 7, 7, 7, 7, 7, 7, 7, 7, 7, 7, 7, 7, 7, 7, 7, 7, 7, 7, 7, 7, 7, 7, 7, 7, 7, 7, 7, 7, 7, 7, 7, 7, 7, 7, 7, 7, 8, 8, 8, 8, 8, 8, 8, 8, 8, 8, 8, 8, 8, 8, 8, 8, 8, 8, 8, 8, 8, 8, 8, 8, 8, 8, 8, 8, 8, 8, 8, 8, 8, 8, 8, 8, 8, 8, 8, 8, 8, 8, 8, 8, 8, 8, 8, 8, 8, 8, 8, 8, 8, 8, 8, 8, 8, 8, 8, 8, 8, 8, 8, 8, 8, 8, 8, 8, 8, 8, 8, 8, 8, 8, 8, 8, 8, 8, 8, 8, 8, 8, 8, 8, 8, 8, 8, 8, 8, 8, 8, 8, 8, 8, 8, 8, 8, 8, 8, 8, 8, 8, 8, 8, 8, 8, 8, 8, 8, 8, 8, 8, 8, 8, 8, 8, 8, 8, 8, 8, 8, 8, 8, 8, 8, 8, 8, 8]⟩
def bits_TrailingZeros32.f (x : Int) : Option Int := if 0 ≤ x ∧ x < 4294967296 then some (Lib.ctz 32 x.toNat : Int) else none
def tabM : Nat → Nat → Option Value := fun b o => if b = 0 ∧ o < 32 then some (.int .u8 (Lib.deBruijn32tab.getD o 0)) else none
def cutplaneref03_Is.f (x0 : Int) : Option (Bool) := if x0 = 1 then (some true) else (some (decide (x0 = 2)))
abbrev cutplaneref03_Is.S : Sig := { ps := [.lf (.i .u8)], rs := [.lf (.b)], wb := [], R := Bool, mkR := fun y0 => some y0, un := fun r => [.bool r] }
def cutplaneref03_Is.F (k : Nat) : Fun := { S := cutplaneref03_Is.S, f := cutplaneref03_Is.f }
def cutplaneref03_Is.C (k : Nat) : Cfg := { T := TT, G := lookG [], nt := 9, cuts := [], M0 := tabM }
def cutplaneref03_Is.H (k : Nat) : List (CutF cutplaneref03_Is.S.R) := []
def cutplaneref04_Is.f (x0 : Int) : Option (Bool) := if x0 ≥ 1 then (some (decide (x0 ≤ 5))) else (some false)
abbrev cutplaneref04_Is.S : Sig := { ps := [.lf (.i .u8)], rs := [.lf (.b)], wb := [], R := Bool, mkR := fun y0 => some y0, un := fun r => [.bool r] }
def cutplaneref04_Is.F (k : Nat) : Fun := { S := cutplaneref04_Is.S, f := cutplaneref04_Is.f }
def cutplaneref04_Is.C (k : Nat) : Cfg := { T := TT, G := lookG [], nt := 9, cuts := [], M0 := tabM }
def cutplaneref04_Is.H (k : Nat) : List (CutF cutplaneref04_Is.S.R) := []
def cutplaneref03_Good.f (x0 : Int) (x1 : Int) : Option (Int) := (cutplaneref03_Is.f x0).bind fun t14 => (if (!t14) = true then (some 4) else (if x0 = 1 then (if x1 ≥ 4294967296 then (some 6) else (some 0)) else (some 0)))
abbrev cutplaneref03_Good.S : Sig := { ps := [.lf (.i .u8), .lf (.i .u64)], rs := [.lf (.i .i64)], wb := [], R := Int, mkR := fun y0 => some y0, un := fun r => [.int .i64 r] }
def cutplaneref03_Good.F (k : Nat) : Fun := { S := cutplaneref03_Good.S, f := cutplaneref03_Good.f }
def cutplaneref03_Good.C (k : Nat) : Cfg := { T := TT, G := lookG [(11, [cutplaneref03_Is.F k])], nt := 14, cuts := [], M0 := tabM }
def cutplaneref03_Good.H (k : Nat) : List (CutF cutplaneref03_Good.S.R) := []
def cutplanelaw06_opens.l0 : Nat → Int → List Int → Int → Option (Int)
  | 0, _, _, _ => none
  | k + 1, x0, x2, x7 => if x7 < (x2.length : Int) then (if 0 ≤ x7 then (if x7 < (x2.length : Int) then ((cutplaneref03_Good.f x0 (rd x2 x7)).bind fun t23 => (if ¬ (t23 = 0) then (some 6) else (cutplanelaw06_opens.l0 k x0 x2 (wrap64 (x7 + 1))))) else (none)) else (none)) else (some 0)
def cutplanelaw06_opens.f (k : Nat) (x0 : Int) (x1 : Int) (x2 : List Int) : Option (Int) := (cutplaneref03_Is.f x0).bind fun t21 => (if (!t21) = true then (some 4) else ((cutplaneref04_Is.f x1).bind fun t22 => (if (!t22) = true then (some 5) else (cutplanelaw06_opens.l0 k x0 x2 0))))
abbrev cutplanelaw06_opens.S : Sig := { ps := [.lf (.i .u8), .lf (.i .u8), .lf (.is .u64)], rs := [.lf (.i .i64)], wb := [], R := Int, mkR := fun y0 => some y0, un := fun r => [.int .i64 r] }
def cutplanelaw06_opens.F (k : Nat) : Fun := { S := cutplanelaw06_opens.S, f := cutplanelaw06_opens.f k }
abbrev cutplanelaw06_opens.vl0 : List (Nat × Kx) := [(0, .lf (.i .u8)), (2, .lf (.is .u64)), (7, .lf (.i .i64))]
def cutplanelaw06_opens.C (k : Nat) : Cfg := { T := TT, G := lookG [(11, [cutplaneref03_Is.F k]), (48, [cutplaneref04_Is.F k]), (49, [cutplaneref03_Good.F k])], nt := 27, cuts := [⟨codeOf [true, true, true, false, true, false] 1, [true, true, true, false, true, false], cutplanelaw06_opens.vl0⟩], M0 := tabM }
def cutplanelaw06_opens.H (k : Nat) : List (CutF cutplanelaw06_opens.S.R) := [⟨cutplanelaw06_opens.vl0, cutplanelaw06_opens.l0 k⟩]
def cutplaneref03_Sign.f (x0 : Int) : Option (Int) := if x0 = 1 then (some 2147483648) else (some 9223372036854775808)
abbrev cutplaneref03_Sign.S : Sig := { ps := [.lf (.i .u8)], rs := [.lf (.i .u64)], wb := [], R := Int, mkR := fun y0 => some y0, un := fun r => [.int .u64 r] }
def cutplaneref03_Sign.F (k : Nat) : Fun := { S := cutplaneref03_Sign.S, f := cutplaneref03_Sign.f }
def cutplaneref03_Sign.C (k : Nat) : Cfg := { T := TT, G := lookG [], nt := 5, cuts := [], M0 := tabM }
def cutplaneref03_Sign.H (k : Nat) : List (CutF cutplaneref03_Sign.S.R) := []
def cutplaneref03_Frac.f (x0 : Int) : Option (Int) := if x0 = 1 then (some 23) else (some 52)
abbrev cutplaneref03_Frac.S : Sig := { ps := [.lf (.i .u8)], rs := [.lf (.i .i64)], wb := [], R := Int, mkR := fun y0 => some y0, un := fun r => [.int .i64 r] }
def cutplaneref03_Frac.F (k : Nat) : Fun := { S := cutplaneref03_Frac.S, f := cutplaneref03_Frac.f }
def cutplaneref03_Frac.C (k : Nat) : Cfg := { T := TT, G := lookG [], nt := 5, cuts := [], M0 := tabM }
def cutplaneref03_Frac.H (k : Nat) : List (CutF cutplaneref03_Frac.S.R) := []
def cutplaneref03_Split.f (x0 : Int) (x1 : Int) : Option (Bool × Int × Int) := (cutplaneref03_Sign.f x0).bind fun t27 => ((cutplaneref03_Sign.f x0).bind fun t28 => (if t28 = 0 then (none) else ((cutplaneref03_Frac.f x0).bind fun t29 => (if 0 ≤ t29 then (if (shl .u64 1 t29) = 0 then (none) else ((cutplaneref03_Frac.f x0).bind fun t30 => (if 0 ≤ t30 then (some (decide (x1 ≥ t27), wrap64 (shr .u64 (Int.tmod x1 t28) t30), Int.tmod (Int.tmod x1 t28) (shl .u64 1 t29))) else (none)))) else (none)))))
abbrev cutplaneref03_Split.S : Sig := { ps := [.lf (.i .u8), .lf (.i .u64)], rs := [.ag [.b, .i .i64, .i .u64]], wb := [], R := Bool × Int × Int, mkR := fun y0 y1 y2 => some (y0, y1, y2), un := fun r => [.bool r.1, .int .i64 r.2.1, .int .u64 r.2.2] }
def cutplaneref03_Split.F (k : Nat) : Fun := { S := cutplaneref03_Split.S, f := cutplaneref03_Split.f }
def cutplaneref03_Split.C (k : Nat) : Cfg := { T := TT, G := lookG [(27, [cutplaneref03_Frac.F k]), (74, [cutplaneref03_Sign.F k])], nt := 28, cuts := [], M0 := tabM }
def cutplaneref03_Split.H (k : Nat) : List (CutF cutplaneref03_Split.S.R) := []
def cutplaneref03_Most.f (x0 : Int) : Option (Int) := if x0 = 1 then (some 255) else (some 2047)
abbrev cutplaneref03_Most.S : Sig := { ps := [.lf (.i .u8)], rs := [.lf (.i .i64)], wb := [], R := Int, mkR := fun y0 => some y0, un := fun r => [.int .i64 r] }
def cutplaneref03_Most.F (k : Nat) : Fun := { S := cutplaneref03_Most.S, f := cutplaneref03_Most.f }
def cutplaneref03_Most.C (k : Nat) : Cfg := { T := TT, G := lookG [], nt := 5, cuts := [], M0 := tabM }
def cutplaneref03_Most.H (k : Nat) : List (CutF cutplaneref03_Most.S.R) := []
def cutplaneref03_Class.f (x0 : Int) (x1 : Int) : Option (Int) := (cutplaneref03_Split.f x0 x1).bind fun t42 => (if t42.2.1 = 0 then (if t42.2.2 = 0 then (some 1) else (if t42.2.1 = 0 then (some 2) else ((cutplaneref03_Most.f x0).bind fun t43 => (if t42.2.1 < t43 then (some 3) else (if t42.2.2 = 0 then (some 4) else (some 5)))))) else (if t42.2.1 = 0 then (some 2) else ((cutplaneref03_Most.f x0).bind fun t44 => (if t42.2.1 < t44 then (some 3) else (if t42.2.2 = 0 then (some 4) else (some 5))))))
abbrev cutplaneref03_Class.S : Sig := { ps := [.lf (.i .u8), .lf (.i .u64)], rs := [.lf (.i .u8)], wb := [], R := Int, mkR := fun y0 => some y0, un := fun r => [.int .u8 r] }
def cutplaneref03_Class.F (k : Nat) : Fun := { S := cutplaneref03_Class.S, f := cutplaneref03_Class.f }
def cutplaneref03_Class.C (k : Nat) : Cfg := { T := TT, G := lookG [(31, [cutplaneref03_Split.F k]), (64, [cutplaneref03_Most.F k])], nt := 28, cuts := [], M0 := tabM }
def cutplaneref03_Class.H (k : Nat) : List (CutF cutplaneref03_Class.S.R) := []
def cutplaneref03_Finite.f (x0 : Int) (x1 : Int) : Option (Bool) := (cutplaneref03_Class.f x0 x1).bind fun t47 => (if ¬ (t47 = 4) then (some (decide (¬ (t47 = 5)))) else (some false))
abbrev cutplaneref03_Finite.S : Sig := { ps := [.lf (.i .u8), .lf (.i .u64)], rs := [.lf (.b)], wb := [], R := Bool, mkR := fun y0 => some y0, un := fun r => [.bool r] }
def cutplaneref03_Finite.F (k : Nat) : Fun := { S := cutplaneref03_Finite.S, f := cutplaneref03_Finite.f }
def cutplaneref03_Finite.C (k : Nat) : Cfg := { T := TT, G := lookG [(21, [cutplaneref03_Class.F k])], nt := 15, cuts := [], M0 := tabM }
def cutplaneref03_Finite.H (k : Nat) : List (CutF cutplaneref03_Finite.S.R) := []
def round_formOf.f (x0 : Int) : Option (Int × Int × Int × Bool) := if x0 = 1 then (some (24, (-149), 128, true)) else (if x0 = 2 then (some (53, (-1074), 1024, true)) else (some (0, 0, 0, false)))
abbrev round_formOf.S : Sig := { ps := [.lf (.i .u8)], rs := [.ag [.i .i64, .i .i64, .i .i64], .lf (.b)], wb := [], R := Int × Int × Int × Bool, mkR := fun y0 y1 y2 y3 => some (y0, y1, y2, y3), un := fun r => [.int .i64 r.1, .int .i64 r.2.1, .int .i64 r.2.2.1, .bool r.2.2.2] }
def round_formOf.F (k : Nat) : Fun := { S := round_formOf.S, f := round_formOf.f }
def round_formOf.C (k : Nat) : Cfg := { T := TT, G := lookG [], nt := 12, cuts := [], M0 := tabM }
def round_formOf.H (k : Nat) : List (CutF round_formOf.S.R) := []
def nat_May.f (x0 : List Int) : Option (Bool) := if (x0.length : Int) ≤ 4096 then (if (x0.length : Int) = 0 then (some true) else (if 0 ≤ wrap64 ((x0.length : Int) - 1) then (if wrap64 ((x0.length : Int) - 1) < (x0.length : Int) then (some (decide (¬ (rd x0 (wrap64 ((x0.length : Int) - 1)) = 0)))) else (none)) else (none))) else (some false)
abbrev nat_May.S : Sig := { ps := [.lf (.is .u32)], rs := [.lf (.b)], wb := [], R := Bool, mkR := fun y0 => some y0, un := fun r => [.bool r] }
def nat_May.F (k : Nat) : Fun := { S := nat_May.S, f := nat_May.f }
def nat_May.C (k : Nat) : Cfg := { T := TT, G := lookG [], nt := 20, cuts := [], M0 := tabM }
def nat_May.H (k : Nat) : List (CutF nat_May.S.R) := []
def dyad_inside.f (x0 : Int) : Option (Bool) := if (-16777216) ≤ x0 then (some (decide (x0 ≤ 16777216))) else (some false)
abbrev dyad_inside.S : Sig := { ps := [.lf (.i .i64)], rs := [.lf (.b)], wb := [], R := Bool, mkR := fun y0 => some y0, un := fun r => [.bool r] }
def dyad_inside.F (k : Nat) : Fun := { S := dyad_inside.S, f := dyad_inside.f }
def dyad_inside.C (k : Nat) : Cfg := { T := TT, G := lookG [], nt := 9, cuts := [], M0 := tabM }
def dyad_inside.H (k : Nat) : List (CutF dyad_inside.S.R) := []
def dyad_May.f (x0_0 : Bool) (x0_1 : List Int) (x0_2 : Int) : Option (Bool) := (nat_May.f x0_1).bind fun t67 => (if (!t67) = true then (some false) else (if (x0_1.length : Int) = 0 then (if (!x0_0) = true then (some (decide (x0_2 = 0))) else (some false)) else (if 0 < (x0_1.length : Int) then (if (Go.bits .and .u32 (rd x0_1 0) 1) = 1 then ((dyad_inside.f x0_2).bind fun t68 => (some t68)) else (some false)) else (none))))
abbrev dyad_May.S : Sig := { ps := [.ag [.b, .is .u32, .i .i64]], rs := [.lf (.b)], wb := [], R := Bool, mkR := fun y0 => some y0, un := fun r => [.bool r] }
def dyad_May.F (k : Nat) : Fun := { S := dyad_May.S, f := dyad_May.f }
def dyad_May.C (k : Nat) : Cfg := { T := TT, G := lookG [(122, [nat_May.F k]), (137, [dyad_inside.F k])], nt := 30, cuts := [], M0 := tabM }
def dyad_May.H (k : Nat) : List (CutF dyad_May.S.R) := []
def round_open.l0 : Nat → Int → Int → Int → Int → Int → Int → List (Bool × List Int × Int) → Int → Int → Option (Int × Int × Int × Int)
  | 0, _, _, _, _, _, _, _, _, _ => none
  | k + 1, x6_0, x6_1, x6_2, x8_0, x8_1, x8_2, x27, x28, x29 => if x29 < x28 then (if 0 ≤ x29 then (if x29 < (x27.length : Int) then ((dyad_May.f ((rdT [.b, .is .u32, .i .i64] x27 x29).1) ((rdT [.b, .is .u32, .i .i64] x27 x29).2.1) ((rdT [.b, .is .u32, .i .i64] x27 x29).2.2)).bind fun t78 => (if (!t78) = true then (some (x8_0, x8_1, x8_2, 2)) else (round_open.l0 k x6_0 x6_1 x6_2 x8_0 x8_1 x8_2 x27 x28 (wrap64 (x29 + 1))))) else (none)) else (none)) else (some (x8_0, x8_1, x8_2, 0))
def round_open.f (k : Nat) (x0 : Int) (x1 : Int) (x2 : List (Bool × List Int × Int)) : Option (Int × Int × Int × Int) := (round_formOf.f x0).bind fun t77 => (if (!t77.2.2.2) = true then (some (t77.1, t77.2.1, t77.2.2.1, 4)) else (if x1 < 1 then (some (t77.1, t77.2.1, t77.2.2.1, 5)) else (if x1 > 5 then (some (t77.1, t77.2.1, t77.2.2.1, 5)) else (round_open.l0 k 0 0 0 t77.1 t77.2.1 t77.2.2.1 x2 (x2.length : Int) 0))))
abbrev round_open.S : Sig := { ps := [.lf (.i .u8), .lf (.i .u8), .lf (.rw [.b, .is .u32, .i .i64])], rs := [.ag [.i .i64, .i .i64, .i .i64], .lf (.i .i64)], wb := [], R := Int × Int × Int × Int, mkR := fun y0 y1 y2 y3 => some (y0, y1, y2, y3), un := fun r => [.int .i64 r.1, .int .i64 r.2.1, .int .i64 r.2.2.1, .int .i64 r.2.2.2] }
def round_open.F (k : Nat) : Fun := { S := round_open.S, f := round_open.f k }
abbrev round_open.vl0 : List (Nat × Kx) := [(6, .bx [.i .i64, .i .i64, .i .i64]), (8, .bx [.i .i64, .i .i64, .i .i64]), (27, .lf (.rw [.b, .is .u32, .i .i64])), (28, .lf (.i .i64)), (29, .lf (.i .i64))]
def round_open.C (k : Nat) : Cfg := { T := TT, G := lookG [(102, [dyad_May.F k]), (125, [round_formOf.F k])], nt := 39, cuts := [⟨codeOf [true, true, true, true, false, true, false] 1, [true, true, true, true, false, true, false], round_open.vl0⟩], M0 := tabM }
def round_open.H (k : Nat) : List (CutF round_open.S.R) := [⟨round_open.vl0, round_open.l0 k⟩]
def word_shapeOf.f (x0 : Int) : Option (Int × Int × Int × Bool) := if x0 = 1 then (some (23, 255, 2147483648, true)) else (if x0 = 2 then (some (52, 2047, 9223372036854775808, true)) else (some (0, 0, 0, false)))
abbrev word_shapeOf.S : Sig := { ps := [.lf (.i .u8)], rs := [.ag [.i .i64, .i .i64, .i .u64], .lf (.b)], wb := [], R := Int × Int × Int × Bool, mkR := fun y0 y1 y2 y3 => some (y0, y1, y2, y3), un := fun r => [.int .i64 r.1, .int .i64 r.2.1, .int .u64 r.2.2.1, .bool r.2.2.2] }
def word_shapeOf.F (k : Nat) : Fun := { S := word_shapeOf.S, f := word_shapeOf.f }
def word_shapeOf.C (k : Nat) : Cfg := { T := TT, G := lookG [], nt := 12, cuts := [], M0 := tabM }
def word_shapeOf.H (k : Nat) : List (CutF word_shapeOf.S.R) := []
def word_open.l0 : Nat → Int → Int → Int → Int → Int → Int → List Int → Int → Int → Option (Int × Int × Int × Int)
  | 0, _, _, _, _, _, _, _, _, _ => none
  | k + 1, x4_0, x4_1, x4_2, x6_0, x6_1, x6_2, x18, x19, x20 => if x20 < x19 then (if 0 ≤ x20 then (if x20 < (x18.length : Int) then (if (rd x18 x20) > (Go.bits .or .u64 x6_2 (IntKind.u64.wrap (x6_2 - 1))) then (some (x6_0, x6_1, x6_2, 6)) else (word_open.l0 k x4_0 x4_1 x4_2 x6_0 x6_1 x6_2 x18 x19 (wrap64 (x20 + 1)))) else (none)) else (none)) else (some (x6_0, x6_1, x6_2, 0))
def word_open.f (k : Nat) (x0 : Int) (x1 : List Int) : Option (Int × Int × Int × Int) := (word_shapeOf.f x0).bind fun t88 => (if (!t88.2.2.2) = true then (some (t88.1, t88.2.1, t88.2.2.1, 4)) else (word_open.l0 k 0 0 0 t88.1 t88.2.1 t88.2.2.1 x1 (x1.length : Int) 0))
abbrev word_open.S : Sig := { ps := [.lf (.i .u8), .lf (.is .u64)], rs := [.ag [.i .i64, .i .i64, .i .u64], .lf (.i .i64)], wb := [], R := Int × Int × Int × Int, mkR := fun y0 y1 y2 y3 => some (y0, y1, y2, y3), un := fun r => [.int .i64 r.1, .int .i64 r.2.1, .int .u64 r.2.2.1, .int .i64 r.2.2.2] }
def word_open.F (k : Nat) : Fun := { S := word_open.S, f := word_open.f k }
abbrev word_open.vl0 : List (Nat × Kx) := [(4, .bx [.i .i64, .i .i64, .i .u64]), (6, .bx [.i .i64, .i .i64, .i .u64]), (18, .lf (.is .u64)), (19, .lf (.i .i64)), (20, .lf (.i .i64))]
def word_open.C (k : Nat) : Cfg := { T := TT, G := lookG [(136, [word_shapeOf.F k])], nt := 35, cuts := [⟨codeOf [true, true, true, false, true, false] 1, [true, true, true, false, true, false], word_open.vl0⟩], M0 := tabM }
def word_open.H (k : Nat) : List (CutF word_open.S.R) := [⟨word_open.vl0, word_open.l0 k⟩]
def word_shape_inf.f (x0_0 : Int) (x0_1 : Int) (x0_2 : Int) : Option (Int) := if 0 ≤ x0_0 then (some (shl .u64 (IntKind.u64.wrap x0_1) x0_0)) else (none)
abbrev word_shape_inf.S : Sig := { ps := [.ag [.i .i64, .i .i64, .i .u64]], rs := [.lf (.i .u64)], wb := [], R := Int, mkR := fun y0 => some y0, un := fun r => [.int .u64 r] }
def word_shape_inf.F (k : Nat) : Fun := { S := word_shape_inf.S, f := word_shape_inf.f }
def word_shape_inf.C (k : Nat) : Cfg := { T := TT, G := lookG [], nt := 9, cuts := [], M0 := tabM }
def word_shape_inf.H (k : Nat) : List (CutF word_shape_inf.S.R) := []
def word_Greatest_1.f (x0_0 : Int) (x0_1 : Int) (x0_2 : Int) : Option (Int) := (word_shape_inf.f x0_0 x0_1 x0_2).bind fun t91 => (some (IntKind.u64.wrap (t91 - 1)))
abbrev word_Greatest_1.S : Sig := { ps := [.ag [.i .i64, .i .i64, .i .u64]], rs := [.lf (.i .u64)], wb := [], R := Int, mkR := fun y0 => some y0, un := fun r => [.int .u64 r] }
def word_Greatest_1.F (k : Nat) : Fun := { S := word_Greatest_1.S, f := word_Greatest_1.f }
def word_Greatest_1.C (k : Nat) : Cfg := { T := TT, G := lookG [(83, [word_shape_inf.F k])], nt := 6, cuts := [], M0 := tabM }
def word_Greatest_1.H (k : Nat) : List (CutF word_Greatest_1.S.R) := []
def word_named_word_Greatest_1.f (k : Nat) (x0 : Int) (x1 : Bool) : Option (Int × Int) := (word_open.f k x0 ([] : List Int)).bind fun t99 => (if ¬ (t99.2.2.2 = 0) then (some (0, t99.2.2.2)) else ((word_Greatest_1.f t99.1 t99.2.1 t99.2.2.1).bind fun t100 => (if x1 = true then (some (Go.bits .or .u64 t100 t99.2.2.1, 0)) else (some (t100, 0)))))
abbrev word_named_word_Greatest_1.S : Sig := { ps := [.lf (.i .u8), .lf (.b), .lf (.fn 147)], rs := [.lf (.i .u64), .lf (.i .i64)], wb := [], R := Int × Int, mkR := fun y0 y1 => some (y0, y1), un := fun r => [.int .u64 r.1, .int .i64 r.2] }
def word_named_word_Greatest_1.F (k : Nat) : Fun := { S := word_named_word_Greatest_1.S, f := word_named_word_Greatest_1.f k }
def word_named_word_Greatest_1.C (k : Nat) : Cfg := { T := TT, G := lookG [(101, [word_open.F k]), (147, [word_Greatest_1.F k])], nt := 28, cuts := [], M0 := tabM }
def word_named_word_Greatest_1.H (k : Nat) : List (CutF word_named_word_Greatest_1.S.R) := []
def word_Greatest.f (k : Nat) (x0 : Int) (x1 : Bool) : Option (Int × Int) := (word_named_word_Greatest_1.f k x0 x1).bind fun t101 => (some (t101.1, t101.2))
abbrev word_Greatest.S : Sig := { ps := [.lf (.i .u8), .lf (.b)], rs := [.lf (.i .u64), .lf (.i .i64)], wb := [], R := Int × Int, mkR := fun y0 y1 => some (y0, y1), un := fun r => [.int .u64 r.1, .int .i64 r.2] }
def word_Greatest.F (k : Nat) : Fun := { S := word_Greatest.S, f := word_Greatest.f k }
def word_Greatest.C (k : Nat) : Cfg := { T := TT, G := lookG [(81, [word_named_word_Greatest_1.F k])], nt := 11, cuts := [], M0 := tabM }
def word_Greatest.H (k : Nat) : List (CutF word_Greatest.S.R) := []
def word_named_word_shape_inf.f (k : Nat) (x0 : Int) (x1 : Bool) : Option (Int × Int) := (word_open.f k x0 ([] : List Int)).bind fun t113 => (if ¬ (t113.2.2.2 = 0) then (some (0, t113.2.2.2)) else ((word_shape_inf.f t113.1 t113.2.1 t113.2.2.1).bind fun t114 => (if x1 = true then (some (Go.bits .or .u64 t114 t113.2.2.1, 0)) else (some (t114, 0)))))
abbrev word_named_word_shape_inf.S : Sig := { ps := [.lf (.i .u8), .lf (.b), .lf (.fn 83)], rs := [.lf (.i .u64), .lf (.i .i64)], wb := [], R := Int × Int, mkR := fun y0 y1 => some (y0, y1), un := fun r => [.int .u64 r.1, .int .i64 r.2] }
def word_named_word_shape_inf.F (k : Nat) : Fun := { S := word_named_word_shape_inf.S, f := word_named_word_shape_inf.f k }
def word_named_word_shape_inf.C (k : Nat) : Cfg := { T := TT, G := lookG [(83, [word_shape_inf.F k]), (101, [word_open.F k])], nt := 28, cuts := [], M0 := tabM }
def word_named_word_shape_inf.H (k : Nat) : List (CutF word_named_word_shape_inf.S.R) := []
def word_Inf.f (k : Nat) (x0 : Int) (x1 : Bool) : Option (Int × Int) := (word_named_word_shape_inf.f k x0 x1).bind fun t115 => (some (t115.1, t115.2))
abbrev word_Inf.S : Sig := { ps := [.lf (.i .u8), .lf (.b)], rs := [.lf (.i .u64), .lf (.i .i64)], wb := [], R := Int × Int, mkR := fun y0 y1 => some (y0, y1), un := fun r => [.int .u64 r.1, .int .i64 r.2] }
def word_Inf.F (k : Nat) : Fun := { S := word_Inf.S, f := word_Inf.f k }
def word_Inf.C (k : Nat) : Cfg := { T := TT, G := lookG [(81, [word_named_word_shape_inf.F k])], nt := 11, cuts := [], M0 := tabM }
def word_Inf.H (k : Nat) : List (CutF word_Inf.S.R) := []
def round_Over.j1 : Nat → Int → Bool → Bool → Option (Int × Int)
  | 0, _, _, _ => none
  | k + 1, x0, x2, x35 => if x35 = true then ((word_Greatest.f k x0 x2).bind fun t120 => (some (t120.1, t120.2))) else ((word_Inf.f k x0 x2).bind fun t121 => (some (t121.1, t121.2)))
def round_Over.f (k : Nat) (x0 : Int) (x1 : Int) (x2 : Bool) : Option (Int × Int) := (round_open.f k x0 x1 []).bind fun t119 => (if ¬ (t119.2.2.2 = 0) then (some (0, t119.2.2.2)) else (if x1 = 3 then (round_Over.j1 k x0 x2 true) else (if x1 = 4 then (if x2 = true then (round_Over.j1 k x0 x2 true) else (if x1 = 5 then (round_Over.j1 k x0 x2 (!x2)) else (round_Over.j1 k x0 x2 false))) else (if x1 = 5 then (round_Over.j1 k x0 x2 (!x2)) else (round_Over.j1 k x0 x2 false)))))
abbrev round_Over.S : Sig := { ps := [.lf (.i .u8), .lf (.i .u8), .lf (.b)], rs := [.lf (.i .u64), .lf (.i .i64)], wb := [], R := Int × Int, mkR := fun y0 y1 => some (y0, y1), un := fun r => [.int .u64 r.1, .int .i64 r.2] }
def round_Over.F (k : Nat) : Fun := { S := round_Over.S, f := round_Over.f k }
abbrev round_Over.vj1 : List (Nat × Kx) := [(0, .lf (.i .u8)), (2, .lf (.b)), (35, .lf (.b))]
def round_Over.C (k : Nat) : Cfg := { T := TT, G := lookG [(44, [word_Inf.F k]), (90, [round_open.F k]), (121, [word_Greatest.F k])], nt := 46, cuts := [⟨codeOf [true, true, false, true] 1, [true, true, false, true], round_Over.vj1⟩], M0 := tabM }
def round_Over.H (k : Nat) : List (CutF round_Over.S.R) := [⟨round_Over.vj1, round_Over.j1 k⟩]
def conv_mode.f (k : Nat) (x0 : Int) (x1 : Int) : Option (Int) := (round_Over.f k x0 x1 false).bind fun t122 => (some t122.2)
abbrev conv_mode.S : Sig := { ps := [.lf (.i .u8), .lf (.i .u8)], rs := [.lf (.i .i64)], wb := [], R := Int, mkR := fun y0 => some y0, un := fun r => [.int .i64 r] }
def conv_mode.F (k : Nat) : Fun := { S := conv_mode.S, f := conv_mode.f k }
def conv_mode.C (k : Nat) : Cfg := { T := TT, G := lookG [(79, [round_Over.F k])], nt := 14, cuts := [], M0 := tabM }
def conv_mode.H (k : Nat) : List (CutF conv_mode.S.R) := []
def word_shape_class.f (x0_0 : Int) (x0_1 : Int) (x0_2 : Int) (x1 : Int) : Option (Int) := if (Go.bits .andNot .u64 x1 x0_2) = 0 then (some 1) else (if 0 ≤ x0_0 then (if (Go.bits .andNot .u64 x1 x0_2) < (shl .u64 1 x0_0) then (some 2) else ((word_shape_inf.f x0_0 x0_1 x0_2).bind fun t133 => (if (Go.bits .andNot .u64 x1 x0_2) < t133 then (some 3) else ((word_shape_inf.f x0_0 x0_1 x0_2).bind fun t134 => (if (Go.bits .andNot .u64 x1 x0_2) = t134 then (some 4) else (some 5)))))) else (none))
abbrev word_shape_class.S : Sig := { ps := [.ag [.i .i64, .i .i64, .i .u64], .lf (.i .u64)], rs := [.lf (.i .u8)], wb := [], R := Int, mkR := fun y0 => some y0, un := fun r => [.int .u8 r] }
def word_shape_class.F (k : Nat) : Fun := { S := word_shape_class.S, f := word_shape_class.f }
def word_shape_class.C (k : Nat) : Cfg := { T := TT, G := lookG [(83, [word_shape_inf.F k])], nt := 29, cuts := [], M0 := tabM }
def word_shape_class.H (k : Nat) : List (CutF word_shape_class.S.R) := []
def word_Class.f (k : Nat) (x0 : Int) (x1 : Int) : Option (Int × Int) := (word_open.f k x0 ([x1] : List Int)).bind fun t136 => (if ¬ (t136.2.2.2 = 0) then (some (0, t136.2.2.2)) else ((word_shape_class.f t136.1 t136.2.1 t136.2.2.1 x1).bind fun t137 => (some (t137, 0))))
abbrev word_Class.S : Sig := { ps := [.lf (.i .u8), .lf (.i .u64)], rs := [.lf (.i .u8), .lf (.i .i64)], wb := [], R := Int × Int, mkR := fun y0 y1 => some (y0, y1), un := fun r => [.int .u8 r.1, .int .i64 r.2] }
def word_Class.F (k : Nat) : Fun := { S := word_Class.S, f := word_Class.f k }
def word_Class.C (k : Nat) : Cfg := { T := TT, G := lookG [(101, [word_open.F k]), (109, [word_shape_class.F k])], nt := 21, cuts := [], M0 := tabM }
def word_Class.H (k : Nat) : List (CutF word_Class.S.R) := []
def word_shape_split.f (x0_0 : Int) (x0_1 : Int) (x0_2 : Int) (x1 : Int) : Option (Bool × Int × Int) := if 0 ≤ x0_0 then (if 0 ≤ x0_0 then (some (decide (¬ (Go.bits .and .u64 x1 x0_2 = 0)), wrap64 (shr .u64 (Go.bits .andNot .u64 x1 x0_2) x0_0), Go.bits .and .u64 (Go.bits .andNot .u64 x1 x0_2) (IntKind.u64.wrap ((shl .u64 1 x0_0) - 1)))) else (none)) else (none)
abbrev word_shape_split.S : Sig := { ps := [.ag [.i .i64, .i .i64, .i .u64], .lf (.i .u64)], rs := [.ag [.b, .i .i64, .i .u64]], wb := [], R := Bool × Int × Int, mkR := fun y0 y1 y2 => some (y0, y1, y2), un := fun r => [.bool r.1, .int .i64 r.2.1, .int .u64 r.2.2] }
def word_shape_split.F (k : Nat) : Fun := { S := word_shape_split.S, f := word_shape_split.f }
def word_shape_split.C (k : Nat) : Cfg := { T := TT, G := lookG [], nt := 27, cuts := [], M0 := tabM }
def word_shape_split.H (k : Nat) : List (CutF word_shape_split.S.R) := []
def word_Split.f (k : Nat) (x0 : Int) (x1 : Int) : Option (Bool × Int × Int × Int) := (word_open.f k x0 ([x1] : List Int)).bind fun t142 => (if ¬ (t142.2.2.2 = 0) then (some (false, 0, 0, t142.2.2.2)) else ((word_shape_split.f t142.1 t142.2.1 t142.2.2.1 x1).bind fun t143 => (some (t143.1, t143.2.1, t143.2.2, 0))))
abbrev word_Split.S : Sig := { ps := [.lf (.i .u8), .lf (.i .u64)], rs := [.ag [.b, .i .i64, .i .u64], .lf (.i .i64)], wb := [], R := Bool × Int × Int × Int, mkR := fun y0 y1 y2 y3 => some (y0, y1, y2, y3), un := fun r => [.bool r.1, .int .i64 r.2.1, .int .u64 r.2.2.1, .int .i64 r.2.2.2] }
def word_Split.F (k : Nat) : Fun := { S := word_Split.S, f := word_Split.f k }
def word_Split.C (k : Nat) : Cfg := { T := TT, G := lookG [(86, [word_shape_split.F k]), (101, [word_open.F k])], nt := 22, cuts := [], M0 := tabM }
def word_Split.H (k : Nat) : List (CutF word_Split.S.R) := []
def conv_open.f (k : Nat) (x0 : Int) (x1 : Int) (x2 : Int) : Option (Int × Bool × Int) := (conv_mode.f k x0 x1).bind fun t145 => (if ¬ (t145 = 0) then (some (0, false, t145)) else ((word_Class.f k x0 x2).bind fun t146 => ((word_Split.f k x0 x2).bind fun t147 => (some (t146.1, t147.1, t146.2)))))
abbrev conv_open.S : Sig := { ps := [.lf (.i .u8), .lf (.i .u8), .lf (.i .u64)], rs := [.lf (.i .u8), .lf (.b), .lf (.i .i64)], wb := [], R := Int × Bool × Int, mkR := fun y0 y1 y2 => some (y0, y1, y2), un := fun r => [.int .u8 r.1, .bool r.2.1, .int .i64 r.2.2] }
def conv_open.F (k : Nat) : Fun := { S := conv_open.S, f := conv_open.f k }
def conv_open.C (k : Nat) : Cfg := { T := TT, G := lookG [(41, [conv_mode.F k]), (61, [word_Class.F k]), (80, [word_Split.F k])], nt := 36, cuts := [], M0 := tabM }
def conv_open.H (k : Nat) : List (CutF conv_open.S.R) := []
def word_shape_none.f (x0_0 : Int) (x0_1 : Int) (x0_2 : Int) : Option (Int) := (word_shape_inf.f x0_0 x0_1 x0_2).bind fun t152 => (if 0 ≤ (wrap64 (x0_0 - 1)) then (some (Go.bits .or .u64 t152 (shl .u64 1 (wrap64 (x0_0 - 1))))) else (none))
abbrev word_shape_none.S : Sig := { ps := [.ag [.i .i64, .i .i64, .i .u64]], rs := [.lf (.i .u64)], wb := [], R := Int, mkR := fun y0 => some y0, un := fun r => [.int .u64 r] }
def word_shape_none.F (k : Nat) : Fun := { S := word_shape_none.S, f := word_shape_none.f }
def word_shape_none.C (k : Nat) : Cfg := { T := TT, G := lookG [(83, [word_shape_inf.F k])], nt := 10, cuts := [], M0 := tabM }
def word_shape_none.H (k : Nat) : List (CutF word_shape_none.S.R) := []
def word_named_word_shape_none.f (k : Nat) (x0 : Int) (x1 : Bool) : Option (Int × Int) := (word_open.f k x0 ([] : List Int)).bind fun t160 => (if ¬ (t160.2.2.2 = 0) then (some (0, t160.2.2.2)) else ((word_shape_none.f t160.1 t160.2.1 t160.2.2.1).bind fun t161 => (if x1 = true then (some (Go.bits .or .u64 t161 t160.2.2.1, 0)) else (some (t161, 0)))))
abbrev word_named_word_shape_none.S : Sig := { ps := [.lf (.i .u8), .lf (.b), .lf (.fn 82)], rs := [.lf (.i .u64), .lf (.i .i64)], wb := [], R := Int × Int, mkR := fun y0 y1 => some (y0, y1), un := fun r => [.int .u64 r.1, .int .i64 r.2] }
def word_named_word_shape_none.F (k : Nat) : Fun := { S := word_named_word_shape_none.S, f := word_named_word_shape_none.f k }
def word_named_word_shape_none.C (k : Nat) : Cfg := { T := TT, G := lookG [(82, [word_shape_none.F k]), (101, [word_open.F k])], nt := 28, cuts := [], M0 := tabM }
def word_named_word_shape_none.H (k : Nat) : List (CutF word_named_word_shape_none.S.R) := []
def word_None.f (k : Nat) (x0 : Int) : Option (Int × Int) := (word_named_word_shape_none.f k x0 false).bind fun t162 => (some (t162.1, t162.2))
abbrev word_None.S : Sig := { ps := [.lf (.i .u8)], rs := [.lf (.i .u64), .lf (.i .i64)], wb := [], R := Int × Int, mkR := fun y0 y1 => some (y0, y1), un := fun r => [.int .u64 r.1, .int .i64 r.2] }
def word_None.F (k : Nat) : Fun := { S := word_None.S, f := word_None.f k }
def word_None.C (k : Nat) : Cfg := { T := TT, G := lookG [(81, [word_named_word_shape_none.F k])], nt := 8, cuts := [], M0 := tabM }
def word_None.H (k : Nat) : List (CutF word_None.S.R) := []
def word_Zero_1.f (x0_0 : Int) (x0_1 : Int) (x0_2 : Int) : Option (Int) := some 0
abbrev word_Zero_1.S : Sig := { ps := [.ag [.i .i64, .i .i64, .i .u64]], rs := [.lf (.i .u64)], wb := [], R := Int, mkR := fun y0 => some y0, un := fun r => [.int .u64 r] }
def word_Zero_1.F (k : Nat) : Fun := { S := word_Zero_1.S, f := word_Zero_1.f }
def word_Zero_1.C (k : Nat) : Cfg := { T := TT, G := lookG [], nt := 3, cuts := [], M0 := tabM }
def word_Zero_1.H (k : Nat) : List (CutF word_Zero_1.S.R) := []
def word_named_word_Zero_1.f (k : Nat) (x0 : Int) (x1 : Bool) : Option (Int × Int) := (word_open.f k x0 ([] : List Int)).bind fun t174 => (if ¬ (t174.2.2.2 = 0) then (some (0, t174.2.2.2)) else ((word_Zero_1.f t174.1 t174.2.1 t174.2.2.1).bind fun t175 => (if x1 = true then (some (Go.bits .or .u64 t175 t174.2.2.1, 0)) else (some (t175, 0)))))
abbrev word_named_word_Zero_1.S : Sig := { ps := [.lf (.i .u8), .lf (.b), .lf (.fn 84)], rs := [.lf (.i .u64), .lf (.i .i64)], wb := [], R := Int × Int, mkR := fun y0 y1 => some (y0, y1), un := fun r => [.int .u64 r.1, .int .i64 r.2] }
def word_named_word_Zero_1.F (k : Nat) : Fun := { S := word_named_word_Zero_1.S, f := word_named_word_Zero_1.f k }
def word_named_word_Zero_1.C (k : Nat) : Cfg := { T := TT, G := lookG [(84, [word_Zero_1.F k]), (101, [word_open.F k])], nt := 28, cuts := [], M0 := tabM }
def word_named_word_Zero_1.H (k : Nat) : List (CutF word_named_word_Zero_1.S.R) := []
def word_Zero.f (k : Nat) (x0 : Int) (x1 : Bool) : Option (Int × Int) := (word_named_word_Zero_1.f k x0 x1).bind fun t176 => (some (t176.1, t176.2))
abbrev word_Zero.S : Sig := { ps := [.lf (.i .u8), .lf (.b)], rs := [.lf (.i .u64), .lf (.i .i64)], wb := [], R := Int × Int, mkR := fun y0 y1 => some (y0, y1), un := fun r => [.int .u64 r.1, .int .i64 r.2] }
def word_Zero.F (k : Nat) : Fun := { S := word_Zero.S, f := word_Zero.f k }
def word_Zero.C (k : Nat) : Cfg := { T := TT, G := lookG [(81, [word_named_word_Zero_1.F k])], nt := 11, cuts := [], M0 := tabM }
def word_Zero.H (k : Nat) : List (CutF word_Zero.S.R) := []
def word_finite.f (k : Nat) (x0 : Int) (x1 : Int) : Option (Int × Int × Int × Int) := (word_open.f k x0 ([x1] : List Int)).bind fun t185 => (if t185.2.2.2 = 0 then ((word_shape_class.f t185.1 t185.2.1 t185.2.2.1 x1).bind fun t186 => (if t186 ≥ 4 then (some (t185.1, t185.2.1, t185.2.2.1, 7)) else (some (t185.1, t185.2.1, t185.2.2.1, t185.2.2.2)))) else (some (t185.1, t185.2.1, t185.2.2.1, t185.2.2.2)))
abbrev word_finite.S : Sig := { ps := [.lf (.i .u8), .lf (.i .u64)], rs := [.ag [.i .i64, .i .i64, .i .u64], .lf (.i .i64)], wb := [], R := Int × Int × Int × Int, mkR := fun y0 y1 y2 y3 => some (y0, y1, y2, y3), un := fun r => [.int .i64 r.1, .int .i64 r.2.1, .int .u64 r.2.2.1, .int .i64 r.2.2.2] }
def word_finite.F (k : Nat) : Fun := { S := word_finite.S, f := word_finite.f k }
def word_finite.C (k : Nat) : Cfg := { T := TT, G := lookG [(101, [word_open.F k]), (109, [word_shape_class.F k])], nt := 25, cuts := [], M0 := tabM }
def word_finite.H (k : Nat) : List (CutF word_finite.S.R) := []
def nat_trim.l0 : Nat → List Int → Option (List Int)
  | 0, _ => none
  | k + 1, x0 => if (x0.length : Int) > 0 then (if 0 ≤ wrap64 ((x0.length : Int) - 1) then (if wrap64 ((x0.length : Int) - 1) < (x0.length : Int) then (if (rd x0 (wrap64 ((x0.length : Int) - 1))) = 0 then (if 0 ≤ (wrap64 ((x0.length : Int) - 1)) then (if (wrap64 ((x0.length : Int) - 1)) ≤ (x0.length : Int) then (nat_trim.l0 k (x0.take (wrap64 ((x0.length : Int) - 1) : Int).toNat)) else (none)) else (none)) else (some x0)) else (none)) else (none)) else (some x0)
def nat_trim.f (k : Nat) (x0 : List Int) : Option (List Int) := nat_trim.l0 k x0
abbrev nat_trim.S : Sig := { ps := [.ow .u32], rs := [.ow .u32], wb := [], R := List Int, mkR := fun y0 => some y0, un := fun r => [.ints .u32 r] }
def nat_trim.F (k : Nat) : Fun := { S := nat_trim.S, f := nat_trim.f k }
abbrev nat_trim.vl0 : List (Nat × Kx) := [(0, .ow .u32)]
def nat_trim.C (k : Nat) : Cfg := { T := TT, G := lookG [], nt := 21, cuts := [⟨codeOf [true, false, false] 1, [true, false, false], nat_trim.vl0⟩], M0 := tabM }
def nat_trim.H (k : Nat) : List (CutF nat_trim.S.R) := [⟨nat_trim.vl0, nat_trim.l0 k⟩]
abbrev nat_trim.S1 : Sig := { ps := [.lf (.is .u32)], rs := [.lf (.is .u32)], wb := [], R := List Int, mkR := fun y0 => some y0, un := fun r => [.ints .u32 r] }
def nat_trim.F1 (k : Nat) : Fun := { S := nat_trim.S1, f := nat_trim.f k }
abbrev nat_trim.vl01 : List (Nat × Kx) := [(0, .lf (.is .u32))]
def nat_trim.C1 (k : Nat) : Cfg := { T := TT, G := lookG [], nt := 21, cuts := [⟨codeOf [true, false, false] 1, [true, false, false], nat_trim.vl01⟩], M0 := tabM }
def nat_trim.H1 (k : Nat) : List (CutF nat_trim.S1.R) := [⟨nat_trim.vl01, nat_trim.l0 k⟩]
def nat_Of.f (k : Nat) (x0 : Int) : Option (List Int) := (nat_trim.f k ([x0 % 4294967296, (x0 / 4294967296) % 4294967296] : List Int)).bind fun t191 => (some t191)
abbrev nat_Of.S : Sig := { ps := [.lf (.i .u64)], rs := [.lf (.is .u32)], wb := [], R := List Int, mkR := fun y0 => some y0, un := fun r => [.ints .u32 r] }
def nat_Of.F (k : Nat) : Fun := { S := nat_Of.S, f := nat_Of.f k }
def nat_Of.C (k : Nat) : Cfg := { T := TT, G := lookG [(124, [nat_trim.F k, nat_trim.F1 k])], nt := 10, cuts := [], M0 := tabM }
def nat_Of.H (k : Nat) : List (CutF nat_Of.S.R) := []
def word_shape_low.f (x0_0 : Int) (x0_1 : Int) (x0_2 : Int) : Option (Int) := some (wrap64 ((wrap64 (1 - (wrap64 (Int.tdiv x0_1 2)))) - x0_0))
abbrev word_shape_low.S : Sig := { ps := [.ag [.i .i64, .i .i64, .i .u64]], rs := [.lf (.i .i64)], wb := [], R := Int, mkR := fun y0 => some y0, un := fun r => [.int .i64 r] }
def word_shape_low.F (k : Nat) : Fun := { S := word_shape_low.S, f := word_shape_low.f }
def word_shape_low.C (k : Nat) : Cfg := { T := TT, G := lookG [], nt := 10, cuts := [], M0 := tabM }
def word_shape_low.H (k : Nat) : List (CutF word_shape_low.S.R) := []
abbrev bits_TrailingZeros32.S : Sig := { ps := [.lf (.i .u32)], rs := [.lf (.i .i64)], wb := [], R := Int, mkR := fun y0 => some y0, un := fun r => [.int .i64 r] }
def bits_TrailingZeros32.F (k : Nat) : Fun := { S := bits_TrailingZeros32.S, f := bits_TrailingZeros32.f }
def nat_Low.l0 : Nat → List Int → Int → Int → Option (Int)
  | 0, _, _, _ => none
  | k + 1, x8, x9, x10 => if x10 < x9 then (if 0 ≤ x10 then (if x10 < (x8.length : Int) then (if ¬ (rd x8 x10 = 0) then ((bits_TrailingZeros32.f (rd x8 x10)).bind fun t206 => (some (wrap64 ((wrap64 (32 * x10)) + t206)))) else (nat_Low.l0 k x8 x9 (wrap64 (x10 + 1)))) else (none)) else (none)) else (some 0)
def nat_Low.f (k : Nat) (x0 : List Int) : Option (Int) := (nat_May.f x0).bind fun t205 => (if (!t205) = true then (some 0) else (nat_Low.l0 k x0 (x0.length : Int) 0))
abbrev nat_Low.S : Sig := { ps := [.lf (.is .u32)], rs := [.lf (.i .i64)], wb := [], R := Int, mkR := fun y0 => some y0, un := fun r => [.int .i64 r] }
def nat_Low.F (k : Nat) : Fun := { S := nat_Low.S, f := nat_Low.f k }
abbrev nat_Low.vl0 : List (Nat × Kx) := [(8, .lf (.is .u32)), (9, .lf (.i .i64)), (10, .lf (.i .i64))]
def nat_Low.C (k : Nat) : Cfg := { T := TT, G := lookG [(122, [nat_May.F k]), (148, [bits_TrailingZeros32.F k])], nt := 23, cuts := [⟨codeOf [true, true, false, true, false] 1, [true, true, false, true, false], nat_Low.vl0⟩], M0 := tabM }
def nat_Low.H (k : Nat) : List (CutF nat_Low.S.R) := [⟨nat_Low.vl0, nat_Low.l0 k⟩]
def nat_down.l0 : Nat → List Int → Int → List Int → List Int → Int → Int → Option (List Int)
  | 0, _, _, _, _, _, _ => none
  | k + 1, x0, x5, x6, x23, x24, x25 => if x25 < x24 then (if 0 ≤ x25 then (if x25 < (x23.length : Int) then (if 0 ≤ x5 then (if 0 ≤ x25 then (if x25 < (x6.length : Int) then (if (wrap64 (x25 + 1)) < (x0.length : Int) then (if 0 ≤ x25 then (if x25 < ((x6.set (x25 : Int).toNat (shr .u32 (rd x23 x25) x5)).length : Int) then (if 0 ≤ wrap64 (x25 + 1) then (if wrap64 (x25 + 1) < (x0.length : Int) then (if 0 ≤ (wrap64 (32 - x5)) then (if 0 ≤ x25 then (if x25 < ((x6.set (x25 : Int).toNat (shr .u32 (rd x23 x25) x5)).length : Int) then (nat_down.l0 k x0 x5 ((x6.set (x25 : Int).toNat (shr .u32 (rd x23 x25) x5)).set (x25 : Int).toNat (Go.bits .or .u32 (rd (x6.set (x25 : Int).toNat (shr .u32 (rd x23 x25) x5)) x25) ((shl .u64 (IntKind.u64.wrap (rd x0 (wrap64 (x25 + 1)))) (wrap64 (32 - x5))) % 4294967296))) x23 x24 (wrap64 (x25 + 1))) else (none)) else (none)) else (none)) else (none)) else (none)) else (none)) else (none)) else (nat_down.l0 k x0 x5 (x6.set (x25 : Int).toNat (shr .u32 (rd x23 x25) x5)) x23 x24 (wrap64 (x25 + 1)))) else (none)) else (none)) else (none)) else (none)) else (none)) else ((nat_trim.f k x6).bind fun t213 => (some t213))
def nat_down.f (k : Nat) (x0 : List Int) (x1 : Int) : Option (List Int) := if (wrap64 (Int.tdiv x1 32)) ≥ (x0.length : Int) then (some ([] : List Int)) else (if 0 ≤ (wrap64 (Int.tdiv x1 32)) then (if (wrap64 (Int.tdiv x1 32)) ≤ (x0.length : Int) then (if 0 ≤ ((x0.drop (wrap64 (Int.tdiv x1 32) : Int).toNat).length : Int) then (if (((x0.drop (wrap64 (Int.tdiv x1 32) : Int).toNat).length : Int) : Int).toNat ≤ 70368744177664 then (nat_down.l0 k (x0.drop (wrap64 (Int.tdiv x1 32) : Int).toNat) (Int.tmod x1 32) (List.replicate (((x0.drop (wrap64 (Int.tdiv x1 32) : Int).toNat).length : Int) : Int).toNat (0 : Int)) (x0.drop (wrap64 (Int.tdiv x1 32) : Int).toNat) ((x0.drop (wrap64 (Int.tdiv x1 32) : Int).toNat).length : Int) 0) else (none)) else (none)) else (none)) else (none))
abbrev nat_down.S : Sig := { ps := [.lf (.is .u32), .lf (.i .i64)], rs := [.lf (.is .u32)], wb := [], R := List Int, mkR := fun y0 => some y0, un := fun r => [.ints .u32 r] }
def nat_down.F (k : Nat) : Fun := { S := nat_down.S, f := nat_down.f k }
abbrev nat_down.vl0 : List (Nat × Kx) := [(0, .lf (.is .u32)), (5, .lf (.i .i64)), (6, .ow .u32), (23, .lf (.is .u32)), (24, .lf (.i .i64)), (25, .lf (.i .i64))]
def nat_down.C (k : Nat) : Cfg := { T := TT, G := lookG [(124, [nat_trim.F k, nat_trim.F1 k])], nt := 60, cuts := [⟨codeOf [true, true, true, true, true, false, true, false] 1, [true, true, true, true, true, false, true, false], nat_down.vl0⟩], M0 := tabM }
def nat_down.H (k : Nat) : List (CutF nat_down.S.R) := [⟨nat_down.vl0, nat_down.l0 k⟩]
mutual
def bits_Len32.j0 : Nat → Int → Int → Option (Int)
  | 0, _, _ => none
  | k + 1, x0, x2 => if x0 ≥ 256 then (bits_Len32.j1 k (x0 / 256) (wrap64 (x2 + 8))) else (bits_Len32.j1 k x0 x2)
def bits_Len32.j1 : Nat → Int → Int → Option (Int)
  | 0, _, _ => none
  | k + 1, x0, x2 => if 0 ≤ x0 % 256 then (if x0 % 256 < (txt0.size : Int) then (some (wrap64 (x2 + (wrap64 (bt txt0 (x0 % 256)))))) else (none)) else (none)
end
def bits_Len32.f (k : Nat) (x0 : Int) : Option (Int) := if x0 ≥ 65536 then (bits_Len32.j0 k (x0 / 65536) 16) else (bits_Len32.j0 k x0 0)
abbrev bits_Len32.S : Sig := { ps := [.lf (.i .u32)], rs := [.lf (.i .i64)], wb := [], R := Int, mkR := fun y0 => some y0, un := fun r => [.int .i64 r] }
def bits_Len32.F (k : Nat) : Fun := { S := bits_Len32.S, f := bits_Len32.f k }
abbrev bits_Len32.vj0 : List (Nat × Kx) := [(0, .lf (.i .u32)), (2, .lf (.i .i64))]
abbrev bits_Len32.vj1 : List (Nat × Kx) := [(0, .lf (.i .u32)), (2, .lf (.i .i64))]
def bits_Len32.C (k : Nat) : Cfg := { T := TT, G := lookG [], nt := 19, cuts := [⟨codeOf [true, true] 1, [true, true], bits_Len32.vj0⟩, ⟨codeOf [true, true, true] 1, [true, true, true], bits_Len32.vj1⟩], M0 := tabM }
def bits_Len32.H (k : Nat) : List (CutF bits_Len32.S.R) := [⟨bits_Len32.vj0, bits_Len32.j0 k⟩, ⟨bits_Len32.vj1, bits_Len32.j1 k⟩]
def nat_Len.f (k : Nat) (x0 : List Int) : Option (Int) := (nat_May.f x0).bind fun t223 => (if (!t223) = true then (some 0) else (if (x0.length : Int) = 0 then (some 0) else (if 0 ≤ wrap64 ((x0.length : Int) - 1) then (if wrap64 ((x0.length : Int) - 1) < (x0.length : Int) then ((bits_Len32.f k (rd x0 (wrap64 ((x0.length : Int) - 1)))).bind fun t224 => (some (wrap64 ((wrap64 (32 * (wrap64 ((x0.length : Int) - 1)))) + t224)))) else (none)) else (none))))
abbrev nat_Len.S : Sig := { ps := [.lf (.is .u32)], rs := [.lf (.i .i64)], wb := [], R := Int, mkR := fun y0 => some y0, un := fun r => [.int .i64 r] }
def nat_Len.F (k : Nat) : Fun := { S := nat_Len.S, f := nat_Len.f k }
def nat_Len.C (k : Nat) : Cfg := { T := TT, G := lookG [(122, [nat_May.F k]), (140, [bits_Len32.F k])], nt := 23, cuts := [], M0 := tabM }
def nat_Len.H (k : Nat) : List (CutF nat_Len.S.R) := []
def nat_up.l0 : Nat → List Int → Int → Int → List Int → Int → Int → Option (List Int)
  | 0, _, _, _, _, _, _ => none
  | k + 1, x5, x6, x7, x24, x25, x26 => if x26 < x25 then (if 0 ≤ x26 then (if x26 < (x24.length : Int) then (if 0 ≤ x6 then (if x5.length + ([Go.bits .or .u32 (shl .u32 (rd x24 x26) x6) x7] : List Int).length < 35184372088832 then (if 0 ≤ (wrap64 (32 - x6)) then (nat_up.l0 k (x5 ++ ([Go.bits .or .u32 (shl .u32 (rd x24 x26) x6) x7] : List Int)) x6 ((shr .u64 (IntKind.u64.wrap (rd x24 x26)) (wrap64 (32 - x6))) % 4294967296) x24 x25 (wrap64 (x26 + 1))) else (none)) else (none)) else (none)) else (none)) else (none)) else (if x5.length + ([x7] : List Int).length < 35184372088832 then ((nat_trim.f k (x5 ++ ([x7] : List Int))).bind fun t231 => (some t231)) else (none))
def nat_up.f (k : Nat) (x0 : List Int) (x1 : Int) : Option (List Int) := if (x0.length : Int) = 0 then (some ([] : List Int)) else (if 0 ≤ (wrap64 (Int.tdiv x1 32)) then (if (wrap64 (Int.tdiv x1 32)) ≤ (wrap64 ((wrap64 ((wrap64 (Int.tdiv x1 32)) + (x0.length : Int))) + 1)) then (if (wrap64 ((wrap64 ((wrap64 (Int.tdiv x1 32)) + (x0.length : Int))) + 1) : Int).toNat ≤ 70368744177664 then (nat_up.l0 k (List.replicate (wrap64 (Int.tdiv x1 32) : Int).toNat (0 : Int)) (Int.tmod x1 32) 0 x0 (x0.length : Int) 0) else (none)) else (none)) else (none))
abbrev nat_up.S : Sig := { ps := [.lf (.is .u32), .lf (.i .i64)], rs := [.ow .u32], wb := [], R := List Int, mkR := fun y0 => some y0, un := fun r => [.ints .u32 r] }
def nat_up.F (k : Nat) : Fun := { S := nat_up.S, f := nat_up.f k }
abbrev nat_up.vl0 : List (Nat × Kx) := [(5, .ow .u32), (6, .lf (.i .i64)), (7, .lf (.i .u32)), (24, .lf (.is .u32)), (25, .lf (.i .i64)), (26, .lf (.i .i64))]
def nat_up.C (k : Nat) : Cfg := { T := TT, G := lookG [(124, [nat_trim.F k, nat_trim.F1 k])], nt := 50, cuts := [⟨codeOf [true, true, true, true, false, true, false] 1, [true, true, true, true, false, true, false], nat_up.vl0⟩], M0 := tabM }
def nat_up.H (k : Nat) : List (CutF nat_up.S.R) := [⟨nat_up.vl0, nat_up.l0 k⟩]
def nat_Shift.f (k : Nat) (x0 : List Int) (x1 : Int) : Option (List Int × Bool × Int) := (nat_May.f x0).bind fun t233 => (if (!t233) = true then (some (([] : List Int), false, 2)) else (if (x0.length : Int) = 0 then (some (([] : List Int), false, 0)) else (if x1 < (-131072) then (some (([] : List Int), true, 0)) else (if x1 < 0 then ((nat_down.f k x0 (wrap64 (-x1))).bind fun t234 => ((nat_Low.f k x0).bind fun t235 => (some (t234, decide (t235 < (wrap64 (-x1))), 0)))) else ((nat_Len.f k x0).bind fun t236 => (if x1 > (wrap64 (131072 - t236)) then (some (([] : List Int), false, 3)) else ((nat_up.f k x0 x1).bind fun t237 => (some (t237, false, 0)))))))))
abbrev nat_Shift.S : Sig := { ps := [.lf (.is .u32), .lf (.i .i64)], rs := [.lf (.is .u32), .lf (.b), .lf (.i .i64)], wb := [], R := List Int × Bool × Int, mkR := fun y0 y1 y2 => some (y0, y1, y2), un := fun r => [.ints .u32 r.1, .bool r.2.1, .int .i64 r.2.2] }
def nat_Shift.F (k : Nat) : Fun := { S := nat_Shift.S, f := nat_Shift.f k }
def nat_Shift.C (k : Nat) : Cfg := { T := TT, G := lookG [(110, [nat_Len.F k]), (122, [nat_May.F k]), (123, [nat_Low.F k]), (129, [nat_down.F k]), (130, [nat_up.F k])], nt := 39, cuts := [], M0 := tabM }
def nat_Shift.H (k : Nat) : List (CutF nat_Shift.S.R) := []
def dyad_Make.f (k : Nat) (x0 : Bool) (x1 : List Int) (x2 : Int) : Option (Bool × List Int × Int × Int) := (nat_May.f x1).bind fun t245 => (if (!t245) = true then (some (false, ([] : List Int), 0, 2)) else (if (x1.length : Int) = 0 then (some (false, ([] : List Int), 0, 0)) else ((nat_Low.f k x1).bind fun t246 => (if x2 > (wrap64 (16777216 - t246)) then (some (false, ([] : List Int), 0, 20)) else (if x2 < (wrap64 ((-16777216) - t246)) then (some (false, ([] : List Int), 0, 20)) else ((nat_Shift.f k x1 (wrap64 (-t246))).bind fun t247 => (some (x0, t247.1, wrap64 (x2 + t246), 0))))))))
abbrev dyad_Make.S : Sig := { ps := [.lf (.b), .lf (.is .u32), .lf (.i .i64)], rs := [.ag [.b, .is .u32, .i .i64], .lf (.i .i64)], wb := [], R := Bool × List Int × Int × Int, mkR := fun y0 y1 y2 y3 => some (y0, y1, y2, y3), un := fun r => [.bool r.1, .ints .u32 r.2.1, .int .i64 r.2.2.1, .int .i64 r.2.2.2] }
def dyad_Make.F (k : Nat) : Fun := { S := dyad_Make.S, f := dyad_Make.f k }
def dyad_Make.C (k : Nat) : Cfg := { T := TT, G := lookG [(97, [nat_Shift.F k]), (122, [nat_May.F k]), (123, [nat_Low.F k])], nt := 47, cuts := [], M0 := tabM }
def dyad_Make.H (k : Nat) : List (CutF dyad_Make.S.R) := []
def word_Value.j1 : Nat → Bool → List Int → Int → Int → Int → Int → Bool → Int → Int → Option (Bool × List Int × Int × Int)
  | 0, _, _, _, _, _, _, _, _, _ => none
  | k + 1, x4_0, x4_1, x4_2, x6_0, x6_1, x6_2, x8_0, x8_1, x8_2 => (nat_Of.f k x8_2).bind fun t254 => ((word_shape_low.f x6_0 x6_1 x6_2).bind fun t255 => ((dyad_Make.f k x8_0 t254 (wrap64 ((wrap64 ((mx x8_1 1) - 1)) + t255))).bind fun t256 => (some (t256.1, t256.2.1, t256.2.2.1, t256.2.2.2))))
def word_Value.f (k : Nat) (x0 : Int) (x1 : Int) : Option (Bool × List Int × Int × Int) := (word_finite.f k x0 x1).bind fun t252 => (if ¬ (t252.2.2.2 = 0) then (some (false, ([] : List Int), 0, t252.2.2.2)) else ((word_shape_split.f t252.1 t252.2.1 t252.2.2.1 x1).bind fun t253 => (if t253.2.1 > 0 then (if 0 ≤ t252.1 then (word_Value.j1 k false ([] : List Int) 0 t252.1 t252.2.1 t252.2.2.1 t253.1 t253.2.1 (Go.bits .or .u64 t253.2.2 (shl .u64 1 t252.1))) else (none)) else (word_Value.j1 k false ([] : List Int) 0 t252.1 t252.2.1 t252.2.2.1 t253.1 t253.2.1 t253.2.2))))
abbrev word_Value.S : Sig := { ps := [.lf (.i .u8), .lf (.i .u64)], rs := [.ag [.b, .is .u32, .i .i64], .lf (.i .i64)], wb := [], R := Bool × List Int × Int × Int, mkR := fun y0 y1 y2 y3 => some (y0, y1, y2, y3), un := fun r => [.bool r.1, .ints .u32 r.2.1, .int .i64 r.2.2.1, .int .i64 r.2.2.2] }
def word_Value.F (k : Nat) : Fun := { S := word_Value.S, f := word_Value.f k }
abbrev word_Value.vj1 : List (Nat × Kx) := [(4, .bx [.b, .is .u32, .i .i64]), (6, .bx [.i .i64, .i .i64, .i .u64]), (8, .bx [.b, .i .i64, .i .u64])]
def word_Value.C (k : Nat) : Cfg := { T := TT, G := lookG [(85, [word_finite.F k]), (86, [word_shape_split.F k]), (87, [dyad_Make.F k]), (88, [nat_Of.F k]), (89, [word_shape_low.F k])], nt := 47, cuts := [⟨codeOf [true, true, true, true, true] 1, [true, true, true, true, true], word_Value.vj1⟩], M0 := tabM }
def word_Value.H (k : Nat) : List (CutF word_Value.S.R) := [⟨word_Value.vj1, word_Value.j1 k⟩]
def dyad_Sign.j0 : Nat → Bool → List Int → Int → Bool → Option (Int)
  | 0, _, _, _, _ => none
  | k + 1, x1_0, x1_1, x1_2, x3 => if x3 = true then (some 0) else (if x1_0 = true then (some (-1)) else (some 1))
def dyad_Sign.f (k : Nat) (x0_0 : Bool) (x0_1 : List Int) (x0_2 : Int) : Option (Int) := (dyad_May.f x0_0 x0_1 x0_2).bind fun t264 => (if (!t264) = true then (dyad_Sign.j0 k x0_0 x0_1 x0_2 true) else (dyad_Sign.j0 k x0_0 x0_1 x0_2 (decide ((x0_1.length : Int) = 0))))
abbrev dyad_Sign.S : Sig := { ps := [.ag [.b, .is .u32, .i .i64]], rs := [.lf (.i .i64)], wb := [], R := Int, mkR := fun y0 => some y0, un := fun r => [.int .i64 r] }
def dyad_Sign.F (k : Nat) : Fun := { S := dyad_Sign.S, f := dyad_Sign.f k }
abbrev dyad_Sign.vj0 : List (Nat × Kx) := [(1, .bx [.b, .is .u32, .i .i64]), (3, .lf (.b))]
def dyad_Sign.C (k : Nat) : Cfg := { T := TT, G := lookG [(102, [dyad_May.F k])], nt := 16, cuts := [⟨codeOf [true, false, false, true] 1, [true, false, false, true], dyad_Sign.vj0⟩], M0 := tabM }
def dyad_Sign.H (k : Nat) : List (CutF dyad_Sign.S.R) := [⟨dyad_Sign.vj0, dyad_Sign.j0 k⟩]
def nat_Num.l0 : Nat → Int → List Int → Int → Int → Option (Int × Bool)
  | 0, _, _, _, _ => none
  | k + 1, x4, x15, x16, x17 => if x17 < x16 then (if 0 ≤ x17 then (if x17 < (x15.length : Int) then (if 0 ≤ (wrap64 (32 * x17)) then (nat_Num.l0 k (Go.bits .or .u64 x4 (shl .u64 (IntKind.u64.wrap (rd x15 x17)) (wrap64 (32 * x17)))) x15 x16 (wrap64 (x17 + 1))) else (none)) else (none)) else (none)) else (some (x4, true))
def nat_Num.f (k : Nat) (x0 : List Int) : Option (Int × Bool) := (nat_May.f x0).bind fun t278 => (if (!t278) = true then (some (0, false)) else (if (x0.length : Int) > 2 then (some (0, false)) else (nat_Num.l0 k 0 x0 (x0.length : Int) 0)))
abbrev nat_Num.S : Sig := { ps := [.lf (.is .u32)], rs := [.lf (.i .u64), .lf (.b)], wb := [], R := Int × Bool, mkR := fun y0 y1 => some (y0, y1), un := fun r => [.int .u64 r.1, .bool r.2] }
def nat_Num.F (k : Nat) : Fun := { S := nat_Num.S, f := nat_Num.f k }
abbrev nat_Num.vl0 : List (Nat × Kx) := [(4, .lf (.i .u64)), (15, .lf (.is .u32)), (16, .lf (.i .i64)), (17, .lf (.i .i64))]
def nat_Num.C (k : Nat) : Cfg := { T := TT, G := lookG [(122, [nat_May.F k])], nt := 31, cuts := [⟨codeOf [true, true, true, false, true, false] 1, [true, true, true, false, true, false], nat_Num.vl0⟩], M0 := tabM }
def nat_Num.H (k : Nat) : List (CutF nat_Num.S.R) := [⟨nat_Num.vl0, nat_Num.l0 k⟩]
def round_partOf.f (k : Nat) (x0_0 : Bool) (x0_1 : List Int) (x0_2 : Int) : Option (Int × Int × Bool) := (nat_Len.f k x0_1).bind fun t267 => ((nat_Shift.f k x0_1 (wrap64 (64 - t267))).bind fun t268 => ((nat_Num.f k t268.1).bind fun t279 => (some (t279.1, wrap64 (x0_2 + t267), t268.2.1))))
abbrev round_partOf.S : Sig := { ps := [.ag [.b, .is .u32, .i .i64]], rs := [.ag [.i .u64, .i .i64, .b]], wb := [], R := Int × Int × Bool, mkR := fun y0 y1 y2 => some (y0, y1, y2), un := fun r => [.int .u64 r.1, .int .i64 r.2.1, .bool r.2.2] }
def round_partOf.F (k : Nat) : Fun := { S := round_partOf.S, f := round_partOf.f k }
def round_partOf.C (k : Nat) : Cfg := { T := TT, G := lookG [(97, [nat_Shift.F k]), (103, [nat_Num.F k]), (110, [nat_Len.F k])], nt := 33, cuts := [], M0 := tabM }
def round_partOf.H (k : Nat) : List (CutF round_partOf.S.R) := []
def round_up.f (x0 : Int) (x1 : Bool) (x2 : Bool) (x3 : Bool) (x4 : Bool) : Option (Bool) := if x0 = 1 then (if (!x4) = true then (if (!x2) = true then (some false) else (some x3)) else (some x3)) else (if x0 = 2 then (some x3) else (if x0 = 4 then (if (!x1) = true then (if x3 = true then (some true) else (some x4)) else (some false)) else (if x0 = 5 then (if x1 = true then (if x3 = true then (some true) else (some x4)) else (some false)) else (some false))))
abbrev round_up.S : Sig := { ps := [.lf (.i .u8), .lf (.b), .lf (.b), .lf (.b), .lf (.b)], rs := [.lf (.b)], wb := [], R := Bool, mkR := fun y0 => some y0, un := fun r => [.bool r] }
def round_up.F (k : Nat) : Fun := { S := round_up.S, f := round_up.f }
def round_up.C (k : Nat) : Cfg := { T := TT, G := lookG [], nt := 42, cuts := [], M0 := tabM }
def round_up.H (k : Nat) : List (CutF round_up.S.R) := []
def round_btoi.f (x0 : Bool) : Option (Int) := if x0 = true then (some 1) else (some 0)
abbrev round_btoi.S : Sig := { ps := [.lf (.b)], rs := [.lf (.i .u64)], wb := [], R := Int, mkR := fun y0 => some y0, un := fun r => [.int .u64 r] }
def round_btoi.F (k : Nat) : Fun := { S := round_btoi.S, f := round_btoi.f }
def round_btoi.C (k : Nat) : Cfg := { T := TT, G := lookG [], nt := 4, cuts := [], M0 := tabM }
def round_btoi.H (k : Nat) : List (CutF round_btoi.S.R) := []
mutual
def round_part_units.j1 : Nat → Int → Bool → Int → Int → Bool → Int → Int → Bool → Bool → Option (Int × Bool)
  | 0, _, _, _, _, _, _, _, _, _ => none
  | k + 1, x1, x2, x4_0, x4_1, x4_2, x10, x11, x12, x13 => if x10 > 0 then (if 0 ≤ (wrap64 (x10 - 1)) then (if x13 = true then (round_part_units.j2 k x1 x2 x11 (decide ((Go.bits .and .u64 (shr .u64 x4_0 (wrap64 (x10 - 1))) 1) = 1)) true) else (if 0 ≤ (wrap64 (x10 - 1)) then (round_part_units.j2 k x1 x2 x11 (decide ((Go.bits .and .u64 (shr .u64 x4_0 (wrap64 (x10 - 1))) 1) = 1)) (decide (¬ (Go.bits .and .u64 x4_0 (IntKind.u64.wrap ((shl .u64 1 (wrap64 (x10 - 1))) - 1)) = 0)))) else (none))) else (none)) else (round_part_units.j2 k x1 x2 x11 x12 x13)
def round_part_units.j2 : Nat → Int → Bool → Int → Bool → Bool → Option (Int × Bool)
  | 0, _, _, _, _, _ => none
  | k + 1, x1, x2, x11, x12, x13 => (round_up.f x1 x2 (decide ((Go.bits .and .u64 x11 1) = 1)) x12 x13).bind fun t313 => ((round_btoi.f t313).bind fun t314 => (if (!x12) = true then (some (IntKind.u64.wrap (x11 + t314), (!x13))) else (some (IntKind.u64.wrap (x11 + t314), false))))
end
def round_part_units.f (k : Nat) (x0_0 : Int) (x0_1 : Int) (x0_2 : Bool) (x1 : Int) (x2 : Bool) (x3 : Int) : Option (Int × Bool) := if (wrap64 ((wrap64 (x3 - x0_1)) + 64)) > 64 then ((round_up.f x1 x2 false false true).bind fun t311 => ((round_btoi.f t311).bind fun t312 => (some (t312, false)))) else (if (wrap64 ((wrap64 (x3 - x0_1)) + 64)) < 64 then (if 0 ≤ (wrap64 ((wrap64 (x3 - x0_1)) + 64)) then (round_part_units.j1 k x1 x2 x0_0 x0_1 x0_2 (wrap64 ((wrap64 (x3 - x0_1)) + 64)) (shr .u64 x0_0 (wrap64 ((wrap64 (x3 - x0_1)) + 64))) false x0_2) else (none)) else (round_part_units.j1 k x1 x2 x0_0 x0_1 x0_2 (wrap64 ((wrap64 (x3 - x0_1)) + 64)) 0 false x0_2))
abbrev round_part_units.S : Sig := { ps := [.ag [.i .u64, .i .i64, .b], .lf (.i .u8), .lf (.b), .lf (.i .i64)], rs := [.lf (.i .u64), .lf (.b)], wb := [], R := Int × Bool, mkR := fun y0 y1 => some (y0, y1), un := fun r => [.int .u64 r.1, .bool r.2] }
def round_part_units.F (k : Nat) : Fun := { S := round_part_units.S, f := round_part_units.f k }
abbrev round_part_units.vj1 : List (Nat × Kx) := [(1, .lf (.i .u8)), (2, .lf (.b)), (4, .bx [.i .u64, .i .i64, .b]), (10, .lf (.i .i64)), (11, .lf (.i .u64)), (12, .lf (.b)), (13, .lf (.b))]
abbrev round_part_units.vj2 : List (Nat × Kx) := [(1, .lf (.i .u8)), (2, .lf (.b)), (11, .lf (.i .u64)), (12, .lf (.b)), (13, .lf (.b))]
def round_part_units.C (k : Nat) : Cfg := { T := TT, G := lookG [(149, [round_btoi.F k]), (150, [round_up.F k])], nt := 70, cuts := [⟨codeOf [true, true, true, true, true] 1, [true, true, true, true, true], round_part_units.vj1⟩, ⟨codeOf [true, true, true, true, true, true] 1, [true, true, true, true, true, true], round_part_units.vj2⟩], M0 := tabM }
def round_part_units.H (k : Nat) : List (CutF round_part_units.S.R) := [⟨round_part_units.vj1, round_part_units.j1 k⟩, ⟨round_part_units.vj2, round_part_units.j2 k⟩]
mutual
def bits_Len64.j0 : Nat → Int → Int → Option (Int)
  | 0, _, _ => none
  | k + 1, x0, x2 => if x0 ≥ 65536 then (bits_Len64.j1 k (x0 / 65536) (wrap64 (x2 + 16))) else (bits_Len64.j1 k x0 x2)
def bits_Len64.j1 : Nat → Int → Int → Option (Int)
  | 0, _, _ => none
  | k + 1, x0, x2 => if x0 ≥ 256 then (bits_Len64.j2 k (x0 / 256) (wrap64 (x2 + 8))) else (bits_Len64.j2 k x0 x2)
def bits_Len64.j2 : Nat → Int → Int → Option (Int)
  | 0, _, _ => none
  | k + 1, x0, x2 => if 0 ≤ x0 % 256 then (if x0 % 256 < (txt0.size : Int) then (some (wrap64 (x2 + (wrap64 (bt txt0 (x0 % 256)))))) else (none)) else (none)
end
def bits_Len64.f (k : Nat) (x0 : Int) : Option (Int) := if x0 ≥ 4294967296 then (bits_Len64.j0 k (x0 / 4294967296) 32) else (bits_Len64.j0 k x0 0)
abbrev bits_Len64.S : Sig := { ps := [.lf (.i .u64)], rs := [.lf (.i .i64)], wb := [], R := Int, mkR := fun y0 => some y0, un := fun r => [.int .i64 r] }
def bits_Len64.F (k : Nat) : Fun := { S := bits_Len64.S, f := bits_Len64.f k }
abbrev bits_Len64.vj0 : List (Nat × Kx) := [(0, .lf (.i .u64)), (2, .lf (.i .i64))]
abbrev bits_Len64.vj1 : List (Nat × Kx) := [(0, .lf (.i .u64)), (2, .lf (.i .i64))]
abbrev bits_Len64.vj2 : List (Nat × Kx) := [(0, .lf (.i .u64)), (2, .lf (.i .i64))]
def bits_Len64.C (k : Nat) : Cfg := { T := TT, G := lookG [], nt := 25, cuts := [⟨codeOf [true, true] 1, [true, true], bits_Len64.vj0⟩, ⟨codeOf [true, true, true] 1, [true, true, true], bits_Len64.vj1⟩, ⟨codeOf [true, true, true, true] 1, [true, true, true, true], bits_Len64.vj2⟩], M0 := tabM }
def bits_Len64.H (k : Nat) : List (CutF bits_Len64.S.R) := [⟨bits_Len64.vj0, bits_Len64.j0 k⟩, ⟨bits_Len64.vj1, bits_Len64.j1 k⟩, ⟨bits_Len64.vj2, bits_Len64.j2 k⟩]
def word_shape_join.f (x0_0 : Int) (x0_1 : Int) (x0_2 : Int) (x1_0 : Bool) (x1_1 : Int) (x1_2 : Int) : Option (Int) := if 0 ≤ x0_0 then (if x1_0 = true then (some (Go.bits .or .u64 (Go.bits .or .u64 (shl .u64 (IntKind.u64.wrap x1_1) x0_0) x1_2) x0_2)) else (some (Go.bits .or .u64 (shl .u64 (IntKind.u64.wrap x1_1) x0_0) x1_2))) else (none)
abbrev word_shape_join.S : Sig := { ps := [.ag [.i .i64, .i .i64, .i .u64], .ag [.b, .i .i64, .i .u64]], rs := [.lf (.i .u64)], wb := [], R := Int, mkR := fun y0 => some y0, un := fun r => [.int .u64 r] }
def word_shape_join.F (k : Nat) : Fun := { S := word_shape_join.S, f := word_shape_join.f }
def word_shape_join.C (k : Nat) : Cfg := { T := TT, G := lookG [], nt := 22, cuts := [], M0 := tabM }
def word_shape_join.H (k : Nat) : List (CutF word_shape_join.S.R) := []
def word_Of.f (k : Nat) (x0 : Int) (x1_0 : Bool) (x1_1 : List Int) (x1_2 : Int) : Option (Int × Int) := (word_open.f k x0 ([] : List Int)).bind fun t351 => (if ¬ (t351.2.2.2 = 0) then (some (0, t351.2.2.2)) else ((dyad_May.f x1_0 x1_1 x1_2).bind fun t352 => (if (!t352) = true then (some (0, 2)) else ((nat_Num.f k x1_1).bind fun t353 => ((bits_Len64.f k t353.1).bind fun t354 => (if (!t353.2) = true then (some (0, 7)) else (if t354 > (wrap64 (t351.1 + 1)) then (some (0, 7)) else (if ¬ (t353.1 = 0) then ((word_shape_low.f t351.1 t351.2.1 t351.2.2.1).bind fun t355 => (if x1_2 < t355 then (some (0, 7)) else (if (wrap64 (x1_2 + t354)) > (wrap64 ((wrap64 (Int.tdiv t351.2.1 2)) + 1)) then (some (0, 7)) else (if t353.1 = 0 then (some (0, 0)) else ((word_shape_low.f t351.1 t351.2.1 t351.2.2.1).bind fun t356 => (if 0 ≤ (wrap64 (x1_2 - (mx (wrap64 ((wrap64 ((wrap64 (x1_2 + t354)) - t351.1)) - 1)) t356))) then ((word_shape_low.f t351.1 t351.2.1 t351.2.2.1).bind fun t357 => (if 0 ≤ t351.1 then ((word_shape_join.f t351.1 t351.2.1 t351.2.2.1 x1_0 0 (IntKind.u64.wrap ((shl .u64 (IntKind.u64.wrap (wrap64 ((mx (wrap64 ((wrap64 ((wrap64 (x1_2 + t354)) - t351.1)) - 1)) t356) - t357))) t351.1) + (shl .u64 t353.1 (wrap64 (x1_2 - (mx (wrap64 ((wrap64 ((wrap64 (x1_2 + t354)) - t351.1)) - 1)) t356))))))).bind fun t358 => (some (t358, 0))) else (none))) else (none))))))) else (if t353.1 = 0 then (some (0, 0)) else ((word_shape_low.f t351.1 t351.2.1 t351.2.2.1).bind fun t359 => (if 0 ≤ (wrap64 (x1_2 - (mx (wrap64 ((wrap64 ((wrap64 (x1_2 + t354)) - t351.1)) - 1)) t359))) then ((word_shape_low.f t351.1 t351.2.1 t351.2.2.1).bind fun t360 => (if 0 ≤ t351.1 then ((word_shape_join.f t351.1 t351.2.1 t351.2.2.1 x1_0 0 (IntKind.u64.wrap ((shl .u64 (IntKind.u64.wrap (wrap64 ((mx (wrap64 ((wrap64 ((wrap64 (x1_2 + t354)) - t351.1)) - 1)) t359) - t360))) t351.1) + (shl .u64 t353.1 (wrap64 (x1_2 - (mx (wrap64 ((wrap64 ((wrap64 (x1_2 + t354)) - t351.1)) - 1)) t359))))))).bind fun t361 => (some (t361, 0))) else (none))) else (none))))))))))))
abbrev word_Of.S : Sig := { ps := [.lf (.i .u8), .ag [.b, .is .u32, .i .i64]], rs := [.lf (.i .u64), .lf (.i .i64)], wb := [], R := Int × Int, mkR := fun y0 y1 => some (y0, y1), un := fun r => [.int .u64 r.1, .int .i64 r.2] }
def word_Of.F (k : Nat) : Fun := { S := word_Of.S, f := word_Of.f k }
def word_Of.C (k : Nat) : Cfg := { T := TT, G := lookG [(89, [word_shape_low.F k]), (101, [word_open.F k]), (102, [dyad_May.F k]), (103, [nat_Num.F k]), (104, [bits_Len64.F k]), (105, [word_shape_join.F k])], nt := 95, cuts := [], M0 := tabM }
def word_Of.H (k : Nat) : List (CutF word_Of.S.R) := []
def round_part_word.j1 : Nat → Int → Bool → Int → Int → Bool → Int → Int → Int → Bool → Int → Option (Int × Int)
  | 0, _, _, _, _, _, _, _, _, _, _ => none
  | k + 1, x3, x4, x5_0, x5_1, x5_2, x7_0, x7_1, x7_2, x14, x19 => if x14 = true then (some (x19, 0)) else ((round_part_units.f k x5_0 x5_1 x5_2 x3 x4 (wrap64 (x5_1 - x7_0))).bind fun t395 => ((bits_Len64.f k t395.1).bind fun t396 => (if (wrap64 ((wrap64 (t396 + x5_1)) - x7_0)) < (wrap64 (x7_1 + x7_0)) then (some (x19, 24)) else (some (x19, 16)))))
def round_part_word.f (k : Nat) (x0_0 : Int) (x0_1 : Int) (x0_2 : Bool) (x1 : Int) (x2_0 : Int) (x2_1 : Int) (x2_2 : Int) (x3 : Int) (x4 : Bool) : Option (Int × Int) := (round_part_units.f k x0_0 x0_1 x0_2 x3 x4 (mx (wrap64 (x0_1 - x2_0)) x2_1)).bind fun t388 => ((bits_Len64.f k t388.1).bind fun t389 => (if (wrap64 (t389 + (mx (wrap64 (x0_1 - x2_0)) x2_1))) > x2_2 then ((round_Over.f k x1 x3 x4).bind fun t390 => (some (t390.1, 20))) else ((nat_Of.f k t388.1).bind fun t391 => ((dyad_Make.f k x4 t391 (mx (wrap64 (x0_1 - x2_0)) x2_1)).bind fun t392 => ((word_Of.f k x1 t392.1 t392.2.1 t392.2.2.1).bind fun t393 => (if t388.1 = 0 then ((word_Zero.f k x1 x4).bind fun t394 => (round_part_word.j1 k x3 x4 x0_0 x0_1 x0_2 x2_0 x2_1 x2_2 t388.2 t394.1)) else (round_part_word.j1 k x3 x4 x0_0 x0_1 x0_2 x2_0 x2_1 x2_2 t388.2 t393.1)))))))
abbrev round_part_word.S : Sig := { ps := [.ag [.i .u64, .i .i64, .b], .lf (.i .u8), .ag [.i .i64, .i .i64, .i .i64], .lf (.i .u8), .lf (.b)], rs := [.lf (.i .u64), .lf (.i .u8)], wb := [], R := Int × Int, mkR := fun y0 y1 => some (y0, y1), un := fun r => [.int .u64 r.1, .int .u8 r.2] }
def round_part_word.F (k : Nat) : Fun := { S := round_part_word.S, f := round_part_word.f k }
abbrev round_part_word.vj1 : List (Nat × Kx) := [(3, .lf (.i .u8)), (4, .lf (.b)), (5, .bx [.i .u64, .i .i64, .b]), (7, .bx [.i .i64, .i .i64, .i .i64]), (14, .lf (.b)), (19, .lf (.i .u64))]
def round_part_word.C (k : Nat) : Cfg := { T := TT, G := lookG [(45, [word_Zero.F k]), (55, [word_Of.F k]), (79, [round_Over.F k]), (87, [dyad_Make.F k]), (88, [nat_Of.F k]), (104, [bits_Len64.F k]), (126, [round_part_units.F k])], nt := 106, cuts := [⟨codeOf [true, true, true, true, true, true, true] 1, [true, true, true, true, true, true, true], round_part_word.vj1⟩], M0 := tabM }
def round_part_word.H (k : Nat) : List (CutF round_part_word.S.R) := [⟨round_part_word.vj1, round_part_word.j1 k⟩]
def round_Round.f (k : Nat) (x0 : Int) (x1 : Int) (x2_0 : Bool) (x2_1 : List Int) (x2_2 : Int) : Option (Int × Int × Int) := (round_open.f k x0 x1 [(x2_0, x2_1, x2_2)]).bind fun t399 => (if ¬ (t399.2.2.2 = 0) then (some (0, 0, t399.2.2.2)) else ((dyad_Sign.f k x2_0 x2_1 x2_2).bind fun t400 => (if t400 = 0 then (some (0, 0, 0)) else ((round_partOf.f k x2_0 x2_1 x2_2).bind fun t401 => ((round_part_word.f k t401.1 t401.2.1 t401.2.2 x0 t399.1 t399.2.1 t399.2.2.1 x1 x2_0).bind fun t402 => (some (t402.1, t402.2, 0)))))))
abbrev round_Round.S : Sig := { ps := [.lf (.i .u8), .lf (.i .u8), .ag [.b, .is .u32, .i .i64]], rs := [.lf (.i .u64), .lf (.i .u8), .lf (.i .i64)], wb := [], R := Int × Int × Int, mkR := fun y0 y1 y2 => some (y0, y1, y2), un := fun r => [.int .u64 r.1, .int .u8 r.2.1, .int .i64 r.2.2] }
def round_Round.F (k : Nat) : Fun := { S := round_Round.S, f := round_Round.f k }
def round_Round.C (k : Nat) : Cfg := { T := TT, G := lookG [(56, [dyad_Sign.F k]), (90, [round_open.F k]), (91, [round_partOf.F k]), (92, [round_part_word.F k])], nt := 40, cuts := [], M0 := tabM }
def round_Round.H (k : Nat) : List (CutF round_Round.S.R) := []
def conv_To.f (k : Nat) (x0 : Int) (x1 : Int) (x2 : Int) (x3 : Int) : Option (Int × Int × Int) := (conv_mode.f k x1 x2).bind fun t408 => (if t408 = 4 then (some (0, 0, t408)) else ((conv_open.f k x0 x2 x3).bind fun t409 => (if ¬ (t409.2.2 = 0) then (some (0, 0, t409.2.2)) else (if t409.1 = 5 then ((word_None.f k x1).bind fun t410 => (some (t410.1, 0, 0))) else (if t409.1 = 4 then ((word_Inf.f k x1 t409.2.1).bind fun t411 => (some (t411.1, 0, 0))) else (if t409.1 = 1 then ((word_Zero.f k x1 t409.2.1).bind fun t412 => (some (t412.1, 0, 0))) else ((word_Value.f k x0 x3).bind fun t413 => ((round_Round.f k x1 x2 t413.1 t413.2.1 t413.2.2.1).bind fun t414 => (some (t414.1, t414.2.1, t414.2.2))))))))))
abbrev conv_To.S : Sig := { ps := [.lf (.i .u8), .lf (.i .u8), .lf (.i .u8), .lf (.i .u64)], rs := [.lf (.i .u64), .lf (.i .u8), .lf (.i .i64)], wb := [], R := Int × Int × Int, mkR := fun y0 y1 y2 => some (y0, y1, y2), un := fun r => [.int .u64 r.1, .int .u8 r.2.1, .int .i64 r.2.2] }
def conv_To.F (k : Nat) : Fun := { S := conv_To.S, f := conv_To.f k }
def conv_To.C (k : Nat) : Cfg := { T := TT, G := lookG [(41, [conv_mode.F k]), (42, [conv_open.F k]), (43, [word_None.F k]), (44, [word_Inf.F k]), (45, [word_Zero.F k]), (46, [word_Value.F k]), (47, [round_Round.F k])], nt := 80, cuts := [], M0 := tabM }
def conv_To.H (k : Nat) : List (CutF conv_To.S.R) := []
def nat_all.l0 : Nat → List (List Int) → Int → Int → Option (Bool)
  | 0, _, _, _ => none
  | k + 1, x5, x6, x7 => if x7 < x6 then (if 0 ≤ x7 then (if x7 < (x5.length : Int) then ((nat_May.f (rdT [.is .u32] x5 x7)).bind fun t431 => (if (!t431) = true then (some false) else (nat_all.l0 k x5 x6 (wrap64 (x7 + 1))))) else (none)) else (none)) else (some true)
def nat_all.f (k : Nat) (x0 : List (List Int)) : Option (Bool) := nat_all.l0 k x0 (x0.length : Int) 0
abbrev nat_all.S : Sig := { ps := [.lf (.rw [.is .u32])], rs := [.lf (.b)], wb := [], R := Bool, mkR := fun y0 => some y0, un := fun r => [.bool r] }
def nat_all.F (k : Nat) : Fun := { S := nat_all.S, f := nat_all.f k }
abbrev nat_all.vl0 : List (Nat × Kx) := [(5, .lf (.rw [.is .u32])), (6, .lf (.i .i64)), (7, .lf (.i .i64))]
def nat_all.C (k : Nat) : Cfg := { T := TT, G := lookG [(122, [nat_May.F k])], nt := 15, cuts := [⟨codeOf [true, false, true, false] 1, [true, false, true, false], nat_all.vl0⟩], M0 := tabM }
def nat_all.H (k : Nat) : List (CutF nat_all.S.R) := [⟨nat_all.vl0, nat_all.l0 k⟩]
def nat_cmp.l0 : Nat → List Int → List Int → Int → Option (Int)
  | 0, _, _, _ => none
  | k + 1, x0, x1, x5 => if x5 ≥ 0 then (if 0 ≤ x5 then (if x5 < (x0.length : Int) then (if 0 ≤ x5 then (if x5 < (x1.length : Int) then (if ¬ (rd x0 x5 = rd x1 x5) then (if 0 ≤ x5 then (if x5 < (x0.length : Int) then (if 0 ≤ x5 then (if x5 < (x1.length : Int) then (if (rd x0 x5) < (rd x1 x5) then (some (-1)) else (some 1)) else (none)) else (none)) else (none)) else (none)) else (nat_cmp.l0 k x0 x1 (wrap64 (x5 - 1)))) else (none)) else (none)) else (none)) else (none)) else (some 0)
def nat_cmp.f (k : Nat) (x0 : List Int) (x1 : List Int) : Option (Int) := if (x0.length : Int) < (x1.length : Int) then (some (-1)) else (if (x0.length : Int) > (x1.length : Int) then (some 1) else (nat_cmp.l0 k x0 x1 (wrap64 ((x0.length : Int) - 1))))
abbrev nat_cmp.S : Sig := { ps := [.lf (.is .u32), .lf (.is .u32)], rs := [.lf (.i .i64)], wb := [], R := Int, mkR := fun y0 => some y0, un := fun r => [.int .i64 r] }
def nat_cmp.F (k : Nat) : Fun := { S := nat_cmp.S, f := nat_cmp.f k }
abbrev nat_cmp.vl0 : List (Nat × Kx) := [(0, .lf (.is .u32)), (1, .lf (.is .u32)), (5, .lf (.i .i64))]
def nat_cmp.C (k : Nat) : Cfg := { T := TT, G := lookG [], nt := 43, cuts := [⟨codeOf [true, true, false, true, false] 1, [true, true, false, true, false], nat_cmp.vl0⟩], M0 := tabM }
def nat_cmp.H (k : Nat) : List (CutF nat_cmp.S.R) := [⟨nat_cmp.vl0, nat_cmp.l0 k⟩]
def bits_Div32.f (x0 : Int) (x1 : Int) (x2 : Int) : Option (Int × Int) := if ¬ (x2 = 0) then (if x2 ≤ x0 then (none) else (if (IntKind.u64.wrap x2) = 0 then (none) else (if (IntKind.u64.wrap x2) = 0 then (none) else (some ((IntKind.u64.wrap (Int.tdiv (Go.bits .or .u64 (IntKind.u64.wrap ((IntKind.u64.wrap x0) * 4294967296)) (IntKind.u64.wrap x1)) (IntKind.u64.wrap x2))) % 4294967296, (Int.tmod (Go.bits .or .u64 (IntKind.u64.wrap ((IntKind.u64.wrap x0) * 4294967296)) (IntKind.u64.wrap x1)) (IntKind.u64.wrap x2)) % 4294967296))))) else (if (IntKind.u64.wrap x2) = 0 then (none) else (if (IntKind.u64.wrap x2) = 0 then (none) else (some ((IntKind.u64.wrap (Int.tdiv (Go.bits .or .u64 (IntKind.u64.wrap ((IntKind.u64.wrap x0) * 4294967296)) (IntKind.u64.wrap x1)) (IntKind.u64.wrap x2))) % 4294967296, (Int.tmod (Go.bits .or .u64 (IntKind.u64.wrap ((IntKind.u64.wrap x0) * 4294967296)) (IntKind.u64.wrap x1)) (IntKind.u64.wrap x2)) % 4294967296))))
abbrev bits_Div32.S : Sig := { ps := [.lf (.i .u32), .lf (.i .u32), .lf (.i .u32)], rs := [.lf (.i .u32), .lf (.i .u32)], wb := [], R := Int × Int, mkR := fun y0 y1 => some (y0, y1), un := fun r => [.int .u32 r.1, .int .u32 r.2] }
def bits_Div32.F (k : Nat) : Fun := { S := bits_Div32.S, f := bits_Div32.f }
def bits_Div32.C (k : Nat) : Cfg := { T := TT, G := lookG [], nt := 33, cuts := [], M0 := tabM }
def bits_Div32.H (k : Nat) : List (CutF bits_Div32.S.R) := []
def nat_small.l0 : Nat → List Int → Int → List Int → Int → Int → Option (List Int × Int)
  | 0, _, _, _, _, _ => none
  | k + 1, x0, x1, x6, x7, x8 => if x8 ≥ 0 then (if 0 ≤ x8 then (if x8 < (x0.length : Int) then ((bits_Div32.f x7 (rd x0 x8) x1).bind fun t437 => (if 0 ≤ x8 then (if x8 < (x6.length : Int) then (nat_small.l0 k x0 x1 (x6.set (x8 : Int).toNat t437.1) t437.2 (wrap64 (x8 - 1))) else (none)) else (none))) else (none)) else (none)) else ((nat_trim.f k x6).bind fun t438 => (some (t438, x7)))
def nat_small.f (k : Nat) (x0 : List Int) (x1 : Int) : Option (List Int × Int) := if 0 ≤ (x0.length : Int) then (if ((x0.length : Int) : Int).toNat ≤ 70368744177664 then (nat_small.l0 k x0 x1 (List.replicate ((x0.length : Int) : Int).toNat (0 : Int)) 0 (wrap64 ((x0.length : Int) - 1))) else (none)) else (none)
abbrev nat_small.S : Sig := { ps := [.lf (.is .u32), .lf (.i .u32)], rs := [.lf (.is .u32), .lf (.i .u32)], wb := [], R := List Int × Int, mkR := fun y0 y1 => some (y0, y1), un := fun r => [.ints .u32 r.1, .int .u32 r.2] }
def nat_small.F (k : Nat) : Fun := { S := nat_small.S, f := nat_small.f k }
abbrev nat_small.vl0 : List (Nat × Kx) := [(0, .lf (.is .u32)), (1, .lf (.i .u32)), (6, .ow .u32), (7, .lf (.i .u32)), (8, .lf (.i .i64))]
def nat_small.C (k : Nat) : Cfg := { T := TT, G := lookG [(124, [nat_trim.F k, nat_trim.F1 k]), (151, [bits_Div32.F k])], nt := 35, cuts := [⟨codeOf [true, true, true, false, true, false] 1, [true, true, true, false, true, false], nat_small.vl0⟩], M0 := tabM }
def nat_small.H (k : Nat) : List (CutF nat_small.S.R) := [⟨nat_small.vl0, nat_small.l0 k⟩]
def bits_LeadingZeros32.f (k : Nat) (x0 : Int) : Option (Int) := (bits_Len32.f k x0).bind fun t442 => (some (wrap64 (32 - t442)))
abbrev bits_LeadingZeros32.S : Sig := { ps := [.lf (.i .u32)], rs := [.lf (.i .i64)], wb := [], R := Int, mkR := fun y0 => some y0, un := fun r => [.int .i64 r] }
def bits_LeadingZeros32.F (k : Nat) : Fun := { S := bits_LeadingZeros32.S, f := bits_LeadingZeros32.f k }
def bits_LeadingZeros32.C (k : Nat) : Cfg := { T := TT, G := lookG [(140, [bits_Len32.F k])], nt := 6, cuts := [], M0 := tabM }
def bits_LeadingZeros32.H (k : Nat) : List (CutF bits_LeadingZeros32.S.R) := []
def bits_Sub32.f (x0 : Int) (x1 : Int) (x2 : Int) : Option (Int × Int) := some ((((x0 - x1) % 4294967296) - x2) % 4294967296, (Go.bits .or .u32 (Go.bits .and .u32 (Go.bits .xor .u32 4294967295 x0) x1) (Go.bits .and .u32 (Go.bits .xor .u32 4294967295 (Go.bits .xor .u32 x0 x1)) ((((x0 - x1) % 4294967296) - x2) % 4294967296))) / 2147483648)
abbrev bits_Sub32.S : Sig := { ps := [.lf (.i .u32), .lf (.i .u32), .lf (.i .u32)], rs := [.lf (.i .u32), .lf (.i .u32)], wb := [], R := Int × Int, mkR := fun y0 y1 => some (y0, y1), un := fun r => [.int .u32 r.1, .int .u32 r.2] }
def bits_Sub32.F (k : Nat) : Fun := { S := bits_Sub32.S, f := bits_Sub32.f }
def bits_Sub32.C (k : Nat) : Cfg := { T := TT, G := lookG [], nt := 25, cuts := [], M0 := tabM }
def bits_Sub32.H (k : Nat) : List (CutF bits_Sub32.S.R) := []
def bits_Add32.f (x0 : Int) (x1 : Int) (x2 : Int) : Option (Int × Int) := some ((IntKind.u64.wrap ((IntKind.u64.wrap ((IntKind.u64.wrap x0) + (IntKind.u64.wrap x1))) + (IntKind.u64.wrap x2))) % 4294967296, ((IntKind.u64.wrap ((IntKind.u64.wrap ((IntKind.u64.wrap x0) + (IntKind.u64.wrap x1))) + (IntKind.u64.wrap x2))) / 4294967296) % 4294967296)
abbrev bits_Add32.S : Sig := { ps := [.lf (.i .u32), .lf (.i .u32), .lf (.i .u32)], rs := [.lf (.i .u32), .lf (.i .u32)], wb := [], R := Int × Int, mkR := fun y0 y1 => some (y0, y1), un := fun r => [.int .u32 r.1, .int .u32 r.2] }
def bits_Add32.F (k : Nat) : Fun := { S := bits_Add32.S, f := bits_Add32.f }
def bits_Add32.C (k : Nat) : Cfg := { T := TT, G := lookG [], nt := 22, cuts := [], M0 := tabM }
def bits_Add32.H (k : Nat) : List (CutF bits_Add32.S.R) := []
mutual
def nat_step.l0 : Nat → List Int → List Int → Int → Int → Int → Option (Int × List Int)
  | 0, _, _, _, _, _ => none
  | k + 1, x0, x1, x5, x7, x8 => if x7 ≥ 4294967296 then (if 0 ≤ wrap64 (x5 - 1) then (if wrap64 (x5 - 1) < (x1.length : Int) then (if (IntKind.u64.wrap (x8 + (IntKind.u64.wrap (rd x1 (wrap64 (x5 - 1)))))) ≥ 4294967296 then (nat_step.l1 k x0 x1 x5 (IntKind.u64.wrap (x7 - 1)) 0 0 x1 (x1.length : Int) 0) else (nat_step.l0 k x0 x1 x5 (IntKind.u64.wrap (x7 - 1)) (IntKind.u64.wrap (x8 + (IntKind.u64.wrap (rd x1 (wrap64 (x5 - 1)))))))) else (none)) else (none)) else (if 0 ≤ wrap64 (x5 - 2) then (if wrap64 (x5 - 2) < (x1.length : Int) then (if 0 ≤ wrap64 (x5 - 2) then (if wrap64 (x5 - 2) < (x0.length : Int) then (if (IntKind.u64.wrap (x7 * (IntKind.u64.wrap (rd x1 (wrap64 (x5 - 2)))))) > (Go.bits .or .u64 (IntKind.u64.wrap (x8 * 4294967296)) (IntKind.u64.wrap (rd x0 (wrap64 (x5 - 2))))) then (if 0 ≤ wrap64 (x5 - 1) then (if wrap64 (x5 - 1) < (x1.length : Int) then (if (IntKind.u64.wrap (x8 + (IntKind.u64.wrap (rd x1 (wrap64 (x5 - 1)))))) ≥ 4294967296 then (nat_step.l1 k x0 x1 x5 (IntKind.u64.wrap (x7 - 1)) 0 0 x1 (x1.length : Int) 0) else (nat_step.l0 k x0 x1 x5 (IntKind.u64.wrap (x7 - 1)) (IntKind.u64.wrap (x8 + (IntKind.u64.wrap (rd x1 (wrap64 (x5 - 1)))))))) else (none)) else (none)) else (nat_step.l1 k x0 x1 x5 x7 0 0 x1 (x1.length : Int) 0)) else (none)) else (none)) else (none)) else (none))
def nat_step.l1 : Nat → List Int → List Int → Int → Int → Int → Int → List Int → Int → Int → Option (Int × List Int)
  | 0, _, _, _, _, _, _, _, _, _ => none
  | k + 1, x0, x1, x5, x7, x9, x10, x81, x82, x83 => if x83 < x82 then (if 0 ≤ x83 then (if x83 < (x81.length : Int) then (if 0 ≤ x83 then (if x83 < (x0.length : Int) then ((bits_Sub32.f (rd x0 x83) ((IntKind.u64.wrap (x10 + (IntKind.u64.wrap (x7 * (IntKind.u64.wrap (rd x81 x83)))))) % 4294967296) x9).bind fun t472 => (if 0 ≤ x83 then (if x83 < (x0.length : Int) then (nat_step.l1 k (x0.set (x83 : Int).toNat t472.1) x1 x5 x7 t472.2 ((IntKind.u64.wrap (x10 + (IntKind.u64.wrap (x7 * (IntKind.u64.wrap (rd x81 x83)))))) / 4294967296) x81 x82 (wrap64 (x83 + 1))) else (none)) else (none))) else (none)) else (none)) else (none)) else (none)) else (if 0 ≤ x5 then (if x5 < (x0.length : Int) then ((bits_Sub32.f (rd x0 x5) (x10 % 4294967296) x9).bind fun t473 => (if 0 ≤ x5 then (if x5 < (x0.length : Int) then (if t473.2 = 0 then (some (x7 % 4294967296, x0.set (x5 : Int).toNat t473.1)) else (nat_step.l2 k (x0.set (x5 : Int).toNat t473.1) x5 x7 0 x1 (x1.length : Int) 0)) else (none)) else (none))) else (none)) else (none))
def nat_step.l2 : Nat → List Int → Int → Int → Int → List Int → Int → Int → Option (Int × List Int)
  | 0, _, _, _, _, _, _, _ => none
  | k + 1, x0, x5, x7, x13, x129, x130, x131 => if x131 < x130 then (if 0 ≤ x131 then (if x131 < (x129.length : Int) then (if 0 ≤ x131 then (if x131 < (x0.length : Int) then ((bits_Add32.f (rd x0 x131) (rd x129 x131) x13).bind fun t471 => (if 0 ≤ x131 then (if x131 < (x0.length : Int) then (nat_step.l2 k (x0.set (x131 : Int).toNat t471.1) x5 x7 t471.2 x129 x130 (wrap64 (x131 + 1))) else (none)) else (none))) else (none)) else (none)) else (none)) else (none)) else (if 0 ≤ x5 then (if x5 < (x0.length : Int) then (if 0 ≤ x5 then (if x5 < (x0.length : Int) then (some ((IntKind.u64.wrap (x7 - 1)) % 4294967296, x0.set (x5 : Int).toNat (((rd x0 x5) + x13) % 4294967296))) else (none)) else (none)) else (none)) else (none))
end
def nat_step.f (k : Nat) (x0 : List Int) (x1 : List Int) : Option (Int × List Int) := if 0 ≤ (x1.length : Int) then (if (x1.length : Int) < (x0.length : Int) then (if 0 ≤ wrap64 ((x1.length : Int) - 1) then (if wrap64 ((x1.length : Int) - 1) < (x0.length : Int) then (if 0 ≤ wrap64 ((x1.length : Int) - 1) then (if wrap64 ((x1.length : Int) - 1) < (x1.length : Int) then (if (IntKind.u64.wrap (rd x1 (wrap64 ((x1.length : Int) - 1)))) = 0 then (none) else (if 0 ≤ wrap64 ((x1.length : Int) - 1) then (if wrap64 ((x1.length : Int) - 1) < (x1.length : Int) then (if (IntKind.u64.wrap (rd x1 (wrap64 ((x1.length : Int) - 1)))) = 0 then (none) else (nat_step.l0 k x0 x1 (x1.length : Int) (IntKind.u64.wrap (Int.tdiv (Go.bits .or .u64 (IntKind.u64.wrap ((IntKind.u64.wrap (rd x0 (x1.length : Int))) * 4294967296)) (IntKind.u64.wrap (rd x0 (wrap64 ((x1.length : Int) - 1))))) (IntKind.u64.wrap (rd x1 (wrap64 ((x1.length : Int) - 1)))))) (Int.tmod (Go.bits .or .u64 (IntKind.u64.wrap ((IntKind.u64.wrap (rd x0 (x1.length : Int))) * 4294967296)) (IntKind.u64.wrap (rd x0 (wrap64 ((x1.length : Int) - 1))))) (IntKind.u64.wrap (rd x1 (wrap64 ((x1.length : Int) - 1))))))) else (none)) else (none))) else (none)) else (none)) else (none)) else (none)) else (none)) else (none)
abbrev nat_step.S : Sig := { ps := [.bo .u32, .lf (.is .u32)], rs := [.lf (.i .u32)], wb := [.is .u32], R := Int × List Int, mkR := fun y0 y1 => some (y0, y1), un := fun r => [.int .u32 r.1, .ints .u32 r.2] }
def nat_step.F (k : Nat) : Fun := { S := nat_step.S, f := nat_step.f k }
abbrev nat_step.vl0 : List (Nat × Kx) := [(0, .bo .u32), (1, .lf (.is .u32)), (5, .lf (.i .i64)), (7, .lf (.i .u64)), (8, .lf (.i .u64))]
abbrev nat_step.vl1 : List (Nat × Kx) := [(0, .bo .u32), (1, .lf (.is .u32)), (5, .lf (.i .i64)), (7, .lf (.i .u64)), (9, .lf (.i .u32)), (10, .lf (.i .u64)), (81, .lf (.is .u32)), (82, .lf (.i .i64)), (83, .lf (.i .i64))]
abbrev nat_step.vl2 : List (Nat × Kx) := [(0, .bo .u32), (5, .lf (.i .i64)), (7, .lf (.i .u64)), (13, .lf (.i .u32)), (129, .lf (.is .u32)), (130, .lf (.i .i64)), (131, .lf (.i .i64))]
def nat_step.C (k : Nat) : Cfg := { T := TT, G := lookG [(154, [bits_Sub32.F k]), (156, [bits_Add32.F k])], nt := 160, cuts := [⟨codeOf [true, true, true, true, false, false] 1, [true, true, true, true, false, false], nat_step.vl0⟩, ⟨codeOf [true, true, true, true, true, true, false, true, false] 1, [true, true, true, true, true, true, false, true, false], nat_step.vl1⟩, ⟨codeOf [true, true, true, true, true, true, true, true, true, true, false, true, false] 1, [true, true, true, true, true, true, true, true, true, true, false, true, false], nat_step.vl2⟩], M0 := tabM }
def nat_step.H (k : Nat) : List (CutF nat_step.S.R) := [⟨nat_step.vl0, nat_step.l0 k⟩, ⟨nat_step.vl1, nat_step.l1 k⟩, ⟨nat_step.vl2, nat_step.l2 k⟩]
mutual
def nat_long.l0 : Nat → List Int → Int → List Int → List Int → Option (List Int × List Int)
  | 0, _, _, _, _ => none
  | k + 1, x0, x6, x7, x8 => if (x8.length : Int) ≤ (x0.length : Int) then (if x8.length + ([0] : List Int).length < 35184372088832 then (nat_long.l0 k x0 x6 x7 (x8 ++ ([0] : List Int))) else (none)) else (if 0 ≤ (wrap64 ((x8.length : Int) - (x7.length : Int))) then (if (wrap64 ((x8.length : Int) - (x7.length : Int)) : Int).toNat ≤ 70368744177664 then (nat_long.l1 k x6 x7 x8 (x7.length : Int) (List.replicate (wrap64 ((x8.length : Int) - (x7.length : Int)) : Int).toNat (0 : Int)) (wrap64 (((List.replicate (wrap64 ((x8.length : Int) - (x7.length : Int)) : Int).toNat (0 : Int)).length : Int) - 1))) else (none)) else (none))
def nat_long.l1 : Nat → Int → List Int → List Int → Int → List Int → Int → Option (List Int × List Int)
  | 0, _, _, _, _, _, _ => none
  | k + 1, x6, x7, x8, x9, x10, x11 => if x11 ≥ 0 then (if 0 ≤ x11 then (if x11 ≤ (wrap64 ((wrap64 (x11 + x9)) + 1)) then (if (wrap64 ((wrap64 (x11 + x9)) + 1)) ≤ (x8.length : Int) then ((nat_step.f k ((x8.take (wrap64 ((wrap64 (x11 + x9)) + 1) : Int).toNat).drop (x11 : Int).toNat) x7).bind fun t488 => (if 0 ≤ x11 then (if x11 < (x10.length : Int) then (nat_long.l1 k x6 x7 (x8.take (x11 : Int).toNat ++ t488.2 ++ x8.drop (wrap64 ((wrap64 (x11 + x9)) + 1) : Int).toNat) x9 (x10.set (x11 : Int).toNat t488.1) (wrap64 (x11 - 1))) else (none)) else (none))) else (none)) else (none)) else (none)) else ((nat_trim.f k x10).bind fun t489 => (if 0 ≤ x9 then (if x9 ≤ (x8.length : Int) then ((nat_trim.f k (x8.take (x9 : Int).toNat)).bind fun t490 => ((nat_down.f k t490 x6).bind fun t491 => ((nat_trim.f k t491).bind fun t492 => (some (t489, t492))))) else (none)) else (none)))
end
def nat_long.f (k : Nat) (x0 : List Int) (x1 : List Int) : Option (List Int × List Int) := if 0 ≤ wrap64 ((x1.length : Int) - 1) then (if wrap64 ((x1.length : Int) - 1) < (x1.length : Int) then ((bits_LeadingZeros32.f k (rd x1 (wrap64 ((x1.length : Int) - 1)))).bind fun t485 => ((nat_up.f k x1 t485).bind fun t486 => ((nat_up.f k x0 t485).bind fun t487 => (nat_long.l0 k x0 t485 t486 t487)))) else (none)) else (none)
abbrev nat_long.S : Sig := { ps := [.lf (.is .u32), .lf (.is .u32)], rs := [.lf (.is .u32), .lf (.is .u32)], wb := [], R := List Int × List Int, mkR := fun y0 y1 => some (y0, y1), un := fun r => [.ints .u32 r.1, .ints .u32 r.2] }
def nat_long.F (k : Nat) : Fun := { S := nat_long.S, f := nat_long.f k }
abbrev nat_long.vl0 : List (Nat × Kx) := [(0, .lf (.is .u32)), (6, .lf (.i .i64)), (7, .ow .u32), (8, .ow .u32)]
abbrev nat_long.vl1 : List (Nat × Kx) := [(6, .lf (.i .i64)), (7, .ow .u32), (8, .ow .u32), (9, .lf (.i .i64)), (10, .ow .u32), (11, .lf (.i .i64))]
def nat_long.C (k : Nat) : Cfg := { T := TT, G := lookG [(124, [nat_trim.F k, nat_trim.F1 k]), (129, [nat_down.F k]), (130, [nat_up.F k]), (152, [bits_LeadingZeros32.F k]), (153, [nat_step.F k])], nt := 68, cuts := [⟨codeOf [true, true, true, true, false, false] 1, [true, true, true, true, false, false], nat_long.vl0⟩, ⟨codeOf [true, true, true, true, true, true, true, false, true, false] 1, [true, true, true, true, true, true, true, false, true, false], nat_long.vl1⟩], M0 := tabM }
def nat_long.H (k : Nat) : List (CutF nat_long.S.R) := [⟨nat_long.vl0, nat_long.l0 k⟩, ⟨nat_long.vl1, nat_long.l1 k⟩]
def nat_QuoRem.f (k : Nat) (x0 : List Int) (x1 : List Int) : Option (List Int × List Int × Int) := (nat_all.f k [x0, x1]).bind fun t497 => (if (!t497) = true then (some (([] : List Int), ([] : List Int), 2)) else (if (x1.length : Int) = 0 then (some (([] : List Int), ([] : List Int), 11)) else ((nat_cmp.f k x0 x1).bind fun t498 => (if t498 < 0 then (if x0.length < 35184372088832 then (some (([] : List Int), x0, 0)) else (none)) else (if (x1.length : Int) = 1 then (if 0 < (x1.length : Int) then ((nat_small.f k x0 (rd x1 0)).bind fun t499 => ((nat_trim.f k ([t499.2] : List Int)).bind fun t500 => (some (t499.1, t500, 0)))) else (none)) else ((nat_long.f k x0 x1).bind fun t501 => (some (t501.1, t501.2, 0))))))))
abbrev nat_QuoRem.S : Sig := { ps := [.lf (.is .u32), .lf (.is .u32)], rs := [.lf (.is .u32), .lf (.is .u32), .lf (.i .i64)], wb := [], R := List Int × List Int × Int, mkR := fun y0 y1 y2 => some (y0, y1, y2), un := fun r => [.ints .u32 r.1, .ints .u32 r.2.1, .int .i64 r.2.2] }
def nat_QuoRem.F (k : Nat) : Fun := { S := nat_QuoRem.S, f := nat_QuoRem.f k }
def nat_QuoRem.C (k : Nat) : Cfg := { T := TT, G := lookG [(124, [nat_trim.F k, nat_trim.F1 k]), (131, [nat_all.F k]), (132, [nat_cmp.F k]), (133, [nat_small.F k]), (134, [nat_long.F k])], nt := 49, cuts := [], M0 := tabM }
def nat_QuoRem.H (k : Nat) : List (CutF nat_QuoRem.S.R) := []
def nat_Cmp.f (k : Nat) (x0 : List Int) (x1 : List Int) : Option (Int × Int) := (nat_all.f k [x0, x1]).bind fun t507 => (if (!t507) = true then (some (0, 2)) else ((nat_cmp.f k x0 x1).bind fun t508 => (some (t508, 0))))
abbrev nat_Cmp.S : Sig := { ps := [.lf (.is .u32), .lf (.is .u32)], rs := [.lf (.i .i64), .lf (.i .i64)], wb := [], R := Int × Int, mkR := fun y0 y1 => some (y0, y1), un := fun r => [.int .i64 r.1, .int .i64 r.2] }
def nat_Cmp.F (k : Nat) : Fun := { S := nat_Cmp.S, f := nat_Cmp.f k }
def nat_Cmp.C (k : Nat) : Cfg := { T := TT, G := lookG [(131, [nat_all.F k]), (132, [nat_cmp.F k])], nt := 14, cuts := [], M0 := tabM }
def nat_Cmp.H (k : Nat) : List (CutF nat_Cmp.S.R) := []
mutual
def nat_sub.l0 : Nat → List Int → List Int → List Int → Int → Int → Int → Option (List Int)
  | 0, _, _, _, _, _, _ => none
  | k + 1, x0, x1, x5, x6, x13, x14 => if x14 < x13 then (if x14 < (x1.length : Int) then (if 0 ≤ x14 then (if x14 < (x1.length : Int) then (nat_sub.j1 k x0 x1 x5 x6 x14 (rd x1 x14) x13 x14) else (none)) else (none)) else (nat_sub.j1 k x0 x1 x5 x6 x14 0 x13 x14)) else ((nat_trim.f k x5).bind fun t528 => (some t528))
def nat_sub.j1 : Nat → List Int → List Int → List Int → Int → Int → Int → Int → Int → Option (List Int)
  | 0, _, _, _, _, _, _, _, _ => none
  | k + 1, x0, x1, x5, x6, x7, x8, x13, x14 => if 0 ≤ x7 then (if x7 < (x0.length : Int) then ((bits_Sub32.f (rd x0 x7) x8 x6).bind fun t527 => (if 0 ≤ x7 then (if x7 < (x5.length : Int) then (nat_sub.l0 k x0 x1 (x5.set (x7 : Int).toNat t527.1) t527.2 x13 (wrap64 (x14 + 1))) else (none)) else (none))) else (none)) else (none)
end
def nat_sub.f (k : Nat) (x0 : List Int) (x1 : List Int) : Option (List Int) := if 0 ≤ (x0.length : Int) then (if ((x0.length : Int) : Int).toNat ≤ 70368744177664 then (nat_sub.l0 k x0 x1 (List.replicate ((x0.length : Int) : Int).toNat (0 : Int)) 0 (x0.length : Int) 0) else (none)) else (none)
abbrev nat_sub.S : Sig := { ps := [.lf (.is .u32), .lf (.is .u32)], rs := [.lf (.is .u32)], wb := [], R := List Int, mkR := fun y0 => some y0, un := fun r => [.ints .u32 r] }
def nat_sub.F (k : Nat) : Fun := { S := nat_sub.S, f := nat_sub.f k }
abbrev nat_sub.vl0 : List (Nat × Kx) := [(0, .lf (.is .u32)), (1, .lf (.is .u32)), (5, .ow .u32), (6, .lf (.i .u32)), (13, .lf (.i .i64)), (14, .lf (.i .i64))]
abbrev nat_sub.vj1 : List (Nat × Kx) := [(0, .lf (.is .u32)), (1, .lf (.is .u32)), (5, .ow .u32), (6, .lf (.i .u32)), (7, .lf (.i .i64)), (8, .lf (.i .u32)), (13, .lf (.i .i64)), (14, .lf (.i .i64))]
def nat_sub.C (k : Nat) : Cfg := { T := TT, G := lookG [(124, [nat_trim.F k, nat_trim.F1 k]), (154, [bits_Sub32.F k])], nt := 41, cuts := [⟨codeOf [true, true, true, false, true, false] 1, [true, true, true, false, true, false], nat_sub.vl0⟩, ⟨codeOf [true, true, true, false, true, false, false, true, true, false, false, true, true, true] 1, [true, true, true, false, true, false, false, true, true, false, false, true, true, true], nat_sub.vj1⟩], M0 := tabM }
def nat_sub.H (k : Nat) : List (CutF nat_sub.S.R) := [⟨nat_sub.vl0, nat_sub.l0 k⟩, ⟨nat_sub.vj1, nat_sub.j1 k⟩]
def nat_Sub.f (k : Nat) (x0 : List Int) (x1 : List Int) : Option (List Int × Int) := (nat_all.f k [x0, x1]).bind fun t531 => (if (!t531) = true then (some (([] : List Int), 2)) else ((nat_cmp.f k x0 x1).bind fun t532 => (if t532 < 0 then (some (([] : List Int), 10)) else ((nat_sub.f k x0 x1).bind fun t533 => (some (t533, 0))))))
abbrev nat_Sub.S : Sig := { ps := [.lf (.is .u32), .lf (.is .u32)], rs := [.lf (.is .u32), .lf (.i .i64)], wb := [], R := List Int × Int, mkR := fun y0 y1 => some (y0, y1), un := fun r => [.ints .u32 r.1, .int .i64 r.2] }
def nat_Sub.F (k : Nat) : Fun := { S := nat_Sub.S, f := nat_Sub.f k }
def nat_Sub.C (k : Nat) : Cfg := { T := TT, G := lookG [(131, [nat_all.F k]), (132, [nat_cmp.F k]), (135, [nat_sub.F k])], nt := 18, cuts := [], M0 := tabM }
def nat_Sub.H (k : Nat) : List (CutF nat_Sub.S.R) := []
mutual
def conv_left.j0 : Nat → Bool → List Int → Int → Bool → List Int → Int → Int → List Int → List Int → Int → Bool → Option (Bool × List Int × Int)
  | 0, _, _, _, _, _, _, _, _, _, _, _ => none
  | k + 1, x2_0, x2_1, x2_2, x4_0, x4_1, x4_2, x5, x9, x13, x18, x20 => if x18 > 0 then (conv_left.j1 k x4_0 x4_1 x4_2 x5 x9 x13 x2_0 true) else (if x18 = 0 then (conv_left.j1 k x4_0 x4_1 x4_2 x5 x9 x13 x2_0 x20) else (conv_left.j1 k x4_0 x4_1 x4_2 x5 x9 x13 x2_0 false))
def conv_left.j1 : Nat → Bool → List Int → Int → Int → List Int → List Int → Bool → Bool → Option (Bool × List Int × Int)
  | 0, _, _, _, _, _, _, _, _ => none
  | k + 1, x4_0, x4_1, x4_2, x5, x9, x13, x21, x90 => if x90 = true then ((nat_Sub.f k x9 x13).bind fun t541 => (conv_left.j2 k x4_0 x4_1 x4_2 x5 t541.1 (!x21))) else (conv_left.j2 k x4_0 x4_1 x4_2 x5 x13 x21)
def conv_left.j2 : Nat → Bool → List Int → Int → Int → List Int → Bool → Option (Bool × List Int × Int)
  | 0, _, _, _, _, _, _ => none
  | k + 1, x4_0, x4_1, x4_2, x5, x13, x21 => (dyad_Make.f k x21 x13 x5).bind fun t540 => (some (t540.1, t540.2.1, t540.2.2.1))
end
def conv_left.f (k : Nat) (x0_0 : Bool) (x0_1 : List Int) (x0_2 : Int) (x1_0 : Bool) (x1_1 : List Int) (x1_2 : Int) : Option (Bool × List Int × Int) := (nat_Shift.f k x0_1 (wrap64 (x0_2 - (mn x0_2 x1_2)))).bind fun t535 => ((nat_Shift.f k x1_1 (wrap64 (x1_2 - (mn x0_2 x1_2)))).bind fun t536 => ((nat_QuoRem.f k t535.1 t536.1).bind fun t537 => ((nat_Shift.f k t537.2.1 1).bind fun t538 => ((nat_Cmp.f k t538.1 t536.1).bind fun t539 => (if (t537.1.length : Int) > 0 then (if 0 < (t537.1.length : Int) then (conv_left.j0 k x0_0 x0_1 x0_2 false ([] : List Int) 0 (mn x0_2 x1_2) t536.1 t537.2.1 t539.1 (decide ((Go.bits .and .u32 (rd t537.1 0) 1) = 1))) else (none)) else (conv_left.j0 k x0_0 x0_1 x0_2 false ([] : List Int) 0 (mn x0_2 x1_2) t536.1 t537.2.1 t539.1 false))))))
abbrev conv_left.S : Sig := { ps := [.ag [.b, .is .u32, .i .i64], .ag [.b, .is .u32, .i .i64]], rs := [.ag [.b, .is .u32, .i .i64]], wb := [], R := Bool × List Int × Int, mkR := fun y0 y1 y2 => some (y0, y1, y2), un := fun r => [.bool r.1, .ints .u32 r.2.1, .int .i64 r.2.2] }
def conv_left.F (k : Nat) : Fun := { S := conv_left.S, f := conv_left.f k }
abbrev conv_left.vj0 : List (Nat × Kx) := [(2, .bx [.b, .is .u32, .i .i64]), (4, .bx [.b, .is .u32, .i .i64]), (5, .lf (.i .i64)), (9, .lf (.is .u32)), (13, .lf (.is .u32)), (18, .lf (.i .i64)), (20, .lf (.b))]
abbrev conv_left.vj1 : List (Nat × Kx) := [(4, .bx [.b, .is .u32, .i .i64]), (5, .lf (.i .i64)), (9, .lf (.is .u32)), (13, .lf (.is .u32)), (21, .lf (.b)), (90, .lf (.b))]
abbrev conv_left.vj2 : List (Nat × Kx) := [(4, .bx [.b, .is .u32, .i .i64]), (5, .lf (.i .i64)), (13, .lf (.is .u32)), (21, .lf (.b))]
def conv_left.C (k : Nat) : Cfg := { T := TT, G := lookG [(87, [dyad_Make.F k]), (97, [nat_Shift.F k]), (98, [nat_QuoRem.F k]), (99, [nat_Cmp.F k]), (100, [nat_Sub.F k])], nt := 107, cuts := [⟨codeOf [true, true, true, true, true, true, true, true] 1, [true, true, true, true, true, true, true, true], conv_left.vj0⟩, ⟨codeOf [true, true, true, true, true, true, true, true, true, false, true] 1, [true, true, true, true, true, true, true, true, true, false, true], conv_left.vj1⟩, ⟨codeOf [true, true, true, true, true, true, true, true, true, true] 1, [true, true, true, true, true, true, true, true, true, true], conv_left.vj2⟩], M0 := tabM }
def conv_left.H (k : Nat) : List (CutF conv_left.S.R) := [⟨conv_left.vj0, conv_left.j0 k⟩, ⟨conv_left.vj1, conv_left.j1 k⟩, ⟨conv_left.vj2, conv_left.j2 k⟩]
mutual
def conv_Rem.j1 : Nat → Int → Int → Int → Int → Bool → Int → Bool → Option (Int × Int × Int)
  | 0, _, _, _, _, _, _, _ => none
  | k + 1, x0, x1, x2, x9, x10, x12, x46 => if x46 = true then ((word_None.f k x0).bind fun t599 => (some (t599.1, 0, 0))) else (if x9 = 4 then (conv_Rem.j2 k x0 x1 x2 x9 x10 x12 true) else (conv_Rem.j2 k x0 x1 x2 x9 x10 x12 (decide (x12 = 1))))
def conv_Rem.j2 : Nat → Int → Int → Int → Int → Bool → Int → Bool → Option (Int × Int × Int)
  | 0, _, _, _, _, _, _, _ => none
  | k + 1, x0, x1, x2, x9, x10, x12, x59 => if x59 = true then ((word_None.f k x0).bind fun t598 => (some (t598.1, 1, 0))) else (if x12 = 4 then (conv_Rem.j3 k x0 x1 x2 x10 true) else (conv_Rem.j3 k x0 x1 x2 x10 (decide (x9 = 1))))
def conv_Rem.j3 : Nat → Int → Int → Int → Bool → Bool → Option (Int × Int × Int)
  | 0, _, _, _, _, _ => none
  | k + 1, x0, x1, x2, x10, x72 => if x72 = true then (some (x1, 0, 0)) else ((word_Value.f k x0 x1).bind fun t592 => ((word_Value.f k x0 x2).bind fun t593 => ((conv_left.f k t592.1 t592.2.1 t592.2.2.1 t593.1 t593.2.1 t593.2.2.1).bind fun t594 => ((word_Of.f k x0 t594.1 t594.2.1 t594.2.2).bind fun t595 => ((dyad_Sign.f k t594.1 t594.2.1 t594.2.2).bind fun t596 => (if t596 = 0 then ((word_Zero.f k x0 x10).bind fun t597 => (some (t597.1, 0, 0))) else (some (t595.1, 0, 0))))))))
end
def conv_Rem.f (k : Nat) (x0 : Int) (x1 : Int) (x2 : Int) : Option (Int × Int × Int) := (conv_open.f k x0 1 x1).bind fun t590 => (if ¬ (t590.2.2 = 0) then (some (0, 0, t590.2.2)) else ((conv_open.f k x0 1 x2).bind fun t591 => (if ¬ (t591.2.2 = 0) then (some (0, 0, t591.2.2)) else (if t590.1 = 5 then (conv_Rem.j1 k x0 x1 x2 t590.1 t590.2.1 t591.1 true) else (conv_Rem.j1 k x0 x1 x2 t590.1 t590.2.1 t591.1 (decide (t591.1 = 5)))))))
abbrev conv_Rem.S : Sig := { ps := [.lf (.i .u8), .lf (.i .u64), .lf (.i .u64)], rs := [.lf (.i .u64), .lf (.i .u8), .lf (.i .i64)], wb := [], R := Int × Int × Int, mkR := fun y0 y1 y2 => some (y0, y1, y2), un := fun r => [.int .u64 r.1, .int .u8 r.2.1, .int .i64 r.2.2] }
def conv_Rem.F (k : Nat) : Fun := { S := conv_Rem.S, f := conv_Rem.f k }
abbrev conv_Rem.vj1 : List (Nat × Kx) := [(0, .lf (.i .u8)), (1, .lf (.i .u64)), (2, .lf (.i .u64)), (9, .lf (.i .u8)), (10, .lf (.b)), (12, .lf (.i .u8)), (46, .lf (.b))]
abbrev conv_Rem.vj2 : List (Nat × Kx) := [(0, .lf (.i .u8)), (1, .lf (.i .u64)), (2, .lf (.i .u64)), (9, .lf (.i .u8)), (10, .lf (.b)), (12, .lf (.i .u8)), (59, .lf (.b))]
abbrev conv_Rem.vj3 : List (Nat × Kx) := [(0, .lf (.i .u8)), (1, .lf (.i .u64)), (2, .lf (.i .u64)), (10, .lf (.b)), (72, .lf (.b))]
def conv_Rem.C (k : Nat) : Cfg := { T := TT, G := lookG [(42, [conv_open.F k]), (43, [word_None.F k]), (45, [word_Zero.F k]), (46, [word_Value.F k]), (54, [conv_left.F k]), (55, [word_Of.F k]), (56, [dyad_Sign.F k])], nt := 111, cuts := [⟨codeOf [true, true, true, true, false, false, true, true, true] 1, [true, true, true, true, false, false, true, true, true], conv_Rem.vj1⟩, ⟨codeOf [true, true, true, true, false, false, true, true, true, true, true] 1, [true, true, true, true, false, false, true, true, true, true, true], conv_Rem.vj2⟩, ⟨codeOf [true, true, true, true, false, false, true, true, true, true, true, true, true] 1, [true, true, true, true, false, false, true, true, true, true, true, true, true], conv_Rem.vj3⟩], M0 := tabM }
def conv_Rem.H (k : Nat) : List (CutF conv_Rem.S.R) := [⟨conv_Rem.vj1, conv_Rem.j1 k⟩, ⟨conv_Rem.vj2, conv_Rem.j2 k⟩, ⟨conv_Rem.vj3, conv_Rem.j3 k⟩]
def cutplanelaw06_known.f (k : Nat) : Option (Bool) := (conv_To.f k 2 1 4 4607182419068452864).bind fun t603 => ((conv_Rem.f k 2 4617315517961601024 4613937818241073152).bind fun t604 => (if t603.1 = 1065353217 then (if t603.2.1 = 16 then (if t603.2.2 = 0 then (if t604.1 = 13830554455654793216 then (if t604.2.1 = 0 then (some (decide (t604.2.2 = 0))) else (some false)) else (some false)) else (some false)) else (some false)) else (some false)))
abbrev cutplanelaw06_known.S : Sig := { ps := [], rs := [.lf (.b)], wb := [], R := Bool, mkR := fun y0 => some y0, un := fun r => [.bool r] }
def cutplanelaw06_known.F (k : Nat) : Fun := { S := cutplanelaw06_known.S, f := cutplanelaw06_known.f k }
def cutplanelaw06_known.C (k : Nat) : Cfg := { T := TT, G := lookG [(9, [conv_To.F k]), (15, [conv_Rem.F k])], nt := 39, cuts := [], M0 := tabM }
def cutplanelaw06_known.H (k : Nat) : List (CutF cutplanelaw06_known.S.R) := []
def dyad_own.f (x0_0 : Bool) (x0_1 : List Int) (x0_2 : Int) : Option (Bool × List Int × Int) := if x0_1.length < 35184372088832 then (some (x0_0, x0_1, x0_2)) else (none)
abbrev dyad_own.S : Sig := { ps := [.ag [.b, .is .u32, .i .i64]], rs := [.ag [.b, .is .u32, .i .i64]], wb := [], R := Bool × List Int × Int, mkR := fun y0 y1 y2 => some (y0, y1, y2), un := fun r => [.bool r.1, .ints .u32 r.2.1, .int .i64 r.2.2] }
def dyad_own.F (k : Nat) : Fun := { S := dyad_own.S, f := dyad_own.f }
def dyad_own.C (k : Nat) : Cfg := { T := TT, G := lookG [], nt := 8, cuts := [], M0 := tabM }
def dyad_own.H (k : Nat) : List (CutF dyad_own.S.R) := []
def nat_bound.f (x0 : List Int) : Option (List Int × Int) := if (x0.length : Int) > 4096 then (some (([] : List Int), 3)) else (some (x0, 0))
abbrev nat_bound.S : Sig := { ps := [.ow .u32], rs := [.ow .u32, .lf (.i .i64)], wb := [], R := List Int × Int, mkR := fun y0 y1 => some (y0, y1), un := fun r => [.ints .u32 r.1, .int .i64 r.2] }
def nat_bound.F (k : Nat) : Fun := { S := nat_bound.S, f := nat_bound.f }
def nat_bound.C (k : Nat) : Cfg := { T := TT, G := lookG [], nt := 8, cuts := [], M0 := tabM }
def nat_bound.H (k : Nat) : List (CutF nat_bound.S.R) := []
abbrev nat_bound.S1 : Sig := { ps := [.lf (.is .u32)], rs := [.lf (.is .u32), .lf (.i .i64)], wb := [], R := List Int × Int, mkR := fun y0 y1 => some (y0, y1), un := fun r => [.ints .u32 r.1, .int .i64 r.2] }
def nat_bound.F1 (k : Nat) : Fun := { S := nat_bound.S1, f := nat_bound.f }
def nat_bound.C1 (k : Nat) : Cfg := { T := TT, G := lookG [], nt := 8, cuts := [], M0 := tabM }
def nat_bound.H1 (k : Nat) : List (CutF nat_bound.S1.R) := []
mutual
def nat_Add.l0 : Nat → List Int → List Int → List Int → Int → Int → Int → Option (List Int × Int)
  | 0, _, _, _, _, _, _ => none
  | k + 1, x0, x1, x6, x7, x27, x28 => if x28 < x27 then (if x28 < (x1.length : Int) then (if 0 ≤ x28 then (if x28 < (x1.length : Int) then (nat_Add.j3 k x0 x1 x6 x7 x28 (rd x1 x28) x27 x28) else (none)) else (none)) else (nat_Add.j3 k x0 x1 x6 x7 x28 0 x27 x28)) else (if 0 ≤ (x0.length : Int) then (if (x0.length : Int) < (x6.length : Int) then ((nat_trim.f k (x6.set ((x0.length : Int) : Int).toNat x7)).bind fun t639 => ((nat_bound.f t639).bind fun t640 => (some (t640.1, t640.2)))) else (none)) else (none))
def nat_Add.j1 : Nat → List Int → List Int → Option (List Int × Int)
  | 0, _, _ => none
  | k + 1, x0, x1 => if 0 ≤ (wrap64 ((x0.length : Int) + 1)) then (if (wrap64 ((x0.length : Int) + 1) : Int).toNat ≤ 70368744177664 then (nat_Add.l0 k x0 x1 (List.replicate (wrap64 ((x0.length : Int) + 1) : Int).toNat (0 : Int)) 0 (x0.length : Int) 0) else (none)) else (none)
def nat_Add.j3 : Nat → List Int → List Int → List Int → Int → Int → Int → Int → Int → Option (List Int × Int)
  | 0, _, _, _, _, _, _, _, _ => none
  | k + 1, x0, x1, x6, x7, x8, x9, x27, x28 => if 0 ≤ x8 then (if x8 < (x0.length : Int) then ((bits_Add32.f (rd x0 x8) x9 x7).bind fun t638 => (if 0 ≤ x8 then (if x8 < (x6.length : Int) then (nat_Add.l0 k x0 x1 (x6.set (x8 : Int).toNat t638.1) t638.2 x27 (wrap64 (x28 + 1))) else (none)) else (none))) else (none)) else (none)
end
def nat_Add.f (k : Nat) (x0 : List Int) (x1 : List Int) : Option (List Int × Int) := (nat_all.f k [x0, x1]).bind fun t637 => (if (!t637) = true then (some (([] : List Int), 2)) else (if (x0.length : Int) < (x1.length : Int) then (nat_Add.j1 k x1 x0) else (nat_Add.j1 k x0 x1)))
abbrev nat_Add.S : Sig := { ps := [.lf (.is .u32), .lf (.is .u32)], rs := [.lf (.is .u32), .lf (.i .i64)], wb := [], R := List Int × Int, mkR := fun y0 y1 => some (y0, y1), un := fun r => [.ints .u32 r.1, .int .i64 r.2] }
def nat_Add.F (k : Nat) : Fun := { S := nat_Add.S, f := nat_Add.f k }
abbrev nat_Add.vl0 : List (Nat × Kx) := [(0, .lf (.is .u32)), (1, .lf (.is .u32)), (6, .ow .u32), (7, .lf (.i .u32)), (27, .lf (.i .i64)), (28, .lf (.i .i64))]
abbrev nat_Add.vj1 : List (Nat × Kx) := [(0, .lf (.is .u32)), (1, .lf (.is .u32))]
abbrev nat_Add.vj3 : List (Nat × Kx) := [(0, .lf (.is .u32)), (1, .lf (.is .u32)), (6, .ow .u32), (7, .lf (.i .u32)), (8, .lf (.i .i64)), (9, .lf (.i .u32)), (27, .lf (.i .i64)), (28, .lf (.i .i64))]
def nat_Add.C (k : Nat) : Cfg := { T := TT, G := lookG [(124, [nat_trim.F k, nat_trim.F1 k]), (131, [nat_all.F k]), (156, [bits_Add32.F k]), (157, [nat_bound.F k, nat_bound.F1 k])], nt := 63, cuts := [⟨codeOf [true, true, true, true, true, false, true, false] 1, [true, true, true, true, true, false, true, false], nat_Add.vl0⟩, ⟨codeOf [true, true, true] 1, [true, true, true], nat_Add.vj1⟩, ⟨codeOf [true, true, true, true, true, false, true, false, false, true, true, false, false, true, true, true] 1, [true, true, true, true, true, false, true, false, false, true, true, false, false, true, true, true], nat_Add.vj3⟩], M0 := tabM }
def nat_Add.H (k : Nat) : List (CutF nat_Add.S.R) := [⟨nat_Add.vl0, nat_Add.l0 k⟩, ⟨nat_Add.vj1, nat_Add.j1 k⟩, ⟨nat_Add.vj3, nat_Add.j3 k⟩]
mutual
def dyad_Floor.j2 : Nat → Bool → List Int → Int → Bool → List Int → Int → List Int → Bool → Option (Bool × List Int × Int × Int)
  | 0, _, _, _, _, _, _, _, _ => none
  | k + 1, x1_0, x1_1, x1_2, x2_0, x2_1, x2_2, x4, x29 => if x29 = true then ((nat_Of.f k 1).bind fun t660 => ((nat_Add.f k x4 t660).bind fun t661 => (dyad_Floor.j3 k x1_0 x1_1 x1_2 x2_0 x2_1 x2_2 t661.1))) else (dyad_Floor.j3 k x1_0 x1_1 x1_2 x2_0 x2_1 x2_2 x4)
def dyad_Floor.j3 : Nat → Bool → List Int → Int → Bool → List Int → Int → List Int → Option (Bool × List Int × Int × Int)
  | 0, _, _, _, _, _, _, _ => none
  | k + 1, x1_0, x1_1, x1_2, x2_0, x2_1, x2_2, x4 => (dyad_Make.f k x1_0 x4 0).bind fun t659 => (some (t659.1, t659.2.1, t659.2.2.1, t659.2.2.2))
end
def dyad_Floor.f (k : Nat) (x0_0 : Bool) (x0_1 : List Int) (x0_2 : Int) : Option (Bool × List Int × Int × Int) := (dyad_May.f x0_0 x0_1 x0_2).bind fun t656 => (if (!t656) = true then (some (false, ([] : List Int), 0, 2)) else (if x0_2 ≥ 0 then ((dyad_own.f x0_0 x0_1 x0_2).bind fun t657 => (some (t657.1, t657.2.1, t657.2.2, 0))) else ((nat_Shift.f k x0_1 x0_2).bind fun t658 => (if x0_0 = true then (dyad_Floor.j2 k x0_0 x0_1 x0_2 false ([] : List Int) 0 t658.1 t658.2.1) else (dyad_Floor.j2 k x0_0 x0_1 x0_2 false ([] : List Int) 0 t658.1 false)))))
abbrev dyad_Floor.S : Sig := { ps := [.ag [.b, .is .u32, .i .i64]], rs := [.ag [.b, .is .u32, .i .i64], .lf (.i .i64)], wb := [], R := Bool × List Int × Int × Int, mkR := fun y0 y1 y2 y3 => some (y0, y1, y2, y3), un := fun r => [.bool r.1, .ints .u32 r.2.1, .int .i64 r.2.2.1, .int .i64 r.2.2.2] }
def dyad_Floor.F (k : Nat) : Fun := { S := dyad_Floor.S, f := dyad_Floor.f k }
abbrev dyad_Floor.vj2 : List (Nat × Kx) := [(1, .bx [.b, .is .u32, .i .i64]), (2, .bx [.b, .is .u32, .i .i64]), (4, .lf (.is .u32)), (29, .lf (.b))]
abbrev dyad_Floor.vj3 : List (Nat × Kx) := [(1, .bx [.b, .is .u32, .i .i64]), (2, .bx [.b, .is .u32, .i .i64]), (4, .lf (.is .u32))]
def dyad_Floor.C (k : Nat) : Cfg := { T := TT, G := lookG [(87, [dyad_Make.F k]), (88, [nat_Of.F k]), (97, [nat_Shift.F k]), (102, [dyad_May.F k]), (108, [dyad_own.F k]), (142, [nat_Add.F k])], nt := 42, cuts := [⟨codeOf [true, true, true, true, false, true] 1, [true, true, true, true, false, true], dyad_Floor.vj2⟩, ⟨codeOf [true, true, true, true, true] 1, [true, true, true, true, true], dyad_Floor.vj3⟩], M0 := tabM }
def dyad_Floor.H (k : Nat) : List (CutF dyad_Floor.S.R) := [⟨dyad_Floor.vj2, dyad_Floor.j2 k⟩, ⟨dyad_Floor.vj3, dyad_Floor.j3 k⟩]
def dyad_both.l0 : Nat → List (Bool × List Int × Int) → Int → Int → Option (Bool)
  | 0, _, _, _ => none
  | k + 1, x5, x6, x7 => if x7 < x6 then (if 0 ≤ x7 then (if x7 < (x5.length : Int) then ((dyad_May.f ((rdT [.b, .is .u32, .i .i64] x5 x7).1) ((rdT [.b, .is .u32, .i .i64] x5 x7).2.1) ((rdT [.b, .is .u32, .i .i64] x5 x7).2.2)).bind fun t665 => (if (!t665) = true then (some false) else (dyad_both.l0 k x5 x6 (wrap64 (x7 + 1))))) else (none)) else (none)) else (some true)
def dyad_both.f (k : Nat) (x0 : List (Bool × List Int × Int)) : Option (Bool) := dyad_both.l0 k x0 (x0.length : Int) 0
abbrev dyad_both.S : Sig := { ps := [.lf (.rw [.b, .is .u32, .i .i64])], rs := [.lf (.b)], wb := [], R := Bool, mkR := fun y0 => some y0, un := fun r => [.bool r] }
def dyad_both.F (k : Nat) : Fun := { S := dyad_both.S, f := dyad_both.f k }
abbrev dyad_both.vl0 : List (Nat × Kx) := [(5, .lf (.rw [.b, .is .u32, .i .i64])), (6, .lf (.i .i64)), (7, .lf (.i .i64))]
def dyad_both.C (k : Nat) : Cfg := { T := TT, G := lookG [(102, [dyad_May.F k])], nt := 15, cuts := [⟨codeOf [true, false, true, false] 1, [true, false, true, false], dyad_both.vl0⟩], M0 := tabM }
def dyad_both.H (k : Nat) : List (CutF dyad_both.S.R) := [⟨dyad_both.vl0, dyad_both.l0 k⟩]
def dyad_Top.f (k : Nat) (x0_0 : Bool) (x0_1 : List Int) (x0_2 : Int) : Option (Int) := (dyad_May.f x0_0 x0_1 x0_2).bind fun t678 => (if (!t678) = true then (some 0) else (if (x0_1.length : Int) = 0 then (some 0) else ((nat_Len.f k x0_1).bind fun t679 => (some (wrap64 (x0_2 + t679))))))
abbrev dyad_Top.S : Sig := { ps := [.ag [.b, .is .u32, .i .i64]], rs := [.lf (.i .i64)], wb := [], R := Int, mkR := fun y0 => some y0, un := fun r => [.int .i64 r] }
def dyad_Top.F (k : Nat) : Fun := { S := dyad_Top.S, f := dyad_Top.f k }
def dyad_Top.C (k : Nat) : Cfg := { T := TT, G := lookG [(102, [dyad_May.F k]), (110, [nat_Len.F k])], nt := 18, cuts := [], M0 := tabM }
def dyad_Top.H (k : Nat) : List (CutF dyad_Top.S.R) := []
def dyad_sizes.j1 : Nat → List Int → List Int → Option (Int)
  | 0, _, _ => none
  | k + 1, x5, x6 => (nat_Cmp.f k x5 x6).bind fun t715 => (some t715.1)
def dyad_sizes.f (k : Nat) (x0_0 : Bool) (x0_1 : List Int) (x0_2 : Int) (x1_0 : Bool) (x1_1 : List Int) (x1_2 : Int) : Option (Int) := (dyad_Top.f k x0_0 x0_1 x0_2).bind fun t707 => ((dyad_Top.f k x1_0 x1_1 x1_2).bind fun t708 => (if t707 < t708 then (some (-1)) else ((dyad_Top.f k x0_0 x0_1 x0_2).bind fun t709 => ((dyad_Top.f k x1_0 x1_1 x1_2).bind fun t710 => (if t709 > t710 then (some 1) else ((nat_Len.f k x0_1).bind fun t711 => ((nat_Len.f k x1_1).bind fun t712 => (if (wrap64 (t711 - t712)) > 0 then ((nat_Shift.f k x1_1 (wrap64 (t711 - t712))).bind fun t713 => (dyad_sizes.j1 k x0_1 t713.1)) else ((nat_Shift.f k x0_1 (wrap64 (-(wrap64 (t711 - t712))))).bind fun t714 => (dyad_sizes.j1 k t714.1 x1_1))))))))))
abbrev dyad_sizes.S : Sig := { ps := [.ag [.b, .is .u32, .i .i64], .ag [.b, .is .u32, .i .i64]], rs := [.lf (.i .i64)], wb := [], R := Int, mkR := fun y0 => some y0, un := fun r => [.int .i64 r] }
def dyad_sizes.F (k : Nat) : Fun := { S := dyad_sizes.S, f := dyad_sizes.f k }
abbrev dyad_sizes.vj1 : List (Nat × Kx) := [(5, .lf (.is .u32)), (6, .lf (.is .u32))]
def dyad_sizes.C (k : Nat) : Cfg := { T := TT, G := lookG [(62, [dyad_Top.F k]), (97, [nat_Shift.F k]), (99, [nat_Cmp.F k]), (110, [nat_Len.F k])], nt := 55, cuts := [⟨codeOf [true, true, true, true] 1, [true, true, true, true], dyad_sizes.vj1⟩], M0 := tabM }
def dyad_sizes.H (k : Nat) : List (CutF dyad_sizes.S.R) := [⟨dyad_sizes.vj1, dyad_sizes.j1 k⟩]
def dyad_Cmp.f (k : Nat) (x0_0 : Bool) (x0_1 : List Int) (x0_2 : Int) (x1_0 : Bool) (x1_1 : List Int) (x1_2 : Int) : Option (Int × Int) := (dyad_both.f k [(x0_0, x0_1, x0_2), (x1_0, x1_1, x1_2)]).bind fun t719 => (if (!t719) = true then (some (0, 2)) else ((dyad_Sign.f k x0_0 x0_1 x0_2).bind fun t720 => ((dyad_Sign.f k x1_0 x1_1 x1_2).bind fun t721 => (if t720 < t721 then (some ((-1), 0)) else (if t720 > t721 then (some (1, 0)) else ((dyad_sizes.f k x0_0 x0_1 x0_2 x1_0 x1_1 x1_2).bind fun t722 => (some (wrap64 (t720 * t722), 0))))))))
abbrev dyad_Cmp.S : Sig := { ps := [.ag [.b, .is .u32, .i .i64], .ag [.b, .is .u32, .i .i64]], rs := [.lf (.i .i64), .lf (.i .i64)], wb := [], R := Int × Int, mkR := fun y0 y1 => some (y0, y1), un := fun r => [.int .i64 r.1, .int .i64 r.2] }
def dyad_Cmp.F (k : Nat) : Fun := { S := dyad_Cmp.S, f := dyad_Cmp.f k }
def dyad_Cmp.C (k : Nat) : Cfg := { T := TT, G := lookG [(56, [dyad_Sign.F k]), (143, [dyad_both.F k]), (144, [dyad_sizes.F k])], nt := 30, cuts := [], M0 := tabM }
def dyad_Cmp.H (k : Nat) : List (CutF dyad_Cmp.S.R) := []
def dyad_Int.j0 : Nat → Int → Bool → List Int → Int → Int → Option (Bool × List Int × Int)
  | 0, _, _, _, _, _ => none
  | k + 1, x0, x2_0, x2_1, x2_2, x3 => (nat_Of.f k x3).bind fun t726 => ((dyad_Make.f k (decide (x0 < 0)) t726 0).bind fun t727 => (some (t727.1, t727.2.1, t727.2.2.1)))
def dyad_Int.f (k : Nat) (x0 : Int) : Option (Bool × List Int × Int) := if x0 < 0 then (dyad_Int.j0 k x0 false ([] : List Int) 0 (IntKind.u64.wrap (-(IntKind.u64.wrap x0)))) else (dyad_Int.j0 k x0 false ([] : List Int) 0 (IntKind.u64.wrap x0))
abbrev dyad_Int.S : Sig := { ps := [.lf (.i .i64)], rs := [.ag [.b, .is .u32, .i .i64]], wb := [], R := Bool × List Int × Int, mkR := fun y0 y1 y2 => some (y0, y1, y2), un := fun r => [.bool r.1, .ints .u32 r.2.1, .int .i64 r.2.2] }
def dyad_Int.F (k : Nat) : Fun := { S := dyad_Int.S, f := dyad_Int.f k }
abbrev dyad_Int.vj0 : List (Nat × Kx) := [(0, .lf (.i .i64)), (2, .bx [.b, .is .u32, .i .i64]), (3, .lf (.i .u64))]
def dyad_Int.C (k : Nat) : Cfg := { T := TT, G := lookG [(87, [dyad_Make.F k]), (88, [nat_Of.F k])], nt := 21, cuts := [⟨codeOf [true, true, true] 1, [true, true, true], dyad_Int.vj0⟩], M0 := tabM }
def dyad_Int.H (k : Nat) : List (CutF dyad_Int.S.R) := [⟨dyad_Int.vj0, dyad_Int.j0 k⟩]
def dyad_edge.f (k : Nat) (x0_0 : Bool) (x0_1 : List Int) (x0_2 : Int) (x1_0 : Bool) (x1_1 : List Int) (x1_2 : Int) (x2 : Int) : Option (Bool × List Int × Int × Int) := if (x0_0) = (x1_0) then (some (false, ([] : List Int), 0, 3)) else ((nat_Shift.f k x0_1 (wrap64 (x2 - 1))).bind fun t767 => ((nat_Shift.f k x1_1 (-1)).bind fun t768 => ((nat_Sub.f k t767.1 t768.1).bind fun t769 => (if ¬ (t769.2 = 0) then (some (false, ([] : List Int), 0, 3)) else ((nat_Add.f k t769.1 t769.1).bind fun t770 => (if t770.2 = 0 then ((nat_Of.f k 1).bind fun t771 => ((nat_Sub.f k t770.1 t771).bind fun t772 => ((dyad_Make.f k x0_0 t772.1 x1_2).bind fun t773 => (some (t773.1, t773.2.1, t773.2.2.1, t773.2.2.2))))) else ((nat_Len.f k t769.1).bind fun t774 => ((nat_Low.f k t769.1).bind fun t775 => (if t774 = (wrap64 (t775 + 1)) then ((nat_Of.f k 1).bind fun t776 => ((nat_Sub.f k t769.1 t776).bind fun t777 => ((nat_Add.f k t777.1 t769.1).bind fun t778 => ((dyad_Make.f k x0_0 t778.1 x1_2).bind fun t779 => (some (t779.1, t779.2.1, t779.2.2.1, t779.2.2.2)))))) else (some (false, ([] : List Int), 0, 3)))))))))))
abbrev dyad_edge.S : Sig := { ps := [.ag [.b, .is .u32, .i .i64], .ag [.b, .is .u32, .i .i64], .lf (.i .i64)], rs := [.ag [.b, .is .u32, .i .i64], .lf (.i .i64)], wb := [], R := Bool × List Int × Int × Int, mkR := fun y0 y1 y2 y3 => some (y0, y1, y2, y3), un := fun r => [.bool r.1, .ints .u32 r.2.1, .int .i64 r.2.2.1, .int .i64 r.2.2.2] }
def dyad_edge.F (k : Nat) : Fun := { S := dyad_edge.S, f := dyad_edge.f k }
def dyad_edge.C (k : Nat) : Cfg := { T := TT, G := lookG [(87, [dyad_Make.F k]), (88, [nat_Of.F k]), (97, [nat_Shift.F k]), (100, [nat_Sub.F k]), (110, [nat_Len.F k]), (123, [nat_Low.F k]), (142, [nat_Add.F k])], nt := 97, cuts := [], M0 := tabM }
def dyad_edge.H (k : Nat) : List (CutF dyad_edge.S.R) := []
def dyad_halved.j1 : Nat → Bool → Int → Bool → List Int → Int → List Int → Option (Bool × List Int × Int × Int)
  | 0, _, _, _, _, _, _ => none
  | k + 1, x0, x3, x8_0, x8_1, x8_2, x16 => (dyad_Make.f k x0 x16 (wrap64 (x3 + 1))).bind fun t806 => (some (t806.1, t806.2.1, t806.2.2.1, t806.2.2.2))
def dyad_halved.f (k : Nat) (x0 : Bool) (x1 : List Int) (x2 : List Int) (x3 : Int) : Option (Bool × List Int × Int × Int) := if 0 < (x1.length : Int) then (if 0 < (x2.length : Int) then (if ¬ (Go.bits .and .u32 (rd x1 0) 1 = Go.bits .and .u32 (rd x2 0) 1) then (some (false, ([] : List Int), 0, 3)) else ((nat_Shift.f k x1 (-1)).bind fun t801 => ((nat_Shift.f k x2 (-1)).bind fun t802 => ((nat_Add.f k t801.1 t802.1).bind fun t803 => (if 0 < (x1.length : Int) then (if (Go.bits .and .u32 (rd x1 0) 1) = 1 then ((nat_Of.f k 1).bind fun t804 => ((nat_Add.f k t803.1 t804).bind fun t805 => (dyad_halved.j1 k x0 x3 false ([] : List Int) 0 t805.1))) else (dyad_halved.j1 k x0 x3 false ([] : List Int) 0 t803.1)) else (none)))))) else (none)) else (none)
abbrev dyad_halved.S : Sig := { ps := [.lf (.b), .lf (.is .u32), .lf (.is .u32), .lf (.i .i64)], rs := [.ag [.b, .is .u32, .i .i64], .lf (.i .i64)], wb := [], R := Bool × List Int × Int × Int, mkR := fun y0 y1 y2 y3 => some (y0, y1, y2, y3), un := fun r => [.bool r.1, .ints .u32 r.2.1, .int .i64 r.2.2.1, .int .i64 r.2.2.2] }
def dyad_halved.F (k : Nat) : Fun := { S := dyad_halved.S, f := dyad_halved.f k }
abbrev dyad_halved.vj1 : List (Nat × Kx) := [(0, .lf (.b)), (3, .lf (.i .i64)), (8, .bx [.b, .is .u32, .i .i64]), (16, .lf (.is .u32))]
def dyad_halved.C (k : Nat) : Cfg := { T := TT, G := lookG [(87, [dyad_Make.F k]), (88, [nat_Of.F k]), (97, [nat_Shift.F k]), (142, [nat_Add.F k])], nt := 64, cuts := [⟨codeOf [true, true, true, true, true, true] 1, [true, true, true, true, true, true], dyad_halved.vj1⟩], M0 := tabM }
def dyad_halved.H (k : Nat) : List (CutF dyad_halved.S.R) := [⟨dyad_halved.vj1, dyad_halved.j1 k⟩]
def dyad_join.j2 : Nat → Bool → List Int → List Int → Int → Bool → List Int → Int → Option (Bool × List Int × Int × Int)
  | 0, _, _, _, _, _, _, _ => none
  | k + 1, x0, x1, x3, x4, x10_0, x10_1, x10_2 => (nat_Sub.f k x1 x3).bind fun t827 => ((dyad_Make.f k x0 t827.1 x4).bind fun t828 => (some (t828.1, t828.2.1, t828.2.2.1, t828.2.2.2)))
def dyad_join.f (k : Nat) (x0 : Bool) (x1 : List Int) (x2 : Bool) (x3 : List Int) (x4 : Int) : Option (Bool × List Int × Int × Int) := if (x0) = (x2) then ((nat_Add.f k x1 x3).bind fun t823 => (if ¬ (t823.2 = 0) then ((dyad_halved.f k x0 x1 x3 x4).bind fun t824 => (some (t824.1, t824.2.1, t824.2.2.1, t824.2.2.2))) else ((dyad_Make.f k x0 t823.1 x4).bind fun t825 => (some (t825.1, t825.2.1, t825.2.2.1, t825.2.2.2))))) else ((nat_Cmp.f k x1 x3).bind fun t826 => (if t826.1 < 0 then (dyad_join.j2 k x2 x3 x1 x4 false ([] : List Int) 0) else (dyad_join.j2 k x0 x1 x3 x4 false ([] : List Int) 0)))
abbrev dyad_join.S : Sig := { ps := [.lf (.b), .lf (.is .u32), .lf (.b), .lf (.is .u32), .lf (.i .i64)], rs := [.ag [.b, .is .u32, .i .i64], .lf (.i .i64)], wb := [], R := Bool × List Int × Int × Int, mkR := fun y0 y1 y2 y3 => some (y0, y1, y2, y3), un := fun r => [.bool r.1, .ints .u32 r.2.1, .int .i64 r.2.2.1, .int .i64 r.2.2.2] }
def dyad_join.F (k : Nat) : Fun := { S := dyad_join.S, f := dyad_join.f k }
abbrev dyad_join.vj2 : List (Nat × Kx) := [(0, .lf (.b)), (1, .lf (.is .u32)), (3, .lf (.is .u32)), (4, .lf (.i .i64)), (10, .bx [.b, .is .u32, .i .i64])]
def dyad_join.C (k : Nat) : Cfg := { T := TT, G := lookG [(87, [dyad_Make.F k]), (99, [nat_Cmp.F k]), (100, [nat_Sub.F k]), (142, [nat_Add.F k]), (160, [dyad_halved.F k])], nt := 65, cuts := [⟨codeOf [true, true, true] 1, [true, true, true], dyad_join.vj2⟩], M0 := tabM }
def dyad_join.H (k : Nat) : List (CutF dyad_join.S.R) := [⟨dyad_join.vj2, dyad_join.j2 k⟩]
def dyad_add.j1 : Nat → Bool → List Int → Int → Bool → List Int → Int → Bool → List Int → Int → Option (Bool × List Int × Int × Int)
  | 0, _, _, _, _, _, _, _, _, _ => none
  | k + 1, x2_0, x2_1, x2_2, x3_0, x3_1, x3_2, x4_0, x4_1, x4_2 => (nat_Len.f k x2_1).bind fun t837 => (if (wrap64 ((wrap64 (x2_2 - x3_2)) + t837)) > 131073 then (some (false, ([] : List Int), 0, 3)) else ((nat_Len.f k x2_1).bind fun t838 => (if (wrap64 ((wrap64 (x2_2 - x3_2)) + t838)) > 131072 then ((dyad_edge.f k x2_0 x2_1 x2_2 x3_0 x3_1 x3_2 (wrap64 (x2_2 - x3_2))).bind fun t839 => (some (t839.1, t839.2.1, t839.2.2.1, t839.2.2.2))) else ((nat_Shift.f k x2_1 (wrap64 (x2_2 - x3_2))).bind fun t840 => ((dyad_join.f k x2_0 t840.1 x3_0 x3_1 x3_2).bind fun t841 => (some (t841.1, t841.2.1, t841.2.2.1, t841.2.2.2)))))))
def dyad_add.f (k : Nat) (x0_0 : Bool) (x0_1 : List Int) (x0_2 : Int) (x1_0 : Bool) (x1_1 : List Int) (x1_2 : Int) : Option (Bool × List Int × Int × Int) := if (x0_1.length : Int) = 0 then ((dyad_own.f x1_0 x1_1 x1_2).bind fun t835 => (some (t835.1, t835.2.1, t835.2.2, 0))) else (if (x1_1.length : Int) = 0 then ((dyad_own.f x0_0 x0_1 x0_2).bind fun t836 => (some (t836.1, t836.2.1, t836.2.2, 0))) else (if x0_2 < x1_2 then (dyad_add.j1 k x1_0 x1_1 x1_2 x0_0 x0_1 x0_2 false ([] : List Int) 0) else (dyad_add.j1 k x0_0 x0_1 x0_2 x1_0 x1_1 x1_2 false ([] : List Int) 0)))
abbrev dyad_add.S : Sig := { ps := [.ag [.b, .is .u32, .i .i64], .ag [.b, .is .u32, .i .i64]], rs := [.ag [.b, .is .u32, .i .i64], .lf (.i .i64)], wb := [], R := Bool × List Int × Int × Int, mkR := fun y0 y1 y2 y3 => some (y0, y1, y2, y3), un := fun r => [.bool r.1, .ints .u32 r.2.1, .int .i64 r.2.2.1, .int .i64 r.2.2.2] }
def dyad_add.F (k : Nat) : Fun := { S := dyad_add.S, f := dyad_add.f k }
abbrev dyad_add.vj1 : List (Nat × Kx) := [(2, .bx [.b, .is .u32, .i .i64]), (3, .bx [.b, .is .u32, .i .i64]), (4, .bx [.b, .is .u32, .i .i64])]
def dyad_add.C (k : Nat) : Cfg := { T := TT, G := lookG [(97, [nat_Shift.F k]), (108, [dyad_own.F k]), (110, [nat_Len.F k]), (158, [dyad_edge.F k]), (159, [dyad_join.F k])], nt := 79, cuts := [⟨codeOf [true, true, true] 1, [true, true, true], dyad_add.vj1⟩], M0 := tabM }
def dyad_add.H (k : Nat) : List (CutF dyad_add.S.R) := [⟨dyad_add.vj1, dyad_add.j1 k⟩]
def dyad_Add.f (k : Nat) (x0_0 : Bool) (x0_1 : List Int) (x0_2 : Int) (x1_0 : Bool) (x1_1 : List Int) (x1_2 : Int) : Option (Bool × List Int × Int × Int) := (dyad_both.f k [(x0_0, x0_1, x0_2), (x1_0, x1_1, x1_2)]).bind fun t843 => (if (!t843) = true then (some (false, ([] : List Int), 0, 2)) else ((dyad_add.f k x0_0 x0_1 x0_2 x1_0 x1_1 x1_2).bind fun t844 => (some (t844.1, t844.2.1, t844.2.2.1, t844.2.2.2))))
abbrev dyad_Add.S : Sig := { ps := [.ag [.b, .is .u32, .i .i64], .ag [.b, .is .u32, .i .i64]], rs := [.ag [.b, .is .u32, .i .i64], .lf (.i .i64)], wb := [], R := Bool × List Int × Int × Int, mkR := fun y0 y1 y2 y3 => some (y0, y1, y2, y3), un := fun r => [.bool r.1, .ints .u32 r.2.1, .int .i64 r.2.2.1, .int .i64 r.2.2.2] }
def dyad_Add.F (k : Nat) : Fun := { S := dyad_Add.S, f := dyad_Add.f k }
def dyad_Add.C (k : Nat) : Cfg := { T := TT, G := lookG [(143, [dyad_both.F k]), (145, [dyad_add.F k])], nt := 17, cuts := [], M0 := tabM }
def dyad_Add.H (k : Nat) : List (CutF dyad_Add.S.R) := []
def dyad_signed.f (x0_0 : Bool) (x0_1 : List Int) (x0_2 : Int) (x1 : Bool) : Option (Bool × List Int × Int) := (dyad_own.f x0_0 x0_1 x0_2).bind fun t858 => (if x1 = true then (some (decide ((t858.2.1.length : Int) > 0), t858.2.1, t858.2.2)) else (some (false, t858.2.1, t858.2.2)))
abbrev dyad_signed.S : Sig := { ps := [.ag [.b, .is .u32, .i .i64], .lf (.b)], rs := [.ag [.b, .is .u32, .i .i64]], wb := [], R := Bool × List Int × Int, mkR := fun y0 y1 y2 => some (y0, y1, y2), un := fun r => [.bool r.1, .ints .u32 r.2.1, .int .i64 r.2.2] }
def dyad_signed.F (k : Nat) : Fun := { S := dyad_signed.S, f := dyad_signed.f }
def dyad_signed.C (k : Nat) : Cfg := { T := TT, G := lookG [(108, [dyad_own.F k])], nt := 16, cuts := [], M0 := tabM }
def dyad_signed.H (k : Nat) : List (CutF dyad_signed.S.R) := []
def dyad_Sub.f (k : Nat) (x0_0 : Bool) (x0_1 : List Int) (x0_2 : Int) (x1_0 : Bool) (x1_1 : List Int) (x1_2 : Int) : Option (Bool × List Int × Int × Int) := (dyad_both.f k [(x0_0, x0_1, x0_2), (x1_0, x1_1, x1_2)]).bind fun t861 => (if (!t861) = true then (some (false, ([] : List Int), 0, 2)) else ((dyad_signed.f x1_0 x1_1 x1_2 (!x1_0)).bind fun t862 => ((dyad_add.f k x0_0 x0_1 x0_2 t862.1 t862.2.1 t862.2.2).bind fun t863 => (some (t863.1, t863.2.1, t863.2.2.1, t863.2.2.2)))))
abbrev dyad_Sub.S : Sig := { ps := [.ag [.b, .is .u32, .i .i64], .ag [.b, .is .u32, .i .i64]], rs := [.ag [.b, .is .u32, .i .i64], .lf (.i .i64)], wb := [], R := Bool × List Int × Int × Int, mkR := fun y0 y1 y2 y3 => some (y0, y1, y2, y3), un := fun r => [.bool r.1, .ints .u32 r.2.1, .int .i64 r.2.2.1, .int .i64 r.2.2.2] }
def dyad_Sub.F (k : Nat) : Fun := { S := dyad_Sub.S, f := dyad_Sub.f k }
def dyad_Sub.C (k : Nat) : Cfg := { T := TT, G := lookG [(143, [dyad_both.F k]), (145, [dyad_add.F k]), (146, [dyad_signed.F k])], nt := 21, cuts := [], M0 := tabM }
def dyad_Sub.H (k : Nat) : List (CutF dyad_Sub.S.R) := []
mutual
def conv_whole.j1 : Nat → Int → Bool → List Int → Int → Bool → List Int → Int → Bool → List Int → Int → Bool → List Int → Int → Bool → Bool → Option (Bool × List Int × Int × Bool)
  | 0, _, _, _, _, _, _, _, _, _, _, _, _, _, _, _ => none
  | k + 1, x0, x3_0, x3_1, x3_2, x4_0, x4_1, x4_2, x6_0, x6_1, x6_2, x10_0, x10_1, x10_2, x12, x45 => if x45 = true then ((dyad_Sub.f k x3_0 x3_1 x3_2 x6_0 x6_1 x6_2).bind fun t893 => ((dyad_Cmp.f k t893.1 t893.2.1 t893.2.2.1 false ([1] : List Int) (-1)).bind fun t894 => ((dyad_Sign.f k x6_0 x6_1 x6_2).bind fun t895 => (if ¬ (t895 = 0) then (conv_whole.j2 k x0 x3_0 x3_1 x3_2 x4_0 x4_1 x4_2 x6_0 x6_1 x6_2 x10_0 x10_1 x10_2 t894.1 (decide (x6_2 = 0))) else (conv_whole.j2 k x0 x3_0 x3_1 x3_2 x4_0 x4_1 x4_2 x6_0 x6_1 x6_2 x10_0 x10_1 x10_2 t894.1 false))))) else (conv_whole.j3 k x4_0 x4_1 x4_2 x6_0 x6_1 x6_2 x10_0 x10_1 x10_2 x12)
def conv_whole.j2 : Nat → Int → Bool → List Int → Int → Bool → List Int → Int → Bool → List Int → Int → Bool → List Int → Int → Int → Bool → Option (Bool × List Int × Int × Bool)
  | 0, _, _, _, _, _, _, _, _, _, _, _, _, _, _, _ => none
  | k + 1, x0, x3_0, x3_1, x3_2, x4_0, x4_1, x4_2, x6_0, x6_1, x6_2, x10_0, x10_1, x10_2, x15, x17 => if x15 > 0 then (conv_whole.j3 k x4_0 x4_1 x4_2 x6_0 x6_1 x6_2 x10_0 x10_1 x10_2 true) else (if x15 = 0 then (if x0 = 1 then (if x17 = true then (conv_whole.j3 k x4_0 x4_1 x4_2 x6_0 x6_1 x6_2 x10_0 x10_1 x10_2 true) else (if x0 = 2 then (conv_whole.j3 k x4_0 x4_1 x4_2 x6_0 x6_1 x6_2 x10_0 x10_1 x10_2 (!x3_0)) else (conv_whole.j3 k x4_0 x4_1 x4_2 x6_0 x6_1 x6_2 x10_0 x10_1 x10_2 false))) else (if x0 = 2 then (conv_whole.j3 k x4_0 x4_1 x4_2 x6_0 x6_1 x6_2 x10_0 x10_1 x10_2 (!x3_0)) else (conv_whole.j3 k x4_0 x4_1 x4_2 x6_0 x6_1 x6_2 x10_0 x10_1 x10_2 false))) else (conv_whole.j3 k x4_0 x4_1 x4_2 x6_0 x6_1 x6_2 x10_0 x10_1 x10_2 false))
def conv_whole.j3 : Nat → Bool → List Int → Int → Bool → List Int → Int → Bool → List Int → Int → Bool → Option (Bool × List Int × Int × Bool)
  | 0, _, _, _, _, _, _, _, _, _, _ => none
  | k + 1, x4_0, x4_1, x4_2, x6_0, x6_1, x6_2, x10_0, x10_1, x10_2, x12 => if x12 = true then (some (x10_0, x10_1, x10_2, true)) else (some (x6_0, x6_1, x6_2, true))
end
def conv_whole.f (k : Nat) (x0 : Int) (x1_0 : Bool) (x1_1 : List Int) (x1_2 : Int) : Option (Bool × List Int × Int × Bool) := (dyad_Floor.f k x1_0 x1_1 x1_2).bind fun t889 => ((dyad_Cmp.f k t889.1 t889.2.1 t889.2.2.1 x1_0 x1_1 x1_2).bind fun t890 => (if t890.1 = 0 then (some (x1_0, x1_1, x1_2, false)) else ((dyad_Int.f k 1).bind fun t891 => ((dyad_Add.f k t889.1 t889.2.1 t889.2.2.1 t891.1 t891.2.1 t891.2.2).bind fun t892 => (if x0 = 4 then (conv_whole.j3 k false ([] : List Int) 0 t889.1 t889.2.1 t889.2.2.1 t892.1 t892.2.1 t892.2.2.1 true) else (if x0 = 3 then (conv_whole.j3 k false ([] : List Int) 0 t889.1 t889.2.1 t889.2.2.1 t892.1 t892.2.1 t892.2.2.1 x1_0) else (if x0 = 1 then (conv_whole.j1 k x0 x1_0 x1_1 x1_2 false ([] : List Int) 0 t889.1 t889.2.1 t889.2.2.1 t892.1 t892.2.1 t892.2.2.1 false true) else (conv_whole.j1 k x0 x1_0 x1_1 x1_2 false ([] : List Int) 0 t889.1 t889.2.1 t889.2.2.1 t892.1 t892.2.1 t892.2.2.1 false (decide (x0 = 2))))))))))
abbrev conv_whole.S : Sig := { ps := [.lf (.i .u8), .ag [.b, .is .u32, .i .i64]], rs := [.ag [.b, .is .u32, .i .i64], .lf (.b)], wb := [], R := Bool × List Int × Int × Bool, mkR := fun y0 y1 y2 y3 => some (y0, y1, y2, y3), un := fun r => [.bool r.1, .ints .u32 r.2.1, .int .i64 r.2.2.1, .bool r.2.2.2] }
def conv_whole.F (k : Nat) : Fun := { S := conv_whole.S, f := conv_whole.f k }
abbrev conv_whole.vj1 : List (Nat × Kx) := [(0, .lf (.i .u8)), (3, .bx [.b, .is .u32, .i .i64]), (4, .bx [.b, .is .u32, .i .i64]), (6, .bx [.b, .is .u32, .i .i64]), (10, .bx [.b, .is .u32, .i .i64]), (12, .lf (.b)), (45, .lf (.b))]
abbrev conv_whole.vj2 : List (Nat × Kx) := [(0, .lf (.i .u8)), (3, .bx [.b, .is .u32, .i .i64]), (4, .bx [.b, .is .u32, .i .i64]), (6, .bx [.b, .is .u32, .i .i64]), (10, .bx [.b, .is .u32, .i .i64]), (15, .lf (.i .i64)), (17, .lf (.b))]
abbrev conv_whole.vj3 : List (Nat × Kx) := [(4, .bx [.b, .is .u32, .i .i64]), (6, .bx [.b, .is .u32, .i .i64]), (10, .bx [.b, .is .u32, .i .i64]), (12, .lf (.b))]
def conv_whole.C (k : Nat) : Cfg := { T := TT, G := lookG [(56, [dyad_Sign.F k]), (67, [dyad_Int.F k]), (114, [dyad_Floor.F k]), (115, [dyad_Cmp.F k]), (116, [dyad_Add.F k]), (117, [dyad_Sub.F k])], nt := 94, cuts := [⟨codeOf [true, true, true, true, true, false, true, false, true, true, true, true, true] 1, [true, true, true, true, true, false, true, false, true, true, true, true, true], conv_whole.vj1⟩, ⟨codeOf [true, true, true, true, true, false, true, false, true, true, true, true, true, false, true, true, true] 1, [true, true, true, true, true, false, true, false, true, true, true, true, true, false, true, true, true], conv_whole.vj2⟩, ⟨codeOf [true, true, true, true, true, true] 1, [true, true, true, true, true, true], conv_whole.vj3⟩], M0 := tabM }
def conv_whole.H (k : Nat) : List (CutF conv_whole.S.R) := [⟨conv_whole.vj1, conv_whole.j1 k⟩, ⟨conv_whole.vj2, conv_whole.j2 k⟩, ⟨conv_whole.vj3, conv_whole.j3 k⟩]
def conv_told.f (x0 : Bool) : Option (Int) := if x0 = true then (some 16) else (some 0)
abbrev conv_told.S : Sig := { ps := [.lf (.b)], rs := [.lf (.i .u8)], wb := [], R := Int, mkR := fun y0 => some y0, un := fun r => [.int .u8 r] }
def conv_told.F (k : Nat) : Fun := { S := conv_told.S, f := conv_told.f }
def conv_told.C (k : Nat) : Cfg := { T := TT, G := lookG [], nt := 4, cuts := [], M0 := tabM }
def conv_told.H (k : Nat) : List (CutF conv_told.S.R) := []
mutual
def conv_Integral.j0 : Nat → Int → Int → Int → Bool → Bool → Option (Int × Int × Int)
  | 0, _, _, _, _, _ => none
  | k + 1, x0, x1, x2, x10, x41 => if x41 = true then (some (x2, 0, 0)) else ((word_Value.f k x0 x2).bind fun t920 => ((conv_whole.f k x1 t920.1 t920.2.1 t920.2.2.1).bind fun t921 => ((word_Of.f k x0 t921.1 t921.2.1 t921.2.2.1).bind fun t922 => ((dyad_Sign.f k t921.1 t921.2.1 t921.2.2.1).bind fun t923 => (if t923 = 0 then ((word_Zero.f k x0 x10).bind fun t924 => (conv_Integral.j2 k t921.2.2.2 t924.1)) else (conv_Integral.j2 k t921.2.2.2 t922.1))))))
def conv_Integral.j2 : Nat → Bool → Int → Option (Int × Int × Int)
  | 0, _, _ => none
  | k + 1, x17, x18 => (conv_told.f x17).bind fun t919 => (some (x18, t919, 0))
end
def conv_Integral.f (k : Nat) (x0 : Int) (x1 : Int) (x2 : Int) : Option (Int × Int × Int) := (conv_open.f k x0 x1 x2).bind fun t917 => (if ¬ (t917.2.2 = 0) then (some (0, 0, t917.2.2)) else (if t917.1 = 5 then ((word_None.f k x0).bind fun t918 => (some (t918.1, 0, 0))) else (if t917.1 = 4 then (conv_Integral.j0 k x0 x1 x2 t917.2.1 true) else (conv_Integral.j0 k x0 x1 x2 t917.2.1 (decide (t917.1 = 1))))))
abbrev conv_Integral.S : Sig := { ps := [.lf (.i .u8), .lf (.i .u8), .lf (.i .u64)], rs := [.lf (.i .u64), .lf (.i .u8), .lf (.i .i64)], wb := [], R := Int × Int × Int, mkR := fun y0 y1 y2 => some (y0, y1, y2), un := fun r => [.int .u64 r.1, .int .u8 r.2.1, .int .i64 r.2.2] }
def conv_Integral.F (k : Nat) : Fun := { S := conv_Integral.S, f := conv_Integral.f k }
abbrev conv_Integral.vj0 : List (Nat × Kx) := [(0, .lf (.i .u8)), (1, .lf (.i .u8)), (2, .lf (.i .u64)), (10, .lf (.b)), (41, .lf (.b))]
abbrev conv_Integral.vj2 : List (Nat × Kx) := [(17, .lf (.b)), (18, .lf (.i .u64))]
def conv_Integral.C (k : Nat) : Cfg := { T := TT, G := lookG [(42, [conv_open.F k]), (43, [word_None.F k]), (45, [word_Zero.F k]), (46, [word_Value.F k]), (55, [word_Of.F k]), (56, [dyad_Sign.F k]), (68, [conv_whole.F k]), (70, [conv_told.F k])], nt := 79, cuts := [⟨codeOf [true, true, false, false, true, true, true, true, true] 1, [true, true, false, false, true, true, true, true, true], conv_Integral.vj0⟩, ⟨codeOf [true, true, true, true, true, true, true] 1, [true, true, true, true, true, true, true], conv_Integral.vj2⟩], M0 := tabM }
def conv_Integral.H (k : Nat) : List (CutF conv_Integral.S.R) := [⟨conv_Integral.vj0, conv_Integral.j0 k⟩, ⟨conv_Integral.vj2, conv_Integral.j2 k⟩]
mutual
def dyad_Int64.j2 : Nat → Bool → List Int → Int → Int → Bool → Option (Int × Bool)
  | 0, _, _, _, _, _ => none
  | k + 1, x1_0, x1_1, x1_2, x7, x36 => if x36 = true then (some (wrap64 (IntKind.u64.wrap (-x7)), true)) else (if (!x1_0) = true then (dyad_Int64.j3 k x7 (decide (x7 < 9223372036854775808))) else (dyad_Int64.j3 k x7 false))
def dyad_Int64.j3 : Nat → Int → Bool → Option (Int × Bool)
  | 0, _, _ => none
  | k + 1, x7, x46 => if x46 = true then (some (wrap64 x7, true)) else (some (0, false))
end
def dyad_Int64.f (k : Nat) (x0_0 : Bool) (x0_1 : List Int) (x0_2 : Int) : Option (Int × Bool) := (dyad_May.f x0_0 x0_1 x0_2).bind fun t965 => (if (!t965) = true then (some (0, false)) else (if x0_2 < 0 then (some (0, false)) else ((dyad_Top.f k x0_0 x0_1 x0_2).bind fun t966 => (if t966 > 64 then (some (0, false)) else ((nat_Shift.f k x0_1 x0_2).bind fun t967 => ((nat_Num.f k t967.1).bind fun t968 => (if x0_0 = true then (dyad_Int64.j2 k x0_0 x0_1 x0_2 t968.1 (decide (t968.1 ≤ 9223372036854775808))) else (dyad_Int64.j2 k x0_0 x0_1 x0_2 t968.1 false))))))))
abbrev dyad_Int64.S : Sig := { ps := [.ag [.b, .is .u32, .i .i64]], rs := [.lf (.i .i64), .lf (.b)], wb := [], R := Int × Bool, mkR := fun y0 y1 => some (y0, y1), un := fun r => [.int .i64 r.1, .bool r.2] }
def dyad_Int64.F (k : Nat) : Fun := { S := dyad_Int64.S, f := dyad_Int64.f k }
abbrev dyad_Int64.vj2 : List (Nat × Kx) := [(1, .bx [.b, .is .u32, .i .i64]), (7, .lf (.i .u64)), (36, .lf (.b))]
abbrev dyad_Int64.vj3 : List (Nat × Kx) := [(7, .lf (.i .u64)), (46, .lf (.b))]
def dyad_Int64.C (k : Nat) : Cfg := { T := TT, G := lookG [(62, [dyad_Top.F k]), (97, [nat_Shift.F k]), (102, [dyad_May.F k]), (103, [nat_Num.F k])], nt := 56, cuts := [⟨codeOf [true, true, true, true, false, false, true] 1, [true, true, true, true, false, false, true], dyad_Int64.vj2⟩, ⟨codeOf [true, true, true, true, false, false, true, true, true] 1, [true, true, true, true, false, false, true, true, true], dyad_Int64.vj3⟩], M0 := tabM }
def dyad_Int64.H (k : Nat) : List (CutF dyad_Int64.S.R) := [⟨dyad_Int64.vj2, dyad_Int64.j2 k⟩, ⟨dyad_Int64.vj3, dyad_Int64.j3 k⟩]
def conv_ToInt.f (k : Nat) (x0 : Int) (x1 : Int) (x2 : Int) : Option (Int × Int × Int) := (conv_open.f k x0 x1 x2).bind fun t975 => (if ¬ (t975.2.2 = 0) then (some (0, 0, t975.2.2)) else (if t975.1 ≥ 4 then (some (0, 1, 0)) else ((word_Value.f k x0 x2).bind fun t976 => ((conv_whole.f k x1 t976.1 t976.2.1 t976.2.2.1).bind fun t977 => ((dyad_Int64.f k t977.1 t977.2.1 t977.2.2.1).bind fun t978 => (if (!t978.2) = true then (some (0, 1, 0)) else ((conv_told.f t977.2.2.2).bind fun t979 => (some (t978.1, t979, 0)))))))))
abbrev conv_ToInt.S : Sig := { ps := [.lf (.i .u8), .lf (.i .u8), .lf (.i .u64)], rs := [.lf (.i .i64), .lf (.i .u8), .lf (.i .i64)], wb := [], R := Int × Int × Int, mkR := fun y0 y1 y2 => some (y0, y1, y2), un := fun r => [.int .i64 r.1, .int .u8 r.2.1, .int .i64 r.2.2] }
def conv_ToInt.F (k : Nat) : Fun := { S := conv_ToInt.S, f := conv_ToInt.f k }
def conv_ToInt.C (k : Nat) : Cfg := { T := TT, G := lookG [(42, [conv_open.F k]), (46, [word_Value.F k]), (68, [conv_whole.F k]), (69, [dyad_Int64.F k]), (70, [conv_told.F k])], nt := 55, cuts := [], M0 := tabM }
def conv_ToInt.H (k : Nat) : List (CutF conv_ToInt.S.R) := []
def cutplaneref01_Trim.l0 : Nat → List Int → Int → Option (List Int)
  | 0, _, _ => none
  | k + 1, x0, x3 => if x3 > 0 then (if 0 ≤ wrap64 (x3 - 1) then (if wrap64 (x3 - 1) < (x0.length : Int) then (if (rd x0 (wrap64 (x3 - 1))) = 0 then (cutplaneref01_Trim.l0 k x0 (wrap64 (x3 - 1))) else (if 0 ≤ x3 then (if x3 ≤ (x0.length : Int) then (some (x0.take (x3 : Int).toNat)) else (none)) else (none))) else (none)) else (none)) else (if 0 ≤ x3 then (if x3 ≤ (x0.length : Int) then (some (x0.take (x3 : Int).toNat)) else (none)) else (none))
def cutplaneref01_Trim.f (k : Nat) (x0 : List Int) : Option (List Int) := cutplaneref01_Trim.l0 k x0 (x0.length : Int)
abbrev cutplaneref01_Trim.S : Sig := { ps := [.ow .u32], rs := [.ow .u32], wb := [], R := List Int, mkR := fun y0 => some y0, un := fun r => [.ints .u32 r] }
def cutplaneref01_Trim.F (k : Nat) : Fun := { S := cutplaneref01_Trim.S, f := cutplaneref01_Trim.f k }
abbrev cutplaneref01_Trim.vl0 : List (Nat × Kx) := [(0, .ow .u32), (3, .lf (.i .i64))]
def cutplaneref01_Trim.C (k : Nat) : Cfg := { T := TT, G := lookG [], nt := 21, cuts := [⟨codeOf [true, true, false, false] 1, [true, true, false, false], cutplaneref01_Trim.vl0⟩], M0 := tabM }
def cutplaneref01_Trim.H (k : Nat) : List (CutF cutplaneref01_Trim.S.R) := [⟨cutplaneref01_Trim.vl0, cutplaneref01_Trim.l0 k⟩]
abbrev cutplaneref01_Trim.S1 : Sig := { ps := [.lf (.is .u32)], rs := [.lf (.is .u32)], wb := [], R := List Int, mkR := fun y0 => some y0, un := fun r => [.ints .u32 r] }
def cutplaneref01_Trim.F1 (k : Nat) : Fun := { S := cutplaneref01_Trim.S1, f := cutplaneref01_Trim.f k }
abbrev cutplaneref01_Trim.vl01 : List (Nat × Kx) := [(0, .lf (.is .u32)), (3, .lf (.i .i64))]
def cutplaneref01_Trim.C1 (k : Nat) : Cfg := { T := TT, G := lookG [], nt := 21, cuts := [⟨codeOf [true, true, false, false] 1, [true, true, false, false], cutplaneref01_Trim.vl01⟩], M0 := tabM }
def cutplaneref01_Trim.H1 (k : Nat) : List (CutF cutplaneref01_Trim.S1.R) := [⟨cutplaneref01_Trim.vl01, cutplaneref01_Trim.l0 k⟩]
def cutplaneref01_Of.f (k : Nat) (x0 : Int) : Option (List Int) := (cutplaneref01_Trim.f k ([x0 % 4294967296, (x0 / 4294967296) % 4294967296] : List Int)).bind fun t988 => (some t988)
abbrev cutplaneref01_Of.S : Sig := { ps := [.lf (.i .u64)], rs := [.lf (.is .u32)], wb := [], R := List Int, mkR := fun y0 => some y0, un := fun r => [.ints .u32 r] }
def cutplaneref01_Of.F (k : Nat) : Fun := { S := cutplaneref01_Of.S, f := cutplaneref01_Of.f k }
def cutplaneref01_Of.C (k : Nat) : Cfg := { T := TT, G := lookG [(113, [cutplaneref01_Trim.F k, cutplaneref01_Trim.F1 k])], nt := 10, cuts := [], M0 := tabM }
def cutplaneref01_Of.H (k : Nat) : List (CutF cutplaneref01_Of.S.R) := []
def cutplaneref03_Low.f (x0 : Int) : Option (Int) := if x0 = 1 then (some (-149)) else (some (-1074))
abbrev cutplaneref03_Low.S : Sig := { ps := [.lf (.i .u8)], rs := [.lf (.i .i64)], wb := [], R := Int, mkR := fun y0 => some y0, un := fun r => [.int .i64 r] }
def cutplaneref03_Low.F (k : Nat) : Fun := { S := cutplaneref03_Low.S, f := cutplaneref03_Low.f }
def cutplaneref03_Low.C (k : Nat) : Cfg := { T := TT, G := lookG [], nt := 5, cuts := [], M0 := tabM }
def cutplaneref03_Low.H (k : Nat) : List (CutF cutplaneref03_Low.S.R) := []
def cutplaneref01_Bit.f (x0 : List Int) (x1 : Int) : Option (Int) := if x1 < 0 then (some 0) else (if (wrap64 (Int.tdiv x1 32)) ≥ (x0.length : Int) then (some 0) else (if 0 ≤ wrap64 (Int.tdiv x1 32) then (if wrap64 (Int.tdiv x1 32) < (x0.length : Int) then (if 0 ≤ (Int.tmod x1 32) then (some (Go.bits .and .u32 (shr .u32 (rd x0 (wrap64 (Int.tdiv x1 32))) (Int.tmod x1 32)) 1)) else (none)) else (none)) else (none)))
abbrev cutplaneref01_Bit.S : Sig := { ps := [.lf (.is .u32), .lf (.i .i64)], rs := [.lf (.i .u32)], wb := [], R := Int, mkR := fun y0 => some y0, un := fun r => [.int .u32 r] }
def cutplaneref01_Bit.F (k : Nat) : Fun := { S := cutplaneref01_Bit.S, f := cutplaneref01_Bit.f }
def cutplaneref01_Bit.C (k : Nat) : Cfg := { T := TT, G := lookG [], nt := 23, cuts := [], M0 := tabM }
def cutplaneref01_Bit.H (k : Nat) : List (CutF cutplaneref01_Bit.S.R) := []
def cutplaneref01_Low.l0 : Nat → List Int → Int → Option (Int)
  | 0, _, _ => none
  | k + 1, x0, x3 => if x3 < (wrap64 (32 * (x0.length : Int))) then ((cutplaneref01_Bit.f x0 x3).bind fun t995 => (if t995 = 0 then (if 0 ≤ wrap64 (Int.tdiv x3 32) then (if wrap64 (Int.tdiv x3 32) < (x0.length : Int) then (if (rd x0 (wrap64 (Int.tdiv x3 32))) = 0 then (cutplaneref01_Low.l0 k x0 (wrap64 (x3 + 32))) else (cutplaneref01_Low.l0 k x0 (wrap64 (x3 + 1)))) else (none)) else (none)) else (if x3 = (wrap64 (32 * (x0.length : Int))) then (some 0) else (some x3)))) else (if x3 = (wrap64 (32 * (x0.length : Int))) then (some 0) else (some x3))
def cutplaneref01_Low.f (k : Nat) (x0 : List Int) : Option (Int) := cutplaneref01_Low.l0 k x0 0
abbrev cutplaneref01_Low.S : Sig := { ps := [.lf (.is .u32)], rs := [.lf (.i .i64)], wb := [], R := Int, mkR := fun y0 => some y0, un := fun r => [.int .i64 r] }
def cutplaneref01_Low.F (k : Nat) : Fun := { S := cutplaneref01_Low.S, f := cutplaneref01_Low.f k }
abbrev cutplaneref01_Low.vl0 : List (Nat × Kx) := [(0, .lf (.is .u32)), (3, .lf (.i .i64))]
def cutplaneref01_Low.C (k : Nat) : Cfg := { T := TT, G := lookG [(141, [cutplaneref01_Bit.F k])], nt := 31, cuts := [⟨codeOf [true, true, false, false] 1, [true, true, false, false], cutplaneref01_Low.vl0⟩], M0 := tabM }
def cutplaneref01_Low.H (k : Nat) : List (CutF cutplaneref01_Low.S.R) := [⟨cutplaneref01_Low.vl0, cutplaneref01_Low.l0 k⟩]
def cutplaneref01_Len.l0 : Nat → Int → Int → Option (Int)
  | 0, _, _ => none
  | k + 1, x3, x4 => if x4 > 0 then (cutplaneref01_Len.l0 k (wrap64 (x3 + 1)) (x4 / 2)) else (some x3)
def cutplaneref01_Len.f (k : Nat) (x0 : List Int) : Option (Int) := if (x0.length : Int) = 0 then (some 0) else (if 0 ≤ wrap64 ((x0.length : Int) - 1) then (if wrap64 ((x0.length : Int) - 1) < (x0.length : Int) then (cutplaneref01_Len.l0 k (wrap64 (32 * (wrap64 ((x0.length : Int) - 1)))) (rd x0 (wrap64 ((x0.length : Int) - 1)))) else (none)) else (none))
abbrev cutplaneref01_Len.S : Sig := { ps := [.lf (.is .u32)], rs := [.lf (.i .i64)], wb := [], R := Int, mkR := fun y0 => some y0, un := fun r => [.int .i64 r] }
def cutplaneref01_Len.F (k : Nat) : Fun := { S := cutplaneref01_Len.S, f := cutplaneref01_Len.f k }
abbrev cutplaneref01_Len.vl0 : List (Nat × Kx) := [(3, .lf (.i .i64)), (4, .lf (.i .u32))]
def cutplaneref01_Len.C (k : Nat) : Cfg := { T := TT, G := lookG [], nt := 25, cuts := [⟨codeOf [true, true, true, false, true, false] 1, [true, true, true, false, true, false], cutplaneref01_Len.vl0⟩], M0 := tabM }
def cutplaneref01_Len.H (k : Nat) : List (CutF cutplaneref01_Len.S.R) := [⟨cutplaneref01_Len.vl0, cutplaneref01_Len.l0 k⟩]
def cutplaneref01_Down.l0 : Nat → List Int → Bool → List Int → Int → Int → Option (List Int × Bool)
  | 0, _, _, _, _, _ => none
  | k + 1, x0, x6, x7, x8, x9 => if x9 < (x0.length : Int) then (if 0 ≤ x9 then (if x9 < (x0.length : Int) then (if 0 ≤ x8 then (if (wrap64 (x9 + 1)) < (x0.length : Int) then (if 0 ≤ wrap64 (x9 + 1) then (if wrap64 (x9 + 1) < (x0.length : Int) then (if 0 ≤ (wrap64 (32 - x8)) then (if x7.length + ([(Go.bits .or .u64 (shr .u64 (IntKind.u64.wrap (rd x0 x9)) x8) (shl .u64 (IntKind.u64.wrap (rd x0 (wrap64 (x9 + 1)))) (wrap64 (32 - x8)))) % 4294967296] : List Int).length < 35184372088832 then (cutplaneref01_Down.l0 k x0 x6 (x7 ++ ([(Go.bits .or .u64 (shr .u64 (IntKind.u64.wrap (rd x0 x9)) x8) (shl .u64 (IntKind.u64.wrap (rd x0 (wrap64 (x9 + 1)))) (wrap64 (32 - x8)))) % 4294967296] : List Int)) x8 (wrap64 (x9 + 1))) else (none)) else (none)) else (none)) else (none)) else (if x7.length + ([(shr .u64 (IntKind.u64.wrap (rd x0 x9)) x8) % 4294967296] : List Int).length < 35184372088832 then (cutplaneref01_Down.l0 k x0 x6 (x7 ++ ([(shr .u64 (IntKind.u64.wrap (rd x0 x9)) x8) % 4294967296] : List Int)) x8 (wrap64 (x9 + 1))) else (none))) else (none)) else (none)) else (none)) else ((cutplaneref01_Trim.f k x7).bind fun t1023 => (some (t1023, x6)))
def cutplaneref01_Down.f (k : Nat) (x0 : List Int) (x1 : Int) : Option (List Int × Bool) := (cutplaneref01_Len.f k x0).bind fun t1021 => (if x1 ≥ t1021 then (some (([] : List Int), decide ((x0.length : Int) > 0))) else ((cutplaneref01_Low.f k x0).bind fun t1022 => (cutplaneref01_Down.l0 k x0 (decide (x1 > t1022)) ([] : List Int) (Int.tmod x1 32) (wrap64 (Int.tdiv x1 32)))))
abbrev cutplaneref01_Down.S : Sig := { ps := [.lf (.is .u32), .lf (.i .i64)], rs := [.lf (.is .u32), .lf (.b)], wb := [], R := List Int × Bool, mkR := fun y0 y1 => some (y0, y1), un := fun r => [.ints .u32 r.1, .bool r.2] }
def cutplaneref01_Down.F (k : Nat) : Fun := { S := cutplaneref01_Down.S, f := cutplaneref01_Down.f k }
abbrev cutplaneref01_Down.vl0 : List (Nat × Kx) := [(0, .lf (.is .u32)), (6, .lf (.b)), (7, .ow .u32), (8, .lf (.i .i64)), (9, .lf (.i .i64))]
def cutplaneref01_Down.C (k : Nat) : Cfg := { T := TT, G := lookG [(71, [cutplaneref01_Len.F k]), (111, [cutplaneref01_Low.F k]), (113, [cutplaneref01_Trim.F k, cutplaneref01_Trim.F1 k])], nt := 63, cuts := [⟨codeOf [true, true, true, true, true, false, true, false] 1, [true, true, true, true, true, false, true, false], cutplaneref01_Down.vl0⟩], M0 := tabM }
def cutplaneref01_Down.H (k : Nat) : List (CutF cutplaneref01_Down.S.R) := [⟨cutplaneref01_Down.vl0, cutplaneref01_Down.l0 k⟩]
def cutplaneref02_Form.f (k : Nat) (x0 : Bool) (x1 : List Int) (x2 : Int) : Option (Bool × List Int × Int) := if (x1.length : Int) = 0 then (some (false, ([] : List Int), 0)) else ((cutplaneref01_Low.f k x1).bind fun t1025 => ((cutplaneref01_Down.f k x1 t1025).bind fun t1026 => (some (x0, t1026.1, wrap64 (x2 + t1025)))))
abbrev cutplaneref02_Form.S : Sig := { ps := [.lf (.b), .lf (.is .u32), .lf (.i .i64)], rs := [.ag [.b, .is .u32, .i .i64]], wb := [], R := Bool × List Int × Int, mkR := fun y0 y1 y2 => some (y0, y1, y2), un := fun r => [.bool r.1, .ints .u32 r.2.1, .int .i64 r.2.2] }
def cutplaneref02_Form.F (k : Nat) : Fun := { S := cutplaneref02_Form.S, f := cutplaneref02_Form.f k }
def cutplaneref02_Form.C (k : Nat) : Cfg := { T := TT, G := lookG [(111, [cutplaneref01_Low.F k]), (112, [cutplaneref01_Down.F k])], nt := 28, cuts := [], M0 := tabM }
def cutplaneref02_Form.H (k : Nat) : List (CutF cutplaneref02_Form.S.R) := []
def cutplaneref03_Value.f (k : Nat) (x0 : Int) (x1 : Int) : Option (Bool × List Int × Int) := (cutplaneref03_Split.f x0 x1).bind fun t1036 => (if t1036.2.1 = 0 then ((cutplaneref01_Of.f k t1036.2.2).bind fun t1037 => ((cutplaneref03_Low.f x0).bind fun t1038 => ((cutplaneref02_Form.f k t1036.1 t1037 t1038).bind fun t1039 => (some (t1039.1, t1039.2.1, t1039.2.2))))) else ((cutplaneref03_Frac.f x0).bind fun t1040 => (if 0 ≤ t1040 then ((cutplaneref01_Of.f k (IntKind.u64.wrap ((shl .u64 1 t1040) + t1036.2.2))).bind fun t1041 => ((cutplaneref03_Low.f x0).bind fun t1042 => ((cutplaneref02_Form.f k t1036.1 t1041 (wrap64 ((wrap64 (t1036.2.1 - 1)) + t1042))).bind fun t1043 => (some (t1043.1, t1043.2.1, t1043.2.2))))) else (none))))
abbrev cutplaneref03_Value.S : Sig := { ps := [.lf (.i .u8), .lf (.i .u64)], rs := [.ag [.b, .is .u32, .i .i64]], wb := [], R := Bool × List Int × Int, mkR := fun y0 y1 y2 => some (y0, y1, y2), un := fun r => [.bool r.1, .ints .u32 r.2.1, .int .i64 r.2.2] }
def cutplaneref03_Value.F (k : Nat) : Fun := { S := cutplaneref03_Value.S, f := cutplaneref03_Value.f k }
def cutplaneref03_Value.C (k : Nat) : Cfg := { T := TT, G := lookG [(27, [cutplaneref03_Frac.F k]), (31, [cutplaneref03_Split.F k]), (65, [cutplaneref02_Form.F k]), (66, [cutplaneref01_Of.F k]), (73, [cutplaneref03_Low.F k])], nt := 36, cuts := [], M0 := tabM }
def cutplaneref03_Value.H (k : Nat) : List (CutF cutplaneref03_Value.S.R) := []
def cutplaneref02_Neg.f (x0_0 : Bool) (x0_1 : List Int) (x0_2 : Int) : Option (Bool × List Int × Int) := if (x0_1.length : Int) > 0 then (some ((!x0_0), x0_1, x0_2)) else (some (x0_0, x0_1, x0_2))
abbrev cutplaneref02_Neg.S : Sig := { ps := [.ag [.b, .is .u32, .i .i64]], rs := [.ag [.b, .is .u32, .i .i64]], wb := [], R := Bool × List Int × Int, mkR := fun y0 y1 y2 => some (y0, y1, y2), un := fun r => [.bool r.1, .ints .u32 r.2.1, .int .i64 r.2.2] }
def cutplaneref02_Neg.F (k : Nat) : Fun := { S := cutplaneref02_Neg.S, f := cutplaneref02_Neg.f }
def cutplaneref02_Neg.C (k : Nat) : Cfg := { T := TT, G := lookG [], nt := 12, cuts := [], M0 := tabM }
def cutplaneref02_Neg.H (k : Nat) : List (CutF cutplaneref02_Neg.S.R) := []
def cutplaneref01_Up.l0 : Nat → List Int → List Int → Int → Int → Int → Option (List Int)
  | 0, _, _, _, _, _ => none
  | k + 1, x0, x5, x6, x7, x8 => if x8 < (x0.length : Int) then (if 0 ≤ x8 then (if x8 < (x0.length : Int) then (if 0 ≤ x6 then (if x5.length + ([(Go.bits .or .u64 x7 (shl .u64 (IntKind.u64.wrap (rd x0 x8)) x6)) % 4294967296] : List Int).length < 35184372088832 then (cutplaneref01_Up.l0 k x0 (x5 ++ ([(Go.bits .or .u64 x7 (shl .u64 (IntKind.u64.wrap (rd x0 x8)) x6)) % 4294967296] : List Int)) x6 ((Go.bits .or .u64 x7 (shl .u64 (IntKind.u64.wrap (rd x0 x8)) x6)) / 4294967296) (wrap64 (x8 + 1))) else (none)) else (none)) else (none)) else (none)) else (if x5.length + ([x7 % 4294967296] : List Int).length < 35184372088832 then ((cutplaneref01_Trim.f k (x5 ++ ([x7 % 4294967296] : List Int))).bind fun t1048 => (some t1048)) else (none))
def cutplaneref01_Up.f (k : Nat) (x0 : List Int) (x1 : Int) : Option (List Int) := if (x0.length : Int) = 0 then (some ([] : List Int)) else (if 0 ≤ (wrap64 (Int.tdiv x1 32)) then (if (wrap64 (Int.tdiv x1 32) : Int).toNat ≤ 70368744177664 then (cutplaneref01_Up.l0 k x0 (List.replicate (wrap64 (Int.tdiv x1 32) : Int).toNat (0 : Int)) (Int.tmod x1 32) 0 0) else (none)) else (none))
abbrev cutplaneref01_Up.S : Sig := { ps := [.lf (.is .u32), .lf (.i .i64)], rs := [.lf (.is .u32)], wb := [], R := List Int, mkR := fun y0 => some y0, un := fun r => [.ints .u32 r] }
def cutplaneref01_Up.F (k : Nat) : Fun := { S := cutplaneref01_Up.S, f := cutplaneref01_Up.f k }
abbrev cutplaneref01_Up.vl0 : List (Nat × Kx) := [(0, .lf (.is .u32)), (5, .ow .u32), (6, .lf (.i .i64)), (7, .lf (.i .u64)), (8, .lf (.i .i64))]
def cutplaneref01_Up.C (k : Nat) : Cfg := { T := TT, G := lookG [(113, [cutplaneref01_Trim.F k, cutplaneref01_Trim.F1 k])], nt := 45, cuts := [⟨codeOf [true, true, true, true, true, false, true, false] 1, [true, true, true, true, true, false, true, false], cutplaneref01_Up.vl0⟩], M0 := tabM }
def cutplaneref01_Up.H (k : Nat) : List (CutF cutplaneref01_Up.S.R) := [⟨cutplaneref01_Up.vl0, cutplaneref01_Up.l0 k⟩]
mutual
def cutplaneref01_Add.l0 : Nat → List Int → List Int → List Int → Int → Int → Option (List Int)
  | 0, _, _, _, _, _ => none
  | k + 1, x0, x1, x5, x6, x7 => if x7 < (x0.length : Int) then (if x7 < (x0.length : Int) then (if 0 ≤ x7 then (if x7 < (x0.length : Int) then (cutplaneref01_Add.j2 k x0 x1 x5 (IntKind.u64.wrap (x6 + (IntKind.u64.wrap (rd x0 x7)))) x7) else (none)) else (none)) else (cutplaneref01_Add.j2 k x0 x1 x5 x6 x7)) else (if x7 < (x1.length : Int) then (if x7 < (x0.length : Int) then (if 0 ≤ x7 then (if x7 < (x0.length : Int) then (cutplaneref01_Add.j2 k x0 x1 x5 (IntKind.u64.wrap (x6 + (IntKind.u64.wrap (rd x0 x7)))) x7) else (none)) else (none)) else (cutplaneref01_Add.j2 k x0 x1 x5 x6 x7)) else (if x5.length + ([x6 % 4294967296] : List Int).length < 35184372088832 then ((cutplaneref01_Trim.f k (x5 ++ ([x6 % 4294967296] : List Int))).bind fun t1053 => (some t1053)) else (none)))
def cutplaneref01_Add.j2 : Nat → List Int → List Int → List Int → Int → Int → Option (List Int)
  | 0, _, _, _, _, _ => none
  | k + 1, x0, x1, x5, x6, x7 => if x7 < (x1.length : Int) then (if 0 ≤ x7 then (if x7 < (x1.length : Int) then (cutplaneref01_Add.j3 k x0 x1 x5 (IntKind.u64.wrap (x6 + (IntKind.u64.wrap (rd x1 x7)))) x7) else (none)) else (none)) else (cutplaneref01_Add.j3 k x0 x1 x5 x6 x7)
def cutplaneref01_Add.j3 : Nat → List Int → List Int → List Int → Int → Int → Option (List Int)
  | 0, _, _, _, _, _ => none
  | k + 1, x0, x1, x5, x6, x7 => if x5.length + ([x6 % 4294967296] : List Int).length < 35184372088832 then (cutplaneref01_Add.l0 k x0 x1 (x5 ++ ([x6 % 4294967296] : List Int)) (x6 / 4294967296) (wrap64 (x7 + 1))) else (none)
end
def cutplaneref01_Add.f (k : Nat) (x0 : List Int) (x1 : List Int) : Option (List Int) := cutplaneref01_Add.l0 k x0 x1 ([] : List Int) 0 0
abbrev cutplaneref01_Add.S : Sig := { ps := [.lf (.is .u32), .lf (.is .u32)], rs := [.lf (.is .u32)], wb := [], R := List Int, mkR := fun y0 => some y0, un := fun r => [.ints .u32 r] }
def cutplaneref01_Add.F (k : Nat) : Fun := { S := cutplaneref01_Add.S, f := cutplaneref01_Add.f k }
abbrev cutplaneref01_Add.vl0 : List (Nat × Kx) := [(0, .lf (.is .u32)), (1, .lf (.is .u32)), (5, .ow .u32), (6, .lf (.i .u64)), (7, .lf (.i .i64))]
abbrev cutplaneref01_Add.vj2 : List (Nat × Kx) := [(0, .lf (.is .u32)), (1, .lf (.is .u32)), (5, .ow .u32), (6, .lf (.i .u64)), (7, .lf (.i .i64))]
abbrev cutplaneref01_Add.vj3 : List (Nat × Kx) := [(0, .lf (.is .u32)), (1, .lf (.is .u32)), (5, .ow .u32), (6, .lf (.i .u64)), (7, .lf (.i .i64))]
def cutplaneref01_Add.C (k : Nat) : Cfg := { T := TT, G := lookG [(113, [cutplaneref01_Trim.F k, cutplaneref01_Trim.F1 k])], nt := 55, cuts := [⟨codeOf [true, true, true, false, true, false] 1, [true, true, true, false, true, false], cutplaneref01_Add.vl0⟩, ⟨codeOf [true, true, true, false, true, false, false, true, false, false, true] 1, [true, true, true, false, true, false, false, true, false, false, true], cutplaneref01_Add.vj2⟩, ⟨codeOf [true, true, true, false, true, false, false, true, false, false, true, true] 1, [true, true, true, false, true, false, false, true, false, false, true, true], cutplaneref01_Add.vj3⟩], M0 := tabM }
def cutplaneref01_Add.H (k : Nat) : List (CutF cutplaneref01_Add.S.R) := [⟨cutplaneref01_Add.vl0, cutplaneref01_Add.l0 k⟩, ⟨cutplaneref01_Add.vj2, cutplaneref01_Add.j2 k⟩, ⟨cutplaneref01_Add.vj3, cutplaneref01_Add.j3 k⟩]
def cutplaneref01_Cmp.l0 : Nat → List Int → List Int → Int → Option (Int)
  | 0, _, _, _ => none
  | k + 1, x0, x1, x5 => if x5 ≥ 0 then (if 0 ≤ x5 then (if x5 < (x0.length : Int) then (if 0 ≤ x5 then (if x5 < (x1.length : Int) then (if (rd x0 x5) < (rd x1 x5) then (some (-1)) else (if 0 ≤ x5 then (if x5 < (x0.length : Int) then (if 0 ≤ x5 then (if x5 < (x1.length : Int) then (if (rd x0 x5) > (rd x1 x5) then (some 1) else (cutplaneref01_Cmp.l0 k x0 x1 (wrap64 (x5 - 1)))) else (none)) else (none)) else (none)) else (none))) else (none)) else (none)) else (none)) else (none)) else (some 0)
def cutplaneref01_Cmp.f (k : Nat) (x0 : List Int) (x1 : List Int) : Option (Int) := if ¬ ((x0.length : Int) = (x1.length : Int)) then (if (x0.length : Int) < (x1.length : Int) then (some (-1)) else (some 1)) else (cutplaneref01_Cmp.l0 k x0 x1 (wrap64 ((x0.length : Int) - 1)))
abbrev cutplaneref01_Cmp.S : Sig := { ps := [.lf (.is .u32), .lf (.is .u32)], rs := [.lf (.i .i64)], wb := [], R := Int, mkR := fun y0 => some y0, un := fun r => [.int .i64 r] }
def cutplaneref01_Cmp.F (k : Nat) : Fun := { S := cutplaneref01_Cmp.S, f := cutplaneref01_Cmp.f k }
abbrev cutplaneref01_Cmp.vl0 : List (Nat × Kx) := [(0, .lf (.is .u32)), (1, .lf (.is .u32)), (5, .lf (.i .i64))]
def cutplaneref01_Cmp.C (k : Nat) : Cfg := { T := TT, G := lookG [], nt := 41, cuts := [⟨codeOf [true, true, false, true, false] 1, [true, true, false, true, false], cutplaneref01_Cmp.vl0⟩], M0 := tabM }
def cutplaneref01_Cmp.H (k : Nat) : List (CutF cutplaneref01_Cmp.S.R) := [⟨cutplaneref01_Cmp.vl0, cutplaneref01_Cmp.l0 k⟩]
mutual
def cutplaneref01_Sub.l0 : Nat → List Int → List Int → List Int → Int → Int → Option (List Int)
  | 0, _, _, _, _, _ => none
  | k + 1, x0, x1, x5, x6, x7 => if x7 < (x0.length : Int) then (if x7 < (x1.length : Int) then (if 0 ≤ x7 then (if x7 < (x1.length : Int) then (cutplaneref01_Sub.j1 k x0 x1 x5 x7 (IntKind.u64.wrap (x6 + (IntKind.u64.wrap (rd x1 x7))))) else (none)) else (none)) else (cutplaneref01_Sub.j1 k x0 x1 x5 x7 x6)) else ((cutplaneref01_Trim.f k x5).bind fun t1058 => (some t1058))
def cutplaneref01_Sub.j1 : Nat → List Int → List Int → List Int → Int → Int → Option (List Int)
  | 0, _, _, _, _, _ => none
  | k + 1, x0, x1, x5, x7, x8 => if 0 ≤ x7 then (if x7 < (x0.length : Int) then (if (IntKind.u64.wrap (rd x0 x7)) < x8 then (cutplaneref01_Sub.j2 k x0 x1 x5 1 x7 x8 (IntKind.u64.wrap ((IntKind.u64.wrap (rd x0 x7)) + 4294967296))) else (cutplaneref01_Sub.j2 k x0 x1 x5 0 x7 x8 (IntKind.u64.wrap (rd x0 x7)))) else (none)) else (none)
def cutplaneref01_Sub.j2 : Nat → List Int → List Int → List Int → Int → Int → Int → Int → Option (List Int)
  | 0, _, _, _, _, _, _, _ => none
  | k + 1, x0, x1, x5, x6, x7, x8, x9 => if x5.length + ([(IntKind.u64.wrap (x9 - x8)) % 4294967296] : List Int).length < 35184372088832 then (cutplaneref01_Sub.l0 k x0 x1 (x5 ++ ([(IntKind.u64.wrap (x9 - x8)) % 4294967296] : List Int)) x6 (wrap64 (x7 + 1))) else (none)
end
def cutplaneref01_Sub.f (k : Nat) (x0 : List Int) (x1 : List Int) : Option (List Int) := cutplaneref01_Sub.l0 k x0 x1 ([] : List Int) 0 0
abbrev cutplaneref01_Sub.S : Sig := { ps := [.lf (.is .u32), .lf (.is .u32)], rs := [.lf (.is .u32)], wb := [], R := List Int, mkR := fun y0 => some y0, un := fun r => [.ints .u32 r] }
def cutplaneref01_Sub.F (k : Nat) : Fun := { S := cutplaneref01_Sub.S, f := cutplaneref01_Sub.f k }
abbrev cutplaneref01_Sub.vl0 : List (Nat × Kx) := [(0, .lf (.is .u32)), (1, .lf (.is .u32)), (5, .ow .u32), (6, .lf (.i .u64)), (7, .lf (.i .i64))]
abbrev cutplaneref01_Sub.vj1 : List (Nat × Kx) := [(0, .lf (.is .u32)), (1, .lf (.is .u32)), (5, .ow .u32), (7, .lf (.i .i64)), (8, .lf (.i .u64))]
abbrev cutplaneref01_Sub.vj2 : List (Nat × Kx) := [(0, .lf (.is .u32)), (1, .lf (.is .u32)), (5, .ow .u32), (6, .lf (.i .u64)), (7, .lf (.i .i64)), (8, .lf (.i .u64)), (9, .lf (.i .u64))]
def cutplaneref01_Sub.C (k : Nat) : Cfg := { T := TT, G := lookG [(113, [cutplaneref01_Trim.F k, cutplaneref01_Trim.F1 k])], nt := 47, cuts := [⟨codeOf [true, true, true, false, true, false] 1, [true, true, true, false, true, false], cutplaneref01_Sub.vl0⟩, ⟨codeOf [true, true, true, false, true, false, false, true, false, false, true, true] 1, [true, true, true, false, true, false, false, true, false, false, true, true], cutplaneref01_Sub.vj1⟩, ⟨codeOf [true, true, true, false, true, false, false, true, false, false, true, true, true, true, true] 1, [true, true, true, false, true, false, false, true, false, false, true, true, true, true, true], cutplaneref01_Sub.vj2⟩], M0 := tabM }
def cutplaneref01_Sub.H (k : Nat) : List (CutF cutplaneref01_Sub.S.R) := [⟨cutplaneref01_Sub.vl0, cutplaneref01_Sub.l0 k⟩, ⟨cutplaneref01_Sub.vj1, cutplaneref01_Sub.j1 k⟩, ⟨cutplaneref01_Sub.vj2, cutplaneref01_Sub.j2 k⟩]
def cutplaneref02_Add.j2 : Nat → Bool → List Int → Int → Bool → List Int → Int → Bool → List Int → Int → Int → Option (Bool × List Int × Int)
  | 0, _, _, _, _, _, _, _, _, _, _ => none
  | k + 1, x2_0, x2_1, x2_2, x3_0, x3_1, x3_2, x4_0, x4_1, x4_2, x5 => (cutplaneref01_Up.f k x2_1 (wrap64 (x2_2 - x5))).bind fun t1070 => ((cutplaneref01_Up.f k x3_1 (wrap64 (x3_2 - x5))).bind fun t1071 => (if (x2_0) = (x3_0) then ((cutplaneref01_Add.f k t1070 t1071).bind fun t1072 => ((cutplaneref02_Form.f k x2_0 t1072 x5).bind fun t1073 => (some (t1073.1, t1073.2.1, t1073.2.2)))) else ((cutplaneref01_Cmp.f k t1070 t1071).bind fun t1074 => (if t1074 ≥ 0 then ((cutplaneref01_Sub.f k t1070 t1071).bind fun t1075 => ((cutplaneref02_Form.f k x2_0 t1075 x5).bind fun t1076 => (some (t1076.1, t1076.2.1, t1076.2.2)))) else ((cutplaneref01_Sub.f k t1071 t1070).bind fun t1077 => ((cutplaneref02_Form.f k x3_0 t1077 x5).bind fun t1078 => (some (t1078.1, t1078.2.1, t1078.2.2))))))))
def cutplaneref02_Add.f (k : Nat) (x0_0 : Bool) (x0_1 : List Int) (x0_2 : Int) (x1_0 : Bool) (x1_1 : List Int) (x1_2 : Int) : Option (Bool × List Int × Int) := if (x0_1.length : Int) = 0 then (some (x1_0, x1_1, x1_2)) else (if (x1_1.length : Int) = 0 then (some (x0_0, x0_1, x0_2)) else (if x1_2 < x0_2 then (cutplaneref02_Add.j2 k x0_0 x0_1 x0_2 x1_0 x1_1 x1_2 false ([] : List Int) 0 x1_2) else (cutplaneref02_Add.j2 k x0_0 x0_1 x0_2 x1_0 x1_1 x1_2 false ([] : List Int) 0 x0_2)))
abbrev cutplaneref02_Add.S : Sig := { ps := [.ag [.b, .is .u32, .i .i64], .ag [.b, .is .u32, .i .i64]], rs := [.ag [.b, .is .u32, .i .i64]], wb := [], R := Bool × List Int × Int, mkR := fun y0 y1 y2 => some (y0, y1, y2), un := fun r => [.bool r.1, .ints .u32 r.2.1, .int .i64 r.2.2] }
def cutplaneref02_Add.F (k : Nat) : Fun := { S := cutplaneref02_Add.S, f := cutplaneref02_Add.f k }
abbrev cutplaneref02_Add.vj2 : List (Nat × Kx) := [(2, .bx [.b, .is .u32, .i .i64]), (3, .bx [.b, .is .u32, .i .i64]), (4, .bx [.b, .is .u32, .i .i64]), (5, .lf (.i .i64))]
def cutplaneref02_Add.C (k : Nat) : Cfg := { T := TT, G := lookG [(65, [cutplaneref02_Form.F k]), (77, [cutplaneref01_Up.F k]), (118, [cutplaneref01_Add.F k]), (119, [cutplaneref01_Cmp.F k]), (120, [cutplaneref01_Sub.F k])], nt := 70, cuts := [⟨codeOf [true, true, true, true, true] 1, [true, true, true, true, true], cutplaneref02_Add.vj2⟩], M0 := tabM }
def cutplaneref02_Add.H (k : Nat) : List (CutF cutplaneref02_Add.S.R) := [⟨cutplaneref02_Add.vj2, cutplaneref02_Add.j2 k⟩]
def cutplaneref02_Sub.f (k : Nat) (x0_0 : Bool) (x0_1 : List Int) (x0_2 : Int) (x1_0 : Bool) (x1_1 : List Int) (x1_2 : Int) : Option (Bool × List Int × Int) := (cutplaneref02_Neg.f x1_0 x1_1 x1_2).bind fun t1046 => ((cutplaneref02_Add.f k x0_0 x0_1 x0_2 t1046.1 t1046.2.1 t1046.2.2).bind fun t1079 => (some (t1079.1, t1079.2.1, t1079.2.2)))
abbrev cutplaneref02_Sub.S : Sig := { ps := [.ag [.b, .is .u32, .i .i64], .ag [.b, .is .u32, .i .i64]], rs := [.ag [.b, .is .u32, .i .i64]], wb := [], R := Bool × List Int × Int, mkR := fun y0 y1 y2 => some (y0, y1, y2), un := fun r => [.bool r.1, .ints .u32 r.2.1, .int .i64 r.2.2] }
def cutplaneref02_Sub.F (k : Nat) : Fun := { S := cutplaneref02_Sub.S, f := cutplaneref02_Sub.f k }
def cutplaneref02_Sub.C (k : Nat) : Cfg := { T := TT, G := lookG [(75, [cutplaneref02_Add.F k]), (76, [cutplaneref02_Neg.F k])], nt := 9, cuts := [], M0 := tabM }
def cutplaneref02_Sub.H (k : Nat) : List (CutF cutplaneref02_Sub.S.R) := []
def cutplaneref02_Abs.f (x0_0 : Bool) (x0_1 : List Int) (x0_2 : Int) : Option (Bool × List Int × Int) := some (false, x0_1, x0_2)
abbrev cutplaneref02_Abs.S : Sig := { ps := [.ag [.b, .is .u32, .i .i64]], rs := [.ag [.b, .is .u32, .i .i64]], wb := [], R := Bool × List Int × Int, mkR := fun y0 y1 y2 => some (y0, y1, y2), un := fun r => [.bool r.1, .ints .u32 r.2.1, .int .i64 r.2.2] }
def cutplaneref02_Abs.F (k : Nat) : Fun := { S := cutplaneref02_Abs.S, f := cutplaneref02_Abs.f }
def cutplaneref02_Abs.C (k : Nat) : Cfg := { T := TT, G := lookG [], nt := 5, cuts := [], M0 := tabM }
def cutplaneref02_Abs.H (k : Nat) : List (CutF cutplaneref02_Abs.S.R) := []
def cutplaneref02_Int.j0 : Nat → Int → Bool → List Int → Int → Int → Option (Bool × List Int × Int)
  | 0, _, _, _, _, _ => none
  | k + 1, x0, x2_0, x2_1, x2_2, x3 => (cutplaneref01_Of.f k x3).bind fun t1082 => ((cutplaneref02_Form.f k (decide (x0 < 0)) t1082 0).bind fun t1083 => (some (t1083.1, t1083.2.1, t1083.2.2)))
def cutplaneref02_Int.f (k : Nat) (x0 : Int) : Option (Bool × List Int × Int) := if x0 < 0 then (cutplaneref02_Int.j0 k x0 false ([] : List Int) 0 (IntKind.u64.wrap (-(IntKind.u64.wrap x0)))) else (cutplaneref02_Int.j0 k x0 false ([] : List Int) 0 (IntKind.u64.wrap x0))
abbrev cutplaneref02_Int.S : Sig := { ps := [.lf (.i .i64)], rs := [.ag [.b, .is .u32, .i .i64]], wb := [], R := Bool × List Int × Int, mkR := fun y0 y1 y2 => some (y0, y1, y2), un := fun r => [.bool r.1, .ints .u32 r.2.1, .int .i64 r.2.2] }
def cutplaneref02_Int.F (k : Nat) : Fun := { S := cutplaneref02_Int.S, f := cutplaneref02_Int.f k }
abbrev cutplaneref02_Int.vj0 : List (Nat × Kx) := [(0, .lf (.i .i64)), (2, .bx [.b, .is .u32, .i .i64]), (3, .lf (.i .u64))]
def cutplaneref02_Int.C (k : Nat) : Cfg := { T := TT, G := lookG [(65, [cutplaneref02_Form.F k]), (66, [cutplaneref01_Of.F k])], nt := 15, cuts := [⟨codeOf [true, true, true] 1, [true, true, true], cutplaneref02_Int.vj0⟩], M0 := tabM }
def cutplaneref02_Int.H (k : Nat) : List (CutF cutplaneref02_Int.S.R) := [⟨cutplaneref02_Int.vj0, cutplaneref02_Int.j0 k⟩]
def cutplaneref02_Two.f (x0 : Int) : Option (Bool × List Int × Int) := some (false, ([1] : List Int), x0)
abbrev cutplaneref02_Two.S : Sig := { ps := [.lf (.i .i64)], rs := [.ag [.b, .is .u32, .i .i64]], wb := [], R := Bool × List Int × Int, mkR := fun y0 y1 y2 => some (y0, y1, y2), un := fun r => [.bool r.1, .ints .u32 r.2.1, .int .i64 r.2.2] }
def cutplaneref02_Two.F (k : Nat) : Fun := { S := cutplaneref02_Two.S, f := cutplaneref02_Two.f }
def cutplaneref02_Two.C (k : Nat) : Cfg := { T := TT, G := lookG [], nt := 6, cuts := [], M0 := tabM }
def cutplaneref02_Two.H (k : Nat) : List (CutF cutplaneref02_Two.S.R) := []
def cutplaneref02_Top.f (k : Nat) (x0_0 : Bool) (x0_1 : List Int) (x0_2 : Int) : Option (Int) := if (x0_1.length : Int) = 0 then (some 0) else ((cutplaneref01_Len.f k x0_1).bind fun t1101 => (some (wrap64 (x0_2 + t1101))))
abbrev cutplaneref02_Top.S : Sig := { ps := [.ag [.b, .is .u32, .i .i64]], rs := [.lf (.i .i64)], wb := [], R := Int, mkR := fun y0 => some y0, un := fun r => [.int .i64 r] }
def cutplaneref02_Top.F (k : Nat) : Fun := { S := cutplaneref02_Top.S, f := cutplaneref02_Top.f k }
def cutplaneref02_Top.C (k : Nat) : Cfg := { T := TT, G := lookG [(71, [cutplaneref01_Len.F k])], nt := 13, cuts := [], M0 := tabM }
def cutplaneref02_Top.H (k : Nat) : List (CutF cutplaneref02_Top.S.R) := []
mutual
def cutplaneref02_Int64.j3 : Nat → Bool → List Int → Int → Int → Option (Int × Bool)
  | 0, _, _, _, _ => none
  | k + 1, x1_0, x1_1, x1_2, x5 => if x1_0 = true then (cutplaneref02_Int64.j4 k x1_0 x1_1 x1_2 x5 (decide (x5 ≤ 9223372036854775808))) else (cutplaneref02_Int64.j4 k x1_0 x1_1 x1_2 x5 false)
def cutplaneref02_Int64.j4 : Nat → Bool → List Int → Int → Int → Bool → Option (Int × Bool)
  | 0, _, _, _, _, _ => none
  | k + 1, x1_0, x1_1, x1_2, x5, x42 => if x42 = true then (some (wrap64 (-(wrap64 x5)), true)) else (if (!x1_0) = true then (cutplaneref02_Int64.j6 k x5 (decide (x5 < 9223372036854775808))) else (cutplaneref02_Int64.j6 k x5 false))
def cutplaneref02_Int64.j6 : Nat → Int → Bool → Option (Int × Bool)
  | 0, _, _ => none
  | k + 1, x5, x52 => if x52 = true then (some (wrap64 x5, true)) else (some (0, false))
end
def cutplaneref02_Int64.f (k : Nat) (x0_0 : Bool) (x0_1 : List Int) (x0_2 : Int) : Option (Int × Bool) := if (x0_1.length : Int) = 0 then (some (0, true)) else (if x0_2 < 0 then (some (0, false)) else ((cutplaneref02_Top.f k x0_0 x0_1 x0_2).bind fun t1115 => (if t1115 > 64 then (some (0, false)) else ((cutplaneref01_Up.f k x0_1 x0_2).bind fun t1116 => (if 0 < (t1116.length : Int) then (if (t1116.length : Int) > 1 then (if 1 < (t1116.length : Int) then (cutplaneref02_Int64.j3 k x0_0 x0_1 x0_2 (IntKind.u64.wrap ((IntKind.u64.wrap (rd t1116 0)) + (IntKind.u64.wrap ((IntKind.u64.wrap (rd t1116 1)) * 4294967296))))) else (none)) else (cutplaneref02_Int64.j3 k x0_0 x0_1 x0_2 (IntKind.u64.wrap (rd t1116 0)))) else (none))))))
abbrev cutplaneref02_Int64.S : Sig := { ps := [.ag [.b, .is .u32, .i .i64]], rs := [.lf (.i .i64), .lf (.b)], wb := [], R := Int × Bool, mkR := fun y0 y1 => some (y0, y1), un := fun r => [.int .i64 r.1, .bool r.2] }
def cutplaneref02_Int64.F (k : Nat) : Fun := { S := cutplaneref02_Int64.S, f := cutplaneref02_Int64.f k }
abbrev cutplaneref02_Int64.vj3 : List (Nat × Kx) := [(1, .bx [.b, .is .u32, .i .i64]), (5, .lf (.i .u64))]
abbrev cutplaneref02_Int64.vj4 : List (Nat × Kx) := [(1, .bx [.b, .is .u32, .i .i64]), (5, .lf (.i .u64)), (42, .lf (.b))]
abbrev cutplaneref02_Int64.vj6 : List (Nat × Kx) := [(5, .lf (.i .u64)), (52, .lf (.b))]
def cutplaneref02_Int64.C (k : Nat) : Cfg := { T := TT, G := lookG [(26, [cutplaneref02_Top.F k]), (77, [cutplaneref01_Up.F k])], nt := 55, cuts := [⟨codeOf [true, true, true, true, true, true] 1, [true, true, true, true, true, true], cutplaneref02_Int64.vj3⟩, ⟨codeOf [true, true, true, true, true, true, false, true] 1, [true, true, true, true, true, true, false, true], cutplaneref02_Int64.vj4⟩, ⟨codeOf [true, true, true, true, true, true, true, false, true] 1, [true, true, true, true, true, true, true, false, true], cutplaneref02_Int64.vj6⟩], M0 := tabM }
def cutplaneref02_Int64.H (k : Nat) : List (CutF cutplaneref02_Int64.S.R) := [⟨cutplaneref02_Int64.vj3, cutplaneref02_Int64.j3 k⟩, ⟨cutplaneref02_Int64.vj4, cutplaneref02_Int64.j4 k⟩, ⟨cutplaneref02_Int64.vj6, cutplaneref02_Int64.j6 k⟩]
def cutplaneref02_Sign.f (x0_0 : Bool) (x0_1 : List Int) (x0_2 : Int) : Option (Int) := if (x0_1.length : Int) = 0 then (some 0) else (if x0_0 = true then (some (-1)) else (some 1))
abbrev cutplaneref02_Sign.S : Sig := { ps := [.ag [.b, .is .u32, .i .i64]], rs := [.lf (.i .i64)], wb := [], R := Int, mkR := fun y0 => some y0, un := fun r => [.int .i64 r] }
def cutplaneref02_Sign.F (k : Nat) : Fun := { S := cutplaneref02_Sign.S, f := cutplaneref02_Sign.f }
def cutplaneref02_Sign.C (k : Nat) : Cfg := { T := TT, G := lookG [], nt := 9, cuts := [], M0 := tabM }
def cutplaneref02_Sign.H (k : Nat) : List (CutF cutplaneref02_Sign.S.R) := []
def cutplaneref02_Cmp.f (k : Nat) (x0_0 : Bool) (x0_1 : List Int) (x0_2 : Int) (x1_0 : Bool) (x1_1 : List Int) (x1_2 : Int) : Option (Int) := (cutplaneref02_Sign.f x0_0 x0_1 x0_2).bind fun t1160 => ((cutplaneref02_Sign.f x1_0 x1_1 x1_2).bind fun t1161 => (if ¬ (t1160 = t1161) then (if t1160 < t1161 then (some (-1)) else (some 1)) else (if t1160 = 0 then (some 0) else ((cutplaneref02_Top.f k x0_0 x0_1 x0_2).bind fun t1162 => ((cutplaneref02_Top.f k x1_0 x1_1 x1_2).bind fun t1163 => (if ¬ (t1162 = t1163) then ((cutplaneref02_Top.f k x0_0 x0_1 x0_2).bind fun t1164 => ((cutplaneref02_Top.f k x1_0 x1_1 x1_2).bind fun t1165 => (if (decide (t1164 < t1165)) = (decide (t1160 > 0)) then (some (-1)) else (some 1)))) else ((cutplaneref02_Sub.f k x0_0 x0_1 x0_2 x1_0 x1_1 x1_2).bind fun t1166 => ((cutplaneref02_Sign.f t1166.1 t1166.2.1 t1166.2.2).bind fun t1167 => (some t1167)))))))))
abbrev cutplaneref02_Cmp.S : Sig := { ps := [.ag [.b, .is .u32, .i .i64], .ag [.b, .is .u32, .i .i64]], rs := [.lf (.i .i64)], wb := [], R := Int, mkR := fun y0 => some y0, un := fun r => [.int .i64 r] }
def cutplaneref02_Cmp.F (k : Nat) : Fun := { S := cutplaneref02_Cmp.S, f := cutplaneref02_Cmp.f k }
def cutplaneref02_Cmp.C (k : Nat) : Cfg := { T := TT, G := lookG [(26, [cutplaneref02_Top.F k]), (33, [cutplaneref02_Sub.F k]), (36, [cutplaneref02_Sign.F k])], nt := 36, cuts := [], M0 := tabM }
def cutplaneref02_Cmp.H (k : Nat) : List (CutF cutplaneref02_Cmp.S.R) := []
def cutplanelaw06_ConvTaken.j5 : Nat → Int → Int → Int → Bool → List Int → Int → Bool → List Int → Int → Bool → List Int → Int → Option (Bool)
  | 0, _, _, _, _, _, _, _, _, _, _, _, _ => none
  | k + 1, x10, x15, x16, x18_0, x18_1, x18_2, x19_0, x19_1, x19_2, x20_0, x20_1, x20_2 => if x18_2 < 0 then (some false) else ((cutplaneref02_Cmp.f k x19_0 x19_1 x19_2 x20_0 x20_1 x20_2).bind fun t1279 => (if t1279 > 0 then (some false) else ((cutplaneref02_Int.f k 1).bind fun t1280 => ((cutplaneref02_Cmp.f k x19_0 x19_1 x19_2 t1280.1 t1280.2.1 t1280.2.2).bind fun t1281 => (if t1281 = 0 then (some false) else ((cutplaneref02_Sign.f x19_0 x19_1 x19_2).bind fun t1282 => (if ¬ ((decide (x10 = 0)) = (decide (t1282 = 0))) then (some false) else ((cutplaneref02_Int64.f k x18_0 x18_1 x18_2).bind fun t1283 => (if (!t1283.2) = true then (if x15 = 0 then (if x16 = 1 then ((cutplanelaw06_known.f k).bind fun t1284 => (some t1284)) else (some false)) else (some false)) else (if x15 = t1283.1 then (if x16 = x10 then ((cutplanelaw06_known.f k).bind fun t1285 => (some t1285)) else (some false)) else (some false)))))))))))
def cutplanelaw06_ConvTaken.f (k : Nat) (x0 : Int) (x1 : Int) (x2 : Int) (x3 : Int) : Option (Bool) := (cutplanelaw06_opens.f k x0 x1 ([x3] : List Int)).bind fun t1260 => (if ¬ (t1260 = 0) then ((cutplanelaw06_known.f k).bind fun t1261 => (some t1261)) else ((cutplanelaw06_opens.f k x0 x2 ([] : List Int)).bind fun t1262 => (if ¬ (t1262 = 0) then ((cutplanelaw06_known.f k).bind fun t1263 => (some t1263)) else ((cutplaneref03_Finite.f x0 x3).bind fun t1264 => (if (!t1264) = true then ((cutplanelaw06_known.f k).bind fun t1265 => (some t1265)) else ((conv_Integral.f k x0 x1 x3).bind fun t1266 => ((conv_Integral.f k x0 x2 t1266.1).bind fun t1267 => ((conv_ToInt.f k x0 x1 x3).bind fun t1268 => (if ¬ (t1266.2.2 = 0) then (some false) else (if ¬ (t1267.2.2 = 0) then (some false) else (if ¬ (t1268.2.2 = 0) then (some false) else ((cutplaneref03_Finite.f x0 t1266.1).bind fun t1269 => (if (!t1269) = true then (some false) else (if ¬ (t1267.1 = t1266.1) then (some false) else (if ¬ (t1267.2.1 = 0) then (some false) else ((cutplaneref03_Split.f x0 t1266.1).bind fun t1270 => ((cutplaneref03_Split.f x0 x3).bind fun t1271 => (if ¬ ((t1270.1) = (t1271.1)) then (some false) else ((cutplaneref03_Value.f k x0 t1266.1).bind fun t1272 => ((cutplaneref03_Value.f k x0 x3).bind fun t1273 => ((cutplaneref02_Sub.f k t1272.1 t1272.2.1 t1272.2.2 t1273.1 t1273.2.1 t1273.2.2).bind fun t1274 => ((cutplaneref02_Abs.f t1274.1 t1274.2.1 t1274.2.2).bind fun t1275 => ((cutplaneref02_Int.f k 1).bind fun t1276 => (if x1 = 1 then ((cutplaneref02_Two.f (-1)).bind fun t1277 => (cutplanelaw06_ConvTaken.j5 k t1266.2.1 t1268.1 t1268.2.1 t1272.1 t1272.2.1 t1272.2.2 t1275.1 t1275.2.1 t1275.2.2 t1277.1 t1277.2.1 t1277.2.2)) else (if x1 = 2 then ((cutplaneref02_Two.f (-1)).bind fun t1278 => (cutplanelaw06_ConvTaken.j5 k t1266.2.1 t1268.1 t1268.2.1 t1272.1 t1272.2.1 t1272.2.2 t1275.1 t1275.2.1 t1275.2.2 t1278.1 t1278.2.1 t1278.2.2)) else (cutplanelaw06_ConvTaken.j5 k t1266.2.1 t1268.1 t1268.2.1 t1272.1 t1272.2.1 t1272.2.2 t1275.1 t1275.2.1 t1275.2.2 t1276.1 t1276.2.1 t1276.2.2))))))))))))))))))))))))))
abbrev cutplanelaw06_ConvTaken.S : Sig := { ps := [.lf (.i .u8), .lf (.i .u8), .lf (.i .u8), .lf (.i .u64)], rs := [.lf (.b)], wb := [], R := Bool, mkR := fun y0 => some y0, un := fun r => [.bool r] }
def cutplanelaw06_ConvTaken.F (k : Nat) : Fun := { S := cutplanelaw06_ConvTaken.S, f := cutplanelaw06_ConvTaken.f k }
abbrev cutplanelaw06_ConvTaken.vj5 : List (Nat × Kx) := [(10, .lf (.i .u8)), (15, .lf (.i .i64)), (16, .lf (.i .u8)), (18, .bx [.b, .is .u32, .i .i64]), (19, .bx [.b, .is .u32, .i .i64]), (20, .bx [.b, .is .u32, .i .i64])]
def cutplanelaw06_ConvTaken.C (k : Nat) : Cfg := { T := TT, G := lookG [(10, [cutplanelaw06_opens.F k]), (13, [cutplanelaw06_known.F k]), (20, [cutplaneref03_Finite.F k]), (23, [cutplaneref02_Int.F k]), (25, [conv_ToInt.F k]), (29, [cutplaneref03_Value.F k]), (30, [conv_Integral.F k]), (31, [cutplaneref03_Split.F k]), (32, [cutplaneref02_Abs.F k]), (33, [cutplaneref02_Sub.F k]), (34, [cutplaneref02_Two.F k]), (35, [cutplaneref02_Cmp.F k]), (36, [cutplaneref02_Sign.F k]), (37, [cutplaneref02_Int64.F k])], nt := 169, cuts := [⟨codeOf [true, true, true, true, true, true, true, true, true, true] 1, [true, true, true, true, true, true, true, true, true, true], cutplanelaw06_ConvTaken.vj5⟩], M0 := tabM }
def cutplanelaw06_ConvTaken.H (k : Nat) : List (CutF cutplanelaw06_ConvTaken.S.R) := [⟨cutplanelaw06_ConvTaken.vj5, cutplanelaw06_ConvTaken.j5 k⟩]
end Go.Proofs.YtclegbgmhimenaaGreatDoor.Eng

