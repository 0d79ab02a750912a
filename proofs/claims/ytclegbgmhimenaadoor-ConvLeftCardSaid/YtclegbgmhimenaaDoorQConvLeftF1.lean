import Derived.Test.YtclegbgmhimenaaDoorEng2
import Derived.Test.YtclegbgmhimenaaDoorProg
import Derived.KernelRfl
import Derived.Lib.TrailingZeros
set_option linter.unusedVariables false
set_option linter.unusedSimpArgs false
namespace Go.Proofs.YtclegbgmhimenaaDoor.Eng
open Go.RowKit Go.Proofs
set_option maxRecDepth 100000
set_option linter.unusedVariables false
def TL : List (Nat × TI) := [(2, ⟨.int .i64, 1, 8, [(.int .i64)]⟩),
  (3, ⟨.int .i64, 1, 8, [(.int .i64)]⟩),
  (4, ⟨.bool, 1, 1, [.bool]⟩),
  (5, ⟨.int .u8, 1, 1, [(.int .u8)]⟩),
  (6, ⟨.int .u8, 1, 1, [(.int .u8)]⟩),
  (7, ⟨.struct [(0, 2), (1, 3), (2, 4), (3, 6)], 4, 24, [(.int .i64), (.int .i64), .bool, (.int .u8)]⟩),
  (8, ⟨.struct [(0, 2), (1, 3), (2, 4), (3, 6)], 4, 24, [(.int .i64), (.int .i64), .bool, (.int .u8)]⟩),
  (9, ⟨.str, 1, 16, [.str]⟩),
  (10, ⟨.str, 1, 16, [.str]⟩),
  (11, ⟨.str, 1, 16, [.str]⟩),
  (12, ⟨.int .u64, 1, 8, [(.int .u64)]⟩),
  (13, ⟨.struct [(0, 9), (1, 12)], 2, 24, [.str, (.int .u64)]⟩),
  (14, ⟨.struct [(0, 9), (1, 12)], 2, 24, [.str, (.int .u64)]⟩),
  (15, ⟨.ptr 154, 1, 8, [.ptr]⟩),
  (16, ⟨.ptr 157, 1, 8, [.ptr]⟩),
  (17, ⟨.ptr 165, 1, 8, [.ptr]⟩),
  (18, ⟨.struct [(0, 17)], 1, 8, [.ptr]⟩),
  (19, ⟨.struct [(0, 17)], 1, 8, [.ptr]⟩),
  (21, ⟨.int .i32, 1, 4, [(.int .i32)]⟩),
  (22, ⟨.int .u8, 1, 1, [(.int .u8)]⟩),
  (23, ⟨.int .u64, 1, 8, [(.int .u64)]⟩),
  (24, ⟨.int .i64, 1, 8, [(.int .i64)]⟩),
  (26, ⟨.int .u8, 1, 1, [(.int .u8)]⟩),
  (28, ⟨.int .u8, 1, 1, [(.int .u8)]⟩),
  (34, ⟨.slice 107, 1, 24, [(.slice (some .u32))]⟩),
  (35, ⟨.struct [(0, 4), (1, 34), (2, 3)], 3, 40, [.bool, (.slice (some .u32)), (.int .i64)]⟩),
  (36, ⟨.struct [(0, 4), (1, 34), (2, 3)], 3, 40, [.bool, (.slice (some .u32)), (.int .i64)]⟩),
  (39, ⟨.int .u8, 1, 1, [(.int .u8)]⟩),
  (54, ⟨.slice 23, 1, 24, [(.slice (some .u64))]⟩),
  (69, ⟨.struct [(0, 4), (1, 3), (2, 23)], 3, 24, [.bool, (.int .i64), (.int .u64)]⟩),
  (70, ⟨.struct [(0, 4), (1, 3), (2, 23)], 3, 24, [.bool, (.int .i64), (.int .u64)]⟩),
  (90, ⟨.struct [(0, 3), (1, 3), (2, 23)], 3, 24, [(.int .i64), (.int .i64), (.int .u64)]⟩),
  (91, ⟨.struct [(0, 3), (1, 3), (2, 23)], 3, 24, [(.int .i64), (.int .i64), (.int .u64)]⟩),
  (97, ⟨.struct [(0, 3), (1, 3), (2, 3)], 3, 24, [(.int .i64), (.int .i64), (.int .i64)]⟩),
  (98, ⟨.struct [(0, 3), (1, 3), (2, 3)], 3, 24, [(.int .i64), (.int .i64), (.int .i64)]⟩),
  (102, ⟨.struct [(0, 23), (1, 3), (2, 4)], 3, 24, [(.int .u64), (.int .i64), .bool]⟩),
  (103, ⟨.struct [(0, 23), (1, 3), (2, 4)], 3, 24, [(.int .u64), (.int .i64), .bool]⟩),
  (107, ⟨.int .u32, 1, 4, [(.int .u32)]⟩),
  (111, ⟨.int .u64, 1, 8, [(.int .u64)]⟩),
  (132, ⟨.slice 36, 1, 24, [(.slice none)]⟩),
  (145, ⟨.slice 34, 1, 24, [(.slice none)]⟩),
  (149, ⟨.arr 32 5, 32, 32, [(.int .u8), (.int .u8), (.int .u8), (.int .u8), (.int .u8), (.int .u8), (.int .u8), (.int .u8), (.int .u8), (.int .u8), (.int .u8), (.int .u8), (.int .u8), (.int .u8), (.int .u8), (.int .u8), (.int .u8), (.int .u8), (.int .u8), (.int .u8), (.int .u8), (.int .u8), (.int .u8), (.int .u8), (.int .u8), (.int .u8), (.int .u8), (.int .u8), (.int .u8), (.int .u8), (.int .u8), (.int .u8)]⟩),
  (153, ⟨.struct [(0, 17), (1, 17), (2, 17), (3, 9)], 4, 40, [.ptr, .ptr, .ptr, .str]⟩),
  (154, ⟨.struct [(0, 17), (1, 17), (2, 17), (3, 9)], 4, 40, [.ptr, .ptr, .ptr, .str]⟩),
  (155, ⟨.arr 0 16, 0, 0, []⟩),
  (156, ⟨.struct [(0, 155)], 0, 0, []⟩),
  (157, ⟨.struct [(0, 155)], 0, 0, []⟩),
  (158, ⟨.int .u8, 1, 1, [(.int .u8)]⟩),
  (159, ⟨.int .u8, 1, 1, [(.int .u8)]⟩),
  (161, ⟨.ptr 5, 1, 8, [.ptr]⟩),
  (162, ⟨.int .i32, 1, 4, [(.int .i32)]⟩),
  (163, ⟨.int .i32, 1, 4, [(.int .i32)]⟩)]
def TT : Nat → Option TI := lookT TL
def txt0 : ByteArray := ⟨#[0, 1, 2, 2, 3, 3, 3, 3, 4, 4, 4, 4, 4, 4, 4, 4, 5, 5, 5, 5, 5, 5, 5, 5, 5, 5, 5, 5, 5, 5, 5, 5, 6, 6, 6, 6, 6, 6, 6, 6, 6, 6, 6, 6, 6, 6, 6, 6, 6, 6, 6, 6, 6, 6, 6, 6, 6, 6, 6, 6, 6, 6, 6, 6, 7, 7, 7, 7, 7, 7, 7, 7, 7, 7, 7, 7, 7, 7, 7, 7, 7, 7, 7, 7, 7, 7, 7, 7, 7, 7, 7, 7, 7, 7, 7, 7, 7, 7, 7, 7, 7, 7, 7, 7, 7, 7, 7, 7, 7, 7, 7, 7, 7, 7, 7, 7, 7, 7, 7, 7, 7, 7, 7, 7, 7, 7, 7, 7, 8, 8, 8, 8, 8, 8, 8, 8, 8, 8, 8, 8, 8, 8, 8, 8, 8, 8, 8, 8, 8, 8, 8, 8, 8, 8, 8, 8, 8, 8, 8, 8, 8, 8, 8, 8, 8, 8, 8, 8, 8, 8, 8, 8, 8, 8, 8, 8, 8, 8, 8, 8, 8, 8, 8, 8, 8, 8, 8, 8, 8, 8, 8, 8, 8, 8, 8, 8, 8, 8, 8, 8, 8, 8, 8, 8, 8, 8, 8, 8, 8, 8, 8, 8, 8, 8, 8, 8, 8, 8, 8, 8, 8, 8, 8, 8, 8, 8, 8, 8, 8, 8, 8, 8, 8, 8, 8, 8, 8, 8, 8, 8, 8, 8, 8, 8, 8, 8, 8, 8, 8, 8, 8, 8, 8, 8, 8, 8]⟩
def bits_TrailingZeros32.f (x : Int) : Option Int := if 0 ≤ x ∧ x < 4294967296 then some (Lib.ctz 32 x.toNat : Int) else none
def tabM : Nat → Nat → Option Value := fun b o => if b = 0 ∧ o < 32 then some (.int .u8 (Lib.deBruijn32tab.getD o 0)) else none
def cutplaneref03_Is.f (x0 : Int) : Option (Bool) := if x0 = 1 then (some true) else (some (decide (x0 = 2)))
abbrev cutplaneref03_Is.S : Sig := { ps := [.lf (.i .u8)], rs := [.lf (.b)], wb := [], R := Bool, mkR := fun y0 => some y0, un := fun r => [.bool r] }
def cutplaneref03_Is.F (k : Nat) : Fun := { S := cutplaneref03_Is.S, f := cutplaneref03_Is.f }
def cutplaneref03_Is.C (k : Nat) : Cfg := { T := TT, G := lookG [], nt := 9, cuts := [], M0 := tabM }
def cutplaneref03_Is.H (k : Nat) : List (CutF cutplaneref03_Is.S.R) := []
def cutplaneref04_Is.f (x0 : Int) : Option (Bool) := if x0 ≥ 1 then (some (decide (x0 ≤ 5))) else (some false)
abbrev cutplaneref04_Is.S : Sig := { ps := [.lf (.i .u8)], rs := [.lf (.b)], wb := [], R := Bool, mkR := fun y0 => some y0, un := fun r => [.bool r] }
def cutplaneref04_Is.F (k : Nat) : Fun := { S := cutplaneref04_Is.S, f := cutplaneref04_Is.f }
def cutplaneref04_Is.C (k : Nat) : Cfg := { T := TT, G := lookG [], nt := 9, cuts := [], M0 := tabM }
def cutplaneref04_Is.H (k : Nat) : List (CutF cutplaneref04_Is.S.R) := []
def cutplaneref03_Good.f (x0 : Int) (x1 : Int) : Option (Int) := (cutplaneref03_Is.f x0).bind fun t14 => (if (!t14) = true then (some 4) else (if x0 = 1 then (if x1 ≥ 4294967296 then (some 6) else (some 0)) else (some 0)))
abbrev cutplaneref03_Good.S : Sig := { ps := [.lf (.i .u8), .lf (.i .u64)], rs := [.lf (.i .i64)], wb := [], R := Int, mkR := fun y0 => some y0, un := fun r => [.int .i64 r] }
def cutplaneref03_Good.F (k : Nat) : Fun := { S := cutplaneref03_Good.S, f := cutplaneref03_Good.f }
def cutplaneref03_Good.C (k : Nat) : Cfg := { T := TT, G := lookG [(23, [cutplaneref03_Is.F k])], nt := 14, cuts := [], M0 := tabM }
def cutplaneref03_Good.H (k : Nat) : List (CutF cutplaneref03_Good.S.R) := []
def cutplanelaw06_opens.l0 : Nat → Int → List Int → Int → Option (Int)
  | 0, _, _, _ => none
  | k + 1, x0, x2, x7 => if x7 < (x2.length : Int) then (if 0 ≤ x7 then (if x7 < (x2.length : Int) then ((cutplaneref03_Good.f x0 (rd x2 x7)).bind fun t23 => (if ¬ (t23 = 0) then (some 6) else (cutplanelaw06_opens.l0 k x0 x2 (wrap64 (x7 + 1))))) else (none)) else (none)) else (some 0)
def cutplanelaw06_opens.f (k : Nat) (x0 : Int) (x1 : Int) (x2 : List Int) : Option (Int) := (cutplaneref03_Is.f x0).bind fun t21 => (if (!t21) = true then (some 4) else ((cutplaneref04_Is.f x1).bind fun t22 => (if (!t22) = true then (some 5) else (cutplanelaw06_opens.l0 k x0 x2 0))))
abbrev cutplanelaw06_opens.S : Sig := { ps := [.lf (.i .u8), .lf (.i .u8), .lf (.is .u64)], rs := [.lf (.i .i64)], wb := [], R := Int, mkR := fun y0 => some y0, un := fun r => [.int .i64 r] }
def cutplanelaw06_opens.F (k : Nat) : Fun := { S := cutplanelaw06_opens.S, f := cutplanelaw06_opens.f k }
abbrev cutplanelaw06_opens.vl0 : List (Nat × Kx) := [(0, .lf (.i .u8)), (2, .lf (.is .u64)), (7, .lf (.i .i64))]
def cutplanelaw06_opens.C (k : Nat) : Cfg := { T := TT, G := lookG [(23, [cutplaneref03_Is.F k]), (24, [cutplaneref04_Is.F k]), (25, [cutplaneref03_Good.F k])], nt := 27, cuts := [⟨codeOf [true, true, true, false, true, false] 1, [true, true, true, false, true, false], cutplanelaw06_opens.vl0⟩], M0 := tabM }
def cutplanelaw06_opens.H (k : Nat) : List (CutF cutplanelaw06_opens.S.R) := [⟨cutplanelaw06_opens.vl0, cutplanelaw06_opens.l0 k⟩]
def cutplaneref03_Sign.f (x0 : Int) : Option (Int) := if x0 = 1 then (some 2147483648) else (some 9223372036854775808)
abbrev cutplaneref03_Sign.S : Sig := { ps := [.lf (.i .u8)], rs := [.lf (.i .u64)], wb := [], R := Int, mkR := fun y0 => some y0, un := fun r => [.int .u64 r] }
def cutplaneref03_Sign.F (k : Nat) : Fun := { S := cutplaneref03_Sign.S, f := cutplaneref03_Sign.f }
def cutplaneref03_Sign.C (k : Nat) : Cfg := { T := TT, G := lookG [], nt := 5, cuts := [], M0 := tabM }
def cutplaneref03_Sign.H (k : Nat) : List (CutF cutplaneref03_Sign.S.R) := []
def cutplaneref03_Frac.f (x0 : Int) : Option (Int) := if x0 = 1 then (some 23) else (some 52)
abbrev cutplaneref03_Frac.S : Sig := { ps := [.lf (.i .u8)], rs := [.lf (.i .i64)], wb := [], R := Int, mkR := fun y0 => some y0, un := fun r => [.int .i64 r] }
def cutplaneref03_Frac.F (k : Nat) : Fun := { S := cutplaneref03_Frac.S, f := cutplaneref03_Frac.f }
def cutplaneref03_Frac.C (k : Nat) : Cfg := { T := TT, G := lookG [], nt := 5, cuts := [], M0 := tabM }
def cutplaneref03_Frac.H (k : Nat) : List (CutF cutplaneref03_Frac.S.R) := []
def cutplaneref03_Split.f (x0 : Int) (x1 : Int) : Option (Bool × Int × Int) := (cutplaneref03_Sign.f x0).bind fun t26 => ((cutplaneref03_Sign.f x0).bind fun t27 => (if t27 = 0 then (none) else ((cutplaneref03_Frac.f x0).bind fun t28 => (if 0 ≤ t28 then (if (shl .u64 1 t28) = 0 then (none) else ((cutplaneref03_Frac.f x0).bind fun t29 => (if 0 ≤ t29 then (some (decide (x1 ≥ t26), wrap64 (shr .u64 (Int.tmod x1 t27) t29), Int.tmod (Int.tmod x1 t27) (shl .u64 1 t28))) else (none)))) else (none)))))
abbrev cutplaneref03_Split.S : Sig := { ps := [.lf (.i .u8), .lf (.i .u64)], rs := [.ag [.b, .i .i64, .i .u64]], wb := [], R := Bool × Int × Int, mkR := fun y0 y1 y2 => some (y0, y1, y2), un := fun r => [.bool r.1, .int .i64 r.2.1, .int .u64 r.2.2] }
def cutplaneref03_Split.F (k : Nat) : Fun := { S := cutplaneref03_Split.S, f := cutplaneref03_Split.f }
def cutplaneref03_Split.C (k : Nat) : Cfg := { T := TT, G := lookG [(39, [cutplaneref03_Frac.F k]), (69, [cutplaneref03_Sign.F k])], nt := 28, cuts := [], M0 := tabM }
def cutplaneref03_Split.H (k : Nat) : List (CutF cutplaneref03_Split.S.R) := []
def cutplaneref03_Most.f (x0 : Int) : Option (Int) := if x0 = 1 then (some 255) else (some 2047)
abbrev cutplaneref03_Most.S : Sig := { ps := [.lf (.i .u8)], rs := [.lf (.i .i64)], wb := [], R := Int, mkR := fun y0 => some y0, un := fun r => [.int .i64 r] }
def cutplaneref03_Most.F (k : Nat) : Fun := { S := cutplaneref03_Most.S, f := cutplaneref03_Most.f }
def cutplaneref03_Most.C (k : Nat) : Cfg := { T := TT, G := lookG [], nt := 5, cuts := [], M0 := tabM }
def cutplaneref03_Most.H (k : Nat) : List (CutF cutplaneref03_Most.S.R) := []
def cutplaneref03_Class.f (x0 : Int) (x1 : Int) : Option (Int) := (cutplaneref03_Split.f x0 x1).bind fun t41 => (if t41.2.1 = 0 then (if t41.2.2 = 0 then (some 1) else (if t41.2.1 = 0 then (some 2) else ((cutplaneref03_Most.f x0).bind fun t42 => (if t41.2.1 < t42 then (some 3) else (if t41.2.2 = 0 then (some 4) else (some 5)))))) else (if t41.2.1 = 0 then (some 2) else ((cutplaneref03_Most.f x0).bind fun t43 => (if t41.2.1 < t43 then (some 3) else (if t41.2.2 = 0 then (some 4) else (some 5))))))
abbrev cutplaneref03_Class.S : Sig := { ps := [.lf (.i .u8), .lf (.i .u64)], rs := [.lf (.i .u8)], wb := [], R := Int, mkR := fun y0 => some y0, un := fun r => [.int .u8 r] }
def cutplaneref03_Class.F (k : Nat) : Fun := { S := cutplaneref03_Class.S, f := cutplaneref03_Class.f }
def cutplaneref03_Class.C (k : Nat) : Cfg := { T := TT, G := lookG [(35, [cutplaneref03_Split.F k]), (40, [cutplaneref03_Most.F k])], nt := 28, cuts := [], M0 := tabM }
def cutplaneref03_Class.H (k : Nat) : List (CutF cutplaneref03_Class.S.R) := []
def cutplaneref03_Finite.f (x0 : Int) (x1 : Int) : Option (Bool) := (cutplaneref03_Class.f x0 x1).bind fun t46 => (if ¬ (t46 = 4) then (some (decide (¬ (t46 = 5)))) else (some false))
abbrev cutplaneref03_Finite.S : Sig := { ps := [.lf (.i .u8), .lf (.i .u64)], rs := [.lf (.b)], wb := [], R := Bool, mkR := fun y0 => some y0, un := fun r => [.bool r] }
def cutplaneref03_Finite.F (k : Nat) : Fun := { S := cutplaneref03_Finite.S, f := cutplaneref03_Finite.f }
def cutplaneref03_Finite.C (k : Nat) : Cfg := { T := TT, G := lookG [(13, [cutplaneref03_Class.F k])], nt := 15, cuts := [], M0 := tabM }
def cutplaneref03_Finite.H (k : Nat) : List (CutF cutplaneref03_Finite.S.R) := []
def round_formOf.f (x0 : Int) : Option (Int × Int × Int × Bool) := if x0 = 1 then (some (24, (-149), 128, true)) else (if x0 = 2 then (some (53, (-1074), 1024, true)) else (some (0, 0, 0, false)))
abbrev round_formOf.S : Sig := { ps := [.lf (.i .u8)], rs := [.ag [.i .i64, .i .i64, .i .i64], .lf (.b)], wb := [], R := Int × Int × Int × Bool, mkR := fun y0 y1 y2 y3 => some (y0, y1, y2, y3), un := fun r => [.int .i64 r.1, .int .i64 r.2.1, .int .i64 r.2.2.1, .bool r.2.2.2] }
def round_formOf.F (k : Nat) : Fun := { S := round_formOf.S, f := round_formOf.f }
def round_formOf.C (k : Nat) : Cfg := { T := TT, G := lookG [], nt := 12, cuts := [], M0 := tabM }
def round_formOf.H (k : Nat) : List (CutF round_formOf.S.R) := []
def nat_May.f (x0 : List Int) : Option (Bool) := if (x0.length : Int) ≤ 4096 then (if (x0.length : Int) = 0 then (some true) else (if 0 ≤ wrap64 ((x0.length : Int) - 1) then (if wrap64 ((x0.length : Int) - 1) < (x0.length : Int) then (some (decide (¬ (rd x0 (wrap64 ((x0.length : Int) - 1)) = 0)))) else (none)) else (none))) else (some false)
abbrev nat_May.S : Sig := { ps := [.lf (.is .u32)], rs := [.lf (.b)], wb := [], R := Bool, mkR := fun y0 => some y0, un := fun r => [.bool r] }
def nat_May.F (k : Nat) : Fun := { S := nat_May.S, f := nat_May.f }
def nat_May.C (k : Nat) : Cfg := { T := TT, G := lookG [], nt := 20, cuts := [], M0 := tabM }
def nat_May.H (k : Nat) : List (CutF nat_May.S.R) := []
def dyad_inside.f (x0 : Int) : Option (Bool) := if (-16777216) ≤ x0 then (some (decide (x0 ≤ 16777216))) else (some false)
abbrev dyad_inside.S : Sig := { ps := [.lf (.i .i64)], rs := [.lf (.b)], wb := [], R := Bool, mkR := fun y0 => some y0, un := fun r => [.bool r] }
def dyad_inside.F (k : Nat) : Fun := { S := dyad_inside.S, f := dyad_inside.f }
def dyad_inside.C (k : Nat) : Cfg := { T := TT, G := lookG [], nt := 9, cuts := [], M0 := tabM }
def dyad_inside.H (k : Nat) : List (CutF dyad_inside.S.R) := []
def dyad_May.f (x0_0 : Bool) (x0_1 : List Int) (x0_2 : Int) : Option (Bool) := (nat_May.f x0_1).bind fun t68 => (if (!t68) = true then (some false) else (if (x0_1.length : Int) = 0 then (if (!x0_0) = true then (some (decide (x0_2 = 0))) else (some false)) else (if 0 < (x0_1.length : Int) then (if (Go.bits .and .u32 (rd x0_1 0) 1) = 1 then ((dyad_inside.f x0_2).bind fun t69 => (some t69)) else (some false)) else (none))))
abbrev dyad_May.S : Sig := { ps := [.ag [.b, .is .u32, .i .i64]], rs := [.lf (.b)], wb := [], R := Bool, mkR := fun y0 => some y0, un := fun r => [.bool r] }
def dyad_May.F (k : Nat) : Fun := { S := dyad_May.S, f := dyad_May.f }
def dyad_May.C (k : Nat) : Cfg := { T := TT, G := lookG [(91, [nat_May.F k]), (104, [dyad_inside.F k])], nt := 30, cuts := [], M0 := tabM }
def dyad_May.H (k : Nat) : List (CutF dyad_May.S.R) := []
def round_open.l0 : Nat → Int → Int → Int → Int → Int → Int → List (Bool × List Int × Int) → Int → Int → Option (Int × Int × Int × Int)
  | 0, _, _, _, _, _, _, _, _, _ => none
  | k + 1, x6_0, x6_1, x6_2, x8_0, x8_1, x8_2, x27, x28, x29 => if x29 < x28 then (if 0 ≤ x29 then (if x29 < (x27.length : Int) then ((dyad_May.f ((rdT [.b, .is .u32, .i .i64] x27 x29).1) ((rdT [.b, .is .u32, .i .i64] x27 x29).2.1) ((rdT [.b, .is .u32, .i .i64] x27 x29).2.2)).bind fun t79 => (if (!t79) = true then (some (x8_0, x8_1, x8_2, 2)) else (round_open.l0 k x6_0 x6_1 x6_2 x8_0 x8_1 x8_2 x27 x28 (wrap64 (x29 + 1))))) else (none)) else (none)) else (some (x8_0, x8_1, x8_2, 0))
def round_open.f (k : Nat) (x0 : Int) (x1 : Int) (x2 : List (Bool × List Int × Int)) : Option (Int × Int × Int × Int) := (round_formOf.f x0).bind fun t78 => (if (!t78.2.2.2) = true then (some (t78.1, t78.2.1, t78.2.2.1, 4)) else (if x1 < 1 then (some (t78.1, t78.2.1, t78.2.2.1, 5)) else (if x1 > 5 then (some (t78.1, t78.2.1, t78.2.2.1, 5)) else (round_open.l0 k 0 0 0 t78.1 t78.2.1 t78.2.2.1 x2 (x2.length : Int) 0))))
abbrev round_open.S : Sig := { ps := [.lf (.i .u8), .lf (.i .u8), .lf (.rw [.b, .is .u32, .i .i64])], rs := [.ag [.i .i64, .i .i64, .i .i64], .lf (.i .i64)], wb := [], R := Int × Int × Int × Int, mkR := fun y0 y1 y2 y3 => some (y0, y1, y2, y3), un := fun r => [.int .i64 r.1, .int .i64 r.2.1, .int .i64 r.2.2.1, .int .i64 r.2.2.2] }
def round_open.F (k : Nat) : Fun := { S := round_open.S, f := round_open.f k }
abbrev round_open.vl0 : List (Nat × Kx) := [(6, .bx [.i .i64, .i .i64, .i .i64]), (8, .bx [.i .i64, .i .i64, .i .i64]), (27, .lf (.rw [.b, .is .u32, .i .i64])), (28, .lf (.i .i64)), (29, .lf (.i .i64))]
def round_open.C (k : Nat) : Cfg := { T := TT, G := lookG [(78, [dyad_May.F k]), (94, [round_formOf.F k])], nt := 39, cuts := [⟨codeOf [true, true, true, true, false, true, false] 1, [true, true, true, true, false, true, false], round_open.vl0⟩], M0 := tabM }
def round_open.H (k : Nat) : List (CutF round_open.S.R) := [⟨round_open.vl0, round_open.l0 k⟩]
def word_shapeOf.f (x0 : Int) : Option (Int × Int × Int × Bool) := if x0 = 1 then (some (23, 255, 2147483648, true)) else (if x0 = 2 then (some (52, 2047, 9223372036854775808, true)) else (some (0, 0, 0, false)))
abbrev word_shapeOf.S : Sig := { ps := [.lf (.i .u8)], rs := [.ag [.i .i64, .i .i64, .i .u64], .lf (.b)], wb := [], R := Int × Int × Int × Bool, mkR := fun y0 y1 y2 y3 => some (y0, y1, y2, y3), un := fun r => [.int .i64 r.1, .int .i64 r.2.1, .int .u64 r.2.2.1, .bool r.2.2.2] }
def word_shapeOf.F (k : Nat) : Fun := { S := word_shapeOf.S, f := word_shapeOf.f }
def word_shapeOf.C (k : Nat) : Cfg := { T := TT, G := lookG [], nt := 12, cuts := [], M0 := tabM }
def word_shapeOf.H (k : Nat) : List (CutF word_shapeOf.S.R) := []
def word_open.l0 : Nat → Int → Int → Int → Int → Int → Int → List Int → Int → Int → Option (Int × Int × Int × Int)
  | 0, _, _, _, _, _, _, _, _, _ => none
  | k + 1, x4_0, x4_1, x4_2, x6_0, x6_1, x6_2, x18, x19, x20 => if x20 < x19 then (if 0 ≤ x20 then (if x20 < (x18.length : Int) then (if (rd x18 x20) > (Go.bits .or .u64 x6_2 (IntKind.u64.wrap (x6_2 - 1))) then (some (x6_0, x6_1, x6_2, 6)) else (word_open.l0 k x4_0 x4_1 x4_2 x6_0 x6_1 x6_2 x18 x19 (wrap64 (x20 + 1)))) else (none)) else (none)) else (some (x6_0, x6_1, x6_2, 0))
def word_open.f (k : Nat) (x0 : Int) (x1 : List Int) : Option (Int × Int × Int × Int) := (word_shapeOf.f x0).bind fun t89 => (if (!t89.2.2.2) = true then (some (t89.1, t89.2.1, t89.2.2.1, 4)) else (word_open.l0 k 0 0 0 t89.1 t89.2.1 t89.2.2.1 x1 (x1.length : Int) 0))
abbrev word_open.S : Sig := { ps := [.lf (.i .u8), .lf (.is .u64)], rs := [.ag [.i .i64, .i .i64, .i .u64], .lf (.i .i64)], wb := [], R := Int × Int × Int × Int, mkR := fun y0 y1 y2 y3 => some (y0, y1, y2, y3), un := fun r => [.int .i64 r.1, .int .i64 r.2.1, .int .u64 r.2.2.1, .int .i64 r.2.2.2] }
def word_open.F (k : Nat) : Fun := { S := word_open.S, f := word_open.f k }
abbrev word_open.vl0 : List (Nat × Kx) := [(4, .bx [.i .i64, .i .i64, .i .u64]), (6, .bx [.i .i64, .i .i64, .i .u64]), (18, .lf (.is .u64)), (19, .lf (.i .i64)), (20, .lf (.i .i64))]
def word_open.C (k : Nat) : Cfg := { T := TT, G := lookG [(103, [word_shapeOf.F k])], nt := 35, cuts := [⟨codeOf [true, true, true, false, true, false] 1, [true, true, true, false, true, false], word_open.vl0⟩], M0 := tabM }
def word_open.H (k : Nat) : List (CutF word_open.S.R) := [⟨word_open.vl0, word_open.l0 k⟩]
def word_shape_inf.f (x0_0 : Int) (x0_1 : Int) (x0_2 : Int) : Option (Int) := if 0 ≤ x0_0 then (some (shl .u64 (IntKind.u64.wrap x0_1) x0_0)) else (none)
abbrev word_shape_inf.S : Sig := { ps := [.ag [.i .i64, .i .i64, .i .u64]], rs := [.lf (.i .u64)], wb := [], R := Int, mkR := fun y0 => some y0, un := fun r => [.int .u64 r] }
def word_shape_inf.F (k : Nat) : Fun := { S := word_shape_inf.S, f := word_shape_inf.f }
def word_shape_inf.C (k : Nat) : Cfg := { T := TT, G := lookG [], nt := 9, cuts := [], M0 := tabM }
def word_shape_inf.H (k : Nat) : List (CutF word_shape_inf.S.R) := []
def word_Greatest_1.f (x0_0 : Int) (x0_1 : Int) (x0_2 : Int) : Option (Int) := (word_shape_inf.f x0_0 x0_1 x0_2).bind fun t92 => (some (IntKind.u64.wrap (t92 - 1)))
abbrev word_Greatest_1.S : Sig := { ps := [.ag [.i .i64, .i .i64, .i .u64]], rs := [.lf (.i .u64)], wb := [], R := Int, mkR := fun y0 => some y0, un := fun r => [.int .u64 r] }
def word_Greatest_1.F (k : Nat) : Fun := { S := word_Greatest_1.S, f := word_Greatest_1.f }
def word_Greatest_1.C (k : Nat) : Cfg := { T := TT, G := lookG [(58, [word_shape_inf.F k])], nt := 6, cuts := [], M0 := tabM }
def word_Greatest_1.H (k : Nat) : List (CutF word_Greatest_1.S.R) := []
def word_named_word_Greatest_1.f (k : Nat) (x0 : Int) (x1 : Bool) : Option (Int × Int) := (word_open.f k x0 ([] : List Int)).bind fun t100 => (if ¬ (t100.2.2.2 = 0) then (some (0, t100.2.2.2)) else ((word_Greatest_1.f t100.1 t100.2.1 t100.2.2.1).bind fun t101 => (if x1 = true then (some (Go.bits .or .u64 t101 t100.2.2.1, 0)) else (some (t101, 0)))))
abbrev word_named_word_Greatest_1.S : Sig := { ps := [.lf (.i .u8), .lf (.b), .lf (.fn 106)], rs := [.lf (.i .u64), .lf (.i .i64)], wb := [], R := Int × Int, mkR := fun y0 y1 => some (y0, y1), un := fun r => [.int .u64 r.1, .int .i64 r.2] }
def word_named_word_Greatest_1.F (k : Nat) : Fun := { S := word_named_word_Greatest_1.S, f := word_named_word_Greatest_1.f k }
def word_named_word_Greatest_1.C (k : Nat) : Cfg := { T := TT, G := lookG [(77, [word_open.F k]), (106, [word_Greatest_1.F k])], nt := 28, cuts := [], M0 := tabM }
def word_named_word_Greatest_1.H (k : Nat) : List (CutF word_named_word_Greatest_1.S.R) := []
def word_Greatest.f (k : Nat) (x0 : Int) (x1 : Bool) : Option (Int × Int) := (word_named_word_Greatest_1.f k x0 x1).bind fun t102 => (some (t102.1, t102.2))
abbrev word_Greatest.S : Sig := { ps := [.lf (.i .u8), .lf (.b)], rs := [.lf (.i .u64), .lf (.i .i64)], wb := [], R := Int × Int, mkR := fun y0 y1 => some (y0, y1), un := fun r => [.int .u64 r.1, .int .i64 r.2] }
def word_Greatest.F (k : Nat) : Fun := { S := word_Greatest.S, f := word_Greatest.f k }
def word_Greatest.C (k : Nat) : Cfg := { T := TT, G := lookG [(56, [word_named_word_Greatest_1.F k])], nt := 11, cuts := [], M0 := tabM }
def word_Greatest.H (k : Nat) : List (CutF word_Greatest.S.R) := []
def word_named_word_shape_inf.f (k : Nat) (x0 : Int) (x1 : Bool) : Option (Int × Int) := (word_open.f k x0 ([] : List Int)).bind fun t114 => (if ¬ (t114.2.2.2 = 0) then (some (0, t114.2.2.2)) else ((word_shape_inf.f t114.1 t114.2.1 t114.2.2.1).bind fun t115 => (if x1 = true then (some (Go.bits .or .u64 t115 t114.2.2.1, 0)) else (some (t115, 0)))))
abbrev word_named_word_shape_inf.S : Sig := { ps := [.lf (.i .u8), .lf (.b), .lf (.fn 58)], rs := [.lf (.i .u64), .lf (.i .i64)], wb := [], R := Int × Int, mkR := fun y0 y1 => some (y0, y1), un := fun r => [.int .u64 r.1, .int .i64 r.2] }
def word_named_word_shape_inf.F (k : Nat) : Fun := { S := word_named_word_shape_inf.S, f := word_named_word_shape_inf.f k }
def word_named_word_shape_inf.C (k : Nat) : Cfg := { T := TT, G := lookG [(58, [word_shape_inf.F k]), (77, [word_open.F k])], nt := 28, cuts := [], M0 := tabM }
def word_named_word_shape_inf.H (k : Nat) : List (CutF word_named_word_shape_inf.S.R) := []
def word_Inf.f (k : Nat) (x0 : Int) (x1 : Bool) : Option (Int × Int) := (word_named_word_shape_inf.f k x0 x1).bind fun t116 => (some (t116.1, t116.2))
abbrev word_Inf.S : Sig := { ps := [.lf (.i .u8), .lf (.b)], rs := [.lf (.i .u64), .lf (.i .i64)], wb := [], R := Int × Int, mkR := fun y0 y1 => some (y0, y1), un := fun r => [.int .u64 r.1, .int .i64 r.2] }
def word_Inf.F (k : Nat) : Fun := { S := word_Inf.S, f := word_Inf.f k }
def word_Inf.C (k : Nat) : Cfg := { T := TT, G := lookG [(56, [word_named_word_shape_inf.F k])], nt := 11, cuts := [], M0 := tabM }
def word_Inf.H (k : Nat) : List (CutF word_Inf.S.R) := []
def round_Over.j1 : Nat → Int → Bool → Bool → Option (Int × Int)
  | 0, _, _, _ => none
  | k + 1, x0, x2, x35 => if x35 = true then ((word_Greatest.f k x0 x2).bind fun t121 => (some (t121.1, t121.2))) else ((word_Inf.f k x0 x2).bind fun t122 => (some (t122.1, t122.2)))
def round_Over.f (k : Nat) (x0 : Int) (x1 : Int) (x2 : Bool) : Option (Int × Int) := (round_open.f k x0 x1 []).bind fun t120 => (if ¬ (t120.2.2.2 = 0) then (some (0, t120.2.2.2)) else (if x1 = 3 then (round_Over.j1 k x0 x2 true) else (if x1 = 4 then (if x2 = true then (round_Over.j1 k x0 x2 true) else (if x1 = 5 then (round_Over.j1 k x0 x2 (!x2)) else (round_Over.j1 k x0 x2 false))) else (if x1 = 5 then (round_Over.j1 k x0 x2 (!x2)) else (round_Over.j1 k x0 x2 false)))))
abbrev round_Over.S : Sig := { ps := [.lf (.i .u8), .lf (.i .u8), .lf (.b)], rs := [.lf (.i .u64), .lf (.i .i64)], wb := [], R := Int × Int, mkR := fun y0 y1 => some (y0, y1), un := fun r => [.int .u64 r.1, .int .i64 r.2] }
def round_Over.F (k : Nat) : Fun := { S := round_Over.S, f := round_Over.f k }
abbrev round_Over.vj1 : List (Nat × Kx) := [(0, .lf (.i .u8)), (2, .lf (.b)), (35, .lf (.b))]
def round_Over.C (k : Nat) : Cfg := { T := TT, G := lookG [(29, [word_Inf.F k]), (65, [round_open.F k]), (90, [word_Greatest.F k])], nt := 46, cuts := [⟨codeOf [true, true, false, true] 1, [true, true, false, true], round_Over.vj1⟩], M0 := tabM }
def round_Over.H (k : Nat) : List (CutF round_Over.S.R) := [⟨round_Over.vj1, round_Over.j1 k⟩]
def conv_mode.f (k : Nat) (x0 : Int) (x1 : Int) : Option (Int) := (round_Over.f k x0 x1 false).bind fun t123 => (some t123.2)
abbrev conv_mode.S : Sig := { ps := [.lf (.i .u8), .lf (.i .u8)], rs := [.lf (.i .i64)], wb := [], R := Int, mkR := fun y0 => some y0, un := fun r => [.int .i64 r] }
def conv_mode.F (k : Nat) : Fun := { S := conv_mode.S, f := conv_mode.f k }
def conv_mode.C (k : Nat) : Cfg := { T := TT, G := lookG [(54, [round_Over.F k])], nt := 14, cuts := [], M0 := tabM }
def conv_mode.H (k : Nat) : List (CutF conv_mode.S.R) := []
def word_shape_class.f (x0_0 : Int) (x0_1 : Int) (x0_2 : Int) (x1 : Int) : Option (Int) := if (Go.bits .andNot .u64 x1 x0_2) = 0 then (some 1) else (if 0 ≤ x0_0 then (if (Go.bits .andNot .u64 x1 x0_2) < (shl .u64 1 x0_0) then (some 2) else ((word_shape_inf.f x0_0 x0_1 x0_2).bind fun t134 => (if (Go.bits .andNot .u64 x1 x0_2) < t134 then (some 3) else ((word_shape_inf.f x0_0 x0_1 x0_2).bind fun t135 => (if (Go.bits .andNot .u64 x1 x0_2) = t135 then (some 4) else (some 5)))))) else (none))
abbrev word_shape_class.S : Sig := { ps := [.ag [.i .i64, .i .i64, .i .u64], .lf (.i .u64)], rs := [.lf (.i .u8)], wb := [], R := Int, mkR := fun y0 => some y0, un := fun r => [.int .u8 r] }
def word_shape_class.F (k : Nat) : Fun := { S := word_shape_class.S, f := word_shape_class.f }
def word_shape_class.C (k : Nat) : Cfg := { T := TT, G := lookG [(58, [word_shape_inf.F k])], nt := 29, cuts := [], M0 := tabM }
def word_shape_class.H (k : Nat) : List (CutF word_shape_class.S.R) := []
def word_Class.f (k : Nat) (x0 : Int) (x1 : Int) : Option (Int × Int) := (word_open.f k x0 ([x1] : List Int)).bind fun t137 => (if ¬ (t137.2.2.2 = 0) then (some (0, t137.2.2.2)) else ((word_shape_class.f t137.1 t137.2.1 t137.2.2.1 x1).bind fun t138 => (some (t138, 0))))
abbrev word_Class.S : Sig := { ps := [.lf (.i .u8), .lf (.i .u64)], rs := [.lf (.i .u8), .lf (.i .i64)], wb := [], R := Int × Int, mkR := fun y0 y1 => some (y0, y1), un := fun r => [.int .u8 r.1, .int .i64 r.2] }
def word_Class.F (k : Nat) : Fun := { S := word_Class.S, f := word_Class.f k }
def word_Class.C (k : Nat) : Cfg := { T := TT, G := lookG [(77, [word_open.F k]), (88, [word_shape_class.F k])], nt := 21, cuts := [], M0 := tabM }
def word_Class.H (k : Nat) : List (CutF word_Class.S.R) := []
def word_shape_split.f (x0_0 : Int) (x0_1 : Int) (x0_2 : Int) (x1 : Int) : Option (Bool × Int × Int) := if 0 ≤ x0_0 then (if 0 ≤ x0_0 then (some (decide (¬ (Go.bits .and .u64 x1 x0_2 = 0)), wrap64 (shr .u64 (Go.bits .andNot .u64 x1 x0_2) x0_0), Go.bits .and .u64 (Go.bits .andNot .u64 x1 x0_2) (IntKind.u64.wrap ((shl .u64 1 x0_0) - 1)))) else (none)) else (none)
abbrev word_shape_split.S : Sig := { ps := [.ag [.i .i64, .i .i64, .i .u64], .lf (.i .u64)], rs := [.ag [.b, .i .i64, .i .u64]], wb := [], R := Bool × Int × Int, mkR := fun y0 y1 y2 => some (y0, y1, y2), un := fun r => [.bool r.1, .int .i64 r.2.1, .int .u64 r.2.2] }
def word_shape_split.F (k : Nat) : Fun := { S := word_shape_split.S, f := word_shape_split.f }
def word_shape_split.C (k : Nat) : Cfg := { T := TT, G := lookG [], nt := 27, cuts := [], M0 := tabM }
def word_shape_split.H (k : Nat) : List (CutF word_shape_split.S.R) := []
def word_Split.f (k : Nat) (x0 : Int) (x1 : Int) : Option (Bool × Int × Int × Int) := (word_open.f k x0 ([x1] : List Int)).bind fun t143 => (if ¬ (t143.2.2.2 = 0) then (some (false, 0, 0, t143.2.2.2)) else ((word_shape_split.f t143.1 t143.2.1 t143.2.2.1 x1).bind fun t144 => (some (t144.1, t144.2.1, t144.2.2, 0))))
abbrev word_Split.S : Sig := { ps := [.lf (.i .u8), .lf (.i .u64)], rs := [.ag [.b, .i .i64, .i .u64], .lf (.i .i64)], wb := [], R := Bool × Int × Int × Int, mkR := fun y0 y1 y2 y3 => some (y0, y1, y2, y3), un := fun r => [.bool r.1, .int .i64 r.2.1, .int .u64 r.2.2.1, .int .i64 r.2.2.2] }
def word_Split.F (k : Nat) : Fun := { S := word_Split.S, f := word_Split.f k }
def word_Split.C (k : Nat) : Cfg := { T := TT, G := lookG [(61, [word_shape_split.F k]), (77, [word_open.F k])], nt := 22, cuts := [], M0 := tabM }
def word_Split.H (k : Nat) : List (CutF word_Split.S.R) := []
def conv_open.f (k : Nat) (x0 : Int) (x1 : Int) (x2 : Int) : Option (Int × Bool × Int) := (conv_mode.f k x0 x1).bind fun t146 => (if ¬ (t146 = 0) then (some (0, false, t146)) else ((word_Class.f k x0 x2).bind fun t147 => ((word_Split.f k x0 x2).bind fun t148 => (some (t147.1, t148.1, t147.2)))))
abbrev conv_open.S : Sig := { ps := [.lf (.i .u8), .lf (.i .u8), .lf (.i .u64)], rs := [.lf (.i .u8), .lf (.b), .lf (.i .i64)], wb := [], R := Int × Bool × Int, mkR := fun y0 y1 y2 => some (y0, y1, y2), un := fun r => [.int .u8 r.1, .bool r.2.1, .int .i64 r.2.2] }
def conv_open.F (k : Nat) : Fun := { S := conv_open.S, f := conv_open.f k }
def conv_open.C (k : Nat) : Cfg := { T := TT, G := lookG [(26, [conv_mode.F k]), (52, [word_Class.F k]), (55, [word_Split.F k])], nt := 36, cuts := [], M0 := tabM }
def conv_open.H (k : Nat) : List (CutF conv_open.S.R) := []
def word_shape_none.f (x0_0 : Int) (x0_1 : Int) (x0_2 : Int) : Option (Int) := (word_shape_inf.f x0_0 x0_1 x0_2).bind fun t153 => (if 0 ≤ (wrap64 (x0_0 - 1)) then (some (Go.bits .or .u64 t153 (shl .u64 1 (wrap64 (x0_0 - 1))))) else (none))
abbrev word_shape_none.S : Sig := { ps := [.ag [.i .i64, .i .i64, .i .u64]], rs := [.lf (.i .u64)], wb := [], R := Int, mkR := fun y0 => some y0, un := fun r => [.int .u64 r] }
def word_shape_none.F (k : Nat) : Fun := { S := word_shape_none.S, f := word_shape_none.f }
def word_shape_none.C (k : Nat) : Cfg := { T := TT, G := lookG [(58, [word_shape_inf.F k])], nt := 10, cuts := [], M0 := tabM }
def word_shape_none.H (k : Nat) : List (CutF word_shape_none.S.R) := []
def word_named_word_shape_none.f (k : Nat) (x0 : Int) (x1 : Bool) : Option (Int × Int) := (word_open.f k x0 ([] : List Int)).bind fun t161 => (if ¬ (t161.2.2.2 = 0) then (some (0, t161.2.2.2)) else ((word_shape_none.f t161.1 t161.2.1 t161.2.2.1).bind fun t162 => (if x1 = true then (some (Go.bits .or .u64 t162 t161.2.2.1, 0)) else (some (t162, 0)))))
abbrev word_named_word_shape_none.S : Sig := { ps := [.lf (.i .u8), .lf (.b), .lf (.fn 57)], rs := [.lf (.i .u64), .lf (.i .i64)], wb := [], R := Int × Int, mkR := fun y0 y1 => some (y0, y1), un := fun r => [.int .u64 r.1, .int .i64 r.2] }
def word_named_word_shape_none.F (k : Nat) : Fun := { S := word_named_word_shape_none.S, f := word_named_word_shape_none.f k }
def word_named_word_shape_none.C (k : Nat) : Cfg := { T := TT, G := lookG [(57, [word_shape_none.F k]), (77, [word_open.F k])], nt := 28, cuts := [], M0 := tabM }
def word_named_word_shape_none.H (k : Nat) : List (CutF word_named_word_shape_none.S.R) := []
def word_None.f (k : Nat) (x0 : Int) : Option (Int × Int) := (word_named_word_shape_none.f k x0 false).bind fun t163 => (some (t163.1, t163.2))
abbrev word_None.S : Sig := { ps := [.lf (.i .u8)], rs := [.lf (.i .u64), .lf (.i .i64)], wb := [], R := Int × Int, mkR := fun y0 y1 => some (y0, y1), un := fun r => [.int .u64 r.1, .int .i64 r.2] }
def word_None.F (k : Nat) : Fun := { S := word_None.S, f := word_None.f k }
def word_None.C (k : Nat) : Cfg := { T := TT, G := lookG [(56, [word_named_word_shape_none.F k])], nt := 8, cuts := [], M0 := tabM }
def word_None.H (k : Nat) : List (CutF word_None.S.R) := []
def word_Zero_1.f (x0_0 : Int) (x0_1 : Int) (x0_2 : Int) : Option (Int) := some 0
abbrev word_Zero_1.S : Sig := { ps := [.ag [.i .i64, .i .i64, .i .u64]], rs := [.lf (.i .u64)], wb := [], R := Int, mkR := fun y0 => some y0, un := fun r => [.int .u64 r] }
def word_Zero_1.F (k : Nat) : Fun := { S := word_Zero_1.S, f := word_Zero_1.f }
def word_Zero_1.C (k : Nat) : Cfg := { T := TT, G := lookG [], nt := 3, cuts := [], M0 := tabM }
def word_Zero_1.H (k : Nat) : List (CutF word_Zero_1.S.R) := []
def word_named_word_Zero_1.f (k : Nat) (x0 : Int) (x1 : Bool) : Option (Int × Int) := (word_open.f k x0 ([] : List Int)).bind fun t175 => (if ¬ (t175.2.2.2 = 0) then (some (0, t175.2.2.2)) else ((word_Zero_1.f t175.1 t175.2.1 t175.2.2.1).bind fun t176 => (if x1 = true then (some (Go.bits .or .u64 t176 t175.2.2.1, 0)) else (some (t176, 0)))))
abbrev word_named_word_Zero_1.S : Sig := { ps := [.lf (.i .u8), .lf (.b), .lf (.fn 59)], rs := [.lf (.i .u64), .lf (.i .i64)], wb := [], R := Int × Int, mkR := fun y0 y1 => some (y0, y1), un := fun r => [.int .u64 r.1, .int .i64 r.2] }
def word_named_word_Zero_1.F (k : Nat) : Fun := { S := word_named_word_Zero_1.S, f := word_named_word_Zero_1.f k }
def word_named_word_Zero_1.C (k : Nat) : Cfg := { T := TT, G := lookG [(59, [word_Zero_1.F k]), (77, [word_open.F k])], nt := 28, cuts := [], M0 := tabM }
def word_named_word_Zero_1.H (k : Nat) : List (CutF word_named_word_Zero_1.S.R) := []
def word_Zero.f (k : Nat) (x0 : Int) (x1 : Bool) : Option (Int × Int) := (word_named_word_Zero_1.f k x0 x1).bind fun t177 => (some (t177.1, t177.2))
abbrev word_Zero.S : Sig := { ps := [.lf (.i .u8), .lf (.b)], rs := [.lf (.i .u64), .lf (.i .i64)], wb := [], R := Int × Int, mkR := fun y0 y1 => some (y0, y1), un := fun r => [.int .u64 r.1, .int .i64 r.2] }
def word_Zero.F (k : Nat) : Fun := { S := word_Zero.S, f := word_Zero.f k }
def word_Zero.C (k : Nat) : Cfg := { T := TT, G := lookG [(56, [word_named_word_Zero_1.F k])], nt := 11, cuts := [], M0 := tabM }
def word_Zero.H (k : Nat) : List (CutF word_Zero.S.R) := []
def word_finite.f (k : Nat) (x0 : Int) (x1 : Int) : Option (Int × Int × Int × Int) := (word_open.f k x0 ([x1] : List Int)).bind fun t186 => (if t186.2.2.2 = 0 then ((word_shape_class.f t186.1 t186.2.1 t186.2.2.1 x1).bind fun t187 => (if t187 ≥ 4 then (some (t186.1, t186.2.1, t186.2.2.1, 7)) else (some (t186.1, t186.2.1, t186.2.2.1, t186.2.2.2)))) else (some (t186.1, t186.2.1, t186.2.2.1, t186.2.2.2)))
abbrev word_finite.S : Sig := { ps := [.lf (.i .u8), .lf (.i .u64)], rs := [.ag [.i .i64, .i .i64, .i .u64], .lf (.i .i64)], wb := [], R := Int × Int × Int × Int, mkR := fun y0 y1 y2 y3 => some (y0, y1, y2, y3), un := fun r => [.int .i64 r.1, .int .i64 r.2.1, .int .u64 r.2.2.1, .int .i64 r.2.2.2] }
def word_finite.F (k : Nat) : Fun := { S := word_finite.S, f := word_finite.f k }
def word_finite.C (k : Nat) : Cfg := { T := TT, G := lookG [(77, [word_open.F k]), (88, [word_shape_class.F k])], nt := 25, cuts := [], M0 := tabM }
def word_finite.H (k : Nat) : List (CutF word_finite.S.R) := []
def nat_trim.l0 : Nat → List Int → Option (List Int)
  | 0, _ => none
  | k + 1, x0 => if (x0.length : Int) > 0 then (if 0 ≤ wrap64 ((x0.length : Int) - 1) then (if wrap64 ((x0.length : Int) - 1) < (x0.length : Int) then (if (rd x0 (wrap64 ((x0.length : Int) - 1))) = 0 then (if 0 ≤ (wrap64 ((x0.length : Int) - 1)) then (if (wrap64 ((x0.length : Int) - 1)) ≤ (x0.length : Int) then (nat_trim.l0 k (x0.take (wrap64 ((x0.length : Int) - 1) : Int).toNat)) else (none)) else (none)) else (some x0)) else (none)) else (none)) else (some x0)
def nat_trim.f (k : Nat) (x0 : List Int) : Option (List Int) := nat_trim.l0 k x0
abbrev nat_trim.S : Sig := { ps := [.ow .u32], rs := [.ow .u32], wb := [], R := List Int, mkR := fun y0 => some y0, un := fun r => [.ints .u32 r] }
def nat_trim.F (k : Nat) : Fun := { S := nat_trim.S, f := nat_trim.f k }
abbrev nat_trim.vl0 : List (Nat × Kx) := [(0, .ow .u32)]
def nat_trim.C (k : Nat) : Cfg := { T := TT, G := lookG [], nt := 21, cuts := [⟨codeOf [true, false, false] 1, [true, false, false], nat_trim.vl0⟩], M0 := tabM }
def nat_trim.H (k : Nat) : List (CutF nat_trim.S.R) := [⟨nat_trim.vl0, nat_trim.l0 k⟩]
abbrev nat_trim.S1 : Sig := { ps := [.lf (.is .u32)], rs := [.lf (.is .u32)], wb := [], R := List Int, mkR := fun y0 => some y0, un := fun r => [.ints .u32 r] }
def nat_trim.F1 (k : Nat) : Fun := { S := nat_trim.S1, f := nat_trim.f k }
abbrev nat_trim.vl01 : List (Nat × Kx) := [(0, .lf (.is .u32))]
def nat_trim.C1 (k : Nat) : Cfg := { T := TT, G := lookG [], nt := 21, cuts := [⟨codeOf [true, false, false] 1, [true, false, false], nat_trim.vl01⟩], M0 := tabM }
def nat_trim.H1 (k : Nat) : List (CutF nat_trim.S1.R) := [⟨nat_trim.vl01, nat_trim.l0 k⟩]
def nat_Of.f (k : Nat) (x0 : Int) : Option (List Int) := (nat_trim.f k ([x0 % 4294967296, (x0 / 4294967296) % 4294967296] : List Int)).bind fun t192 => (some t192)
abbrev nat_Of.S : Sig := { ps := [.lf (.i .u64)], rs := [.lf (.is .u32)], wb := [], R := List Int, mkR := fun y0 => some y0, un := fun r => [.ints .u32 r] }
def nat_Of.F (k : Nat) : Fun := { S := nat_Of.S, f := nat_Of.f k }
def nat_Of.C (k : Nat) : Cfg := { T := TT, G := lookG [(93, [nat_trim.F k, nat_trim.F1 k])], nt := 10, cuts := [], M0 := tabM }
def nat_Of.H (k : Nat) : List (CutF nat_Of.S.R) := []
def word_shape_low.f (x0_0 : Int) (x0_1 : Int) (x0_2 : Int) : Option (Int) := some (wrap64 ((wrap64 (1 - (wrap64 (Int.tdiv x0_1 2)))) - x0_0))
abbrev word_shape_low.S : Sig := { ps := [.ag [.i .i64, .i .i64, .i .u64]], rs := [.lf (.i .i64)], wb := [], R := Int, mkR := fun y0 => some y0, un := fun r => [.int .i64 r] }
def word_shape_low.F (k : Nat) : Fun := { S := word_shape_low.S, f := word_shape_low.f }
def word_shape_low.C (k : Nat) : Cfg := { T := TT, G := lookG [], nt := 10, cuts := [], M0 := tabM }
def word_shape_low.H (k : Nat) : List (CutF word_shape_low.S.R) := []
abbrev bits_TrailingZeros32.S : Sig := { ps := [.lf (.i .u32)], rs := [.lf (.i .i64)], wb := [], R := Int, mkR := fun y0 => some y0, un := fun r => [.int .i64 r] }
def bits_TrailingZeros32.F (k : Nat) : Fun := { S := bits_TrailingZeros32.S, f := bits_TrailingZeros32.f }
def nat_Low.l0 : Nat → List Int → Int → Int → Option (Int)
  | 0, _, _, _ => none
  | k + 1, x8, x9, x10 => if x10 < x9 then (if 0 ≤ x10 then (if x10 < (x8.length : Int) then (if ¬ (rd x8 x10 = 0) then ((bits_TrailingZeros32.f (rd x8 x10)).bind fun t207 => (some (wrap64 ((wrap64 (32 * x10)) + t207)))) else (nat_Low.l0 k x8 x9 (wrap64 (x10 + 1)))) else (none)) else (none)) else (some 0)
def nat_Low.f (k : Nat) (x0 : List Int) : Option (Int) := (nat_May.f x0).bind fun t206 => (if (!t206) = true then (some 0) else (nat_Low.l0 k x0 (x0.length : Int) 0))
abbrev nat_Low.S : Sig := { ps := [.lf (.is .u32)], rs := [.lf (.i .i64)], wb := [], R := Int, mkR := fun y0 => some y0, un := fun r => [.int .i64 r] }
def nat_Low.F (k : Nat) : Fun := { S := nat_Low.S, f := nat_Low.f k }
abbrev nat_Low.vl0 : List (Nat × Kx) := [(8, .lf (.is .u32)), (9, .lf (.i .i64)), (10, .lf (.i .i64))]
def nat_Low.C (k : Nat) : Cfg := { T := TT, G := lookG [(91, [nat_May.F k]), (107, [bits_TrailingZeros32.F k])], nt := 23, cuts := [⟨codeOf [true, true, false, true, false] 1, [true, true, false, true, false], nat_Low.vl0⟩], M0 := tabM }
def nat_Low.H (k : Nat) : List (CutF nat_Low.S.R) := [⟨nat_Low.vl0, nat_Low.l0 k⟩]
def nat_down.l0 : Nat → List Int → Int → List Int → List Int → Int → Int → Option (List Int)
  | 0, _, _, _, _, _, _ => none
  | k + 1, x0, x5, x6, x23, x24, x25 => if x25 < x24 then (if 0 ≤ x25 then (if x25 < (x23.length : Int) then (if 0 ≤ x5 then (if 0 ≤ x25 then (if x25 < (x6.length : Int) then (if (wrap64 (x25 + 1)) < (x0.length : Int) then (if 0 ≤ x25 then (if x25 < ((x6.set (x25 : Int).toNat (shr .u32 (rd x23 x25) x5)).length : Int) then (if 0 ≤ wrap64 (x25 + 1) then (if wrap64 (x25 + 1) < (x0.length : Int) then (if 0 ≤ (wrap64 (32 - x5)) then (if 0 ≤ x25 then (if x25 < ((x6.set (x25 : Int).toNat (shr .u32 (rd x23 x25) x5)).length : Int) then (nat_down.l0 k x0 x5 ((x6.set (x25 : Int).toNat (shr .u32 (rd x23 x25) x5)).set (x25 : Int).toNat (Go.bits .or .u32 (rd (x6.set (x25 : Int).toNat (shr .u32 (rd x23 x25) x5)) x25) ((shl .u64 (IntKind.u64.wrap (rd x0 (wrap64 (x25 + 1)))) (wrap64 (32 - x5))) % 4294967296))) x23 x24 (wrap64 (x25 + 1))) else (none)) else (none)) else (none)) else (none)) else (none)) else (none)) else (none)) else (nat_down.l0 k x0 x5 (x6.set (x25 : Int).toNat (shr .u32 (rd x23 x25) x5)) x23 x24 (wrap64 (x25 + 1)))) else (none)) else (none)) else (none)) else (none)) else (none)) else ((nat_trim.f k x6).bind fun t214 => (some t214))
def nat_down.f (k : Nat) (x0 : List Int) (x1 : Int) : Option (List Int) := if (wrap64 (Int.tdiv x1 32)) ≥ (x0.length : Int) then (some ([] : List Int)) else (if 0 ≤ (wrap64 (Int.tdiv x1 32)) then (if (wrap64 (Int.tdiv x1 32)) ≤ (x0.length : Int) then (if 0 ≤ ((x0.drop (wrap64 (Int.tdiv x1 32) : Int).toNat).length : Int) then (if (((x0.drop (wrap64 (Int.tdiv x1 32) : Int).toNat).length : Int) : Int).toNat ≤ 70368744177664 then (nat_down.l0 k (x0.drop (wrap64 (Int.tdiv x1 32) : Int).toNat) (Int.tmod x1 32) (List.replicate (((x0.drop (wrap64 (Int.tdiv x1 32) : Int).toNat).length : Int) : Int).toNat (0 : Int)) (x0.drop (wrap64 (Int.tdiv x1 32) : Int).toNat) ((x0.drop (wrap64 (Int.tdiv x1 32) : Int).toNat).length : Int) 0) else (none)) else (none)) else (none)) else (none))
abbrev nat_down.S : Sig := { ps := [.lf (.is .u32), .lf (.i .i64)], rs := [.lf (.is .u32)], wb := [], R := List Int, mkR := fun y0 => some y0, un := fun r => [.ints .u32 r] }
def nat_down.F (k : Nat) : Fun := { S := nat_down.S, f := nat_down.f k }
abbrev nat_down.vl0 : List (Nat × Kx) := [(0, .lf (.is .u32)), (5, .lf (.i .i64)), (6, .ow .u32), (23, .lf (.is .u32)), (24, .lf (.i .i64)), (25, .lf (.i .i64))]
def nat_down.C (k : Nat) : Cfg := { T := TT, G := lookG [(93, [nat_trim.F k, nat_trim.F1 k])], nt := 60, cuts := [⟨codeOf [true, true, true, true, true, false, true, false] 1, [true, true, true, true, true, false, true, false], nat_down.vl0⟩], M0 := tabM }
def nat_down.H (k : Nat) : List (CutF nat_down.S.R) := [⟨nat_down.vl0, nat_down.l0 k⟩]
mutual
def bits_Len32.j0 : Nat → Int → Int → Option (Int)
  | 0, _, _ => none
  | k + 1, x0, x2 => if x0 ≥ 256 then (bits_Len32.j1 k (x0 / 256) (wrap64 (x2 + 8))) else (bits_Len32.j1 k x0 x2)
def bits_Len32.j1 : Nat → Int → Int → Option (Int)
  | 0, _, _ => none
  | k + 1, x0, x2 => if 0 ≤ x0 % 256 then (if x0 % 256 < (txt0.size : Int) then (some (wrap64 (x2 + (wrap64 (bt txt0 (x0 % 256)))))) else (none)) else (none)
end
def bits_Len32.f (k : Nat) (x0 : Int) : Option (Int) := if x0 ≥ 65536 then (bits_Len32.j0 k (x0 / 65536) 16) else (bits_Len32.j0 k x0 0)
abbrev bits_Len32.S : Sig := { ps := [.lf (.i .u32)], rs := [.lf (.i .i64)], wb := [], R := Int, mkR := fun y0 => some y0, un := fun r => [.int .i64 r] }
def bits_Len32.F (k : Nat) : Fun := { S := bits_Len32.S, f := bits_Len32.f k }
abbrev bits_Len32.vj0 : List (Nat × Kx) := [(0, .lf (.i .u32)), (2, .lf (.i .i64))]
abbrev bits_Len32.vj1 : List (Nat × Kx) := [(0, .lf (.i .u32)), (2, .lf (.i .i64))]
def bits_Len32.C (k : Nat) : Cfg := { T := TT, G := lookG [], nt := 19, cuts := [⟨codeOf [true, true] 1, [true, true], bits_Len32.vj0⟩, ⟨codeOf [true, true, true] 1, [true, true, true], bits_Len32.vj1⟩], M0 := tabM }
def bits_Len32.H (k : Nat) : List (CutF bits_Len32.S.R) := [⟨bits_Len32.vj0, bits_Len32.j0 k⟩, ⟨bits_Len32.vj1, bits_Len32.j1 k⟩]
def nat_Len.f (k : Nat) (x0 : List Int) : Option (Int) := (nat_May.f x0).bind fun t224 => (if (!t224) = true then (some 0) else (if (x0.length : Int) = 0 then (some 0) else (if 0 ≤ wrap64 ((x0.length : Int) - 1) then (if wrap64 ((x0.length : Int) - 1) < (x0.length : Int) then ((bits_Len32.f k (rd x0 (wrap64 ((x0.length : Int) - 1)))).bind fun t225 => (some (wrap64 ((wrap64 (32 * (wrap64 ((x0.length : Int) - 1)))) + t225)))) else (none)) else (none))))
abbrev nat_Len.S : Sig := { ps := [.lf (.is .u32)], rs := [.lf (.i .i64)], wb := [], R := Int, mkR := fun y0 => some y0, un := fun r => [.int .i64 r] }
def nat_Len.F (k : Nat) : Fun := { S := nat_Len.S, f := nat_Len.f k }
def nat_Len.C (k : Nat) : Cfg := { T := TT, G := lookG [(91, [nat_May.F k]), (105, [bits_Len32.F k])], nt := 23, cuts := [], M0 := tabM }
def nat_Len.H (k : Nat) : List (CutF nat_Len.S.R) := []
def nat_up.l0 : Nat → List Int → Int → Int → List Int → Int → Int → Option (List Int)
  | 0, _, _, _, _, _, _ => none
  | k + 1, x5, x6, x7, x24, x25, x26 => if x26 < x25 then (if 0 ≤ x26 then (if x26 < (x24.length : Int) then (if 0 ≤ x6 then (if x5.length + ([Go.bits .or .u32 (shl .u32 (rd x24 x26) x6) x7] : List Int).length < 35184372088832 then (if 0 ≤ (wrap64 (32 - x6)) then (nat_up.l0 k (x5 ++ ([Go.bits .or .u32 (shl .u32 (rd x24 x26) x6) x7] : List Int)) x6 ((shr .u64 (IntKind.u64.wrap (rd x24 x26)) (wrap64 (32 - x6))) % 4294967296) x24 x25 (wrap64 (x26 + 1))) else (none)) else (none)) else (none)) else (none)) else (none)) else (if x5.length + ([x7] : List Int).length < 35184372088832 then ((nat_trim.f k (x5 ++ ([x7] : List Int))).bind fun t232 => (some t232)) else (none))
def nat_up.f (k : Nat) (x0 : List Int) (x1 : Int) : Option (List Int) := if (x0.length : Int) = 0 then (some ([] : List Int)) else (if 0 ≤ (wrap64 (Int.tdiv x1 32)) then (if (wrap64 (Int.tdiv x1 32)) ≤ (wrap64 ((wrap64 ((wrap64 (Int.tdiv x1 32)) + (x0.length : Int))) + 1)) then (if (wrap64 ((wrap64 ((wrap64 (Int.tdiv x1 32)) + (x0.length : Int))) + 1) : Int).toNat ≤ 70368744177664 then (nat_up.l0 k (List.replicate (wrap64 (Int.tdiv x1 32) : Int).toNat (0 : Int)) (Int.tmod x1 32) 0 x0 (x0.length : Int) 0) else (none)) else (none)) else (none))
abbrev nat_up.S : Sig := { ps := [.lf (.is .u32), .lf (.i .i64)], rs := [.ow .u32], wb := [], R := List Int, mkR := fun y0 => some y0, un := fun r => [.ints .u32 r] }
def nat_up.F (k : Nat) : Fun := { S := nat_up.S, f := nat_up.f k }
abbrev nat_up.vl0 : List (Nat × Kx) := [(5, .ow .u32), (6, .lf (.i .i64)), (7, .lf (.i .u32)), (24, .lf (.is .u32)), (25, .lf (.i .i64)), (26, .lf (.i .i64))]
def nat_up.C (k : Nat) : Cfg := { T := TT, G := lookG [(93, [nat_trim.F k, nat_trim.F1 k])], nt := 50, cuts := [⟨codeOf [true, true, true, true, false, true, false] 1, [true, true, true, true, false, true, false], nat_up.vl0⟩], M0 := tabM }
def nat_up.H (k : Nat) : List (CutF nat_up.S.R) := [⟨nat_up.vl0, nat_up.l0 k⟩]
def nat_Shift.f (k : Nat) (x0 : List Int) (x1 : Int) : Option (List Int × Bool × Int) := (nat_May.f x0).bind fun t234 => (if (!t234) = true then (some (([] : List Int), false, 2)) else (if (x0.length : Int) = 0 then (some (([] : List Int), false, 0)) else (if x1 < (-131072) then (some (([] : List Int), true, 0)) else (if x1 < 0 then ((nat_down.f k x0 (wrap64 (-x1))).bind fun t235 => ((nat_Low.f k x0).bind fun t236 => (some (t235, decide (t236 < (wrap64 (-x1))), 0)))) else ((nat_Len.f k x0).bind fun t237 => (if x1 > (wrap64 (131072 - t237)) then (some (([] : List Int), false, 3)) else ((nat_up.f k x0 x1).bind fun t238 => (some (t238, false, 0)))))))))
abbrev nat_Shift.S : Sig := { ps := [.lf (.is .u32), .lf (.i .i64)], rs := [.lf (.is .u32), .lf (.b), .lf (.i .i64)], wb := [], R := List Int × Bool × Int, mkR := fun y0 y1 y2 => some (y0, y1, y2), un := fun r => [.ints .u32 r.1, .bool r.2.1, .int .i64 r.2.2] }
def nat_Shift.F (k : Nat) : Fun := { S := nat_Shift.S, f := nat_Shift.f k }
def nat_Shift.C (k : Nat) : Cfg := { T := TT, G := lookG [(89, [nat_Len.F k]), (91, [nat_May.F k]), (92, [nat_Low.F k]), (96, [nat_down.F k]), (97, [nat_up.F k])], nt := 39, cuts := [], M0 := tabM }
def nat_Shift.H (k : Nat) : List (CutF nat_Shift.S.R) := []
def dyad_Make.f (k : Nat) (x0 : Bool) (x1 : List Int) (x2 : Int) : Option (Bool × List Int × Int × Int) := (nat_May.f x1).bind fun t246 => (if (!t246) = true then (some (false, ([] : List Int), 0, 2)) else (if (x1.length : Int) = 0 then (some (false, ([] : List Int), 0, 0)) else ((nat_Low.f k x1).bind fun t247 => (if x2 > (wrap64 (16777216 - t247)) then (some (false, ([] : List Int), 0, 20)) else (if x2 < (wrap64 ((-16777216) - t247)) then (some (false, ([] : List Int), 0, 20)) else ((nat_Shift.f k x1 (wrap64 (-t247))).bind fun t248 => (some (x0, t248.1, wrap64 (x2 + t247), 0))))))))
abbrev dyad_Make.S : Sig := { ps := [.lf (.b), .lf (.is .u32), .lf (.i .i64)], rs := [.ag [.b, .is .u32, .i .i64], .lf (.i .i64)], wb := [], R := Bool × List Int × Int × Int, mkR := fun y0 y1 y2 y3 => some (y0, y1, y2, y3), un := fun r => [.bool r.1, .ints .u32 r.2.1, .int .i64 r.2.2.1, .int .i64 r.2.2.2] }
def dyad_Make.F (k : Nat) : Fun := { S := dyad_Make.S, f := dyad_Make.f k }
def dyad_Make.C (k : Nat) : Cfg := { T := TT, G := lookG [(73, [nat_Shift.F k]), (91, [nat_May.F k]), (92, [nat_Low.F k])], nt := 47, cuts := [], M0 := tabM }
def dyad_Make.H (k : Nat) : List (CutF dyad_Make.S.R) := []
def word_Value.j1 : Nat → Bool → List Int → Int → Int → Int → Int → Bool → Int → Int → Option (Bool × List Int × Int × Int)
  | 0, _, _, _, _, _, _, _, _, _ => none
  | k + 1, x4_0, x4_1, x4_2, x6_0, x6_1, x6_2, x8_0, x8_1, x8_2 => (nat_Of.f k x8_2).bind fun t255 => ((word_shape_low.f x6_0 x6_1 x6_2).bind fun t256 => ((dyad_Make.f k x8_0 t255 (wrap64 ((wrap64 ((mx x8_1 1) - 1)) + t256))).bind fun t257 => (some (t257.1, t257.2.1, t257.2.2.1, t257.2.2.2))))
def word_Value.f (k : Nat) (x0 : Int) (x1 : Int) : Option (Bool × List Int × Int × Int) := (word_finite.f k x0 x1).bind fun t253 => (if ¬ (t253.2.2.2 = 0) then (some (false, ([] : List Int), 0, t253.2.2.2)) else ((word_shape_split.f t253.1 t253.2.1 t253.2.2.1 x1).bind fun t254 => (if t254.2.1 > 0 then (if 0 ≤ t253.1 then (word_Value.j1 k false ([] : List Int) 0 t253.1 t253.2.1 t253.2.2.1 t254.1 t254.2.1 (Go.bits .or .u64 t254.2.2 (shl .u64 1 t253.1))) else (none)) else (word_Value.j1 k false ([] : List Int) 0 t253.1 t253.2.1 t253.2.2.1 t254.1 t254.2.1 t254.2.2))))
abbrev word_Value.S : Sig := { ps := [.lf (.i .u8), .lf (.i .u64)], rs := [.ag [.b, .is .u32, .i .i64], .lf (.i .i64)], wb := [], R := Bool × List Int × Int × Int, mkR := fun y0 y1 y2 y3 => some (y0, y1, y2, y3), un := fun r => [.bool r.1, .ints .u32 r.2.1, .int .i64 r.2.2.1, .int .i64 r.2.2.2] }
def word_Value.F (k : Nat) : Fun := { S := word_Value.S, f := word_Value.f k }
abbrev word_Value.vj1 : List (Nat × Kx) := [(4, .bx [.b, .is .u32, .i .i64]), (6, .bx [.i .i64, .i .i64, .i .u64]), (8, .bx [.b, .i .i64, .i .u64])]
def word_Value.C (k : Nat) : Cfg := { T := TT, G := lookG [(60, [word_finite.F k]), (61, [word_shape_split.F k]), (62, [dyad_Make.F k]), (63, [nat_Of.F k]), (64, [word_shape_low.F k])], nt := 47, cuts := [⟨codeOf [true, true, true, true, true] 1, [true, true, true, true, true], word_Value.vj1⟩], M0 := tabM }
def word_Value.H (k : Nat) : List (CutF word_Value.S.R) := [⟨word_Value.vj1, word_Value.j1 k⟩]
def dyad_Sign.j0 : Nat → Bool → List Int → Int → Bool → Option (Int)
  | 0, _, _, _, _ => none
  | k + 1, x1_0, x1_1, x1_2, x3 => if x3 = true then (some 0) else (if x1_0 = true then (some (-1)) else (some 1))
def dyad_Sign.f (k : Nat) (x0_0 : Bool) (x0_1 : List Int) (x0_2 : Int) : Option (Int) := (dyad_May.f x0_0 x0_1 x0_2).bind fun t265 => (if (!t265) = true then (dyad_Sign.j0 k x0_0 x0_1 x0_2 true) else (dyad_Sign.j0 k x0_0 x0_1 x0_2 (decide ((x0_1.length : Int) = 0))))
abbrev dyad_Sign.S : Sig := { ps := [.ag [.b, .is .u32, .i .i64]], rs := [.lf (.i .i64)], wb := [], R := Int, mkR := fun y0 => some y0, un := fun r => [.int .i64 r] }
def dyad_Sign.F (k : Nat) : Fun := { S := dyad_Sign.S, f := dyad_Sign.f k }
abbrev dyad_Sign.vj0 : List (Nat × Kx) := [(1, .bx [.b, .is .u32, .i .i64]), (3, .lf (.b))]
def dyad_Sign.C (k : Nat) : Cfg := { T := TT, G := lookG [(78, [dyad_May.F k])], nt := 16, cuts := [⟨codeOf [true, false, false, true] 1, [true, false, false, true], dyad_Sign.vj0⟩], M0 := tabM }
def dyad_Sign.H (k : Nat) : List (CutF dyad_Sign.S.R) := [⟨dyad_Sign.vj0, dyad_Sign.j0 k⟩]
def nat_Num.l0 : Nat → Int → List Int → Int → Int → Option (Int × Bool)
  | 0, _, _, _, _ => none
  | k + 1, x4, x15, x16, x17 => if x17 < x16 then (if 0 ≤ x17 then (if x17 < (x15.length : Int) then (if 0 ≤ (wrap64 (32 * x17)) then (nat_Num.l0 k (Go.bits .or .u64 x4 (shl .u64 (IntKind.u64.wrap (rd x15 x17)) (wrap64 (32 * x17)))) x15 x16 (wrap64 (x17 + 1))) else (none)) else (none)) else (none)) else (some (x4, true))
def nat_Num.f (k : Nat) (x0 : List Int) : Option (Int × Bool) := (nat_May.f x0).bind fun t279 => (if (!t279) = true then (some (0, false)) else (if (x0.length : Int) > 2 then (some (0, false)) else (nat_Num.l0 k 0 x0 (x0.length : Int) 0)))
abbrev nat_Num.S : Sig := { ps := [.lf (.is .u32)], rs := [.lf (.i .u64), .lf (.b)], wb := [], R := Int × Bool, mkR := fun y0 y1 => some (y0, y1), un := fun r => [.int .u64 r.1, .bool r.2] }
def nat_Num.F (k : Nat) : Fun := { S := nat_Num.S, f := nat_Num.f k }
abbrev nat_Num.vl0 : List (Nat × Kx) := [(4, .lf (.i .u64)), (15, .lf (.is .u32)), (16, .lf (.i .i64)), (17, .lf (.i .i64))]
def nat_Num.C (k : Nat) : Cfg := { T := TT, G := lookG [(91, [nat_May.F k])], nt := 31, cuts := [⟨codeOf [true, true, true, false, true, false] 1, [true, true, true, false, true, false], nat_Num.vl0⟩], M0 := tabM }
def nat_Num.H (k : Nat) : List (CutF nat_Num.S.R) := [⟨nat_Num.vl0, nat_Num.l0 k⟩]
def round_partOf.f (k : Nat) (x0_0 : Bool) (x0_1 : List Int) (x0_2 : Int) : Option (Int × Int × Bool) := (nat_Len.f k x0_1).bind fun t268 => ((nat_Shift.f k x0_1 (wrap64 (64 - t268))).bind fun t269 => ((nat_Num.f k t269.1).bind fun t280 => (some (t280.1, wrap64 (x0_2 + t268), t269.2.1))))
abbrev round_partOf.S : Sig := { ps := [.ag [.b, .is .u32, .i .i64]], rs := [.ag [.i .u64, .i .i64, .b]], wb := [], R := Int × Int × Bool, mkR := fun y0 y1 y2 => some (y0, y1, y2), un := fun r => [.int .u64 r.1, .int .i64 r.2.1, .bool r.2.2] }
def round_partOf.F (k : Nat) : Fun := { S := round_partOf.S, f := round_partOf.f k }
def round_partOf.C (k : Nat) : Cfg := { T := TT, G := lookG [(73, [nat_Shift.F k]), (79, [nat_Num.F k]), (89, [nat_Len.F k])], nt := 33, cuts := [], M0 := tabM }
def round_partOf.H (k : Nat) : List (CutF round_partOf.S.R) := []
def round_up.f (x0 : Int) (x1 : Bool) (x2 : Bool) (x3 : Bool) (x4 : Bool) : Option (Bool) := if x0 = 1 then (if (!x4) = true then (if (!x2) = true then (some false) else (some x3)) else (some x3)) else (if x0 = 2 then (some x3) else (if x0 = 4 then (if (!x1) = true then (if x3 = true then (some true) else (some x4)) else (some false)) else (if x0 = 5 then (if x1 = true then (if x3 = true then (some true) else (some x4)) else (some false)) else (some false))))
abbrev round_up.S : Sig := { ps := [.lf (.i .u8), .lf (.b), .lf (.b), .lf (.b), .lf (.b)], rs := [.lf (.b)], wb := [], R := Bool, mkR := fun y0 => some y0, un := fun r => [.bool r] }
def round_up.F (k : Nat) : Fun := { S := round_up.S, f := round_up.f }
def round_up.C (k : Nat) : Cfg := { T := TT, G := lookG [], nt := 42, cuts := [], M0 := tabM }
def round_up.H (k : Nat) : List (CutF round_up.S.R) := []
def round_btoi.f (x0 : Bool) : Option (Int) := if x0 = true then (some 1) else (some 0)
abbrev round_btoi.S : Sig := { ps := [.lf (.b)], rs := [.lf (.i .u64)], wb := [], R := Int, mkR := fun y0 => some y0, un := fun r => [.int .u64 r] }
def round_btoi.F (k : Nat) : Fun := { S := round_btoi.S, f := round_btoi.f }
def round_btoi.C (k : Nat) : Cfg := { T := TT, G := lookG [], nt := 4, cuts := [], M0 := tabM }
def round_btoi.H (k : Nat) : List (CutF round_btoi.S.R) := []
mutual
def round_part_units.j1 : Nat → Int → Bool → Int → Int → Bool → Int → Int → Bool → Bool → Option (Int × Bool)
  | 0, _, _, _, _, _, _, _, _, _ => none
  | k + 1, x1, x2, x4_0, x4_1, x4_2, x10, x11, x12, x13 => if x10 > 0 then (if 0 ≤ (wrap64 (x10 - 1)) then (if x13 = true then (round_part_units.j2 k x1 x2 x11 (decide ((Go.bits .and .u64 (shr .u64 x4_0 (wrap64 (x10 - 1))) 1) = 1)) true) else (if 0 ≤ (wrap64 (x10 - 1)) then (round_part_units.j2 k x1 x2 x11 (decide ((Go.bits .and .u64 (shr .u64 x4_0 (wrap64 (x10 - 1))) 1) = 1)) (decide (¬ (Go.bits .and .u64 x4_0 (IntKind.u64.wrap ((shl .u64 1 (wrap64 (x10 - 1))) - 1)) = 0)))) else (none))) else (none)) else (round_part_units.j2 k x1 x2 x11 x12 x13)
def round_part_units.j2 : Nat → Int → Bool → Int → Bool → Bool → Option (Int × Bool)
  | 0, _, _, _, _, _ => none
  | k + 1, x1, x2, x11, x12, x13 => (round_up.f x1 x2 (decide ((Go.bits .and .u64 x11 1) = 1)) x12 x13).bind fun t314 => ((round_btoi.f t314).bind fun t315 => (if (!x12) = true then (some (IntKind.u64.wrap (x11 + t315), (!x13))) else (some (IntKind.u64.wrap (x11 + t315), false))))
end
def round_part_units.f (k : Nat) (x0_0 : Int) (x0_1 : Int) (x0_2 : Bool) (x1 : Int) (x2 : Bool) (x3 : Int) : Option (Int × Bool) := if (wrap64 ((wrap64 (x3 - x0_1)) + 64)) > 64 then ((round_up.f x1 x2 false false true).bind fun t312 => ((round_btoi.f t312).bind fun t313 => (some (t313, false)))) else (if (wrap64 ((wrap64 (x3 - x0_1)) + 64)) < 64 then (if 0 ≤ (wrap64 ((wrap64 (x3 - x0_1)) + 64)) then (round_part_units.j1 k x1 x2 x0_0 x0_1 x0_2 (wrap64 ((wrap64 (x3 - x0_1)) + 64)) (shr .u64 x0_0 (wrap64 ((wrap64 (x3 - x0_1)) + 64))) false x0_2) else (none)) else (round_part_units.j1 k x1 x2 x0_0 x0_1 x0_2 (wrap64 ((wrap64 (x3 - x0_1)) + 64)) 0 false x0_2))
abbrev round_part_units.S : Sig := { ps := [.ag [.i .u64, .i .i64, .b], .lf (.i .u8), .lf (.b), .lf (.i .i64)], rs := [.lf (.i .u64), .lf (.b)], wb := [], R := Int × Bool, mkR := fun y0 y1 => some (y0, y1), un := fun r => [.int .u64 r.1, .bool r.2] }
def round_part_units.F (k : Nat) : Fun := { S := round_part_units.S, f := round_part_units.f k }
abbrev round_part_units.vj1 : List (Nat × Kx) := [(1, .lf (.i .u8)), (2, .lf (.b)), (4, .bx [.i .u64, .i .i64, .b]), (10, .lf (.i .i64)), (11, .lf (.i .u64)), (12, .lf (.b)), (13, .lf (.b))]
abbrev round_part_units.vj2 : List (Nat × Kx) := [(1, .lf (.i .u8)), (2, .lf (.b)), (11, .lf (.i .u64)), (12, .lf (.b)), (13, .lf (.b))]
def round_part_units.C (k : Nat) : Cfg := { T := TT, G := lookG [(108, [round_btoi.F k]), (109, [round_up.F k])], nt := 70, cuts := [⟨codeOf [true, true, true, true, true] 1, [true, true, true, true, true], round_part_units.vj1⟩, ⟨codeOf [true, true, true, true, true, true] 1, [true, true, true, true, true, true], round_part_units.vj2⟩], M0 := tabM }
def round_part_units.H (k : Nat) : List (CutF round_part_units.S.R) := [⟨round_part_units.vj1, round_part_units.j1 k⟩, ⟨round_part_units.vj2, round_part_units.j2 k⟩]
mutual
def bits_Len64.j0 : Nat → Int → Int → Option (Int)
  | 0, _, _ => none
  | k + 1, x0, x2 => if x0 ≥ 65536 then (bits_Len64.j1 k (x0 / 65536) (wrap64 (x2 + 16))) else (bits_Len64.j1 k x0 x2)
def bits_Len64.j1 : Nat → Int → Int → Option (Int)
  | 0, _, _ => none
  | k + 1, x0, x2 => if x0 ≥ 256 then (bits_Len64.j2 k (x0 / 256) (wrap64 (x2 + 8))) else (bits_Len64.j2 k x0 x2)
def bits_Len64.j2 : Nat → Int → Int → Option (Int)
  | 0, _, _ => none
  | k + 1, x0, x2 => if 0 ≤ x0 % 256 then (if x0 % 256 < (txt0.size : Int) then (some (wrap64 (x2 + (wrap64 (bt txt0 (x0 % 256)))))) else (none)) else (none)
end
def bits_Len64.f (k : Nat) (x0 : Int) : Option (Int) := if x0 ≥ 4294967296 then (bits_Len64.j0 k (x0 / 4294967296) 32) else (bits_Len64.j0 k x0 0)
abbrev bits_Len64.S : Sig := { ps := [.lf (.i .u64)], rs := [.lf (.i .i64)], wb := [], R := Int, mkR := fun y0 => some y0, un := fun r => [.int .i64 r] }
def bits_Len64.F (k : Nat) : Fun := { S := bits_Len64.S, f := bits_Len64.f k }
abbrev bits_Len64.vj0 : List (Nat × Kx) := [(0, .lf (.i .u64)), (2, .lf (.i .i64))]
abbrev bits_Len64.vj1 : List (Nat × Kx) := [(0, .lf (.i .u64)), (2, .lf (.i .i64))]
abbrev bits_Len64.vj2 : List (Nat × Kx) := [(0, .lf (.i .u64)), (2, .lf (.i .i64))]
def bits_Len64.C (k : Nat) : Cfg := { T := TT, G := lookG [], nt := 25, cuts := [⟨codeOf [true, true] 1, [true, true], bits_Len64.vj0⟩, ⟨codeOf [true, true, true] 1, [true, true, true], bits_Len64.vj1⟩, ⟨codeOf [true, true, true, true] 1, [true, true, true, true], bits_Len64.vj2⟩], M0 := tabM }
def bits_Len64.H (k : Nat) : List (CutF bits_Len64.S.R) := [⟨bits_Len64.vj0, bits_Len64.j0 k⟩, ⟨bits_Len64.vj1, bits_Len64.j1 k⟩, ⟨bits_Len64.vj2, bits_Len64.j2 k⟩]
def word_shape_join.f (x0_0 : Int) (x0_1 : Int) (x0_2 : Int) (x1_0 : Bool) (x1_1 : Int) (x1_2 : Int) : Option (Int) := if 0 ≤ x0_0 then (if x1_0 = true then (some (Go.bits .or .u64 (Go.bits .or .u64 (shl .u64 (IntKind.u64.wrap x1_1) x0_0) x1_2) x0_2)) else (some (Go.bits .or .u64 (shl .u64 (IntKind.u64.wrap x1_1) x0_0) x1_2))) else (none)
abbrev word_shape_join.S : Sig := { ps := [.ag [.i .i64, .i .i64, .i .u64], .ag [.b, .i .i64, .i .u64]], rs := [.lf (.i .u64)], wb := [], R := Int, mkR := fun y0 => some y0, un := fun r => [.int .u64 r] }
def word_shape_join.F (k : Nat) : Fun := { S := word_shape_join.S, f := word_shape_join.f }
def word_shape_join.C (k : Nat) : Cfg := { T := TT, G := lookG [], nt := 22, cuts := [], M0 := tabM }
def word_shape_join.H (k : Nat) : List (CutF word_shape_join.S.R) := []
def word_Of.f (k : Nat) (x0 : Int) (x1_0 : Bool) (x1_1 : List Int) (x1_2 : Int) : Option (Int × Int) := (word_open.f k x0 ([] : List Int)).bind fun t352 => (if ¬ (t352.2.2.2 = 0) then (some (0, t352.2.2.2)) else ((dyad_May.f x1_0 x1_1 x1_2).bind fun t353 => (if (!t353) = true then (some (0, 2)) else ((nat_Num.f k x1_1).bind fun t354 => ((bits_Len64.f k t354.1).bind fun t355 => (if (!t354.2) = true then (some (0, 7)) else (if t355 > (wrap64 (t352.1 + 1)) then (some (0, 7)) else (if ¬ (t354.1 = 0) then ((word_shape_low.f t352.1 t352.2.1 t352.2.2.1).bind fun t356 => (if x1_2 < t356 then (some (0, 7)) else (if (wrap64 (x1_2 + t355)) > (wrap64 ((wrap64 (Int.tdiv t352.2.1 2)) + 1)) then (some (0, 7)) else (if t354.1 = 0 then (some (0, 0)) else ((word_shape_low.f t352.1 t352.2.1 t352.2.2.1).bind fun t357 => (if 0 ≤ (wrap64 (x1_2 - (mx (wrap64 ((wrap64 ((wrap64 (x1_2 + t355)) - t352.1)) - 1)) t357))) then ((word_shape_low.f t352.1 t352.2.1 t352.2.2.1).bind fun t358 => (if 0 ≤ t352.1 then ((word_shape_join.f t352.1 t352.2.1 t352.2.2.1 x1_0 0 (IntKind.u64.wrap ((shl .u64 (IntKind.u64.wrap (wrap64 ((mx (wrap64 ((wrap64 ((wrap64 (x1_2 + t355)) - t352.1)) - 1)) t357) - t358))) t352.1) + (shl .u64 t354.1 (wrap64 (x1_2 - (mx (wrap64 ((wrap64 ((wrap64 (x1_2 + t355)) - t352.1)) - 1)) t357))))))).bind fun t359 => (some (t359, 0))) else (none))) else (none))))))) else (if t354.1 = 0 then (some (0, 0)) else ((word_shape_low.f t352.1 t352.2.1 t352.2.2.1).bind fun t360 => (if 0 ≤ (wrap64 (x1_2 - (mx (wrap64 ((wrap64 ((wrap64 (x1_2 + t355)) - t352.1)) - 1)) t360))) then ((word_shape_low.f t352.1 t352.2.1 t352.2.2.1).bind fun t361 => (if 0 ≤ t352.1 then ((word_shape_join.f t352.1 t352.2.1 t352.2.2.1 x1_0 0 (IntKind.u64.wrap ((shl .u64 (IntKind.u64.wrap (wrap64 ((mx (wrap64 ((wrap64 ((wrap64 (x1_2 + t355)) - t352.1)) - 1)) t360) - t361))) t352.1) + (shl .u64 t354.1 (wrap64 (x1_2 - (mx (wrap64 ((wrap64 ((wrap64 (x1_2 + t355)) - t352.1)) - 1)) t360))))))).bind fun t362 => (some (t362, 0))) else (none))) else (none))))))))))))
abbrev word_Of.S : Sig := { ps := [.lf (.i .u8), .ag [.b, .is .u32, .i .i64]], rs := [.lf (.i .u64), .lf (.i .i64)], wb := [], R := Int × Int, mkR := fun y0 y1 => some (y0, y1), un := fun r => [.int .u64 r.1, .int .i64 r.2] }
def word_Of.F (k : Nat) : Fun := { S := word_Of.S, f := word_Of.f k }
def word_Of.C (k : Nat) : Cfg := { T := TT, G := lookG [(64, [word_shape_low.F k]), (77, [word_open.F k]), (78, [dyad_May.F k]), (79, [nat_Num.F k]), (80, [bits_Len64.F k]), (81, [word_shape_join.F k])], nt := 95, cuts := [], M0 := tabM }
def word_Of.H (k : Nat) : List (CutF word_Of.S.R) := []
def round_part_word.j1 : Nat → Int → Bool → Int → Int → Bool → Int → Int → Int → Bool → Int → Option (Int × Int)
  | 0, _, _, _, _, _, _, _, _, _, _ => none
  | k + 1, x3, x4, x5_0, x5_1, x5_2, x7_0, x7_1, x7_2, x14, x19 => if x14 = true then (some (x19, 0)) else ((round_part_units.f k x5_0 x5_1 x5_2 x3 x4 (wrap64 (x5_1 - x7_0))).bind fun t396 => ((bits_Len64.f k t396.1).bind fun t397 => (if (wrap64 ((wrap64 (t397 + x5_1)) - x7_0)) < (wrap64 (x7_1 + x7_0)) then (some (x19, 24)) else (some (x19, 16)))))
def round_part_word.f (k : Nat) (x0_0 : Int) (x0_1 : Int) (x0_2 : Bool) (x1 : Int) (x2_0 : Int) (x2_1 : Int) (x2_2 : Int) (x3 : Int) (x4 : Bool) : Option (Int × Int) := (round_part_units.f k x0_0 x0_1 x0_2 x3 x4 (mx (wrap64 (x0_1 - x2_0)) x2_1)).bind fun t389 => ((bits_Len64.f k t389.1).bind fun t390 => (if (wrap64 (t390 + (mx (wrap64 (x0_1 - x2_0)) x2_1))) > x2_2 then ((round_Over.f k x1 x3 x4).bind fun t391 => (some (t391.1, 20))) else ((nat_Of.f k t389.1).bind fun t392 => ((dyad_Make.f k x4 t392 (mx (wrap64 (x0_1 - x2_0)) x2_1)).bind fun t393 => ((word_Of.f k x1 t393.1 t393.2.1 t393.2.2.1).bind fun t394 => (if t389.1 = 0 then ((word_Zero.f k x1 x4).bind fun t395 => (round_part_word.j1 k x3 x4 x0_0 x0_1 x0_2 x2_0 x2_1 x2_2 t389.2 t395.1)) else (round_part_word.j1 k x3 x4 x0_0 x0_1 x0_2 x2_0 x2_1 x2_2 t389.2 t394.1)))))))
abbrev round_part_word.S : Sig := { ps := [.ag [.i .u64, .i .i64, .b], .lf (.i .u8), .ag [.i .i64, .i .i64, .i .i64], .lf (.i .u8), .lf (.b)], rs := [.lf (.i .u64), .lf (.i .u8)], wb := [], R := Int × Int, mkR := fun y0 y1 => some (y0, y1), un := fun r => [.int .u64 r.1, .int .u8 r.2] }
def round_part_word.F (k : Nat) : Fun := { S := round_part_word.S, f := round_part_word.f k }
abbrev round_part_word.vj1 : List (Nat × Kx) := [(3, .lf (.i .u8)), (4, .lf (.b)), (5, .bx [.i .u64, .i .i64, .b]), (7, .bx [.i .i64, .i .i64, .i .i64]), (14, .lf (.b)), (19, .lf (.i .u64))]
def round_part_word.C (k : Nat) : Cfg := { T := TT, G := lookG [(30, [word_Zero.F k]), (42, [word_Of.F k]), (54, [round_Over.F k]), (62, [dyad_Make.F k]), (63, [nat_Of.F k]), (80, [bits_Len64.F k]), (95, [round_part_units.F k])], nt := 106, cuts := [⟨codeOf [true, true, true, true, true, true, true] 1, [true, true, true, true, true, true, true], round_part_word.vj1⟩], M0 := tabM }
def round_part_word.H (k : Nat) : List (CutF round_part_word.S.R) := [⟨round_part_word.vj1, round_part_word.j1 k⟩]
def round_Round.f (k : Nat) (x0 : Int) (x1 : Int) (x2_0 : Bool) (x2_1 : List Int) (x2_2 : Int) : Option (Int × Int × Int) := (round_open.f k x0 x1 [(x2_0, x2_1, x2_2)]).bind fun t400 => (if ¬ (t400.2.2.2 = 0) then (some (0, 0, t400.2.2.2)) else ((dyad_Sign.f k x2_0 x2_1 x2_2).bind fun t401 => (if t401 = 0 then (some (0, 0, 0)) else ((round_partOf.f k x2_0 x2_1 x2_2).bind fun t402 => ((round_part_word.f k t402.1 t402.2.1 t402.2.2 x0 t400.1 t400.2.1 t400.2.2.1 x1 x2_0).bind fun t403 => (some (t403.1, t403.2, 0)))))))
abbrev round_Round.S : Sig := { ps := [.lf (.i .u8), .lf (.i .u8), .ag [.b, .is .u32, .i .i64]], rs := [.lf (.i .u64), .lf (.i .u8), .lf (.i .i64)], wb := [], R := Int × Int × Int, mkR := fun y0 y1 y2 => some (y0, y1, y2), un := fun r => [.int .u64 r.1, .int .u8 r.2.1, .int .i64 r.2.2] }
def round_Round.F (k : Nat) : Fun := { S := round_Round.S, f := round_Round.f k }
def round_Round.C (k : Nat) : Cfg := { T := TT, G := lookG [(43, [dyad_Sign.F k]), (65, [round_open.F k]), (66, [round_partOf.F k]), (67, [round_part_word.F k])], nt := 40, cuts := [], M0 := tabM }
def round_Round.H (k : Nat) : List (CutF round_Round.S.R) := []
def conv_To.f (k : Nat) (x0 : Int) (x1 : Int) (x2 : Int) (x3 : Int) : Option (Int × Int × Int) := (conv_mode.f k x1 x2).bind fun t409 => (if t409 = 4 then (some (0, 0, t409)) else ((conv_open.f k x0 x2 x3).bind fun t410 => (if ¬ (t410.2.2 = 0) then (some (0, 0, t410.2.2)) else (if t410.1 = 5 then ((word_None.f k x1).bind fun t411 => (some (t411.1, 0, 0))) else (if t410.1 = 4 then ((word_Inf.f k x1 t410.2.1).bind fun t412 => (some (t412.1, 0, 0))) else (if t410.1 = 1 then ((word_Zero.f k x1 t410.2.1).bind fun t413 => (some (t413.1, 0, 0))) else ((word_Value.f k x0 x3).bind fun t414 => ((round_Round.f k x1 x2 t414.1 t414.2.1 t414.2.2.1).bind fun t415 => (some (t415.1, t415.2.1, t415.2.2))))))))))
abbrev conv_To.S : Sig := { ps := [.lf (.i .u8), .lf (.i .u8), .lf (.i .u8), .lf (.i .u64)], rs := [.lf (.i .u64), .lf (.i .u8), .lf (.i .i64)], wb := [], R := Int × Int × Int, mkR := fun y0 y1 y2 => some (y0, y1, y2), un := fun r => [.int .u64 r.1, .int .u8 r.2.1, .int .i64 r.2.2] }
def conv_To.F (k : Nat) : Fun := { S := conv_To.S, f := conv_To.f k }
def conv_To.C (k : Nat) : Cfg := { T := TT, G := lookG [(26, [conv_mode.F k]), (27, [conv_open.F k]), (28, [word_None.F k]), (29, [word_Inf.F k]), (30, [word_Zero.F k]), (31, [word_Value.F k]), (32, [round_Round.F k])], nt := 80, cuts := [], M0 := tabM }
def conv_To.H (k : Nat) : List (CutF conv_To.S.R) := []
def nat_all.l0 : Nat → List (List Int) → Int → Int → Option (Bool)
  | 0, _, _, _ => none
  | k + 1, x5, x6, x7 => if x7 < x6 then (if 0 ≤ x7 then (if x7 < (x5.length : Int) then ((nat_May.f (rdT [.is .u32] x5 x7)).bind fun t432 => (if (!t432) = true then (some false) else (nat_all.l0 k x5 x6 (wrap64 (x7 + 1))))) else (none)) else (none)) else (some true)
def nat_all.f (k : Nat) (x0 : List (List Int)) : Option (Bool) := nat_all.l0 k x0 (x0.length : Int) 0
abbrev nat_all.S : Sig := { ps := [.lf (.rw [.is .u32])], rs := [.lf (.b)], wb := [], R := Bool, mkR := fun y0 => some y0, un := fun r => [.bool r] }
def nat_all.F (k : Nat) : Fun := { S := nat_all.S, f := nat_all.f k }
abbrev nat_all.vl0 : List (Nat × Kx) := [(5, .lf (.rw [.is .u32])), (6, .lf (.i .i64)), (7, .lf (.i .i64))]
def nat_all.C (k : Nat) : Cfg := { T := TT, G := lookG [(91, [nat_May.F k])], nt := 15, cuts := [⟨codeOf [true, false, true, false] 1, [true, false, true, false], nat_all.vl0⟩], M0 := tabM }
def nat_all.H (k : Nat) : List (CutF nat_all.S.R) := [⟨nat_all.vl0, nat_all.l0 k⟩]
def nat_cmp.l0 : Nat → List Int → List Int → Int → Option (Int)
  | 0, _, _, _ => none
  | k + 1, x0, x1, x5 => if x5 ≥ 0 then (if 0 ≤ x5 then (if x5 < (x0.length : Int) then (if 0 ≤ x5 then (if x5 < (x1.length : Int) then (if ¬ (rd x0 x5 = rd x1 x5) then (if 0 ≤ x5 then (if x5 < (x0.length : Int) then (if 0 ≤ x5 then (if x5 < (x1.length : Int) then (if (rd x0 x5) < (rd x1 x5) then (some (-1)) else (some 1)) else (none)) else (none)) else (none)) else (none)) else (nat_cmp.l0 k x0 x1 (wrap64 (x5 - 1)))) else (none)) else (none)) else (none)) else (none)) else (some 0)
def nat_cmp.f (k : Nat) (x0 : List Int) (x1 : List Int) : Option (Int) := if (x0.length : Int) < (x1.length : Int) then (some (-1)) else (if (x0.length : Int) > (x1.length : Int) then (some 1) else (nat_cmp.l0 k x0 x1 (wrap64 ((x0.length : Int) - 1))))
abbrev nat_cmp.S : Sig := { ps := [.lf (.is .u32), .lf (.is .u32)], rs := [.lf (.i .i64)], wb := [], R := Int, mkR := fun y0 => some y0, un := fun r => [.int .i64 r] }
def nat_cmp.F (k : Nat) : Fun := { S := nat_cmp.S, f := nat_cmp.f k }
abbrev nat_cmp.vl0 : List (Nat × Kx) := [(0, .lf (.is .u32)), (1, .lf (.is .u32)), (5, .lf (.i .i64))]
def nat_cmp.C (k : Nat) : Cfg := { T := TT, G := lookG [], nt := 43, cuts := [⟨codeOf [true, true, false, true, false] 1, [true, true, false, true, false], nat_cmp.vl0⟩], M0 := tabM }
def nat_cmp.H (k : Nat) : List (CutF nat_cmp.S.R) := [⟨nat_cmp.vl0, nat_cmp.l0 k⟩]
def bits_Div32.f (x0 : Int) (x1 : Int) (x2 : Int) : Option (Int × Int) := if ¬ (x2 = 0) then (if x2 ≤ x0 then (none) else (if (IntKind.u64.wrap x2) = 0 then (none) else (if (IntKind.u64.wrap x2) = 0 then (none) else (some ((IntKind.u64.wrap (Int.tdiv (Go.bits .or .u64 (IntKind.u64.wrap ((IntKind.u64.wrap x0) * 4294967296)) (IntKind.u64.wrap x1)) (IntKind.u64.wrap x2))) % 4294967296, (Int.tmod (Go.bits .or .u64 (IntKind.u64.wrap ((IntKind.u64.wrap x0) * 4294967296)) (IntKind.u64.wrap x1)) (IntKind.u64.wrap x2)) % 4294967296))))) else (if (IntKind.u64.wrap x2) = 0 then (none) else (if (IntKind.u64.wrap x2) = 0 then (none) else (some ((IntKind.u64.wrap (Int.tdiv (Go.bits .or .u64 (IntKind.u64.wrap ((IntKind.u64.wrap x0) * 4294967296)) (IntKind.u64.wrap x1)) (IntKind.u64.wrap x2))) % 4294967296, (Int.tmod (Go.bits .or .u64 (IntKind.u64.wrap ((IntKind.u64.wrap x0) * 4294967296)) (IntKind.u64.wrap x1)) (IntKind.u64.wrap x2)) % 4294967296))))
abbrev bits_Div32.S : Sig := { ps := [.lf (.i .u32), .lf (.i .u32), .lf (.i .u32)], rs := [.lf (.i .u32), .lf (.i .u32)], wb := [], R := Int × Int, mkR := fun y0 y1 => some (y0, y1), un := fun r => [.int .u32 r.1, .int .u32 r.2] }
def bits_Div32.F (k : Nat) : Fun := { S := bits_Div32.S, f := bits_Div32.f }
def bits_Div32.C (k : Nat) : Cfg := { T := TT, G := lookG [], nt := 33, cuts := [], M0 := tabM }
def bits_Div32.H (k : Nat) : List (CutF bits_Div32.S.R) := []
def nat_small.l0 : Nat → List Int → Int → List Int → Int → Int → Option (List Int × Int)
  | 0, _, _, _, _, _ => none
  | k + 1, x0, x1, x6, x7, x8 => if x8 ≥ 0 then (if 0 ≤ x8 then (if x8 < (x0.length : Int) then ((bits_Div32.f x7 (rd x0 x8) x1).bind fun t438 => (if 0 ≤ x8 then (if x8 < (x6.length : Int) then (nat_small.l0 k x0 x1 (x6.set (x8 : Int).toNat t438.1) t438.2 (wrap64 (x8 - 1))) else (none)) else (none))) else (none)) else (none)) else ((nat_trim.f k x6).bind fun t439 => (some (t439, x7)))
def nat_small.f (k : Nat) (x0 : List Int) (x1 : Int) : Option (List Int × Int) := if 0 ≤ (x0.length : Int) then (if ((x0.length : Int) : Int).toNat ≤ 70368744177664 then (nat_small.l0 k x0 x1 (List.replicate ((x0.length : Int) : Int).toNat (0 : Int)) 0 (wrap64 ((x0.length : Int) - 1))) else (none)) else (none)
abbrev nat_small.S : Sig := { ps := [.lf (.is .u32), .lf (.i .u32)], rs := [.lf (.is .u32), .lf (.i .u32)], wb := [], R := List Int × Int, mkR := fun y0 y1 => some (y0, y1), un := fun r => [.ints .u32 r.1, .int .u32 r.2] }
def nat_small.F (k : Nat) : Fun := { S := nat_small.S, f := nat_small.f k }
abbrev nat_small.vl0 : List (Nat × Kx) := [(0, .lf (.is .u32)), (1, .lf (.i .u32)), (6, .ow .u32), (7, .lf (.i .u32)), (8, .lf (.i .i64))]
def nat_small.C (k : Nat) : Cfg := { T := TT, G := lookG [(93, [nat_trim.F k, nat_trim.F1 k]), (110, [bits_Div32.F k])], nt := 35, cuts := [⟨codeOf [true, true, true, false, true, false] 1, [true, true, true, false, true, false], nat_small.vl0⟩], M0 := tabM }
def nat_small.H (k : Nat) : List (CutF nat_small.S.R) := [⟨nat_small.vl0, nat_small.l0 k⟩]
def bits_LeadingZeros32.f (k : Nat) (x0 : Int) : Option (Int) := (bits_Len32.f k x0).bind fun t443 => (some (wrap64 (32 - t443)))
abbrev bits_LeadingZeros32.S : Sig := { ps := [.lf (.i .u32)], rs := [.lf (.i .i64)], wb := [], R := Int, mkR := fun y0 => some y0, un := fun r => [.int .i64 r] }
def bits_LeadingZeros32.F (k : Nat) : Fun := { S := bits_LeadingZeros32.S, f := bits_LeadingZeros32.f k }
def bits_LeadingZeros32.C (k : Nat) : Cfg := { T := TT, G := lookG [(105, [bits_Len32.F k])], nt := 6, cuts := [], M0 := tabM }
def bits_LeadingZeros32.H (k : Nat) : List (CutF bits_LeadingZeros32.S.R) := []
def bits_Sub32.f (x0 : Int) (x1 : Int) (x2 : Int) : Option (Int × Int) := some ((((x0 - x1) % 4294967296) - x2) % 4294967296, (Go.bits .or .u32 (Go.bits .and .u32 (Go.bits .xor .u32 4294967295 x0) x1) (Go.bits .and .u32 (Go.bits .xor .u32 4294967295 (Go.bits .xor .u32 x0 x1)) ((((x0 - x1) % 4294967296) - x2) % 4294967296))) / 2147483648)
abbrev bits_Sub32.S : Sig := { ps := [.lf (.i .u32), .lf (.i .u32), .lf (.i .u32)], rs := [.lf (.i .u32), .lf (.i .u32)], wb := [], R := Int × Int, mkR := fun y0 y1 => some (y0, y1), un := fun r => [.int .u32 r.1, .int .u32 r.2] }
def bits_Sub32.F (k : Nat) : Fun := { S := bits_Sub32.S, f := bits_Sub32.f }
def bits_Sub32.C (k : Nat) : Cfg := { T := TT, G := lookG [], nt := 25, cuts := [], M0 := tabM }
def bits_Sub32.H (k : Nat) : List (CutF bits_Sub32.S.R) := []
def bits_Add32.f (x0 : Int) (x1 : Int) (x2 : Int) : Option (Int × Int) := some ((IntKind.u64.wrap ((IntKind.u64.wrap ((IntKind.u64.wrap x0) + (IntKind.u64.wrap x1))) + (IntKind.u64.wrap x2))) % 4294967296, ((IntKind.u64.wrap ((IntKind.u64.wrap ((IntKind.u64.wrap x0) + (IntKind.u64.wrap x1))) + (IntKind.u64.wrap x2))) / 4294967296) % 4294967296)
abbrev bits_Add32.S : Sig := { ps := [.lf (.i .u32), .lf (.i .u32), .lf (.i .u32)], rs := [.lf (.i .u32), .lf (.i .u32)], wb := [], R := Int × Int, mkR := fun y0 y1 => some (y0, y1), un := fun r => [.int .u32 r.1, .int .u32 r.2] }
def bits_Add32.F (k : Nat) : Fun := { S := bits_Add32.S, f := bits_Add32.f }
def bits_Add32.C (k : Nat) : Cfg := { T := TT, G := lookG [], nt := 22, cuts := [], M0 := tabM }
def bits_Add32.H (k : Nat) : List (CutF bits_Add32.S.R) := []
mutual
def nat_step.l0 : Nat → List Int → List Int → Int → Int → Int → Option (Int × List Int)
  | 0, _, _, _, _, _ => none
  | k + 1, x0, x1, x5, x7, x8 => if x7 ≥ 4294967296 then (if 0 ≤ wrap64 (x5 - 1) then (if wrap64 (x5 - 1) < (x1.length : Int) then (if (IntKind.u64.wrap (x8 + (IntKind.u64.wrap (rd x1 (wrap64 (x5 - 1)))))) ≥ 4294967296 then (nat_step.l1 k x0 x1 x5 (IntKind.u64.wrap (x7 - 1)) 0 0 x1 (x1.length : Int) 0) else (nat_step.l0 k x0 x1 x5 (IntKind.u64.wrap (x7 - 1)) (IntKind.u64.wrap (x8 + (IntKind.u64.wrap (rd x1 (wrap64 (x5 - 1)))))))) else (none)) else (none)) else (if 0 ≤ wrap64 (x5 - 2) then (if wrap64 (x5 - 2) < (x1.length : Int) then (if 0 ≤ wrap64 (x5 - 2) then (if wrap64 (x5 - 2) < (x0.length : Int) then (if (IntKind.u64.wrap (x7 * (IntKind.u64.wrap (rd x1 (wrap64 (x5 - 2)))))) > (Go.bits .or .u64 (IntKind.u64.wrap (x8 * 4294967296)) (IntKind.u64.wrap (rd x0 (wrap64 (x5 - 2))))) then (if 0 ≤ wrap64 (x5 - 1) then (if wrap64 (x5 - 1) < (x1.length : Int) then (if (IntKind.u64.wrap (x8 + (IntKind.u64.wrap (rd x1 (wrap64 (x5 - 1)))))) ≥ 4294967296 then (nat_step.l1 k x0 x1 x5 (IntKind.u64.wrap (x7 - 1)) 0 0 x1 (x1.length : Int) 0) else (nat_step.l0 k x0 x1 x5 (IntKind.u64.wrap (x7 - 1)) (IntKind.u64.wrap (x8 + (IntKind.u64.wrap (rd x1 (wrap64 (x5 - 1)))))))) else (none)) else (none)) else (nat_step.l1 k x0 x1 x5 x7 0 0 x1 (x1.length : Int) 0)) else (none)) else (none)) else (none)) else (none))
def nat_step.l1 : Nat → List Int → List Int → Int → Int → Int → Int → List Int → Int → Int → Option (Int × List Int)
  | 0, _, _, _, _, _, _, _, _, _ => none
  | k + 1, x0, x1, x5, x7, x9, x10, x81, x82, x83 => if x83 < x82 then (if 0 ≤ x83 then (if x83 < (x81.length : Int) then (if 0 ≤ x83 then (if x83 < (x0.length : Int) then ((bits_Sub32.f (rd x0 x83) ((IntKind.u64.wrap (x10 + (IntKind.u64.wrap (x7 * (IntKind.u64.wrap (rd x81 x83)))))) % 4294967296) x9).bind fun t473 => (if 0 ≤ x83 then (if x83 < (x0.length : Int) then (nat_step.l1 k (x0.set (x83 : Int).toNat t473.1) x1 x5 x7 t473.2 ((IntKind.u64.wrap (x10 + (IntKind.u64.wrap (x7 * (IntKind.u64.wrap (rd x81 x83)))))) / 4294967296) x81 x82 (wrap64 (x83 + 1))) else (none)) else (none))) else (none)) else (none)) else (none)) else (none)) else (if 0 ≤ x5 then (if x5 < (x0.length : Int) then ((bits_Sub32.f (rd x0 x5) (x10 % 4294967296) x9).bind fun t474 => (if 0 ≤ x5 then (if x5 < (x0.length : Int) then (if t474.2 = 0 then (some (x7 % 4294967296, x0.set (x5 : Int).toNat t474.1)) else (nat_step.l2 k (x0.set (x5 : Int).toNat t474.1) x5 x7 0 x1 (x1.length : Int) 0)) else (none)) else (none))) else (none)) else (none))
def nat_step.l2 : Nat → List Int → Int → Int → Int → List Int → Int → Int → Option (Int × List Int)
  | 0, _, _, _, _, _, _, _ => none
  | k + 1, x0, x5, x7, x13, x129, x130, x131 => if x131 < x130 then (if 0 ≤ x131 then (if x131 < (x129.length : Int) then (if 0 ≤ x131 then (if x131 < (x0.length : Int) then ((bits_Add32.f (rd x0 x131) (rd x129 x131) x13).bind fun t472 => (if 0 ≤ x131 then (if x131 < (x0.length : Int) then (nat_step.l2 k (x0.set (x131 : Int).toNat t472.1) x5 x7 t472.2 x129 x130 (wrap64 (x131 + 1))) else (none)) else (none))) else (none)) else (none)) else (none)) else (none)) else (if 0 ≤ x5 then (if x5 < (x0.length : Int) then (if 0 ≤ x5 then (if x5 < (x0.length : Int) then (some ((IntKind.u64.wrap (x7 - 1)) % 4294967296, x0.set (x5 : Int).toNat (((rd x0 x5) + x13) % 4294967296))) else (none)) else (none)) else (none)) else (none))
end
def nat_step.f (k : Nat) (x0 : List Int) (x1 : List Int) : Option (Int × List Int) := if 0 ≤ (x1.length : Int) then (if (x1.length : Int) < (x0.length : Int) then (if 0 ≤ wrap64 ((x1.length : Int) - 1) then (if wrap64 ((x1.length : Int) - 1) < (x0.length : Int) then (if 0 ≤ wrap64 ((x1.length : Int) - 1) then (if wrap64 ((x1.length : Int) - 1) < (x1.length : Int) then (if (IntKind.u64.wrap (rd x1 (wrap64 ((x1.length : Int) - 1)))) = 0 then (none) else (if 0 ≤ wrap64 ((x1.length : Int) - 1) then (if wrap64 ((x1.length : Int) - 1) < (x1.length : Int) then (if (IntKind.u64.wrap (rd x1 (wrap64 ((x1.length : Int) - 1)))) = 0 then (none) else (nat_step.l0 k x0 x1 (x1.length : Int) (IntKind.u64.wrap (Int.tdiv (Go.bits .or .u64 (IntKind.u64.wrap ((IntKind.u64.wrap (rd x0 (x1.length : Int))) * 4294967296)) (IntKind.u64.wrap (rd x0 (wrap64 ((x1.length : Int) - 1))))) (IntKind.u64.wrap (rd x1 (wrap64 ((x1.length : Int) - 1)))))) (Int.tmod (Go.bits .or .u64 (IntKind.u64.wrap ((IntKind.u64.wrap (rd x0 (x1.length : Int))) * 4294967296)) (IntKind.u64.wrap (rd x0 (wrap64 ((x1.length : Int) - 1))))) (IntKind.u64.wrap (rd x1 (wrap64 ((x1.length : Int) - 1))))))) else (none)) else (none))) else (none)) else (none)) else (none)) else (none)) else (none)) else (none)
abbrev nat_step.S : Sig := { ps := [.bo .u32, .lf (.is .u32)], rs := [.lf (.i .u32)], wb := [.is .u32], R := Int × List Int, mkR := fun y0 y1 => some (y0, y1), un := fun r => [.int .u32 r.1, .ints .u32 r.2] }
def nat_step.F (k : Nat) : Fun := { S := nat_step.S, f := nat_step.f k }
abbrev nat_step.vl0 : List (Nat × Kx) := [(0, .bo .u32), (1, .lf (.is .u32)), (5, .lf (.i .i64)), (7, .lf (.i .u64)), (8, .lf (.i .u64))]
abbrev nat_step.vl1 : List (Nat × Kx) := [(0, .bo .u32), (1, .lf (.is .u32)), (5, .lf (.i .i64)), (7, .lf (.i .u64)), (9, .lf (.i .u32)), (10, .lf (.i .u64)), (81, .lf (.is .u32)), (82, .lf (.i .i64)), (83, .lf (.i .i64))]
abbrev nat_step.vl2 : List (Nat × Kx) := [(0, .bo .u32), (5, .lf (.i .i64)), (7, .lf (.i .u64)), (13, .lf (.i .u32)), (129, .lf (.is .u32)), (130, .lf (.i .i64)), (131, .lf (.i .i64))]
def nat_step.C (k : Nat) : Cfg := { T := TT, G := lookG [(113, [bits_Sub32.F k]), (114, [bits_Add32.F k])], nt := 160, cuts := [⟨codeOf [true, true, true, true, false, false] 1, [true, true, true, true, false, false], nat_step.vl0⟩, ⟨codeOf [true, true, true, true, true, true, false, true, false] 1, [true, true, true, true, true, true, false, true, false], nat_step.vl1⟩, ⟨codeOf [true, true, true, true, true, true, true, true, true, true, false, true, false] 1, [true, true, true, true, true, true, true, true, true, true, false, true, false], nat_step.vl2⟩], M0 := tabM }
def nat_step.H (k : Nat) : List (CutF nat_step.S.R) := [⟨nat_step.vl0, nat_step.l0 k⟩, ⟨nat_step.vl1, nat_step.l1 k⟩, ⟨nat_step.vl2, nat_step.l2 k⟩]
mutual
def nat_long.l0 : Nat → List Int → Int → List Int → List Int → Option (List Int × List Int)
  | 0, _, _, _, _ => none
  | k + 1, x0, x6, x7, x8 => if (x8.length : Int) ≤ (x0.length : Int) then (if x8.length + ([0] : List Int).length < 35184372088832 then (nat_long.l0 k x0 x6 x7 (x8 ++ ([0] : List Int))) else (none)) else (if 0 ≤ (wrap64 ((x8.length : Int) - (x7.length : Int))) then (if (wrap64 ((x8.length : Int) - (x7.length : Int)) : Int).toNat ≤ 70368744177664 then (nat_long.l1 k x6 x7 x8 (x7.length : Int) (List.replicate (wrap64 ((x8.length : Int) - (x7.length : Int)) : Int).toNat (0 : Int)) (wrap64 (((List.replicate (wrap64 ((x8.length : Int) - (x7.length : Int)) : Int).toNat (0 : Int)).length : Int) - 1))) else (none)) else (none))
def nat_long.l1 : Nat → Int → List Int → List Int → Int → List Int → Int → Option (List Int × List Int)
  | 0, _, _, _, _, _, _ => none
  | k + 1, x6, x7, x8, x9, x10, x11 => if x11 ≥ 0 then (if 0 ≤ x11 then (if x11 ≤ (wrap64 ((wrap64 (x11 + x9)) + 1)) then (if (wrap64 ((wrap64 (x11 + x9)) + 1)) ≤ (x8.length : Int) then ((nat_step.f k ((x8.take (wrap64 ((wrap64 (x11 + x9)) + 1) : Int).toNat).drop (x11 : Int).toNat) x7).bind fun t489 => (if 0 ≤ x11 then (if x11 < (x10.length : Int) then (nat_long.l1 k x6 x7 (x8.take (x11 : Int).toNat ++ t489.2 ++ x8.drop (wrap64 ((wrap64 (x11 + x9)) + 1) : Int).toNat) x9 (x10.set (x11 : Int).toNat t489.1) (wrap64 (x11 - 1))) else (none)) else (none))) else (none)) else (none)) else (none)) else ((nat_trim.f k x10).bind fun t490 => (if 0 ≤ x9 then (if x9 ≤ (x8.length : Int) then ((nat_trim.f k (x8.take (x9 : Int).toNat)).bind fun t491 => ((nat_down.f k t491 x6).bind fun t492 => ((nat_trim.f k t492).bind fun t493 => (some (t490, t493))))) else (none)) else (none)))
end
def nat_long.f (k : Nat) (x0 : List Int) (x1 : List Int) : Option (List Int × List Int) := if 0 ≤ wrap64 ((x1.length : Int) - 1) then (if wrap64 ((x1.length : Int) - 1) < (x1.length : Int) then ((bits_LeadingZeros32.f k (rd x1 (wrap64 ((x1.length : Int) - 1)))).bind fun t486 => ((nat_up.f k x1 t486).bind fun t487 => ((nat_up.f k x0 t486).bind fun t488 => (nat_long.l0 k x0 t486 t487 t488)))) else (none)) else (none)
abbrev nat_long.S : Sig := { ps := [.lf (.is .u32), .lf (.is .u32)], rs := [.lf (.is .u32), .lf (.is .u32)], wb := [], R := List Int × List Int, mkR := fun y0 y1 => some (y0, y1), un := fun r => [.ints .u32 r.1, .ints .u32 r.2] }
def nat_long.F (k : Nat) : Fun := { S := nat_long.S, f := nat_long.f k }
abbrev nat_long.vl0 : List (Nat × Kx) := [(0, .lf (.is .u32)), (6, .lf (.i .i64)), (7, .ow .u32), (8, .ow .u32)]
abbrev nat_long.vl1 : List (Nat × Kx) := [(6, .lf (.i .i64)), (7, .ow .u32), (8, .ow .u32), (9, .lf (.i .i64)), (10, .ow .u32), (11, .lf (.i .i64))]
def nat_long.C (k : Nat) : Cfg := { T := TT, G := lookG [(93, [nat_trim.F k, nat_trim.F1 k]), (96, [nat_down.F k]), (97, [nat_up.F k]), (111, [bits_LeadingZeros32.F k]), (112, [nat_step.F k])], nt := 68, cuts := [⟨codeOf [true, true, true, true, false, false] 1, [true, true, true, true, false, false], nat_long.vl0⟩, ⟨codeOf [true, true, true, true, true, true, true, false, true, false] 1, [true, true, true, true, true, true, true, false, true, false], nat_long.vl1⟩], M0 := tabM }
def nat_long.H (k : Nat) : List (CutF nat_long.S.R) := [⟨nat_long.vl0, nat_long.l0 k⟩, ⟨nat_long.vl1, nat_long.l1 k⟩]
def nat_QuoRem.f (k : Nat) (x0 : List Int) (x1 : List Int) : Option (List Int × List Int × Int) := (nat_all.f k [x0, x1]).bind fun t498 => (if (!t498) = true then (some (([] : List Int), ([] : List Int), 2)) else (if (x1.length : Int) = 0 then (some (([] : List Int), ([] : List Int), 11)) else ((nat_cmp.f k x0 x1).bind fun t499 => (if t499 < 0 then (if x0.length < 35184372088832 then (some (([] : List Int), x0, 0)) else (none)) else (if (x1.length : Int) = 1 then (if 0 < (x1.length : Int) then ((nat_small.f k x0 (rd x1 0)).bind fun t500 => ((nat_trim.f k ([t500.2] : List Int)).bind fun t501 => (some (t500.1, t501, 0)))) else (none)) else ((nat_long.f k x0 x1).bind fun t502 => (some (t502.1, t502.2, 0))))))))
abbrev nat_QuoRem.S : Sig := { ps := [.lf (.is .u32), .lf (.is .u32)], rs := [.lf (.is .u32), .lf (.is .u32), .lf (.i .i64)], wb := [], R := List Int × List Int × Int, mkR := fun y0 y1 y2 => some (y0, y1, y2), un := fun r => [.ints .u32 r.1, .ints .u32 r.2.1, .int .i64 r.2.2] }
def nat_QuoRem.F (k : Nat) : Fun := { S := nat_QuoRem.S, f := nat_QuoRem.f k }
def nat_QuoRem.C (k : Nat) : Cfg := { T := TT, G := lookG [(93, [nat_trim.F k, nat_trim.F1 k]), (98, [nat_all.F k]), (99, [nat_cmp.F k]), (100, [nat_small.F k]), (101, [nat_long.F k])], nt := 49, cuts := [], M0 := tabM }
def nat_QuoRem.H (k : Nat) : List (CutF nat_QuoRem.S.R) := []
def nat_Cmp.f (k : Nat) (x0 : List Int) (x1 : List Int) : Option (Int × Int) := (nat_all.f k [x0, x1]).bind fun t508 => (if (!t508) = true then (some (0, 2)) else ((nat_cmp.f k x0 x1).bind fun t509 => (some (t509, 0))))
abbrev nat_Cmp.S : Sig := { ps := [.lf (.is .u32), .lf (.is .u32)], rs := [.lf (.i .i64), .lf (.i .i64)], wb := [], R := Int × Int, mkR := fun y0 y1 => some (y0, y1), un := fun r => [.int .i64 r.1, .int .i64 r.2] }
def nat_Cmp.F (k : Nat) : Fun := { S := nat_Cmp.S, f := nat_Cmp.f k }
def nat_Cmp.C (k : Nat) : Cfg := { T := TT, G := lookG [(98, [nat_all.F k]), (99, [nat_cmp.F k])], nt := 14, cuts := [], M0 := tabM }
def nat_Cmp.H (k : Nat) : List (CutF nat_Cmp.S.R) := []
mutual
def nat_sub.l0 : Nat → List Int → List Int → List Int → Int → Int → Int → Option (List Int)
  | 0, _, _, _, _, _, _ => none
  | k + 1, x0, x1, x5, x6, x13, x14 => if x14 < x13 then (if x14 < (x1.length : Int) then (if 0 ≤ x14 then (if x14 < (x1.length : Int) then (nat_sub.j1 k x0 x1 x5 x6 x14 (rd x1 x14) x13 x14) else (none)) else (none)) else (nat_sub.j1 k x0 x1 x5 x6 x14 0 x13 x14)) else ((nat_trim.f k x5).bind fun t529 => (some t529))
def nat_sub.j1 : Nat → List Int → List Int → List Int → Int → Int → Int → Int → Int → Option (List Int)
  | 0, _, _, _, _, _, _, _, _ => none
  | k + 1, x0, x1, x5, x6, x7, x8, x13, x14 => if 0 ≤ x7 then (if x7 < (x0.length : Int) then ((bits_Sub32.f (rd x0 x7) x8 x6).bind fun t528 => (if 0 ≤ x7 then (if x7 < (x5.length : Int) then (nat_sub.l0 k x0 x1 (x5.set (x7 : Int).toNat t528.1) t528.2 x13 (wrap64 (x14 + 1))) else (none)) else (none))) else (none)) else (none)
end
def nat_sub.f (k : Nat) (x0 : List Int) (x1 : List Int) : Option (List Int) := if 0 ≤ (x0.length : Int) then (if ((x0.length : Int) : Int).toNat ≤ 70368744177664 then (nat_sub.l0 k x0 x1 (List.replicate ((x0.length : Int) : Int).toNat (0 : Int)) 0 (x0.length : Int) 0) else (none)) else (none)
abbrev nat_sub.S : Sig := { ps := [.lf (.is .u32), .lf (.is .u32)], rs := [.lf (.is .u32)], wb := [], R := List Int, mkR := fun y0 => some y0, un := fun r => [.ints .u32 r] }
def nat_sub.F (k : Nat) : Fun := { S := nat_sub.S, f := nat_sub.f k }
abbrev nat_sub.vl0 : List (Nat × Kx) := [(0, .lf (.is .u32)), (1, .lf (.is .u32)), (5, .ow .u32), (6, .lf (.i .u32)), (13, .lf (.i .i64)), (14, .lf (.i .i64))]
abbrev nat_sub.vj1 : List (Nat × Kx) := [(0, .lf (.is .u32)), (1, .lf (.is .u32)), (5, .ow .u32), (6, .lf (.i .u32)), (7, .lf (.i .i64)), (8, .lf (.i .u32)), (13, .lf (.i .i64)), (14, .lf (.i .i64))]
def nat_sub.C (k : Nat) : Cfg := { T := TT, G := lookG [(93, [nat_trim.F k, nat_trim.F1 k]), (113, [bits_Sub32.F k])], nt := 41, cuts := [⟨codeOf [true, true, true, false, true, false] 1, [true, true, true, false, true, false], nat_sub.vl0⟩, ⟨codeOf [true, true, true, false, true, false, false, true, true, false, false, true, true, true] 1, [true, true, true, false, true, false, false, true, true, false, false, true, true, true], nat_sub.vj1⟩], M0 := tabM }
def nat_sub.H (k : Nat) : List (CutF nat_sub.S.R) := [⟨nat_sub.vl0, nat_sub.l0 k⟩, ⟨nat_sub.vj1, nat_sub.j1 k⟩]
def nat_Sub.f (k : Nat) (x0 : List Int) (x1 : List Int) : Option (List Int × Int) := (nat_all.f k [x0, x1]).bind fun t532 => (if (!t532) = true then (some (([] : List Int), 2)) else ((nat_cmp.f k x0 x1).bind fun t533 => (if t533 < 0 then (some (([] : List Int), 10)) else ((nat_sub.f k x0 x1).bind fun t534 => (some (t534, 0))))))
abbrev nat_Sub.S : Sig := { ps := [.lf (.is .u32), .lf (.is .u32)], rs := [.lf (.is .u32), .lf (.i .i64)], wb := [], R := List Int × Int, mkR := fun y0 y1 => some (y0, y1), un := fun r => [.ints .u32 r.1, .int .i64 r.2] }
def nat_Sub.F (k : Nat) : Fun := { S := nat_Sub.S, f := nat_Sub.f k }
def nat_Sub.C (k : Nat) : Cfg := { T := TT, G := lookG [(98, [nat_all.F k]), (99, [nat_cmp.F k]), (102, [nat_sub.F k])], nt := 18, cuts := [], M0 := tabM }
def nat_Sub.H (k : Nat) : List (CutF nat_Sub.S.R) := []
mutual
def conv_left.j0 : Nat → Bool → List Int → Int → Bool → List Int → Int → Int → List Int → List Int → Int → Bool → Option (Bool × List Int × Int)
  | 0, _, _, _, _, _, _, _, _, _, _, _ => none
  | k + 1, x2_0, x2_1, x2_2, x4_0, x4_1, x4_2, x5, x9, x13, x18, x20 => if x18 > 0 then (conv_left.j1 k x4_0 x4_1 x4_2 x5 x9 x13 x2_0 true) else (if x18 = 0 then (conv_left.j1 k x4_0 x4_1 x4_2 x5 x9 x13 x2_0 x20) else (conv_left.j1 k x4_0 x4_1 x4_2 x5 x9 x13 x2_0 false))
def conv_left.j1 : Nat → Bool → List Int → Int → Int → List Int → List Int → Bool → Bool → Option (Bool × List Int × Int)
  | 0, _, _, _, _, _, _, _, _ => none
  | k + 1, x4_0, x4_1, x4_2, x5, x9, x13, x21, x90 => if x90 = true then ((nat_Sub.f k x9 x13).bind fun t542 => (conv_left.j2 k x4_0 x4_1 x4_2 x5 t542.1 (!x21))) else (conv_left.j2 k x4_0 x4_1 x4_2 x5 x13 x21)
def conv_left.j2 : Nat → Bool → List Int → Int → Int → List Int → Bool → Option (Bool × List Int × Int)
  | 0, _, _, _, _, _, _ => none
  | k + 1, x4_0, x4_1, x4_2, x5, x13, x21 => (dyad_Make.f k x21 x13 x5).bind fun t541 => (some (t541.1, t541.2.1, t541.2.2.1))
end
def conv_left.f (k : Nat) (x0_0 : Bool) (x0_1 : List Int) (x0_2 : Int) (x1_0 : Bool) (x1_1 : List Int) (x1_2 : Int) : Option (Bool × List Int × Int) := (nat_Shift.f k x0_1 (wrap64 (x0_2 - (mn x0_2 x1_2)))).bind fun t536 => ((nat_Shift.f k x1_1 (wrap64 (x1_2 - (mn x0_2 x1_2)))).bind fun t537 => ((nat_QuoRem.f k t536.1 t537.1).bind fun t538 => ((nat_Shift.f k t538.2.1 1).bind fun t539 => ((nat_Cmp.f k t539.1 t537.1).bind fun t540 => (if (t538.1.length : Int) > 0 then (if 0 < (t538.1.length : Int) then (conv_left.j0 k x0_0 x0_1 x0_2 false ([] : List Int) 0 (mn x0_2 x1_2) t537.1 t538.2.1 t540.1 (decide ((Go.bits .and .u32 (rd t538.1 0) 1) = 1))) else (none)) else (conv_left.j0 k x0_0 x0_1 x0_2 false ([] : List Int) 0 (mn x0_2 x1_2) t537.1 t538.2.1 t540.1 false))))))
abbrev conv_left.S : Sig := { ps := [.ag [.b, .is .u32, .i .i64], .ag [.b, .is .u32, .i .i64]], rs := [.ag [.b, .is .u32, .i .i64]], wb := [], R := Bool × List Int × Int, mkR := fun y0 y1 y2 => some (y0, y1, y2), un := fun r => [.bool r.1, .ints .u32 r.2.1, .int .i64 r.2.2] }
def conv_left.F (k : Nat) : Fun := { S := conv_left.S, f := conv_left.f k }
abbrev conv_left.vj0 : List (Nat × Kx) := [(2, .bx [.b, .is .u32, .i .i64]), (4, .bx [.b, .is .u32, .i .i64]), (5, .lf (.i .i64)), (9, .lf (.is .u32)), (13, .lf (.is .u32)), (18, .lf (.i .i64)), (20, .lf (.b))]
abbrev conv_left.vj1 : List (Nat × Kx) := [(4, .bx [.b, .is .u32, .i .i64]), (5, .lf (.i .i64)), (9, .lf (.is .u32)), (13, .lf (.is .u32)), (21, .lf (.b)), (90, .lf (.b))]
abbrev conv_left.vj2 : List (Nat × Kx) := [(4, .bx [.b, .is .u32, .i .i64]), (5, .lf (.i .i64)), (13, .lf (.is .u32)), (21, .lf (.b))]
def conv_left.C (k : Nat) : Cfg := { T := TT, G := lookG [(62, [dyad_Make.F k]), (73, [nat_Shift.F k]), (74, [nat_QuoRem.F k]), (75, [nat_Cmp.F k]), (76, [nat_Sub.F k])], nt := 107, cuts := [⟨codeOf [true, true, true, true, true, true, true, true] 1, [true, true, true, true, true, true, true, true], conv_left.vj0⟩, ⟨codeOf [true, true, true, true, true, true, true, true, true, false, true] 1, [true, true, true, true, true, true, true, true, true, false, true], conv_left.vj1⟩, ⟨codeOf [true, true, true, true, true, true, true, true, true, true] 1, [true, true, true, true, true, true, true, true, true, true], conv_left.vj2⟩], M0 := tabM }
def conv_left.H (k : Nat) : List (CutF conv_left.S.R) := [⟨conv_left.vj0, conv_left.j0 k⟩, ⟨conv_left.vj1, conv_left.j1 k⟩, ⟨conv_left.vj2, conv_left.j2 k⟩]
mutual
def conv_Rem.j1 : Nat → Int → Int → Int → Int → Bool → Int → Bool → Option (Int × Int × Int)
  | 0, _, _, _, _, _, _, _ => none
  | k + 1, x0, x1, x2, x9, x10, x12, x46 => if x46 = true then ((word_None.f k x0).bind fun t600 => (some (t600.1, 0, 0))) else (if x9 = 4 then (conv_Rem.j2 k x0 x1 x2 x9 x10 x12 true) else (conv_Rem.j2 k x0 x1 x2 x9 x10 x12 (decide (x12 = 1))))
def conv_Rem.j2 : Nat → Int → Int → Int → Int → Bool → Int → Bool → Option (Int × Int × Int)
  | 0, _, _, _, _, _, _, _ => none
  | k + 1, x0, x1, x2, x9, x10, x12, x59 => if x59 = true then ((word_None.f k x0).bind fun t599 => (some (t599.1, 1, 0))) else (if x12 = 4 then (conv_Rem.j3 k x0 x1 x2 x10 true) else (conv_Rem.j3 k x0 x1 x2 x10 (decide (x9 = 1))))
def conv_Rem.j3 : Nat → Int → Int → Int → Bool → Bool → Option (Int × Int × Int)
  | 0, _, _, _, _, _ => none
  | k + 1, x0, x1, x2, x10, x72 => if x72 = true then (some (x1, 0, 0)) else ((word_Value.f k x0 x1).bind fun t593 => ((word_Value.f k x0 x2).bind fun t594 => ((conv_left.f k t593.1 t593.2.1 t593.2.2.1 t594.1 t594.2.1 t594.2.2.1).bind fun t595 => ((word_Of.f k x0 t595.1 t595.2.1 t595.2.2).bind fun t596 => ((dyad_Sign.f k t595.1 t595.2.1 t595.2.2).bind fun t597 => (if t597 = 0 then ((word_Zero.f k x0 x10).bind fun t598 => (some (t598.1, 0, 0))) else (some (t596.1, 0, 0))))))))
end
def conv_Rem.f (k : Nat) (x0 : Int) (x1 : Int) (x2 : Int) : Option (Int × Int × Int) := (conv_open.f k x0 1 x1).bind fun t591 => (if ¬ (t591.2.2 = 0) then (some (0, 0, t591.2.2)) else ((conv_open.f k x0 1 x2).bind fun t592 => (if ¬ (t592.2.2 = 0) then (some (0, 0, t592.2.2)) else (if t591.1 = 5 then (conv_Rem.j1 k x0 x1 x2 t591.1 t591.2.1 t592.1 true) else (conv_Rem.j1 k x0 x1 x2 t591.1 t591.2.1 t592.1 (decide (t592.1 = 5)))))))
abbrev conv_Rem.S : Sig := { ps := [.lf (.i .u8), .lf (.i .u64), .lf (.i .u64)], rs := [.lf (.i .u64), .lf (.i .u8), .lf (.i .i64)], wb := [], R := Int × Int × Int, mkR := fun y0 y1 y2 => some (y0, y1, y2), un := fun r => [.int .u64 r.1, .int .u8 r.2.1, .int .i64 r.2.2] }
def conv_Rem.F (k : Nat) : Fun := { S := conv_Rem.S, f := conv_Rem.f k }
abbrev conv_Rem.vj1 : List (Nat × Kx) := [(0, .lf (.i .u8)), (1, .lf (.i .u64)), (2, .lf (.i .u64)), (9, .lf (.i .u8)), (10, .lf (.b)), (12, .lf (.i .u8)), (46, .lf (.b))]
abbrev conv_Rem.vj2 : List (Nat × Kx) := [(0, .lf (.i .u8)), (1, .lf (.i .u64)), (2, .lf (.i .u64)), (9, .lf (.i .u8)), (10, .lf (.b)), (12, .lf (.i .u8)), (59, .lf (.b))]
abbrev conv_Rem.vj3 : List (Nat × Kx) := [(0, .lf (.i .u8)), (1, .lf (.i .u64)), (2, .lf (.i .u64)), (10, .lf (.b)), (72, .lf (.b))]
def conv_Rem.C (k : Nat) : Cfg := { T := TT, G := lookG [(27, [conv_open.F k]), (28, [word_None.F k]), (30, [word_Zero.F k]), (31, [word_Value.F k]), (41, [conv_left.F k]), (42, [word_Of.F k]), (43, [dyad_Sign.F k])], nt := 111, cuts := [⟨codeOf [true, true, true, true, false, false, true, true, true] 1, [true, true, true, true, false, false, true, true, true], conv_Rem.vj1⟩, ⟨codeOf [true, true, true, true, false, false, true, true, true, true, true] 1, [true, true, true, true, false, false, true, true, true, true, true], conv_Rem.vj2⟩, ⟨codeOf [true, true, true, true, false, false, true, true, true, true, true, true, true] 1, [true, true, true, true, false, false, true, true, true, true, true, true, true], conv_Rem.vj3⟩], M0 := tabM }
def conv_Rem.H (k : Nat) : List (CutF conv_Rem.S.R) := [⟨conv_Rem.vj1, conv_Rem.j1 k⟩, ⟨conv_Rem.vj2, conv_Rem.j2 k⟩, ⟨conv_Rem.vj3, conv_Rem.j3 k⟩]
def cutplanelaw06_known.f (k : Nat) : Option (Bool) := (conv_To.f k 2 1 4 4607182419068452864).bind fun t604 => ((conv_Rem.f k 2 4617315517961601024 4613937818241073152).bind fun t605 => (if t604.1 = 1065353217 then (if t604.2.1 = 16 then (if t604.2.2 = 0 then (if t605.1 = 13830554455654793216 then (if t605.2.1 = 0 then (some (decide (t605.2.2 = 0))) else (some false)) else (some false)) else (some false)) else (some false)) else (some false)))
abbrev cutplanelaw06_known.S : Sig := { ps := [], rs := [.lf (.b)], wb := [], R := Bool, mkR := fun y0 => some y0, un := fun r => [.bool r] }
def cutplanelaw06_known.F (k : Nat) : Fun := { S := cutplanelaw06_known.S, f := cutplanelaw06_known.f k }
def cutplanelaw06_known.C (k : Nat) : Cfg := { T := TT, G := lookG [(8, [conv_To.F k]), (14, [conv_Rem.F k])], nt := 39, cuts := [], M0 := tabM }
def cutplanelaw06_known.H (k : Nat) : List (CutF cutplanelaw06_known.S.R) := []
def cutplaneref01_Trim.l0 : Nat → List Int → Int → Option (List Int)
  | 0, _, _ => none
  | k + 1, x0, x3 => if x3 > 0 then (if 0 ≤ wrap64 (x3 - 1) then (if wrap64 (x3 - 1) < (x0.length : Int) then (if (rd x0 (wrap64 (x3 - 1))) = 0 then (cutplaneref01_Trim.l0 k x0 (wrap64 (x3 - 1))) else (if 0 ≤ x3 then (if x3 ≤ (x0.length : Int) then (some (x0.take (x3 : Int).toNat)) else (none)) else (none))) else (none)) else (none)) else (if 0 ≤ x3 then (if x3 ≤ (x0.length : Int) then (some (x0.take (x3 : Int).toNat)) else (none)) else (none))
def cutplaneref01_Trim.f (k : Nat) (x0 : List Int) : Option (List Int) := cutplaneref01_Trim.l0 k x0 (x0.length : Int)
abbrev cutplaneref01_Trim.S : Sig := { ps := [.ow .u32], rs := [.ow .u32], wb := [], R := List Int, mkR := fun y0 => some y0, un := fun r => [.ints .u32 r] }
def cutplaneref01_Trim.F (k : Nat) : Fun := { S := cutplaneref01_Trim.S, f := cutplaneref01_Trim.f k }
abbrev cutplaneref01_Trim.vl0 : List (Nat × Kx) := [(0, .ow .u32), (3, .lf (.i .i64))]
def cutplaneref01_Trim.C (k : Nat) : Cfg := { T := TT, G := lookG [], nt := 21, cuts := [⟨codeOf [true, true, false, false] 1, [true, true, false, false], cutplaneref01_Trim.vl0⟩], M0 := tabM }
def cutplaneref01_Trim.H (k : Nat) : List (CutF cutplaneref01_Trim.S.R) := [⟨cutplaneref01_Trim.vl0, cutplaneref01_Trim.l0 k⟩]
abbrev cutplaneref01_Trim.S1 : Sig := { ps := [.lf (.is .u32)], rs := [.lf (.is .u32)], wb := [], R := List Int, mkR := fun y0 => some y0, un := fun r => [.ints .u32 r] }
def cutplaneref01_Trim.F1 (k : Nat) : Fun := { S := cutplaneref01_Trim.S1, f := cutplaneref01_Trim.f k }
abbrev cutplaneref01_Trim.vl01 : List (Nat × Kx) := [(0, .lf (.is .u32)), (3, .lf (.i .i64))]
def cutplaneref01_Trim.C1 (k : Nat) : Cfg := { T := TT, G := lookG [], nt := 21, cuts := [⟨codeOf [true, true, false, false] 1, [true, true, false, false], cutplaneref01_Trim.vl01⟩], M0 := tabM }
def cutplaneref01_Trim.H1 (k : Nat) : List (CutF cutplaneref01_Trim.S1.R) := [⟨cutplaneref01_Trim.vl01, cutplaneref01_Trim.l0 k⟩]
def cutplaneref01_Of.f (k : Nat) (x0 : Int) : Option (List Int) := (cutplaneref01_Trim.f k ([x0 % 4294967296, (x0 / 4294967296) % 4294967296] : List Int)).bind fun t621 => (some t621)
abbrev cutplaneref01_Of.S : Sig := { ps := [.lf (.i .u64)], rs := [.lf (.is .u32)], wb := [], R := List Int, mkR := fun y0 => some y0, un := fun r => [.ints .u32 r] }
def cutplaneref01_Of.F (k : Nat) : Fun := { S := cutplaneref01_Of.S, f := cutplaneref01_Of.f k }
def cutplaneref01_Of.C (k : Nat) : Cfg := { T := TT, G := lookG [(72, [cutplaneref01_Trim.F k, cutplaneref01_Trim.F1 k])], nt := 10, cuts := [], M0 := tabM }
def cutplaneref01_Of.H (k : Nat) : List (CutF cutplaneref01_Of.S.R) := []
def cutplaneref03_Low.f (x0 : Int) : Option (Int) := if x0 = 1 then (some (-149)) else (some (-1074))
abbrev cutplaneref03_Low.S : Sig := { ps := [.lf (.i .u8)], rs := [.lf (.i .i64)], wb := [], R := Int, mkR := fun y0 => some y0, un := fun r => [.int .i64 r] }
def cutplaneref03_Low.F (k : Nat) : Fun := { S := cutplaneref03_Low.S, f := cutplaneref03_Low.f }
def cutplaneref03_Low.C (k : Nat) : Cfg := { T := TT, G := lookG [], nt := 5, cuts := [], M0 := tabM }
def cutplaneref03_Low.H (k : Nat) : List (CutF cutplaneref03_Low.S.R) := []
def cutplaneref01_Bit.f (x0 : List Int) (x1 : Int) : Option (Int) := if x1 < 0 then (some 0) else (if (wrap64 (Int.tdiv x1 32)) ≥ (x0.length : Int) then (some 0) else (if 0 ≤ wrap64 (Int.tdiv x1 32) then (if wrap64 (Int.tdiv x1 32) < (x0.length : Int) then (if 0 ≤ (Int.tmod x1 32) then (some (Go.bits .and .u32 (shr .u32 (rd x0 (wrap64 (Int.tdiv x1 32))) (Int.tmod x1 32)) 1)) else (none)) else (none)) else (none)))
abbrev cutplaneref01_Bit.S : Sig := { ps := [.lf (.is .u32), .lf (.i .i64)], rs := [.lf (.i .u32)], wb := [], R := Int, mkR := fun y0 => some y0, un := fun r => [.int .u32 r] }
def cutplaneref01_Bit.F (k : Nat) : Fun := { S := cutplaneref01_Bit.S, f := cutplaneref01_Bit.f }
def cutplaneref01_Bit.C (k : Nat) : Cfg := { T := TT, G := lookG [], nt := 23, cuts := [], M0 := tabM }
def cutplaneref01_Bit.H (k : Nat) : List (CutF cutplaneref01_Bit.S.R) := []
def cutplaneref01_Low.l0 : Nat → List Int → Int → Option (Int)
  | 0, _, _ => none
  | k + 1, x0, x3 => if x3 < (wrap64 (32 * (x0.length : Int))) then ((cutplaneref01_Bit.f x0 x3).bind fun t628 => (if t628 = 0 then (if 0 ≤ wrap64 (Int.tdiv x3 32) then (if wrap64 (Int.tdiv x3 32) < (x0.length : Int) then (if (rd x0 (wrap64 (Int.tdiv x3 32))) = 0 then (cutplaneref01_Low.l0 k x0 (wrap64 (x3 + 32))) else (cutplaneref01_Low.l0 k x0 (wrap64 (x3 + 1)))) else (none)) else (none)) else (if x3 = (wrap64 (32 * (x0.length : Int))) then (some 0) else (some x3)))) else (if x3 = (wrap64 (32 * (x0.length : Int))) then (some 0) else (some x3))
def cutplaneref01_Low.f (k : Nat) (x0 : List Int) : Option (Int) := cutplaneref01_Low.l0 k x0 0
abbrev cutplaneref01_Low.S : Sig := { ps := [.lf (.is .u32)], rs := [.lf (.i .i64)], wb := [], R := Int, mkR := fun y0 => some y0, un := fun r => [.int .i64 r] }
def cutplaneref01_Low.F (k : Nat) : Fun := { S := cutplaneref01_Low.S, f := cutplaneref01_Low.f k }
abbrev cutplaneref01_Low.vl0 : List (Nat × Kx) := [(0, .lf (.is .u32)), (3, .lf (.i .i64))]
def cutplaneref01_Low.C (k : Nat) : Cfg := { T := TT, G := lookG [(86, [cutplaneref01_Bit.F k])], nt := 31, cuts := [⟨codeOf [true, true, false, false] 1, [true, true, false, false], cutplaneref01_Low.vl0⟩], M0 := tabM }
def cutplaneref01_Low.H (k : Nat) : List (CutF cutplaneref01_Low.S.R) := [⟨cutplaneref01_Low.vl0, cutplaneref01_Low.l0 k⟩]
def cutplaneref01_Len.l0 : Nat → Int → Int → Option (Int)
  | 0, _, _ => none
  | k + 1, x3, x4 => if x4 > 0 then (cutplaneref01_Len.l0 k (wrap64 (x3 + 1)) (x4 / 2)) else (some x3)
def cutplaneref01_Len.f (k : Nat) (x0 : List Int) : Option (Int) := if (x0.length : Int) = 0 then (some 0) else (if 0 ≤ wrap64 ((x0.length : Int) - 1) then (if wrap64 ((x0.length : Int) - 1) < (x0.length : Int) then (cutplaneref01_Len.l0 k (wrap64 (32 * (wrap64 ((x0.length : Int) - 1)))) (rd x0 (wrap64 ((x0.length : Int) - 1)))) else (none)) else (none))
abbrev cutplaneref01_Len.S : Sig := { ps := [.lf (.is .u32)], rs := [.lf (.i .i64)], wb := [], R := Int, mkR := fun y0 => some y0, un := fun r => [.int .i64 r] }
def cutplaneref01_Len.F (k : Nat) : Fun := { S := cutplaneref01_Len.S, f := cutplaneref01_Len.f k }
abbrev cutplaneref01_Len.vl0 : List (Nat × Kx) := [(3, .lf (.i .i64)), (4, .lf (.i .u32))]
def cutplaneref01_Len.C (k : Nat) : Cfg := { T := TT, G := lookG [], nt := 25, cuts := [⟨codeOf [true, true, true, false, true, false] 1, [true, true, true, false, true, false], cutplaneref01_Len.vl0⟩], M0 := tabM }
def cutplaneref01_Len.H (k : Nat) : List (CutF cutplaneref01_Len.S.R) := [⟨cutplaneref01_Len.vl0, cutplaneref01_Len.l0 k⟩]
def cutplaneref01_Down.l0 : Nat → List Int → Bool → List Int → Int → Int → Option (List Int × Bool)
  | 0, _, _, _, _, _ => none
  | k + 1, x0, x6, x7, x8, x9 => if x9 < (x0.length : Int) then (if 0 ≤ x9 then (if x9 < (x0.length : Int) then (if 0 ≤ x8 then (if (wrap64 (x9 + 1)) < (x0.length : Int) then (if 0 ≤ wrap64 (x9 + 1) then (if wrap64 (x9 + 1) < (x0.length : Int) then (if 0 ≤ (wrap64 (32 - x8)) then (if x7.length + ([(Go.bits .or .u64 (shr .u64 (IntKind.u64.wrap (rd x0 x9)) x8) (shl .u64 (IntKind.u64.wrap (rd x0 (wrap64 (x9 + 1)))) (wrap64 (32 - x8)))) % 4294967296] : List Int).length < 35184372088832 then (cutplaneref01_Down.l0 k x0 x6 (x7 ++ ([(Go.bits .or .u64 (shr .u64 (IntKind.u64.wrap (rd x0 x9)) x8) (shl .u64 (IntKind.u64.wrap (rd x0 (wrap64 (x9 + 1)))) (wrap64 (32 - x8)))) % 4294967296] : List Int)) x8 (wrap64 (x9 + 1))) else (none)) else (none)) else (none)) else (none)) else (if x7.length + ([(shr .u64 (IntKind.u64.wrap (rd x0 x9)) x8) % 4294967296] : List Int).length < 35184372088832 then (cutplaneref01_Down.l0 k x0 x6 (x7 ++ ([(shr .u64 (IntKind.u64.wrap (rd x0 x9)) x8) % 4294967296] : List Int)) x8 (wrap64 (x9 + 1))) else (none))) else (none)) else (none)) else (none)) else ((cutplaneref01_Trim.f k x7).bind fun t656 => (some (t656, x6)))
def cutplaneref01_Down.f (k : Nat) (x0 : List Int) (x1 : Int) : Option (List Int × Bool) := (cutplaneref01_Len.f k x0).bind fun t654 => (if x1 ≥ t654 then (some (([] : List Int), decide ((x0.length : Int) > 0))) else ((cutplaneref01_Low.f k x0).bind fun t655 => (cutplaneref01_Down.l0 k x0 (decide (x1 > t655)) ([] : List Int) (Int.tmod x1 32) (wrap64 (Int.tdiv x1 32)))))
abbrev cutplaneref01_Down.S : Sig := { ps := [.lf (.is .u32), .lf (.i .i64)], rs := [.lf (.is .u32), .lf (.b)], wb := [], R := List Int × Bool, mkR := fun y0 y1 => some (y0, y1), un := fun r => [.ints .u32 r.1, .bool r.2] }
def cutplaneref01_Down.F (k : Nat) : Fun := { S := cutplaneref01_Down.S, f := cutplaneref01_Down.f k }
abbrev cutplaneref01_Down.vl0 : List (Nat × Kx) := [(0, .lf (.is .u32)), (6, .lf (.b)), (7, .ow .u32), (8, .lf (.i .i64)), (9, .lf (.i .i64))]
def cutplaneref01_Down.C (k : Nat) : Cfg := { T := TT, G := lookG [(47, [cutplaneref01_Len.F k]), (70, [cutplaneref01_Low.F k]), (72, [cutplaneref01_Trim.F k, cutplaneref01_Trim.F1 k])], nt := 63, cuts := [⟨codeOf [true, true, true, true, true, false, true, false] 1, [true, true, true, true, true, false, true, false], cutplaneref01_Down.vl0⟩], M0 := tabM }
def cutplaneref01_Down.H (k : Nat) : List (CutF cutplaneref01_Down.S.R) := [⟨cutplaneref01_Down.vl0, cutplaneref01_Down.l0 k⟩]
def cutplaneref02_Form.f (k : Nat) (x0 : Bool) (x1 : List Int) (x2 : Int) : Option (Bool × List Int × Int) := if (x1.length : Int) = 0 then (some (false, ([] : List Int), 0)) else ((cutplaneref01_Low.f k x1).bind fun t658 => ((cutplaneref01_Down.f k x1 t658).bind fun t659 => (some (x0, t659.1, wrap64 (x2 + t658)))))
abbrev cutplaneref02_Form.S : Sig := { ps := [.lf (.b), .lf (.is .u32), .lf (.i .i64)], rs := [.ag [.b, .is .u32, .i .i64]], wb := [], R := Bool × List Int × Int, mkR := fun y0 y1 y2 => some (y0, y1, y2), un := fun r => [.bool r.1, .ints .u32 r.2.1, .int .i64 r.2.2] }
def cutplaneref02_Form.F (k : Nat) : Fun := { S := cutplaneref02_Form.S, f := cutplaneref02_Form.f k }
def cutplaneref02_Form.C (k : Nat) : Cfg := { T := TT, G := lookG [(70, [cutplaneref01_Low.F k]), (71, [cutplaneref01_Down.F k])], nt := 28, cuts := [], M0 := tabM }
def cutplaneref02_Form.H (k : Nat) : List (CutF cutplaneref02_Form.S.R) := []
def cutplaneref03_Value.f (k : Nat) (x0 : Int) (x1 : Int) : Option (Bool × List Int × Int) := (cutplaneref03_Split.f x0 x1).bind fun t669 => (if t669.2.1 = 0 then ((cutplaneref01_Of.f k t669.2.2).bind fun t670 => ((cutplaneref03_Low.f x0).bind fun t671 => ((cutplaneref02_Form.f k t669.1 t670 t671).bind fun t672 => (some (t672.1, t672.2.1, t672.2.2))))) else ((cutplaneref03_Frac.f x0).bind fun t673 => (if 0 ≤ t673 then ((cutplaneref01_Of.f k (IntKind.u64.wrap ((shl .u64 1 t673) + t669.2.2))).bind fun t674 => ((cutplaneref03_Low.f x0).bind fun t675 => ((cutplaneref02_Form.f k t669.1 t674 (wrap64 ((wrap64 (t669.2.1 - 1)) + t675))).bind fun t676 => (some (t676.1, t676.2.1, t676.2.2))))) else (none))))
abbrev cutplaneref03_Value.S : Sig := { ps := [.lf (.i .u8), .lf (.i .u64)], rs := [.ag [.b, .is .u32, .i .i64]], wb := [], R := Bool × List Int × Int, mkR := fun y0 y1 y2 => some (y0, y1, y2), un := fun r => [.bool r.1, .ints .u32 r.2.1, .int .i64 r.2.2] }
def cutplaneref03_Value.F (k : Nat) : Fun := { S := cutplaneref03_Value.S, f := cutplaneref03_Value.f k }
def cutplaneref03_Value.C (k : Nat) : Cfg := { T := TT, G := lookG [(35, [cutplaneref03_Split.F k]), (36, [cutplaneref02_Form.F k]), (37, [cutplaneref01_Of.F k]), (38, [cutplaneref03_Low.F k]), (39, [cutplaneref03_Frac.F k])], nt := 36, cuts := [], M0 := tabM }
def cutplaneref03_Value.H (k : Nat) : List (CutF cutplaneref03_Value.S.R) := []
def cutplaneref02_Abs.f (x0_0 : Bool) (x0_1 : List Int) (x0_2 : Int) : Option (Bool × List Int × Int) := some (false, x0_1, x0_2)
abbrev cutplaneref02_Abs.S : Sig := { ps := [.ag [.b, .is .u32, .i .i64]], rs := [.ag [.b, .is .u32, .i .i64]], wb := [], R := Bool × List Int × Int, mkR := fun y0 y1 y2 => some (y0, y1, y2), un := fun r => [.bool r.1, .ints .u32 r.2.1, .int .i64 r.2.2] }
def cutplaneref02_Abs.F (k : Nat) : Fun := { S := cutplaneref02_Abs.S, f := cutplaneref02_Abs.f }
def cutplaneref02_Abs.C (k : Nat) : Cfg := { T := TT, G := lookG [], nt := 5, cuts := [], M0 := tabM }
def cutplaneref02_Abs.H (k : Nat) : List (CutF cutplaneref02_Abs.S.R) := []
def cutplaneref02_Shift.f (x0_0 : Bool) (x0_1 : List Int) (x0_2 : Int) (x1 : Int) : Option (Bool × List Int × Int) := if (x0_1.length : Int) > 0 then (some (x0_0, x0_1, wrap64 (x0_2 + x1))) else (some (x0_0, x0_1, x0_2))
abbrev cutplaneref02_Shift.S : Sig := { ps := [.ag [.b, .is .u32, .i .i64], .lf (.i .i64)], rs := [.ag [.b, .is .u32, .i .i64]], wb := [], R := Bool × List Int × Int, mkR := fun y0 y1 y2 => some (y0, y1, y2), un := fun r => [.bool r.1, .ints .u32 r.2.1, .int .i64 r.2.2] }
def cutplaneref02_Shift.F (k : Nat) : Fun := { S := cutplaneref02_Shift.S, f := cutplaneref02_Shift.f }
def cutplaneref02_Shift.C (k : Nat) : Cfg := { T := TT, G := lookG [], nt := 15, cuts := [], M0 := tabM }
def cutplaneref02_Shift.H (k : Nat) : List (CutF cutplaneref02_Shift.S.R) := []
def cutplaneref02_Sign.f (x0_0 : Bool) (x0_1 : List Int) (x0_2 : Int) : Option (Int) := if (x0_1.length : Int) = 0 then (some 0) else (if x0_0 = true then (some (-1)) else (some 1))
abbrev cutplaneref02_Sign.S : Sig := { ps := [.ag [.b, .is .u32, .i .i64]], rs := [.lf (.i .i64)], wb := [], R := Int, mkR := fun y0 => some y0, un := fun r => [.int .i64 r] }
def cutplaneref02_Sign.F (k : Nat) : Fun := { S := cutplaneref02_Sign.S, f := cutplaneref02_Sign.f }
def cutplaneref02_Sign.C (k : Nat) : Cfg := { T := TT, G := lookG [], nt := 9, cuts := [], M0 := tabM }
def cutplaneref02_Sign.H (k : Nat) : List (CutF cutplaneref02_Sign.S.R) := []
def cutplaneref02_Top.f (k : Nat) (x0_0 : Bool) (x0_1 : List Int) (x0_2 : Int) : Option (Int) := if (x0_1.length : Int) = 0 then (some 0) else ((cutplaneref01_Len.f k x0_1).bind fun t691 => (some (wrap64 (x0_2 + t691))))
abbrev cutplaneref02_Top.S : Sig := { ps := [.ag [.b, .is .u32, .i .i64]], rs := [.lf (.i .i64)], wb := [], R := Int, mkR := fun y0 => some y0, un := fun r => [.int .i64 r] }
def cutplaneref02_Top.F (k : Nat) : Fun := { S := cutplaneref02_Top.S, f := cutplaneref02_Top.f k }
def cutplaneref02_Top.C (k : Nat) : Cfg := { T := TT, G := lookG [(47, [cutplaneref01_Len.F k])], nt := 13, cuts := [], M0 := tabM }
def cutplaneref02_Top.H (k : Nat) : List (CutF cutplaneref02_Top.S.R) := []
def cutplaneref02_Neg.f (x0_0 : Bool) (x0_1 : List Int) (x0_2 : Int) : Option (Bool × List Int × Int) := if (x0_1.length : Int) > 0 then (some ((!x0_0), x0_1, x0_2)) else (some (x0_0, x0_1, x0_2))
abbrev cutplaneref02_Neg.S : Sig := { ps := [.ag [.b, .is .u32, .i .i64]], rs := [.ag [.b, .is .u32, .i .i64]], wb := [], R := Bool × List Int × Int, mkR := fun y0 y1 y2 => some (y0, y1, y2), un := fun r => [.bool r.1, .ints .u32 r.2.1, .int .i64 r.2.2] }
def cutplaneref02_Neg.F (k : Nat) : Fun := { S := cutplaneref02_Neg.S, f := cutplaneref02_Neg.f }
def cutplaneref02_Neg.C (k : Nat) : Cfg := { T := TT, G := lookG [], nt := 12, cuts := [], M0 := tabM }
def cutplaneref02_Neg.H (k : Nat) : List (CutF cutplaneref02_Neg.S.R) := []
def cutplaneref01_Up.l0 : Nat → List Int → List Int → Int → Int → Int → Option (List Int)
  | 0, _, _, _, _, _ => none
  | k + 1, x0, x5, x6, x7, x8 => if x8 < (x0.length : Int) then (if 0 ≤ x8 then (if x8 < (x0.length : Int) then (if 0 ≤ x6 then (if x5.length + ([(Go.bits .or .u64 x7 (shl .u64 (IntKind.u64.wrap (rd x0 x8)) x6)) % 4294967296] : List Int).length < 35184372088832 then (cutplaneref01_Up.l0 k x0 (x5 ++ ([(Go.bits .or .u64 x7 (shl .u64 (IntKind.u64.wrap (rd x0 x8)) x6)) % 4294967296] : List Int)) x6 ((Go.bits .or .u64 x7 (shl .u64 (IntKind.u64.wrap (rd x0 x8)) x6)) / 4294967296) (wrap64 (x8 + 1))) else (none)) else (none)) else (none)) else (none)) else (if x5.length + ([x7 % 4294967296] : List Int).length < 35184372088832 then ((cutplaneref01_Trim.f k (x5 ++ ([x7 % 4294967296] : List Int))).bind fun t706 => (some t706)) else (none))
def cutplaneref01_Up.f (k : Nat) (x0 : List Int) (x1 : Int) : Option (List Int) := if (x0.length : Int) = 0 then (some ([] : List Int)) else (if 0 ≤ (wrap64 (Int.tdiv x1 32)) then (if (wrap64 (Int.tdiv x1 32) : Int).toNat ≤ 70368744177664 then (cutplaneref01_Up.l0 k x0 (List.replicate (wrap64 (Int.tdiv x1 32) : Int).toNat (0 : Int)) (Int.tmod x1 32) 0 0) else (none)) else (none))
abbrev cutplaneref01_Up.S : Sig := { ps := [.lf (.is .u32), .lf (.i .i64)], rs := [.lf (.is .u32)], wb := [], R := List Int, mkR := fun y0 => some y0, un := fun r => [.ints .u32 r] }
def cutplaneref01_Up.F (k : Nat) : Fun := { S := cutplaneref01_Up.S, f := cutplaneref01_Up.f k }
abbrev cutplaneref01_Up.vl0 : List (Nat × Kx) := [(0, .lf (.is .u32)), (5, .ow .u32), (6, .lf (.i .i64)), (7, .lf (.i .u64)), (8, .lf (.i .i64))]
def cutplaneref01_Up.C (k : Nat) : Cfg := { T := TT, G := lookG [(72, [cutplaneref01_Trim.F k, cutplaneref01_Trim.F1 k])], nt := 45, cuts := [⟨codeOf [true, true, true, true, true, false, true, false] 1, [true, true, true, true, true, false, true, false], cutplaneref01_Up.vl0⟩], M0 := tabM }
def cutplaneref01_Up.H (k : Nat) : List (CutF cutplaneref01_Up.S.R) := [⟨cutplaneref01_Up.vl0, cutplaneref01_Up.l0 k⟩]
mutual
def cutplaneref01_Add.l0 : Nat → List Int → List Int → List Int → Int → Int → Option (List Int)
  | 0, _, _, _, _, _ => none
  | k + 1, x0, x1, x5, x6, x7 => if x7 < (x0.length : Int) then (if x7 < (x0.length : Int) then (if 0 ≤ x7 then (if x7 < (x0.length : Int) then (cutplaneref01_Add.j2 k x0 x1 x5 (IntKind.u64.wrap (x6 + (IntKind.u64.wrap (rd x0 x7)))) x7) else (none)) else (none)) else (cutplaneref01_Add.j2 k x0 x1 x5 x6 x7)) else (if x7 < (x1.length : Int) then (if x7 < (x0.length : Int) then (if 0 ≤ x7 then (if x7 < (x0.length : Int) then (cutplaneref01_Add.j2 k x0 x1 x5 (IntKind.u64.wrap (x6 + (IntKind.u64.wrap (rd x0 x7)))) x7) else (none)) else (none)) else (cutplaneref01_Add.j2 k x0 x1 x5 x6 x7)) else (if x5.length + ([x6 % 4294967296] : List Int).length < 35184372088832 then ((cutplaneref01_Trim.f k (x5 ++ ([x6 % 4294967296] : List Int))).bind fun t711 => (some t711)) else (none)))
def cutplaneref01_Add.j2 : Nat → List Int → List Int → List Int → Int → Int → Option (List Int)
  | 0, _, _, _, _, _ => none
  | k + 1, x0, x1, x5, x6, x7 => if x7 < (x1.length : Int) then (if 0 ≤ x7 then (if x7 < (x1.length : Int) then (cutplaneref01_Add.j3 k x0 x1 x5 (IntKind.u64.wrap (x6 + (IntKind.u64.wrap (rd x1 x7)))) x7) else (none)) else (none)) else (cutplaneref01_Add.j3 k x0 x1 x5 x6 x7)
def cutplaneref01_Add.j3 : Nat → List Int → List Int → List Int → Int → Int → Option (List Int)
  | 0, _, _, _, _, _ => none
  | k + 1, x0, x1, x5, x6, x7 => if x5.length + ([x6 % 4294967296] : List Int).length < 35184372088832 then (cutplaneref01_Add.l0 k x0 x1 (x5 ++ ([x6 % 4294967296] : List Int)) (x6 / 4294967296) (wrap64 (x7 + 1))) else (none)
end
def cutplaneref01_Add.f (k : Nat) (x0 : List Int) (x1 : List Int) : Option (List Int) := cutplaneref01_Add.l0 k x0 x1 ([] : List Int) 0 0
abbrev cutplaneref01_Add.S : Sig := { ps := [.lf (.is .u32), .lf (.is .u32)], rs := [.lf (.is .u32)], wb := [], R := List Int, mkR := fun y0 => some y0, un := fun r => [.ints .u32 r] }
def cutplaneref01_Add.F (k : Nat) : Fun := { S := cutplaneref01_Add.S, f := cutplaneref01_Add.f k }
abbrev cutplaneref01_Add.vl0 : List (Nat × Kx) := [(0, .lf (.is .u32)), (1, .lf (.is .u32)), (5, .ow .u32), (6, .lf (.i .u64)), (7, .lf (.i .i64))]
abbrev cutplaneref01_Add.vj2 : List (Nat × Kx) := [(0, .lf (.is .u32)), (1, .lf (.is .u32)), (5, .ow .u32), (6, .lf (.i .u64)), (7, .lf (.i .i64))]
abbrev cutplaneref01_Add.vj3 : List (Nat × Kx) := [(0, .lf (.is .u32)), (1, .lf (.is .u32)), (5, .ow .u32), (6, .lf (.i .u64)), (7, .lf (.i .i64))]
def cutplaneref01_Add.C (k : Nat) : Cfg := { T := TT, G := lookG [(72, [cutplaneref01_Trim.F k, cutplaneref01_Trim.F1 k])], nt := 55, cuts := [⟨codeOf [true, true, true, false, true, false] 1, [true, true, true, false, true, false], cutplaneref01_Add.vl0⟩, ⟨codeOf [true, true, true, false, true, false, false, true, false, false, true] 1, [true, true, true, false, true, false, false, true, false, false, true], cutplaneref01_Add.vj2⟩, ⟨codeOf [true, true, true, false, true, false, false, true, false, false, true, true] 1, [true, true, true, false, true, false, false, true, false, false, true, true], cutplaneref01_Add.vj3⟩], M0 := tabM }
def cutplaneref01_Add.H (k : Nat) : List (CutF cutplaneref01_Add.S.R) := [⟨cutplaneref01_Add.vl0, cutplaneref01_Add.l0 k⟩, ⟨cutplaneref01_Add.vj2, cutplaneref01_Add.j2 k⟩, ⟨cutplaneref01_Add.vj3, cutplaneref01_Add.j3 k⟩]
def cutplaneref01_Cmp.l0 : Nat → List Int → List Int → Int → Option (Int)
  | 0, _, _, _ => none
  | k + 1, x0, x1, x5 => if x5 ≥ 0 then (if 0 ≤ x5 then (if x5 < (x0.length : Int) then (if 0 ≤ x5 then (if x5 < (x1.length : Int) then (if (rd x0 x5) < (rd x1 x5) then (some (-1)) else (if 0 ≤ x5 then (if x5 < (x0.length : Int) then (if 0 ≤ x5 then (if x5 < (x1.length : Int) then (if (rd x0 x5) > (rd x1 x5) then (some 1) else (cutplaneref01_Cmp.l0 k x0 x1 (wrap64 (x5 - 1)))) else (none)) else (none)) else (none)) else (none))) else (none)) else (none)) else (none)) else (none)) else (some 0)
def cutplaneref01_Cmp.f (k : Nat) (x0 : List Int) (x1 : List Int) : Option (Int) := if ¬ ((x0.length : Int) = (x1.length : Int)) then (if (x0.length : Int) < (x1.length : Int) then (some (-1)) else (some 1)) else (cutplaneref01_Cmp.l0 k x0 x1 (wrap64 ((x0.length : Int) - 1)))
abbrev cutplaneref01_Cmp.S : Sig := { ps := [.lf (.is .u32), .lf (.is .u32)], rs := [.lf (.i .i64)], wb := [], R := Int, mkR := fun y0 => some y0, un := fun r => [.int .i64 r] }
def cutplaneref01_Cmp.F (k : Nat) : Fun := { S := cutplaneref01_Cmp.S, f := cutplaneref01_Cmp.f k }
abbrev cutplaneref01_Cmp.vl0 : List (Nat × Kx) := [(0, .lf (.is .u32)), (1, .lf (.is .u32)), (5, .lf (.i .i64))]
def cutplaneref01_Cmp.C (k : Nat) : Cfg := { T := TT, G := lookG [], nt := 41, cuts := [⟨codeOf [true, true, false, true, false] 1, [true, true, false, true, false], cutplaneref01_Cmp.vl0⟩], M0 := tabM }
def cutplaneref01_Cmp.H (k : Nat) : List (CutF cutplaneref01_Cmp.S.R) := [⟨cutplaneref01_Cmp.vl0, cutplaneref01_Cmp.l0 k⟩]
mutual
def cutplaneref01_Sub.l0 : Nat → List Int → List Int → List Int → Int → Int → Option (List Int)
  | 0, _, _, _, _, _ => none
  | k + 1, x0, x1, x5, x6, x7 => if x7 < (x0.length : Int) then (if x7 < (x1.length : Int) then (if 0 ≤ x7 then (if x7 < (x1.length : Int) then (cutplaneref01_Sub.j1 k x0 x1 x5 x7 (IntKind.u64.wrap (x6 + (IntKind.u64.wrap (rd x1 x7))))) else (none)) else (none)) else (cutplaneref01_Sub.j1 k x0 x1 x5 x7 x6)) else ((cutplaneref01_Trim.f k x5).bind fun t716 => (some t716))
def cutplaneref01_Sub.j1 : Nat → List Int → List Int → List Int → Int → Int → Option (List Int)
  | 0, _, _, _, _, _ => none
  | k + 1, x0, x1, x5, x7, x8 => if 0 ≤ x7 then (if x7 < (x0.length : Int) then (if (IntKind.u64.wrap (rd x0 x7)) < x8 then (cutplaneref01_Sub.j2 k x0 x1 x5 1 x7 x8 (IntKind.u64.wrap ((IntKind.u64.wrap (rd x0 x7)) + 4294967296))) else (cutplaneref01_Sub.j2 k x0 x1 x5 0 x7 x8 (IntKind.u64.wrap (rd x0 x7)))) else (none)) else (none)
def cutplaneref01_Sub.j2 : Nat → List Int → List Int → List Int → Int → Int → Int → Int → Option (List Int)
  | 0, _, _, _, _, _, _, _ => none
  | k + 1, x0, x1, x5, x6, x7, x8, x9 => if x5.length + ([(IntKind.u64.wrap (x9 - x8)) % 4294967296] : List Int).length < 35184372088832 then (cutplaneref01_Sub.l0 k x0 x1 (x5 ++ ([(IntKind.u64.wrap (x9 - x8)) % 4294967296] : List Int)) x6 (wrap64 (x7 + 1))) else (none)
end
def cutplaneref01_Sub.f (k : Nat) (x0 : List Int) (x1 : List Int) : Option (List Int) := cutplaneref01_Sub.l0 k x0 x1 ([] : List Int) 0 0
abbrev cutplaneref01_Sub.S : Sig := { ps := [.lf (.is .u32), .lf (.is .u32)], rs := [.lf (.is .u32)], wb := [], R := List Int, mkR := fun y0 => some y0, un := fun r => [.ints .u32 r] }
def cutplaneref01_Sub.F (k : Nat) : Fun := { S := cutplaneref01_Sub.S, f := cutplaneref01_Sub.f k }
abbrev cutplaneref01_Sub.vl0 : List (Nat × Kx) := [(0, .lf (.is .u32)), (1, .lf (.is .u32)), (5, .ow .u32), (6, .lf (.i .u64)), (7, .lf (.i .i64))]
abbrev cutplaneref01_Sub.vj1 : List (Nat × Kx) := [(0, .lf (.is .u32)), (1, .lf (.is .u32)), (5, .ow .u32), (7, .lf (.i .i64)), (8, .lf (.i .u64))]
abbrev cutplaneref01_Sub.vj2 : List (Nat × Kx) := [(0, .lf (.is .u32)), (1, .lf (.is .u32)), (5, .ow .u32), (6, .lf (.i .u64)), (7, .lf (.i .i64)), (8, .lf (.i .u64)), (9, .lf (.i .u64))]
def cutplaneref01_Sub.C (k : Nat) : Cfg := { T := TT, G := lookG [(72, [cutplaneref01_Trim.F k, cutplaneref01_Trim.F1 k])], nt := 47, cuts := [⟨codeOf [true, true, true, false, true, false] 1, [true, true, true, false, true, false], cutplaneref01_Sub.vl0⟩, ⟨codeOf [true, true, true, false, true, false, false, true, false, false, true, true] 1, [true, true, true, false, true, false, false, true, false, false, true, true], cutplaneref01_Sub.vj1⟩, ⟨codeOf [true, true, true, false, true, false, false, true, false, false, true, true, true, true, true] 1, [true, true, true, false, true, false, false, true, false, false, true, true, true, true, true], cutplaneref01_Sub.vj2⟩], M0 := tabM }
def cutplaneref01_Sub.H (k : Nat) : List (CutF cutplaneref01_Sub.S.R) := [⟨cutplaneref01_Sub.vl0, cutplaneref01_Sub.l0 k⟩, ⟨cutplaneref01_Sub.vj1, cutplaneref01_Sub.j1 k⟩, ⟨cutplaneref01_Sub.vj2, cutplaneref01_Sub.j2 k⟩]
def cutplaneref02_Add.j2 : Nat → Bool → List Int → Int → Bool → List Int → Int → Bool → List Int → Int → Int → Option (Bool × List Int × Int)
  | 0, _, _, _, _, _, _, _, _, _, _ => none
  | k + 1, x2_0, x2_1, x2_2, x3_0, x3_1, x3_2, x4_0, x4_1, x4_2, x5 => (cutplaneref01_Up.f k x2_1 (wrap64 (x2_2 - x5))).bind fun t728 => ((cutplaneref01_Up.f k x3_1 (wrap64 (x3_2 - x5))).bind fun t729 => (if (x2_0) = (x3_0) then ((cutplaneref01_Add.f k t728 t729).bind fun t730 => ((cutplaneref02_Form.f k x2_0 t730 x5).bind fun t731 => (some (t731.1, t731.2.1, t731.2.2)))) else ((cutplaneref01_Cmp.f k t728 t729).bind fun t732 => (if t732 ≥ 0 then ((cutplaneref01_Sub.f k t728 t729).bind fun t733 => ((cutplaneref02_Form.f k x2_0 t733 x5).bind fun t734 => (some (t734.1, t734.2.1, t734.2.2)))) else ((cutplaneref01_Sub.f k t729 t728).bind fun t735 => ((cutplaneref02_Form.f k x3_0 t735 x5).bind fun t736 => (some (t736.1, t736.2.1, t736.2.2))))))))
def cutplaneref02_Add.f (k : Nat) (x0_0 : Bool) (x0_1 : List Int) (x0_2 : Int) (x1_0 : Bool) (x1_1 : List Int) (x1_2 : Int) : Option (Bool × List Int × Int) := if (x0_1.length : Int) = 0 then (some (x1_0, x1_1, x1_2)) else (if (x1_1.length : Int) = 0 then (some (x0_0, x0_1, x0_2)) else (if x1_2 < x0_2 then (cutplaneref02_Add.j2 k x0_0 x0_1 x0_2 x1_0 x1_1 x1_2 false ([] : List Int) 0 x1_2) else (cutplaneref02_Add.j2 k x0_0 x0_1 x0_2 x1_0 x1_1 x1_2 false ([] : List Int) 0 x0_2)))
abbrev cutplaneref02_Add.S : Sig := { ps := [.ag [.b, .is .u32, .i .i64], .ag [.b, .is .u32, .i .i64]], rs := [.ag [.b, .is .u32, .i .i64]], wb := [], R := Bool × List Int × Int, mkR := fun y0 y1 y2 => some (y0, y1, y2), un := fun r => [.bool r.1, .ints .u32 r.2.1, .int .i64 r.2.2] }
def cutplaneref02_Add.F (k : Nat) : Fun := { S := cutplaneref02_Add.S, f := cutplaneref02_Add.f k }
abbrev cutplaneref02_Add.vj2 : List (Nat × Kx) := [(2, .bx [.b, .is .u32, .i .i64]), (3, .bx [.b, .is .u32, .i .i64]), (4, .bx [.b, .is .u32, .i .i64]), (5, .lf (.i .i64))]
def cutplaneref02_Add.C (k : Nat) : Cfg := { T := TT, G := lookG [(36, [cutplaneref02_Form.F k]), (49, [cutplaneref01_Up.F k]), (82, [cutplaneref01_Add.F k]), (83, [cutplaneref01_Cmp.F k]), (84, [cutplaneref01_Sub.F k])], nt := 70, cuts := [⟨codeOf [true, true, true, true, true] 1, [true, true, true, true, true], cutplaneref02_Add.vj2⟩], M0 := tabM }
def cutplaneref02_Add.H (k : Nat) : List (CutF cutplaneref02_Add.S.R) := [⟨cutplaneref02_Add.vj2, cutplaneref02_Add.j2 k⟩]
def cutplaneref02_Sub.f (k : Nat) (x0_0 : Bool) (x0_1 : List Int) (x0_2 : Int) (x1_0 : Bool) (x1_1 : List Int) (x1_2 : Int) : Option (Bool × List Int × Int) := (cutplaneref02_Neg.f x1_0 x1_1 x1_2).bind fun t704 => ((cutplaneref02_Add.f k x0_0 x0_1 x0_2 t704.1 t704.2.1 t704.2.2).bind fun t737 => (some (t737.1, t737.2.1, t737.2.2)))
abbrev cutplaneref02_Sub.S : Sig := { ps := [.ag [.b, .is .u32, .i .i64], .ag [.b, .is .u32, .i .i64]], rs := [.ag [.b, .is .u32, .i .i64]], wb := [], R := Bool × List Int × Int, mkR := fun y0 y1 y2 => some (y0, y1, y2), un := fun r => [.bool r.1, .ints .u32 r.2.1, .int .i64 r.2.2] }
def cutplaneref02_Sub.F (k : Nat) : Fun := { S := cutplaneref02_Sub.S, f := cutplaneref02_Sub.f k }
def cutplaneref02_Sub.C (k : Nat) : Cfg := { T := TT, G := lookG [(45, [cutplaneref02_Add.F k]), (46, [cutplaneref02_Neg.F k])], nt := 9, cuts := [], M0 := tabM }
def cutplaneref02_Sub.H (k : Nat) : List (CutF cutplaneref02_Sub.S.R) := []
def cutplaneref02_Cmp.f (k : Nat) (x0_0 : Bool) (x0_1 : List Int) (x0_2 : Int) (x1_0 : Bool) (x1_1 : List Int) (x1_2 : Int) : Option (Int) := (cutplaneref02_Sign.f x0_0 x0_1 x0_2).bind fun t744 => ((cutplaneref02_Sign.f x1_0 x1_1 x1_2).bind fun t745 => (if ¬ (t744 = t745) then (if t744 < t745 then (some (-1)) else (some 1)) else (if t744 = 0 then (some 0) else ((cutplaneref02_Top.f k x0_0 x0_1 x0_2).bind fun t746 => ((cutplaneref02_Top.f k x1_0 x1_1 x1_2).bind fun t747 => (if ¬ (t746 = t747) then ((cutplaneref02_Top.f k x0_0 x0_1 x0_2).bind fun t748 => ((cutplaneref02_Top.f k x1_0 x1_1 x1_2).bind fun t749 => (if (decide (t748 < t749)) = (decide (t744 > 0)) then (some (-1)) else (some 1)))) else ((cutplaneref02_Sub.f k x0_0 x0_1 x0_2 x1_0 x1_1 x1_2).bind fun t750 => ((cutplaneref02_Sign.f t750.1 t750.2.1 t750.2.2).bind fun t751 => (some t751)))))))))
abbrev cutplaneref02_Cmp.S : Sig := { ps := [.ag [.b, .is .u32, .i .i64], .ag [.b, .is .u32, .i .i64]], rs := [.lf (.i .i64)], wb := [], R := Int, mkR := fun y0 => some y0, un := fun r => [.int .i64 r] }
def cutplaneref02_Cmp.F (k : Nat) : Fun := { S := cutplaneref02_Cmp.S, f := cutplaneref02_Cmp.f k }
def cutplaneref02_Cmp.C (k : Nat) : Cfg := { T := TT, G := lookG [(18, [cutplaneref02_Sub.F k]), (19, [cutplaneref02_Sign.F k]), (44, [cutplaneref02_Top.F k])], nt := 36, cuts := [], M0 := tabM }
def cutplaneref02_Cmp.H (k : Nat) : List (CutF cutplaneref02_Cmp.S.R) := []
def cutplaneref01_byDigit.l0 : Nat → List Int → Int → List Int → Int → Int → Option (List Int × List Int)
  | 0, _, _, _, _, _ => none
  | k + 1, x0, x1, x6, x7, x8 => if x8 ≥ 0 then (if 0 ≤ x8 then (if x8 < (x0.length : Int) then (if (IntKind.u64.wrap x1) = 0 then (none) else (if 0 ≤ x8 then (if x8 < (x6.length : Int) then (if (IntKind.u64.wrap x1) = 0 then (none) else (cutplaneref01_byDigit.l0 k x0 x1 (x6.set (x8 : Int).toNat ((IntKind.u64.wrap (Int.tdiv (Go.bits .or .u64 (IntKind.u64.wrap (x7 * 4294967296)) (IntKind.u64.wrap (rd x0 x8))) (IntKind.u64.wrap x1))) % 4294967296)) (Int.tmod (Go.bits .or .u64 (IntKind.u64.wrap (x7 * 4294967296)) (IntKind.u64.wrap (rd x0 x8))) (IntKind.u64.wrap x1)) (wrap64 (x8 - 1)))) else (none)) else (none))) else (none)) else (none)) else ((cutplaneref01_Trim.f k x6).bind fun t780 => ((cutplaneref01_Of.f k x7).bind fun t781 => (some (t780, t781))))
def cutplaneref01_byDigit.f (k : Nat) (x0 : List Int) (x1 : Int) : Option (List Int × List Int) := if 0 ≤ (x0.length : Int) then (if ((x0.length : Int) : Int).toNat ≤ 70368744177664 then (cutplaneref01_byDigit.l0 k x0 x1 (List.replicate ((x0.length : Int) : Int).toNat (0 : Int)) 0 (wrap64 ((x0.length : Int) - 1))) else (none)) else (none)
abbrev cutplaneref01_byDigit.S : Sig := { ps := [.lf (.is .u32), .lf (.i .u32)], rs := [.lf (.is .u32), .lf (.is .u32)], wb := [], R := List Int × List Int, mkR := fun y0 y1 => some (y0, y1), un := fun r => [.ints .u32 r.1, .ints .u32 r.2] }
def cutplaneref01_byDigit.F (k : Nat) : Fun := { S := cutplaneref01_byDigit.S, f := cutplaneref01_byDigit.f k }
abbrev cutplaneref01_byDigit.vl0 : List (Nat × Kx) := [(0, .lf (.is .u32)), (1, .lf (.i .u32)), (6, .ow .u32), (7, .lf (.i .u64)), (8, .lf (.i .i64))]
def cutplaneref01_byDigit.C (k : Nat) : Cfg := { T := TT, G := lookG [(37, [cutplaneref01_Of.F k]), (72, [cutplaneref01_Trim.F k, cutplaneref01_Trim.F1 k])], nt := 43, cuts := [⟨codeOf [true, true, true, false, true, false] 1, [true, true, true, false, true, false], cutplaneref01_byDigit.vl0⟩], M0 := tabM }
def cutplaneref01_byDigit.H (k : Nat) : List (CutF cutplaneref01_byDigit.S.R) := [⟨cutplaneref01_byDigit.vl0, cutplaneref01_byDigit.l0 k⟩]
mutual
def cutplaneref01_QuoRem.l0 : Nat → List Int → List Int → List Int → List Int → Int → Option (List Int × List Int)
  | 0, _, _, _, _, _ => none
  | k + 1, x0, x1, x6, x8, x10 => if x10 ≥ 0 then ((cutplaneref01_Up.f k x8 1).bind fun t852 => ((cutplaneref01_Bit.f x0 x10).bind fun t853 => (if t853 = 1 then ((cutplaneref01_Add.f k t852 ([1] : List Int)).bind fun t854 => (cutplaneref01_QuoRem.j2 k x0 x1 x6 t854 x10)) else (cutplaneref01_QuoRem.j2 k x0 x1 x6 t852 x10)))) else ((cutplaneref01_Trim.f k x6).bind fun t855 => (some (t855, x8)))
def cutplaneref01_QuoRem.j2 : Nat → List Int → List Int → List Int → List Int → Int → Option (List Int × List Int)
  | 0, _, _, _, _, _ => none
  | k + 1, x0, x1, x6, x8, x10 => (cutplaneref01_Cmp.f k x8 x1).bind fun t850 => (if t850 ≥ 0 then ((cutplaneref01_Sub.f k x8 x1).bind fun t851 => (if 0 ≤ wrap64 (Int.tdiv x10 32) then (if wrap64 (Int.tdiv x10 32) < (x6.length : Int) then (if 0 ≤ (Int.tmod x10 32) then (if 0 ≤ wrap64 (Int.tdiv x10 32) then (if wrap64 (Int.tdiv x10 32) < (x6.length : Int) then (cutplaneref01_QuoRem.l0 k x0 x1 (x6.set (wrap64 (Int.tdiv x10 32) : Int).toNat (Go.bits .or .u32 (rd x6 (wrap64 (Int.tdiv x10 32))) (shl .u32 1 (Int.tmod x10 32)))) t851 (wrap64 (x10 - 1))) else (none)) else (none)) else (none)) else (none)) else (none))) else (cutplaneref01_QuoRem.l0 k x0 x1 x6 x8 (wrap64 (x10 - 1))))
end
def cutplaneref01_QuoRem.f (k : Nat) (x0 : List Int) (x1 : List Int) : Option (List Int × List Int) := if (x1.length : Int) = 1 then (if 0 < (x1.length : Int) then ((cutplaneref01_byDigit.f k x0 (rd x1 0)).bind fun t846 => (some (t846.1, t846.2))) else (none)) else (if 0 ≤ (x0.length : Int) then (if ((x0.length : Int) : Int).toNat ≤ 70368744177664 then ((cutplaneref01_Len.f k x0).bind fun t847 => ((cutplaneref01_Len.f k x1).bind fun t848 => ((cutplaneref01_Down.f k x0 (mx 0 (wrap64 ((wrap64 (t847 - t848)) + 1)))).bind fun t849 => (cutplaneref01_QuoRem.l0 k x0 x1 (List.replicate ((x0.length : Int) : Int).toNat (0 : Int)) t849.1 (wrap64 ((mx 0 (wrap64 ((wrap64 (t847 - t848)) + 1))) - 1)))))) else (none)) else (none))
abbrev cutplaneref01_QuoRem.S : Sig := { ps := [.lf (.is .u32), .lf (.is .u32)], rs := [.lf (.is .u32), .lf (.is .u32)], wb := [], R := List Int × List Int, mkR := fun y0 y1 => some (y0, y1), un := fun r => [.ints .u32 r.1, .ints .u32 r.2] }
def cutplaneref01_QuoRem.F (k : Nat) : Fun := { S := cutplaneref01_QuoRem.S, f := cutplaneref01_QuoRem.f k }
abbrev cutplaneref01_QuoRem.vl0 : List (Nat × Kx) := [(0, .lf (.is .u32)), (1, .lf (.is .u32)), (6, .ow .u32), (8, .lf (.is .u32)), (10, .lf (.i .i64))]
abbrev cutplaneref01_QuoRem.vj2 : List (Nat × Kx) := [(0, .lf (.is .u32)), (1, .lf (.is .u32)), (6, .ow .u32), (8, .lf (.is .u32)), (10, .lf (.i .i64))]
def cutplaneref01_QuoRem.C (k : Nat) : Cfg := { T := TT, G := lookG [(47, [cutplaneref01_Len.F k]), (49, [cutplaneref01_Up.F k]), (71, [cutplaneref01_Down.F k]), (72, [cutplaneref01_Trim.F k, cutplaneref01_Trim.F1 k]), (82, [cutplaneref01_Add.F k]), (83, [cutplaneref01_Cmp.F k]), (84, [cutplaneref01_Sub.F k]), (85, [cutplaneref01_byDigit.F k]), (86, [cutplaneref01_Bit.F k])], nt := 75, cuts := [⟨codeOf [true, true, true, true, true, false, true, false] 1, [true, true, true, true, true, false, true, false], cutplaneref01_QuoRem.vl0⟩, ⟨codeOf [true, true, true, true, true, false, true, false, false, true, false, false, true, true] 1, [true, true, true, true, true, false, true, false, false, true, false, false, true, true], cutplaneref01_QuoRem.vj2⟩], M0 := tabM }
def cutplaneref01_QuoRem.H (k : Nat) : List (CutF cutplaneref01_QuoRem.S.R) := [⟨cutplaneref01_QuoRem.vl0, cutplaneref01_QuoRem.l0 k⟩, ⟨cutplaneref01_QuoRem.vj2, cutplaneref01_QuoRem.j2 k⟩]
def cutplaneref02_Cut.f (k : Nat) (x0_0 : Bool) (x0_1 : List Int) (x0_2 : Int) (x1 : Int) : Option (Bool × List Int × Int × Bool) := (cutplaneref01_Len.f k x0_1).bind fun t862 => (if (wrap64 (t862 - x1)) ≤ 0 then (some (x0_0, x0_1, x0_2, false)) else ((cutplaneref01_Down.f k x0_1 (wrap64 (t862 - x1))).bind fun t863 => ((cutplaneref02_Form.f k x0_0 t863.1 (wrap64 (x0_2 + (wrap64 (t862 - x1))))).bind fun t864 => (some (t864.1, t864.2.1, t864.2.2, t863.2)))))
abbrev cutplaneref02_Cut.S : Sig := { ps := [.ag [.b, .is .u32, .i .i64], .lf (.i .i64)], rs := [.ag [.b, .is .u32, .i .i64], .lf (.b)], wb := [], R := Bool × List Int × Int × Bool, mkR := fun y0 y1 y2 y3 => some (y0, y1, y2, y3), un := fun r => [.bool r.1, .ints .u32 r.2.1, .int .i64 r.2.2.1, .bool r.2.2.2] }
def cutplaneref02_Cut.F (k : Nat) : Fun := { S := cutplaneref02_Cut.S, f := cutplaneref02_Cut.f k }
def cutplaneref02_Cut.C (k : Nat) : Cfg := { T := TT, G := lookG [(36, [cutplaneref02_Form.F k]), (47, [cutplaneref01_Len.F k]), (71, [cutplaneref01_Down.F k])], nt := 33, cuts := [], M0 := tabM }
def cutplaneref02_Cut.H (k : Nat) : List (CutF cutplaneref02_Cut.S.R) := []
def cutplaneref02_Quo.j1 : Nat → Int → Bool → List Int → Int → Bool → List Int → Int → Bool → List Int → Int → Int → Option (Bool × List Int × Int × Bool)
  | 0, _, _, _, _, _, _, _, _, _, _, _ => none
  | k + 1, x2, x3_0, x3_1, x3_2, x4_0, x4_1, x4_2, x6_0, x6_1, x6_2, x8 => (cutplaneref01_Up.f k x3_1 x8).bind fun t890 => ((cutplaneref01_QuoRem.f k t890 x4_1).bind fun t891 => ((cutplaneref02_Form.f k (decide (¬ ((x3_0) = (x4_0)))) t891.1 (wrap64 ((wrap64 (x3_2 - x4_2)) - x8))).bind fun t892 => ((cutplaneref02_Cut.f k t892.1 t892.2.1 t892.2.2 x2).bind fun t893 => (if t893.2.2.2 = true then (some (t893.1, t893.2.1, t893.2.2.1, true)) else (some (t893.1, t893.2.1, t893.2.2.1, decide ((t891.2.length : Int) > 0)))))))
def cutplaneref02_Quo.f (k : Nat) (x0_0 : Bool) (x0_1 : List Int) (x0_2 : Int) (x1_0 : Bool) (x1_1 : List Int) (x1_2 : Int) (x2 : Int) : Option (Bool × List Int × Int × Bool) := if (x0_1.length : Int) = 0 then (some (false, ([] : List Int), 0, false)) else ((cutplaneref01_Len.f k x1_1).bind fun t888 => ((cutplaneref01_Len.f k x0_1).bind fun t889 => (if (wrap64 ((wrap64 ((wrap64 (x2 + 1)) + t888)) - t889)) < 0 then (cutplaneref02_Quo.j1 k x2 x0_0 x0_1 x0_2 x1_0 x1_1 x1_2 false ([] : List Int) 0 0) else (cutplaneref02_Quo.j1 k x2 x0_0 x0_1 x0_2 x1_0 x1_1 x1_2 false ([] : List Int) 0 (wrap64 ((wrap64 ((wrap64 (x2 + 1)) + t888)) - t889))))))
abbrev cutplaneref02_Quo.S : Sig := { ps := [.ag [.b, .is .u32, .i .i64], .ag [.b, .is .u32, .i .i64], .lf (.i .i64)], rs := [.ag [.b, .is .u32, .i .i64], .lf (.b)], wb := [], R := Bool × List Int × Int × Bool, mkR := fun y0 y1 y2 y3 => some (y0, y1, y2, y3), un := fun r => [.bool r.1, .ints .u32 r.2.1, .int .i64 r.2.2.1, .bool r.2.2.2] }
def cutplaneref02_Quo.F (k : Nat) : Fun := { S := cutplaneref02_Quo.S, f := cutplaneref02_Quo.f k }
abbrev cutplaneref02_Quo.vj1 : List (Nat × Kx) := [(2, .lf (.i .i64)), (3, .bx [.b, .is .u32, .i .i64]), (4, .bx [.b, .is .u32, .i .i64]), (6, .bx [.b, .is .u32, .i .i64]), (8, .lf (.i .i64))]
def cutplaneref02_Quo.C (k : Nat) : Cfg := { T := TT, G := lookG [(36, [cutplaneref02_Form.F k]), (47, [cutplaneref01_Len.F k]), (48, [cutplaneref01_QuoRem.F k]), (49, [cutplaneref01_Up.F k]), (50, [cutplaneref02_Cut.F k])], nt := 66, cuts := [⟨codeOf [true, true, true, true] 1, [true, true, true, true], cutplaneref02_Quo.vj1⟩], M0 := tabM }
def cutplaneref02_Quo.H (k : Nat) : List (CutF cutplaneref02_Quo.S.R) := [⟨cutplaneref02_Quo.vj1, cutplaneref02_Quo.j1 k⟩]
def cutplanelaw06_ConvLeft.f (k : Nat) (x0 : Int) (x1 : Int) (x2 : Int) : Option (Bool) := (cutplanelaw06_opens.f k x0 1 ([x1, x2] : List Int)).bind fun t973 => (if ¬ (t973 = 0) then ((cutplanelaw06_known.f k).bind fun t974 => (some t974)) else ((cutplaneref03_Finite.f x0 x1).bind fun t975 => (if (!t975) = true then ((cutplanelaw06_known.f k).bind fun t976 => (some t976)) else ((cutplaneref03_Finite.f x0 x2).bind fun t977 => (if (!t977) = true then ((cutplanelaw06_known.f k).bind fun t978 => (some t978)) else ((cutplaneref03_Class.f x0 x2).bind fun t979 => (if t979 = 1 then ((cutplanelaw06_known.f k).bind fun t980 => (some t980)) else ((conv_Rem.f k x0 x1 x2).bind fun t981 => (if ¬ (t981.2.2 = 0) then (some false) else (if ¬ (t981.2.1 = 0) then (some false) else ((cutplaneref03_Finite.f x0 t981.1).bind fun t982 => (if (!t982) = true then (some false) else ((cutplaneref03_Value.f k x0 t981.1).bind fun t983 => ((cutplaneref03_Value.f k x0 x2).bind fun t984 => ((cutplaneref02_Abs.f t983.1 t983.2.1 t983.2.2).bind fun t985 => ((cutplaneref02_Shift.f t985.1 t985.2.1 t985.2.2 1).bind fun t986 => ((cutplaneref02_Abs.f t984.1 t984.2.1 t984.2.2).bind fun t987 => ((cutplaneref02_Cmp.f k t986.1 t986.2.1 t986.2.2 t987.1 t987.2.1 t987.2.2).bind fun t988 => ((cutplaneref03_Value.f k x0 x1).bind fun t989 => ((cutplaneref02_Sub.f k t989.1 t989.2.1 t989.2.2 t983.1 t983.2.1 t983.2.2).bind fun t990 => ((cutplaneref02_Sign.f t990.1 t990.2.1 t990.2.2).bind fun t991 => (if t991 = 0 then (if t988 ≤ 0 then ((cutplanelaw06_known.f k).bind fun t992 => (some t992)) else (some false)) else ((cutplaneref02_Quo.f k t990.1 t990.2.1 t990.2.2 t984.1 t984.2.1 t984.2.2 2200).bind fun t993 => (if t988 ≤ 0 then (if (!t993.2.2.2) = true then (if t993.2.2.1 ≥ 0 then (if t988 < 0 then ((cutplanelaw06_known.f k).bind fun t994 => (some t994)) else (if t993.2.2.1 > 0 then ((cutplanelaw06_known.f k).bind fun t995 => (some t995)) else (some false))) else (some false)) else (some false)) else (some false)))))))))))))))))))))))))
abbrev cutplanelaw06_ConvLeft.S : Sig := { ps := [.lf (.i .u8), .lf (.i .u64), .lf (.i .u64)], rs := [.lf (.b)], wb := [], R := Bool, mkR := fun y0 => some y0, un := fun r => [.bool r] }
def cutplanelaw06_ConvLeft.F (k : Nat) : Fun := { S := cutplanelaw06_ConvLeft.S, f := cutplanelaw06_ConvLeft.f k }
def cutplanelaw06_ConvLeft.C (k : Nat) : Cfg := { T := TT, G := lookG [(6, [cutplanelaw06_opens.F k]), (7, [cutplanelaw06_known.F k]), (10, [cutplaneref03_Finite.F k]), (12, [cutplaneref03_Value.F k]), (13, [cutplaneref03_Class.F k]), (14, [conv_Rem.F k]), (15, [cutplaneref02_Cmp.F k]), (16, [cutplaneref02_Shift.F k]), (17, [cutplaneref02_Abs.F k]), (18, [cutplaneref02_Sub.F k]), (19, [cutplaneref02_Sign.F k]), (20, [cutplaneref02_Quo.F k])], nt := 115, cuts := [], M0 := tabM }
def cutplanelaw06_ConvLeft.H (k : Nat) : List (CutF cutplanelaw06_ConvLeft.S.R) := []
end Go.Proofs.YtclegbgmhimenaaDoor.Eng

