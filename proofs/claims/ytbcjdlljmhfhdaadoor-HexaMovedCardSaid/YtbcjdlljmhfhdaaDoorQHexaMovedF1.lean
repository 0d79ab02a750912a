import Derived.Test.YtbcjdlljmhfhdaaDoorEng2
import Derived.Test.YtbcjdlljmhfhdaaDoorProg
import Derived.KernelRfl
import Derived.Lib.TrailingZeros
import Derived.Lib.Repeat
import Derived.Lib.Bytealg
set_option linter.unusedVariables false
set_option linter.unusedSimpArgs false
namespace Go.Proofs.YtbcjdlljmhfhdaaDoor.Eng
open Go.RowKit Go.Proofs
set_option maxRecDepth 100000
set_option linter.unusedVariables false
def TL : List (Nat × TI) := [(2, ⟨.int .i64, 1, 8, [(.int .i64)]⟩),
  (3, ⟨.int .i64, 1, 8, [(.int .i64)]⟩),
  (4, ⟨.bool, 1, 1, [.bool]⟩),
  (5, ⟨.int .u8, 1, 1, [(.int .u8)]⟩),
  (6, ⟨.int .u8, 1, 1, [(.int .u8)]⟩),
  (7, ⟨.struct [(0, 2), (1, 3), (2, 4), (3, 6)], 4, 24, [(.int .i64), (.int .i64), .bool, (.int .u8)]⟩),
  (8, ⟨.struct [(0, 2), (1, 3), (2, 4), (3, 6)], 4, 24, [(.int .i64), (.int .i64), .bool, (.int .u8)]⟩),
  (9, ⟨.str, 1, 16, [.str]⟩),
  (10, ⟨.str, 1, 16, [.str]⟩),
  (11, ⟨.str, 1, 16, [.str]⟩),
  (12, ⟨.int .u64, 1, 8, [(.int .u64)]⟩),
  (13, ⟨.struct [(0, 9), (1, 12)], 2, 24, [.str, (.int .u64)]⟩),
  (14, ⟨.struct [(0, 9), (1, 12)], 2, 24, [.str, (.int .u64)]⟩),
  (15, ⟨.ptr 153, 1, 8, [.ptr]⟩),
  (16, ⟨.ptr 156, 1, 8, [.ptr]⟩),
  (17, ⟨.ptr 163, 1, 8, [.ptr]⟩),
  (18, ⟨.struct [(0, 17)], 1, 8, [.ptr]⟩),
  (19, ⟨.struct [(0, 17)], 1, 8, [.ptr]⟩),
  (21, ⟨.int .i32, 1, 4, [(.int .i32)]⟩),
  (22, ⟨.int .u8, 1, 1, [(.int .u8)]⟩),
  (23, ⟨.int .u8, 1, 1, [(.int .u8)]⟩),
  (27, ⟨.int .u64, 1, 8, [(.int .u64)]⟩),
  (28, ⟨.int .u8, 1, 1, [(.int .u8)]⟩),
  (29, ⟨.int .i64, 1, 8, [(.int .i64)]⟩),
  (42, ⟨.slice 94, 1, 24, [(.slice (some .u32))]⟩),
  (45, ⟨.struct [(0, 4), (1, 42), (2, 3)], 3, 40, [.bool, (.slice (some .u32)), (.int .i64)]⟩),
  (46, ⟨.struct [(0, 4), (1, 42), (2, 3)], 3, 40, [.bool, (.slice (some .u32)), (.int .i64)]⟩),
  (50, ⟨.int .u8, 1, 1, [(.int .u8)]⟩),
  (53, ⟨.struct [(0, 4), (1, 3), (2, 27)], 3, 24, [.bool, (.int .i64), (.int .u64)]⟩),
  (54, ⟨.struct [(0, 4), (1, 3), (2, 27)], 3, 24, [.bool, (.int .i64), (.int .u64)]⟩),
  (63, ⟨.struct [(0, 3), (1, 3), (2, 3)], 3, 24, [(.int .i64), (.int .i64), (.int .i64)]⟩),
  (64, ⟨.struct [(0, 3), (1, 3), (2, 3)], 3, 24, [(.int .i64), (.int .i64), (.int .i64)]⟩),
  (70, ⟨.struct [(0, 3), (1, 3), (2, 27)], 3, 24, [(.int .i64), (.int .i64), (.int .u64)]⟩),
  (71, ⟨.struct [(0, 3), (1, 3), (2, 27)], 3, 24, [(.int .i64), (.int .i64), (.int .u64)]⟩),
  (82, ⟨.struct [(0, 27), (1, 3), (2, 4)], 3, 24, [(.int .u64), (.int .i64), .bool]⟩),
  (83, ⟨.struct [(0, 27), (1, 3), (2, 4)], 3, 24, [(.int .u64), (.int .i64), .bool]⟩),
  (94, ⟨.int .u32, 1, 4, [(.int .u32)]⟩),
  (97, ⟨.slice 46, 1, 24, [(.slice none)]⟩),
  (102, ⟨.slice 5, 1, 24, [(.slice (some .u8))]⟩),
  (105, ⟨.int .u64, 1, 8, [(.int .u64)]⟩),
  (110, ⟨.slice 27, 1, 24, [(.slice (some .u64))]⟩),
  (116, ⟨.ptr 118, 1, 8, [.ptr]⟩),
  (117, ⟨.struct [(0, 116), (1, 102)], 2, 32, [.ptr, (.slice (some .u8))]⟩),
  (118, ⟨.struct [(0, 116), (1, 102)], 2, 32, [.ptr, (.slice (some .u8))]⟩),
  (127, ⟨.arr 32 5, 32, 32, [(.int .u8), (.int .u8), (.int .u8), (.int .u8), (.int .u8), (.int .u8), (.int .u8), (.int .u8), (.int .u8), (.int .u8), (.int .u8), (.int .u8), (.int .u8), (.int .u8), (.int .u8), (.int .u8), (.int .u8), (.int .u8), (.int .u8), (.int .u8), (.int .u8), (.int .u8), (.int .u8), (.int .u8), (.int .u8), (.int .u8), (.int .u8), (.int .u8), (.int .u8), (.int .u8), (.int .u8), (.int .u8)]⟩),
  (131, ⟨.arr 24 5, 24, 24, [(.int .u8), (.int .u8), (.int .u8), (.int .u8), (.int .u8), (.int .u8), (.int .u8), (.int .u8), (.int .u8), (.int .u8), (.int .u8), (.int .u8), (.int .u8), (.int .u8), (.int .u8), (.int .u8), (.int .u8), (.int .u8), (.int .u8), (.int .u8), (.int .u8), (.int .u8), (.int .u8), (.int .u8)]⟩),
  (139, ⟨.ptr 5, 1, 8, [.ptr]⟩),
  (143, ⟨.arr 20 27, 20, 160, [(.int .u64), (.int .u64), (.int .u64), (.int .u64), (.int .u64), (.int .u64), (.int .u64), (.int .u64), (.int .u64), (.int .u64), (.int .u64), (.int .u64), (.int .u64), (.int .u64), (.int .u64), (.int .u64), (.int .u64), (.int .u64), (.int .u64), (.int .u64)]⟩),
  (144, ⟨.arr 65 5, 65, 65, [(.int .u8), (.int .u8), (.int .u8), (.int .u8), (.int .u8), (.int .u8), (.int .u8), (.int .u8), (.int .u8), (.int .u8), (.int .u8), (.int .u8), (.int .u8), (.int .u8), (.int .u8), (.int .u8), (.int .u8), (.int .u8), (.int .u8), (.int .u8), (.int .u8), (.int .u8), (.int .u8), (.int .u8), (.int .u8), (.int .u8), (.int .u8), (.int .u8), (.int .u8), (.int .u8), (.int .u8), (.int .u8), (.int .u8), (.int .u8), (.int .u8), (.int .u8), (.int .u8), (.int .u8), (.int .u8), (.int .u8), (.int .u8), (.int .u8), (.int .u8), (.int .u8), (.int .u8), (.int .u8), (.int .u8), (.int .u8), (.int .u8), (.int .u8), (.int .u8), (.int .u8), (.int .u8), (.int .u8), (.int .u8), (.int .u8), (.int .u8), (.int .u8), (.int .u8), (.int .u8), (.int .u8), (.int .u8), (.int .u8), (.int .u8), (.int .u8)]⟩),
  (151, ⟨.arr 64 5, 64, 64, [(.int .u8), (.int .u8), (.int .u8), (.int .u8), (.int .u8), (.int .u8), (.int .u8), (.int .u8), (.int .u8), (.int .u8), (.int .u8), (.int .u8), (.int .u8), (.int .u8), (.int .u8), (.int .u8), (.int .u8), (.int .u8), (.int .u8), (.int .u8), (.int .u8), (.int .u8), (.int .u8), (.int .u8), (.int .u8), (.int .u8), (.int .u8), (.int .u8), (.int .u8), (.int .u8), (.int .u8), (.int .u8), (.int .u8), (.int .u8), (.int .u8), (.int .u8), (.int .u8), (.int .u8), (.int .u8), (.int .u8), (.int .u8), (.int .u8), (.int .u8), (.int .u8), (.int .u8), (.int .u8), (.int .u8), (.int .u8), (.int .u8), (.int .u8), (.int .u8), (.int .u8), (.int .u8), (.int .u8), (.int .u8), (.int .u8), (.int .u8), (.int .u8), (.int .u8), (.int .u8), (.int .u8), (.int .u8), (.int .u8), (.int .u8)]⟩),
  (152, ⟨.struct [(0, 17), (1, 17), (2, 17), (3, 9)], 4, 40, [.ptr, .ptr, .ptr, .str]⟩),
  (153, ⟨.struct [(0, 17), (1, 17), (2, 17), (3, 9)], 4, 40, [.ptr, .ptr, .ptr, .str]⟩),
  (154, ⟨.arr 0 16, 0, 0, []⟩),
  (155, ⟨.struct [(0, 154)], 0, 0, []⟩),
  (156, ⟨.struct [(0, 154)], 0, 0, []⟩),
  (157, ⟨.int .u8, 1, 1, [(.int .u8)]⟩),
  (158, ⟨.int .u8, 1, 1, [(.int .u8)]⟩),
  (160, ⟨.int .i32, 1, 4, [(.int .i32)]⟩),
  (161, ⟨.int .i32, 1, 4, [(.int .i32)]⟩)]
def TT : Nat → Option TI := lookT TL
def tx_c182c703 : ByteArray := ⟨#[0, 1, 2, 2, 3, 3, 3, 3, 4, 4, 4, 4, 4, 4, 4, 4, 5, 5, 5, 5, 5, 5, 5, 5, 5, 5, 5, 5, 5, 5, 5, 5, 6, 6, 6, 6, 6, 6, 6, 6, 6, 6, 6, 6, 6, 6, 6, 6, 6, 6, 6, 6, 6, 6, 6, 6, 6, 6, 6, 6, 6, 6, 6, 6, 7, 7, 7, 7, 7, 7, 7, 7, 7, 7, 7, 7, 7, 7, 7, 7, 7, 7, 7, 7, 7, 7, 7, 7, 7, 7, 7, 7, 7, 7, 7, 7, 7, 7, 7, 7, 7, 7, 7, 7, 7, 7, 7, 7, 7, 7, 7, 7, 7, 7, 7, 7, 7, 7, 7, 7, 7, 7, 7, 7, 7, 7, 7, 7, 8, 8, 8, 8, 8, 8, 8, 8, 8, 8, 8, 8, 8, 8, 8, 8, 8, 8, 8, 8, 8, 8, 8, 8, 8, 8, 8, 8, 8, 8, 8, 8, 8, 8, 8, 8, 8, 8, 8, 8, 8, 8, 8, 8, 8, 8, 8, 8, 8, 8, 8, 8, 8, 8, 8, 8, 8, 8, 8, 8, 8, 8, 8, 8, 8, 8, 8, 8, 8, 8, 8, 8, 8, 8, 8, 8, 8, 8, 8, 8, 8, 8, 8, 8, 8, 8, 8, 8, 8, 8, 8, 8, 8, 8, 8, 8, 8, 8, 8, 8, 8, 8, 8, 8, 8, 8, 8, 8, 8, 8, 8, 8, 8, 8, 8, 8, 8, 8, 8, 8, 8, 8, 8, 8, 8, 8, 8, 8]⟩
def tx_699cd95d : ByteArray := ⟨#[48, 49, 50, 51, 52, 53, 54, 55, 56, 57, 97, 98, 99, 100, 101, 102, 103, 104, 105, 106, 107, 108, 109, 110, 111, 112, 113, 114, 115, 116, 117, 118, 119, 120, 121, 122]⟩
def tx_f91eb1e0 : ByteArray := ⟨#[48, 48, 48, 49, 48, 50, 48, 51, 48, 52, 48, 53, 48, 54, 48, 55, 48, 56, 48, 57, 49, 48, 49, 49, 49, 50, 49, 51, 49, 52, 49, 53, 49, 54, 49, 55, 49, 56, 49, 57, 50, 48, 50, 49, 50, 50, 50, 51, 50, 52, 50, 53, 50, 54, 50, 55, 50, 56, 50, 57, 51, 48, 51, 49, 51, 50, 51, 51, 51, 52, 51, 53, 51, 54, 51, 55, 51, 56, 51, 57, 52, 48, 52, 49, 52, 50, 52, 51, 52, 52, 52, 53, 52, 54, 52, 55, 52, 56, 52, 57, 53, 48, 53, 49, 53, 50, 53, 51, 53, 52, 53, 53, 53, 54, 53, 55, 53, 56, 53, 57, 54, 48, 54, 49, 54, 50, 54, 51, 54, 52, 54, 53, 54, 54, 54, 55, 54, 56, 54, 57, 55, 48, 55, 49, 55, 50, 55, 51, 55, 52, 55, 53, 55, 54, 55, 55, 55, 56, 55, 57, 56, 48, 56, 49, 56, 50, 56, 51, 56, 52, 56, 53, 56, 54, 56, 55, 56, 56, 56, 57, 57, 48, 57, 49, 57, 50, 57, 51, 57, 52, 57, 53, 57, 54, 57, 55, 57, 56, 57, 57]⟩
def tx_03c0852d : ByteArray := ⟨#[48, 120, 49, 46, 48, 48, 48, 48, 48, 49, 112, 48]⟩
def bits_TrailingZeros32.f (x : Int) : Option Int := if 0 ≤ x ∧ x < 4294967296 then some (Lib.ctz 32 x.toNat : Int) else none
def bits_TrailingZeros.f (x : Int) : Option Int := if 0 ≤ x ∧ x < 18446744073709551616 then some (Lib.ctz 64 x.toNat : Int) else none
def strings_Repeat.f (s : ByteArray) (c : Int) : Option ByteArray := if 0 ≤ c ∧ s.size * c.toNat ≤ 140737488355328 ∧ c ≤ 9223372036854775807 then some ⟨(Lib.repeatL s.data.toList c.toNat).toArray⟩ else none
def istringslite_IndexByte.f (s : ByteArray) (c : Int) : Option Int := some (Lib.indexByte s.data.toList c.toNat.toUInt8)
def tabM : Nat → Nat → Option Value := fun b o => if b = 0 ∧ o < 32 then some (.int .u8 ((Lib.deBruijn32tab.getD o 0 : Nat) : Int)) else if b = 1 ∧ o < 20 then some (.int .u64 ((10 ^ o : Nat) : Int)) else if b = 3 ∧ o < 64 then some (.int .u8 ((Lib.deBruijn64tab.getD o 0 : Nat) : Int)) else none
def cutplaneref03_Is.f (x0 : Int) : Option (Bool) := if x0 = 1 then (some true) else (some (decide (x0 = 2)))
abbrev cutplaneref03_Is.S : Sig := { ps := [.lf (.i .u8)], rs := [.lf (.b)], wb := [], R := Bool, mkR := fun y0 => some y0, un := fun r => [.bool r] }
def cutplaneref03_Is.F (k : Nat) : Fun := { S := cutplaneref03_Is.S, f := cutplaneref03_Is.f }
def cutplaneref03_Is.C (k : Nat) : Cfg := { T := TT, G := lookG [], nt := 9, cuts := [], M0 := tabM }
def cutplaneref03_Is.H (k : Nat) : List (CutF cutplaneref03_Is.S.R) := []
def cutplaneref04_Is.f (x0 : Int) : Option (Bool) := if x0 ≥ 1 then (some (decide (x0 ≤ 5))) else (some false)
abbrev cutplaneref04_Is.S : Sig := { ps := [.lf (.i .u8)], rs := [.lf (.b)], wb := [], R := Bool, mkR := fun y0 => some y0, un := fun r => [.bool r] }
def cutplaneref04_Is.F (k : Nat) : Fun := { S := cutplaneref04_Is.S, f := cutplaneref04_Is.f }
def cutplaneref04_Is.C (k : Nat) : Cfg := { T := TT, G := lookG [], nt := 9, cuts := [], M0 := tabM }
def cutplaneref04_Is.H (k : Nat) : List (CutF cutplaneref04_Is.S.R) := []
def word_shapeOf.f (x0 : Int) : Option (Int × Int × Int × Bool) := if x0 = 1 then (some (23, 255, 2147483648, true)) else (if x0 = 2 then (some (52, 2047, 9223372036854775808, true)) else (some (0, 0, 0, false)))
abbrev word_shapeOf.S : Sig := { ps := [.lf (.i .u8)], rs := [.ag [.i .i64, .i .i64, .i .u64], .lf (.b)], wb := [], R := Int × Int × Int × Bool, mkR := fun y0 y1 y2 y3 => some (y0, y1, y2, y3), un := fun r => [.int .i64 r.1, .int .i64 r.2.1, .int .u64 r.2.2.1, .bool r.2.2.2] }
def word_shapeOf.F (k : Nat) : Fun := { S := word_shapeOf.S, f := word_shapeOf.f }
def word_shapeOf.C (k : Nat) : Cfg := { T := TT, G := lookG [], nt := 12, cuts := [], M0 := tabM }
def word_shapeOf.H (k : Nat) : List (CutF word_shapeOf.S.R) := []
def word_open.l0 : Nat → Int → Int → Int → Int → Int → Int → List Int → Int → Int → Option (Int × Int × Int × Int)
  | 0, _, _, _, _, _, _, _, _, _ => none
  | k + 1, x4_0, x4_1, x4_2, x6_0, x6_1, x6_2, x18, x19, x20 => if x20 < x19 then (if 0 ≤ x20 then (if x20 < (x18.length : Int) then (if (rd x18 x20) > (Go.bits .or .u64 x6_2 (IntKind.u64.wrap (x6_2 - 1))) then (some (x6_0, x6_1, x6_2, 6)) else (word_open.l0 k x4_0 x4_1 x4_2 x6_0 x6_1 x6_2 x18 x19 (wrap64 (x20 + 1)))) else (none)) else (none)) else (some (x6_0, x6_1, x6_2, 0))
def word_open.f (k : Nat) (x0 : Int) (x1 : List Int) : Option (Int × Int × Int × Int) := (word_shapeOf.f x0).bind fun t5 => (if (!t5.2.2.2) = true then (some (t5.1, t5.2.1, t5.2.2.1, 4)) else (word_open.l0 k 0 0 0 t5.1 t5.2.1 t5.2.2.1 x1 (x1.length : Int) 0))
abbrev word_open.S : Sig := { ps := [.lf (.i .u8), .lf (.is .u64)], rs := [.ag [.i .i64, .i .i64, .i .u64], .lf (.i .i64)], wb := [], R := Int × Int × Int × Int, mkR := fun y0 y1 y2 y3 => some (y0, y1, y2, y3), un := fun r => [.int .i64 r.1, .int .i64 r.2.1, .int .u64 r.2.2.1, .int .i64 r.2.2.2] }
def word_open.F (k : Nat) : Fun := { S := word_open.S, f := word_open.f k }
abbrev word_open.vl0 : List (Nat × Kx) := [(4, .bx [.i .i64, .i .i64, .i .u64]), (6, .bx [.i .i64, .i .i64, .i .u64]), (18, .lf (.is .u64)), (19, .lf (.i .i64)), (20, .lf (.i .i64))]
def word_open.C (k : Nat) : Cfg := { T := TT, G := lookG [(65, [word_shapeOf.F k])], nt := 35, cuts := [⟨codeOf [true, true, true, false, true, false] 1, [true, true, true, false, true, false], word_open.vl0⟩], M0 := tabM }
def word_open.H (k : Nat) : List (CutF word_open.S.R) := [⟨word_open.vl0, word_open.l0 k⟩]
def word_shape_inf.f (x0_0 : Int) (x0_1 : Int) (x0_2 : Int) : Option (Int) := if 0 ≤ x0_0 then (some (shl .u64 (IntKind.u64.wrap x0_1) x0_0)) else (none)
abbrev word_shape_inf.S : Sig := { ps := [.ag [.i .i64, .i .i64, .i .u64]], rs := [.lf (.i .u64)], wb := [], R := Int, mkR := fun y0 => some y0, un := fun r => [.int .u64 r] }
def word_shape_inf.F (k : Nat) : Fun := { S := word_shape_inf.S, f := word_shape_inf.f }
def word_shape_inf.C (k : Nat) : Cfg := { T := TT, G := lookG [], nt := 9, cuts := [], M0 := tabM }
def word_shape_inf.H (k : Nat) : List (CutF word_shape_inf.S.R) := []
def word_shape_class.f (x0_0 : Int) (x0_1 : Int) (x0_2 : Int) (x1 : Int) : Option (Int) := if (Go.bits .andNot .u64 x1 x0_2) = 0 then (some 1) else (if 0 ≤ x0_0 then (if (Go.bits .andNot .u64 x1 x0_2) < (shl .u64 1 x0_0) then (some 2) else ((word_shape_inf.f x0_0 x0_1 x0_2).bind fun t7 => (if (Go.bits .andNot .u64 x1 x0_2) < t7 then (some 3) else ((word_shape_inf.f x0_0 x0_1 x0_2).bind fun t8 => (if (Go.bits .andNot .u64 x1 x0_2) = t8 then (some 4) else (some 5)))))) else (none))
abbrev word_shape_class.S : Sig := { ps := [.ag [.i .i64, .i .i64, .i .u64], .lf (.i .u64)], rs := [.lf (.i .u8)], wb := [], R := Int, mkR := fun y0 => some y0, un := fun r => [.int .u8 r] }
def word_shape_class.F (k : Nat) : Fun := { S := word_shape_class.S, f := word_shape_class.f }
def word_shape_class.C (k : Nat) : Cfg := { T := TT, G := lookG [(31, [word_shape_inf.F k])], nt := 29, cuts := [], M0 := tabM }
def word_shape_class.H (k : Nat) : List (CutF word_shape_class.S.R) := []
def word_Class.f (k : Nat) (x0 : Int) (x1 : Int) : Option (Int × Int) := (word_open.f k x0 ([x1] : List Int)).bind fun t6 => (if ¬ (t6.2.2.2 = 0) then (some (0, t6.2.2.2)) else ((word_shape_class.f t6.1 t6.2.1 t6.2.2.1 x1).bind fun t9 => (some (t9, 0))))
abbrev word_Class.S : Sig := { ps := [.lf (.i .u8), .lf (.i .u64)], rs := [.lf (.i .u8), .lf (.i .i64)], wb := [], R := Int × Int, mkR := fun y0 y1 => some (y0, y1), un := fun r => [.int .u8 r.1, .int .i64 r.2] }
def word_Class.F (k : Nat) : Fun := { S := word_Class.S, f := word_Class.f k }
def word_Class.C (k : Nat) : Cfg := { T := TT, G := lookG [(42, [word_open.F k]), (43, [word_shape_class.F k])], nt := 21, cuts := [], M0 := tabM }
def word_Class.H (k : Nat) : List (CutF word_Class.S.R) := []
def word_shape_split.f (x0_0 : Int) (x0_1 : Int) (x0_2 : Int) (x1 : Int) : Option (Bool × Int × Int) := if 0 ≤ x0_0 then (if 0 ≤ x0_0 then (some (decide (¬ (Go.bits .and .u64 x1 x0_2 = 0)), wrap64 (shr .u64 (Go.bits .andNot .u64 x1 x0_2) x0_0), Go.bits .and .u64 (Go.bits .andNot .u64 x1 x0_2) (IntKind.u64.wrap ((shl .u64 1 x0_0) - 1)))) else (none)) else (none)
abbrev word_shape_split.S : Sig := { ps := [.ag [.i .i64, .i .i64, .i .u64], .lf (.i .u64)], rs := [.ag [.b, .i .i64, .i .u64]], wb := [], R := Bool × Int × Int, mkR := fun y0 y1 y2 => some (y0, y1, y2), un := fun r => [.bool r.1, .int .i64 r.2.1, .int .u64 r.2.2] }
def word_shape_split.F (k : Nat) : Fun := { S := word_shape_split.S, f := word_shape_split.f }
def word_shape_split.C (k : Nat) : Cfg := { T := TT, G := lookG [], nt := 27, cuts := [], M0 := tabM }
def word_shape_split.H (k : Nat) : List (CutF word_shape_split.S.R) := []
def word_Split.f (k : Nat) (x0 : Int) (x1 : Int) : Option (Bool × Int × Int × Int) := (word_open.f k x0 ([x1] : List Int)).bind fun t11 => (if ¬ (t11.2.2.2 = 0) then (some (false, 0, 0, t11.2.2.2)) else ((word_shape_split.f t11.1 t11.2.1 t11.2.2.1 x1).bind fun t12 => (some (t12.1, t12.2.1, t12.2.2, 0))))
abbrev word_Split.S : Sig := { ps := [.lf (.i .u8), .lf (.i .u64)], rs := [.ag [.b, .i .i64, .i .u64], .lf (.i .i64)], wb := [], R := Bool × Int × Int × Int, mkR := fun y0 y1 y2 y3 => some (y0, y1, y2, y3), un := fun r => [.bool r.1, .int .i64 r.2.1, .int .u64 r.2.2.1, .int .i64 r.2.2.2] }
def word_Split.F (k : Nat) : Fun := { S := word_Split.S, f := word_Split.f k }
def word_Split.C (k : Nat) : Cfg := { T := TT, G := lookG [(42, [word_open.F k]), (44, [word_shape_split.F k])], nt := 22, cuts := [], M0 := tabM }
def word_Split.H (k : Nat) : List (CutF word_Split.S.R) := []
def word_finite.f (k : Nat) (x0 : Int) (x1 : Int) : Option (Int × Int × Int × Int) := (word_open.f k x0 ([x1] : List Int)).bind fun t22 => (if t22.2.2.2 = 0 then ((word_shape_class.f t22.1 t22.2.1 t22.2.2.1 x1).bind fun t23 => (if t23 ≥ 4 then (some (t22.1, t22.2.1, t22.2.2.1, 7)) else (some (t22.1, t22.2.1, t22.2.2.1, t22.2.2.2)))) else (some (t22.1, t22.2.1, t22.2.2.1, t22.2.2.2)))
abbrev word_finite.S : Sig := { ps := [.lf (.i .u8), .lf (.i .u64)], rs := [.ag [.i .i64, .i .i64, .i .u64], .lf (.i .i64)], wb := [], R := Int × Int × Int × Int, mkR := fun y0 y1 y2 y3 => some (y0, y1, y2, y3), un := fun r => [.int .i64 r.1, .int .i64 r.2.1, .int .u64 r.2.2.1, .int .i64 r.2.2.2] }
def word_finite.F (k : Nat) : Fun := { S := word_finite.S, f := word_finite.f k }
def word_finite.C (k : Nat) : Cfg := { T := TT, G := lookG [(42, [word_open.F k]), (43, [word_shape_class.F k])], nt := 25, cuts := [], M0 := tabM }
def word_finite.H (k : Nat) : List (CutF word_finite.S.R) := []
def nat_trim.l0 : Nat → List Int → Option (List Int)
  | 0, _ => none
  | k + 1, x0 => if (x0.length : Int) > 0 then (if 0 ≤ wrap64 ((x0.length : Int) - 1) then (if wrap64 ((x0.length : Int) - 1) < (x0.length : Int) then (if (rd x0 (wrap64 ((x0.length : Int) - 1))) = 0 then (if 0 ≤ (wrap64 ((x0.length : Int) - 1)) then (if (wrap64 ((x0.length : Int) - 1)) ≤ (x0.length : Int) then (nat_trim.l0 k (x0.take (wrap64 ((x0.length : Int) - 1) : Int).toNat)) else (none)) else (none)) else (some x0)) else (none)) else (none)) else (some x0)
def nat_trim.f (k : Nat) (x0 : List Int) : Option (List Int) := nat_trim.l0 k x0
abbrev nat_trim.S : Sig := { ps := [.ow .u32], rs := [.ow .u32], wb := [], R := List Int, mkR := fun y0 => some y0, un := fun r => [.ints .u32 r] }
def nat_trim.F (k : Nat) : Fun := { S := nat_trim.S, f := nat_trim.f k }
abbrev nat_trim.vl0 : List (Nat × Kx) := [(0, .ow .u32)]
def nat_trim.C (k : Nat) : Cfg := { T := TT, G := lookG [], nt := 21, cuts := [⟨codeOf [true, false, false] 1, [true, false, false], nat_trim.vl0⟩], M0 := tabM }
def nat_trim.H (k : Nat) : List (CutF nat_trim.S.R) := [⟨nat_trim.vl0, nat_trim.l0 k⟩]
abbrev nat_trim.S1 : Sig := { ps := [.lf (.is .u32)], rs := [.lf (.is .u32)], wb := [], R := List Int, mkR := fun y0 => some y0, un := fun r => [.ints .u32 r] }
def nat_trim.F1 (k : Nat) : Fun := { S := nat_trim.S1, f := nat_trim.f k }
abbrev nat_trim.vl01 : List (Nat × Kx) := [(0, .lf (.is .u32))]
def nat_trim.C1 (k : Nat) : Cfg := { T := TT, G := lookG [], nt := 21, cuts := [⟨codeOf [true, false, false] 1, [true, false, false], nat_trim.vl01⟩], M0 := tabM }
def nat_trim.H1 (k : Nat) : List (CutF nat_trim.S1.R) := [⟨nat_trim.vl01, nat_trim.l0 k⟩]
def nat_Of.f (k : Nat) (x0 : Int) : Option (List Int) := (nat_trim.f k ([x0 % 4294967296, (x0 / 4294967296) % 4294967296] : List Int)).bind fun t28 => (some t28)
abbrev nat_Of.S : Sig := { ps := [.lf (.i .u64)], rs := [.lf (.is .u32)], wb := [], R := List Int, mkR := fun y0 => some y0, un := fun r => [.ints .u32 r] }
def nat_Of.F (k : Nat) : Fun := { S := nat_Of.S, f := nat_Of.f k }
def nat_Of.C (k : Nat) : Cfg := { T := TT, G := lookG [(66, [nat_trim.F k, nat_trim.F1 k])], nt := 10, cuts := [], M0 := tabM }
def nat_Of.H (k : Nat) : List (CutF nat_Of.S.R) := []
def word_shape_low.f (x0_0 : Int) (x0_1 : Int) (x0_2 : Int) : Option (Int) := some (wrap64 ((wrap64 (1 - (wrap64 (Int.tdiv x0_1 2)))) - x0_0))
abbrev word_shape_low.S : Sig := { ps := [.ag [.i .i64, .i .i64, .i .u64]], rs := [.lf (.i .i64)], wb := [], R := Int, mkR := fun y0 => some y0, un := fun r => [.int .i64 r] }
def word_shape_low.F (k : Nat) : Fun := { S := word_shape_low.S, f := word_shape_low.f }
def word_shape_low.C (k : Nat) : Cfg := { T := TT, G := lookG [], nt := 10, cuts := [], M0 := tabM }
def word_shape_low.H (k : Nat) : List (CutF word_shape_low.S.R) := []
def nat_May.f (x0 : List Int) : Option (Bool) := if (x0.length : Int) ≤ 4096 then (if (x0.length : Int) = 0 then (some true) else (if 0 ≤ wrap64 ((x0.length : Int) - 1) then (if wrap64 ((x0.length : Int) - 1) < (x0.length : Int) then (some (decide (¬ (rd x0 (wrap64 ((x0.length : Int) - 1)) = 0)))) else (none)) else (none))) else (some false)
abbrev nat_May.S : Sig := { ps := [.lf (.is .u32)], rs := [.lf (.b)], wb := [], R := Bool, mkR := fun y0 => some y0, un := fun r => [.bool r] }
def nat_May.F (k : Nat) : Fun := { S := nat_May.S, f := nat_May.f }
def nat_May.C (k : Nat) : Cfg := { T := TT, G := lookG [], nt := 20, cuts := [], M0 := tabM }
def nat_May.H (k : Nat) : List (CutF nat_May.S.R) := []
abbrev bits_TrailingZeros32.S : Sig := { ps := [.lf (.i .u32)], rs := [.lf (.i .i64)], wb := [], R := Int, mkR := fun y0 => some y0, un := fun r => [.int .i64 r] }
def bits_TrailingZeros32.F (k : Nat) : Fun := { S := bits_TrailingZeros32.S, f := bits_TrailingZeros32.f }
def nat_Low.l0 : Nat → List Int → Int → Int → Option (Int)
  | 0, _, _, _ => none
  | k + 1, x8, x9, x10 => if x10 < x9 then (if 0 ≤ x10 then (if x10 < (x8.length : Int) then (if ¬ (rd x8 x10 = 0) then ((bits_TrailingZeros32.f (rd x8 x10)).bind fun t34 => (some (wrap64 ((wrap64 (32 * x10)) + t34)))) else (nat_Low.l0 k x8 x9 (wrap64 (x10 + 1)))) else (none)) else (none)) else (some 0)
def nat_Low.f (k : Nat) (x0 : List Int) : Option (Int) := (nat_May.f x0).bind fun t33 => (if (!t33) = true then (some 0) else (nat_Low.l0 k x0 (x0.length : Int) 0))
abbrev nat_Low.S : Sig := { ps := [.lf (.is .u32)], rs := [.lf (.i .i64)], wb := [], R := Int, mkR := fun y0 => some y0, un := fun r => [.int .i64 r] }
def nat_Low.F (k : Nat) : Fun := { S := nat_Low.S, f := nat_Low.f k }
abbrev nat_Low.vl0 : List (Nat × Kx) := [(8, .lf (.is .u32)), (9, .lf (.i .i64)), (10, .lf (.i .i64))]
def nat_Low.C (k : Nat) : Cfg := { T := TT, G := lookG [(36, [nat_May.F k]), (59, [bits_TrailingZeros32.F k])], nt := 23, cuts := [⟨codeOf [true, true, false, true, false] 1, [true, true, false, true, false], nat_Low.vl0⟩], M0 := tabM }
def nat_Low.H (k : Nat) : List (CutF nat_Low.S.R) := [⟨nat_Low.vl0, nat_Low.l0 k⟩]
def nat_down.l0 : Nat → List Int → Int → List Int → List Int → Int → Int → Option (List Int)
  | 0, _, _, _, _, _, _ => none
  | k + 1, x0, x5, x6, x23, x24, x25 => if x25 < x24 then (if 0 ≤ x25 then (if x25 < (x23.length : Int) then (if 0 ≤ x5 then (if 0 ≤ x25 then (if x25 < (x6.length : Int) then (if (wrap64 (x25 + 1)) < (x0.length : Int) then (if 0 ≤ x25 then (if x25 < ((x6.set (x25 : Int).toNat (shr .u32 (rd x23 x25) x5)).length : Int) then (if 0 ≤ wrap64 (x25 + 1) then (if wrap64 (x25 + 1) < (x0.length : Int) then (if 0 ≤ (wrap64 (32 - x5)) then (if 0 ≤ x25 then (if x25 < ((x6.set (x25 : Int).toNat (shr .u32 (rd x23 x25) x5)).length : Int) then (nat_down.l0 k x0 x5 ((x6.set (x25 : Int).toNat (shr .u32 (rd x23 x25) x5)).set (x25 : Int).toNat (Go.bits .or .u32 (rd (x6.set (x25 : Int).toNat (shr .u32 (rd x23 x25) x5)) x25) ((shl .u64 (IntKind.u64.wrap (rd x0 (wrap64 (x25 + 1)))) (wrap64 (32 - x5))) % 4294967296))) x23 x24 (wrap64 (x25 + 1))) else (none)) else (none)) else (none)) else (none)) else (none)) else (none)) else (none)) else (nat_down.l0 k x0 x5 (x6.set (x25 : Int).toNat (shr .u32 (rd x23 x25) x5)) x23 x24 (wrap64 (x25 + 1)))) else (none)) else (none)) else (none)) else (none)) else (none)) else ((nat_trim.f k x6).bind fun t42 => (some t42))
def nat_down.f (k : Nat) (x0 : List Int) (x1 : Int) : Option (List Int) := if (wrap64 (Int.tdiv x1 32)) ≥ (x0.length : Int) then (some ([] : List Int)) else (if 0 ≤ (wrap64 (Int.tdiv x1 32)) then (if (wrap64 (Int.tdiv x1 32)) ≤ (x0.length : Int) then (if 0 ≤ ((x0.drop (wrap64 (Int.tdiv x1 32) : Int).toNat).length : Int) then (if (((x0.drop (wrap64 (Int.tdiv x1 32) : Int).toNat).length : Int) : Int).toNat ≤ 70368744177664 then (nat_down.l0 k (x0.drop (wrap64 (Int.tdiv x1 32) : Int).toNat) (Int.tmod x1 32) (List.replicate (((x0.drop (wrap64 (Int.tdiv x1 32) : Int).toNat).length : Int) : Int).toNat (0 : Int)) (x0.drop (wrap64 (Int.tdiv x1 32) : Int).toNat) ((x0.drop (wrap64 (Int.tdiv x1 32) : Int).toNat).length : Int) 0) else (none)) else (none)) else (none)) else (none))
abbrev nat_down.S : Sig := { ps := [.lf (.is .u32), .lf (.i .i64)], rs := [.lf (.is .u32)], wb := [], R := List Int, mkR := fun y0 => some y0, un := fun r => [.ints .u32 r] }
def nat_down.F (k : Nat) : Fun := { S := nat_down.S, f := nat_down.f k }
abbrev nat_down.vl0 : List (Nat × Kx) := [(0, .lf (.is .u32)), (5, .lf (.i .i64)), (6, .ow .u32), (23, .lf (.is .u32)), (24, .lf (.i .i64)), (25, .lf (.i .i64))]
def nat_down.C (k : Nat) : Cfg := { T := TT, G := lookG [(66, [nat_trim.F k, nat_trim.F1 k])], nt := 60, cuts := [⟨codeOf [true, true, true, true, true, false, true, false] 1, [true, true, true, true, true, false, true, false], nat_down.vl0⟩], M0 := tabM }
def nat_down.H (k : Nat) : List (CutF nat_down.S.R) := [⟨nat_down.vl0, nat_down.l0 k⟩]
mutual
def bits_Len32.j0 : Nat → Int → Int → Option (Int)
  | 0, _, _ => none
  | k + 1, x0, x2 => if x0 ≥ 256 then (bits_Len32.j1 k (x0 / 256) (wrap64 (x2 + 8))) else (bits_Len32.j1 k x0 x2)
def bits_Len32.j1 : Nat → Int → Int → Option (Int)
  | 0, _, _ => none
  | k + 1, x0, x2 => if 0 ≤ x0 % 256 then (if x0 % 256 < (tx_c182c703.size : Int) then (some (wrap64 (x2 + (wrap64 (bt tx_c182c703 (x0 % 256)))))) else (none)) else (none)
end
def bits_Len32.f (k : Nat) (x0 : Int) : Option (Int) := if x0 ≥ 65536 then (bits_Len32.j0 k (x0 / 65536) 16) else (bits_Len32.j0 k x0 0)
abbrev bits_Len32.S : Sig := { ps := [.lf (.i .u32)], rs := [.lf (.i .i64)], wb := [], R := Int, mkR := fun y0 => some y0, un := fun r => [.int .i64 r] }
def bits_Len32.F (k : Nat) : Fun := { S := bits_Len32.S, f := bits_Len32.f k }
abbrev bits_Len32.vj0 : List (Nat × Kx) := [(0, .lf (.i .u32)), (2, .lf (.i .i64))]
abbrev bits_Len32.vj1 : List (Nat × Kx) := [(0, .lf (.i .u32)), (2, .lf (.i .i64))]
def bits_Len32.C (k : Nat) : Cfg := { T := TT, G := lookG [], nt := 19, cuts := [⟨codeOf [true, true] 1, [true, true], bits_Len32.vj0⟩, ⟨codeOf [true, true, true] 1, [true, true, true], bits_Len32.vj1⟩], M0 := tabM }
def bits_Len32.H (k : Nat) : List (CutF bits_Len32.S.R) := [⟨bits_Len32.vj0, bits_Len32.j0 k⟩, ⟨bits_Len32.vj1, bits_Len32.j1 k⟩]
def nat_Len.f (k : Nat) (x0 : List Int) : Option (Int) := (nat_May.f x0).bind fun t52 => (if (!t52) = true then (some 0) else (if (x0.length : Int) = 0 then (some 0) else (if 0 ≤ wrap64 ((x0.length : Int) - 1) then (if wrap64 ((x0.length : Int) - 1) < (x0.length : Int) then ((bits_Len32.f k (rd x0 (wrap64 ((x0.length : Int) - 1)))).bind fun t53 => (some (wrap64 ((wrap64 (32 * (wrap64 ((x0.length : Int) - 1)))) + t53)))) else (none)) else (none))))
abbrev nat_Len.S : Sig := { ps := [.lf (.is .u32)], rs := [.lf (.i .i64)], wb := [], R := Int, mkR := fun y0 => some y0, un := fun r => [.int .i64 r] }
def nat_Len.F (k : Nat) : Fun := { S := nat_Len.S, f := nat_Len.f k }
def nat_Len.C (k : Nat) : Cfg := { T := TT, G := lookG [(36, [nat_May.F k]), (48, [bits_Len32.F k])], nt := 23, cuts := [], M0 := tabM }
def nat_Len.H (k : Nat) : List (CutF nat_Len.S.R) := []
def nat_up.l0 : Nat → List Int → Int → Int → List Int → Int → Int → Option (List Int)
  | 0, _, _, _, _, _, _ => none
  | k + 1, x5, x6, x7, x24, x25, x26 => if x26 < x25 then (if 0 ≤ x26 then (if x26 < (x24.length : Int) then (if 0 ≤ x6 then (if x5.length + ([Go.bits .or .u32 (shl .u32 (rd x24 x26) x6) x7] : List Int).length < 35184372088832 then (if 0 ≤ (wrap64 (32 - x6)) then (nat_up.l0 k (x5 ++ ([Go.bits .or .u32 (shl .u32 (rd x24 x26) x6) x7] : List Int)) x6 ((shr .u64 (IntKind.u64.wrap (rd x24 x26)) (wrap64 (32 - x6))) % 4294967296) x24 x25 (wrap64 (x26 + 1))) else (none)) else (none)) else (none)) else (none)) else (none)) else (if x5.length + ([x7] : List Int).length < 35184372088832 then ((nat_trim.f k (x5 ++ ([x7] : List Int))).bind fun t55 => (some t55)) else (none))
def nat_up.f (k : Nat) (x0 : List Int) (x1 : Int) : Option (List Int) := if (x0.length : Int) = 0 then (some ([] : List Int)) else (if 0 ≤ (wrap64 (Int.tdiv x1 32)) then (if (wrap64 (Int.tdiv x1 32)) ≤ (wrap64 ((wrap64 ((wrap64 (Int.tdiv x1 32)) + (x0.length : Int))) + 1)) then (if (wrap64 ((wrap64 ((wrap64 (Int.tdiv x1 32)) + (x0.length : Int))) + 1) : Int).toNat ≤ 70368744177664 then (nat_up.l0 k (List.replicate (wrap64 (Int.tdiv x1 32) : Int).toNat (0 : Int)) (Int.tmod x1 32) 0 x0 (x0.length : Int) 0) else (none)) else (none)) else (none))
abbrev nat_up.S : Sig := { ps := [.lf (.is .u32), .lf (.i .i64)], rs := [.ow .u32], wb := [], R := List Int, mkR := fun y0 => some y0, un := fun r => [.ints .u32 r] }
def nat_up.F (k : Nat) : Fun := { S := nat_up.S, f := nat_up.f k }
abbrev nat_up.vl0 : List (Nat × Kx) := [(5, .ow .u32), (6, .lf (.i .i64)), (7, .lf (.i .u32)), (24, .lf (.is .u32)), (25, .lf (.i .i64)), (26, .lf (.i .i64))]
def nat_up.C (k : Nat) : Cfg := { T := TT, G := lookG [(66, [nat_trim.F k, nat_trim.F1 k])], nt := 50, cuts := [⟨codeOf [true, true, true, true, false, true, false] 1, [true, true, true, true, false, true, false], nat_up.vl0⟩], M0 := tabM }
def nat_up.H (k : Nat) : List (CutF nat_up.S.R) := [⟨nat_up.vl0, nat_up.l0 k⟩]
def nat_Shift.f (k : Nat) (x0 : List Int) (x1 : Int) : Option (List Int × Bool × Int) := (nat_May.f x0).bind fun t40 => (if (!t40) = true then (some (([] : List Int), false, 2)) else (if (x0.length : Int) = 0 then (some (([] : List Int), false, 0)) else (if x1 < (-131072) then (some (([] : List Int), true, 0)) else (if x1 < 0 then ((nat_down.f k x0 (wrap64 (-x1))).bind fun t43 => ((nat_Low.f k x0).bind fun t44 => (some (t43, decide (t44 < (wrap64 (-x1))), 0)))) else ((nat_Len.f k x0).bind fun t54 => (if x1 > (wrap64 (131072 - t54)) then (some (([] : List Int), false, 3)) else ((nat_up.f k x0 x1).bind fun t56 => (some (t56, false, 0)))))))))
abbrev nat_Shift.S : Sig := { ps := [.lf (.is .u32), .lf (.i .i64)], rs := [.lf (.is .u32), .lf (.b), .lf (.i .i64)], wb := [], R := List Int × Bool × Int, mkR := fun y0 y1 y2 => some (y0, y1, y2), un := fun r => [.ints .u32 r.1, .bool r.2.1, .int .i64 r.2.2] }
def nat_Shift.F (k : Nat) : Fun := { S := nat_Shift.S, f := nat_Shift.f k }
def nat_Shift.C (k : Nat) : Cfg := { T := TT, G := lookG [(21, [nat_Len.F k]), (36, [nat_May.F k]), (37, [nat_Low.F k]), (60, [nat_down.F k]), (61, [nat_up.F k])], nt := 39, cuts := [], M0 := tabM }
def nat_Shift.H (k : Nat) : List (CutF nat_Shift.S.R) := []
def dyad_Make.f (k : Nat) (x0 : Bool) (x1 : List Int) (x2 : Int) : Option (Bool × List Int × Int × Int) := (nat_May.f x1).bind fun t63 => (if (!t63) = true then (some (false, ([] : List Int), 0, 2)) else (if (x1.length : Int) = 0 then (some (false, ([] : List Int), 0, 0)) else ((nat_Low.f k x1).bind fun t64 => (if x2 > (wrap64 (16777216 - t64)) then (some (false, ([] : List Int), 0, 20)) else (if x2 < (wrap64 ((-16777216) - t64)) then (some (false, ([] : List Int), 0, 20)) else ((nat_Shift.f k x1 (wrap64 (-t64))).bind fun t65 => (some (x0, t65.1, wrap64 (x2 + t64), 0))))))))
abbrev dyad_Make.S : Sig := { ps := [.lf (.b), .lf (.is .u32), .lf (.i .i64)], rs := [.ag [.b, .is .u32, .i .i64], .lf (.i .i64)], wb := [], R := Bool × List Int × Int × Int, mkR := fun y0 y1 y2 y3 => some (y0, y1, y2, y3), un := fun r => [.bool r.1, .ints .u32 r.2.1, .int .i64 r.2.2.1, .int .i64 r.2.2.2] }
def dyad_Make.F (k : Nat) : Fun := { S := dyad_Make.S, f := dyad_Make.f k }
def dyad_Make.C (k : Nat) : Cfg := { T := TT, G := lookG [(36, [nat_May.F k]), (37, [nat_Low.F k]), (38, [nat_Shift.F k])], nt := 47, cuts := [], M0 := tabM }
def dyad_Make.H (k : Nat) : List (CutF dyad_Make.S.R) := []
def word_Value.j1 : Nat → Bool → List Int → Int → Int → Int → Int → Bool → Int → Int → Option (Bool × List Int × Int × Int)
  | 0, _, _, _, _, _, _, _, _, _ => none
  | k + 1, x4_0, x4_1, x4_2, x6_0, x6_1, x6_2, x8_0, x8_1, x8_2 => (nat_Of.f k x8_2).bind fun t29 => ((word_shape_low.f x6_0 x6_1 x6_2).bind fun t30 => ((dyad_Make.f k x8_0 t29 (wrap64 ((wrap64 ((mx x8_1 1) - 1)) + t30))).bind fun t66 => (some (t66.1, t66.2.1, t66.2.2.1, t66.2.2.2))))
def word_Value.f (k : Nat) (x0 : Int) (x1 : Int) : Option (Bool × List Int × Int × Int) := (word_finite.f k x0 x1).bind fun t26 => (if ¬ (t26.2.2.2 = 0) then (some (false, ([] : List Int), 0, t26.2.2.2)) else ((word_shape_split.f t26.1 t26.2.1 t26.2.2.1 x1).bind fun t27 => (if t27.2.1 > 0 then (if 0 ≤ t26.1 then (word_Value.j1 k false ([] : List Int) 0 t26.1 t26.2.1 t26.2.2.1 t27.1 t27.2.1 (Go.bits .or .u64 t27.2.2 (shl .u64 1 t26.1))) else (none)) else (word_Value.j1 k false ([] : List Int) 0 t26.1 t26.2.1 t26.2.2.1 t27.1 t27.2.1 t27.2.2))))
abbrev word_Value.S : Sig := { ps := [.lf (.i .u8), .lf (.i .u64)], rs := [.ag [.b, .is .u32, .i .i64], .lf (.i .i64)], wb := [], R := Bool × List Int × Int × Int, mkR := fun y0 y1 y2 y3 => some (y0, y1, y2, y3), un := fun r => [.bool r.1, .ints .u32 r.2.1, .int .i64 r.2.2.1, .int .i64 r.2.2.2] }
def word_Value.F (k : Nat) : Fun := { S := word_Value.S, f := word_Value.f k }
abbrev word_Value.vj1 : List (Nat × Kx) := [(4, .bx [.b, .is .u32, .i .i64]), (6, .bx [.i .i64, .i .i64, .i .u64]), (8, .bx [.b, .i .i64, .i .u64])]
def word_Value.C (k : Nat) : Cfg := { T := TT, G := lookG [(16, [dyad_Make.F k]), (44, [word_shape_split.F k]), (45, [word_finite.F k]), (46, [nat_Of.F k]), (47, [word_shape_low.F k])], nt := 47, cuts := [⟨codeOf [true, true, true, true, true] 1, [true, true, true, true, true], word_Value.vj1⟩], M0 := tabM }
def word_Value.H (k : Nat) : List (CutF word_Value.S.R) := [⟨word_Value.vj1, word_Value.j1 k⟩]
def nat_Num.l0 : Nat → Int → List Int → Int → Int → Option (Int × Bool)
  | 0, _, _, _, _ => none
  | k + 1, x4, x15, x16, x17 => if x17 < x16 then (if 0 ≤ x17 then (if x17 < (x15.length : Int) then (if 0 ≤ (wrap64 (32 * x17)) then (nat_Num.l0 k (Go.bits .or .u64 x4 (shl .u64 (IntKind.u64.wrap (rd x15 x17)) (wrap64 (32 * x17)))) x15 x16 (wrap64 (x17 + 1))) else (none)) else (none)) else (none)) else (some (x4, true))
def nat_Num.f (k : Nat) (x0 : List Int) : Option (Int × Bool) := (nat_May.f x0).bind fun t77 => (if (!t77) = true then (some (0, false)) else (if (x0.length : Int) > 2 then (some (0, false)) else (nat_Num.l0 k 0 x0 (x0.length : Int) 0)))
abbrev nat_Num.S : Sig := { ps := [.lf (.is .u32)], rs := [.lf (.i .u64), .lf (.b)], wb := [], R := Int × Bool, mkR := fun y0 y1 => some (y0, y1), un := fun r => [.int .u64 r.1, .bool r.2] }
def nat_Num.F (k : Nat) : Fun := { S := nat_Num.S, f := nat_Num.f k }
abbrev nat_Num.vl0 : List (Nat × Kx) := [(4, .lf (.i .u64)), (15, .lf (.is .u32)), (16, .lf (.i .i64)), (17, .lf (.i .i64))]
def nat_Num.C (k : Nat) : Cfg := { T := TT, G := lookG [(36, [nat_May.F k])], nt := 31, cuts := [⟨codeOf [true, true, true, false, true, false] 1, [true, true, true, false, true, false], nat_Num.vl0⟩], M0 := tabM }
def nat_Num.H (k : Nat) : List (CutF nat_Num.S.R) := [⟨nat_Num.vl0, nat_Num.l0 k⟩]
def istrconv_small.f (x0 : Int) : Option (ByteArray) := if x0 < 10 then (if 0 ≤ x0 then (if x0 ≤ (wrap64 (x0 + 1)) then (if (wrap64 (x0 + 1)) ≤ (tx_699cd95d.size : Int) then (some (tx_699cd95d.extract (x0 : Int).toNat (wrap64 (x0 + 1) : Int).toNat)) else (none)) else (none)) else (none)) else (if 0 ≤ (wrap64 (x0 * 2)) then (if (wrap64 (x0 * 2)) ≤ (wrap64 ((wrap64 (x0 * 2)) + 2)) then (if (wrap64 ((wrap64 (x0 * 2)) + 2)) ≤ (tx_f91eb1e0.size : Int) then (some (tx_f91eb1e0.extract (wrap64 (x0 * 2) : Int).toNat (wrap64 ((wrap64 (x0 * 2)) + 2) : Int).toNat)) else (none)) else (none)) else (none))
abbrev istrconv_small.S : Sig := { ps := [.lf (.i .i64)], rs := [.lf (.s)], wb := [], R := ByteArray, mkR := fun y0 => some y0, un := fun r => [.str r] }
def istrconv_small.F (k : Nat) : Fun := { S := istrconv_small.S, f := istrconv_small.f }
def istrconv_small.C (k : Nat) : Cfg := { T := TT, G := lookG [], nt := 15, cuts := [], M0 := tabM }
def istrconv_small.H (k : Nat) : List (CutF istrconv_small.S.R) := []
mutual
def bits_Len64.j0 : Nat → Int → Int → Option (Int)
  | 0, _, _ => none
  | k + 1, x0, x2 => if x0 ≥ 65536 then (bits_Len64.j1 k (x0 / 65536) (wrap64 (x2 + 16))) else (bits_Len64.j1 k x0 x2)
def bits_Len64.j1 : Nat → Int → Int → Option (Int)
  | 0, _, _ => none
  | k + 1, x0, x2 => if x0 ≥ 256 then (bits_Len64.j2 k (x0 / 256) (wrap64 (x2 + 8))) else (bits_Len64.j2 k x0 x2)
def bits_Len64.j2 : Nat → Int → Int → Option (Int)
  | 0, _, _ => none
  | k + 1, x0, x2 => if 0 ≤ x0 % 256 then (if x0 % 256 < (tx_c182c703.size : Int) then (some (wrap64 (x2 + (wrap64 (bt tx_c182c703 (x0 % 256)))))) else (none)) else (none)
end
def bits_Len64.f (k : Nat) (x0 : Int) : Option (Int) := if x0 ≥ 4294967296 then (bits_Len64.j0 k (x0 / 4294967296) 32) else (bits_Len64.j0 k x0 0)
abbrev bits_Len64.S : Sig := { ps := [.lf (.i .u64)], rs := [.lf (.i .i64)], wb := [], R := Int, mkR := fun y0 => some y0, un := fun r => [.int .i64 r] }
def bits_Len64.F (k : Nat) : Fun := { S := bits_Len64.S, f := bits_Len64.f k }
abbrev bits_Len64.vj0 : List (Nat × Kx) := [(0, .lf (.i .u64)), (2, .lf (.i .i64))]
abbrev bits_Len64.vj1 : List (Nat × Kx) := [(0, .lf (.i .u64)), (2, .lf (.i .i64))]
abbrev bits_Len64.vj2 : List (Nat × Kx) := [(0, .lf (.i .u64)), (2, .lf (.i .i64))]
def bits_Len64.C (k : Nat) : Cfg := { T := TT, G := lookG [], nt := 25, cuts := [⟨codeOf [true, true] 1, [true, true], bits_Len64.vj0⟩, ⟨codeOf [true, true, true] 1, [true, true, true], bits_Len64.vj1⟩, ⟨codeOf [true, true, true, true] 1, [true, true, true, true], bits_Len64.vj2⟩], M0 := tabM }
def bits_Len64.H (k : Nat) : List (CutF bits_Len64.S.R) := [⟨bits_Len64.vj0, bits_Len64.j0 k⟩, ⟨bits_Len64.vj1, bits_Len64.j1 k⟩, ⟨bits_Len64.vj2, bits_Len64.j2 k⟩]
def istrconv_log10Pow2.f (x0 : Int) : Option (Int) := some ((wrap64 (x0 * 78913)) / 262144)
abbrev istrconv_log10Pow2.S : Sig := { ps := [.lf (.i .i64)], rs := [.lf (.i .i64)], wb := [], R := Int, mkR := fun y0 => some y0, un := fun r => [.int .i64 r] }
def istrconv_log10Pow2.F (k : Nat) : Fun := { S := istrconv_log10Pow2.S, f := istrconv_log10Pow2.f }
def istrconv_log10Pow2.C (k : Nat) : Cfg := { T := TT, G := lookG [], nt := 6, cuts := [], M0 := tabM }
def istrconv_log10Pow2.H (k : Nat) : List (CutF istrconv_log10Pow2.S.R) := []
def istrconv_bool2_int.f (x0 : Bool) : Option (Int) := if x0 = true then (some 1) else (some 0)
abbrev istrconv_bool2_int.S : Sig := { ps := [.lf (.b)], rs := [.lf (.i .i64)], wb := [], R := Int, mkR := fun y0 => some y0, un := fun r => [.int .i64 r] }
def istrconv_bool2_int.F (k : Nat) : Fun := { S := istrconv_bool2_int.S, f := istrconv_bool2_int.f }
def istrconv_bool2_int.C (k : Nat) : Cfg := { T := TT, G := lookG [], nt := 4, cuts := [], M0 := tabM }
def istrconv_bool2_int.H (k : Nat) : List (CutF istrconv_bool2_int.S.R) := []
def istrconv_numDigits.f (k : Nat) (x0 : Int) : Option (Int) := (bits_Len64.f k x0).bind fun t80 => ((istrconv_log10Pow2.f t80).bind fun t81 => (if 0 ≤ t81 then (if t81 < (20 : Int) then (if tabHas tabM 1 .u64 t81 = true then ((istrconv_bool2_int.f (decide (x0 ≥ (tabRd tabM 1 t81)))).bind fun t82 => (some (wrap64 (t81 + t82)))) else (none)) else (none)) else (none)))
abbrev istrconv_numDigits.S : Sig := { ps := [.lf (.i .u64)], rs := [.lf (.i .i64)], wb := [], R := Int, mkR := fun y0 => some y0, un := fun r => [.int .i64 r] }
def istrconv_numDigits.F (k : Nat) : Fun := { S := istrconv_numDigits.S, f := istrconv_numDigits.f k }
def istrconv_numDigits.C (k : Nat) : Cfg := { T := TT, G := lookG [(63, [bits_Len64.F k]), (88, [istrconv_log10Pow2.F k]), (89, [istrconv_bool2_int.F k])], nt := 15, cuts := [], M0 := tabM }
def istrconv_numDigits.H (k : Nat) : List (CutF istrconv_numDigits.S.R) := []
mutual
def istrconv_formatBase10.l0 : Nat → List Int → Int → Int → Option (List Int)
  | 0, _, _, _ => none
  | k + 1, x0, x1, x4 => if x4 ≥ 8 then (if 0 ≤ ((((Int.tmod (Int.tmod ((Int.tmod x1 100000000) % 4294967296) 10000) 100) * 2) % 4294967296) + 1) % 4294967296 then (if ((((Int.tmod (Int.tmod ((Int.tmod x1 100000000) % 4294967296) 10000) 100) * 2) % 4294967296) + 1) % 4294967296 < (tx_f91eb1e0.size : Int) then (if 0 ≤ ((Int.tmod (Int.tmod ((Int.tmod x1 100000000) % 4294967296) 10000) 100) * 2) % 4294967296 then (if ((Int.tmod (Int.tmod ((Int.tmod x1 100000000) % 4294967296) 10000) 100) * 2) % 4294967296 < (tx_f91eb1e0.size : Int) then (if 0 ≤ wrap64 (x4 - 1) then (if wrap64 (x4 - 1) < (x0.length : Int) then (if 0 ≤ wrap64 (x4 - 2) then (if wrap64 (x4 - 2) < ((x0.set (wrap64 (x4 - 1) : Int).toNat (bt tx_f91eb1e0 (((((Int.tmod (Int.tmod ((Int.tmod x1 100000000) % 4294967296) 10000) 100) * 2) % 4294967296) + 1) % 4294967296))).length : Int) then (if 0 ≤ (((((Int.tdiv (Int.tmod ((Int.tmod x1 100000000) % 4294967296) 10000) 100) % 4294967296) * 2) % 4294967296) + 1) % 4294967296 then (if (((((Int.tdiv (Int.tmod ((Int.tmod x1 100000000) % 4294967296) 10000) 100) % 4294967296) * 2) % 4294967296) + 1) % 4294967296 < (tx_f91eb1e0.size : Int) then (if 0 ≤ (((Int.tdiv (Int.tmod ((Int.tmod x1 100000000) % 4294967296) 10000) 100) % 4294967296) * 2) % 4294967296 then (if (((Int.tdiv (Int.tmod ((Int.tmod x1 100000000) % 4294967296) 10000) 100) % 4294967296) * 2) % 4294967296 < (tx_f91eb1e0.size : Int) then (if 0 ≤ wrap64 (x4 - 3) then (if wrap64 (x4 - 3) < (((x0.set (wrap64 (x4 - 1) : Int).toNat (bt tx_f91eb1e0 (((((Int.tmod (Int.tmod ((Int.tmod x1 100000000) % 4294967296) 10000) 100) * 2) % 4294967296) + 1) % 4294967296))).set (wrap64 (x4 - 2) : Int).toNat (bt tx_f91eb1e0 (((Int.tmod (Int.tmod ((Int.tmod x1 100000000) % 4294967296) 10000) 100) * 2) % 4294967296))).length : Int) then (if 0 ≤ wrap64 (x4 - 4) then (if wrap64 (x4 - 4) < ((((x0.set (wrap64 (x4 - 1) : Int).toNat (bt tx_f91eb1e0 (((((Int.tmod (Int.tmod ((Int.tmod x1 100000000) % 4294967296) 10000) 100) * 2) % 4294967296) + 1) % 4294967296))).set (wrap64 (x4 - 2) : Int).toNat (bt tx_f91eb1e0 (((Int.tmod (Int.tmod ((Int.tmod x1 100000000) % 4294967296) 10000) 100) * 2) % 4294967296))).set (wrap64 (x4 - 3) : Int).toNat (bt tx_f91eb1e0 ((((((Int.tdiv (Int.tmod ((Int.tmod x1 100000000) % 4294967296) 10000) 100) % 4294967296) * 2) % 4294967296) + 1) % 4294967296))).length : Int) then (if 0 ≤ ((((Int.tmod ((Int.tdiv ((Int.tmod x1 100000000) % 4294967296) 10000) % 4294967296) 100) * 2) % 4294967296) + 1) % 4294967296 then (if ((((Int.tmod ((Int.tdiv ((Int.tmod x1 100000000) % 4294967296) 10000) % 4294967296) 100) * 2) % 4294967296) + 1) % 4294967296 < (tx_f91eb1e0.size : Int) then (if 0 ≤ ((Int.tmod ((Int.tdiv ((Int.tmod x1 100000000) % 4294967296) 10000) % 4294967296) 100) * 2) % 4294967296 then (if ((Int.tmod ((Int.tdiv ((Int.tmod x1 100000000) % 4294967296) 10000) % 4294967296) 100) * 2) % 4294967296 < (tx_f91eb1e0.size : Int) then (if 0 ≤ wrap64 (x4 - 5) then (if wrap64 (x4 - 5) < (((((x0.set (wrap64 (x4 - 1) : Int).toNat (bt tx_f91eb1e0 (((((Int.tmod (Int.tmod ((Int.tmod x1 100000000) % 4294967296) 10000) 100) * 2) % 4294967296) + 1) % 4294967296))).set (wrap64 (x4 - 2) : Int).toNat (bt tx_f91eb1e0 (((Int.tmod (Int.tmod ((Int.tmod x1 100000000) % 4294967296) 10000) 100) * 2) % 4294967296))).set (wrap64 (x4 - 3) : Int).toNat (bt tx_f91eb1e0 ((((((Int.tdiv (Int.tmod ((Int.tmod x1 100000000) % 4294967296) 10000) 100) % 4294967296) * 2) % 4294967296) + 1) % 4294967296))).set (wrap64 (x4 - 4) : Int).toNat (bt tx_f91eb1e0 ((((Int.tdiv (Int.tmod ((Int.tmod x1 100000000) % 4294967296) 10000) 100) % 4294967296) * 2) % 4294967296))).length : Int) then (if 0 ≤ wrap64 (x4 - 6) then (if wrap64 (x4 - 6) < ((((((x0.set (wrap64 (x4 - 1) : Int).toNat (bt tx_f91eb1e0 (((((Int.tmod (Int.tmod ((Int.tmod x1 100000000) % 4294967296) 10000) 100) * 2) % 4294967296) + 1) % 4294967296))).set (wrap64 (x4 - 2) : Int).toNat (bt tx_f91eb1e0 (((Int.tmod (Int.tmod ((Int.tmod x1 100000000) % 4294967296) 10000) 100) * 2) % 4294967296))).set (wrap64 (x4 - 3) : Int).toNat (bt tx_f91eb1e0 ((((((Int.tdiv (Int.tmod ((Int.tmod x1 100000000) % 4294967296) 10000) 100) % 4294967296) * 2) % 4294967296) + 1) % 4294967296))).set (wrap64 (x4 - 4) : Int).toNat (bt tx_f91eb1e0 ((((Int.tdiv (Int.tmod ((Int.tmod x1 100000000) % 4294967296) 10000) 100) % 4294967296) * 2) % 4294967296))).set (wrap64 (x4 - 5) : Int).toNat (bt tx_f91eb1e0 (((((Int.tmod ((Int.tdiv ((Int.tmod x1 100000000) % 4294967296) 10000) % 4294967296) 100) * 2) % 4294967296) + 1) % 4294967296))).length : Int) then (if 0 ≤ (((((Int.tdiv ((Int.tdiv ((Int.tmod x1 100000000) % 4294967296) 10000) % 4294967296) 100) % 4294967296) * 2) % 4294967296) + 1) % 4294967296 then (if (((((Int.tdiv ((Int.tdiv ((Int.tmod x1 100000000) % 4294967296) 10000) % 4294967296) 100) % 4294967296) * 2) % 4294967296) + 1) % 4294967296 < (tx_f91eb1e0.size : Int) then (if 0 ≤ (((Int.tdiv ((Int.tdiv ((Int.tmod x1 100000000) % 4294967296) 10000) % 4294967296) 100) % 4294967296) * 2) % 4294967296 then (if (((Int.tdiv ((Int.tdiv ((Int.tmod x1 100000000) % 4294967296) 10000) % 4294967296) 100) % 4294967296) * 2) % 4294967296 < (tx_f91eb1e0.size : Int) then (if 0 ≤ wrap64 (x4 - 7) then (if wrap64 (x4 - 7) < (((((((x0.set (wrap64 (x4 - 1) : Int).toNat (bt tx_f91eb1e0 (((((Int.tmod (Int.tmod ((Int.tmod x1 100000000) % 4294967296) 10000) 100) * 2) % 4294967296) + 1) % 4294967296))).set (wrap64 (x4 - 2) : Int).toNat (bt tx_f91eb1e0 (((Int.tmod (Int.tmod ((Int.tmod x1 100000000) % 4294967296) 10000) 100) * 2) % 4294967296))).set (wrap64 (x4 - 3) : Int).toNat (bt tx_f91eb1e0 ((((((Int.tdiv (Int.tmod ((Int.tmod x1 100000000) % 4294967296) 10000) 100) % 4294967296) * 2) % 4294967296) + 1) % 4294967296))).set (wrap64 (x4 - 4) : Int).toNat (bt tx_f91eb1e0 ((((Int.tdiv (Int.tmod ((Int.tmod x1 100000000) % 4294967296) 10000) 100) % 4294967296) * 2) % 4294967296))).set (wrap64 (x4 - 5) : Int).toNat (bt tx_f91eb1e0 (((((Int.tmod ((Int.tdiv ((Int.tmod x1 100000000) % 4294967296) 10000) % 4294967296) 100) * 2) % 4294967296) + 1) % 4294967296))).set (wrap64 (x4 - 6) : Int).toNat (bt tx_f91eb1e0 (((Int.tmod ((Int.tdiv ((Int.tmod x1 100000000) % 4294967296) 10000) % 4294967296) 100) * 2) % 4294967296))).length : Int) then (if 0 ≤ wrap64 (x4 - 8) then (if wrap64 (x4 - 8) < ((((((((x0.set (wrap64 (x4 - 1) : Int).toNat (bt tx_f91eb1e0 (((((Int.tmod (Int.tmod ((Int.tmod x1 100000000) % 4294967296) 10000) 100) * 2) % 4294967296) + 1) % 4294967296))).set (wrap64 (x4 - 2) : Int).toNat (bt tx_f91eb1e0 (((Int.tmod (Int.tmod ((Int.tmod x1 100000000) % 4294967296) 10000) 100) * 2) % 4294967296))).set (wrap64 (x4 - 3) : Int).toNat (bt tx_f91eb1e0 ((((((Int.tdiv (Int.tmod ((Int.tmod x1 100000000) % 4294967296) 10000) 100) % 4294967296) * 2) % 4294967296) + 1) % 4294967296))).set (wrap64 (x4 - 4) : Int).toNat (bt tx_f91eb1e0 ((((Int.tdiv (Int.tmod ((Int.tmod x1 100000000) % 4294967296) 10000) 100) % 4294967296) * 2) % 4294967296))).set (wrap64 (x4 - 5) : Int).toNat (bt tx_f91eb1e0 (((((Int.tmod ((Int.tdiv ((Int.tmod x1 100000000) % 4294967296) 10000) % 4294967296) 100) * 2) % 4294967296) + 1) % 4294967296))).set (wrap64 (x4 - 6) : Int).toNat (bt tx_f91eb1e0 (((Int.tmod ((Int.tdiv ((Int.tmod x1 100000000) % 4294967296) 10000) % 4294967296) 100) * 2) % 4294967296))).set (wrap64 (x4 - 7) : Int).toNat (bt tx_f91eb1e0 ((((((Int.tdiv ((Int.tdiv ((Int.tmod x1 100000000) % 4294967296) 10000) % 4294967296) 100) % 4294967296) * 2) % 4294967296) + 1) % 4294967296))).length : Int) then (istrconv_formatBase10.l0 k ((((((((x0.set (wrap64 (x4 - 1) : Int).toNat (bt tx_f91eb1e0 (((((Int.tmod (Int.tmod ((Int.tmod x1 100000000) % 4294967296) 10000) 100) * 2) % 4294967296) + 1) % 4294967296))).set (wrap64 (x4 - 2) : Int).toNat (bt tx_f91eb1e0 (((Int.tmod (Int.tmod ((Int.tmod x1 100000000) % 4294967296) 10000) 100) * 2) % 4294967296))).set (wrap64 (x4 - 3) : Int).toNat (bt tx_f91eb1e0 ((((((Int.tdiv (Int.tmod ((Int.tmod x1 100000000) % 4294967296) 10000) 100) % 4294967296) * 2) % 4294967296) + 1) % 4294967296))).set (wrap64 (x4 - 4) : Int).toNat (bt tx_f91eb1e0 ((((Int.tdiv (Int.tmod ((Int.tmod x1 100000000) % 4294967296) 10000) 100) % 4294967296) * 2) % 4294967296))).set (wrap64 (x4 - 5) : Int).toNat (bt tx_f91eb1e0 (((((Int.tmod ((Int.tdiv ((Int.tmod x1 100000000) % 4294967296) 10000) % 4294967296) 100) * 2) % 4294967296) + 1) % 4294967296))).set (wrap64 (x4 - 6) : Int).toNat (bt tx_f91eb1e0 (((Int.tmod ((Int.tdiv ((Int.tmod x1 100000000) % 4294967296) 10000) % 4294967296) 100) * 2) % 4294967296))).set (wrap64 (x4 - 7) : Int).toNat (bt tx_f91eb1e0 ((((((Int.tdiv ((Int.tdiv ((Int.tmod x1 100000000) % 4294967296) 10000) % 4294967296) 100) % 4294967296) * 2) % 4294967296) + 1) % 4294967296))).set (wrap64 (x4 - 8) : Int).toNat (bt tx_f91eb1e0 ((((Int.tdiv ((Int.tdiv ((Int.tmod x1 100000000) % 4294967296) 10000) % 4294967296) 100) % 4294967296) * 2) % 4294967296))) (IntKind.u64.wrap (Int.tdiv x1 100000000)) (wrap64 (x4 - 8))) else (none)) else (none)) else (none)) else (none)) else (none)) else (none)) else (none)) else (none)) else (none)) else (none)) else (none)) else (none)) else (none)) else (none)) else (none)) else (none)) else (none)) else (none)) else (none)) else (none)) else (none)) else (none)) else (none)) else (none)) else (none)) else (none)) else (none)) else (none)) else (none)) else (none)) else (none)) else (none)) else (if x4 ≥ 4 then (if 0 ≤ ((((Int.tmod (Int.tmod (x1 % 4294967296) 10000) 100) * 2) % 4294967296) + 1) % 4294967296 then (if ((((Int.tmod (Int.tmod (x1 % 4294967296) 10000) 100) * 2) % 4294967296) + 1) % 4294967296 < (tx_f91eb1e0.size : Int) then (if 0 ≤ ((Int.tmod (Int.tmod (x1 % 4294967296) 10000) 100) * 2) % 4294967296 then (if ((Int.tmod (Int.tmod (x1 % 4294967296) 10000) 100) * 2) % 4294967296 < (tx_f91eb1e0.size : Int) then (if 0 ≤ wrap64 (x4 - 1) then (if wrap64 (x4 - 1) < (x0.length : Int) then (if 0 ≤ wrap64 (x4 - 2) then (if wrap64 (x4 - 2) < ((x0.set (wrap64 (x4 - 1) : Int).toNat (bt tx_f91eb1e0 (((((Int.tmod (Int.tmod (x1 % 4294967296) 10000) 100) * 2) % 4294967296) + 1) % 4294967296))).length : Int) then (if 0 ≤ (((((Int.tdiv (Int.tmod (x1 % 4294967296) 10000) 100) % 4294967296) * 2) % 4294967296) + 1) % 4294967296 then (if (((((Int.tdiv (Int.tmod (x1 % 4294967296) 10000) 100) % 4294967296) * 2) % 4294967296) + 1) % 4294967296 < (tx_f91eb1e0.size : Int) then (if 0 ≤ (((Int.tdiv (Int.tmod (x1 % 4294967296) 10000) 100) % 4294967296) * 2) % 4294967296 then (if (((Int.tdiv (Int.tmod (x1 % 4294967296) 10000) 100) % 4294967296) * 2) % 4294967296 < (tx_f91eb1e0.size : Int) then (if 0 ≤ wrap64 (x4 - 3) then (if wrap64 (x4 - 3) < (((x0.set (wrap64 (x4 - 1) : Int).toNat (bt tx_f91eb1e0 (((((Int.tmod (Int.tmod (x1 % 4294967296) 10000) 100) * 2) % 4294967296) + 1) % 4294967296))).set (wrap64 (x4 - 2) : Int).toNat (bt tx_f91eb1e0 (((Int.tmod (Int.tmod (x1 % 4294967296) 10000) 100) * 2) % 4294967296))).length : Int) then (if 0 ≤ wrap64 (x4 - 4) then (if wrap64 (x4 - 4) < ((((x0.set (wrap64 (x4 - 1) : Int).toNat (bt tx_f91eb1e0 (((((Int.tmod (Int.tmod (x1 % 4294967296) 10000) 100) * 2) % 4294967296) + 1) % 4294967296))).set (wrap64 (x4 - 2) : Int).toNat (bt tx_f91eb1e0 (((Int.tmod (Int.tmod (x1 % 4294967296) 10000) 100) * 2) % 4294967296))).set (wrap64 (x4 - 3) : Int).toNat (bt tx_f91eb1e0 ((((((Int.tdiv (Int.tmod (x1 % 4294967296) 10000) 100) % 4294967296) * 2) % 4294967296) + 1) % 4294967296))).length : Int) then (istrconv_formatBase10.j1 k ((((x0.set (wrap64 (x4 - 1) : Int).toNat (bt tx_f91eb1e0 (((((Int.tmod (Int.tmod (x1 % 4294967296) 10000) 100) * 2) % 4294967296) + 1) % 4294967296))).set (wrap64 (x4 - 2) : Int).toNat (bt tx_f91eb1e0 (((Int.tmod (Int.tmod (x1 % 4294967296) 10000) 100) * 2) % 4294967296))).set (wrap64 (x4 - 3) : Int).toNat (bt tx_f91eb1e0 ((((((Int.tdiv (Int.tmod (x1 % 4294967296) 10000) 100) % 4294967296) * 2) % 4294967296) + 1) % 4294967296))).set (wrap64 (x4 - 4) : Int).toNat (bt tx_f91eb1e0 ((((Int.tdiv (Int.tmod (x1 % 4294967296) 10000) 100) % 4294967296) * 2) % 4294967296))) (wrap64 (x4 - 4)) ((Int.tdiv (x1 % 4294967296) 10000) % 4294967296)) else (none)) else (none)) else (none)) else (none)) else (none)) else (none)) else (none)) else (none)) else (none)) else (none)) else (none)) else (none)) else (none)) else (none)) else (none)) else (none)) else (istrconv_formatBase10.j1 k x0 x4 (x1 % 4294967296)))
def istrconv_formatBase10.j1 : Nat → List Int → Int → Int → Option (List Int)
  | 0, _, _, _ => none
  | k + 1, x0, x4, x12 => if x4 ≥ 2 then (if 0 ≤ ((((Int.tmod x12 100) * 2) % 4294967296) + 1) % 4294967296 then (if ((((Int.tmod x12 100) * 2) % 4294967296) + 1) % 4294967296 < (tx_f91eb1e0.size : Int) then (if 0 ≤ ((Int.tmod x12 100) * 2) % 4294967296 then (if ((Int.tmod x12 100) * 2) % 4294967296 < (tx_f91eb1e0.size : Int) then (if 0 ≤ wrap64 (x4 - 1) then (if wrap64 (x4 - 1) < (x0.length : Int) then (if 0 ≤ wrap64 (x4 - 2) then (if wrap64 (x4 - 2) < ((x0.set (wrap64 (x4 - 1) : Int).toNat (bt tx_f91eb1e0 (((((Int.tmod x12 100) * 2) % 4294967296) + 1) % 4294967296))).length : Int) then (istrconv_formatBase10.j2 k ((x0.set (wrap64 (x4 - 1) : Int).toNat (bt tx_f91eb1e0 (((((Int.tmod x12 100) * 2) % 4294967296) + 1) % 4294967296))).set (wrap64 (x4 - 2) : Int).toNat (bt tx_f91eb1e0 (((Int.tmod x12 100) * 2) % 4294967296))) (wrap64 (x4 - 2)) ((Int.tdiv x12 100) % 4294967296)) else (none)) else (none)) else (none)) else (none)) else (none)) else (none)) else (none)) else (none)) else (istrconv_formatBase10.j2 k x0 x4 x12)
def istrconv_formatBase10.j2 : Nat → List Int → Int → Int → Option (List Int)
  | 0, _, _, _ => none
  | k + 1, x0, x4, x12 => if x4 > 0 then (if 0 < (x0.length : Int) then (some (x0.set (0 : Int).toNat (((48 + x12) % 4294967296) % 256))) else (none)) else (some x0)
end
def istrconv_formatBase10.f (k : Nat) (x0 : List Int) (x1 : Int) : Option (List Int) := istrconv_formatBase10.l0 k x0 x1 (x0.length : Int)
abbrev istrconv_formatBase10.S : Sig := { ps := [.bo .u8, .lf (.i .u64)], rs := [], wb := [.is .u8], R := List Int, mkR := fun y0 => some y0, un := fun r => [.ints .u8 r] }
def istrconv_formatBase10.F (k : Nat) : Fun := { S := istrconv_formatBase10.S, f := istrconv_formatBase10.f k }
abbrev istrconv_formatBase10.vl0 : List (Nat × Kx) := [(0, .bo .u8), (1, .lf (.i .u64)), (4, .lf (.i .i64))]
abbrev istrconv_formatBase10.vj1 : List (Nat × Kx) := [(0, .bo .u8), (4, .lf (.i .i64)), (12, .lf (.i .u32))]
abbrev istrconv_formatBase10.vj2 : List (Nat × Kx) := [(0, .bo .u8), (4, .lf (.i .i64)), (12, .lf (.i .u32))]
def istrconv_formatBase10.C (k : Nat) : Cfg := { T := TT, G := lookG [], nt := 167, cuts := [⟨codeOf [true, false, false] 1, [true, false, false], istrconv_formatBase10.vl0⟩, ⟨codeOf [true, true, true, true] 1, [true, true, true, true], istrconv_formatBase10.vj1⟩, ⟨codeOf [true, true, true, true, true] 1, [true, true, true, true, true], istrconv_formatBase10.vj2⟩], M0 := tabM }
def istrconv_formatBase10.H (k : Nat) : List (CutF istrconv_formatBase10.S.R) := [⟨istrconv_formatBase10.vl0, istrconv_formatBase10.l0 k⟩, ⟨istrconv_formatBase10.vj1, istrconv_formatBase10.j1 k⟩, ⟨istrconv_formatBase10.vj2, istrconv_formatBase10.j2 k⟩]
def istrconv_isPowerOfTwo.f (x0 : Int) : Option (Bool) := some (decide ((Go.bits .and .i64 x0 (wrap64 (x0 - 1))) = 0))
abbrev istrconv_isPowerOfTwo.S : Sig := { ps := [.lf (.i .i64)], rs := [.lf (.b)], wb := [], R := Bool, mkR := fun y0 => some y0, un := fun r => [.bool r] }
def istrconv_isPowerOfTwo.F (k : Nat) : Fun := { S := istrconv_isPowerOfTwo.S, f := istrconv_isPowerOfTwo.f }
def istrconv_isPowerOfTwo.C (k : Nat) : Cfg := { T := TT, G := lookG [], nt := 8, cuts := [], M0 := tabM }
def istrconv_isPowerOfTwo.H (k : Nat) : List (CutF istrconv_isPowerOfTwo.S.R) := []
abbrev bits_TrailingZeros.S : Sig := { ps := [.lf (.i .u64)], rs := [.lf (.i .i64)], wb := [], R := Int, mkR := fun y0 => some y0, un := fun r => [.int .i64 r] }
def bits_TrailingZeros.F (k : Nat) : Fun := { S := bits_TrailingZeros.S, f := bits_TrailingZeros.f }
mutual
def istrconv_formatBits.l0 : Nat → List Int → Int → Bool → Bool → List Int → ByteArray → List Int → Int → Int → Int → Int → Option (List Int × ByteArray)
  | 0, _, _, _, _, _, _, _, _, _, _, _ => none
  | k + 1, x0, x1, x3, x4, x10, x11, x12, x13, x14, x15, x16 => if x1 ≥ x15 then (if 0 ≤ Go.bits .and .u64 x1 x16 then (if Go.bits .and .u64 x1 x16 < (tx_699cd95d.size : Int) then (if 65 = x12.length then (if 0 ≤ wrap64 (x13 - 1) then (if wrap64 (x13 - 1) < (x12.length : Int) then (istrconv_formatBits.l0 k x0 (shr .u64 x1 x14) x3 x4 x10 x11 (x12.set (wrap64 (x13 - 1) : Int).toNat (bt tx_699cd95d (Go.bits .and .u64 x1 x16))) (wrap64 (x13 - 1)) x14 x15 x16) else (none)) else (none)) else (none)) else (none)) else (none)) else (if 0 ≤ x1 then (if x1 < (tx_699cd95d.size : Int) then (if 65 = x12.length then (if 0 ≤ wrap64 (x13 - 1) then (if wrap64 (x13 - 1) < (x12.length : Int) then (istrconv_formatBits.j5 k x0 x3 x4 x10 x11 (x12.set (wrap64 (x13 - 1) : Int).toNat (bt tx_699cd95d x1)) (wrap64 (x13 - 1))) else (none)) else (none)) else (none)) else (none)) else (none))
def istrconv_formatBits.l1 : Nat → List Int → Int → Bool → Bool → List Int → ByteArray → List Int → Int → Int → Option (List Int × ByteArray)
  | 0, _, _, _, _, _, _, _, _, _ => none
  | k + 1, x0, x1, x3, x4, x10, x11, x12, x13, x17 => if x1 ≥ x17 then (if x17 = 0 then (none) else (if 0 ≤ IntKind.u64.wrap (x1 - (IntKind.u64.wrap ((IntKind.u64.wrap (Int.tdiv x1 x17)) * x17))) then (if IntKind.u64.wrap (x1 - (IntKind.u64.wrap ((IntKind.u64.wrap (Int.tdiv x1 x17)) * x17))) < (tx_699cd95d.size : Int) then (if 65 = x12.length then (if 0 ≤ wrap64 (x13 - 1) then (if wrap64 (x13 - 1) < (x12.length : Int) then (istrconv_formatBits.l1 k x0 (IntKind.u64.wrap (Int.tdiv x1 x17)) x3 x4 x10 x11 (x12.set (wrap64 (x13 - 1) : Int).toNat (bt tx_699cd95d (IntKind.u64.wrap (x1 - (IntKind.u64.wrap ((IntKind.u64.wrap (Int.tdiv x1 x17)) * x17)))))) (wrap64 (x13 - 1)) x17) else (none)) else (none)) else (none)) else (none)) else (none))) else (if 0 ≤ x1 then (if x1 < (tx_699cd95d.size : Int) then (if 65 = x12.length then (if 0 ≤ wrap64 (x13 - 1) then (if wrap64 (x13 - 1) < (x12.length : Int) then (istrconv_formatBits.j5 k x0 x3 x4 x10 x11 (x12.set (wrap64 (x13 - 1) : Int).toNat (bt tx_699cd95d x1)) (wrap64 (x13 - 1))) else (none)) else (none)) else (none)) else (none)) else (none))
def istrconv_formatBits.j2 : Nat → List Int → Int → Int → Bool → Bool → List Int → ByteArray → List Int → Int → Option (List Int × ByteArray)
  | 0, _, _, _, _, _, _, _, _, _ => none
  | k + 1, x0, x1, x2, x3, x4, x10, x11, x12, x13 => (istrconv_isPowerOfTwo.f x2).bind fun t107 => (if t107 = true then ((bits_TrailingZeros.f (IntKind.u64.wrap x2)).bind fun t108 => (istrconv_formatBits.l0 k x0 x1 x3 x4 x10 x11 x12 x13 (IntKind.u64.wrap t108) (IntKind.u64.wrap x2) (IntKind.u64.wrap ((IntKind.u64.wrap x2) - 1)))) else (istrconv_formatBits.l1 k x0 x1 x3 x4 x10 x11 x12 x13 (IntKind.u64.wrap x2)))
def istrconv_formatBits.j5 : Nat → List Int → Bool → Bool → List Int → ByteArray → List Int → Int → Option (List Int × ByteArray)
  | 0, _, _, _, _, _, _, _ => none
  | k + 1, x0, x3, x4, x10, x11, x12, x13 => if x3 = true then (if 65 = x12.length then (if 0 ≤ wrap64 (x13 - 1) then (if wrap64 (x13 - 1) < (x12.length : Int) then (istrconv_formatBits.j6 k x0 x4 x10 x11 (x12.set (wrap64 (x13 - 1) : Int).toNat 45) (wrap64 (x13 - 1))) else (none)) else (none)) else (none)) else (istrconv_formatBits.j6 k x0 x4 x10 x11 x12 x13)
def istrconv_formatBits.j6 : Nat → List Int → Bool → List Int → ByteArray → List Int → Int → Option (List Int × ByteArray)
  | 0, _, _, _, _, _, _ => none
  | k + 1, x0, x4, x10, x11, x12, x13 => if x4 = true then (if 65 = x12.length then (if 0 ≤ x13 then (if x13 ≤ (x12.length : Int) then (none) else (none)) else (none)) else (none)) else (if 65 = x12.length then (if 0 ≤ x13 then (if x13 ≤ (x12.length : Int) then (some (x10, strOf (x12.drop (x13 : Int).toNat))) else (none)) else (none)) else (none))
end
def istrconv_formatBits.f (k : Nat) (x0 : List Int) (x1 : Int) (x2 : Int) (x3 : Bool) (x4 : Bool) : Option (List Int × ByteArray) := if x2 < 2 then (none) else (if x2 = 10 then (none) else (if x2 > 36 then (none) else (if x3 = true then (istrconv_formatBits.j2 k x0 (IntKind.u64.wrap (-x1)) x2 x3 x4 ([] : List Int) (⟨#[]⟩ : ByteArray) (List.replicate 65 (0 : Int)) 65) else (istrconv_formatBits.j2 k x0 x1 x2 x3 x4 ([] : List Int) (⟨#[]⟩ : ByteArray) (List.replicate 65 (0 : Int)) 65))))
abbrev istrconv_formatBits.S : Sig := { ps := [.lf (.is .u8), .lf (.i .u64), .lf (.i .i64), .lf (.b), .lf (.b)], rs := [.lf (.is .u8), .lf (.s)], wb := [], R := List Int × ByteArray, mkR := fun y0 y1 => some (y0, y1), un := fun r => [.ints .u8 r.1, .str r.2] }
def istrconv_formatBits.F (k : Nat) : Fun := { S := istrconv_formatBits.S, f := istrconv_formatBits.f k }
abbrev istrconv_formatBits.vl0 : List (Nat × Kx) := [(0, .lf (.is .u8)), (1, .lf (.i .u64)), (3, .lf (.b)), (4, .lf (.b)), (10, .ow .u8), (11, .lf (.s)), (12, .ar .u8), (13, .lf (.i .i64)), (14, .lf (.i .u64)), (15, .lf (.i .u64)), (16, .lf (.i .u64))]
abbrev istrconv_formatBits.vl1 : List (Nat × Kx) := [(0, .lf (.is .u8)), (1, .lf (.i .u64)), (3, .lf (.b)), (4, .lf (.b)), (10, .ow .u8), (11, .lf (.s)), (12, .ar .u8), (13, .lf (.i .i64)), (17, .lf (.i .u64))]
abbrev istrconv_formatBits.vj2 : List (Nat × Kx) := [(0, .lf (.is .u8)), (1, .lf (.i .u64)), (2, .lf (.i .i64)), (3, .lf (.b)), (4, .lf (.b)), (10, .ow .u8), (11, .lf (.s)), (12, .ar .u8), (13, .lf (.i .i64))]
abbrev istrconv_formatBits.vj5 : List (Nat × Kx) := [(0, .lf (.is .u8)), (3, .lf (.b)), (4, .lf (.b)), (10, .ow .u8), (11, .lf (.s)), (12, .ar .u8), (13, .lf (.i .i64))]
abbrev istrconv_formatBits.vj6 : List (Nat × Kx) := [(0, .lf (.is .u8)), (4, .lf (.b)), (10, .ow .u8), (11, .lf (.s)), (12, .ar .u8), (13, .lf (.i .i64))]
def istrconv_formatBits.C (k : Nat) : Cfg := { T := TT, G := lookG [(90, [istrconv_isPowerOfTwo.F k]), (91, [bits_TrailingZeros.F k])], nt := 102, cuts := [⟨codeOf [true, true, true, true, true, false, true, false, true, true, true, false, false] 1, [true, true, true, true, true, false, true, false, true, true, true, false, false], istrconv_formatBits.vl0⟩, ⟨codeOf [true, true, true, true, true, false, true, true, true, false, false] 1, [true, true, true, true, true, false, true, true, true, false, false], istrconv_formatBits.vl1⟩, ⟨codeOf [true, true, true, true, true] 1, [true, true, true, true, true], istrconv_formatBits.vj2⟩, ⟨codeOf [true, true, true, true, true, true] 1, [true, true, true, true, true, true], istrconv_formatBits.vj5⟩, ⟨codeOf [true, true, true, true, true, true, true] 1, [true, true, true, true, true, true, true], istrconv_formatBits.vj6⟩], M0 := tabM }
def istrconv_formatBits.H (k : Nat) : List (CutF istrconv_formatBits.S.R) := [⟨istrconv_formatBits.vl0, istrconv_formatBits.l0 k⟩, ⟨istrconv_formatBits.vl1, istrconv_formatBits.l1 k⟩, ⟨istrconv_formatBits.vj2, istrconv_formatBits.j2 k⟩, ⟨istrconv_formatBits.vj5, istrconv_formatBits.j5 k⟩, ⟨istrconv_formatBits.vj6, istrconv_formatBits.j6 k⟩]
def istrconv_FormatUint.f (k : Nat) (x0 : Int) (x1 : Int) : Option (ByteArray) := if x1 = 10 then (if x0 < 100 then ((istrconv_small.f (wrap64 x0)).bind fun t79 => (some t79)) else ((istrconv_numDigits.f k x0).bind fun t83 => (if 24 = (List.replicate 24 (0 : Int)).length then (if 0 ≤ t83 then (if t83 ≤ ((List.replicate 24 (0 : Int)).length : Int) then ((istrconv_formatBase10.f k (((List.replicate 24 (0 : Int)).take (t83 : Int).toNat).drop (0 : Int).toNat) x0).bind fun t84 => (if 24 = ((List.replicate 24 (0 : Int)).take (0 : Int).toNat ++ t84 ++ (List.replicate 24 (0 : Int)).drop (t83 : Int).toNat).length then (if 0 ≤ t83 then (if t83 ≤ (((List.replicate 24 (0 : Int)).take (0 : Int).toNat ++ t84 ++ (List.replicate 24 (0 : Int)).drop (t83 : Int).toNat).length : Int) then (some (strOf ((((List.replicate 24 (0 : Int)).take (0 : Int).toNat ++ t84 ++ (List.replicate 24 (0 : Int)).drop (t83 : Int).toNat).take (t83 : Int).toNat).drop (0 : Int).toNat))) else (none)) else (none)) else (none))) else (none)) else (none)) else (none)))) else ((istrconv_formatBits.f k ([] : List Int) x0 x1 false false).bind fun t109 => (some t109.2))
abbrev istrconv_FormatUint.S : Sig := { ps := [.lf (.i .u64), .lf (.i .i64)], rs := [.lf (.s)], wb := [], R := ByteArray, mkR := fun y0 => some y0, un := fun r => [.str r] }
def istrconv_FormatUint.F (k : Nat) : Fun := { S := istrconv_FormatUint.S, f := istrconv_FormatUint.f k }
def istrconv_FormatUint.C (k : Nat) : Cfg := { T := TT, G := lookG [(79, [istrconv_small.F k]), (80, [istrconv_numDigits.F k]), (81, [istrconv_formatBase10.F k]), (82, [istrconv_formatBits.F k])], nt := 32, cuts := [], M0 := tabM }
def istrconv_FormatUint.H (k : Nat) : List (CutF istrconv_FormatUint.S.R) := []
def strconv_FormatUint.f (k : Nat) (x0 : Int) (x1 : Int) : Option (ByteArray) := (istrconv_FormatUint.f k x0 x1).bind fun t110 => (some t110)
abbrev strconv_FormatUint.S : Sig := { ps := [.lf (.i .u64), .lf (.i .i64)], rs := [.lf (.s)], wb := [], R := ByteArray, mkR := fun y0 => some y0, un := fun r => [.str r] }
def strconv_FormatUint.F (k : Nat) : Fun := { S := strconv_FormatUint.S, f := strconv_FormatUint.f k }
def strconv_FormatUint.C (k : Nat) : Cfg := { T := TT, G := lookG [(67, [istrconv_FormatUint.F k])], nt := 8, cuts := [], M0 := tabM }
def strconv_FormatUint.H (k : Nat) : List (CutF strconv_FormatUint.S.R) := []
abbrev strings_Repeat.S : Sig := { ps := [.lf (.s), .lf (.i .i64)], rs := [.lf (.s)], wb := [], R := ByteArray, mkR := fun y0 => some y0, un := fun r => [.str r] }
def strings_Repeat.F (k : Nat) : Fun := { S := strings_Repeat.S, f := strings_Repeat.f }
def hexa_digits.f (k : Nat) (x0 : Int) (x1 : Int) : Option (ByteArray) := (strconv_FormatUint.f k x0 16).bind fun t111 => ((strings_Repeat.f (⟨#[48]⟩ : ByteArray) (wrap64 (16 - (t111.size : Int)))).bind fun t112 => (if t112.size + t111.size < 35184372088832 then (if 0 ≤ x1 then (if x1 ≤ ((t112 ++ t111).size : Int) then (some ((t112 ++ t111).extract 0 (x1 : Int).toNat)) else (none)) else (none)) else (none)))
abbrev hexa_digits.S : Sig := { ps := [.lf (.i .u64), .lf (.i .i64)], rs := [.lf (.s)], wb := [], R := ByteArray, mkR := fun y0 => some y0, un := fun r => [.str r] }
def hexa_digits.F (k : Nat) : Fun := { S := hexa_digits.S, f := hexa_digits.f k }
def hexa_digits.C (k : Nat) : Cfg := { T := TT, G := lookG [(49, [strconv_FormatUint.F k]), (50, [strings_Repeat.F k])], nt := 16, cuts := [], M0 := tabM }
def hexa_digits.H (k : Nat) : List (CutF hexa_digits.S.R) := []
def dyad_inside.f (x0 : Int) : Option (Bool) := if (-16777216) ≤ x0 then (some (decide (x0 ≤ 16777216))) else (some false)
abbrev dyad_inside.S : Sig := { ps := [.lf (.i .i64)], rs := [.lf (.b)], wb := [], R := Bool, mkR := fun y0 => some y0, un := fun r => [.bool r] }
def dyad_inside.F (k : Nat) : Fun := { S := dyad_inside.S, f := dyad_inside.f }
def dyad_inside.C (k : Nat) : Cfg := { T := TT, G := lookG [], nt := 9, cuts := [], M0 := tabM }
def dyad_inside.H (k : Nat) : List (CutF dyad_inside.S.R) := []
def dyad_May.f (x0_0 : Bool) (x0_1 : List Int) (x0_2 : Int) : Option (Bool) := (nat_May.f x0_1).bind fun t121 => (if (!t121) = true then (some false) else (if (x0_1.length : Int) = 0 then (if (!x0_0) = true then (some (decide (x0_2 = 0))) else (some false)) else (if 0 < (x0_1.length : Int) then (if (Go.bits .and .u32 (rd x0_1 0) 1) = 1 then ((dyad_inside.f x0_2).bind fun t122 => (some t122)) else (some false)) else (none))))
abbrev dyad_May.S : Sig := { ps := [.ag [.b, .is .u32, .i .i64]], rs := [.lf (.b)], wb := [], R := Bool, mkR := fun y0 => some y0, un := fun r => [.bool r] }
def dyad_May.F (k : Nat) : Fun := { S := dyad_May.S, f := dyad_May.f }
def dyad_May.C (k : Nat) : Cfg := { T := TT, G := lookG [(36, [nat_May.F k]), (74, [dyad_inside.F k])], nt := 30, cuts := [], M0 := tabM }
def dyad_May.H (k : Nat) : List (CutF dyad_May.S.R) := []
def dyad_Top.f (k : Nat) (x0_0 : Bool) (x0_1 : List Int) (x0_2 : Int) : Option (Int) := (dyad_May.f x0_0 x0_1 x0_2).bind fun t130 => (if (!t130) = true then (some 0) else (if (x0_1.length : Int) = 0 then (some 0) else ((nat_Len.f k x0_1).bind fun t131 => (some (wrap64 (x0_2 + t131))))))
abbrev dyad_Top.S : Sig := { ps := [.ag [.b, .is .u32, .i .i64]], rs := [.lf (.i .i64)], wb := [], R := Int, mkR := fun y0 => some y0, un := fun r => [.int .i64 r] }
def dyad_Top.F (k : Nat) : Fun := { S := dyad_Top.S, f := dyad_Top.f k }
def dyad_Top.C (k : Nat) : Cfg := { T := TT, G := lookG [(21, [nat_Len.F k]), (52, [dyad_May.F k])], nt := 18, cuts := [], M0 := tabM }
def dyad_Top.H (k : Nat) : List (CutF dyad_Top.S.R) := []
def istrconv_FormatInt.j2 : Nat → Int → List Int → Int → Option (ByteArray)
  | 0, _, _, _ => none
  | k + 1, x0, x5, x6 => (istrconv_numDigits.f k x6).bind fun t149 => (if 24 = x5.length then (if 0 ≤ 1 then (if 1 ≤ (wrap64 (1 + t149)) then (if (wrap64 (1 + t149)) ≤ (x5.length : Int) then ((istrconv_formatBase10.f k ((x5.take (wrap64 (1 + t149) : Int).toNat).drop (1 : Int).toNat) x6).bind fun t150 => (if x0 < 0 then (if 24 = (x5.take (1 : Int).toNat ++ t150 ++ x5.drop (wrap64 (1 + t149) : Int).toNat).length then (if 0 < ((x5.take (1 : Int).toNat ++ t150 ++ x5.drop (wrap64 (1 + t149) : Int).toNat).length : Int) then (if 24 = ((x5.take (1 : Int).toNat ++ t150 ++ x5.drop (wrap64 (1 + t149) : Int).toNat).set (0 : Int).toNat 45).length then (if 0 ≤ (wrap64 (1 + t149)) then (if (wrap64 (1 + t149)) ≤ (((x5.take (1 : Int).toNat ++ t150 ++ x5.drop (wrap64 (1 + t149) : Int).toNat).set (0 : Int).toNat 45).length : Int) then (some (strOf ((((x5.take (1 : Int).toNat ++ t150 ++ x5.drop (wrap64 (1 + t149) : Int).toNat).set (0 : Int).toNat 45).take (wrap64 (1 + t149) : Int).toNat).drop (0 : Int).toNat))) else (none)) else (none)) else (none)) else (none)) else (none)) else (if 24 = (x5.take (1 : Int).toNat ++ t150 ++ x5.drop (wrap64 (1 + t149) : Int).toNat).length then (if 0 ≤ 1 then (if 1 ≤ (wrap64 (1 + t149)) then (if (wrap64 (1 + t149)) ≤ ((x5.take (1 : Int).toNat ++ t150 ++ x5.drop (wrap64 (1 + t149) : Int).toNat).length : Int) then (some (strOf (((x5.take (1 : Int).toNat ++ t150 ++ x5.drop (wrap64 (1 + t149) : Int).toNat).take (wrap64 (1 + t149) : Int).toNat).drop (1 : Int).toNat))) else (none)) else (none)) else (none)) else (none)))) else (none)) else (none)) else (none)) else (none))
def istrconv_FormatInt.f (k : Nat) (x0 : Int) (x1 : Int) : Option (ByteArray) := if x1 = 10 then (if 0 ≤ x0 then (if x0 < 100 then ((istrconv_small.f x0).bind fun t147 => (some t147)) else (if x0 < 0 then (istrconv_FormatInt.j2 k x0 (List.replicate 24 (0 : Int)) (IntKind.u64.wrap (-(IntKind.u64.wrap x0)))) else (istrconv_FormatInt.j2 k x0 (List.replicate 24 (0 : Int)) (IntKind.u64.wrap x0)))) else (if x0 < 0 then (istrconv_FormatInt.j2 k x0 (List.replicate 24 (0 : Int)) (IntKind.u64.wrap (-(IntKind.u64.wrap x0)))) else (istrconv_FormatInt.j2 k x0 (List.replicate 24 (0 : Int)) (IntKind.u64.wrap x0)))) else ((istrconv_formatBits.f k ([] : List Int) (IntKind.u64.wrap x0) x1 (decide (x0 < 0)) false).bind fun t148 => (some t148.2))
abbrev istrconv_FormatInt.S : Sig := { ps := [.lf (.i .i64), .lf (.i .i64)], rs := [.lf (.s)], wb := [], R := ByteArray, mkR := fun y0 => some y0, un := fun r => [.str r] }
def istrconv_FormatInt.F (k : Nat) : Fun := { S := istrconv_FormatInt.S, f := istrconv_FormatInt.f k }
abbrev istrconv_FormatInt.vj2 : List (Nat × Kx) := [(0, .lf (.i .i64)), (5, .ar .u8), (6, .lf (.i .u64))]
def istrconv_FormatInt.C (k : Nat) : Cfg := { T := TT, G := lookG [(79, [istrconv_small.F k]), (80, [istrconv_numDigits.F k]), (81, [istrconv_formatBase10.F k]), (82, [istrconv_formatBits.F k])], nt := 54, cuts := [⟨codeOf [true, false, true, false, true, true, true, true] 1, [true, false, true, false, true, true, true, true], istrconv_FormatInt.vj2⟩], M0 := tabM }
def istrconv_FormatInt.H (k : Nat) : List (CutF istrconv_FormatInt.S.R) := [⟨istrconv_FormatInt.vj2, istrconv_FormatInt.j2 k⟩]
def istrconv_Itoa.f (k : Nat) (x0 : Int) : Option (ByteArray) := (istrconv_FormatInt.f k x0 10).bind fun t151 => (some t151)
abbrev istrconv_Itoa.S : Sig := { ps := [.lf (.i .i64)], rs := [.lf (.s)], wb := [], R := ByteArray, mkR := fun y0 => some y0, un := fun r => [.str r] }
def istrconv_Itoa.F (k : Nat) : Fun := { S := istrconv_Itoa.S, f := istrconv_Itoa.f k }
def istrconv_Itoa.C (k : Nat) : Cfg := { T := TT, G := lookG [(73, [istrconv_FormatInt.F k])], nt := 5, cuts := [], M0 := tabM }
def istrconv_Itoa.H (k : Nat) : List (CutF istrconv_Itoa.S.R) := []
def strconv_Itoa.f (k : Nat) (x0 : Int) : Option (ByteArray) := (istrconv_Itoa.f k x0).bind fun t152 => (some t152)
abbrev strconv_Itoa.S : Sig := { ps := [.lf (.i .i64)], rs := [.lf (.s)], wb := [], R := ByteArray, mkR := fun y0 => some y0, un := fun r => [.str r] }
def strconv_Itoa.F (k : Nat) : Fun := { S := strconv_Itoa.S, f := strconv_Itoa.f k }
def strconv_Itoa.C (k : Nat) : Cfg := { T := TT, G := lookG [(51, [istrconv_Itoa.F k])], nt := 5, cuts := [], M0 := tabM }
def strconv_Itoa.H (k : Nat) : List (CutF strconv_Itoa.S.R) := []
mutual
def hexa_Print.j2 : Nat → Int → Int → Int → ByteArray → Option (ByteArray × Int)
  | 0, _, _, _, _ => none
  | k + 1, x0, x1, x6, x8 => if x6 = 4 then (if x8.size + (⟨#[105, 110, 102]⟩ : ByteArray).size < 35184372088832 then (some (x8 ++ (⟨#[105, 110, 102]⟩ : ByteArray), 0)) else (none)) else (if x6 = 1 then (if x8.size + (⟨#[48, 120, 48, 112, 48]⟩ : ByteArray).size < 35184372088832 then (some (x8 ++ (⟨#[48, 120, 48, 112, 48]⟩ : ByteArray), 0)) else (none)) else ((word_Value.f k x0 x1).bind fun t154 => (if x8.size + (⟨#[48, 120, 49]⟩ : ByteArray).size < 35184372088832 then ((nat_Len.f k t154.2.1).bind fun t155 => (if (wrap64 (t155 - 1)) > 0 then ((nat_Num.f k t154.2.1).bind fun t156 => (if 0 ≤ (wrap64 (64 - (wrap64 (t155 - 1)))) then ((hexa_digits.f k (shl .u64 t156.1 (wrap64 (64 - (wrap64 (t155 - 1))))) (wrap64 (Int.tdiv (wrap64 ((wrap64 (t155 - 1)) + 3)) 4))).bind fun t157 => (if (⟨#[46]⟩ : ByteArray).size + t157.size < 35184372088832 then (if (x8 ++ (⟨#[48, 120, 49]⟩ : ByteArray)).size + ((⟨#[46]⟩ : ByteArray) ++ t157).size < 35184372088832 then (hexa_Print.j4 k ((x8 ++ (⟨#[48, 120, 49]⟩ : ByteArray)) ++ ((⟨#[46]⟩ : ByteArray) ++ t157)) t154.1 t154.2.1 t154.2.2.1) else (none)) else (none))) else (none))) else (hexa_Print.j4 k (x8 ++ (⟨#[48, 120, 49]⟩ : ByteArray)) t154.1 t154.2.1 t154.2.2.1))) else (none))))
def hexa_Print.j4 : Nat → ByteArray → Bool → List Int → Int → Option (ByteArray × Int)
  | 0, _, _, _, _ => none
  | k + 1, x8, x11_0, x11_1, x11_2 => if x8.size + (⟨#[112]⟩ : ByteArray).size < 35184372088832 then ((dyad_Top.f k x11_0 x11_1 x11_2).bind fun t132 => ((strconv_Itoa.f k (wrap64 (t132 - 1))).bind fun t153 => (if (x8 ++ (⟨#[112]⟩ : ByteArray)).size + t153.size < 35184372088832 then (some ((x8 ++ (⟨#[112]⟩ : ByteArray)) ++ t153, 0)) else (none)))) else (none)
end
def hexa_Print.f (k : Nat) (x0 : Int) (x1 : Int) : Option (ByteArray × Int) := (word_Class.f k x0 x1).bind fun t114 => (if ¬ (t114.2 = 0) then (some ((⟨#[]⟩ : ByteArray), t114.2)) else (if t114.1 = 5 then (some ((⟨#[110, 97, 110]⟩ : ByteArray), 0)) else ((word_Split.f k x0 x1).bind fun t115 => (if t115.1 = true then (hexa_Print.j2 k x0 x1 t114.1 (⟨#[45]⟩ : ByteArray)) else (hexa_Print.j2 k x0 x1 t114.1 (⟨#[]⟩ : ByteArray))))))
abbrev hexa_Print.S : Sig := { ps := [.lf (.i .u8), .lf (.i .u64)], rs := [.lf (.s), .lf (.i .i64)], wb := [], R := ByteArray × Int, mkR := fun y0 y1 => some (y0, y1), un := fun r => [.str r.1, .int .i64 r.2] }
def hexa_Print.F (k : Nat) : Fun := { S := hexa_Print.S, f := hexa_Print.f k }
abbrev hexa_Print.vj2 : List (Nat × Kx) := [(0, .lf (.i .u8)), (1, .lf (.i .u64)), (6, .lf (.i .u8)), (8, .lf (.s))]
abbrev hexa_Print.vj4 : List (Nat × Kx) := [(8, .lf (.s)), (11, .bx [.b, .is .u32, .i .i64])]
def hexa_Print.C (k : Nat) : Cfg := { T := TT, G := lookG [(18, [word_Class.F k]), (19, [word_Split.F k]), (20, [word_Value.F k]), (21, [nat_Len.F k]), (22, [nat_Num.F k]), (23, [hexa_digits.F k]), (24, [strconv_Itoa.F k]), (25, [dyad_Top.F k])], nt := 82, cuts := [⟨codeOf [true, true, true, true, true, true] 1, [true, true, true, true, true, true], hexa_Print.vj2⟩, ⟨codeOf [true, true, true, true, true, true, true, true, true, true] 1, [true, true, true, true, true, true, true, true, true, true], hexa_Print.vj4⟩], M0 := tabM }
def hexa_Print.H (k : Nat) : List (CutF hexa_Print.S.R) := [⟨hexa_Print.vj2, hexa_Print.j2 k⟩, ⟨hexa_Print.vj4, hexa_Print.j4 k⟩]
def round_formOf.f (x0 : Int) : Option (Int × Int × Int × Bool) := if x0 = 1 then (some (24, (-149), 128, true)) else (if x0 = 2 then (some (53, (-1074), 1024, true)) else (some (0, 0, 0, false)))
abbrev round_formOf.S : Sig := { ps := [.lf (.i .u8)], rs := [.ag [.i .i64, .i .i64, .i .i64], .lf (.b)], wb := [], R := Int × Int × Int × Bool, mkR := fun y0 y1 y2 y3 => some (y0, y1, y2, y3), un := fun r => [.int .i64 r.1, .int .i64 r.2.1, .int .i64 r.2.2.1, .bool r.2.2.2] }
def round_formOf.F (k : Nat) : Fun := { S := round_formOf.S, f := round_formOf.f }
def round_formOf.C (k : Nat) : Cfg := { T := TT, G := lookG [], nt := 12, cuts := [], M0 := tabM }
def round_formOf.H (k : Nat) : List (CutF round_formOf.S.R) := []
def round_open.l0 : Nat → Int → Int → Int → Int → Int → Int → List (Bool × List Int × Int) → Int → Int → Option (Int × Int × Int × Int)
  | 0, _, _, _, _, _, _, _, _, _ => none
  | k + 1, x6_0, x6_1, x6_2, x8_0, x8_1, x8_2, x27, x28, x29 => if x29 < x28 then (if 0 ≤ x29 then (if x29 < (x27.length : Int) then ((dyad_May.f ((rdT [.b, .is .u32, .i .i64] x27 x29).1) ((rdT [.b, .is .u32, .i .i64] x27 x29).2.1) ((rdT [.b, .is .u32, .i .i64] x27 x29).2.2)).bind fun t170 => (if (!t170) = true then (some (x8_0, x8_1, x8_2, 2)) else (round_open.l0 k x6_0 x6_1 x6_2 x8_0 x8_1 x8_2 x27 x28 (wrap64 (x29 + 1))))) else (none)) else (none)) else (some (x8_0, x8_1, x8_2, 0))
def round_open.f (k : Nat) (x0 : Int) (x1 : Int) (x2 : List (Bool × List Int × Int)) : Option (Int × Int × Int × Int) := (round_formOf.f x0).bind fun t169 => (if (!t169.2.2.2) = true then (some (t169.1, t169.2.1, t169.2.2.1, 4)) else (if x1 < 1 then (some (t169.1, t169.2.1, t169.2.2.1, 5)) else (if x1 > 5 then (some (t169.1, t169.2.1, t169.2.2.1, 5)) else (round_open.l0 k 0 0 0 t169.1 t169.2.1 t169.2.2.1 x2 (x2.length : Int) 0))))
abbrev round_open.S : Sig := { ps := [.lf (.i .u8), .lf (.i .u8), .lf (.rw [.b, .is .u32, .i .i64])], rs := [.ag [.i .i64, .i .i64, .i .i64], .lf (.i .i64)], wb := [], R := Int × Int × Int × Int, mkR := fun y0 y1 y2 y3 => some (y0, y1, y2, y3), un := fun r => [.int .i64 r.1, .int .i64 r.2.1, .int .i64 r.2.2.1, .int .i64 r.2.2.2] }
def round_open.F (k : Nat) : Fun := { S := round_open.S, f := round_open.f k }
abbrev round_open.vl0 : List (Nat × Kx) := [(6, .bx [.i .i64, .i .i64, .i .i64]), (8, .bx [.i .i64, .i .i64, .i .i64]), (27, .lf (.rw [.b, .is .u32, .i .i64])), (28, .lf (.i .i64)), (29, .lf (.i .i64))]
def round_open.C (k : Nat) : Cfg := { T := TT, G := lookG [(52, [dyad_May.F k]), (53, [round_formOf.F k])], nt := 39, cuts := [⟨codeOf [true, true, true, true, false, true, false] 1, [true, true, true, true, false, true, false], round_open.vl0⟩], M0 := tabM }
def round_open.H (k : Nat) : List (CutF round_open.S.R) := [⟨round_open.vl0, round_open.l0 k⟩]
def word_Greatest_1.f (x0_0 : Int) (x0_1 : Int) (x0_2 : Int) : Option (Int) := (word_shape_inf.f x0_0 x0_1 x0_2).bind fun t174 => (some (IntKind.u64.wrap (t174 - 1)))
abbrev word_Greatest_1.S : Sig := { ps := [.ag [.i .i64, .i .i64, .i .u64]], rs := [.lf (.i .u64)], wb := [], R := Int, mkR := fun y0 => some y0, un := fun r => [.int .u64 r] }
def word_Greatest_1.F (k : Nat) : Fun := { S := word_Greatest_1.S, f := word_Greatest_1.f }
def word_Greatest_1.C (k : Nat) : Cfg := { T := TT, G := lookG [(31, [word_shape_inf.F k])], nt := 6, cuts := [], M0 := tabM }
def word_Greatest_1.H (k : Nat) : List (CutF word_Greatest_1.S.R) := []
def word_named_word_Greatest_1.f (k : Nat) (x0 : Int) (x1 : Bool) : Option (Int × Int) := (word_open.f k x0 ([] : List Int)).bind fun t178 => (if ¬ (t178.2.2.2 = 0) then (some (0, t178.2.2.2)) else ((word_Greatest_1.f t178.1 t178.2.1 t178.2.2.1).bind fun t179 => (if x1 = true then (some (Go.bits .or .u64 t179 t178.2.2.1, 0)) else (some (t179, 0)))))
abbrev word_named_word_Greatest_1.S : Sig := { ps := [.lf (.i .u8), .lf (.b), .lf (.fn 54)], rs := [.lf (.i .u64), .lf (.i .i64)], wb := [], R := Int × Int, mkR := fun y0 y1 => some (y0, y1), un := fun r => [.int .u64 r.1, .int .i64 r.2] }
def word_named_word_Greatest_1.F (k : Nat) : Fun := { S := word_named_word_Greatest_1.S, f := word_named_word_Greatest_1.f k }
def word_named_word_Greatest_1.C (k : Nat) : Cfg := { T := TT, G := lookG [(42, [word_open.F k]), (54, [word_Greatest_1.F k])], nt := 28, cuts := [], M0 := tabM }
def word_named_word_Greatest_1.H (k : Nat) : List (CutF word_named_word_Greatest_1.S.R) := []
def word_Greatest.f (k : Nat) (x0 : Int) (x1 : Bool) : Option (Int × Int) := (word_named_word_Greatest_1.f k x0 x1).bind fun t180 => (some (t180.1, t180.2))
abbrev word_Greatest.S : Sig := { ps := [.lf (.i .u8), .lf (.b)], rs := [.lf (.i .u64), .lf (.i .i64)], wb := [], R := Int × Int, mkR := fun y0 y1 => some (y0, y1), un := fun r => [.int .u64 r.1, .int .i64 r.2] }
def word_Greatest.F (k : Nat) : Fun := { S := word_Greatest.S, f := word_Greatest.f k }
def word_Greatest.C (k : Nat) : Cfg := { T := TT, G := lookG [(28, [word_named_word_Greatest_1.F k])], nt := 11, cuts := [], M0 := tabM }
def word_Greatest.H (k : Nat) : List (CutF word_Greatest.S.R) := []
def word_named_word_shape_inf.f (k : Nat) (x0 : Int) (x1 : Bool) : Option (Int × Int) := (word_open.f k x0 ([] : List Int)).bind fun t187 => (if ¬ (t187.2.2.2 = 0) then (some (0, t187.2.2.2)) else ((word_shape_inf.f t187.1 t187.2.1 t187.2.2.1).bind fun t188 => (if x1 = true then (some (Go.bits .or .u64 t188 t187.2.2.1, 0)) else (some (t188, 0)))))
abbrev word_named_word_shape_inf.S : Sig := { ps := [.lf (.i .u8), .lf (.b), .lf (.fn 31)], rs := [.lf (.i .u64), .lf (.i .i64)], wb := [], R := Int × Int, mkR := fun y0 y1 => some (y0, y1), un := fun r => [.int .u64 r.1, .int .i64 r.2] }
def word_named_word_shape_inf.F (k : Nat) : Fun := { S := word_named_word_shape_inf.S, f := word_named_word_shape_inf.f k }
def word_named_word_shape_inf.C (k : Nat) : Cfg := { T := TT, G := lookG [(31, [word_shape_inf.F k]), (42, [word_open.F k])], nt := 28, cuts := [], M0 := tabM }
def word_named_word_shape_inf.H (k : Nat) : List (CutF word_named_word_shape_inf.S.R) := []
def word_Inf.f (k : Nat) (x0 : Int) (x1 : Bool) : Option (Int × Int) := (word_named_word_shape_inf.f k x0 x1).bind fun t189 => (some (t189.1, t189.2))
abbrev word_Inf.S : Sig := { ps := [.lf (.i .u8), .lf (.b)], rs := [.lf (.i .u64), .lf (.i .i64)], wb := [], R := Int × Int, mkR := fun y0 y1 => some (y0, y1), un := fun r => [.int .u64 r.1, .int .i64 r.2] }
def word_Inf.F (k : Nat) : Fun := { S := word_Inf.S, f := word_Inf.f k }
def word_Inf.C (k : Nat) : Cfg := { T := TT, G := lookG [(28, [word_named_word_shape_inf.F k])], nt := 11, cuts := [], M0 := tabM }
def word_Inf.H (k : Nat) : List (CutF word_Inf.S.R) := []
def round_Over.j1 : Nat → Int → Bool → Bool → Option (Int × Int)
  | 0, _, _, _ => none
  | k + 1, x0, x2, x35 => if x35 = true then ((word_Greatest.f k x0 x2).bind fun t194 => (some (t194.1, t194.2))) else ((word_Inf.f k x0 x2).bind fun t195 => (some (t195.1, t195.2)))
def round_Over.f (k : Nat) (x0 : Int) (x1 : Int) (x2 : Bool) : Option (Int × Int) := (round_open.f k x0 x1 []).bind fun t193 => (if ¬ (t193.2.2.2 = 0) then (some (0, t193.2.2.2)) else (if x1 = 3 then (round_Over.j1 k x0 x2 true) else (if x1 = 4 then (if x2 = true then (round_Over.j1 k x0 x2 true) else (if x1 = 5 then (round_Over.j1 k x0 x2 (!x2)) else (round_Over.j1 k x0 x2 false))) else (if x1 = 5 then (round_Over.j1 k x0 x2 (!x2)) else (round_Over.j1 k x0 x2 false)))))
abbrev round_Over.S : Sig := { ps := [.lf (.i .u8), .lf (.i .u8), .lf (.b)], rs := [.lf (.i .u64), .lf (.i .i64)], wb := [], R := Int × Int, mkR := fun y0 y1 => some (y0, y1), un := fun r => [.int .u64 r.1, .int .i64 r.2] }
def round_Over.F (k : Nat) : Fun := { S := round_Over.S, f := round_Over.f k }
abbrev round_Over.vj1 : List (Nat × Kx) := [(0, .lf (.i .u8)), (2, .lf (.b)), (35, .lf (.b))]
def round_Over.C (k : Nat) : Cfg := { T := TT, G := lookG [(13, [word_Inf.F k]), (26, [round_open.F k]), (27, [word_Greatest.F k])], nt := 46, cuts := [⟨codeOf [true, true, false, true] 1, [true, true, false, true], round_Over.vj1⟩], M0 := tabM }
def round_Over.H (k : Nat) : List (CutF round_Over.S.R) := [⟨round_Over.vj1, round_Over.j1 k⟩]
def word_shape_none.f (x0_0 : Int) (x0_1 : Int) (x0_2 : Int) : Option (Int) := (word_shape_inf.f x0_0 x0_1 x0_2).bind fun t198 => (if 0 ≤ (wrap64 (x0_0 - 1)) then (some (Go.bits .or .u64 t198 (shl .u64 1 (wrap64 (x0_0 - 1))))) else (none))
abbrev word_shape_none.S : Sig := { ps := [.ag [.i .i64, .i .i64, .i .u64]], rs := [.lf (.i .u64)], wb := [], R := Int, mkR := fun y0 => some y0, un := fun r => [.int .u64 r] }
def word_shape_none.F (k : Nat) : Fun := { S := word_shape_none.S, f := word_shape_none.f }
def word_shape_none.C (k : Nat) : Cfg := { T := TT, G := lookG [(31, [word_shape_inf.F k])], nt := 10, cuts := [], M0 := tabM }
def word_shape_none.H (k : Nat) : List (CutF word_shape_none.S.R) := []
def word_named_word_shape_none.f (k : Nat) (x0 : Int) (x1 : Bool) : Option (Int × Int) := (word_open.f k x0 ([] : List Int)).bind fun t202 => (if ¬ (t202.2.2.2 = 0) then (some (0, t202.2.2.2)) else ((word_shape_none.f t202.1 t202.2.1 t202.2.2.1).bind fun t203 => (if x1 = true then (some (Go.bits .or .u64 t203 t202.2.2.1, 0)) else (some (t203, 0)))))
abbrev word_named_word_shape_none.S : Sig := { ps := [.lf (.i .u8), .lf (.b), .lf (.fn 29)], rs := [.lf (.i .u64), .lf (.i .i64)], wb := [], R := Int × Int, mkR := fun y0 y1 => some (y0, y1), un := fun r => [.int .u64 r.1, .int .i64 r.2] }
def word_named_word_shape_none.F (k : Nat) : Fun := { S := word_named_word_shape_none.S, f := word_named_word_shape_none.f k }
def word_named_word_shape_none.C (k : Nat) : Cfg := { T := TT, G := lookG [(29, [word_shape_none.F k]), (42, [word_open.F k])], nt := 28, cuts := [], M0 := tabM }
def word_named_word_shape_none.H (k : Nat) : List (CutF word_named_word_shape_none.S.R) := []
def word_None.f (k : Nat) (x0 : Int) : Option (Int × Int) := (word_named_word_shape_none.f k x0 false).bind fun t204 => (some (t204.1, t204.2))
abbrev word_None.S : Sig := { ps := [.lf (.i .u8)], rs := [.lf (.i .u64), .lf (.i .i64)], wb := [], R := Int × Int, mkR := fun y0 y1 => some (y0, y1), un := fun r => [.int .u64 r.1, .int .i64 r.2] }
def word_None.F (k : Nat) : Fun := { S := word_None.S, f := word_None.f k }
def word_None.C (k : Nat) : Cfg := { T := TT, G := lookG [(28, [word_named_word_shape_none.F k])], nt := 8, cuts := [], M0 := tabM }
def word_None.H (k : Nat) : List (CutF word_None.S.R) := []
def istringslite_HasPrefix.f (x0 : ByteArray) (x1 : ByteArray) : Option (Bool) := if (x0.size : Int) ≥ (x1.size : Int) then (if 0 ≤ (x1.size : Int) then (if (x1.size : Int) ≤ (x0.size : Int) then (some (decide (x0.extract 0 ((x1.size : Int) : Int).toNat = x1))) else (none)) else (none)) else (some false)
abbrev istringslite_HasPrefix.S : Sig := { ps := [.lf (.s), .lf (.s)], rs := [.lf (.b)], wb := [], R := Bool, mkR := fun y0 => some y0, un := fun r => [.bool r] }
def istringslite_HasPrefix.F (k : Nat) : Fun := { S := istringslite_HasPrefix.S, f := istringslite_HasPrefix.f }
def istringslite_HasPrefix.C (k : Nat) : Cfg := { T := TT, G := lookG [], nt := 18, cuts := [], M0 := tabM }
def istringslite_HasPrefix.H (k : Nat) : List (CutF istringslite_HasPrefix.S.R) := []
def istringslite_CutPrefix.f (x0 : ByteArray) (x1 : ByteArray) : Option (ByteArray × Bool) := (istringslite_HasPrefix.f x0 x1).bind fun t206 => (if (!t206) = true then (some (x0, false)) else (if 0 ≤ (x1.size : Int) then (if (x1.size : Int) ≤ (x0.size : Int) then (some (x0.extract ((x1.size : Int) : Int).toNat x0.size, true)) else (none)) else (none)))
abbrev istringslite_CutPrefix.S : Sig := { ps := [.lf (.s), .lf (.s)], rs := [.lf (.s), .lf (.b)], wb := [], R := ByteArray × Bool, mkR := fun y0 y1 => some (y0, y1), un := fun r => [.str r.1, .bool r.2] }
def istringslite_CutPrefix.F (k : Nat) : Fun := { S := istringslite_CutPrefix.S, f := istringslite_CutPrefix.f }
def istringslite_CutPrefix.C (k : Nat) : Cfg := { T := TT, G := lookG [(55, [istringslite_HasPrefix.F k])], nt := 15, cuts := [], M0 := tabM }
def istringslite_CutPrefix.H (k : Nat) : List (CutF istringslite_CutPrefix.S.R) := []
def strings_CutPrefix.f (x0 : ByteArray) (x1 : ByteArray) : Option (ByteArray × Bool) := (istringslite_CutPrefix.f x0 x1).bind fun t207 => (some (t207.1, t207.2))
abbrev strings_CutPrefix.S : Sig := { ps := [.lf (.s), .lf (.s)], rs := [.lf (.s), .lf (.b)], wb := [], R := ByteArray × Bool, mkR := fun y0 y1 => some (y0, y1), un := fun r => [.str r.1, .bool r.2] }
def strings_CutPrefix.F (k : Nat) : Fun := { S := strings_CutPrefix.S, f := strings_CutPrefix.f }
def strings_CutPrefix.C (k : Nat) : Cfg := { T := TT, G := lookG [(30, [istringslite_CutPrefix.F k])], nt := 11, cuts := [], M0 := tabM }
def strings_CutPrefix.H (k : Nat) : List (CutF strings_CutPrefix.S.R) := []
abbrev istringslite_IndexByte.S : Sig := { ps := [.lf (.s), .lf (.i .u8)], rs := [.lf (.i .i64)], wb := [], R := Int, mkR := fun y0 => some y0, un := fun r => [.int .i64 r] }
def istringslite_IndexByte.F (k : Nat) : Fun := { S := istringslite_IndexByte.S, f := istringslite_IndexByte.f }
def istringslite_Index.j0 : Nat → ByteArray → ByteArray → Int → Bool → Option (Int)
  | 0, _, _, _, _ => none
  | k + 1, x0, x1, x5, x16 => if x16 = true then (some 0) else (if x5 = 1 then (if 0 < (x1.size : Int) then ((istringslite_IndexByte.f x0 (bt x1 0)).bind fun t212 => (some t212)) else (none)) else (if x5 ≥ (x0.size : Int) then (some (-1)) else (none)))
def istringslite_Index.f (k : Nat) (x0 : ByteArray) (x1 : ByteArray) : Option (Int) := if (x1.size : Int) = 0 then (istringslite_Index.j0 k x0 x1 (x1.size : Int) true) else (istringslite_Index.j0 k x0 x1 (x1.size : Int) (decide (x1 = x0)))
abbrev istringslite_Index.S : Sig := { ps := [.lf (.s), .lf (.s)], rs := [.lf (.i .i64)], wb := [], R := Int, mkR := fun y0 => some y0, un := fun r => [.int .i64 r] }
def istringslite_Index.F (k : Nat) : Fun := { S := istringslite_Index.S, f := istringslite_Index.f k }
abbrev istringslite_Index.vj0 : List (Nat × Kx) := [(0, .lf (.s)), (1, .lf (.s)), (5, .lf (.i .i64)), (16, .lf (.b))]
def istringslite_Index.C (k : Nat) : Cfg := { T := TT, G := lookG [(94, [istringslite_IndexByte.F k])], nt := 143, cuts := [⟨codeOf [true, true, false, false, true] 1, [true, true, false, false, true], istringslite_Index.vj0⟩], M0 := tabM }
def istringslite_Index.H (k : Nat) : List (CutF istringslite_Index.S.R) := [⟨istringslite_Index.vj0, istringslite_Index.j0 k⟩]
def istringslite_Cut.f (k : Nat) (x0 : ByteArray) (x1 : ByteArray) : Option (ByteArray × ByteArray × Bool) := (istringslite_Index.f k x0 x1).bind fun t213 => (if t213 ≥ 0 then (if 0 ≤ t213 then (if t213 ≤ (x0.size : Int) then (if 0 ≤ (wrap64 (t213 + (x1.size : Int))) then (if (wrap64 (t213 + (x1.size : Int))) ≤ (x0.size : Int) then (some (x0.extract 0 (t213 : Int).toNat, x0.extract (wrap64 (t213 + (x1.size : Int)) : Int).toNat x0.size, true)) else (none)) else (none)) else (none)) else (none)) else (some (x0, (⟨#[]⟩ : ByteArray), false)))
abbrev istringslite_Cut.S : Sig := { ps := [.lf (.s), .lf (.s)], rs := [.lf (.s), .lf (.s), .lf (.b)], wb := [], R := ByteArray × ByteArray × Bool, mkR := fun y0 y1 y2 => some (y0, y1, y2), un := fun r => [.str r.1, .str r.2.1, .bool r.2.2] }
def istringslite_Cut.F (k : Nat) : Fun := { S := istringslite_Cut.S, f := istringslite_Cut.f k }
def istringslite_Cut.C (k : Nat) : Cfg := { T := TT, G := lookG [(87, [istringslite_Index.F k])], nt := 23, cuts := [], M0 := tabM }
def istringslite_Cut.H (k : Nat) : List (CutF istringslite_Cut.S.R) := []
def strings_Cut.f (k : Nat) (x0 : ByteArray) (x1 : ByteArray) : Option (ByteArray × ByteArray × Bool) := (istringslite_Cut.f k x0 x1).bind fun t214 => (some (t214.1, t214.2.1, t214.2.2))
abbrev strings_Cut.S : Sig := { ps := [.lf (.s), .lf (.s)], rs := [.lf (.s), .lf (.s), .lf (.b)], wb := [], R := ByteArray × ByteArray × Bool, mkR := fun y0 y1 y2 => some (y0, y1, y2), un := fun r => [.str r.1, .str r.2.1, .bool r.2.2] }
def strings_Cut.F (k : Nat) : Fun := { S := strings_Cut.S, f := strings_Cut.f k }
def strings_Cut.C (k : Nat) : Cfg := { T := TT, G := lookG [(75, [istringslite_Cut.F k])], nt := 13, cuts := [], M0 := tabM }
def strings_Cut.H (k : Nat) : List (CutF strings_Cut.S.R) := []
def hexa_split.f (k : Nat) (x0 : ByteArray) (x1 : Int) : Option (ByteArray × ByteArray × Bool) := (strings_Cut.f k x0 (strOf ([x1] : List Int))).bind fun t215 => (some (t215.1, t215.2.1, t215.2.2))
abbrev hexa_split.S : Sig := { ps := [.lf (.s), .lf (.i .u8)], rs := [.lf (.s), .lf (.s), .lf (.b)], wb := [], R := ByteArray × ByteArray × Bool, mkR := fun y0 y1 y2 => some (y0, y1, y2), un := fun r => [.str r.1, .str r.2.1, .bool r.2.2] }
def hexa_split.F (k : Nat) : Fun := { S := hexa_split.S, f := hexa_split.f k }
def hexa_split.C (k : Nat) : Cfg := { T := TT, G := lookG [(56, [strings_Cut.F k])], nt := 15, cuts := [], M0 := tabM }
def hexa_split.H (k : Nat) : List (CutF hexa_split.S.R) := []
def strings_HasPrefix.f (x0 : ByteArray) (x1 : ByteArray) : Option (Bool) := (istringslite_HasPrefix.f x0 x1).bind fun t217 => (some t217)
abbrev strings_HasPrefix.S : Sig := { ps := [.lf (.s), .lf (.s)], rs := [.lf (.b)], wb := [], R := Bool, mkR := fun y0 => some y0, un := fun r => [.bool r] }
def strings_HasPrefix.F (k : Nat) : Fun := { S := strings_HasPrefix.S, f := strings_HasPrefix.f }
def strings_HasPrefix.C (k : Nat) : Cfg := { T := TT, G := lookG [(55, [istringslite_HasPrefix.F k])], nt := 8, cuts := [], M0 := tabM }
def strings_HasPrefix.H (k : Nat) : List (CutF strings_HasPrefix.S.R) := []
mutual
def hexa_exponent.l0 : Nat → Bool → Int → ByteArray → Int → Option (Int × Bool)
  | 0, _, _, _, _ => none
  | k + 1, x4, x5, x25_0, x25_1 => if (x25_1 : Int).toNat < x25_0.size then (if ((Utf8.decode x25_0 (x25_1 : Int).toNat).1 : Int) < 48 then (some (0, false)) else (if ((Utf8.decode x25_0 (x25_1 : Int).toNat).1 : Int) > 57 then (some (0, false)) else (hexa_exponent.l0 k x4 (wrap64 ((wrap64 (10 * x5)) + (wrap64 (IntKind.i32.wrap (((Utf8.decode x25_0 (x25_1 : Int).toNat).1 : Int) - 48))))) x25_0 (x25_1 + ((Utf8.decode x25_0 (x25_1 : Int).toNat).2 : Int))))) else (if x4 = true then (some (wrap64 (-x5), true)) else (some (x5, true)))
def hexa_exponent.j1 : Nat → ByteArray → Bool → Option (Int × Bool)
  | 0, _, _ => none
  | k + 1, x0, x4 => if x0 = (⟨#[]⟩ : ByteArray) then (some (0, false)) else (if (x0.size : Int) > 6 then (some (0, false)) else (hexa_exponent.l0 k x4 0 x0 0))
end
def hexa_exponent.f (k : Nat) (x0 : ByteArray) : Option (Int × Bool) := (strings_HasPrefix.f x0 (⟨#[45]⟩ : ByteArray)).bind fun t251 => (if t251 = true then (if 0 ≤ 1 then (if 1 ≤ (x0.size : Int) then (hexa_exponent.j1 k (x0.extract (1 : Int).toNat x0.size) t251) else (none)) else (none)) else ((strings_HasPrefix.f x0 (⟨#[43]⟩ : ByteArray)).bind fun t252 => (if t252 = true then (if 0 ≤ 1 then (if 1 ≤ (x0.size : Int) then (hexa_exponent.j1 k (x0.extract (1 : Int).toNat x0.size) t251) else (none)) else (none)) else (hexa_exponent.j1 k x0 t251))))
abbrev hexa_exponent.S : Sig := { ps := [.lf (.s)], rs := [.lf (.i .i64), .lf (.b)], wb := [], R := Int × Bool, mkR := fun y0 y1 => some (y0, y1), un := fun r => [.int .i64 r.1, .bool r.2] }
def hexa_exponent.F (k : Nat) : Fun := { S := hexa_exponent.S, f := hexa_exponent.f k }
abbrev hexa_exponent.vl0 : List (Nat × Kx) := [(4, .lf (.b)), (5, .lf (.i .i64)), (25, .it)]
abbrev hexa_exponent.vj1 : List (Nat × Kx) := [(0, .lf (.s)), (4, .lf (.b))]
def hexa_exponent.C (k : Nat) : Cfg := { T := TT, G := lookG [(57, [strings_HasPrefix.F k])], nt := 45, cuts := [⟨codeOf [true, true, true, true, true, false, true, false] 1, [true, true, true, true, true, false, true, false], hexa_exponent.vl0⟩, ⟨codeOf [true, true, true] 1, [true, true, true], hexa_exponent.vj1⟩], M0 := tabM }
def hexa_exponent.H (k : Nat) : List (CutF hexa_exponent.S.R) := [⟨hexa_exponent.vl0, hexa_exponent.l0 k⟩, ⟨hexa_exponent.vj1, hexa_exponent.j1 k⟩]
mutual
def hexa_value.j0 : Nat → Int → Bool → Option (Int × Bool)
  | 0, _, _ => none
  | k + 1, x0, x4 => if x4 = true then (some ((IntKind.i32.wrap (x0 - 48)) % 4294967296, true)) else (if 97 ≤ x0 then (hexa_value.j1 k x0 (decide (x0 ≤ 102))) else (hexa_value.j1 k x0 false))
def hexa_value.j1 : Nat → Int → Bool → Option (Int × Bool)
  | 0, _, _ => none
  | k + 1, x0, x14 => if x14 = true then (some ((((IntKind.i32.wrap (x0 - 97)) % 4294967296) + 10) % 4294967296, true)) else (some (0, false))
end
def hexa_value.f (k : Nat) (x0 : Int) : Option (Int × Bool) := if 48 ≤ x0 then (hexa_value.j0 k x0 (decide (x0 ≤ 57))) else (hexa_value.j0 k x0 false)
abbrev hexa_value.S : Sig := { ps := [.lf (.i .i32)], rs := [.lf (.i .u32), .lf (.b)], wb := [], R := Int × Bool, mkR := fun y0 y1 => some (y0, y1), un := fun r => [.int .u32 r.1, .bool r.2] }
def hexa_value.F (k : Nat) : Fun := { S := hexa_value.S, f := hexa_value.f k }
abbrev hexa_value.vj0 : List (Nat × Kx) := [(0, .lf (.i .i32)), (4, .lf (.b))]
abbrev hexa_value.vj1 : List (Nat × Kx) := [(0, .lf (.i .i32)), (14, .lf (.b))]
def hexa_value.C (k : Nat) : Cfg := { T := TT, G := lookG [], nt := 25, cuts := [⟨codeOf [true, false, false, true] 1, [true, false, false, true], hexa_value.vj0⟩, ⟨codeOf [true, false, false, true, true, true] 1, [true, false, false, true, true, true], hexa_value.vj1⟩], M0 := tabM }
def hexa_value.H (k : Nat) : List (CutF hexa_value.S.R) := [⟨hexa_value.vj0, hexa_value.j0 k⟩, ⟨hexa_value.vj1, hexa_value.j1 k⟩]
mutual
def hexa_number.l0 : Nat → ByteArray → List Int → Int → Option (List Int × Bool)
  | 0, _, _, _ => none
  | k + 1, x0, x4, x5 => if x5 > 0 then (if 0 ≤ (mx 0 (wrap64 (x5 - 8))) then (if (mx 0 (wrap64 (x5 - 8))) ≤ x5 then (if x5 ≤ (x0.size : Int) then (hexa_number.l1 k x0 x4 x5 0 (x0.extract (mx 0 (wrap64 (x5 - 8)) : Int).toNat (x5 : Int).toNat) 0) else (none)) else (none)) else (none)) else (hexa_number.l2 k x0 x4)
def hexa_number.l1 : Nat → ByteArray → List Int → Int → Int → ByteArray → Int → Option (List Int × Bool)
  | 0, _, _, _, _, _, _ => none
  | k + 1, x0, x4, x5, x6, x23_0, x23_1 => if (x23_1 : Int).toNat < x23_0.size then ((hexa_value.f k ((Utf8.decode x23_0 (x23_1 : Int).toNat).1 : Int)).bind fun t271 => (if (!t271.2) = true then (some (([] : List Int), false)) else (hexa_number.l1 k x0 x4 x5 (Go.bits .or .u32 ((x6 * 16) % 4294967296) t271.1) x23_0 (x23_1 + ((Utf8.decode x23_0 (x23_1 : Int).toNat).2 : Int))))) else (if x4.length + ([x6] : List Int).length < 35184372088832 then (hexa_number.l0 k x0 (x4 ++ ([x6] : List Int)) (wrap64 (x5 - 8))) else (none))
def hexa_number.l2 : Nat → ByteArray → List Int → Option (List Int × Bool)
  | 0, _, _ => none
  | k + 1, x0, x4 => if (x4.length : Int) > 0 then (if 0 ≤ wrap64 ((x4.length : Int) - 1) then (if wrap64 ((x4.length : Int) - 1) < (x4.length : Int) then (if (rd x4 (wrap64 ((x4.length : Int) - 1))) = 0 then (if 0 ≤ (wrap64 ((x4.length : Int) - 1)) then (if (wrap64 ((x4.length : Int) - 1)) ≤ (x4.length : Int) then (hexa_number.l2 k x0 (x4.take (wrap64 ((x4.length : Int) - 1) : Int).toNat)) else (none)) else (none)) else (some (x4, decide (¬ (x0 = (⟨#[]⟩ : ByteArray)))))) else (none)) else (none)) else (some (x4, decide (¬ (x0 = (⟨#[]⟩ : ByteArray)))))
end
def hexa_number.f (k : Nat) (x0 : ByteArray) : Option (List Int × Bool) := hexa_number.l0 k x0 ([] : List Int) (x0.size : Int)
abbrev hexa_number.S : Sig := { ps := [.lf (.s)], rs := [.lf (.is .u32), .lf (.b)], wb := [], R := List Int × Bool, mkR := fun y0 y1 => some (y0, y1), un := fun r => [.ints .u32 r.1, .bool r.2] }
def hexa_number.F (k : Nat) : Fun := { S := hexa_number.S, f := hexa_number.f k }
abbrev hexa_number.vl0 : List (Nat × Kx) := [(0, .lf (.s)), (4, .ow .u32), (5, .lf (.i .i64))]
abbrev hexa_number.vl1 : List (Nat × Kx) := [(0, .lf (.s)), (4, .ow .u32), (5, .lf (.i .i64)), (6, .lf (.i .u32)), (23, .it)]
abbrev hexa_number.vl2 : List (Nat × Kx) := [(0, .lf (.s)), (4, .ow .u32)]
def hexa_number.C (k : Nat) : Cfg := { T := TT, G := lookG [(58, [hexa_value.F k])], nt := 62, cuts := [⟨codeOf [true, true, false, true, false] 1, [true, true, false, true, false], hexa_number.vl0⟩, ⟨codeOf [true, true, false, true, false, false, true, false, false, true, false, true, false] 1, [true, true, false, true, false, false, true, false, false, true, false, true, false], hexa_number.vl1⟩, ⟨codeOf [true, true, true, false, false] 1, [true, true, true, false, false], hexa_number.vl2⟩], M0 := tabM }
def hexa_number.H (k : Nat) : List (CutF hexa_number.S.R) := [⟨hexa_number.vl0, hexa_number.l0 k⟩, ⟨hexa_number.vl1, hexa_number.l1 k⟩, ⟨hexa_number.vl2, hexa_number.l2 k⟩]
def hexa_read.f (k : Nat) (x0 : ByteArray) : Option (List Int × Int × Bool) := (strings_CutPrefix.f x0 (⟨#[48, 120]⟩ : ByteArray)).bind fun t282 => (if (!t282.2) = true then (some (([] : List Int), 0, false)) else ((hexa_split.f k t282.1 112).bind fun t283 => (if (!t283.2.2) = true then (some (([] : List Int), 0, false)) else ((hexa_exponent.f k t283.2.1).bind fun t284 => (if (!t284.2) = true then (some (([] : List Int), 0, false)) else ((hexa_split.f k t283.1 46).bind fun t285 => (if t285.1 = (⟨#[]⟩ : ByteArray) then (some (([] : List Int), 0, false)) else (if t285.2.2 = true then (if t285.2.1 = (⟨#[]⟩ : ByteArray) then (some (([] : List Int), 0, false)) else (if t285.1.size + t285.2.1.size < 35184372088832 then ((hexa_number.f k (t285.1 ++ t285.2.1)).bind fun t286 => (some (t286.1, wrap64 (t284.1 - (wrap64 (4 * (t285.2.1.size : Int)))), t286.2))) else (none))) else (if t285.1.size + t285.2.1.size < 35184372088832 then ((hexa_number.f k (t285.1 ++ t285.2.1)).bind fun t287 => (some (t287.1, wrap64 (t284.1 - (wrap64 (4 * (t285.2.1.size : Int)))), t287.2))) else (none))))))))))
abbrev hexa_read.S : Sig := { ps := [.lf (.s)], rs := [.lf (.is .u32), .lf (.i .i64), .lf (.b)], wb := [], R := List Int × Int × Bool, mkR := fun y0 y1 y2 => some (y0, y1, y2), un := fun r => [.ints .u32 r.1, .int .i64 r.2.1, .bool r.2.2] }
def hexa_read.F (k : Nat) : Fun := { S := hexa_read.S, f := hexa_read.f k }
def hexa_read.C (k : Nat) : Cfg := { T := TT, G := lookG [(12, [strings_CutPrefix.F k]), (32, [hexa_split.F k]), (33, [hexa_exponent.F k]), (34, [hexa_number.F k])], nt := 64, cuts := [], M0 := tabM }
def hexa_read.H (k : Nat) : List (CutF hexa_read.S.R) := []
def word_Zero_1.f (x0_0 : Int) (x0_1 : Int) (x0_2 : Int) : Option (Int) := some 0
abbrev word_Zero_1.S : Sig := { ps := [.ag [.i .i64, .i .i64, .i .u64]], rs := [.lf (.i .u64)], wb := [], R := Int, mkR := fun y0 => some y0, un := fun r => [.int .u64 r] }
def word_Zero_1.F (k : Nat) : Fun := { S := word_Zero_1.S, f := word_Zero_1.f }
def word_Zero_1.C (k : Nat) : Cfg := { T := TT, G := lookG [], nt := 3, cuts := [], M0 := tabM }
def word_Zero_1.H (k : Nat) : List (CutF word_Zero_1.S.R) := []
def word_named_word_Zero_1.f (k : Nat) (x0 : Int) (x1 : Bool) : Option (Int × Int) := (word_open.f k x0 ([] : List Int)).bind fun t293 => (if ¬ (t293.2.2.2 = 0) then (some (0, t293.2.2.2)) else ((word_Zero_1.f t293.1 t293.2.1 t293.2.2.1).bind fun t294 => (if x1 = true then (some (Go.bits .or .u64 t294 t293.2.2.1, 0)) else (some (t294, 0)))))
abbrev word_named_word_Zero_1.S : Sig := { ps := [.lf (.i .u8), .lf (.b), .lf (.fn 35)], rs := [.lf (.i .u64), .lf (.i .i64)], wb := [], R := Int × Int, mkR := fun y0 y1 => some (y0, y1), un := fun r => [.int .u64 r.1, .int .i64 r.2] }
def word_named_word_Zero_1.F (k : Nat) : Fun := { S := word_named_word_Zero_1.S, f := word_named_word_Zero_1.f k }
def word_named_word_Zero_1.C (k : Nat) : Cfg := { T := TT, G := lookG [(35, [word_Zero_1.F k]), (42, [word_open.F k])], nt := 28, cuts := [], M0 := tabM }
def word_named_word_Zero_1.H (k : Nat) : List (CutF word_named_word_Zero_1.S.R) := []
def word_Zero.f (k : Nat) (x0 : Int) (x1 : Bool) : Option (Int × Int) := (word_named_word_Zero_1.f k x0 x1).bind fun t295 => (some (t295.1, t295.2))
abbrev word_Zero.S : Sig := { ps := [.lf (.i .u8), .lf (.b)], rs := [.lf (.i .u64), .lf (.i .i64)], wb := [], R := Int × Int, mkR := fun y0 y1 => some (y0, y1), un := fun r => [.int .u64 r.1, .int .i64 r.2] }
def word_Zero.F (k : Nat) : Fun := { S := word_Zero.S, f := word_Zero.f k }
def word_Zero.C (k : Nat) : Cfg := { T := TT, G := lookG [(28, [word_named_word_Zero_1.F k])], nt := 11, cuts := [], M0 := tabM }
def word_Zero.H (k : Nat) : List (CutF word_Zero.S.R) := []
def dyad_Sign.j0 : Nat → Bool → List Int → Int → Bool → Option (Int)
  | 0, _, _, _, _ => none
  | k + 1, x1_0, x1_1, x1_2, x3 => if x3 = true then (some 0) else (if x1_0 = true then (some (-1)) else (some 1))
def dyad_Sign.f (k : Nat) (x0_0 : Bool) (x0_1 : List Int) (x0_2 : Int) : Option (Int) := (dyad_May.f x0_0 x0_1 x0_2).bind fun t303 => (if (!t303) = true then (dyad_Sign.j0 k x0_0 x0_1 x0_2 true) else (dyad_Sign.j0 k x0_0 x0_1 x0_2 (decide ((x0_1.length : Int) = 0))))
abbrev dyad_Sign.S : Sig := { ps := [.ag [.b, .is .u32, .i .i64]], rs := [.lf (.i .i64)], wb := [], R := Int, mkR := fun y0 => some y0, un := fun r => [.int .i64 r] }
def dyad_Sign.F (k : Nat) : Fun := { S := dyad_Sign.S, f := dyad_Sign.f k }
abbrev dyad_Sign.vj0 : List (Nat × Kx) := [(1, .bx [.b, .is .u32, .i .i64]), (3, .lf (.b))]
def dyad_Sign.C (k : Nat) : Cfg := { T := TT, G := lookG [(52, [dyad_May.F k])], nt := 16, cuts := [⟨codeOf [true, false, false, true] 1, [true, false, false, true], dyad_Sign.vj0⟩], M0 := tabM }
def dyad_Sign.H (k : Nat) : List (CutF dyad_Sign.S.R) := [⟨dyad_Sign.vj0, dyad_Sign.j0 k⟩]
def round_partOf.f (k : Nat) (x0_0 : Bool) (x0_1 : List Int) (x0_2 : Int) : Option (Int × Int × Bool) := (nat_Len.f k x0_1).bind fun t305 => ((nat_Shift.f k x0_1 (wrap64 (64 - t305))).bind fun t306 => ((nat_Num.f k t306.1).bind fun t307 => (some (t307.1, wrap64 (x0_2 + t305), t306.2.1))))
abbrev round_partOf.S : Sig := { ps := [.ag [.b, .is .u32, .i .i64]], rs := [.ag [.i .u64, .i .i64, .b]], wb := [], R := Int × Int × Bool, mkR := fun y0 y1 y2 => some (y0, y1, y2), un := fun r => [.int .u64 r.1, .int .i64 r.2.1, .bool r.2.2] }
def round_partOf.F (k : Nat) : Fun := { S := round_partOf.S, f := round_partOf.f k }
def round_partOf.C (k : Nat) : Cfg := { T := TT, G := lookG [(21, [nat_Len.F k]), (22, [nat_Num.F k]), (38, [nat_Shift.F k])], nt := 33, cuts := [], M0 := tabM }
def round_partOf.H (k : Nat) : List (CutF round_partOf.S.R) := []
def round_up.f (x0 : Int) (x1 : Bool) (x2 : Bool) (x3 : Bool) (x4 : Bool) : Option (Bool) := if x0 = 1 then (if (!x4) = true then (if (!x2) = true then (some false) else (some x3)) else (some x3)) else (if x0 = 2 then (some x3) else (if x0 = 4 then (if (!x1) = true then (if x3 = true then (some true) else (some x4)) else (some false)) else (if x0 = 5 then (if x1 = true then (if x3 = true then (some true) else (some x4)) else (some false)) else (some false))))
abbrev round_up.S : Sig := { ps := [.lf (.i .u8), .lf (.b), .lf (.b), .lf (.b), .lf (.b)], rs := [.lf (.b)], wb := [], R := Bool, mkR := fun y0 => some y0, un := fun r => [.bool r] }
def round_up.F (k : Nat) : Fun := { S := round_up.S, f := round_up.f }
def round_up.C (k : Nat) : Cfg := { T := TT, G := lookG [], nt := 42, cuts := [], M0 := tabM }
def round_up.H (k : Nat) : List (CutF round_up.S.R) := []
def round_btoi.f (x0 : Bool) : Option (Int) := if x0 = true then (some 1) else (some 0)
abbrev round_btoi.S : Sig := { ps := [.lf (.b)], rs := [.lf (.i .u64)], wb := [], R := Int, mkR := fun y0 => some y0, un := fun r => [.int .u64 r] }
def round_btoi.F (k : Nat) : Fun := { S := round_btoi.S, f := round_btoi.f }
def round_btoi.C (k : Nat) : Cfg := { T := TT, G := lookG [], nt := 4, cuts := [], M0 := tabM }
def round_btoi.H (k : Nat) : List (CutF round_btoi.S.R) := []
mutual
def round_part_units.j1 : Nat → Int → Bool → Int → Int → Bool → Int → Int → Bool → Bool → Option (Int × Bool)
  | 0, _, _, _, _, _, _, _, _, _ => none
  | k + 1, x1, x2, x4_0, x4_1, x4_2, x10, x11, x12, x13 => if x10 > 0 then (if 0 ≤ (wrap64 (x10 - 1)) then (if x13 = true then (round_part_units.j2 k x1 x2 x11 (decide ((Go.bits .and .u64 (shr .u64 x4_0 (wrap64 (x10 - 1))) 1) = 1)) true) else (if 0 ≤ (wrap64 (x10 - 1)) then (round_part_units.j2 k x1 x2 x11 (decide ((Go.bits .and .u64 (shr .u64 x4_0 (wrap64 (x10 - 1))) 1) = 1)) (decide (¬ (Go.bits .and .u64 x4_0 (IntKind.u64.wrap ((shl .u64 1 (wrap64 (x10 - 1))) - 1)) = 0)))) else (none))) else (none)) else (round_part_units.j2 k x1 x2 x11 x12 x13)
def round_part_units.j2 : Nat → Int → Bool → Int → Bool → Bool → Option (Int × Bool)
  | 0, _, _, _, _, _ => none
  | k + 1, x1, x2, x11, x12, x13 => (round_up.f x1 x2 (decide ((Go.bits .and .u64 x11 1) = 1)) x12 x13).bind fun t327 => ((round_btoi.f t327).bind fun t328 => (if (!x12) = true then (some (IntKind.u64.wrap (x11 + t328), (!x13))) else (some (IntKind.u64.wrap (x11 + t328), false))))
end
def round_part_units.f (k : Nat) (x0_0 : Int) (x0_1 : Int) (x0_2 : Bool) (x1 : Int) (x2 : Bool) (x3 : Int) : Option (Int × Bool) := if (wrap64 ((wrap64 (x3 - x0_1)) + 64)) > 64 then ((round_up.f x1 x2 false false true).bind fun t325 => ((round_btoi.f t325).bind fun t326 => (some (t326, false)))) else (if (wrap64 ((wrap64 (x3 - x0_1)) + 64)) < 64 then (if 0 ≤ (wrap64 ((wrap64 (x3 - x0_1)) + 64)) then (round_part_units.j1 k x1 x2 x0_0 x0_1 x0_2 (wrap64 ((wrap64 (x3 - x0_1)) + 64)) (shr .u64 x0_0 (wrap64 ((wrap64 (x3 - x0_1)) + 64))) false x0_2) else (none)) else (round_part_units.j1 k x1 x2 x0_0 x0_1 x0_2 (wrap64 ((wrap64 (x3 - x0_1)) + 64)) 0 false x0_2))
abbrev round_part_units.S : Sig := { ps := [.ag [.i .u64, .i .i64, .b], .lf (.i .u8), .lf (.b), .lf (.i .i64)], rs := [.lf (.i .u64), .lf (.b)], wb := [], R := Int × Bool, mkR := fun y0 y1 => some (y0, y1), un := fun r => [.int .u64 r.1, .bool r.2] }
def round_part_units.F (k : Nat) : Fun := { S := round_part_units.S, f := round_part_units.f k }
abbrev round_part_units.vj1 : List (Nat × Kx) := [(1, .lf (.i .u8)), (2, .lf (.b)), (4, .bx [.i .u64, .i .i64, .b]), (10, .lf (.i .i64)), (11, .lf (.i .u64)), (12, .lf (.b)), (13, .lf (.b))]
abbrev round_part_units.vj2 : List (Nat × Kx) := [(1, .lf (.i .u8)), (2, .lf (.b)), (11, .lf (.i .u64)), (12, .lf (.b)), (13, .lf (.b))]
def round_part_units.C (k : Nat) : Cfg := { T := TT, G := lookG [(76, [round_btoi.F k]), (77, [round_up.F k])], nt := 70, cuts := [⟨codeOf [true, true, true, true, true] 1, [true, true, true, true, true], round_part_units.vj1⟩, ⟨codeOf [true, true, true, true, true, true] 1, [true, true, true, true, true, true], round_part_units.vj2⟩], M0 := tabM }
def round_part_units.H (k : Nat) : List (CutF round_part_units.S.R) := [⟨round_part_units.vj1, round_part_units.j1 k⟩, ⟨round_part_units.vj2, round_part_units.j2 k⟩]
def word_shape_join.f (x0_0 : Int) (x0_1 : Int) (x0_2 : Int) (x1_0 : Bool) (x1_1 : Int) (x1_2 : Int) : Option (Int) := if 0 ≤ x0_0 then (if x1_0 = true then (some (Go.bits .or .u64 (Go.bits .or .u64 (shl .u64 (IntKind.u64.wrap x1_1) x0_0) x1_2) x0_2)) else (some (Go.bits .or .u64 (shl .u64 (IntKind.u64.wrap x1_1) x0_0) x1_2))) else (none)
abbrev word_shape_join.S : Sig := { ps := [.ag [.i .i64, .i .i64, .i .u64], .ag [.b, .i .i64, .i .u64]], rs := [.lf (.i .u64)], wb := [], R := Int, mkR := fun y0 => some y0, un := fun r => [.int .u64 r] }
def word_shape_join.F (k : Nat) : Fun := { S := word_shape_join.S, f := word_shape_join.f }
def word_shape_join.C (k : Nat) : Cfg := { T := TT, G := lookG [], nt := 22, cuts := [], M0 := tabM }
def word_shape_join.H (k : Nat) : List (CutF word_shape_join.S.R) := []
def word_Of.f (k : Nat) (x0 : Int) (x1_0 : Bool) (x1_1 : List Int) (x1_2 : Int) : Option (Int × Int) := (word_open.f k x0 ([] : List Int)).bind fun t363 => (if ¬ (t363.2.2.2 = 0) then (some (0, t363.2.2.2)) else ((dyad_May.f x1_0 x1_1 x1_2).bind fun t364 => (if (!t364) = true then (some (0, 2)) else ((nat_Num.f k x1_1).bind fun t365 => ((bits_Len64.f k t365.1).bind fun t366 => (if (!t365.2) = true then (some (0, 7)) else (if t366 > (wrap64 (t363.1 + 1)) then (some (0, 7)) else (if ¬ (t365.1 = 0) then ((word_shape_low.f t363.1 t363.2.1 t363.2.2.1).bind fun t367 => (if x1_2 < t367 then (some (0, 7)) else (if (wrap64 (x1_2 + t366)) > (wrap64 ((wrap64 (Int.tdiv t363.2.1 2)) + 1)) then (some (0, 7)) else (if t365.1 = 0 then (some (0, 0)) else ((word_shape_low.f t363.1 t363.2.1 t363.2.2.1).bind fun t368 => (if 0 ≤ (wrap64 (x1_2 - (mx (wrap64 ((wrap64 ((wrap64 (x1_2 + t366)) - t363.1)) - 1)) t368))) then ((word_shape_low.f t363.1 t363.2.1 t363.2.2.1).bind fun t369 => (if 0 ≤ t363.1 then ((word_shape_join.f t363.1 t363.2.1 t363.2.2.1 x1_0 0 (IntKind.u64.wrap ((shl .u64 (IntKind.u64.wrap (wrap64 ((mx (wrap64 ((wrap64 ((wrap64 (x1_2 + t366)) - t363.1)) - 1)) t368) - t369))) t363.1) + (shl .u64 t365.1 (wrap64 (x1_2 - (mx (wrap64 ((wrap64 ((wrap64 (x1_2 + t366)) - t363.1)) - 1)) t368))))))).bind fun t370 => (some (t370, 0))) else (none))) else (none))))))) else (if t365.1 = 0 then (some (0, 0)) else ((word_shape_low.f t363.1 t363.2.1 t363.2.2.1).bind fun t371 => (if 0 ≤ (wrap64 (x1_2 - (mx (wrap64 ((wrap64 ((wrap64 (x1_2 + t366)) - t363.1)) - 1)) t371))) then ((word_shape_low.f t363.1 t363.2.1 t363.2.2.1).bind fun t372 => (if 0 ≤ t363.1 then ((word_shape_join.f t363.1 t363.2.1 t363.2.2.1 x1_0 0 (IntKind.u64.wrap ((shl .u64 (IntKind.u64.wrap (wrap64 ((mx (wrap64 ((wrap64 ((wrap64 (x1_2 + t366)) - t363.1)) - 1)) t371) - t372))) t363.1) + (shl .u64 t365.1 (wrap64 (x1_2 - (mx (wrap64 ((wrap64 ((wrap64 (x1_2 + t366)) - t363.1)) - 1)) t371))))))).bind fun t373 => (some (t373, 0))) else (none))) else (none))))))))))))
abbrev word_Of.S : Sig := { ps := [.lf (.i .u8), .ag [.b, .is .u32, .i .i64]], rs := [.lf (.i .u64), .lf (.i .i64)], wb := [], R := Int × Int, mkR := fun y0 y1 => some (y0, y1), un := fun r => [.int .u64 r.1, .int .i64 r.2] }
def word_Of.F (k : Nat) : Fun := { S := word_Of.S, f := word_Of.f k }
def word_Of.C (k : Nat) : Cfg := { T := TT, G := lookG [(22, [nat_Num.F k]), (42, [word_open.F k]), (47, [word_shape_low.F k]), (52, [dyad_May.F k]), (63, [bits_Len64.F k]), (78, [word_shape_join.F k])], nt := 95, cuts := [], M0 := tabM }
def word_Of.H (k : Nat) : List (CutF word_Of.S.R) := []
def round_part_word.j1 : Nat → Int → Bool → Int → Int → Bool → Int → Int → Int → Bool → Int → Option (Int × Int)
  | 0, _, _, _, _, _, _, _, _, _, _ => none
  | k + 1, x3, x4, x5_0, x5_1, x5_2, x7_0, x7_1, x7_2, x14, x19 => if x14 = true then (some (x19, 0)) else ((round_part_units.f k x5_0 x5_1 x5_2 x3 x4 (wrap64 (x5_1 - x7_0))).bind fun t383 => ((bits_Len64.f k t383.1).bind fun t384 => (if (wrap64 ((wrap64 (t384 + x5_1)) - x7_0)) < (wrap64 (x7_1 + x7_0)) then (some (x19, 24)) else (some (x19, 16)))))
def round_part_word.f (k : Nat) (x0_0 : Int) (x0_1 : Int) (x0_2 : Bool) (x1 : Int) (x2_0 : Int) (x2_1 : Int) (x2_2 : Int) (x3 : Int) (x4 : Bool) : Option (Int × Int) := (round_part_units.f k x0_0 x0_1 x0_2 x3 x4 (mx (wrap64 (x0_1 - x2_0)) x2_1)).bind fun t376 => ((bits_Len64.f k t376.1).bind fun t377 => (if (wrap64 (t377 + (mx (wrap64 (x0_1 - x2_0)) x2_1))) > x2_2 then ((round_Over.f k x1 x3 x4).bind fun t378 => (some (t378.1, 20))) else ((nat_Of.f k t376.1).bind fun t379 => ((dyad_Make.f k x4 t379 (mx (wrap64 (x0_1 - x2_0)) x2_1)).bind fun t380 => ((word_Of.f k x1 t380.1 t380.2.1 t380.2.2.1).bind fun t381 => (if t376.1 = 0 then ((word_Zero.f k x1 x4).bind fun t382 => (round_part_word.j1 k x3 x4 x0_0 x0_1 x0_2 x2_0 x2_1 x2_2 t376.2 t382.1)) else (round_part_word.j1 k x3 x4 x0_0 x0_1 x0_2 x2_0 x2_1 x2_2 t376.2 t381.1)))))))
abbrev round_part_word.S : Sig := { ps := [.ag [.i .u64, .i .i64, .b], .lf (.i .u8), .ag [.i .i64, .i .i64, .i .i64], .lf (.i .u8), .lf (.b)], rs := [.lf (.i .u64), .lf (.i .u8)], wb := [], R := Int × Int, mkR := fun y0 y1 => some (y0, y1), un := fun r => [.int .u64 r.1, .int .u8 r.2] }
def round_part_word.F (k : Nat) : Fun := { S := round_part_word.S, f := round_part_word.f k }
abbrev round_part_word.vj1 : List (Nat × Kx) := [(3, .lf (.i .u8)), (4, .lf (.b)), (5, .bx [.i .u64, .i .i64, .b]), (7, .bx [.i .i64, .i .i64, .i .i64]), (14, .lf (.b)), (19, .lf (.i .u64))]
def round_part_word.C (k : Nat) : Cfg := { T := TT, G := lookG [(10, [round_Over.F k]), (15, [word_Zero.F k]), (16, [dyad_Make.F k]), (46, [nat_Of.F k]), (62, [round_part_units.F k]), (63, [bits_Len64.F k]), (64, [word_Of.F k])], nt := 106, cuts := [⟨codeOf [true, true, true, true, true, true, true] 1, [true, true, true, true, true, true, true], round_part_word.vj1⟩], M0 := tabM }
def round_part_word.H (k : Nat) : List (CutF round_part_word.S.R) := [⟨round_part_word.vj1, round_part_word.j1 k⟩]
def round_Round.f (k : Nat) (x0 : Int) (x1 : Int) (x2_0 : Bool) (x2_1 : List Int) (x2_2 : Int) : Option (Int × Int × Int) := (round_open.f k x0 x1 [(x2_0, x2_1, x2_2)]).bind fun t298 => (if ¬ (t298.2.2.2 = 0) then (some (0, 0, t298.2.2.2)) else ((dyad_Sign.f k x2_0 x2_1 x2_2).bind fun t304 => (if t304 = 0 then (some (0, 0, 0)) else ((round_partOf.f k x2_0 x2_1 x2_2).bind fun t308 => ((round_part_word.f k t308.1 t308.2.1 t308.2.2 x0 t298.1 t298.2.1 t298.2.2.1 x1 x2_0).bind fun t385 => (some (t385.1, t385.2, 0)))))))
abbrev round_Round.S : Sig := { ps := [.lf (.i .u8), .lf (.i .u8), .ag [.b, .is .u32, .i .i64]], rs := [.lf (.i .u64), .lf (.i .u8), .lf (.i .i64)], wb := [], R := Int × Int × Int, mkR := fun y0 y1 y2 => some (y0, y1, y2), un := fun r => [.int .u64 r.1, .int .u8 r.2.1, .int .i64 r.2.2] }
def round_Round.F (k : Nat) : Fun := { S := round_Round.S, f := round_Round.f k }
def round_Round.C (k : Nat) : Cfg := { T := TT, G := lookG [(26, [round_open.F k]), (39, [dyad_Sign.F k]), (40, [round_partOf.F k]), (41, [round_part_word.F k])], nt := 40, cuts := [], M0 := tabM }
def round_Round.H (k : Nat) : List (CutF round_Round.S.R) := []
def hexa_Parse.f (k : Nat) (x0 : Int) (x1 : Int) (x2 : ByteArray) : Option (Int × Int × Int) := (round_Over.f k x0 x1 false).bind fun t196 => (if ¬ (t196.2 = 0) then (some (0, 0, t196.2)) else (if (x2.size : Int) > 1200 then (some (0, 0, 3)) else (if x2 = (⟨#[110, 97, 110]⟩ : ByteArray) then ((word_None.f k x0).bind fun t205 => (some (t205.1, 0, t205.2))) else ((strings_CutPrefix.f x2 (⟨#[45]⟩ : ByteArray)).bind fun t208 => (if t208.1 = (⟨#[105, 110, 102]⟩ : ByteArray) then ((word_Inf.f k x0 t208.2).bind fun t209 => (some (t209.1, 0, t209.2))) else ((hexa_read.f k t208.1).bind fun t288 => (if (!t288.2.2) = true then (some (0, 0, 12)) else (if (t288.1.length : Int) = 0 then ((word_Zero.f k x0 t208.2).bind fun t296 => (some (t296.1, 0, t296.2))) else ((dyad_Make.f k t208.2 t288.1 t288.2.1).bind fun t297 => ((round_Round.f k x0 x1 t297.1 t297.2.1 t297.2.2.1).bind fun t386 => (some (t386.1, t386.2.1, t386.2.2))))))))))))
abbrev hexa_Parse.S : Sig := { ps := [.lf (.i .u8), .lf (.i .u8), .lf (.s)], rs := [.lf (.i .u64), .lf (.i .u8), .lf (.i .i64)], wb := [], R := Int × Int × Int, mkR := fun y0 y1 y2 => some (y0, y1, y2), un := fun r => [.int .u64 r.1, .int .u8 r.2.1, .int .i64 r.2.2] }
def hexa_Parse.F (k : Nat) : Fun := { S := hexa_Parse.S, f := hexa_Parse.f k }
def hexa_Parse.C (k : Nat) : Cfg := { T := TT, G := lookG [(10, [round_Over.F k]), (11, [word_None.F k]), (12, [strings_CutPrefix.F k]), (13, [word_Inf.F k]), (14, [hexa_read.F k]), (15, [word_Zero.F k]), (16, [dyad_Make.F k]), (17, [round_Round.F k])], nt := 94, cuts := [], M0 := tabM }
def hexa_Parse.H (k : Nat) : List (CutF hexa_Parse.S.R) := []
def cutplanelaw09_known.f (k : Nat) : Option (Bool) := (hexa_Print.f k 1 3217031168).bind fun t390 => ((hexa_Parse.f k 1 4 tx_03c0852d).bind fun t391 => (if t390.1 = (⟨#[45, 48, 120, 49, 46, 56, 112, 48]⟩ : ByteArray) then (if t390.2 = 0 then (if t391.1 = 1065353217 then (if t391.2.1 = 16 then (some (decide (t391.2.2 = 0))) else (some false)) else (some false)) else (some false)) else (some false)))
abbrev cutplanelaw09_known.S : Sig := { ps := [], rs := [.lf (.b)], wb := [], R := Bool, mkR := fun y0 => some y0, un := fun r => [.bool r] }
def cutplanelaw09_known.F (k : Nat) : Fun := { S := cutplanelaw09_known.S, f := cutplanelaw09_known.f k }
def cutplanelaw09_known.C (k : Nat) : Cfg := { T := TT, G := lookG [(7, [hexa_Parse.F k]), (9, [hexa_Print.F k])], nt := 33, cuts := [], M0 := tabM }
def cutplanelaw09_known.H (k : Nat) : List (CutF cutplanelaw09_known.S.R) := []
mutual
def cutplanelaw09_told.l0 : Nat → Int → ByteArray → ByteArray → Option (ByteArray)
  | 0, _, _, _ => none
  | k + 1, x0, x3, x4 => if x0 > 0 then (if 0 ≤ (Int.tmod x0 10) then (if (Int.tmod x0 10) ≤ (wrap64 ((Int.tmod x0 10) + 1)) then (if (wrap64 ((Int.tmod x0 10) + 1)) ≤ ((⟨#[48, 49, 50, 51, 52, 53, 54, 55, 56, 57]⟩ : ByteArray).size : Int) then (if ((⟨#[48, 49, 50, 51, 52, 53, 54, 55, 56, 57]⟩ : ByteArray).extract (Int.tmod x0 10 : Int).toNat (wrap64 ((Int.tmod x0 10) + 1) : Int).toNat).size + x4.size < 35184372088832 then (cutplanelaw09_told.l0 k (wrap64 (Int.tdiv x0 10)) x3 (((⟨#[48, 49, 50, 51, 52, 53, 54, 55, 56, 57]⟩ : ByteArray).extract (Int.tmod x0 10 : Int).toNat (wrap64 ((Int.tmod x0 10) + 1) : Int).toNat) ++ x4)) else (none)) else (none)) else (none)) else (none)) else (if x4 = (⟨#[]⟩ : ByteArray) then (if 0 ≤ (Int.tmod x0 10) then (if (Int.tmod x0 10) ≤ (wrap64 ((Int.tmod x0 10) + 1)) then (if (wrap64 ((Int.tmod x0 10) + 1)) ≤ ((⟨#[48, 49, 50, 51, 52, 53, 54, 55, 56, 57]⟩ : ByteArray).size : Int) then (if ((⟨#[48, 49, 50, 51, 52, 53, 54, 55, 56, 57]⟩ : ByteArray).extract (Int.tmod x0 10 : Int).toNat (wrap64 ((Int.tmod x0 10) + 1) : Int).toNat).size + x4.size < 35184372088832 then (cutplanelaw09_told.l0 k (wrap64 (Int.tdiv x0 10)) x3 (((⟨#[48, 49, 50, 51, 52, 53, 54, 55, 56, 57]⟩ : ByteArray).extract (Int.tmod x0 10 : Int).toNat (wrap64 ((Int.tmod x0 10) + 1) : Int).toNat) ++ x4)) else (none)) else (none)) else (none)) else (none)) else (if x3.size + x4.size < 35184372088832 then (some (x3 ++ x4)) else (none)))
def cutplanelaw09_told.j0 : Nat → Int → ByteArray → Option (ByteArray)
  | 0, _, _ => none
  | k + 1, x0, x3 => cutplanelaw09_told.l0 k x0 x3 (⟨#[]⟩ : ByteArray)
end
def cutplanelaw09_told.f (k : Nat) (x0 : Int) : Option (ByteArray) := if x0 < 0 then (cutplanelaw09_told.j0 k (wrap64 (-x0)) (⟨#[45]⟩ : ByteArray)) else (cutplanelaw09_told.j0 k x0 (⟨#[]⟩ : ByteArray))
abbrev cutplanelaw09_told.S : Sig := { ps := [.lf (.i .i64)], rs := [.lf (.s)], wb := [], R := ByteArray, mkR := fun y0 => some y0, un := fun r => [.str r] }
def cutplanelaw09_told.F (k : Nat) : Fun := { S := cutplanelaw09_told.S, f := cutplanelaw09_told.f k }
abbrev cutplanelaw09_told.vl0 : List (Nat × Kx) := [(0, .lf (.i .i64)), (3, .lf (.s)), (4, .lf (.s))]
abbrev cutplanelaw09_told.vj0 : List (Nat × Kx) := [(0, .lf (.i .i64)), (3, .lf (.s))]
def cutplanelaw09_told.C (k : Nat) : Cfg := { T := TT, G := lookG [], nt := 28, cuts := [⟨codeOf [true, true, true, true, false, false] 1, [true, true, true, true, false, false], cutplanelaw09_told.vl0⟩, ⟨codeOf [true, true, true] 1, [true, true, true], cutplanelaw09_told.vj0⟩], M0 := tabM }
def cutplanelaw09_told.H (k : Nat) : List (CutF cutplanelaw09_told.S.R) := [⟨cutplanelaw09_told.vl0, cutplanelaw09_told.l0 k⟩, ⟨cutplanelaw09_told.vj0, cutplanelaw09_told.j0 k⟩]
def cutplanelaw09_HexaMoved.f (k : Nat) (x0 : Int) (x1 : Int) (x2 : ByteArray) (x3 : ByteArray) (x4 : Int) : Option (Bool) := (cutplaneref03_Is.f x0).bind fun t456 => (if (!t456) = true then ((cutplanelaw09_known.f k).bind fun t457 => (some t457)) else ((cutplaneref04_Is.f x1).bind fun t458 => (if (!t458) = true then ((cutplanelaw09_known.f k).bind fun t459 => (some t459)) else (if (wrap64 ((x2.size : Int) + (x3.size : Int))) > 1000 then ((cutplanelaw09_known.f k).bind fun t460 => (some t460)) else (if x4 < (-9999) then ((cutplanelaw09_known.f k).bind fun t461 => (some t461)) else (if x4 > 9999 then ((cutplanelaw09_known.f k).bind fun t462 => (some t462)) else (if (⟨#[48, 120]⟩ : ByteArray).size + x2.size < 35184372088832 then (if ((⟨#[48, 120]⟩ : ByteArray) ++ x2).size + (⟨#[46]⟩ : ByteArray).size < 35184372088832 then (if (((⟨#[48, 120]⟩ : ByteArray) ++ x2) ++ (⟨#[46]⟩ : ByteArray)).size + x3.size < 35184372088832 then (if ((((⟨#[48, 120]⟩ : ByteArray) ++ x2) ++ (⟨#[46]⟩ : ByteArray)) ++ x3).size + (⟨#[112]⟩ : ByteArray).size < 35184372088832 then ((cutplanelaw09_told.f k x4).bind fun t463 => (if (((((⟨#[48, 120]⟩ : ByteArray) ++ x2) ++ (⟨#[46]⟩ : ByteArray)) ++ x3) ++ (⟨#[112]⟩ : ByteArray)).size + t463.size < 35184372088832 then ((hexa_Parse.f k x0 x1 ((((((⟨#[48, 120]⟩ : ByteArray) ++ x2) ++ (⟨#[46]⟩ : ByteArray)) ++ x3) ++ (⟨#[112]⟩ : ByteArray)) ++ t463)).bind fun t464 => (if ¬ (t464.2.2 = 0) then (if t464.2.2 = 12 then (if t464.1 = 0 then (if t464.2.1 = 0 then ((cutplanelaw09_known.f k).bind fun t465 => (some t465)) else (some false)) else (some false)) else (some false)) else (if (⟨#[48, 120, 48]⟩ : ByteArray).size + x2.size < 35184372088832 then (if ((⟨#[48, 120, 48]⟩ : ByteArray) ++ x2).size + (⟨#[46]⟩ : ByteArray).size < 35184372088832 then (if (((⟨#[48, 120, 48]⟩ : ByteArray) ++ x2) ++ (⟨#[46]⟩ : ByteArray)).size + x3.size < 35184372088832 then (if ((((⟨#[48, 120, 48]⟩ : ByteArray) ++ x2) ++ (⟨#[46]⟩ : ByteArray)) ++ x3).size + (⟨#[48, 112]⟩ : ByteArray).size < 35184372088832 then ((cutplanelaw09_told.f k x4).bind fun t466 => (if (((((⟨#[48, 120, 48]⟩ : ByteArray) ++ x2) ++ (⟨#[46]⟩ : ByteArray)) ++ x3) ++ (⟨#[48, 112]⟩ : ByteArray)).size + t466.size < 35184372088832 then ((hexa_Parse.f k x0 x1 ((((((⟨#[48, 120, 48]⟩ : ByteArray) ++ x2) ++ (⟨#[46]⟩ : ByteArray)) ++ x3) ++ (⟨#[48, 112]⟩ : ByteArray)) ++ t466)).bind fun t467 => (if (⟨#[48, 120]⟩ : ByteArray).size + x2.size < 35184372088832 then (if ((⟨#[48, 120]⟩ : ByteArray) ++ x2).size + x3.size < 35184372088832 then (if (((⟨#[48, 120]⟩ : ByteArray) ++ x2) ++ x3).size + (⟨#[112]⟩ : ByteArray).size < 35184372088832 then ((cutplanelaw09_told.f k (wrap64 (x4 - (wrap64 (4 * (x3.size : Int)))))).bind fun t468 => (if ((((⟨#[48, 120]⟩ : ByteArray) ++ x2) ++ x3) ++ (⟨#[112]⟩ : ByteArray)).size + t468.size < 35184372088832 then ((hexa_Parse.f k x0 x1 (((((⟨#[48, 120]⟩ : ByteArray) ++ x2) ++ x3) ++ (⟨#[112]⟩ : ByteArray)) ++ t468)).bind fun t469 => (if (⟨#[48, 120, 48, 46, 48]⟩ : ByteArray).size + x2.size < 35184372088832 then (if ((⟨#[48, 120, 48, 46, 48]⟩ : ByteArray) ++ x2).size + x3.size < 35184372088832 then (if (((⟨#[48, 120, 48, 46, 48]⟩ : ByteArray) ++ x2) ++ x3).size + (⟨#[112]⟩ : ByteArray).size < 35184372088832 then ((cutplanelaw09_told.f k (wrap64 ((wrap64 (x4 + (wrap64 (4 * (x2.size : Int))))) + 4))).bind fun t470 => (if ((((⟨#[48, 120, 48, 46, 48]⟩ : ByteArray) ++ x2) ++ x3) ++ (⟨#[112]⟩ : ByteArray)).size + t470.size < 35184372088832 then ((hexa_Parse.f k x0 x1 (((((⟨#[48, 120, 48, 46, 48]⟩ : ByteArray) ++ x2) ++ x3) ++ (⟨#[112]⟩ : ByteArray)) ++ t470)).bind fun t471 => (if t467.2.2 = 0 then (if t469.2.2 = 0 then (if t471.2.2 = 0 then (if t467.1 = t464.1 then (if t469.1 = t464.1 then (if t471.1 = t464.1 then (if t464.2.1 = t467.2.1 then (if t464.2.1 = t469.2.1 then (if t464.2.1 = t471.2.1 then ((cutplanelaw09_known.f k).bind fun t472 => (some t472)) else (some false)) else (some false)) else (some false)) else (some false)) else (some false)) else (some false)) else (some false)) else (some false)) else (some false))) else (none))) else (none)) else (none)) else (none))) else (none))) else (none)) else (none)) else (none))) else (none))) else (none)) else (none)) else (none)) else (none)))) else (none))) else (none)) else (none)) else (none)) else (none))))))))
abbrev cutplanelaw09_HexaMoved.S : Sig := { ps := [.lf (.i .u8), .lf (.i .u8), .lf (.s), .lf (.s), .lf (.i .i64)], rs := [.lf (.b)], wb := [], R := Bool, mkR := fun y0 => some y0, un := fun r => [.bool r] }
def cutplanelaw09_HexaMoved.F (k : Nat) : Fun := { S := cutplanelaw09_HexaMoved.S, f := cutplanelaw09_HexaMoved.f k }
def cutplanelaw09_HexaMoved.C (k : Nat) : Cfg := { T := TT, G := lookG [(4, [cutplaneref03_Is.F k]), (5, [cutplaneref04_Is.F k]), (6, [cutplanelaw09_known.F k]), (7, [hexa_Parse.F k]), (8, [cutplanelaw09_told.F k])], nt := 177, cuts := [], M0 := tabM }
def cutplanelaw09_HexaMoved.H (k : Nat) : List (CutF cutplanelaw09_HexaMoved.S.R) := []
end Go.Proofs.YtbcjdlljmhfhdaaDoor.Eng

