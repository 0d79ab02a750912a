import Derived.Test.YtlngoohfkaceoaaDoorEng2
import Derived.Test.YtlngoohfkaceoaaDoorProg
import Derived.KernelRfl
import Derived.Lib.TrailingZeros
import Derived.Lib.Repeat
import Derived.Lib.Bytealg
set_option linter.unusedVariables false
set_option linter.unusedSimpArgs false
namespace Go.Proofs.YtlngoohfkaceoaaDoor.Eng
open Go.RowKit Go.Proofs
set_option maxRecDepth 100000
def TL : List (Nat × TI) := [(2, ⟨.int .i64, 1, 8, [(.int .i64)]⟩),
 (3, ⟨.int .i64, 1, 8, [(.int .i64)]⟩),
 (4, ⟨.bool, 1, 1, [.bool]⟩),
 (5, ⟨.int .u8, 1, 1, [(.int .u8)]⟩),
 (6, ⟨.int .u8, 1, 1, [(.int .u8)]⟩),
 (7, ⟨.struct [(0, 2), (1, 3), (2, 4), (3, 6)], 4, 24, [(.int .i64), (.int .i64), .bool, (.int .u8)]⟩),
 (8, ⟨.struct [(0, 2), (1, 3), (2, 4), (3, 6)], 4, 24, [(.int .i64), (.int .i64), .bool, (.int .u8)]⟩),
 (9, ⟨.str, 1, 16, [.str]⟩),
 (10, ⟨.str, 1, 16, [.str]⟩),
 (11, ⟨.str, 1, 16, [.str]⟩),
 (12, ⟨.int .u64, 1, 8, [(.int .u64)]⟩),
 (13, ⟨.struct [(0, 9), (1, 12)], 2, 24, [.str, (.int .u64)]⟩),
 (14, ⟨.struct [(0, 9), (1, 12)], 2, 24, [.str, (.int .u64)]⟩),
 (15, ⟨.ptr 126, 1, 8, [.ptr]⟩),
 (16, ⟨.ptr 129, 1, 8, [.ptr]⟩),
 (17, ⟨.ptr 138, 1, 8, [.ptr]⟩),
 (18, ⟨.struct [(0, 17)], 1, 8, [.ptr]⟩),
 (19, ⟨.struct [(0, 17)], 1, 8, [.ptr]⟩),
 (21, ⟨.int .i32, 1, 4, [(.int .i32)]⟩),
 (22, ⟨.int .i64, 1, 8, [(.int .i64)]⟩),
 (25, ⟨.ptr 52, 1, 8, [.ptr]⟩),
 (27, ⟨.slice 42, 1, 24, [(.slice (some .u32))]⟩),
 (28, ⟨.struct [(0, 4), (1, 27), (2, 3)], 3, 40, [.bool, (.slice (some .u32)), (.int .i64)]⟩),
 (29, ⟨.struct [(0, 4), (1, 27), (2, 3)], 3, 40, [.bool, (.slice (some .u32)), (.int .i64)]⟩),
 (39, ⟨.struct [], 0, 0, []⟩),
 (40, ⟨.struct [], 0, 0, []⟩),
 (41, ⟨.struct [], 0, 0, []⟩),
 (42, ⟨.int .u32, 1, 4, [(.int .u32)]⟩),
 (45, ⟨.struct [(0, 21), (1, 42)], 2, 8, [(.int .i32), (.int .u32)]⟩),
 (46, ⟨.struct [(0, 21), (1, 42)], 2, 8, [(.int .i32), (.int .u32)]⟩),
 (51, ⟨.struct [(0, 50), (3, 29), (6, 29)], 9, 96, [(.int .u32), (.int .i32), (.int .u32), .bool, (.slice (some .u32)), (.int .i64), .bool, (.slice (some .u32)), (.int .i64)]⟩),
 (52, ⟨.struct [(0, 50), (3, 29), (6, 29)], 9, 96, [(.int .u32), (.int .i32), (.int .u32), .bool, (.slice (some .u32)), (.int .i64), .bool, (.slice (some .u32)), (.int .i64)]⟩),
 (60, ⟨.int .u64, 1, 8, [(.int .u64)]⟩),
 (64, ⟨.struct [(0, 2), (1, 60)], 2, 16, [(.int .i64), (.int .u64)]⟩),
 (65, ⟨.struct [(0, 2), (1, 60)], 2, 16, [(.int .i64), (.int .u64)]⟩),
 (67, ⟨.int .u64, 1, 8, [(.int .u64)]⟩),
 (69, ⟨.ptr 50, 1, 8, [.ptr]⟩),
 (70, ⟨.slice 65, 1, 24, [(.slice none)]⟩),
 (79, ⟨.ptr 44, 1, 8, [.ptr]⟩),
 (81, ⟨.ptr 42, 1, 8, [.ptr]⟩),
 (90, ⟨.ptr 48, 1, 8, [.ptr]⟩),
 (93, ⟨.slice 29, 1, 24, [(.slice none)]⟩),
 (104, ⟨.ptr 46, 1, 8, [.ptr]⟩),
 (106, ⟨.ptr 21, 1, 8, [.ptr]⟩),
 (111, ⟨.slice 27, 1, 24, [(.slice none)]⟩),
 (118, ⟨.arr 32 5, 32, 32, [(.int .u8), (.int .u8), (.int .u8), (.int .u8), (.int .u8), (.int .u8), (.int .u8), (.int .u8), (.int .u8), (.int .u8), (.int .u8), (.int .u8), (.int .u8), (.int .u8), (.int .u8), (.int .u8), (.int .u8), (.int .u8), (.int .u8), (.int .u8), (.int .u8), (.int .u8), (.int .u8), (.int .u8), (.int .u8), (.int .u8), (.int .u8), (.int .u8), (.int .u8), (.int .u8), (.int .u8), (.int .u8)]⟩),
 (125, ⟨.struct [(0, 17), (1, 17), (2, 17), (3, 9)], 4, 40, [.ptr, .ptr, .ptr, .str]⟩),
 (126, ⟨.struct [(0, 17), (1, 17), (2, 17), (3, 9)], 4, 40, [.ptr, .ptr, .ptr, .str]⟩),
 (127, ⟨.arr 0 16, 0, 0, []⟩),
 (128, ⟨.struct [(0, 127)], 0, 0, []⟩),
 (129, ⟨.struct [(0, 127)], 0, 0, []⟩),
 (131, ⟨.int .u8, 1, 1, [(.int .u8)]⟩),
 (132, ⟨.int .u8, 1, 1, [(.int .u8)]⟩),
 (134, ⟨.ptr 5, 1, 8, [.ptr]⟩),
 (135, ⟨.int .i32, 1, 4, [(.int .i32)]⟩),
 (136, ⟨.int .i32, 1, 4, [(.int .i32)]⟩)]
def TT : Nat → Option TI := qef TL
def zcO : ByteArray := ⟨#[0, 1, 2, 2, 3, 3, 3, 3, 4, 4, 4, 4, 4, 4, 4, 4, 5, 5, 5, 5, 5, 5, 5, 5, 5, 5, 5, 5, 5, 5, 5, 5, 6, 6, 6, 6, 6, 6, 6, 6, 6, 6, 6, 6, 6, 6, 6, 6, 6, 6, 6, 6, 6, 6, 6, 6, 6, 6, 6, 6, 6, 6, 6, 6, 7, 7, 7, 7, 7, 7, 7, 7, 7, 7, 7, 7, 7, 7, 7, 7, 7, 7, 7, 7, 7, 7, 7, 7, 7, 7, 7, 7, 7, 7, 7, 7, 7, 7, 7, 7, 7, 7, 7, 7, 7, 7, 7, 7, 7, 7, 7, 7, 7, 7, 7, 7, 7, 7, 7, 7, 7, 7, 7, 7, 7, 7, 7, 7, 8, 8, 8, 8, 8, 8, 8, 8, 8, 8, 8, 8, 8, 8, 8, 8, 8, 8, 8, 8, 8, 8, 8, 8, 8, 8, 8, 8, 8, 8, 8, 8, 8, 8, 8, 8, 8, 8, 8, 8, 8, 8, 8, 8, 8, 8, 8, 8, 8, 8, 8, 8, 8, 8, 8, 8, 8, 8, 8, 8, 8, 8, 8, 8, 8, 8, 8, 8, 8, 8, 8, 8, 8, 8, 8, 8, 8, 8, 8, 8, 8, 8, 8, 8, 8, 8, 8, 8, 8, 8, 8, 8, 8, 8, 8, 8, 8, 8, 8, 8, 8, 8, 8, 8, 8, 8, 8, 8, 8, 8, 8, 8, 8, 8, 8, 8, 8, 8, 8, 8, 8, 8, 8, 8, 8, 8, 8, 8]⟩
def z5.f (x : Int) : Option Int := if 0 ≤ x ∧ x < 4294967296 then some (Lib.ctz 32 x.toNat : Int) else none
def zo : Nat → Nat → Option Value := fun b o => if b = 0 ∧ o < 32 then some (.int .u8 (Lib.deBruijn32tab.getD o 0)) else none
def zaC.f (x0 : Int) : Option (Int) := if x0 < 1 then (some 2) else (if x0 > 8192 then (some 3) else (some 0))
def zaS.f : Option (Int × Int × Int × Bool × List Int × Int × Bool × List Int × Int) := some (0, 0, 0, false, ([] : List Int), 0, false, ([] : List Int), 0)
def zh.l0 : Nat → List Int → Option (List Int)
 | 0, _ => none
 | k + 1, x0 => if (x0.length : Int) > 0 then (if 0 ≤ wrap64 ((x0.length : Int) - 1) then (if wrap64 ((x0.length : Int) - 1) < (x0.length : Int) then (if (rd x0 (wrap64 ((x0.length : Int) - 1))) = 0 then (if 0 ≤ (wrap64 ((x0.length : Int) - 1)) then (if (wrap64 ((x0.length : Int) - 1)) ≤ (x0.length : Int) then (zh.l0 k (x0.take (wrap64 ((x0.length : Int) - 1) : Int).toNat)) else (none)) else (none)) else (some x0)) else (none)) else (none)) else (some x0)
def zh.f (k : Nat) (x0 : List Int) : Option (List Int) := zh.l0 k x0
def zI.f (k : Nat) (x0 : Int) : Option (List Int) := (zh.f k ([x0 % 4294967296, (x0 / 4294967296) % 4294967296] : List Int)).bind fun t5 => (some t5)
def zO.f (x0 : List Int) : Option (Bool) := if (x0.length : Int) ≤ 4096 then (if (x0.length : Int) = 0 then (some true) else (if 0 ≤ wrap64 ((x0.length : Int) - 1) then (if wrap64 ((x0.length : Int) - 1) < (x0.length : Int) then (some (decide (¬ (rd x0 (wrap64 ((x0.length : Int) - 1)) = 0)))) else (none)) else (none))) else (some false)
abbrev z5.S : Sig := { ps := [.lf (.i .u32)], rs := [.lf (.i .i64)], wb := [], R := Int, mkR := fun y0 => some y0, un := fun r => [.int .i64 r] }
def z5.F (k : Nat) : Fun := { S := z5.S, f := z5.f }
def zK.l0 : Nat → List Int → Int → Int → Option (Int)
 | 0, _, _, _ => none
 | k + 1, x8, x9, x10 => if x10 < x9 then (if 0 ≤ x10 then (if x10 < (x8.length : Int) then (if ¬ (rd x8 x10 = 0) then ((z5.f (rd x8 x10)).bind fun t10 => (some (wrap64 ((wrap64 (32 * x10)) + t10)))) else (zK.l0 k x8 x9 (wrap64 (x10 + 1)))) else (none)) else (none)) else (some 0)
def zK.f (k : Nat) (x0 : List Int) : Option (Int) := (zO.f x0).bind fun t9 => (if (!t9) = true then (some 0) else (zK.l0 k x0 (x0.length : Int) 0))
def zP.l0 : Nat → List Int → Int → List Int → List Int → Int → Int → Option (List Int)
 | 0, _, _, _, _, _, _ => none
 | k + 1, x0, x5, x6, x23, x24, x25 => if x25 < x24 then (if 0 ≤ x25 then (if x25 < (x23.length : Int) then (if 0 ≤ x5 then (if 0 ≤ x25 then (if x25 < (x6.length : Int) then (if (wrap64 (x25 + 1)) < (x0.length : Int) then (if 0 ≤ x25 then (if x25 < ((x6.set (x25 : Int).toNat (shr .u32 (rd x23 x25) x5)).length : Int) then (if 0 ≤ wrap64 (x25 + 1) then (if wrap64 (x25 + 1) < (x0.length : Int) then (if 0 ≤ (wrap64 (32 - x5)) then (if 0 ≤ x25 then (if x25 < ((x6.set (x25 : Int).toNat (shr .u32 (rd x23 x25) x5)).length : Int) then (zP.l0 k x0 x5 ((x6.set (x25 : Int).toNat (shr .u32 (rd x23 x25) x5)).set (x25 : Int).toNat (Go.bits .or .u32 (rd (x6.set (x25 : Int).toNat (shr .u32 (rd x23 x25) x5)) x25) ((shl .u64 (IntKind.u64.wrap (rd x0 (wrap64 (x25 + 1)))) (wrap64 (32 - x5))) % 4294967296))) x23 x24 (wrap64 (x25 + 1))) else (none)) else (none)) else (none)) else (none)) else (none)) else (none)) else (none)) else (zP.l0 k x0 x5 (x6.set (x25 : Int).toNat (shr .u32 (rd x23 x25) x5)) x23 x24 (wrap64 (x25 + 1)))) else (none)) else (none)) else (none)) else (none)) else (none)) else ((zh.f k x6).bind fun t18 => (some t18))
def zP.f (k : Nat) (x0 : List Int) (x1 : Int) : Option (List Int) := if (wrap64 (Int.tdiv x1 32)) ≥ (x0.length : Int) then (some ([] : List Int)) else (if 0 ≤ (wrap64 (Int.tdiv x1 32)) then (if (wrap64 (Int.tdiv x1 32)) ≤ (x0.length : Int) then (if 0 ≤ ((x0.drop (wrap64 (Int.tdiv x1 32) : Int).toNat).length : Int) then (if (((x0.drop (wrap64 (Int.tdiv x1 32) : Int).toNat).length : Int) : Int).toNat ≤ 70368744177664 then (zP.l0 k (x0.drop (wrap64 (Int.tdiv x1 32) : Int).toNat) (Int.tmod x1 32) (List.replicate (((x0.drop (wrap64 (Int.tdiv x1 32) : Int).toNat).length : Int) : Int).toNat (0 : Int)) (x0.drop (wrap64 (Int.tdiv x1 32) : Int).toNat) ((x0.drop (wrap64 (Int.tdiv x1 32) : Int).toNat).length : Int) 0) else (none)) else (none)) else (none)) else (none))
mutual
def zC.j0 : Nat → Int → Int → Option (Int)
 | 0, _, _ => none
 | k + 1, x0, x2 => if x0 ≥ 256 then (zC.j1 k (x0 / 256) (wrap64 (x2 + 8))) else (zC.j1 k x0 x2)
def zC.j1 : Nat → Int → Int → Option (Int)
 | 0, _, _ => none
 | k + 1, x0, x2 => if 0 ≤ x0 % 256 then (if x0 % 256 < (zcO.size : Int) then (some (wrap64 (x2 + (wrap64 (bt zcO (x0 % 256)))))) else (none)) else (none)
end
def zC.f (k : Nat) (x0 : Int) : Option (Int) := if x0 ≥ 65536 then (zC.j0 k (x0 / 65536) 16) else (zC.j0 k x0 0)
def zaa.f (k : Nat) (x0 : List Int) : Option (Int) := (zO.f x0).bind fun t28 => (if (!t28) = true then (some 0) else (if (x0.length : Int) = 0 then (some 0) else (if 0 ≤ wrap64 ((x0.length : Int) - 1) then (if wrap64 ((x0.length : Int) - 1) < (x0.length : Int) then ((zC.f k (rd x0 (wrap64 ((x0.length : Int) - 1)))).bind fun t29 => (some (wrap64 ((wrap64 (32 * (wrap64 ((x0.length : Int) - 1)))) + t29)))) else (none)) else (none))))
def zQ.l0 : Nat → List Int → Int → Int → List Int → Int → Int → Option (List Int)
 | 0, _, _, _, _, _, _ => none
 | k + 1, x5, x6, x7, x24, x25, x26 => if x26 < x25 then (if 0 ≤ x26 then (if x26 < (x24.length : Int) then (if 0 ≤ x6 then (if x5.length + ([Go.bits .or .u32 (shl .u32 (rd x24 x26) x6) x7] : List Int).length < 35184372088832 then (if 0 ≤ (wrap64 (32 - x6)) then (zQ.l0 k (x5 ++ ([Go.bits .or .u32 (shl .u32 (rd x24 x26) x6) x7] : List Int)) x6 ((shr .u64 (IntKind.u64.wrap (rd x24 x26)) (wrap64 (32 - x6))) % 4294967296) x24 x25 (wrap64 (x26 + 1))) else (none)) else (none)) else (none)) else (none)) else (none)) else (if x5.length + ([x7] : List Int).length < 35184372088832 then ((zh.f k (x5 ++ ([x7] : List Int))).bind fun t31 => (some t31)) else (none))
def zQ.f (k : Nat) (x0 : List Int) (x1 : Int) : Option (List Int) := if (x0.length : Int) = 0 then (some ([] : List Int)) else (if 0 ≤ (wrap64 (Int.tdiv x1 32)) then (if (wrap64 (Int.tdiv x1 32)) ≤ (wrap64 ((wrap64 ((wrap64 (Int.tdiv x1 32)) + (x0.length : Int))) + 1)) then (if (wrap64 ((wrap64 ((wrap64 (Int.tdiv x1 32)) + (x0.length : Int))) + 1) : Int).toNat ≤ 70368744177664 then (zQ.l0 k (List.replicate (wrap64 (Int.tdiv x1 32) : Int).toNat (0 : Int)) (Int.tmod x1 32) 0 x0 (x0.length : Int) 0) else (none)) else (none)) else (none))
def zF.f (k : Nat) (x0 : List Int) (x1 : Int) : Option (List Int × Bool × Int) := (zO.f x0).bind fun t16 => (if (!t16) = true then (some (([] : List Int), false, 2)) else (if (x0.length : Int) = 0 then (some (([] : List Int), false, 0)) else (if x1 < (-131072) then (some (([] : List Int), true, 0)) else (if x1 < 0 then ((zP.f k x0 (wrap64 (-x1))).bind fun t19 => ((zK.f k x0).bind fun t20 => (some (t19, decide (t20 < (wrap64 (-x1))), 0)))) else ((zaa.f k x0).bind fun t30 => (if x1 > (wrap64 (131072 - t30)) then (some (([] : List Int), false, 3)) else ((zQ.f k x0 x1).bind fun t32 => (some (t32, false, 0)))))))))
def zt.f (k : Nat) (x0 : Bool) (x1 : List Int) (x2 : Int) : Option (Bool × List Int × Int × Int) := (zO.f x1).bind fun t39 => (if (!t39) = true then (some (false, ([] : List Int), 0, 2)) else (if (x1.length : Int) = 0 then (some (false, ([] : List Int), 0, 0)) else ((zK.f k x1).bind fun t40 => (if x2 > (wrap64 (16777216 - t40)) then (some (false, ([] : List Int), 0, 20)) else (if x2 < (wrap64 ((-16777216) - t40)) then (some (false, ([] : List Int), 0, 20)) else ((zF.f k x1 (wrap64 (-t40))).bind fun t41 => (some (x0, t41.1, wrap64 (x2 + t40), 0))))))))
def zah.j0 : Nat → Int → Bool → List Int → Int → Int → Option (Bool × List Int × Int)
 | 0, _, _, _, _, _ => none
 | k + 1, x0, x2_0, x2_1, x2_2, x3 => (zI.f k x3).bind fun t6 => ((zt.f k (decide (x0 < 0)) t6 0).bind fun t42 => (some (t42.1, t42.2.1, t42.2.2.1)))
def zah.f (k : Nat) (x0 : Int) : Option (Bool × List Int × Int) := if x0 < 0 then (zah.j0 k x0 false ([] : List Int) 0 (IntKind.u64.wrap (-(IntKind.u64.wrap x0)))) else (zah.j0 k x0 false ([] : List Int) 0 (IntKind.u64.wrap x0))
def zx.l0 : Nat → List (List Int) → Int → Int → Option (Bool)
 | 0, _, _, _ => none
 | k + 1, x5, x6, x7 => if x7 < x6 then (if 0 ≤ x7 then (if x7 < (x5.length : Int) then ((zO.f (rdT [.is .u32] x5 x7)).bind fun t47 => (if (!t47) = true then (some false) else (zx.l0 k x5 x6 (wrap64 (x7 + 1))))) else (none)) else (none)) else (some true)
def zx.f (k : Nat) (x0 : List (List Int)) : Option (Bool) := zx.l0 k x0 (x0.length : Int) 0
def zL.l0 : Nat → List Int → List Int → Int → Option (Int)
 | 0, _, _, _ => none
 | k + 1, x0, x1, x5 => if x5 ≥ 0 then (if 0 ≤ x5 then (if x5 < (x0.length : Int) then (if 0 ≤ x5 then (if x5 < (x1.length : Int) then (if ¬ (rd x0 x5 = rd x1 x5) then (if 0 ≤ x5 then (if x5 < (x0.length : Int) then (if 0 ≤ x5 then (if x5 < (x1.length : Int) then (if (rd x0 x5) < (rd x1 x5) then (some (-1)) else (some 1)) else (none)) else (none)) else (none)) else (none)) else (zL.l0 k x0 x1 (wrap64 (x5 - 1)))) else (none)) else (none)) else (none)) else (none)) else (some 0)
def zL.f (k : Nat) (x0 : List Int) (x1 : List Int) : Option (Int) := if (x0.length : Int) < (x1.length : Int) then (some (-1)) else (if (x0.length : Int) > (x1.length : Int) then (some 1) else (zL.l0 k x0 x1 (wrap64 ((x0.length : Int) - 1))))
def za6.f (x0 : Int) (x1 : Int) (x2 : Int) : Option (Int × Int) := if ¬ (x2 = 0) then (if x2 ≤ x0 then (none) else (if (IntKind.u64.wrap x2) = 0 then (none) else (if (IntKind.u64.wrap x2) = 0 then (none) else (some ((IntKind.u64.wrap (Int.tdiv (Go.bits .or .u64 (IntKind.u64.wrap ((IntKind.u64.wrap x0) * 4294967296)) (IntKind.u64.wrap x1)) (IntKind.u64.wrap x2))) % 4294967296, (Int.tmod (Go.bits .or .u64 (IntKind.u64.wrap ((IntKind.u64.wrap x0) * 4294967296)) (IntKind.u64.wrap x1)) (IntKind.u64.wrap x2)) % 4294967296))))) else (if (IntKind.u64.wrap x2) = 0 then (none) else (if (IntKind.u64.wrap x2) = 0 then (none) else (some ((IntKind.u64.wrap (Int.tdiv (Go.bits .or .u64 (IntKind.u64.wrap ((IntKind.u64.wrap x0) * 4294967296)) (IntKind.u64.wrap x1)) (IntKind.u64.wrap x2))) % 4294967296, (Int.tmod (Go.bits .or .u64 (IntKind.u64.wrap ((IntKind.u64.wrap x0) * 4294967296)) (IntKind.u64.wrap x1)) (IntKind.u64.wrap x2)) % 4294967296))))
def zab.l0 : Nat → List Int → Int → List Int → Int → Int → Option (List Int × Int)
 | 0, _, _, _, _, _ => none
 | k + 1, x0, x1, x6, x7, x8 => if x8 ≥ 0 then (if 0 ≤ x8 then (if x8 < (x0.length : Int) then ((za6.f x7 (rd x0 x8) x1).bind fun t50 => (if 0 ≤ x8 then (if x8 < (x6.length : Int) then (zab.l0 k x0 x1 (x6.set (x8 : Int).toNat t50.1) t50.2 (wrap64 (x8 - 1))) else (none)) else (none))) else (none)) else (none)) else ((zh.f k x6).bind fun t51 => (some (t51, x7)))
def zab.f (k : Nat) (x0 : List Int) (x1 : Int) : Option (List Int × Int) := if 0 ≤ (x0.length : Int) then (if ((x0.length : Int) : Int).toNat ≤ 70368744177664 then (zab.l0 k x0 x1 (List.replicate ((x0.length : Int) : Int).toNat (0 : Int)) 0 (wrap64 ((x0.length : Int) - 1))) else (none)) else (none)
def za7.f (k : Nat) (x0 : Int) : Option (Int) := (zC.f k x0).bind fun t54 => (some (wrap64 (32 - t54)))
def zap.f (x0 : Int) (x1 : Int) (x2 : Int) : Option (Int × Int) := some ((((x0 - x1) % 4294967296) - x2) % 4294967296, (Go.bits .or .u32 (Go.bits .and .u32 (Go.bits .xor .u32 4294967295 x0) x1) (Go.bits .and .u32 (Go.bits .xor .u32 4294967295 (Go.bits .xor .u32 x0 x1)) ((((x0 - x1) % 4294967296) - x2) % 4294967296))) / 2147483648)
def zay.f (x0 : Int) (x1 : Int) (x2 : Int) : Option (Int × Int) := some ((IntKind.u64.wrap ((IntKind.u64.wrap ((IntKind.u64.wrap x0) + (IntKind.u64.wrap x1))) + (IntKind.u64.wrap x2))) % 4294967296, ((IntKind.u64.wrap ((IntKind.u64.wrap ((IntKind.u64.wrap x0) + (IntKind.u64.wrap x1))) + (IntKind.u64.wrap x2))) / 4294967296) % 4294967296)
mutual
def zk.l0 : Nat → List Int → List Int → Int → Int → Int → Option (Int × List Int)
 | 0, _, _, _, _, _ => none
 | k + 1, x0, x1, x5, x7, x8 => if x7 ≥ 4294967296 then (if 0 ≤ wrap64 (x5 - 1) then (if wrap64 (x5 - 1) < (x1.length : Int) then (if (IntKind.u64.wrap (x8 + (IntKind.u64.wrap (rd x1 (wrap64 (x5 - 1)))))) ≥ 4294967296 then (zk.l1 k x0 x1 x5 (IntKind.u64.wrap (x7 - 1)) 0 0 x1 (x1.length : Int) 0) else (zk.l0 k x0 x1 x5 (IntKind.u64.wrap (x7 - 1)) (IntKind.u64.wrap (x8 + (IntKind.u64.wrap (rd x1 (wrap64 (x5 - 1)))))))) else (none)) else (none)) else (if 0 ≤ wrap64 (x5 - 2) then (if wrap64 (x5 - 2) < (x1.length : Int) then (if 0 ≤ wrap64 (x5 - 2) then (if wrap64 (x5 - 2) < (x0.length : Int) then (if (IntKind.u64.wrap (x7 * (IntKind.u64.wrap (rd x1 (wrap64 (x5 - 2)))))) > (Go.bits .or .u64 (IntKind.u64.wrap (x8 * 4294967296)) (IntKind.u64.wrap (rd x0 (wrap64 (x5 - 2))))) then (if 0 ≤ wrap64 (x5 - 1) then (if wrap64 (x5 - 1) < (x1.length : Int) then (if (IntKind.u64.wrap (x8 + (IntKind.u64.wrap (rd x1 (wrap64 (x5 - 1)))))) ≥ 4294967296 then (zk.l1 k x0 x1 x5 (IntKind.u64.wrap (x7 - 1)) 0 0 x1 (x1.length : Int) 0) else (zk.l0 k x0 x1 x5 (IntKind.u64.wrap (x7 - 1)) (IntKind.u64.wrap (x8 + (IntKind.u64.wrap (rd x1 (wrap64 (x5 - 1)))))))) else (none)) else (none)) else (zk.l1 k x0 x1 x5 x7 0 0 x1 (x1.length : Int) 0)) else (none)) else (none)) else (none)) else (none))
def zk.l1 : Nat → List Int → List Int → Int → Int → Int → Int → List Int → Int → Int → Option (Int × List Int)
 | 0, _, _, _, _, _, _, _, _, _ => none
 | k + 1, x0, x1, x5, x7, x9, x10, x81, x82, x83 => if x83 < x82 then (if 0 ≤ x83 then (if x83 < (x81.length : Int) then (if 0 ≤ x83 then (if x83 < (x0.length : Int) then ((zap.f (rd x0 x83) ((IntKind.u64.wrap (x10 + (IntKind.u64.wrap (x7 * (IntKind.u64.wrap (rd x81 x83)))))) % 4294967296) x9).bind fun t77 => (if 0 ≤ x83 then (if x83 < (x0.length : Int) then (zk.l1 k (x0.set (x83 : Int).toNat t77.1) x1 x5 x7 t77.2 ((IntKind.u64.wrap (x10 + (IntKind.u64.wrap (x7 * (IntKind.u64.wrap (rd x81 x83)))))) / 4294967296) x81 x82 (wrap64 (x83 + 1))) else (none)) else (none))) else (none)) else (none)) else (none)) else (none)) else (if 0 ≤ x5 then (if x5 < (x0.length : Int) then ((zap.f (rd x0 x5) (x10 % 4294967296) x9).bind fun t78 => (if 0 ≤ x5 then (if x5 < (x0.length : Int) then (if t78.2 = 0 then (some (x7 % 4294967296, x0.set (x5 : Int).toNat t78.1)) else (zk.l2 k (x0.set (x5 : Int).toNat t78.1) x5 x7 0 x1 (x1.length : Int) 0)) else (none)) else (none))) else (none)) else (none))
def zk.l2 : Nat → List Int → Int → Int → Int → List Int → Int → Int → Option (Int × List Int)
 | 0, _, _, _, _, _, _, _ => none
 | k + 1, x0, x5, x7, x13, x129, x130, x131 => if x131 < x130 then (if 0 ≤ x131 then (if x131 < (x129.length : Int) then (if 0 ≤ x131 then (if x131 < (x0.length : Int) then ((zay.f (rd x0 x131) (rd x129 x131) x13).bind fun t76 => (if 0 ≤ x131 then (if x131 < (x0.length : Int) then (zk.l2 k (x0.set (x131 : Int).toNat t76.1) x5 x7 t76.2 x129 x130 (wrap64 (x131 + 1))) else (none)) else (none))) else (none)) else (none)) else (none)) else (none)) else (if 0 ≤ x5 then (if x5 < (x0.length : Int) then (if 0 ≤ x5 then (if x5 < (x0.length : Int) then (some ((IntKind.u64.wrap (x7 - 1)) % 4294967296, x0.set (x5 : Int).toNat (((rd x0 x5) + x13) % 4294967296))) else (none)) else (none)) else (none)) else (none))
end
def zk.f (k : Nat) (x0 : List Int) (x1 : List Int) : Option (Int × List Int) := if 0 ≤ (x1.length : Int) then (if (x1.length : Int) < (x0.length : Int) then (if 0 ≤ wrap64 ((x1.length : Int) - 1) then (if wrap64 ((x1.length : Int) - 1) < (x0.length : Int) then (if 0 ≤ wrap64 ((x1.length : Int) - 1) then (if wrap64 ((x1.length : Int) - 1) < (x1.length : Int) then (if (IntKind.u64.wrap (rd x1 (wrap64 ((x1.length : Int) - 1)))) = 0 then (none) else (if 0 ≤ wrap64 ((x1.length : Int) - 1) then (if wrap64 ((x1.length : Int) - 1) < (x1.length : Int) then (if (IntKind.u64.wrap (rd x1 (wrap64 ((x1.length : Int) - 1)))) = 0 then (none) else (zk.l0 k x0 x1 (x1.length : Int) (IntKind.u64.wrap (Int.tdiv (Go.bits .or .u64 (IntKind.u64.wrap ((IntKind.u64.wrap (rd x0 (x1.length : Int))) * 4294967296)) (IntKind.u64.wrap (rd x0 (wrap64 ((x1.length : Int) - 1))))) (IntKind.u64.wrap (rd x1 (wrap64 ((x1.length : Int) - 1)))))) (Int.tmod (Go.bits .or .u64 (IntKind.u64.wrap ((IntKind.u64.wrap (rd x0 (x1.length : Int))) * 4294967296)) (IntKind.u64.wrap (rd x0 (wrap64 ((x1.length : Int) - 1))))) (IntKind.u64.wrap (rd x1 (wrap64 ((x1.length : Int) - 1))))))) else (none)) else (none))) else (none)) else (none)) else (none)) else (none)) else (none)) else (none)
mutual
def zy.l0 : Nat → List Int → Int → List Int → List Int → Option (List Int × List Int)
 | 0, _, _, _, _ => none
 | k + 1, x0, x6, x7, x8 => if (x8.length : Int) ≤ (x0.length : Int) then (if x8.length + ([0] : List Int).length < 35184372088832 then (zy.l0 k x0 x6 x7 (x8 ++ ([0] : List Int))) else (none)) else (if 0 ≤ (wrap64 ((x8.length : Int) - (x7.length : Int))) then (if (wrap64 ((x8.length : Int) - (x7.length : Int)) : Int).toNat ≤ 70368744177664 then (zy.l1 k x6 x7 x8 (x7.length : Int) (List.replicate (wrap64 ((x8.length : Int) - (x7.length : Int)) : Int).toNat (0 : Int)) (wrap64 (((List.replicate (wrap64 ((x8.length : Int) - (x7.length : Int)) : Int).toNat (0 : Int)).length : Int) - 1))) else (none)) else (none))
def zy.l1 : Nat → Int → List Int → List Int → Int → List Int → Int → Option (List Int × List Int)
 | 0, _, _, _, _, _, _ => none
 | k + 1, x6, x7, x8, x9, x10, x11 => if x11 ≥ 0 then (if 0 ≤ x11 then (if x11 ≤ (wrap64 ((wrap64 (x11 + x9)) + 1)) then (if (wrap64 ((wrap64 (x11 + x9)) + 1)) ≤ (x8.length : Int) then ((zk.f k ((x8.take (wrap64 ((wrap64 (x11 + x9)) + 1) : Int).toNat).drop (x11 : Int).toNat) x7).bind fun t79 => (if 0 ≤ x11 then (if x11 < (x10.length : Int) then (zy.l1 k x6 x7 (x8.take (x11 : Int).toNat ++ t79.2 ++ x8.drop (wrap64 ((wrap64 (x11 + x9)) + 1) : Int).toNat) x9 (x10.set (x11 : Int).toNat t79.1) (wrap64 (x11 - 1))) else (none)) else (none))) else (none)) else (none)) else (none)) else ((zh.f k x10).bind fun t80 => (if 0 ≤ x9 then (if x9 ≤ (x8.length : Int) then ((zh.f k (x8.take (x9 : Int).toNat)).bind fun t81 => ((zP.f k t81 x6).bind fun t82 => ((zh.f k t82).bind fun t83 => (some (t80, t83))))) else (none)) else (none)))
end
def zy.f (k : Nat) (x0 : List Int) (x1 : List Int) : Option (List Int × List Int) := if 0 ≤ wrap64 ((x1.length : Int) - 1) then (if wrap64 ((x1.length : Int) - 1) < (x1.length : Int) then ((za7.f k (rd x1 (wrap64 ((x1.length : Int) - 1)))).bind fun t61 => ((zQ.f k x1 t61).bind fun t62 => ((zQ.f k x0 t61).bind fun t63 => (zy.l0 k x0 t61 t62 t63)))) else (none)) else (none)
def zaF.f (k : Nat) (x0 : List Int) (x1 : List Int) : Option (List Int × List Int × Int) := (zx.f k [x0, x1]).bind fun t48 => (if (!t48) = true then (some (([] : List Int), ([] : List Int), 2)) else (if (x1.length : Int) = 0 then (some (([] : List Int), ([] : List Int), 11)) else ((zL.f k x0 x1).bind fun t49 => (if t49 < 0 then (if x0.length < 35184372088832 then (some (([] : List Int), x0, 0)) else (none)) else (if (x1.length : Int) = 1 then (if 0 < (x1.length : Int) then ((zab.f k x0 (rd x1 0)).bind fun t52 => ((zh.f k ([t52.2] : List Int)).bind fun t53 => (some (t52.1, t53, 0)))) else (none)) else ((zy.f k x0 x1).bind fun t84 => (some (t84.1, t84.2, 0))))))))
def za9.f (x0_0 : Int) (x0_1 : Int) : Option (Bool) := if x0_1 = 5 then (some true) else (some (decide (x0_1 = 239)))
def zbs.f (x0 : Int) : Option (Bool) := if (-16777216) ≤ x0 then (some (decide (x0 ≤ 16777216))) else (some false)
def zaq.f (x0_0 : Bool) (x0_1 : List Int) (x0_2 : Int) : Option (Bool) := (zO.f x0_1).bind fun t103 => (if (!t103) = true then (some false) else (if (x0_1.length : Int) = 0 then (if (!x0_0) = true then (some (decide (x0_2 = 0))) else (some false)) else (if 0 < (x0_1.length : Int) then (if (Go.bits .and .u32 (rd x0_1 0) 1) = 1 then ((zbs.f x0_2).bind fun t104 => (some t104)) else (some false)) else (none))))
def zV.l0 : Nat → List (Bool × List Int × Int) → Int → Int → Option (Bool)
 | 0, _, _, _ => none
 | k + 1, x5, x6, x7 => if x7 < x6 then (if 0 ≤ x7 then (if x7 < (x5.length : Int) then ((zaq.f ((rdT [.b, .is .u32, .i .i64] x5 x7).1) ((rdT [.b, .is .u32, .i .i64] x5 x7).2.1) ((rdT [.b, .is .u32, .i .i64] x5 x7).2.2)).bind fun t105 => (if (!t105) = true then (some false) else (zV.l0 k x5 x6 (wrap64 (x7 + 1))))) else (none)) else (none)) else (some true)
def zV.f (k : Nat) (x0 : List (Bool × List Int × Int)) : Option (Bool) := zV.l0 k x0 (x0.length : Int) 0
def zam.f (x0_0 : Bool) (x0_1 : List Int) (x0_2 : Int) : Option (Bool × List Int × Int) := if x0_1.length < 35184372088832 then (some (x0_0, x0_1, x0_2)) else (none)
mutual
def zD.l0 : Nat → List Int → List Int → List Int → Int → Int → Int → Option (List Int)
 | 0, _, _, _, _, _, _ => none
 | k + 1, x0, x1, x5, x6, x13, x14 => if x14 < x13 then (if x14 < (x1.length : Int) then (if 0 ≤ x14 then (if x14 < (x1.length : Int) then (zD.j1 k x0 x1 x5 x6 x14 (rd x1 x14) x13 x14) else (none)) else (none)) else (zD.j1 k x0 x1 x5 x6 x14 0 x13 x14)) else ((zh.f k x5).bind fun t121 => (some t121))
def zD.j1 : Nat → List Int → List Int → List Int → Int → Int → Int → Int → Int → Option (List Int)
 | 0, _, _, _, _, _, _, _, _ => none
 | k + 1, x0, x1, x5, x6, x7, x8, x13, x14 => if 0 ≤ x7 then (if x7 < (x0.length : Int) then ((zap.f (rd x0 x7) x8 x6).bind fun t120 => (if 0 ≤ x7 then (if x7 < (x5.length : Int) then (zD.l0 k x0 x1 (x5.set (x7 : Int).toNat t120.1) t120.2 x13 (wrap64 (x14 + 1))) else (none)) else (none))) else (none)) else (none)
end
def zD.f (k : Nat) (x0 : List Int) (x1 : List Int) : Option (List Int) := if 0 ≤ (x0.length : Int) then (if ((x0.length : Int) : Int).toNat ≤ 70368744177664 then (zD.l0 k x0 x1 (List.replicate ((x0.length : Int) : Int).toNat (0 : Int)) 0 (x0.length : Int) 0) else (none)) else (none)
def zau.f (k : Nat) (x0 : List Int) (x1 : List Int) : Option (List Int × Int) := (zx.f k [x0, x1]).bind fun t115 => (if (!t115) = true then (some (([] : List Int), 2)) else ((zL.f k x0 x1).bind fun t116 => (if t116 < 0 then (some (([] : List Int), 10)) else ((zD.f k x0 x1).bind fun t122 => (some (t122, 0))))))
def zY.f (x0 : List Int) : Option (List Int × Int) := if (x0.length : Int) > 4096 then (some (([] : List Int), 3)) else (some (x0, 0))
mutual
def zl.l0 : Nat → List Int → List Int → List Int → Int → Int → Int → Option (List Int × Int)
 | 0, _, _, _, _, _, _ => none
 | k + 1, x0, x1, x6, x7, x27, x28 => if x28 < x27 then (if x28 < (x1.length : Int) then (if 0 ≤ x28 then (if x28 < (x1.length : Int) then (zl.j3 k x0 x1 x6 x7 x28 (rd x1 x28) x27 x28) else (none)) else (none)) else (zl.j3 k x0 x1 x6 x7 x28 0 x27 x28)) else (if 0 ≤ (x0.length : Int) then (if (x0.length : Int) < (x6.length : Int) then ((zh.f k (x6.set ((x0.length : Int) : Int).toNat x7)).bind fun t138 => ((zY.f t138).bind fun t139 => (some (t139.1, t139.2)))) else (none)) else (none))
def zl.j1 : Nat → List Int → List Int → Option (List Int × Int)
 | 0, _, _ => none
 | k + 1, x0, x1 => if 0 ≤ (wrap64 ((x0.length : Int) + 1)) then (if (wrap64 ((x0.length : Int) + 1) : Int).toNat ≤ 70368744177664 then (zl.l0 k x0 x1 (List.replicate (wrap64 ((x0.length : Int) + 1) : Int).toNat (0 : Int)) 0 (x0.length : Int) 0) else (none)) else (none)
def zl.j3 : Nat → List Int → List Int → List Int → Int → Int → Int → Int → Int → Option (List Int × Int)
 | 0, _, _, _, _, _, _, _, _ => none
 | k + 1, x0, x1, x6, x7, x8, x9, x27, x28 => if 0 ≤ x8 then (if x8 < (x0.length : Int) then ((zay.f (rd x0 x8) x9 x7).bind fun t137 => (if 0 ≤ x8 then (if x8 < (x6.length : Int) then (zl.l0 k x0 x1 (x6.set (x8 : Int).toNat t137.1) t137.2 x27 (wrap64 (x28 + 1))) else (none)) else (none))) else (none)) else (none)
end
def zl.f (k : Nat) (x0 : List Int) (x1 : List Int) : Option (List Int × Int) := (zx.f k [x0, x1]).bind fun t136 => (if (!t136) = true then (some (([] : List Int), 2)) else (if (x0.length : Int) < (x1.length : Int) then (zl.j1 k x1 x0) else (zl.j1 k x0 x1)))
def zbO.f (k : Nat) (x0_0 : Bool) (x0_1 : List Int) (x0_2 : Int) (x1_0 : Bool) (x1_1 : List Int) (x1_2 : Int) (x2 : Int) : Option (Bool × List Int × Int × Int) := if (x0_0) = (x1_0) then (some (false, ([] : List Int), 0, 3)) else ((zF.f k x0_1 (wrap64 (x2 - 1))).bind fun t113 => ((zF.f k x1_1 (-1)).bind fun t114 => ((zau.f k t113.1 t114.1).bind fun t123 => (if ¬ (t123.2 = 0) then (some (false, ([] : List Int), 0, 3)) else ((zl.f k t123.1 t123.1).bind fun t140 => (if t140.2 = 0 then ((zI.f k 1).bind fun t141 => ((zau.f k t140.1 t141).bind fun t142 => ((zt.f k x0_0 t142.1 x1_2).bind fun t143 => (some (t143.1, t143.2.1, t143.2.2.1, t143.2.2.2))))) else ((zaa.f k t123.1).bind fun t144 => ((zK.f k t123.1).bind fun t145 => (if t144 = (wrap64 (t145 + 1)) then ((zI.f k 1).bind fun t146 => ((zau.f k t123.1 t146).bind fun t147 => ((zl.f k t147.1 t123.1).bind fun t148 => ((zt.f k x0_0 t148.1 x1_2).bind fun t149 => (some (t149.1, t149.2.1, t149.2.2.1, t149.2.2.2)))))) else (some (false, ([] : List Int), 0, 3)))))))))))
def zaO.j1 : Nat → Bool → Int → Bool → List Int → Int → List Int → Option (Bool × List Int × Int × Int)
 | 0, _, _, _, _, _, _ => none
 | k + 1, x0, x3, x8_0, x8_1, x8_2, x16 => (zt.f k x0 x16 (wrap64 (x3 + 1))).bind fun t163 => (some (t163.1, t163.2.1, t163.2.2.1, t163.2.2.2))
def zaO.f (k : Nat) (x0 : Bool) (x1 : List Int) (x2 : List Int) (x3 : Int) : Option (Bool × List Int × Int × Int) := if 0 < (x1.length : Int) then (if 0 < (x2.length : Int) then (if ¬ (Go.bits .and .u32 (rd x1 0) 1 = Go.bits .and .u32 (rd x2 0) 1) then (some (false, ([] : List Int), 0, 3)) else ((zF.f k x1 (-1)).bind fun t158 => ((zF.f k x2 (-1)).bind fun t159 => ((zl.f k t158.1 t159.1).bind fun t160 => (if 0 < (x1.length : Int) then (if (Go.bits .and .u32 (rd x1 0) 1) = 1 then ((zI.f k 1).bind fun t161 => ((zl.f k t160.1 t161).bind fun t162 => (zaO.j1 k x0 x3 false ([] : List Int) 0 t162.1))) else (zaO.j1 k x0 x3 false ([] : List Int) 0 t160.1)) else (none)))))) else (none)) else (none)
def zbg.f (k : Nat) (x0 : List Int) (x1 : List Int) : Option (Int × Int) := (zx.f k [x0, x1]).bind fun t166 => (if (!t166) = true then (some (0, 2)) else ((zL.f k x0 x1).bind fun t167 => (some (t167, 0))))
def zaj.j2 : Nat → Bool → List Int → List Int → Int → Bool → List Int → Int → Option (Bool × List Int × Int × Int)
 | 0, _, _, _, _, _, _, _ => none
 | k + 1, x0, x1, x3, x4, x10_0, x10_1, x10_2 => (zau.f k x1 x3).bind fun t173 => ((zt.f k x0 t173.1 x4).bind fun t174 => (some (t174.1, t174.2.1, t174.2.2.1, t174.2.2.2)))
def zaj.f (k : Nat) (x0 : Bool) (x1 : List Int) (x2 : Bool) (x3 : List Int) (x4 : Int) : Option (Bool × List Int × Int × Int) := if (x0) = (x2) then ((zl.f k x1 x3).bind fun t169 => (if ¬ (t169.2 = 0) then ((zaO.f k x0 x1 x3 x4).bind fun t170 => (some (t170.1, t170.2.1, t170.2.2.1, t170.2.2.2))) else ((zt.f k x0 t169.1 x4).bind fun t171 => (some (t171.1, t171.2.1, t171.2.2.1, t171.2.2.2))))) else ((zbg.f k x1 x3).bind fun t172 => (if t172.1 < 0 then (zaj.j2 k x2 x3 x1 x4 false ([] : List Int) 0) else (zaj.j2 k x0 x1 x3 x4 false ([] : List Int) 0)))
def zai.j1 : Nat → Bool → List Int → Int → Bool → List Int → Int → Bool → List Int → Int → Option (Bool × List Int × Int × Int)
 | 0, _, _, _, _, _, _, _, _, _ => none
 | k + 1, x2_0, x2_1, x2_2, x3_0, x3_1, x3_2, x4_0, x4_1, x4_2 => (zaa.f k x2_1).bind fun t111 => (if (wrap64 ((wrap64 (x2_2 - x3_2)) + t111)) > 131073 then (some (false, ([] : List Int), 0, 3)) else ((zaa.f k x2_1).bind fun t112 => (if (wrap64 ((wrap64 (x2_2 - x3_2)) + t112)) > 131072 then ((zbO.f k x2_0 x2_1 x2_2 x3_0 x3_1 x3_2 (wrap64 (x2_2 - x3_2))).bind fun t150 => (some (t150.1, t150.2.1, t150.2.2.1, t150.2.2.2))) else ((zF.f k x2_1 (wrap64 (x2_2 - x3_2))).bind fun t151 => ((zaj.f k x2_0 t151.1 x3_0 x3_1 x3_2).bind fun t175 => (some (t175.1, t175.2.1, t175.2.2.1, t175.2.2.2)))))))
def zai.f (k : Nat) (x0_0 : Bool) (x0_1 : List Int) (x0_2 : Int) (x1_0 : Bool) (x1_1 : List Int) (x1_2 : Int) : Option (Bool × List Int × Int × Int) := if (x0_1.length : Int) = 0 then ((zam.f x1_0 x1_1 x1_2).bind fun t109 => (some (t109.1, t109.2.1, t109.2.2, 0))) else (if (x1_1.length : Int) = 0 then ((zam.f x0_0 x0_1 x0_2).bind fun t110 => (some (t110.1, t110.2.1, t110.2.2, 0))) else (if x0_2 < x1_2 then (zai.j1 k x1_0 x1_1 x1_2 x0_0 x0_1 x0_2 false ([] : List Int) 0) else (zai.j1 k x0_0 x0_1 x0_2 x1_0 x1_1 x1_2 false ([] : List Int) 0)))
def zaE.f (k : Nat) (x0_0 : Bool) (x0_1 : List Int) (x0_2 : Int) (x1_0 : Bool) (x1_1 : List Int) (x1_2 : Int) : Option (Bool × List Int × Int × Int) := (zV.f k [(x0_0, x0_1, x0_2), (x1_0, x1_1, x1_2)]).bind fun t106 => (if (!t106) = true then (some (false, ([] : List Int), 0, 2)) else ((zai.f k x0_0 x0_1 x0_2 x1_0 x1_1 x1_2).bind fun t176 => (some (t176.1, t176.2.1, t176.2.2.1, t176.2.2.2))))
mutual
def zw.l0 : Nat → Int → Int → Bool → List Int → Int → List Int → Bool → List Int → Int → Int → Option (Bool × List Int × Int)
 | 0, _, _, _, _, _, _, _, _, _, _ => none
 | k + 1, x2_0, x2_1, x4_0, x4_1, x4_2, x8, x11_0, x11_1, x11_2, x12 => if (x8.length : Int) > 0 then ((zI.f k x12).bind fun t211 => ((zaF.f k x8 t211).bind fun t212 => ((za9.f x2_0 x2_1).bind fun t213 => (if t213 = true then ((zt.f k (decide (¬ (Go.bits .and .u64 x12 2 = 0))) t212.1 0).bind fun t214 => (zw.j1 k x2_0 x2_1 x4_0 x4_1 x4_2 x8 x11_0 x11_1 x11_2 x12 t214.1 t214.2.1 t214.2.2.1)) else ((zt.f k false t212.1 0).bind fun t215 => (zw.j1 k x2_0 x2_1 x4_0 x4_1 x4_2 x8 x11_0 x11_1 x11_2 x12 t215.1 t215.2.1 t215.2.2.1)))))) else (some (x11_0, x11_1, x11_2))
def zw.j1 : Nat → Int → Int → Bool → List Int → Int → List Int → Bool → List Int → Int → Int → Bool → List Int → Int → Option (Bool × List Int × Int)
 | 0, _, _, _, _, _, _, _, _, _, _, _, _, _ => none
 | k + 1, x2_0, x2_1, x4_0, x4_1, x4_2, x8, x11_0, x11_1, x11_2, x12, x16_0, x16_1, x16_2 => (zaE.f k x11_0 x11_1 x11_2 x16_0 x16_1 x16_2).bind fun t208 => ((zI.f k (IntKind.u64.wrap (x2_1 * x2_1))).bind fun t209 => ((zaF.f k x8 t209).bind fun t210 => (zw.l0 k x2_0 x2_1 x4_0 x4_1 x4_2 t210.1 t208.1 t208.2.1 t208.2.2.1 (IntKind.u64.wrap (x12 + 2)))))
end
def zw.f (k : Nat) (x0_0 : Int) (x0_1 : Int) (x1 : Int) : Option (Bool × List Int × Int) := (zI.f k 1).bind fun t204 => ((zF.f k t204 x1).bind fun t205 => ((zI.f k x0_1).bind fun t206 => ((zaF.f k t205.1 t206).bind fun t207 => (zw.l0 k x0_0 x0_1 false ([] : List Int) 0 t207.1 false ([] : List Int) 0 1))))
mutual
def zq.l0 : Nat → List Int → List Int → List Int → Int → Int → Option (List Int)
 | 0, _, _, _, _, _ => none
 | k + 1, x1, x5, x18, x19, x20 => if x20 < x19 then (if 0 ≤ x20 then (if x20 < (x18.length : Int) then (zq.l1 k x1 x5 x20 (rd x18 x20) 0 x18 x19 x20 x1 (x1.length : Int) 0) else (none)) else (none)) else ((zh.f k x5).bind fun t221 => (some t221))
def zq.l1 : Nat → List Int → List Int → Int → Int → Int → List Int → Int → Int → List Int → Int → Int → Option (List Int)
 | 0, _, _, _, _, _, _, _, _, _, _, _ => none
 | k + 1, x1, x5, x6, x7, x8, x18, x19, x20, x25, x26, x27 => if x27 < x26 then (if 0 ≤ x27 then (if x27 < (x25.length : Int) then (if 0 ≤ wrap64 (x6 + x27) then (if wrap64 (x6 + x27) < (x5.length : Int) then (if 0 ≤ wrap64 (x6 + x27) then (if wrap64 (x6 + x27) < (x5.length : Int) then (zq.l1 k x1 (x5.set (wrap64 (x6 + x27) : Int).toNat ((IntKind.u64.wrap ((IntKind.u64.wrap ((IntKind.u64.wrap ((IntKind.u64.wrap x7) * (IntKind.u64.wrap (rd x25 x27)))) + (IntKind.u64.wrap (rd x5 (wrap64 (x6 + x27)))))) + x8)) % 4294967296)) x6 x7 ((IntKind.u64.wrap ((IntKind.u64.wrap ((IntKind.u64.wrap ((IntKind.u64.wrap x7) * (IntKind.u64.wrap (rd x25 x27)))) + (IntKind.u64.wrap (rd x5 (wrap64 (x6 + x27)))))) + x8)) / 4294967296) x18 x19 x20 x25 x26 (wrap64 (x27 + 1))) else (none)) else (none)) else (none)) else (none)) else (none)) else (none)) else (if 0 ≤ wrap64 (x6 + (x1.length : Int)) then (if wrap64 (x6 + (x1.length : Int)) < (x5.length : Int) then (zq.l0 k x1 (x5.set (wrap64 (x6 + (x1.length : Int)) : Int).toNat (x8 % 4294967296)) x18 x19 (wrap64 (x20 + 1))) else (none)) else (none))
end
def zq.f (k : Nat) (x0 : List Int) (x1 : List Int) : Option (List Int) := if 0 ≤ (wrap64 ((x0.length : Int) + (x1.length : Int))) then (if (wrap64 ((x0.length : Int) + (x1.length : Int)) : Int).toNat ≤ 70368744177664 then (zq.l0 k x1 (List.replicate (wrap64 ((x0.length : Int) + (x1.length : Int)) : Int).toNat (0 : Int)) x0 (x0.length : Int) 0) else (none)) else (none)
def zbh.f (k : Nat) (x0 : List Int) (x1 : List Int) : Option (List Int × Int) := (zx.f k [x0, x1]).bind fun t228 => (if (!t228) = true then (some (([] : List Int), 2)) else (if (x0.length : Int) > 0 then (if (x1.length : Int) > 0 then (if (wrap64 ((wrap64 ((x0.length : Int) + (x1.length : Int))) - 1)) > 4096 then (some (([] : List Int), 3)) else ((zq.f k x0 x1).bind fun t229 => ((zY.f t229).bind fun t230 => (some (t230.1, t230.2))))) else ((zq.f k x0 x1).bind fun t231 => ((zY.f t231).bind fun t232 => (some (t232.1, t232.2))))) else ((zq.f k x0 x1).bind fun t233 => ((zY.f t233).bind fun t234 => (some (t234.1, t234.2))))))
def zaT.f (k : Nat) (x0_0 : Bool) (x0_1 : List Int) (x0_2 : Int) (x1_0 : Bool) (x1_1 : List Int) (x1_2 : Int) : Option (Bool × List Int × Int × Int) := (zV.f k [(x0_0, x0_1, x0_2), (x1_0, x1_1, x1_2)]).bind fun t217 => (if (!t217) = true then (some (false, ([] : List Int), 0, 2)) else ((zbh.f k x0_1 x1_1).bind fun t235 => (if ¬ (t235.2 = 0) then (some (false, ([] : List Int), 0, t235.2)) else ((zt.f k (decide (¬ ((x0_0) = (x1_0)))) t235.1 (wrap64 (x0_2 + x1_2))).bind fun t236 => (some (t236.1, t236.2.1, t236.2.2.1, t236.2.2.2))))))
def zbe.f (x0_0 : Bool) (x0_1 : List Int) (x0_2 : Int) (x1 : Int) : Option (Bool × List Int × Int × Int) := (zaq.f x0_0 x0_1 x0_2).bind fun t246 => (if (!t246) = true then (some (false, ([] : List Int), 0, 2)) else (if (x0_1.length : Int) = 0 then (some (false, ([] : List Int), 0, 0)) else (if x1 > (wrap64 (16777216 - x0_2)) then (some (false, ([] : List Int), 0, 20)) else (if x1 < (wrap64 ((-16777216) - x0_2)) then (some (false, ([] : List Int), 0, 20)) else ((zam.f x0_0 x0_1 x0_2).bind fun t247 => (some (t247.1, t247.2.1, wrap64 (t247.2.2 + x1), 0)))))))
def zv.l0 : Nat → Int → Bool → List Int → Int → Bool → List Int → Int → List (Int × Int) → Int → Int → Option (Bool × List Int × Int)
 | 0, _, _, _, _, _, _, _, _, _, _ => none
 | k + 1, x0, x4_0, x4_1, x4_2, x5_0, x5_1, x5_2, x11, x12, x13 => if x13 < x12 then (if 0 ≤ x13 then (if x13 < (x11.length : Int) then ((zah.f k ((rdT [.i .i64, .i .u64] x11 x13).1)).bind fun t43 => ((zw.f k ((rdT [.i .i64, .i .u64] x11 x13).1) ((rdT [.i .i64, .i .u64] x11 x13).2) x0).bind fun t216 => ((zaT.f k t43.1 t43.2.1 t43.2.2 t216.1 t216.2.1 t216.2.2).bind fun t237 => ((zaE.f k x5_0 x5_1 x5_2 t237.1 t237.2.1 t237.2.2.1).bind fun t238 => (zv.l0 k x0 x4_0 x4_1 x4_2 t238.1 t238.2.1 t238.2.2.1 x11 x12 (wrap64 (x13 + 1))))))) else (none)) else (none)) else ((zbe.f x5_0 x5_1 x5_2 (wrap64 (-x0))).bind fun t248 => (some (t248.1, t248.2.1, t248.2.2.1)))
def zv.f (k : Nat) (x0 : Int) (x1 : List (Int × Int)) : Option (Bool × List Int × Int) := zv.l0 k x0 false ([] : List Int) 0 false ([] : List Int) 0 x1 (x1.length : Int) 0
def zr.f (k : Nat) (d s z : Int) (p0 : Bool) (p1 : List Int) (p2 : Int) (q0 : Bool) (q1 : List Int) (q2 : Int) : Option (Int × Int × Int × Bool × List Int × Int × Bool × List Int × Int) :=
 if d = 0 then (if s = 0 then ((zv.f k 8320 [(16, 5), ((-4), 239)]).bind fun P => (zv.f k 8320 [(18, 26), ((-2), 4801), (8, 8749)]).bind fun Q => some (1, 0, z, P.1, P.2.1, P.2.2, Q.1, Q.2.1, Q.2.2)) else none) else some (d, s, z, p0, p1, p2, q0, q1, q2)
abbrev zr.S : Sig := { ps := [.bb [.i .u32, .i .i32, .i .u32, .b, .is .u32, .i .i64, .b, .is .u32, .i .i64]], rs := [], wb := [.i .u32, .i .i32, .i .u32, .b, .is .u32, .i .i64, .b, .is .u32, .i .i64], R := Int × Int × Int × Bool × List Int × Int × Bool × List Int × Int, mkR := fun y0 y1 y2 y3 y4 y5 y6 y7 y8 => some (y0, y1, y2, y3, y4, y5, y6, y7, y8), un := fun r => [.int .u32 r.1, .int .i32 r.2.1, .int .u32 r.2.2.1, .bool r.2.2.2.1, .ints .u32 r.2.2.2.2.1, .int .i64 r.2.2.2.2.2.1, .bool r.2.2.2.2.2.2.1, .ints .u32 r.2.2.2.2.2.2.2.1, .int .i64 r.2.2.2.2.2.2.2.2] }
def zr.F (k : Nat) : Fun := { S := zr.S, f := zr.f k }
def zar.f (x0 : Int) : Option (Int) := if x0 < 1 then (some 2) else (if x0 > 8192 then (some 3) else (some 0))
def zaU.f (k : Nat) (x0_0 : Bool) (x0_1 : List Int) (x0_2 : Int) (x1 : Int) : Option (Bool × List Int × Int × Bool × Int) := (zaa.f k x0_1).bind fun t252 => (if (wrap64 (t252 - x1)) ≤ 0 then ((zam.f x0_0 x0_1 x0_2).bind fun t253 => (some (t253.1, t253.2.1, t253.2.2, false, 0))) else ((zF.f k x0_1 (wrap64 (-(wrap64 (t252 - x1))))).bind fun t254 => ((zt.f k x0_0 t254.1 (wrap64 (x0_2 + (wrap64 (t252 - x1))))).bind fun t255 => (some (t255.1, t255.2.1, t255.2.2.1, decide (t255.2.2.2 = 0), t255.2.2.2)))))
def z9.f (k : Nat) (x0_0 : Bool) (x0_1 : List Int) (x0_2 : Int) (x1 : Int) : Option (Bool × List Int × Int × Bool × Int) := (zaq.f x0_0 x0_1 x0_2).bind fun t250 => (if (!t250) = true then (some (false, ([] : List Int), 0, false, 2)) else ((zar.f x1).bind fun t251 => (if ¬ (t251 = 0) then (some (false, ([] : List Int), 0, false, t251)) else ((zaU.f k x0_0 x0_1 x0_2 x1).bind fun t256 => (some (t256.1, t256.2.1, t256.2.2.1, t256.2.2.2.1, t256.2.2.2.2))))))
def zaA.f (k : Nat) (x0_0 : Int) (x0_1 : Int) (x0_2 : Int) (x0_3 : Bool) (x0_4 : List Int) (x0_5 : Int) (x0_6 : Bool) (x0_7 : List Int) (x0_8 : Int) (x1 : Int) : Option (Bool × List Int × Int × Int × Int × Int × Int × Bool × List Int × Int × Bool × List Int × Int) := (zr.f k x0_0 x0_1 x0_2 x0_3 x0_4 x0_5 x0_6 x0_7 x0_8).bind fun t249 => ((z9.f k t249.2.2.2.1 t249.2.2.2.2.1 t249.2.2.2.2.2.1 x1).bind fun t257 => (some (t257.1, t257.2.1, t257.2.2.1, t257.2.2.2.2, t249.1, t249.2.1, t249.2.2.1, t249.2.2.2.1, t249.2.2.2.2.1, t249.2.2.2.2.2.1, t249.2.2.2.2.2.2.1, t249.2.2.2.2.2.2.2.1, t249.2.2.2.2.2.2.2.2)))
def zdm.f (x1 : Int) : Option (Bool × List Int × Int × Int) := some (false, ([] : List Int), 0, 1)
def zaz.f (k : Nat) (x0_0 : Int) (x0_1 : Int) (x0_2 : Int) (x0_3 : Bool) (x0_4 : List Int) (x0_5 : Int) (x0_6 : Bool) (x0_7 : List Int) (x0_8 : Int) (x1 : Int) : Option (Bool × List Int × Int × Int × Int × Int × Int × Bool × List Int × Int × Bool × List Int × Int) := (zr.f k x0_0 x0_1 x0_2 x0_3 x0_4 x0_5 x0_6 x0_7 x0_8).bind fun t259 => ((z9.f k t259.2.2.2.2.2.2.1 t259.2.2.2.2.2.2.2.1 t259.2.2.2.2.2.2.2.2 x1).bind fun t260 => (some (t260.1, t260.2.1, t260.2.2.1, t260.2.2.2.2, t259.1, t259.2.1, t259.2.2.1, t259.2.2.2.1, t259.2.2.2.2.1, t259.2.2.2.2.2.1, t259.2.2.2.2.2.2.1, t259.2.2.2.2.2.2.2.1, t259.2.2.2.2.2.2.2.2)))
def zdl.f (x1 : Int) : Option (Bool × List Int × Int × Int) := some (false, ([] : List Int), 0, 1)
def zE.l0 : Nat → List Int → Int → Option (List Int)
 | 0, _, _ => none
 | k + 1, x0, x3 => if x3 > 0 then (if 0 ≤ wrap64 (x3 - 1) then (if wrap64 (x3 - 1) < (x0.length : Int) then (if (rd x0 (wrap64 (x3 - 1))) = 0 then (zE.l0 k x0 (wrap64 (x3 - 1))) else (if 0 ≤ x3 then (if x3 ≤ (x0.length : Int) then (some (x0.take (x3 : Int).toNat)) else (none)) else (none))) else (none)) else (none)) else (if 0 ≤ x3 then (if x3 ≤ (x0.length : Int) then (some (x0.take (x3 : Int).toNat)) else (none)) else (none))
def zE.f (k : Nat) (x0 : List Int) : Option (List Int) := zE.l0 k x0 (x0.length : Int)
def zbc.f (k : Nat) (x0 : Int) : Option (List Int) := (zE.f k ([x0 % 4294967296, (x0 / 4294967296) % 4294967296] : List Int)).bind fun t262 => (some t262)
def zbb.f (x0 : List Int) (x1 : Int) : Option (Int) := if x1 < 0 then (some 0) else (if (wrap64 (Int.tdiv x1 32)) ≥ (x0.length : Int) then (some 0) else (if 0 ≤ wrap64 (Int.tdiv x1 32) then (if wrap64 (Int.tdiv x1 32) < (x0.length : Int) then (if 0 ≤ (Int.tmod x1 32) then (some (Go.bits .and .u32 (shr .u32 (rd x0 (wrap64 (Int.tdiv x1 32))) (Int.tmod x1 32)) 1)) else (none)) else (none)) else (none)))
def zU.l0 : Nat → List Int → Int → Option (Int)
 | 0, _, _ => none
 | k + 1, x0, x3 => if x3 < (wrap64 (32 * (x0.length : Int))) then ((zbb.f x0 x3).bind fun t268 => (if t268 = 0 then (if 0 ≤ wrap64 (Int.tdiv x3 32) then (if wrap64 (Int.tdiv x3 32) < (x0.length : Int) then (if (rd x0 (wrap64 (Int.tdiv x3 32))) = 0 then (zU.l0 k x0 (wrap64 (x3 + 32))) else (zU.l0 k x0 (wrap64 (x3 + 1)))) else (none)) else (none)) else (if x3 = (wrap64 (32 * (x0.length : Int))) then (some 0) else (some x3)))) else (if x3 = (wrap64 (32 * (x0.length : Int))) then (some 0) else (some x3))
def zU.f (k : Nat) (x0 : List Int) : Option (Int) := zU.l0 k x0 0
def z6.l0 : Nat → Int → Int → Option (Int)
 | 0, _, _ => none
 | k + 1, x3, x4 => if x4 > 0 then (z6.l0 k (wrap64 (x3 + 1)) (x4 / 2)) else (some x3)
def z6.f (k : Nat) (x0 : List Int) : Option (Int) := if (x0.length : Int) = 0 then (some 0) else (if 0 ≤ wrap64 ((x0.length : Int) - 1) then (if wrap64 ((x0.length : Int) - 1) < (x0.length : Int) then (z6.l0 k (wrap64 (32 * (wrap64 ((x0.length : Int) - 1)))) (rd x0 (wrap64 ((x0.length : Int) - 1)))) else (none)) else (none))
def zM.l0 : Nat → List Int → Bool → List Int → Int → Int → Option (List Int × Bool)
 | 0, _, _, _, _, _ => none
 | k + 1, x0, x6, x7, x8, x9 => if x9 < (x0.length : Int) then (if 0 ≤ x9 then (if x9 < (x0.length : Int) then (if 0 ≤ x8 then (if (wrap64 (x9 + 1)) < (x0.length : Int) then (if 0 ≤ wrap64 (x9 + 1) then (if wrap64 (x9 + 1) < (x0.length : Int) then (if 0 ≤ (wrap64 (32 - x8)) then (if x7.length + ([(Go.bits .or .u64 (shr .u64 (IntKind.u64.wrap (rd x0 x9)) x8) (shl .u64 (IntKind.u64.wrap (rd x0 (wrap64 (x9 + 1)))) (wrap64 (32 - x8)))) % 4294967296] : List Int).length < 35184372088832 then (zM.l0 k x0 x6 (x7 ++ ([(Go.bits .or .u64 (shr .u64 (IntKind.u64.wrap (rd x0 x9)) x8) (shl .u64 (IntKind.u64.wrap (rd x0 (wrap64 (x9 + 1)))) (wrap64 (32 - x8)))) % 4294967296] : List Int)) x8 (wrap64 (x9 + 1))) else (none)) else (none)) else (none)) else (none)) else (if x7.length + ([(shr .u64 (IntKind.u64.wrap (rd x0 x9)) x8) % 4294967296] : List Int).length < 35184372088832 then (zM.l0 k x0 x6 (x7 ++ ([(shr .u64 (IntKind.u64.wrap (rd x0 x9)) x8) % 4294967296] : List Int)) x8 (wrap64 (x9 + 1))) else (none))) else (none)) else (none)) else (none)) else ((zE.f k x7).bind fun t296 => (some (t296, x6)))
def zM.f (k : Nat) (x0 : List Int) (x1 : Int) : Option (List Int × Bool) := (z6.f k x0).bind fun t294 => (if x1 ≥ t294 then (some (([] : List Int), decide ((x0.length : Int) > 0))) else ((zU.f k x0).bind fun t295 => (zM.l0 k x0 (decide (x1 > t295)) ([] : List Int) (Int.tmod x1 32) (wrap64 (Int.tdiv x1 32)))))
def zaM.f (k : Nat) (x0 : Bool) (x1 : List Int) (x2 : Int) : Option (Bool × List Int × Int) := if (x1.length : Int) = 0 then (some (false, ([] : List Int), 0)) else ((zU.f k x1).bind fun t269 => ((zM.f k x1 t269).bind fun t297 => (some (x0, t297.1, wrap64 (x2 + t269)))))
def zaf.j0 : Nat → Int → Bool → List Int → Int → Int → Option (Bool × List Int × Int)
 | 0, _, _, _, _, _ => none
 | k + 1, x0, x2_0, x2_1, x2_2, x3 => (zbc.f k x3).bind fun t263 => ((zaM.f k (decide (x0 < 0)) t263 0).bind fun t298 => (some (t298.1, t298.2.1, t298.2.2)))
def zaf.f (k : Nat) (x0 : Int) : Option (Bool × List Int × Int) := if x0 < 0 then (zaf.j0 k x0 false ([] : List Int) 0 (IntKind.u64.wrap (-(IntKind.u64.wrap x0)))) else (zaf.j0 k x0 false ([] : List Int) 0 (IntKind.u64.wrap x0))
def z8.l0 : Nat → List Int → List Int → Int → Option (Bool)
 | 0, _, _, _ => none
 | k + 1, x0, x1, x5 => if x5 < (x0.length : Int) then (if 0 ≤ x5 then (if x5 < (x0.length : Int) then (if 0 ≤ x5 then (if x5 < (x1.length : Int) then (if ¬ (rd x0 x5 = rd x1 x5) then (some false) else (z8.l0 k x0 x1 (wrap64 (x5 + 1)))) else (none)) else (none)) else (none)) else (none)) else (some true)
def z8.f (k : Nat) (x0 : List Int) (x1 : List Int) : Option (Bool) := if ¬ ((x0.length : Int) = (x1.length : Int)) then (some false) else (z8.l0 k x0 x1 0)
def zag.f (k : Nat) (x0_0 : Bool) (x0_1 : List Int) (x0_2 : Int) (x1_0 : Bool) (x1_1 : List Int) (x1_2 : Int) : Option (Bool) := if (x0_0) = (x1_0) then (if x0_2 = x1_2 then ((z8.f k x0_1 x1_1).bind fun t302 => (some t302)) else (some false)) else (some false)
def zbd.f (x0 : Int) : Option (Bool × List Int × Int) := some (false, ([1] : List Int), x0)
def zaB.f (k : Nat) : Option (Bool) := (zaS.f).bind fun t313 => ((zaA.f k t313.1 t313.2.1 t313.2.2.1 t313.2.2.2.1 t313.2.2.2.2.1 t313.2.2.2.2.2.1 t313.2.2.2.2.2.2.1 t313.2.2.2.2.2.2.2.1 t313.2.2.2.2.2.2.2.2 2).bind fun t314 => ((zaz.f k t314.2.2.2.2.1 t314.2.2.2.2.2.1 t314.2.2.2.2.2.2.1 t314.2.2.2.2.2.2.2.1 t314.2.2.2.2.2.2.2.2.1 t314.2.2.2.2.2.2.2.2.2.1 t314.2.2.2.2.2.2.2.2.2.2.1 t314.2.2.2.2.2.2.2.2.2.2.2.1 t314.2.2.2.2.2.2.2.2.2.2.2.2 1).bind fun t315 => ((zaf.f k 3).bind fun t316 => ((zag.f k t314.1 t314.2.1 t314.2.2.1 t316.1 t316.2.1 t316.2.2).bind fun t317 => (if t317 = true then (if t314.2.2.2.1 = 0 then ((zbd.f (-1)).bind fun t318 => ((zag.f k t315.1 t315.2.1 t315.2.2.1 t318.1 t318.2.1 t318.2.2).bind fun t319 => (if t319 = true then (some (decide (t315.2.2.2.1 = 0))) else (some false)))) else (some false)) else (some false))))))
def zaD.f (k : Nat) (x0_0 : Bool) (x0_1 : List Int) (x0_2 : Int) (x1 : Int) : Option (Bool × List Int × Int × Bool) := (z6.f k x0_1).bind fun t333 => (if (wrap64 (t333 - x1)) ≤ 0 then (some (x0_0, x0_1, x0_2, false)) else ((zM.f k x0_1 (wrap64 (t333 - x1))).bind fun t334 => ((zaM.f k x0_0 t334.1 (wrap64 (x0_2 + (wrap64 (t333 - x1))))).bind fun t335 => (some (t335.1, t335.2.1, t335.2.2, t334.2)))))
def zbp.f (k : Nat) (x0 : Int) (x1 : Int) : Option (Bool) := (zaC.f x0).bind fun t384 => (if ¬ (t384 = 0) then ((zaB.f k).bind fun t385 => (some t385)) else ((zaC.f x1).bind fun t386 => (if ¬ (t386 = 0) then ((zaB.f k).bind fun t387 => (some t387)) else (if x0 > x1 then ((zaB.f k).bind fun t388 => (some t388)) else ((zaS.f).bind fun t389 => ((zaS.f).bind fun t390 => ((zaA.f k t389.1 t389.2.1 t389.2.2.1 t389.2.2.2.1 t389.2.2.2.2.1 t389.2.2.2.2.2.1 t389.2.2.2.2.2.2.1 t389.2.2.2.2.2.2.2.1 t389.2.2.2.2.2.2.2.2 x0).bind fun t391 => ((zaA.f k t390.1 t390.2.1 t390.2.2.1 t390.2.2.2.1 t390.2.2.2.2.1 t390.2.2.2.2.2.1 t390.2.2.2.2.2.2.1 t390.2.2.2.2.2.2.2.1 t390.2.2.2.2.2.2.2.2 x1).bind fun t392 => ((zaz.f k t392.2.2.2.2.1 t392.2.2.2.2.2.1 t392.2.2.2.2.2.2.1 t392.2.2.2.2.2.2.2.1 t392.2.2.2.2.2.2.2.2.1 t392.2.2.2.2.2.2.2.2.2.1 t392.2.2.2.2.2.2.2.2.2.2.1 t392.2.2.2.2.2.2.2.2.2.2.2.1 t392.2.2.2.2.2.2.2.2.2.2.2.2 x0).bind fun t393 => ((zaz.f k t391.2.2.2.2.1 t391.2.2.2.2.2.1 t391.2.2.2.2.2.2.1 t391.2.2.2.2.2.2.2.1 t391.2.2.2.2.2.2.2.2.1 t391.2.2.2.2.2.2.2.2.2.1 t391.2.2.2.2.2.2.2.2.2.2.1 t391.2.2.2.2.2.2.2.2.2.2.2.1 t391.2.2.2.2.2.2.2.2.2.2.2.2 x1).bind fun t394 => ((zaD.f k t392.1 t392.2.1 t392.2.2.1 x0).bind fun t395 => ((zaD.f k t394.1 t394.2.1 t394.2.2.1 x0).bind fun t396 => (if t391.2.2.2.1 = 0 then (if t392.2.2.2.1 = 0 then (if t393.2.2.2.1 = 0 then (if t394.2.2.2.1 = 0 then ((zag.f k t391.1 t391.2.1 t391.2.2.1 t395.1 t395.2.1 t395.2.2.1).bind fun t397 => (if t397 = true then ((zag.f k t393.1 t393.2.1 t393.2.2.1 t396.1 t396.2.1 t396.2.2.1).bind fun t398 => (if t398 = true then ((zaB.f k).bind fun t399 => (some t399)) else (some false))) else (some false))) else (some false)) else (some false)) else (some false)) else (some false))))))))))))))
end Go.Proofs.YtlngoohfkaceoaaDoor.Eng
