import Derived.Test.YtlngoohfkaceoaaDoorEng2
import Derived.Test.YtlngoohfkaceoaaDoorProg
import Derived.KernelRfl
import Derived.Lib.TrailingZeros
import Derived.Lib.Repeat
import Derived.Lib.Bytealg
set_option linter.unusedVariables false
set_option linter.unusedSimpArgs false
namespace Go.Proofs.YtlngoohfkaceoaaDoor.Eng
open Go.RowKit Go.Proofs
set_option maxRecDepth 100000
def TL : List (Nat × TI) := [(2, ⟨.int .i64, 1, 8, [(.int .i64)]⟩),
 (3, ⟨.int .i64, 1, 8, [(.int .i64)]⟩),
 (4, ⟨.bool, 1, 1, [.bool]⟩),
 (5, ⟨.int .u8, 1, 1, [(.int .u8)]⟩),
 (6, ⟨.int .u8, 1, 1, [(.int .u8)]⟩),
 (7, ⟨.struct [(0, 2), (1, 3), (2, 4), (3, 6)], 4, 24, [(.int .i64), (.int .i64), .bool, (.int .u8)]⟩),
 (8, ⟨.struct [(0, 2), (1, 3), (2, 4), (3, 6)], 4, 24, [(.int .i64), (.int .i64), .bool, (.int .u8)]⟩),
 (9, ⟨.str, 1, 16, [.str]⟩),
 (10, ⟨.str, 1, 16, [.str]⟩),
 (11, ⟨.str, 1, 16, [.str]⟩),
 (12, ⟨.int .u64, 1, 8, [(.int .u64)]⟩),
 (13, ⟨.struct [(0, 9), (1, 12)], 2, 24, [.str, (.int .u64)]⟩),
 (14, ⟨.struct [(0, 9), (1, 12)], 2, 24, [.str, (.int .u64)]⟩),
 (15, ⟨.ptr 126, 1, 8, [.ptr]⟩),
 (16, ⟨.ptr 129, 1, 8, [.ptr]⟩),
 (17, ⟨.ptr 138, 1, 8, [.ptr]⟩),
 (18, ⟨.struct [(0, 17)], 1, 8, [.ptr]⟩),
 (19, ⟨.struct [(0, 17)], 1, 8, [.ptr]⟩),
 (21, ⟨.int .i32, 1, 4, [(.int .i32)]⟩),
 (22, ⟨.int .i64, 1, 8, [(.int .i64)]⟩),
 (25, ⟨.ptr 52, 1, 8, [.ptr]⟩),
 (27, ⟨.slice 42, 1, 24, [(.slice (some .u32))]⟩),
 (28, ⟨.struct [(0, 4), (1, 27), (2, 3)], 3, 40, [.bool, (.slice (some .u32)), (.int .i64)]⟩),
 (29, ⟨.struct [(0, 4), (1, 27), (2, 3)], 3, 40, [.bool, (.slice (some .u32)), (.int .i64)]⟩),
 (39, ⟨.struct [], 0, 0, []⟩),
 (40, ⟨.struct [], 0, 0, []⟩),
 (41, ⟨.struct [], 0, 0, []⟩),
 (42, ⟨.int .u32, 1, 4, [(.int .u32)]⟩),
 (45, ⟨.struct [(0, 21), (1, 42)], 2, 8, [(.int .i32), (.int .u32)]⟩),
 (46, ⟨.struct [(0, 21), (1, 42)], 2, 8, [(.int .i32), (.int .u32)]⟩),
 (51, ⟨.struct [(0, 50), (3, 29), (6, 29)], 9, 96, [(.int .u32), (.int .i32), (.int .u32), .bool, (.slice (some .u32)), (.int .i64), .bool, (.slice (some .u32)), (.int .i64)]⟩),
 (52, ⟨.struct [(0, 50), (3, 29), (6, 29)], 9, 96, [(.int .u32), (.int .i32), (.int .u32), .bool, (.slice (some .u32)), (.int .i64), .bool, (.slice (some .u32)), (.int .i64)]⟩),
 (60, ⟨.int .u64, 1, 8, [(.int .u64)]⟩),
 (64, ⟨.struct [(0, 2), (1, 60)], 2, 16, [(.int .i64), (.int .u64)]⟩),
 (65, ⟨.struct [(0, 2), (1, 60)], 2, 16, [(.int .i64), (.int .u64)]⟩),
 (67, ⟨.int .u64, 1, 8, [(.int .u64)]⟩),
 (69, ⟨.ptr 50, 1, 8, [.ptr]⟩),
 (70, ⟨.slice 65, 1, 24, [(.slice none)]⟩),
 (79, ⟨.ptr 44, 1, 8, [.ptr]⟩),
 (81, ⟨.ptr 42, 1, 8, [.ptr]⟩),
 (90, ⟨.ptr 48, 1, 8, [.ptr]⟩),
 (93, ⟨.slice 29, 1, 24, [(.slice none)]⟩),
 (104, ⟨.ptr 46, 1, 8, [.ptr]⟩),
 (106, ⟨.ptr 21, 1, 8, [.ptr]⟩),
 (111, ⟨.slice 27, 1, 24, [(.slice none)]⟩),
 (118, ⟨.arr 32 5, 32, 32, [(.int .u8), (.int .u8), (.int .u8), (.int .u8), (.int .u8), (.int .u8), (.int .u8), (.int .u8), (.int .u8), (.int .u8), (.int .u8), (.int .u8), (.int .u8), (.int .u8), (.int .u8), (.int .u8), (.int .u8), (.int .u8), (.int .u8), (.int .u8), (.int .u8), (.int .u8), (.int .u8), (.int .u8), (.int .u8), (.int .u8), (.int .u8), (.int .u8), (.int .u8), (.int .u8), (.int .u8), (.int .u8)]⟩),
 (125, ⟨.struct [(0, 17), (1, 17), (2, 17), (3, 9)], 4, 40, [.ptr, .ptr, .ptr, .str]⟩),
 (126, ⟨.struct [(0, 17), (1, 17), (2, 17), (3, 9)], 4, 40, [.ptr, .ptr, .ptr, .str]⟩),
 (127, ⟨.arr 0 16, 0, 0, []⟩),
 (128, ⟨.struct [(0, 127)], 0, 0, []⟩),
 (129, ⟨.struct [(0, 127)], 0, 0, []⟩),
 (131, ⟨.int .u8, 1, 1, [(.int .u8)]⟩),
 (132, ⟨.int .u8, 1, 1, [(.int .u8)]⟩),
 (134, ⟨.ptr 5, 1, 8, [.ptr]⟩),
 (135, ⟨.int .i32, 1, 4, [(.int .i32)]⟩),
 (136, ⟨.int .i32, 1, 4, [(.int .i32)]⟩)]
def TT : Nat → Option TI := qef TL
def zcF : ByteArray := ⟨#[0, 1, 2, 2, 3, 3, 3, 3, 4, 4, 4, 4, 4, 4, 4, 4, 5, 5, 5, 5, 5, 5, 5, 5, 5, 5, 5, 5, 5, 5, 5, 5, 6, 6, 6, 6, 6, 6, 6, 6, 6, 6, 6, 6, 6, 6, 6, 6, 6, 6, 6, 6, 6, 6, 6, 6, 6, 6, 6, 6, 6, 6, 6, 6, 7, 7, 7, 7, 7, 7, 7, 7, 7, 7, 7, 7, 7, 7, 7, 7, 7, 7, 7, 7, 7, 7, 7, 7, 7, 7, 7, 7, 7, 7, 7, 7, 7, 7, 7, 7, 7, 7, 7, 7, 7, 7, 7, 7, 7, 7, 7, 7, 7, 7, 7, 7, 7, 7, 7, 7, 7, 7, 7, 7, 7, 7, 7, 7, 8, 8, 8, 8, 8, 8, 8, 8, 8, 8, 8, 8, 8, 8, 8, 8, 8, 8, 8, 8, 8, 8, 8, 8, 8, 8, 8, 8, 8, 8, 8, 8, 8, 8, 8, 8, 8, 8, 8, 8, 8, 8, 8, 8, 8, 8, 8, 8, 8, 8, 8, 8, 8, 8, 8, 8, 8, 8, 8, 8, 8, 8, 8, 8, 8, 8, 8, 8, 8, 8, 8, 8, 8, 8, 8, 8, 8, 8, 8, 8, 8, 8, 8, 8, 8, 8, 8, 8, 8, 8, 8, 8, 8, 8, 8, 8, 8, 8, 8, 8, 8, 8, 8, 8, 8, 8, 8, 8, 8, 8, 8, 8, 8, 8, 8, 8, 8, 8, 8, 8, 8, 8, 8, 8, 8, 8, 8, 8]⟩
def zY.f (x : Int) : Option Int := if 0 ≤ x ∧ x < 4294967296 then some (Lib.ctz 32 x.toNat : Int) else none
def zn : Nat → Nat → Option Value := fun b o => if b = 0 ∧ o < 32 then some (.int .u8 (Lib.deBruijn32tab.getD o 0)) else none
def zh.l0 : Nat → List Int → Option (List Int)
 | 0, _ => none
 | k + 1, x0 => if (x0.length : Int) > 0 then (if 0 ≤ wrap64 ((x0.length : Int) - 1) then (if wrap64 ((x0.length : Int) - 1) < (x0.length : Int) then (if (rd x0 (wrap64 ((x0.length : Int) - 1))) = 0 then (if 0 ≤ (wrap64 ((x0.length : Int) - 1)) then (if (wrap64 ((x0.length : Int) - 1)) ≤ (x0.length : Int) then (zh.l0 k (x0.take (wrap64 ((x0.length : Int) - 1) : Int).toNat)) else (none)) else (none)) else (some x0)) else (none)) else (none)) else (some x0)
def zh.f (k : Nat) (x0 : List Int) : Option (List Int) := zh.l0 k x0
def zG.f (k : Nat) (x0 : Int) : Option (List Int) := (zh.f k ([x0 % 4294967296, (x0 / 4294967296) % 4294967296] : List Int)).bind fun t1 => (some t1)
def zM.f (x0 : List Int) : Option (Bool) := if (x0.length : Int) ≤ 4096 then (if (x0.length : Int) = 0 then (some true) else (if 0 ≤ wrap64 ((x0.length : Int) - 1) then (if wrap64 ((x0.length : Int) - 1) < (x0.length : Int) then (some (decide (¬ (rd x0 (wrap64 ((x0.length : Int) - 1)) = 0)))) else (none)) else (none))) else (some false)
abbrev zY.S : Sig := { ps := [.lf (.i .u32)], rs := [.lf (.i .i64)], wb := [], R := Int, mkR := fun y0 => some y0, un := fun r => [.int .i64 r] }
def zY.F (k : Nat) : Fun := { S := zY.S, f := zY.f }
def zJ.l0 : Nat → List Int → Int → Int → Option (Int)
 | 0, _, _, _ => none
 | k + 1, x8, x9, x10 => if x10 < x9 then (if 0 ≤ x10 then (if x10 < (x8.length : Int) then (if ¬ (rd x8 x10 = 0) then ((zY.f (rd x8 x10)).bind fun t6 => (some (wrap64 ((wrap64 (32 * x10)) + t6)))) else (zJ.l0 k x8 x9 (wrap64 (x10 + 1)))) else (none)) else (none)) else (some 0)
def zJ.f (k : Nat) (x0 : List Int) : Option (Int) := (zM.f x0).bind fun t5 => (if (!t5) = true then (some 0) else (zJ.l0 k x0 (x0.length : Int) 0))
def zN.l0 : Nat → List Int → Int → List Int → List Int → Int → Int → Option (List Int)
 | 0, _, _, _, _, _, _ => none
 | k + 1, x0, x5, x6, x23, x24, x25 => if x25 < x24 then (if 0 ≤ x25 then (if x25 < (x23.length : Int) then (if 0 ≤ x5 then (if 0 ≤ x25 then (if x25 < (x6.length : Int) then (if (wrap64 (x25 + 1)) < (x0.length : Int) then (if 0 ≤ x25 then (if x25 < ((x6.set (x25 : Int).toNat (shr .u32 (rd x23 x25) x5)).length : Int) then (if 0 ≤ wrap64 (x25 + 1) then (if wrap64 (x25 + 1) < (x0.length : Int) then (if 0 ≤ (wrap64 (32 - x5)) then (if 0 ≤ x25 then (if x25 < ((x6.set (x25 : Int).toNat (shr .u32 (rd x23 x25) x5)).length : Int) then (zN.l0 k x0 x5 ((x6.set (x25 : Int).toNat (shr .u32 (rd x23 x25) x5)).set (x25 : Int).toNat (Go.bits .or .u32 (rd (x6.set (x25 : Int).toNat (shr .u32 (rd x23 x25) x5)) x25) ((shl .u64 (IntKind.u64.wrap (rd x0 (wrap64 (x25 + 1)))) (wrap64 (32 - x5))) % 4294967296))) x23 x24 (wrap64 (x25 + 1))) else (none)) else (none)) else (none)) else (none)) else (none)) else (none)) else (none)) else (zN.l0 k x0 x5 (x6.set (x25 : Int).toNat (shr .u32 (rd x23 x25) x5)) x23 x24 (wrap64 (x25 + 1)))) else (none)) else (none)) else (none)) else (none)) else (none)) else ((zh.f k x6).bind fun t14 => (some t14))
def zN.f (k : Nat) (x0 : List Int) (x1 : Int) : Option (List Int) := if (wrap64 (Int.tdiv x1 32)) ≥ (x0.length : Int) then (some ([] : List Int)) else (if 0 ≤ (wrap64 (Int.tdiv x1 32)) then (if (wrap64 (Int.tdiv x1 32)) ≤ (x0.length : Int) then (if 0 ≤ ((x0.drop (wrap64 (Int.tdiv x1 32) : Int).toNat).length : Int) then (if (((x0.drop (wrap64 (Int.tdiv x1 32) : Int).toNat).length : Int) : Int).toNat ≤ 70368744177664 then (zN.l0 k (x0.drop (wrap64 (Int.tdiv x1 32) : Int).toNat) (Int.tmod x1 32) (List.replicate (((x0.drop (wrap64 (Int.tdiv x1 32) : Int).toNat).length : Int) : Int).toNat (0 : Int)) (x0.drop (wrap64 (Int.tdiv x1 32) : Int).toNat) ((x0.drop (wrap64 (Int.tdiv x1 32) : Int).toNat).length : Int) 0) else (none)) else (none)) else (none)) else (none))
mutual
def zB.j0 : Nat → Int → Int → Option (Int)
 | 0, _, _ => none
 | k + 1, x0, x2 => if x0 ≥ 256 then (zB.j1 k (x0 / 256) (wrap64 (x2 + 8))) else (zB.j1 k x0 x2)
def zB.j1 : Nat → Int → Int → Option (Int)
 | 0, _, _ => none
 | k + 1, x0, x2 => if 0 ≤ x0 % 256 then (if x0 % 256 < (zcF.size : Int) then (some (wrap64 (x2 + (wrap64 (bt zcF (x0 % 256)))))) else (none)) else (none)
end
def zB.f (k : Nat) (x0 : Int) : Option (Int) := if x0 ≥ 65536 then (zB.j0 k (x0 / 65536) 16) else (zB.j0 k x0 0)
def z8.f (k : Nat) (x0 : List Int) : Option (Int) := (zM.f x0).bind fun t24 => (if (!t24) = true then (some 0) else (if (x0.length : Int) = 0 then (some 0) else (if 0 ≤ wrap64 ((x0.length : Int) - 1) then (if wrap64 ((x0.length : Int) - 1) < (x0.length : Int) then ((zB.f k (rd x0 (wrap64 ((x0.length : Int) - 1)))).bind fun t25 => (some (wrap64 ((wrap64 (32 * (wrap64 ((x0.length : Int) - 1)))) + t25)))) else (none)) else (none))))
def zO.l0 : Nat → List Int → Int → Int → List Int → Int → Int → Option (List Int)
 | 0, _, _, _, _, _, _ => none
 | k + 1, x5, x6, x7, x24, x25, x26 => if x26 < x25 then (if 0 ≤ x26 then (if x26 < (x24.length : Int) then (if 0 ≤ x6 then (if x5.length + ([Go.bits .or .u32 (shl .u32 (rd x24 x26) x6) x7] : List Int).length < 35184372088832 then (if 0 ≤ (wrap64 (32 - x6)) then (zO.l0 k (x5 ++ ([Go.bits .or .u32 (shl .u32 (rd x24 x26) x6) x7] : List Int)) x6 ((shr .u64 (IntKind.u64.wrap (rd x24 x26)) (wrap64 (32 - x6))) % 4294967296) x24 x25 (wrap64 (x26 + 1))) else (none)) else (none)) else (none)) else (none)) else (none)) else (if x5.length + ([x7] : List Int).length < 35184372088832 then ((zh.f k (x5 ++ ([x7] : List Int))).bind fun t27 => (some t27)) else (none))
def zO.f (k : Nat) (x0 : List Int) (x1 : Int) : Option (List Int) := if (x0.length : Int) = 0 then (some ([] : List Int)) else (if 0 ≤ (wrap64 (Int.tdiv x1 32)) then (if (wrap64 (Int.tdiv x1 32)) ≤ (wrap64 ((wrap64 ((wrap64 (Int.tdiv x1 32)) + (x0.length : Int))) + 1)) then (if (wrap64 ((wrap64 ((wrap64 (Int.tdiv x1 32)) + (x0.length : Int))) + 1) : Int).toNat ≤ 70368744177664 then (zO.l0 k (List.replicate (wrap64 (Int.tdiv x1 32) : Int).toNat (0 : Int)) (Int.tmod x1 32) 0 x0 (x0.length : Int) 0) else (none)) else (none)) else (none))
def zE.f (k : Nat) (x0 : List Int) (x1 : Int) : Option (List Int × Bool × Int) := (zM.f x0).bind fun t12 => (if (!t12) = true then (some (([] : List Int), false, 2)) else (if (x0.length : Int) = 0 then (some (([] : List Int), false, 0)) else (if x1 < (-131072) then (some (([] : List Int), true, 0)) else (if x1 < 0 then ((zN.f k x0 (wrap64 (-x1))).bind fun t15 => ((zJ.f k x0).bind fun t16 => (some (t15, decide (t16 < (wrap64 (-x1))), 0)))) else ((z8.f k x0).bind fun t26 => (if x1 > (wrap64 (131072 - t26)) then (some (([] : List Int), false, 3)) else ((zO.f k x0 x1).bind fun t28 => (some (t28, false, 0)))))))))
def zr.f (k : Nat) (x0 : Bool) (x1 : List Int) (x2 : Int) : Option (Bool × List Int × Int × Int) := (zM.f x1).bind fun t35 => (if (!t35) = true then (some (false, ([] : List Int), 0, 2)) else (if (x1.length : Int) = 0 then (some (false, ([] : List Int), 0, 0)) else ((zJ.f k x1).bind fun t36 => (if x2 > (wrap64 (16777216 - t36)) then (some (false, ([] : List Int), 0, 20)) else (if x2 < (wrap64 ((-16777216) - t36)) then (some (false, ([] : List Int), 0, 20)) else ((zE.f k x1 (wrap64 (-t36))).bind fun t37 => (some (x0, t37.1, wrap64 (x2 + t36), 0))))))))
def zaf.j0 : Nat → Int → Bool → List Int → Int → Int → Option (Bool × List Int × Int)
 | 0, _, _, _, _, _ => none
 | k + 1, x0, x2_0, x2_1, x2_2, x3 => (zG.f k x3).bind fun t2 => ((zr.f k (decide (x0 < 0)) t2 0).bind fun t38 => (some (t38.1, t38.2.1, t38.2.2.1)))
def zaf.f (k : Nat) (x0 : Int) : Option (Bool × List Int × Int) := if x0 < 0 then (zaf.j0 k x0 false ([] : List Int) 0 (IntKind.u64.wrap (-(IntKind.u64.wrap x0)))) else (zaf.j0 k x0 false ([] : List Int) 0 (IntKind.u64.wrap x0))
def zw.l0 : Nat → List (List Int) → Int → Int → Option (Bool)
 | 0, _, _, _ => none
 | k + 1, x5, x6, x7 => if x7 < x6 then (if 0 ≤ x7 then (if x7 < (x5.length : Int) then ((zM.f (rdT [.is .u32] x5 x7)).bind fun t43 => (if (!t43) = true then (some false) else (zw.l0 k x5 x6 (wrap64 (x7 + 1))))) else (none)) else (none)) else (some true)
def zw.f (k : Nat) (x0 : List (List Int)) : Option (Bool) := zw.l0 k x0 (x0.length : Int) 0
def zK.l0 : Nat → List Int → List Int → Int → Option (Int)
 | 0, _, _, _ => none
 | k + 1, x0, x1, x5 => if x5 ≥ 0 then (if 0 ≤ x5 then (if x5 < (x0.length : Int) then (if 0 ≤ x5 then (if x5 < (x1.length : Int) then (if ¬ (rd x0 x5 = rd x1 x5) then (if 0 ≤ x5 then (if x5 < (x0.length : Int) then (if 0 ≤ x5 then (if x5 < (x1.length : Int) then (if (rd x0 x5) < (rd x1 x5) then (some (-1)) else (some 1)) else (none)) else (none)) else (none)) else (none)) else (zK.l0 k x0 x1 (wrap64 (x5 - 1)))) else (none)) else (none)) else (none)) else (none)) else (some 0)
def zK.f (k : Nat) (x0 : List Int) (x1 : List Int) : Option (Int) := if (x0.length : Int) < (x1.length : Int) then (some (-1)) else (if (x0.length : Int) > (x1.length : Int) then (some 1) else (zK.l0 k x0 x1 (wrap64 ((x0.length : Int) - 1))))
def zaX.f (x0 : Int) (x1 : Int) (x2 : Int) : Option (Int × Int) := if ¬ (x2 = 0) then (if x2 ≤ x0 then (none) else (if (IntKind.u64.wrap x2) = 0 then (none) else (if (IntKind.u64.wrap x2) = 0 then (none) else (some ((IntKind.u64.wrap (Int.tdiv (Go.bits .or .u64 (IntKind.u64.wrap ((IntKind.u64.wrap x0) * 4294967296)) (IntKind.u64.wrap x1)) (IntKind.u64.wrap x2))) % 4294967296, (Int.tmod (Go.bits .or .u64 (IntKind.u64.wrap ((IntKind.u64.wrap x0) * 4294967296)) (IntKind.u64.wrap x1)) (IntKind.u64.wrap x2)) % 4294967296))))) else (if (IntKind.u64.wrap x2) = 0 then (none) else (if (IntKind.u64.wrap x2) = 0 then (none) else (some ((IntKind.u64.wrap (Int.tdiv (Go.bits .or .u64 (IntKind.u64.wrap ((IntKind.u64.wrap x0) * 4294967296)) (IntKind.u64.wrap x1)) (IntKind.u64.wrap x2))) % 4294967296, (Int.tmod (Go.bits .or .u64 (IntKind.u64.wrap ((IntKind.u64.wrap x0) * 4294967296)) (IntKind.u64.wrap x1)) (IntKind.u64.wrap x2)) % 4294967296))))
def z9.l0 : Nat → List Int → Int → List Int → Int → Int → Option (List Int × Int)
 | 0, _, _, _, _, _ => none
 | k + 1, x0, x1, x6, x7, x8 => if x8 ≥ 0 then (if 0 ≤ x8 then (if x8 < (x0.length : Int) then ((zaX.f x7 (rd x0 x8) x1).bind fun t46 => (if 0 ≤ x8 then (if x8 < (x6.length : Int) then (z9.l0 k x0 x1 (x6.set (x8 : Int).toNat t46.1) t46.2 (wrap64 (x8 - 1))) else (none)) else (none))) else (none)) else (none)) else ((zh.f k x6).bind fun t47 => (some (t47, x7)))
def z9.f (k : Nat) (x0 : List Int) (x1 : Int) : Option (List Int × Int) := if 0 ≤ (x0.length : Int) then (if ((x0.length : Int) : Int).toNat ≤ 70368744177664 then (z9.l0 k x0 x1 (List.replicate ((x0.length : Int) : Int).toNat (0 : Int)) 0 (wrap64 ((x0.length : Int) - 1))) else (none)) else (none)
def zaY.f (k : Nat) (x0 : Int) : Option (Int) := (zB.f k x0).bind fun t50 => (some (wrap64 (32 - t50)))
def zao.f (x0 : Int) (x1 : Int) (x2 : Int) : Option (Int × Int) := some ((((x0 - x1) % 4294967296) - x2) % 4294967296, (Go.bits .or .u32 (Go.bits .and .u32 (Go.bits .xor .u32 4294967295 x0) x1) (Go.bits .and .u32 (Go.bits .xor .u32 4294967295 (Go.bits .xor .u32 x0 x1)) ((((x0 - x1) % 4294967296) - x2) % 4294967296))) / 2147483648)
def zaw.f (x0 : Int) (x1 : Int) (x2 : Int) : Option (Int × Int) := some ((IntKind.u64.wrap ((IntKind.u64.wrap ((IntKind.u64.wrap x0) + (IntKind.u64.wrap x1))) + (IntKind.u64.wrap x2))) % 4294967296, ((IntKind.u64.wrap ((IntKind.u64.wrap ((IntKind.u64.wrap x0) + (IntKind.u64.wrap x1))) + (IntKind.u64.wrap x2))) / 4294967296) % 4294967296)
mutual
def zk.l0 : Nat → List Int → List Int → Int → Int → Int → Option (Int × List Int)
 | 0, _, _, _, _, _ => none
 | k + 1, x0, x1, x5, x7, x8 => if x7 ≥ 4294967296 then (if 0 ≤ wrap64 (x5 - 1) then (if wrap64 (x5 - 1) < (x1.length : Int) then (if (IntKind.u64.wrap (x8 + (IntKind.u64.wrap (rd x1 (wrap64 (x5 - 1)))))) ≥ 4294967296 then (zk.l1 k x0 x1 x5 (IntKind.u64.wrap (x7 - 1)) 0 0 x1 (x1.length : Int) 0) else (zk.l0 k x0 x1 x5 (IntKind.u64.wrap (x7 - 1)) (IntKind.u64.wrap (x8 + (IntKind.u64.wrap (rd x1 (wrap64 (x5 - 1)))))))) else (none)) else (none)) else (if 0 ≤ wrap64 (x5 - 2) then (if wrap64 (x5 - 2) < (x1.length : Int) then (if 0 ≤ wrap64 (x5 - 2) then (if wrap64 (x5 - 2) < (x0.length : Int) then (if (IntKind.u64.wrap (x7 * (IntKind.u64.wrap (rd x1 (wrap64 (x5 - 2)))))) > (Go.bits .or .u64 (IntKind.u64.wrap (x8 * 4294967296)) (IntKind.u64.wrap (rd x0 (wrap64 (x5 - 2))))) then (if 0 ≤ wrap64 (x5 - 1) then (if wrap64 (x5 - 1) < (x1.length : Int) then (if (IntKind.u64.wrap (x8 + (IntKind.u64.wrap (rd x1 (wrap64 (x5 - 1)))))) ≥ 4294967296 then (zk.l1 k x0 x1 x5 (IntKind.u64.wrap (x7 - 1)) 0 0 x1 (x1.length : Int) 0) else (zk.l0 k x0 x1 x5 (IntKind.u64.wrap (x7 - 1)) (IntKind.u64.wrap (x8 + (IntKind.u64.wrap (rd x1 (wrap64 (x5 - 1)))))))) else (none)) else (none)) else (zk.l1 k x0 x1 x5 x7 0 0 x1 (x1.length : Int) 0)) else (none)) else (none)) else (none)) else (none))
def zk.l1 : Nat → List Int → List Int → Int → Int → Int → Int → List Int → Int → Int → Option (Int × List Int)
 | 0, _, _, _, _, _, _, _, _, _ => none
 | k + 1, x0, x1, x5, x7, x9, x10, x81, x82, x83 => if x83 < x82 then (if 0 ≤ x83 then (if x83 < (x81.length : Int) then (if 0 ≤ x83 then (if x83 < (x0.length : Int) then ((zao.f (rd x0 x83) ((IntKind.u64.wrap (x10 + (IntKind.u64.wrap (x7 * (IntKind.u64.wrap (rd x81 x83)))))) % 4294967296) x9).bind fun t73 => (if 0 ≤ x83 then (if x83 < (x0.length : Int) then (zk.l1 k (x0.set (x83 : Int).toNat t73.1) x1 x5 x7 t73.2 ((IntKind.u64.wrap (x10 + (IntKind.u64.wrap (x7 * (IntKind.u64.wrap (rd x81 x83)))))) / 4294967296) x81 x82 (wrap64 (x83 + 1))) else (none)) else (none))) else (none)) else (none)) else (none)) else (none)) else (if 0 ≤ x5 then (if x5 < (x0.length : Int) then ((zao.f (rd x0 x5) (x10 % 4294967296) x9).bind fun t74 => (if 0 ≤ x5 then (if x5 < (x0.length : Int) then (if t74.2 = 0 then (some (x7 % 4294967296, x0.set (x5 : Int).toNat t74.1)) else (zk.l2 k (x0.set (x5 : Int).toNat t74.1) x5 x7 0 x1 (x1.length : Int) 0)) else (none)) else (none))) else (none)) else (none))
def zk.l2 : Nat → List Int → Int → Int → Int → List Int → Int → Int → Option (Int × List Int)
 | 0, _, _, _, _, _, _, _ => none
 | k + 1, x0, x5, x7, x13, x129, x130, x131 => if x131 < x130 then (if 0 ≤ x131 then (if x131 < (x129.length : Int) then (if 0 ≤ x131 then (if x131 < (x0.length : Int) then ((zaw.f (rd x0 x131) (rd x129 x131) x13).bind fun t72 => (if 0 ≤ x131 then (if x131 < (x0.length : Int) then (zk.l2 k (x0.set (x131 : Int).toNat t72.1) x5 x7 t72.2 x129 x130 (wrap64 (x131 + 1))) else (none)) else (none))) else (none)) else (none)) else (none)) else (none)) else (if 0 ≤ x5 then (if x5 < (x0.length : Int) then (if 0 ≤ x5 then (if x5 < (x0.length : Int) then (some ((IntKind.u64.wrap (x7 - 1)) % 4294967296, x0.set (x5 : Int).toNat (((rd x0 x5) + x13) % 4294967296))) else (none)) else (none)) else (none)) else (none))
end
def zk.f (k : Nat) (x0 : List Int) (x1 : List Int) : Option (Int × List Int) := if 0 ≤ (x1.length : Int) then (if (x1.length : Int) < (x0.length : Int) then (if 0 ≤ wrap64 ((x1.length : Int) - 1) then (if wrap64 ((x1.length : Int) - 1) < (x0.length : Int) then (if 0 ≤ wrap64 ((x1.length : Int) - 1) then (if wrap64 ((x1.length : Int) - 1) < (x1.length : Int) then (if (IntKind.u64.wrap (rd x1 (wrap64 ((x1.length : Int) - 1)))) = 0 then (none) else (if 0 ≤ wrap64 ((x1.length : Int) - 1) then (if wrap64 ((x1.length : Int) - 1) < (x1.length : Int) then (if (IntKind.u64.wrap (rd x1 (wrap64 ((x1.length : Int) - 1)))) = 0 then (none) else (zk.l0 k x0 x1 (x1.length : Int) (IntKind.u64.wrap (Int.tdiv (Go.bits .or .u64 (IntKind.u64.wrap ((IntKind.u64.wrap (rd x0 (x1.length : Int))) * 4294967296)) (IntKind.u64.wrap (rd x0 (wrap64 ((x1.length : Int) - 1))))) (IntKind.u64.wrap (rd x1 (wrap64 ((x1.length : Int) - 1)))))) (Int.tmod (Go.bits .or .u64 (IntKind.u64.wrap ((IntKind.u64.wrap (rd x0 (x1.length : Int))) * 4294967296)) (IntKind.u64.wrap (rd x0 (wrap64 ((x1.length : Int) - 1))))) (IntKind.u64.wrap (rd x1 (wrap64 ((x1.length : Int) - 1))))))) else (none)) else (none))) else (none)) else (none)) else (none)) else (none)) else (none)) else (none)
mutual
def zx.l0 : Nat → List Int → Int → List Int → List Int → Option (List Int × List Int)
 | 0, _, _, _, _ => none
 | k + 1, x0, x6, x7, x8 => if (x8.length : Int) ≤ (x0.length : Int) then (if x8.length + ([0] : List Int).length < 35184372088832 then (zx.l0 k x0 x6 x7 (x8 ++ ([0] : List Int))) else (none)) else (if 0 ≤ (wrap64 ((x8.length : Int) - (x7.length : Int))) then (if (wrap64 ((x8.length : Int) - (x7.length : Int)) : Int).toNat ≤ 70368744177664 then (zx.l1 k x6 x7 x8 (x7.length : Int) (List.replicate (wrap64 ((x8.length : Int) - (x7.length : Int)) : Int).toNat (0 : Int)) (wrap64 (((List.replicate (wrap64 ((x8.length : Int) - (x7.length : Int)) : Int).toNat (0 : Int)).length : Int) - 1))) else (none)) else (none))
def zx.l1 : Nat → Int → List Int → List Int → Int → List Int → Int → Option (List Int × List Int)
 | 0, _, _, _, _, _, _ => none
 | k + 1, x6, x7, x8, x9, x10, x11 => if x11 ≥ 0 then (if 0 ≤ x11 then (if x11 ≤ (wrap64 ((wrap64 (x11 + x9)) + 1)) then (if (wrap64 ((wrap64 (x11 + x9)) + 1)) ≤ (x8.length : Int) then ((zk.f k ((x8.take (wrap64 ((wrap64 (x11 + x9)) + 1) : Int).toNat).drop (x11 : Int).toNat) x7).bind fun t75 => (if 0 ≤ x11 then (if x11 < (x10.length : Int) then (zx.l1 k x6 x7 (x8.take (x11 : Int).toNat ++ t75.2 ++ x8.drop (wrap64 ((wrap64 (x11 + x9)) + 1) : Int).toNat) x9 (x10.set (x11 : Int).toNat t75.1) (wrap64 (x11 - 1))) else (none)) else (none))) else (none)) else (none)) else (none)) else ((zh.f k x10).bind fun t76 => (if 0 ≤ x9 then (if x9 ≤ (x8.length : Int) then ((zh.f k (x8.take (x9 : Int).toNat)).bind fun t77 => ((zN.f k t77 x6).bind fun t78 => ((zh.f k t78).bind fun t79 => (some (t76, t79))))) else (none)) else (none)))
end
def zx.f (k : Nat) (x0 : List Int) (x1 : List Int) : Option (List Int × List Int) := if 0 ≤ wrap64 ((x1.length : Int) - 1) then (if wrap64 ((x1.length : Int) - 1) < (x1.length : Int) then ((zaY.f k (rd x1 (wrap64 ((x1.length : Int) - 1)))).bind fun t57 => ((zO.f k x1 t57).bind fun t58 => ((zO.f k x0 t57).bind fun t59 => (zx.l0 k x0 t57 t58 t59)))) else (none)) else (none)
def zay.f (k : Nat) (x0 : List Int) (x1 : List Int) : Option (List Int × List Int × Int) := (zw.f k [x0, x1]).bind fun t44 => (if (!t44) = true then (some (([] : List Int), ([] : List Int), 2)) else (if (x1.length : Int) = 0 then (some (([] : List Int), ([] : List Int), 11)) else ((zK.f k x0 x1).bind fun t45 => (if t45 < 0 then (if x0.length < 35184372088832 then (some (([] : List Int), x0, 0)) else (none)) else (if (x1.length : Int) = 1 then (if 0 < (x1.length : Int) then ((z9.f k x0 (rd x1 0)).bind fun t48 => ((zh.f k ([t48.2] : List Int)).bind fun t49 => (some (t48.1, t49, 0)))) else (none)) else ((zx.f k x0 x1).bind fun t80 => (some (t80.1, t80.2, 0))))))))
def za2.f (x0_0 : Int) (x0_1 : Int) : Option (Bool) := if x0_1 = 5 then (some true) else (some (decide (x0_1 = 239)))
def zbm.f (x0 : Int) : Option (Bool) := if (-16777216) ≤ x0 then (some (decide (x0 ≤ 16777216))) else (some false)
def zap.f (x0_0 : Bool) (x0_1 : List Int) (x0_2 : Int) : Option (Bool) := (zM.f x0_1).bind fun t99 => (if (!t99) = true then (some false) else (if (x0_1.length : Int) = 0 then (if (!x0_0) = true then (some (decide (x0_2 = 0))) else (some false)) else (if 0 < (x0_1.length : Int) then (if (Go.bits .and .u32 (rd x0_1 0) 1) = 1 then ((zbm.f x0_2).bind fun t100 => (some t100)) else (some false)) else (none))))
def zT.l0 : Nat → List (Bool × List Int × Int) → Int → Int → Option (Bool)
 | 0, _, _, _ => none
 | k + 1, x5, x6, x7 => if x7 < x6 then (if 0 ≤ x7 then (if x7 < (x5.length : Int) then ((zap.f ((rdT [.b, .is .u32, .i .i64] x5 x7).1) ((rdT [.b, .is .u32, .i .i64] x5 x7).2.1) ((rdT [.b, .is .u32, .i .i64] x5 x7).2.2)).bind fun t101 => (if (!t101) = true then (some false) else (zT.l0 k x5 x6 (wrap64 (x7 + 1))))) else (none)) else (none)) else (some true)
def zT.f (k : Nat) (x0 : List (Bool × List Int × Int)) : Option (Bool) := zT.l0 k x0 (x0.length : Int) 0
def zal.f (x0_0 : Bool) (x0_1 : List Int) (x0_2 : Int) : Option (Bool × List Int × Int) := if x0_1.length < 35184372088832 then (some (x0_0, x0_1, x0_2)) else (none)
mutual
def zC.l0 : Nat → List Int → List Int → List Int → Int → Int → Int → Option (List Int)
 | 0, _, _, _, _, _, _ => none
 | k + 1, x0, x1, x5, x6, x13, x14 => if x14 < x13 then (if x14 < (x1.length : Int) then (if 0 ≤ x14 then (if x14 < (x1.length : Int) then (zC.j1 k x0 x1 x5 x6 x14 (rd x1 x14) x13 x14) else (none)) else (none)) else (zC.j1 k x0 x1 x5 x6 x14 0 x13 x14)) else ((zh.f k x5).bind fun t117 => (some t117))
def zC.j1 : Nat → List Int → List Int → List Int → Int → Int → Int → Int → Int → Option (List Int)
 | 0, _, _, _, _, _, _, _, _ => none
 | k + 1, x0, x1, x5, x6, x7, x8, x13, x14 => if 0 ≤ x7 then (if x7 < (x0.length : Int) then ((zao.f (rd x0 x7) x8 x6).bind fun t116 => (if 0 ≤ x7 then (if x7 < (x5.length : Int) then (zC.l0 k x0 x1 (x5.set (x7 : Int).toNat t116.1) t116.2 x13 (wrap64 (x14 + 1))) else (none)) else (none))) else (none)) else (none)
end
def zC.f (k : Nat) (x0 : List Int) (x1 : List Int) : Option (List Int) := if 0 ≤ (x0.length : Int) then (if ((x0.length : Int) : Int).toNat ≤ 70368744177664 then (zC.l0 k x0 x1 (List.replicate ((x0.length : Int) : Int).toNat (0 : Int)) 0 (x0.length : Int) 0) else (none)) else (none)
def zat.f (k : Nat) (x0 : List Int) (x1 : List Int) : Option (List Int × Int) := (zw.f k [x0, x1]).bind fun t111 => (if (!t111) = true then (some (([] : List Int), 2)) else ((zK.f k x0 x1).bind fun t112 => (if t112 < 0 then (some (([] : List Int), 10)) else ((zC.f k x0 x1).bind fun t118 => (some (t118, 0))))))
def zV.f (x0 : List Int) : Option (List Int × Int) := if (x0.length : Int) > 4096 then (some (([] : List Int), 3)) else (some (x0, 0))
mutual
def zl.l0 : Nat → List Int → List Int → List Int → Int → Int → Int → Option (List Int × Int)
 | 0, _, _, _, _, _, _ => none
 | k + 1, x0, x1, x6, x7, x27, x28 => if x28 < x27 then (if x28 < (x1.length : Int) then (if 0 ≤ x28 then (if x28 < (x1.length : Int) then (zl.j3 k x0 x1 x6 x7 x28 (rd x1 x28) x27 x28) else (none)) else (none)) else (zl.j3 k x0 x1 x6 x7 x28 0 x27 x28)) else (if 0 ≤ (x0.length : Int) then (if (x0.length : Int) < (x6.length : Int) then ((zh.f k (x6.set ((x0.length : Int) : Int).toNat x7)).bind fun t134 => ((zV.f t134).bind fun t135 => (some (t135.1, t135.2)))) else (none)) else (none))
def zl.j1 : Nat → List Int → List Int → Option (List Int × Int)
 | 0, _, _ => none
 | k + 1, x0, x1 => if 0 ≤ (wrap64 ((x0.length : Int) + 1)) then (if (wrap64 ((x0.length : Int) + 1) : Int).toNat ≤ 70368744177664 then (zl.l0 k x0 x1 (List.replicate (wrap64 ((x0.length : Int) + 1) : Int).toNat (0 : Int)) 0 (x0.length : Int) 0) else (none)) else (none)
def zl.j3 : Nat → List Int → List Int → List Int → Int → Int → Int → Int → Int → Option (List Int × Int)
 | 0, _, _, _, _, _, _, _, _ => none
 | k + 1, x0, x1, x6, x7, x8, x9, x27, x28 => if 0 ≤ x8 then (if x8 < (x0.length : Int) then ((zaw.f (rd x0 x8) x9 x7).bind fun t133 => (if 0 ≤ x8 then (if x8 < (x6.length : Int) then (zl.l0 k x0 x1 (x6.set (x8 : Int).toNat t133.1) t133.2 x27 (wrap64 (x28 + 1))) else (none)) else (none))) else (none)) else (none)
end
def zl.f (k : Nat) (x0 : List Int) (x1 : List Int) : Option (List Int × Int) := (zw.f k [x0, x1]).bind fun t132 => (if (!t132) = true then (some (([] : List Int), 2)) else (if (x0.length : Int) < (x1.length : Int) then (zl.j1 k x1 x0) else (zl.j1 k x0 x1)))
def zbN.f (k : Nat) (x0_0 : Bool) (x0_1 : List Int) (x0_2 : Int) (x1_0 : Bool) (x1_1 : List Int) (x1_2 : Int) (x2 : Int) : Option (Bool × List Int × Int × Int) := if (x0_0) = (x1_0) then (some (false, ([] : List Int), 0, 3)) else ((zE.f k x0_1 (wrap64 (x2 - 1))).bind fun t109 => ((zE.f k x1_1 (-1)).bind fun t110 => ((zat.f k t109.1 t110.1).bind fun t119 => (if ¬ (t119.2 = 0) then (some (false, ([] : List Int), 0, 3)) else ((zl.f k t119.1 t119.1).bind fun t136 => (if t136.2 = 0 then ((zG.f k 1).bind fun t137 => ((zat.f k t136.1 t137).bind fun t138 => ((zr.f k x0_0 t138.1 x1_2).bind fun t139 => (some (t139.1, t139.2.1, t139.2.2.1, t139.2.2.2))))) else ((z8.f k t119.1).bind fun t140 => ((zJ.f k t119.1).bind fun t141 => (if t140 = (wrap64 (t141 + 1)) then ((zG.f k 1).bind fun t142 => ((zat.f k t119.1 t142).bind fun t143 => ((zl.f k t143.1 t119.1).bind fun t144 => ((zr.f k x0_0 t144.1 x1_2).bind fun t145 => (some (t145.1, t145.2.1, t145.2.2.1, t145.2.2.2)))))) else (some (false, ([] : List Int), 0, 3)))))))))))
def zaF.j1 : Nat → Bool → Int → Bool → List Int → Int → List Int → Option (Bool × List Int × Int × Int)
 | 0, _, _, _, _, _, _ => none
 | k + 1, x0, x3, x8_0, x8_1, x8_2, x16 => (zr.f k x0 x16 (wrap64 (x3 + 1))).bind fun t159 => (some (t159.1, t159.2.1, t159.2.2.1, t159.2.2.2))
def zaF.f (k : Nat) (x0 : Bool) (x1 : List Int) (x2 : List Int) (x3 : Int) : Option (Bool × List Int × Int × Int) := if 0 < (x1.length : Int) then (if 0 < (x2.length : Int) then (if ¬ (Go.bits .and .u32 (rd x1 0) 1 = Go.bits .and .u32 (rd x2 0) 1) then (some (false, ([] : List Int), 0, 3)) else ((zE.f k x1 (-1)).bind fun t154 => ((zE.f k x2 (-1)).bind fun t155 => ((zl.f k t154.1 t155.1).bind fun t156 => (if 0 < (x1.length : Int) then (if (Go.bits .and .u32 (rd x1 0) 1) = 1 then ((zG.f k 1).bind fun t157 => ((zl.f k t156.1 t157).bind fun t158 => (zaF.j1 k x0 x3 false ([] : List Int) 0 t158.1))) else (zaF.j1 k x0 x3 false ([] : List Int) 0 t156.1)) else (none)))))) else (none)) else (none)
def zbb.f (k : Nat) (x0 : List Int) (x1 : List Int) : Option (Int × Int) := (zw.f k [x0, x1]).bind fun t162 => (if (!t162) = true then (some (0, 2)) else ((zK.f k x0 x1).bind fun t163 => (some (t163, 0))))
def zah.j2 : Nat → Bool → List Int → List Int → Int → Bool → List Int → Int → Option (Bool × List Int × Int × Int)
 | 0, _, _, _, _, _, _, _ => none
 | k + 1, x0, x1, x3, x4, x10_0, x10_1, x10_2 => (zat.f k x1 x3).bind fun t169 => ((zr.f k x0 t169.1 x4).bind fun t170 => (some (t170.1, t170.2.1, t170.2.2.1, t170.2.2.2)))
def zah.f (k : Nat) (x0 : Bool) (x1 : List Int) (x2 : Bool) (x3 : List Int) (x4 : Int) : Option (Bool × List Int × Int × Int) := if (x0) = (x2) then ((zl.f k x1 x3).bind fun t165 => (if ¬ (t165.2 = 0) then ((zaF.f k x0 x1 x3 x4).bind fun t166 => (some (t166.1, t166.2.1, t166.2.2.1, t166.2.2.2))) else ((zr.f k x0 t165.1 x4).bind fun t167 => (some (t167.1, t167.2.1, t167.2.2.1, t167.2.2.2))))) else ((zbb.f k x1 x3).bind fun t168 => (if t168.1 < 0 then (zah.j2 k x2 x3 x1 x4 false ([] : List Int) 0) else (zah.j2 k x0 x1 x3 x4 false ([] : List Int) 0)))
def zag.j1 : Nat → Bool → List Int → Int → Bool → List Int → Int → Bool → List Int → Int → Option (Bool × List Int × Int × Int)
 | 0, _, _, _, _, _, _, _, _, _ => none
 | k + 1, x2_0, x2_1, x2_2, x3_0, x3_1, x3_2, x4_0, x4_1, x4_2 => (z8.f k x2_1).bind fun t107 => (if (wrap64 ((wrap64 (x2_2 - x3_2)) + t107)) > 131073 then (some (false, ([] : List Int), 0, 3)) else ((z8.f k x2_1).bind fun t108 => (if (wrap64 ((wrap64 (x2_2 - x3_2)) + t108)) > 131072 then ((zbN.f k x2_0 x2_1 x2_2 x3_0 x3_1 x3_2 (wrap64 (x2_2 - x3_2))).bind fun t146 => (some (t146.1, t146.2.1, t146.2.2.1, t146.2.2.2))) else ((zE.f k x2_1 (wrap64 (x2_2 - x3_2))).bind fun t147 => ((zah.f k x2_0 t147.1 x3_0 x3_1 x3_2).bind fun t171 => (some (t171.1, t171.2.1, t171.2.2.1, t171.2.2.2)))))))
def zag.f (k : Nat) (x0_0 : Bool) (x0_1 : List Int) (x0_2 : Int) (x1_0 : Bool) (x1_1 : List Int) (x1_2 : Int) : Option (Bool × List Int × Int × Int) := if (x0_1.length : Int) = 0 then ((zal.f x1_0 x1_1 x1_2).bind fun t105 => (some (t105.1, t105.2.1, t105.2.2, 0))) else (if (x1_1.length : Int) = 0 then ((zal.f x0_0 x0_1 x0_2).bind fun t106 => (some (t106.1, t106.2.1, t106.2.2, 0))) else (if x0_2 < x1_2 then (zag.j1 k x1_0 x1_1 x1_2 x0_0 x0_1 x0_2 false ([] : List Int) 0) else (zag.j1 k x0_0 x0_1 x0_2 x1_0 x1_1 x1_2 false ([] : List Int) 0)))
def zax.f (k : Nat) (x0_0 : Bool) (x0_1 : List Int) (x0_2 : Int) (x1_0 : Bool) (x1_1 : List Int) (x1_2 : Int) : Option (Bool × List Int × Int × Int) := (zT.f k [(x0_0, x0_1, x0_2), (x1_0, x1_1, x1_2)]).bind fun t102 => (if (!t102) = true then (some (false, ([] : List Int), 0, 2)) else ((zag.f k x0_0 x0_1 x0_2 x1_0 x1_1 x1_2).bind fun t172 => (some (t172.1, t172.2.1, t172.2.2.1, t172.2.2.2))))
mutual
def zv.l0 : Nat → Int → Int → Bool → List Int → Int → List Int → Bool → List Int → Int → Int → Option (Bool × List Int × Int)
 | 0, _, _, _, _, _, _, _, _, _, _ => none
 | k + 1, x2_0, x2_1, x4_0, x4_1, x4_2, x8, x11_0, x11_1, x11_2, x12 => if (x8.length : Int) > 0 then ((zG.f k x12).bind fun t207 => ((zay.f k x8 t207).bind fun t208 => ((za2.f x2_0 x2_1).bind fun t209 => (if t209 = true then ((zr.f k (decide (¬ (Go.bits .and .u64 x12 2 = 0))) t208.1 0).bind fun t210 => (zv.j1 k x2_0 x2_1 x4_0 x4_1 x4_2 x8 x11_0 x11_1 x11_2 x12 t210.1 t210.2.1 t210.2.2.1)) else ((zr.f k false t208.1 0).bind fun t211 => (zv.j1 k x2_0 x2_1 x4_0 x4_1 x4_2 x8 x11_0 x11_1 x11_2 x12 t211.1 t211.2.1 t211.2.2.1)))))) else (some (x11_0, x11_1, x11_2))
def zv.j1 : Nat → Int → Int → Bool → List Int → Int → List Int → Bool → List Int → Int → Int → Bool → List Int → Int → Option (Bool × List Int × Int)
 | 0, _, _, _, _, _, _, _, _, _, _, _, _, _ => none
 | k + 1, x2_0, x2_1, x4_0, x4_1, x4_2, x8, x11_0, x11_1, x11_2, x12, x16_0, x16_1, x16_2 => (zax.f k x11_0 x11_1 x11_2 x16_0 x16_1 x16_2).bind fun t204 => ((zG.f k (IntKind.u64.wrap (x2_1 * x2_1))).bind fun t205 => ((zay.f k x8 t205).bind fun t206 => (zv.l0 k x2_0 x2_1 x4_0 x4_1 x4_2 t206.1 t204.1 t204.2.1 t204.2.2.1 (IntKind.u64.wrap (x12 + 2)))))
end
def zv.f (k : Nat) (x0_0 : Int) (x0_1 : Int) (x1 : Int) : Option (Bool × List Int × Int) := (zG.f k 1).bind fun t200 => ((zE.f k t200 x1).bind fun t201 => ((zG.f k x0_1).bind fun t202 => ((zay.f k t201.1 t202).bind fun t203 => (zv.l0 k x0_0 x0_1 false ([] : List Int) 0 t203.1 false ([] : List Int) 0 1))))
mutual
def zo.l0 : Nat → List Int → List Int → List Int → Int → Int → Option (List Int)
 | 0, _, _, _, _, _ => none
 | k + 1, x1, x5, x18, x19, x20 => if x20 < x19 then (if 0 ≤ x20 then (if x20 < (x18.length : Int) then (zo.l1 k x1 x5 x20 (rd x18 x20) 0 x18 x19 x20 x1 (x1.length : Int) 0) else (none)) else (none)) else ((zh.f k x5).bind fun t217 => (some t217))
def zo.l1 : Nat → List Int → List Int → Int → Int → Int → List Int → Int → Int → List Int → Int → Int → Option (List Int)
 | 0, _, _, _, _, _, _, _, _, _, _, _ => none
 | k + 1, x1, x5, x6, x7, x8, x18, x19, x20, x25, x26, x27 => if x27 < x26 then (if 0 ≤ x27 then (if x27 < (x25.length : Int) then (if 0 ≤ wrap64 (x6 + x27) then (if wrap64 (x6 + x27) < (x5.length : Int) then (if 0 ≤ wrap64 (x6 + x27) then (if wrap64 (x6 + x27) < (x5.length : Int) then (zo.l1 k x1 (x5.set (wrap64 (x6 + x27) : Int).toNat ((IntKind.u64.wrap ((IntKind.u64.wrap ((IntKind.u64.wrap ((IntKind.u64.wrap x7) * (IntKind.u64.wrap (rd x25 x27)))) + (IntKind.u64.wrap (rd x5 (wrap64 (x6 + x27)))))) + x8)) % 4294967296)) x6 x7 ((IntKind.u64.wrap ((IntKind.u64.wrap ((IntKind.u64.wrap ((IntKind.u64.wrap x7) * (IntKind.u64.wrap (rd x25 x27)))) + (IntKind.u64.wrap (rd x5 (wrap64 (x6 + x27)))))) + x8)) / 4294967296) x18 x19 x20 x25 x26 (wrap64 (x27 + 1))) else (none)) else (none)) else (none)) else (none)) else (none)) else (none)) else (if 0 ≤ wrap64 (x6 + (x1.length : Int)) then (if wrap64 (x6 + (x1.length : Int)) < (x5.length : Int) then (zo.l0 k x1 (x5.set (wrap64 (x6 + (x1.length : Int)) : Int).toNat (x8 % 4294967296)) x18 x19 (wrap64 (x20 + 1))) else (none)) else (none))
end
def zo.f (k : Nat) (x0 : List Int) (x1 : List Int) : Option (List Int) := if 0 ≤ (wrap64 ((x0.length : Int) + (x1.length : Int))) then (if (wrap64 ((x0.length : Int) + (x1.length : Int)) : Int).toNat ≤ 70368744177664 then (zo.l0 k x1 (List.replicate (wrap64 ((x0.length : Int) + (x1.length : Int)) : Int).toNat (0 : Int)) x0 (x0.length : Int) 0) else (none)) else (none)
def zbc.f (k : Nat) (x0 : List Int) (x1 : List Int) : Option (List Int × Int) := (zw.f k [x0, x1]).bind fun t224 => (if (!t224) = true then (some (([] : List Int), 2)) else (if (x0.length : Int) > 0 then (if (x1.length : Int) > 0 then (if (wrap64 ((wrap64 ((x0.length : Int) + (x1.length : Int))) - 1)) > 4096 then (some (([] : List Int), 3)) else ((zo.f k x0 x1).bind fun t225 => ((zV.f t225).bind fun t226 => (some (t226.1, t226.2))))) else ((zo.f k x0 x1).bind fun t227 => ((zV.f t227).bind fun t228 => (some (t228.1, t228.2))))) else ((zo.f k x0 x1).bind fun t229 => ((zV.f t229).bind fun t230 => (some (t230.1, t230.2))))))
def zaK.f (k : Nat) (x0_0 : Bool) (x0_1 : List Int) (x0_2 : Int) (x1_0 : Bool) (x1_1 : List Int) (x1_2 : Int) : Option (Bool × List Int × Int × Int) := (zT.f k [(x0_0, x0_1, x0_2), (x1_0, x1_1, x1_2)]).bind fun t213 => (if (!t213) = true then (some (false, ([] : List Int), 0, 2)) else ((zbc.f k x0_1 x1_1).bind fun t231 => (if ¬ (t231.2 = 0) then (some (false, ([] : List Int), 0, t231.2)) else ((zr.f k (decide (¬ ((x0_0) = (x1_0)))) t231.1 (wrap64 (x0_2 + x1_2))).bind fun t232 => (some (t232.1, t232.2.1, t232.2.2.1, t232.2.2.2))))))
def za9.f (x0_0 : Bool) (x0_1 : List Int) (x0_2 : Int) (x1 : Int) : Option (Bool × List Int × Int × Int) := (zap.f x0_0 x0_1 x0_2).bind fun t242 => (if (!t242) = true then (some (false, ([] : List Int), 0, 2)) else (if (x0_1.length : Int) = 0 then (some (false, ([] : List Int), 0, 0)) else (if x1 > (wrap64 (16777216 - x0_2)) then (some (false, ([] : List Int), 0, 20)) else (if x1 < (wrap64 ((-16777216) - x0_2)) then (some (false, ([] : List Int), 0, 20)) else ((zal.f x0_0 x0_1 x0_2).bind fun t243 => (some (t243.1, t243.2.1, wrap64 (t243.2.2 + x1), 0)))))))
def zu.l0 : Nat → Int → Bool → List Int → Int → Bool → List Int → Int → List (Int × Int) → Int → Int → Option (Bool × List Int × Int)
 | 0, _, _, _, _, _, _, _, _, _, _ => none
 | k + 1, x0, x4_0, x4_1, x4_2, x5_0, x5_1, x5_2, x11, x12, x13 => if x13 < x12 then (if 0 ≤ x13 then (if x13 < (x11.length : Int) then ((zaf.f k ((rdT [.i .i64, .i .u64] x11 x13).1)).bind fun t39 => ((zv.f k ((rdT [.i .i64, .i .u64] x11 x13).1) ((rdT [.i .i64, .i .u64] x11 x13).2) x0).bind fun t212 => ((zaK.f k t39.1 t39.2.1 t39.2.2 t212.1 t212.2.1 t212.2.2).bind fun t233 => ((zax.f k x5_0 x5_1 x5_2 t233.1 t233.2.1 t233.2.2.1).bind fun t234 => (zu.l0 k x0 x4_0 x4_1 x4_2 t234.1 t234.2.1 t234.2.2.1 x11 x12 (wrap64 (x13 + 1))))))) else (none)) else (none)) else ((za9.f x5_0 x5_1 x5_2 (wrap64 (-x0))).bind fun t244 => (some (t244.1, t244.2.1, t244.2.2.1)))
def zu.f (k : Nat) (x0 : Int) (x1 : List (Int × Int)) : Option (Bool × List Int × Int) := zu.l0 k x0 false ([] : List Int) 0 false ([] : List Int) 0 x1 (x1.length : Int) 0
def zq.f (k : Nat) (d s z : Int) (p0 : Bool) (p1 : List Int) (p2 : Int) (q0 : Bool) (q1 : List Int) (q2 : Int) : Option (Int × Int × Int × Bool × List Int × Int × Bool × List Int × Int) :=
 if d = 0 then (if s = 0 then ((zu.f k 8320 [(16, 5), ((-4), 239)]).bind fun P => (zu.f k 8320 [(18, 26), ((-2), 4801), (8, 8749)]).bind fun Q => some (1, 0, z, P.1, P.2.1, P.2.2, Q.1, Q.2.1, Q.2.2)) else none) else some (d, s, z, p0, p1, p2, q0, q1, q2)
abbrev zq.S : Sig := { ps := [.bb [.i .u32, .i .i32, .i .u32, .b, .is .u32, .i .i64, .b, .is .u32, .i .i64]], rs := [], wb := [.i .u32, .i .i32, .i .u32, .b, .is .u32, .i .i64, .b, .is .u32, .i .i64], R := Int × Int × Int × Bool × List Int × Int × Bool × List Int × Int, mkR := fun y0 y1 y2 y3 y4 y5 y6 y7 y8 => some (y0, y1, y2, y3, y4, y5, y6, y7, y8), un := fun r => [.int .u32 r.1, .int .i32 r.2.1, .int .u32 r.2.2.1, .bool r.2.2.2.1, .ints .u32 r.2.2.2.2.1, .int .i64 r.2.2.2.2.2.1, .bool r.2.2.2.2.2.2.1, .ints .u32 r.2.2.2.2.2.2.2.1, .int .i64 r.2.2.2.2.2.2.2.2] }
def zq.F (k : Nat) : Fun := { S := zq.S, f := zq.f k }
def zaq.f (x0 : Int) : Option (Int) := if x0 < 1 then (some 2) else (if x0 > 8192 then (some 3) else (some 0))
def zaL.f (k : Nat) (x0_0 : Bool) (x0_1 : List Int) (x0_2 : Int) (x1 : Int) : Option (Bool × List Int × Int × Bool × Int) := (z8.f k x0_1).bind fun t248 => (if (wrap64 (t248 - x1)) ≤ 0 then ((zal.f x0_0 x0_1 x0_2).bind fun t249 => (some (t249.1, t249.2.1, t249.2.2, false, 0))) else ((zE.f k x0_1 (wrap64 (-(wrap64 (t248 - x1))))).bind fun t250 => ((zr.f k x0_0 t250.1 (wrap64 (x0_2 + (wrap64 (t248 - x1))))).bind fun t251 => (some (t251.1, t251.2.1, t251.2.2.1, decide (t251.2.2.2 = 0), t251.2.2.2)))))
def z6.f (k : Nat) (x0_0 : Bool) (x0_1 : List Int) (x0_2 : Int) (x1 : Int) : Option (Bool × List Int × Int × Bool × Int) := (zap.f x0_0 x0_1 x0_2).bind fun t246 => (if (!t246) = true then (some (false, ([] : List Int), 0, false, 2)) else ((zaq.f x1).bind fun t247 => (if ¬ (t247 = 0) then (some (false, ([] : List Int), 0, false, t247)) else ((zaL.f k x0_0 x0_1 x0_2 x1).bind fun t252 => (some (t252.1, t252.2.1, t252.2.2.1, t252.2.2.2.1, t252.2.2.2.2))))))
def za1.f (k : Nat) (x0_0 : Int) (x0_1 : Int) (x0_2 : Int) (x0_3 : Bool) (x0_4 : List Int) (x0_5 : Int) (x0_6 : Bool) (x0_7 : List Int) (x0_8 : Int) (x1 : Int) : Option (Bool × List Int × Int × Int × Int × Int × Int × Bool × List Int × Int × Bool × List Int × Int) := (zq.f k x0_0 x0_1 x0_2 x0_3 x0_4 x0_5 x0_6 x0_7 x0_8).bind fun t245 => ((z6.f k t245.2.2.2.1 t245.2.2.2.2.1 t245.2.2.2.2.2.1 x1).bind fun t253 => (some (t253.1, t253.2.1, t253.2.2.1, t253.2.2.2.2, t245.1, t245.2.1, t245.2.2.1, t245.2.2.2.1, t245.2.2.2.2.1, t245.2.2.2.2.2.1, t245.2.2.2.2.2.2.1, t245.2.2.2.2.2.2.2.1, t245.2.2.2.2.2.2.2.2)))
def zbJ.f (x1 : Int) : Option (Bool × List Int × Int × Int) := some (false, ([] : List Int), 0, 1)
def za0.f (k : Nat) (x0_0 : Int) (x0_1 : Int) (x0_2 : Int) (x0_3 : Bool) (x0_4 : List Int) (x0_5 : Int) (x0_6 : Bool) (x0_7 : List Int) (x0_8 : Int) (x1 : Int) : Option (Bool × List Int × Int × Int × Int × Int × Int × Bool × List Int × Int × Bool × List Int × Int) := (zq.f k x0_0 x0_1 x0_2 x0_3 x0_4 x0_5 x0_6 x0_7 x0_8).bind fun t255 => ((z6.f k t255.2.2.2.2.2.2.1 t255.2.2.2.2.2.2.2.1 t255.2.2.2.2.2.2.2.2 x1).bind fun t256 => (some (t256.1, t256.2.1, t256.2.2.1, t256.2.2.2.2, t255.1, t255.2.1, t255.2.2.1, t255.2.2.2.1, t255.2.2.2.2.1, t255.2.2.2.2.2.1, t255.2.2.2.2.2.2.1, t255.2.2.2.2.2.2.2.1, t255.2.2.2.2.2.2.2.2)))
def zbI.f (x1 : Int) : Option (Bool × List Int × Int × Int) := some (false, ([] : List Int), 0, 1)
def z5.l0 : Nat → List Int → List Int → Int → Option (Bool)
 | 0, _, _, _ => none
 | k + 1, x0, x1, x5 => if x5 < (x0.length : Int) then (if 0 ≤ x5 then (if x5 < (x0.length : Int) then (if 0 ≤ x5 then (if x5 < (x1.length : Int) then (if ¬ (rd x0 x5 = rd x1 x5) then (some false) else (z5.l0 k x0 x1 (wrap64 (x5 + 1)))) else (none)) else (none)) else (none)) else (none)) else (some true)
def z5.f (k : Nat) (x0 : List Int) (x1 : List Int) : Option (Bool) := if ¬ ((x0.length : Int) = (x1.length : Int)) then (some false) else (z5.l0 k x0 x1 0)
def zak.f (k : Nat) (x0_0 : Bool) (x0_1 : List Int) (x0_2 : Int) (x1_0 : Bool) (x1_1 : List Int) (x1_2 : Int) : Option (Bool) := if (x0_0) = (x1_0) then (if x0_2 = x1_2 then ((z5.f k x0_1 x1_1).bind fun t260 => (some t260)) else (some false)) else (some false)
def zbK.f : Option (Int × Int × Int × Bool × List Int × Int × Bool × List Int × Int) := some (0, 0, 0, false, ([] : List Int), 0, false, ([] : List Int), 0)
def zD.l0 : Nat → List Int → Int → Option (List Int)
 | 0, _, _ => none
 | k + 1, x0, x3 => if x3 > 0 then (if 0 ≤ wrap64 (x3 - 1) then (if wrap64 (x3 - 1) < (x0.length : Int) then (if (rd x0 (wrap64 (x3 - 1))) = 0 then (zD.l0 k x0 (wrap64 (x3 - 1))) else (if 0 ≤ x3 then (if x3 ≤ (x0.length : Int) then (some (x0.take (x3 : Int).toNat)) else (none)) else (none))) else (none)) else (none)) else (if 0 ≤ x3 then (if x3 ≤ (x0.length : Int) then (some (x0.take (x3 : Int).toNat)) else (none)) else (none))
def zD.f (k : Nat) (x0 : List Int) : Option (List Int) := zD.l0 k x0 (x0.length : Int)
def za6.f (k : Nat) (x0 : Int) : Option (List Int) := (zD.f k ([x0 % 4294967296, (x0 / 4294967296) % 4294967296] : List Int)).bind fun t266 => (some t266)
def za5.f (x0 : List Int) (x1 : Int) : Option (Int) := if x1 < 0 then (some 0) else (if (wrap64 (Int.tdiv x1 32)) ≥ (x0.length : Int) then (some 0) else (if 0 ≤ wrap64 (Int.tdiv x1 32) then (if wrap64 (Int.tdiv x1 32) < (x0.length : Int) then (if 0 ≤ (Int.tmod x1 32) then (some (Go.bits .and .u32 (shr .u32 (rd x0 (wrap64 (Int.tdiv x1 32))) (Int.tmod x1 32)) 1)) else (none)) else (none)) else (none)))
def zS.l0 : Nat → List Int → Int → Option (Int)
 | 0, _, _ => none
 | k + 1, x0, x3 => if x3 < (wrap64 (32 * (x0.length : Int))) then ((za5.f x0 x3).bind fun t272 => (if t272 = 0 then (if 0 ≤ wrap64 (Int.tdiv x3 32) then (if wrap64 (Int.tdiv x3 32) < (x0.length : Int) then (if (rd x0 (wrap64 (Int.tdiv x3 32))) = 0 then (zS.l0 k x0 (wrap64 (x3 + 32))) else (zS.l0 k x0 (wrap64 (x3 + 1)))) else (none)) else (none)) else (if x3 = (wrap64 (32 * (x0.length : Int))) then (some 0) else (some x3)))) else (if x3 = (wrap64 (32 * (x0.length : Int))) then (some 0) else (some x3))
def zS.f (k : Nat) (x0 : List Int) : Option (Int) := zS.l0 k x0 0
def zad.l0 : Nat → Int → Int → Option (Int)
 | 0, _, _ => none
 | k + 1, x3, x4 => if x4 > 0 then (zad.l0 k (wrap64 (x3 + 1)) (x4 / 2)) else (some x3)
def zad.f (k : Nat) (x0 : List Int) : Option (Int) := if (x0.length : Int) = 0 then (some 0) else (if 0 ≤ wrap64 ((x0.length : Int) - 1) then (if wrap64 ((x0.length : Int) - 1) < (x0.length : Int) then (zad.l0 k (wrap64 (32 * (wrap64 ((x0.length : Int) - 1)))) (rd x0 (wrap64 ((x0.length : Int) - 1)))) else (none)) else (none))
def zZ.l0 : Nat → List Int → Bool → List Int → Int → Int → Option (List Int × Bool)
 | 0, _, _, _, _, _ => none
 | k + 1, x0, x6, x7, x8, x9 => if x9 < (x0.length : Int) then (if 0 ≤ x9 then (if x9 < (x0.length : Int) then (if 0 ≤ x8 then (if (wrap64 (x9 + 1)) < (x0.length : Int) then (if 0 ≤ wrap64 (x9 + 1) then (if wrap64 (x9 + 1) < (x0.length : Int) then (if 0 ≤ (wrap64 (32 - x8)) then (if x7.length + ([(Go.bits .or .u64 (shr .u64 (IntKind.u64.wrap (rd x0 x9)) x8) (shl .u64 (IntKind.u64.wrap (rd x0 (wrap64 (x9 + 1)))) (wrap64 (32 - x8)))) % 4294967296] : List Int).length < 35184372088832 then (zZ.l0 k x0 x6 (x7 ++ ([(Go.bits .or .u64 (shr .u64 (IntKind.u64.wrap (rd x0 x9)) x8) (shl .u64 (IntKind.u64.wrap (rd x0 (wrap64 (x9 + 1)))) (wrap64 (32 - x8)))) % 4294967296] : List Int)) x8 (wrap64 (x9 + 1))) else (none)) else (none)) else (none)) else (none)) else (if x7.length + ([(shr .u64 (IntKind.u64.wrap (rd x0 x9)) x8) % 4294967296] : List Int).length < 35184372088832 then (zZ.l0 k x0 x6 (x7 ++ ([(shr .u64 (IntKind.u64.wrap (rd x0 x9)) x8) % 4294967296] : List Int)) x8 (wrap64 (x9 + 1))) else (none))) else (none)) else (none)) else (none)) else ((zD.f k x7).bind fun t300 => (some (t300, x6)))
def zZ.f (k : Nat) (x0 : List Int) (x1 : Int) : Option (List Int × Bool) := (zad.f k x0).bind fun t298 => (if x1 ≥ t298 then (some (([] : List Int), decide ((x0.length : Int) > 0))) else ((zS.f k x0).bind fun t299 => (zZ.l0 k x0 (decide (x1 > t299)) ([] : List Int) (Int.tmod x1 32) (wrap64 (Int.tdiv x1 32)))))
def za7.f (k : Nat) (x0 : Bool) (x1 : List Int) (x2 : Int) : Option (Bool × List Int × Int) := if (x1.length : Int) = 0 then (some (false, ([] : List Int), 0)) else ((zS.f k x1).bind fun t273 => ((zZ.f k x1 t273).bind fun t301 => (some (x0, t301.1, wrap64 (x2 + t273)))))
def zae.j0 : Nat → Int → Bool → List Int → Int → Int → Option (Bool × List Int × Int)
 | 0, _, _, _, _, _ => none
 | k + 1, x0, x2_0, x2_1, x2_2, x3 => (za6.f k x3).bind fun t267 => ((za7.f k (decide (x0 < 0)) t267 0).bind fun t302 => (some (t302.1, t302.2.1, t302.2.2)))
def zae.f (k : Nat) (x0 : Int) : Option (Bool × List Int × Int) := if x0 < 0 then (zae.j0 k x0 false ([] : List Int) 0 (IntKind.u64.wrap (-(IntKind.u64.wrap x0)))) else (zae.j0 k x0 false ([] : List Int) 0 (IntKind.u64.wrap x0))
def za8.f (x0 : Int) : Option (Bool × List Int × Int) := some (false, ([1] : List Int), x0)
def za4.f (k : Nat) : Option (Bool) := (zbK.f).bind fun t314 => ((za1.f k t314.1 t314.2.1 t314.2.2.1 t314.2.2.2.1 t314.2.2.2.2.1 t314.2.2.2.2.2.1 t314.2.2.2.2.2.2.1 t314.2.2.2.2.2.2.2.1 t314.2.2.2.2.2.2.2.2 2).bind fun t315 => ((za0.f k t315.2.2.2.2.1 t315.2.2.2.2.2.1 t315.2.2.2.2.2.2.1 t315.2.2.2.2.2.2.2.1 t315.2.2.2.2.2.2.2.2.1 t315.2.2.2.2.2.2.2.2.2.1 t315.2.2.2.2.2.2.2.2.2.2.1 t315.2.2.2.2.2.2.2.2.2.2.2.1 t315.2.2.2.2.2.2.2.2.2.2.2.2 1).bind fun t316 => ((zae.f k 3).bind fun t317 => ((zak.f k t315.1 t315.2.1 t315.2.2.1 t317.1 t317.2.1 t317.2.2).bind fun t318 => (if t318 = true then (if t315.2.2.2.1 = 0 then ((za8.f (-1)).bind fun t319 => ((zak.f k t316.1 t316.2.1 t316.2.2.1 t319.1 t319.2.1 t319.2.2).bind fun t320 => (if t320 = true then (some (decide (t316.2.2.2.1 = 0))) else (some false)))) else (some false)) else (some false))))))
def zbj.f (k : Nat) (x0 : Int) : Option (Bool) := (zbJ.f x0).bind fun t327 => ((zbI.f x0).bind fun t328 => ((zak.f k t327.1 t327.2.1 t327.2.2.1 false ([] : List Int) 0).bind fun t329 => (if t329 = true then (if t327.2.2.2 = 1 then ((zak.f k t328.1 t328.2.1 t328.2.2.1 false ([] : List Int) 0).bind fun t330 => (if t330 = true then (if t328.2.2.2 = 1 then ((za4.f k).bind fun t331 => (some t331)) else (some false)) else (some false))) else (some false)) else (some false))))
end Go.Proofs.YtlngoohfkaceoaaDoor.Eng
