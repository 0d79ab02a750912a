import Derived.Test.YtlngoohfkaceoaaGreatDoorEng2
import Derived.Test.YtlngoohfkaceoaaGreatDoorProg
import Derived.KernelRfl
import Derived.Lib.TrailingZeros
import Derived.Lib.Repeat
import Derived.Lib.Bytealg
set_option linter.unusedVariables false
set_option linter.unusedSimpArgs false
namespace Go.Proofs.YtlngoohfkaceoaaGreatDoor.Eng
open Go.RowKit Go.Proofs
set_option maxRecDepth 100000
def TL : List (Nat × TI) := [(2, ⟨.int .i64, 1, 8, [(.int .i64)]⟩),
 (3, ⟨.int .i64, 1, 8, [(.int .i64)]⟩),
 (4, ⟨.bool, 1, 1, [.bool]⟩),
 (5, ⟨.int .u8, 1, 1, [(.int .u8)]⟩),
 (6, ⟨.int .u8, 1, 1, [(.int .u8)]⟩),
 (7, ⟨.struct [(0, 2), (1, 3), (2, 4), (3, 6)], 4, 24, [(.int .i64), (.int .i64), .bool, (.int .u8)]⟩),
 (8, ⟨.struct [(0, 2), (1, 3), (2, 4), (3, 6)], 4, 24, [(.int .i64), (.int .i64), .bool, (.int .u8)]⟩),
 (9, ⟨.str, 1, 16, [.str]⟩),
 (10, ⟨.str, 1, 16, [.str]⟩),
 (11, ⟨.str, 1, 16, [.str]⟩),
 (12, ⟨.int .u64, 1, 8, [(.int .u64)]⟩),
 (13, ⟨.struct [(0, 9), (1, 12)], 2, 24, [.str, (.int .u64)]⟩),
 (14, ⟨.struct [(0, 9), (1, 12)], 2, 24, [.str, (.int .u64)]⟩),
 (15, ⟨.ptr 140, 1, 8, [.ptr]⟩),
 (16, ⟨.ptr 143, 1, 8, [.ptr]⟩),
 (17, ⟨.ptr 152, 1, 8, [.ptr]⟩),
 (18, ⟨.struct [(0, 17)], 1, 8, [.ptr]⟩),
 (19, ⟨.struct [(0, 17)], 1, 8, [.ptr]⟩),
 (21, ⟨.int .i32, 1, 4, [(.int .i32)]⟩),
 (22, ⟨.ptr 62, 1, 8, [.ptr]⟩),
 (24, ⟨.slice 33, 1, 24, [(.slice (some .u32))]⟩),
 (25, ⟨.struct [(0, 4), (1, 24), (2, 3)], 3, 40, [.bool, (.slice (some .u32)), (.int .i64)]⟩),
 (26, ⟨.struct [(0, 4), (1, 24), (2, 3)], 3, 40, [.bool, (.slice (some .u32)), (.int .i64)]⟩),
 (27, ⟨.int .i64, 1, 8, [(.int .i64)]⟩),
 (33, ⟨.int .u32, 1, 4, [(.int .u32)]⟩),
 (38, ⟨.int .u64, 1, 8, [(.int .u64)]⟩),
 (50, ⟨.struct [], 0, 0, []⟩),
 (51, ⟨.struct [], 0, 0, []⟩),
 (52, ⟨.struct [], 0, 0, []⟩),
 (55, ⟨.struct [(0, 21), (1, 33)], 2, 8, [(.int .i32), (.int .u32)]⟩),
 (56, ⟨.struct [(0, 21), (1, 33)], 2, 8, [(.int .i32), (.int .u32)]⟩),
 (61, ⟨.struct [(0, 60), (3, 26), (6, 26)], 9, 96, [(.int .u32), (.int .i32), (.int .u32), .bool, (.slice (some .u32)), (.int .i64), .bool, (.slice (some .u32)), (.int .i64)]⟩),
 (62, ⟨.struct [(0, 60), (3, 26), (6, 26)], 9, 96, [(.int .u32), (.int .i32), (.int .u32), .bool, (.slice (some .u32)), (.int .i64), .bool, (.slice (some .u32)), (.int .i64)]⟩),
 (67, ⟨.struct [(0, 38), (1, 38)], 2, 16, [(.int .u64), (.int .u64)]⟩),
 (68, ⟨.struct [(0, 38), (1, 38)], 2, 16, [(.int .u64), (.int .u64)]⟩),
 (69, ⟨.slice 68, 1, 24, [(.slice none)]⟩),
 (70, ⟨.int .u64, 1, 8, [(.int .u64)]⟩),
 (81, ⟨.struct [(0, 2), (1, 38)], 2, 16, [(.int .i64), (.int .u64)]⟩),
 (82, ⟨.struct [(0, 2), (1, 38)], 2, 16, [(.int .i64), (.int .u64)]⟩),
 (88, ⟨.ptr 60, 1, 8, [.ptr]⟩),
 (89, ⟨.slice 82, 1, 24, [(.slice none)]⟩),
 (98, ⟨.ptr 54, 1, 8, [.ptr]⟩),
 (100, ⟨.ptr 33, 1, 8, [.ptr]⟩),
 (108, ⟨.ptr 58, 1, 8, [.ptr]⟩),
 (111, ⟨.slice 26, 1, 24, [(.slice none)]⟩),
 (118, ⟨.ptr 56, 1, 8, [.ptr]⟩),
 (120, ⟨.ptr 21, 1, 8, [.ptr]⟩),
 (125, ⟨.slice 24, 1, 24, [(.slice none)]⟩),
 (132, ⟨.arr 32 5, 32, 32, [(.int .u8), (.int .u8), (.int .u8), (.int .u8), (.int .u8), (.int .u8), (.int .u8), (.int .u8), (.int .u8), (.int .u8), (.int .u8), (.int .u8), (.int .u8), (.int .u8), (.int .u8), (.int .u8), (.int .u8), (.int .u8), (.int .u8), (.int .u8), (.int .u8), (.int .u8), (.int .u8), (.int .u8), (.int .u8), (.int .u8), (.int .u8), (.int .u8), (.int .u8), (.int .u8), (.int .u8), (.int .u8)]⟩),
 (139, ⟨.struct [(0, 17), (1, 17), (2, 17), (3, 9)], 4, 40, [.ptr, .ptr, .ptr, .str]⟩),
 (140, ⟨.struct [(0, 17), (1, 17), (2, 17), (3, 9)], 4, 40, [.ptr, .ptr, .ptr, .str]⟩),
 (141, ⟨.arr 0 16, 0, 0, []⟩),
 (142, ⟨.struct [(0, 141)], 0, 0, []⟩),
 (143, ⟨.struct [(0, 141)], 0, 0, []⟩),
 (145, ⟨.int .u8, 1, 1, [(.int .u8)]⟩),
 (146, ⟨.int .u8, 1, 1, [(.int .u8)]⟩),
 (148, ⟨.ptr 5, 1, 8, [.ptr]⟩),
 (149, ⟨.int .i32, 1, 4, [(.int .i32)]⟩),
 (150, ⟨.int .i32, 1, 4, [(.int .i32)]⟩)]
def TT : Nat → Option TI := qek TL
def zdG : ByteArray := ⟨#[0, 1, 2, 2, 3, 3, 3, 3, 4, 4, 4, 4, 4, 4, 4, 4, 5, 5, 5, 5, 5, 5, 5, 5, 5, 5, 5, 5, 5, 5, 5, 5, 6, 6, 6, 6, 6, 6, 6, 6, 6, 6, 6, 6, 6, 6, 6, 6, 6, 6, 6, 6, 6, 6, 6, 6, 6, 6, 6, 6, 6, 6, 6, 6, 7, 7, 7, 7, 7, 7, 7, 7, 7, 7, 7, 7, 7, 7, 7, 7, 7, 7, 7, 7, 7, 7, 7, 7, 7, 7, 7, 7, 7, 7, 7, 7, 7, 7, 7, 7, 7, 7, 7, 7, 7, 7, 7, 7, 7, 7, 7, 7, 7, 7, 7, 7, 7, 7, 7, 7, 7, 7, 7, 7, 7, 7, 7, 7, 8, 8, 8, 8, 8, 8, 8, 8, 8, 8, 8, 8, 8, 8, 8, 8, 8, 8, 8, 8, 8, 8, 8, 8, 8, 8, 8, 8, 8, 8, 8, 8, 8, 8, 8, 8, 8, 8, 8, 8, 8, 8, 8, 8, 8, 8, 8, 8, 8, 8, 8, 8, 8, 8, 8, 8, 8, 8, 8, 8, 8, 8, 8, 8, 8, 8, 8, 8, 8, 8, 8, 8, 8, 8, 8, 8, 8, 8, 8, 8, 8, 8, 8, 8, 8, 8, 8, 8, 8, 8, 8, 8, 8, 8, 8, 8, 8, 8, 8, 8, 8, 8, 8, 8, 8, 8, 8, 8, 8, 8, 8, 8, 8, 8, 8, 8, 8, 8, 8, 8, 8, 8, 8, 8, 8, 8, 8, 8]⟩
def zal.f (x : Int) : Option Int := if 0 ≤ x ∧ x < 4294967296 then some (Lib.ctz 32 x.toNat : Int) else none
def zy : Nat → Nat → Option Value := fun b o => if b = 0 ∧ o < 32 then some (.int .u8 (Lib.deBruijn32tab.getD o 0)) else none
def zby.f : Option (Int × Int × Int × Bool × List Int × Int × Bool × List Int × Int) := some (0, 0, 0, false, ([] : List Int), 0, false, ([] : List Int), 0)
def zh.l0 : Nat → List Int → Option (List Int)
 | 0, _ => none
 | k + 1, x0 => if (x0.length : Int) > 0 then (if 0 ≤ wrap64 ((x0.length : Int) - 1) then (if wrap64 ((x0.length : Int) - 1) < (x0.length : Int) then (if (rd x0 (wrap64 ((x0.length : Int) - 1))) = 0 then (if 0 ≤ (wrap64 ((x0.length : Int) - 1)) then (if (wrap64 ((x0.length : Int) - 1)) ≤ (x0.length : Int) then (zh.l0 k (x0.take (wrap64 ((x0.length : Int) - 1) : Int).toNat)) else (none)) else (none)) else (some x0)) else (none)) else (none)) else (some x0)
def zh.f (k : Nat) (x0 : List Int) : Option (List Int) := zh.l0 k x0
def zY.f (k : Nat) (x0 : Int) : Option (List Int) := (zh.f k ([x0 % 4294967296, (x0 / 4294967296) % 4294967296] : List Int)).bind fun t3 => (some t3)
def zQ.f (x0 : List Int) : Option (Bool) := if (x0.length : Int) ≤ 4096 then (if (x0.length : Int) = 0 then (some true) else (if 0 ≤ wrap64 ((x0.length : Int) - 1) then (if wrap64 ((x0.length : Int) - 1) < (x0.length : Int) then (some (decide (¬ (rd x0 (wrap64 ((x0.length : Int) - 1)) = 0)))) else (none)) else (none))) else (some false)
abbrev zal.S : Sig := { ps := [.lf (.i .u32)], rs := [.lf (.i .i64)], wb := [], R := Int, mkR := fun y0 => some y0, un := fun r => [.int .i64 r] }
def zal.F (k : Nat) : Fun := { S := zal.S, f := zal.f }
def zK.l0 : Nat → List Int → Int → Int → Option (Int)
 | 0, _, _, _ => none
 | k + 1, x8, x9, x10 => if x10 < x9 then (if 0 ≤ x10 then (if x10 < (x8.length : Int) then (if ¬ (rd x8 x10 = 0) then ((zal.f (rd x8 x10)).bind fun t8 => (some (wrap64 ((wrap64 (32 * x10)) + t8)))) else (zK.l0 k x8 x9 (wrap64 (x10 + 1)))) else (none)) else (none)) else (some 0)
def zK.f (k : Nat) (x0 : List Int) : Option (Int) := (zQ.f x0).bind fun t7 => (if (!t7) = true then (some 0) else (zK.l0 k x0 (x0.length : Int) 0))
def zR.l0 : Nat → List Int → Int → List Int → List Int → Int → Int → Option (List Int)
 | 0, _, _, _, _, _, _ => none
 | k + 1, x0, x5, x6, x23, x24, x25 => if x25 < x24 then (if 0 ≤ x25 then (if x25 < (x23.length : Int) then (if 0 ≤ x5 then (if 0 ≤ x25 then (if x25 < (x6.length : Int) then (if (wrap64 (x25 + 1)) < (x0.length : Int) then (if 0 ≤ x25 then (if x25 < ((x6.set (x25 : Int).toNat (shr .u32 (rd x23 x25) x5)).length : Int) then (if 0 ≤ wrap64 (x25 + 1) then (if wrap64 (x25 + 1) < (x0.length : Int) then (if 0 ≤ (wrap64 (32 - x5)) then (if 0 ≤ x25 then (if x25 < ((x6.set (x25 : Int).toNat (shr .u32 (rd x23 x25) x5)).length : Int) then (zR.l0 k x0 x5 ((x6.set (x25 : Int).toNat (shr .u32 (rd x23 x25) x5)).set (x25 : Int).toNat (Go.bits .or .u32 (rd (x6.set (x25 : Int).toNat (shr .u32 (rd x23 x25) x5)) x25) ((shl .u64 (IntKind.u64.wrap (rd x0 (wrap64 (x25 + 1)))) (wrap64 (32 - x5))) % 4294967296))) x23 x24 (wrap64 (x25 + 1))) else (none)) else (none)) else (none)) else (none)) else (none)) else (none)) else (none)) else (zR.l0 k x0 x5 (x6.set (x25 : Int).toNat (shr .u32 (rd x23 x25) x5)) x23 x24 (wrap64 (x25 + 1)))) else (none)) else (none)) else (none)) else (none)) else (none)) else ((zh.f k x6).bind fun t16 => (some t16))
def zR.f (k : Nat) (x0 : List Int) (x1 : Int) : Option (List Int) := if (wrap64 (Int.tdiv x1 32)) ≥ (x0.length : Int) then (some ([] : List Int)) else (if 0 ≤ (wrap64 (Int.tdiv x1 32)) then (if (wrap64 (Int.tdiv x1 32)) ≤ (x0.length : Int) then (if 0 ≤ ((x0.drop (wrap64 (Int.tdiv x1 32) : Int).toNat).length : Int) then (if (((x0.drop (wrap64 (Int.tdiv x1 32) : Int).toNat).length : Int) : Int).toNat ≤ 70368744177664 then (zR.l0 k (x0.drop (wrap64 (Int.tdiv x1 32) : Int).toNat) (Int.tmod x1 32) (List.replicate (((x0.drop (wrap64 (Int.tdiv x1 32) : Int).toNat).length : Int) : Int).toNat (0 : Int)) (x0.drop (wrap64 (Int.tdiv x1 32) : Int).toNat) ((x0.drop (wrap64 (Int.tdiv x1 32) : Int).toNat).length : Int) 0) else (none)) else (none)) else (none)) else (none))
def zat.l0 : Nat → List Int → Int → List Int → List Int → Int → Int → Option (List Int)
 | 0, _, _, _, _, _, _ => none
 | k + 1, x0, x5, x6, x23, x24, x25 => if x25 < x24 then (if 0 ≤ x25 then (if x25 < (x23.length : Int) then (if 0 ≤ x5 then (if 0 ≤ x25 then (if x25 < (x6.length : Int) then (if (wrap64 (x25 + 1)) < (x0.length : Int) then (if 0 ≤ x25 then (if x25 < ((x6.set (x25 : Int).toNat (shr .u32 (rd x23 x25) x5)).length : Int) then (if 0 ≤ wrap64 (x25 + 1) then (if wrap64 (x25 + 1) < (x0.length : Int) then (if 0 ≤ (wrap64 (32 - x5)) then (if 0 ≤ x25 then (if x25 < ((x6.set (x25 : Int).toNat (shr .u32 (rd x23 x25) x5)).length : Int) then (zat.l0 k x0 x5 ((x6.set (x25 : Int).toNat (shr .u32 (rd x23 x25) x5)).set (x25 : Int).toNat (Go.bits .or .u32 (rd (x6.set (x25 : Int).toNat (shr .u32 (rd x23 x25) x5)) x25) ((shl .u64 (IntKind.u64.wrap (rd x0 (wrap64 (x25 + 1)))) (wrap64 (32 - x5))) % 4294967296))) x23 x24 (wrap64 (x25 + 1))) else (none)) else (none)) else (none)) else (none)) else (none)) else (none)) else (none)) else (zat.l0 k x0 x5 (x6.set (x25 : Int).toNat (shr .u32 (rd x23 x25) x5)) x23 x24 (wrap64 (x25 + 1)))) else (none)) else (none)) else (none)) else (none)) else (none)) else ((zh.f k x6).bind fun t18 => (some t18))
def zat.f (k : Nat) (x0 : List Int) (x1 : Int) : Option (List Int) := if (wrap64 (Int.tdiv x1 32)) ≥ (x0.length : Int) then (some ([] : List Int)) else (if 0 ≤ (wrap64 (Int.tdiv x1 32)) then (if (wrap64 (Int.tdiv x1 32)) ≤ (x0.length : Int) then (if 0 ≤ ((x0.drop (wrap64 (Int.tdiv x1 32) : Int).toNat).length : Int) then (if (((x0.drop (wrap64 (Int.tdiv x1 32) : Int).toNat).length : Int) : Int).toNat ≤ 70368744177664 then (zat.l0 k (x0.drop (wrap64 (Int.tdiv x1 32) : Int).toNat) (Int.tmod x1 32) (List.replicate (((x0.drop (wrap64 (Int.tdiv x1 32) : Int).toNat).length : Int) : Int).toNat (0 : Int)) (x0.drop (wrap64 (Int.tdiv x1 32) : Int).toNat) ((x0.drop (wrap64 (Int.tdiv x1 32) : Int).toNat).length : Int) 0) else (none)) else (none)) else (none)) else (none))
mutual
def zO.j0 : Nat → Int → Int → Option (Int)
 | 0, _, _ => none
 | k + 1, x0, x2 => if x0 ≥ 256 then (zO.j1 k (x0 / 256) (wrap64 (x2 + 8))) else (zO.j1 k x0 x2)
def zO.j1 : Nat → Int → Int → Option (Int)
 | 0, _, _ => none
 | k + 1, x0, x2 => if 0 ≤ x0 % 256 then (if x0 % 256 < (zdG.size : Int) then (some (wrap64 (x2 + (wrap64 (bt zdG (x0 % 256)))))) else (none)) else (none)
end
def zO.f (k : Nat) (x0 : Int) : Option (Int) := if x0 ≥ 65536 then (zO.j0 k (x0 / 65536) 16) else (zO.j0 k x0 0)
def z9.f (k : Nat) (x0 : List Int) : Option (Int) := (zQ.f x0).bind fun t28 => (if (!t28) = true then (some 0) else (if (x0.length : Int) = 0 then (some 0) else (if 0 ≤ wrap64 ((x0.length : Int) - 1) then (if wrap64 ((x0.length : Int) - 1) < (x0.length : Int) then ((zO.f k (rd x0 (wrap64 ((x0.length : Int) - 1)))).bind fun t29 => (some (wrap64 ((wrap64 (32 * (wrap64 ((x0.length : Int) - 1)))) + t29)))) else (none)) else (none))))
def zZ.l0 : Nat → List Int → Int → Int → List Int → Int → Int → Option (List Int)
 | 0, _, _, _, _, _, _ => none
 | k + 1, x5, x6, x7, x24, x25, x26 => if x26 < x25 then (if 0 ≤ x26 then (if x26 < (x24.length : Int) then (if 0 ≤ x6 then (if x5.length + ([Go.bits .or .u32 (shl .u32 (rd x24 x26) x6) x7] : List Int).length < 35184372088832 then (if 0 ≤ (wrap64 (32 - x6)) then (zZ.l0 k (x5 ++ ([Go.bits .or .u32 (shl .u32 (rd x24 x26) x6) x7] : List Int)) x6 ((shr .u64 (IntKind.u64.wrap (rd x24 x26)) (wrap64 (32 - x6))) % 4294967296) x24 x25 (wrap64 (x26 + 1))) else (none)) else (none)) else (none)) else (none)) else (none)) else (if x5.length + ([x7] : List Int).length < 35184372088832 then ((zh.f k (x5 ++ ([x7] : List Int))).bind fun t31 => (some t31)) else (none))
def zZ.f (k : Nat) (x0 : List Int) (x1 : Int) : Option (List Int) := if (x0.length : Int) = 0 then (some ([] : List Int)) else (if 0 ≤ (wrap64 (Int.tdiv x1 32)) then (if (wrap64 (Int.tdiv x1 32)) ≤ (wrap64 ((wrap64 ((wrap64 (Int.tdiv x1 32)) + (x0.length : Int))) + 1)) then (if (wrap64 ((wrap64 ((wrap64 (Int.tdiv x1 32)) + (x0.length : Int))) + 1) : Int).toNat ≤ 70368744177664 then (zZ.l0 k (List.replicate (wrap64 (Int.tdiv x1 32) : Int).toNat (0 : Int)) (Int.tmod x1 32) 0 x0 (x0.length : Int) 0) else (none)) else (none)) else (none))
def zC.f (k : Nat) (x0 : List Int) (x1 : Int) : Option (List Int × Bool × Int) := (zQ.f x0).bind fun t14 => (if (!t14) = true then (some (([] : List Int), false, 2)) else (if (x0.length : Int) = 0 then (some (([] : List Int), false, 0)) else (if x1 < (-131072) then (some (([] : List Int), true, 0)) else (if x1 < 0 then ((zR.f k x0 (wrap64 (-x1))).bind fun t19 => ((zK.f k x0).bind fun t20 => (some (t19, decide (t20 < (wrap64 (-x1))), 0)))) else ((z9.f k x0).bind fun t30 => (if x1 > (wrap64 (131072 - t30)) then (some (([] : List Int), false, 3)) else ((zZ.f k x0 x1).bind fun t32 => (some (t32, false, 0)))))))))
def zbP.f (k : Nat) (x0 : List Int) (x1 : Int) : Option (List Int × Bool × Int) := (zQ.f x0).bind fun t33 => (if (!t33) = true then (some (([] : List Int), false, 2)) else (if (x0.length : Int) = 0 then (some (([] : List Int), false, 0)) else (if x1 < (-131072) then (some (([] : List Int), true, 0)) else (if x1 < 0 then ((zat.f k x0 (wrap64 (-x1))).bind fun t34 => ((zK.f k x0).bind fun t35 => (some (t34, decide (t35 < (wrap64 (-x1))), 0)))) else ((z9.f k x0).bind fun t36 => (if x1 > (wrap64 (131072 - t36)) then (some (([] : List Int), false, 3)) else ((zZ.f k x0 x1).bind fun t37 => (some (t37, false, 0)))))))))
def zz.f (k : Nat) (x0 : Bool) (x1 : List Int) (x2 : Int) : Option (Bool × List Int × Int × Int) := (zQ.f x1).bind fun t44 => (if (!t44) = true then (some (false, ([] : List Int), 0, 2)) else (if (x1.length : Int) = 0 then (some (false, ([] : List Int), 0, 0)) else ((zK.f k x1).bind fun t45 => (if x2 > (wrap64 (16777216 - t45)) then (some (false, ([] : List Int), 0, 20)) else (if x2 < (wrap64 ((-16777216) - t45)) then (some (false, ([] : List Int), 0, 20)) else ((zC.f k x1 (wrap64 (-t45))).bind fun t46 => (some (x0, t46.1, wrap64 (x2 + t45), 0))))))))
def zbG.f (k : Nat) (x0 : Bool) (x1 : List Int) (x2 : Int) : Option (Bool × List Int × Int × Int) := (zQ.f x1).bind fun t59 => (if (!t59) = true then (some (false, ([] : List Int), 0, 2)) else (if (x1.length : Int) = 0 then (some (false, ([] : List Int), 0, 0)) else ((zK.f k x1).bind fun t60 => (if x2 > (wrap64 (16777216 - t60)) then (some (false, ([] : List Int), 0, 20)) else (if x2 < (wrap64 ((-16777216) - t60)) then (some (false, ([] : List Int), 0, 20)) else ((zbP.f k x1 (wrap64 (-t60))).bind fun t61 => (some (x0, t61.1, wrap64 (x2 + t60), 0))))))))
def zaD.j0 : Nat → Int → Bool → List Int → Int → Int → Option (Bool × List Int × Int)
 | 0, _, _, _, _, _ => none
 | k + 1, x0, x2_0, x2_1, x2_2, x3 => (zY.f k x3).bind fun t4 => ((zz.f k (decide (x0 < 0)) t4 0).bind fun t62 => (some (t62.1, t62.2.1, t62.2.2.1)))
def zaD.f (k : Nat) (x0 : Int) : Option (Bool × List Int × Int) := if x0 < 0 then (zaD.j0 k x0 false ([] : List Int) 0 (IntKind.u64.wrap (-(IntKind.u64.wrap x0)))) else (zaD.j0 k x0 false ([] : List Int) 0 (IntKind.u64.wrap x0))
def zL.l0 : Nat → List (List Int) → Int → Int → Option (Bool)
 | 0, _, _, _ => none
 | k + 1, x5, x6, x7 => if x7 < x6 then (if 0 ≤ x7 then (if x7 < (x5.length : Int) then ((zQ.f (rdT [.is .u32] x5 x7)).bind fun t67 => (if (!t67) = true then (some false) else (zL.l0 k x5 x6 (wrap64 (x7 + 1))))) else (none)) else (none)) else (some true)
def zL.f (k : Nat) (x0 : List (List Int)) : Option (Bool) := zL.l0 k x0 (x0.length : Int) 0
def zaa.l0 : Nat → List Int → List Int → Int → Option (Int)
 | 0, _, _, _ => none
 | k + 1, x0, x1, x5 => if x5 ≥ 0 then (if 0 ≤ x5 then (if x5 < (x0.length : Int) then (if 0 ≤ x5 then (if x5 < (x1.length : Int) then (if ¬ (rd x0 x5 = rd x1 x5) then (if 0 ≤ x5 then (if x5 < (x0.length : Int) then (if 0 ≤ x5 then (if x5 < (x1.length : Int) then (if (rd x0 x5) < (rd x1 x5) then (some (-1)) else (some 1)) else (none)) else (none)) else (none)) else (none)) else (zaa.l0 k x0 x1 (wrap64 (x5 - 1)))) else (none)) else (none)) else (none)) else (none)) else (some 0)
def zaa.f (k : Nat) (x0 : List Int) (x1 : List Int) : Option (Int) := if (x0.length : Int) < (x1.length : Int) then (some (-1)) else (if (x0.length : Int) > (x1.length : Int) then (some 1) else (zaa.l0 k x0 x1 (wrap64 ((x0.length : Int) - 1))))
def zbt.f (x0 : Int) (x1 : Int) (x2 : Int) : Option (Int × Int) := if ¬ (x2 = 0) then (if x2 ≤ x0 then (none) else (if (IntKind.u64.wrap x2) = 0 then (none) else (if (IntKind.u64.wrap x2) = 0 then (none) else (some ((IntKind.u64.wrap (Int.tdiv (Go.bits .or .u64 (IntKind.u64.wrap ((IntKind.u64.wrap x0) * 4294967296)) (IntKind.u64.wrap x1)) (IntKind.u64.wrap x2))) % 4294967296, (Int.tmod (Go.bits .or .u64 (IntKind.u64.wrap ((IntKind.u64.wrap x0) * 4294967296)) (IntKind.u64.wrap x1)) (IntKind.u64.wrap x2)) % 4294967296))))) else (if (IntKind.u64.wrap x2) = 0 then (none) else (if (IntKind.u64.wrap x2) = 0 then (none) else (some ((IntKind.u64.wrap (Int.tdiv (Go.bits .or .u64 (IntKind.u64.wrap ((IntKind.u64.wrap x0) * 4294967296)) (IntKind.u64.wrap x1)) (IntKind.u64.wrap x2))) % 4294967296, (Int.tmod (Go.bits .or .u64 (IntKind.u64.wrap ((IntKind.u64.wrap x0) * 4294967296)) (IntKind.u64.wrap x1)) (IntKind.u64.wrap x2)) % 4294967296))))
def zau.l0 : Nat → List Int → Int → List Int → Int → Int → Option (List Int × Int)
 | 0, _, _, _, _, _ => none
 | k + 1, x0, x1, x6, x7, x8 => if x8 ≥ 0 then (if 0 ≤ x8 then (if x8 < (x0.length : Int) then ((zbt.f x7 (rd x0 x8) x1).bind fun t70 => (if 0 ≤ x8 then (if x8 < (x6.length : Int) then (zau.l0 k x0 x1 (x6.set (x8 : Int).toNat t70.1) t70.2 (wrap64 (x8 - 1))) else (none)) else (none))) else (none)) else (none)) else ((zh.f k x6).bind fun t71 => (some (t71, x7)))
def zau.f (k : Nat) (x0 : List Int) (x1 : Int) : Option (List Int × Int) := if 0 ≤ (x0.length : Int) then (if ((x0.length : Int) : Int).toNat ≤ 70368744177664 then (zau.l0 k x0 x1 (List.replicate ((x0.length : Int) : Int).toNat (0 : Int)) 0 (wrap64 ((x0.length : Int) - 1))) else (none)) else (none)
def zbu.f (k : Nat) (x0 : Int) : Option (Int) := (zO.f k x0).bind fun t74 => (some (wrap64 (32 - t74)))
def zaO.f (x0 : Int) (x1 : Int) (x2 : Int) : Option (Int × Int) := some ((((x0 - x1) % 4294967296) - x2) % 4294967296, (Go.bits .or .u32 (Go.bits .and .u32 (Go.bits .xor .u32 4294967295 x0) x1) (Go.bits .and .u32 (Go.bits .xor .u32 4294967295 (Go.bits .xor .u32 x0 x1)) ((((x0 - x1) % 4294967296) - x2) % 4294967296))) / 2147483648)
def zaX.f (x0 : Int) (x1 : Int) (x2 : Int) : Option (Int × Int) := some ((IntKind.u64.wrap ((IntKind.u64.wrap ((IntKind.u64.wrap x0) + (IntKind.u64.wrap x1))) + (IntKind.u64.wrap x2))) % 4294967296, ((IntKind.u64.wrap ((IntKind.u64.wrap ((IntKind.u64.wrap x0) + (IntKind.u64.wrap x1))) + (IntKind.u64.wrap x2))) / 4294967296) % 4294967296)
mutual
def zo.l0 : Nat → List Int → List Int → Int → Int → Int → Option (Int × List Int)
 | 0, _, _, _, _, _ => none
 | k + 1, x0, x1, x5, x7, x8 => if x7 ≥ 4294967296 then (if 0 ≤ wrap64 (x5 - 1) then (if wrap64 (x5 - 1) < (x1.length : Int) then (if (IntKind.u64.wrap (x8 + (IntKind.u64.wrap (rd x1 (wrap64 (x5 - 1)))))) ≥ 4294967296 then (zo.l1 k x0 x1 x5 (IntKind.u64.wrap (x7 - 1)) 0 0 x1 (x1.length : Int) 0) else (zo.l0 k x0 x1 x5 (IntKind.u64.wrap (x7 - 1)) (IntKind.u64.wrap (x8 + (IntKind.u64.wrap (rd x1 (wrap64 (x5 - 1)))))))) else (none)) else (none)) else (if 0 ≤ wrap64 (x5 - 2) then (if wrap64 (x5 - 2) < (x1.length : Int) then (if 0 ≤ wrap64 (x5 - 2) then (if wrap64 (x5 - 2) < (x0.length : Int) then (if (IntKind.u64.wrap (x7 * (IntKind.u64.wrap (rd x1 (wrap64 (x5 - 2)))))) > (Go.bits .or .u64 (IntKind.u64.wrap (x8 * 4294967296)) (IntKind.u64.wrap (rd x0 (wrap64 (x5 - 2))))) then (if 0 ≤ wrap64 (x5 - 1) then (if wrap64 (x5 - 1) < (x1.length : Int) then (if (IntKind.u64.wrap (x8 + (IntKind.u64.wrap (rd x1 (wrap64 (x5 - 1)))))) ≥ 4294967296 then (zo.l1 k x0 x1 x5 (IntKind.u64.wrap (x7 - 1)) 0 0 x1 (x1.length : Int) 0) else (zo.l0 k x0 x1 x5 (IntKind.u64.wrap (x7 - 1)) (IntKind.u64.wrap (x8 + (IntKind.u64.wrap (rd x1 (wrap64 (x5 - 1)))))))) else (none)) else (none)) else (zo.l1 k x0 x1 x5 x7 0 0 x1 (x1.length : Int) 0)) else (none)) else (none)) else (none)) else (none))
def zo.l1 : Nat → List Int → List Int → Int → Int → Int → Int → List Int → Int → Int → Option (Int × List Int)
 | 0, _, _, _, _, _, _, _, _, _ => none
 | k + 1, x0, x1, x5, x7, x9, x10, x81, x82, x83 => if x83 < x82 then (if 0 ≤ x83 then (if x83 < (x81.length : Int) then (if 0 ≤ x83 then (if x83 < (x0.length : Int) then ((zaO.f (rd x0 x83) ((IntKind.u64.wrap (x10 + (IntKind.u64.wrap (x7 * (IntKind.u64.wrap (rd x81 x83)))))) % 4294967296) x9).bind fun t97 => (if 0 ≤ x83 then (if x83 < (x0.length : Int) then (zo.l1 k (x0.set (x83 : Int).toNat t97.1) x1 x5 x7 t97.2 ((IntKind.u64.wrap (x10 + (IntKind.u64.wrap (x7 * (IntKind.u64.wrap (rd x81 x83)))))) / 4294967296) x81 x82 (wrap64 (x83 + 1))) else (none)) else (none))) else (none)) else (none)) else (none)) else (none)) else (if 0 ≤ x5 then (if x5 < (x0.length : Int) then ((zaO.f (rd x0 x5) (x10 % 4294967296) x9).bind fun t98 => (if 0 ≤ x5 then (if x5 < (x0.length : Int) then (if t98.2 = 0 then (some (x7 % 4294967296, x0.set (x5 : Int).toNat t98.1)) else (zo.l2 k (x0.set (x5 : Int).toNat t98.1) x5 x7 0 x1 (x1.length : Int) 0)) else (none)) else (none))) else (none)) else (none))
def zo.l2 : Nat → List Int → Int → Int → Int → List Int → Int → Int → Option (Int × List Int)
 | 0, _, _, _, _, _, _, _ => none
 | k + 1, x0, x5, x7, x13, x129, x130, x131 => if x131 < x130 then (if 0 ≤ x131 then (if x131 < (x129.length : Int) then (if 0 ≤ x131 then (if x131 < (x0.length : Int) then ((zaX.f (rd x0 x131) (rd x129 x131) x13).bind fun t96 => (if 0 ≤ x131 then (if x131 < (x0.length : Int) then (zo.l2 k (x0.set (x131 : Int).toNat t96.1) x5 x7 t96.2 x129 x130 (wrap64 (x131 + 1))) else (none)) else (none))) else (none)) else (none)) else (none)) else (none)) else (if 0 ≤ x5 then (if x5 < (x0.length : Int) then (if 0 ≤ x5 then (if x5 < (x0.length : Int) then (some ((IntKind.u64.wrap (x7 - 1)) % 4294967296, x0.set (x5 : Int).toNat (((rd x0 x5) + x13) % 4294967296))) else (none)) else (none)) else (none)) else (none))
end
def zo.f (k : Nat) (x0 : List Int) (x1 : List Int) : Option (Int × List Int) := if 0 ≤ (x1.length : Int) then (if (x1.length : Int) < (x0.length : Int) then (if 0 ≤ wrap64 ((x1.length : Int) - 1) then (if wrap64 ((x1.length : Int) - 1) < (x0.length : Int) then (if 0 ≤ wrap64 ((x1.length : Int) - 1) then (if wrap64 ((x1.length : Int) - 1) < (x1.length : Int) then (if (IntKind.u64.wrap (rd x1 (wrap64 ((x1.length : Int) - 1)))) = 0 then (none) else (if 0 ≤ wrap64 ((x1.length : Int) - 1) then (if wrap64 ((x1.length : Int) - 1) < (x1.length : Int) then (if (IntKind.u64.wrap (rd x1 (wrap64 ((x1.length : Int) - 1)))) = 0 then (none) else (zo.l0 k x0 x1 (x1.length : Int) (IntKind.u64.wrap (Int.tdiv (Go.bits .or .u64 (IntKind.u64.wrap ((IntKind.u64.wrap (rd x0 (x1.length : Int))) * 4294967296)) (IntKind.u64.wrap (rd x0 (wrap64 ((x1.length : Int) - 1))))) (IntKind.u64.wrap (rd x1 (wrap64 ((x1.length : Int) - 1)))))) (Int.tmod (Go.bits .or .u64 (IntKind.u64.wrap ((IntKind.u64.wrap (rd x0 (x1.length : Int))) * 4294967296)) (IntKind.u64.wrap (rd x0 (wrap64 ((x1.length : Int) - 1))))) (IntKind.u64.wrap (rd x1 (wrap64 ((x1.length : Int) - 1))))))) else (none)) else (none))) else (none)) else (none)) else (none)) else (none)) else (none)) else (none)
mutual
def zM.l0 : Nat → List Int → Int → List Int → List Int → Option (List Int × List Int)
 | 0, _, _, _, _ => none
 | k + 1, x0, x6, x7, x8 => if (x8.length : Int) ≤ (x0.length : Int) then (if x8.length + ([0] : List Int).length < 35184372088832 then (zM.l0 k x0 x6 x7 (x8 ++ ([0] : List Int))) else (none)) else (if 0 ≤ (wrap64 ((x8.length : Int) - (x7.length : Int))) then (if (wrap64 ((x8.length : Int) - (x7.length : Int)) : Int).toNat ≤ 70368744177664 then (zM.l1 k x6 x7 x8 (x7.length : Int) (List.replicate (wrap64 ((x8.length : Int) - (x7.length : Int)) : Int).toNat (0 : Int)) (wrap64 (((List.replicate (wrap64 ((x8.length : Int) - (x7.length : Int)) : Int).toNat (0 : Int)).length : Int) - 1))) else (none)) else (none))
def zM.l1 : Nat → Int → List Int → List Int → Int → List Int → Int → Option (List Int × List Int)
 | 0, _, _, _, _, _, _ => none
 | k + 1, x6, x7, x8, x9, x10, x11 => if x11 ≥ 0 then (if 0 ≤ x11 then (if x11 ≤ (wrap64 ((wrap64 (x11 + x9)) + 1)) then (if (wrap64 ((wrap64 (x11 + x9)) + 1)) ≤ (x8.length : Int) then ((zo.f k ((x8.take (wrap64 ((wrap64 (x11 + x9)) + 1) : Int).toNat).drop (x11 : Int).toNat) x7).bind fun t99 => (if 0 ≤ x11 then (if x11 < (x10.length : Int) then (zM.l1 k x6 x7 (x8.take (x11 : Int).toNat ++ t99.2 ++ x8.drop (wrap64 ((wrap64 (x11 + x9)) + 1) : Int).toNat) x9 (x10.set (x11 : Int).toNat t99.1) (wrap64 (x11 - 1))) else (none)) else (none))) else (none)) else (none)) else (none)) else ((zh.f k x10).bind fun t100 => (if 0 ≤ x9 then (if x9 ≤ (x8.length : Int) then ((zh.f k (x8.take (x9 : Int).toNat)).bind fun t101 => ((zR.f k t101 x6).bind fun t102 => ((zh.f k t102).bind fun t103 => (some (t100, t103))))) else (none)) else (none)))
end
def zM.f (k : Nat) (x0 : List Int) (x1 : List Int) : Option (List Int × List Int) := if 0 ≤ wrap64 ((x1.length : Int) - 1) then (if wrap64 ((x1.length : Int) - 1) < (x1.length : Int) then ((zbu.f k (rd x1 (wrap64 ((x1.length : Int) - 1)))).bind fun t81 => ((zZ.f k x1 t81).bind fun t82 => ((zZ.f k x0 t81).bind fun t83 => (zM.l0 k x0 t81 t82 t83)))) else (none)) else (none)
def za2.f (k : Nat) (x0 : List Int) (x1 : List Int) : Option (List Int × List Int × Int) := (zL.f k [x0, x1]).bind fun t68 => (if (!t68) = true then (some (([] : List Int), ([] : List Int), 2)) else (if (x1.length : Int) = 0 then (some (([] : List Int), ([] : List Int), 11)) else ((zaa.f k x0 x1).bind fun t69 => (if t69 < 0 then (if x0.length < 35184372088832 then (some (([] : List Int), x0, 0)) else (none)) else (if (x1.length : Int) = 1 then (if 0 < (x1.length : Int) then ((zau.f k x0 (rd x1 0)).bind fun t72 => ((zh.f k ([t72.2] : List Int)).bind fun t73 => (some (t72.1, t73, 0)))) else (none)) else ((zM.f k x0 x1).bind fun t104 => (some (t104.1, t104.2, 0))))))))
def zbz.f (x0_0 : Int) (x0_1 : Int) : Option (Bool) := if x0_1 = 5 then (some true) else (some (decide (x0_1 = 239)))
def zb6.f (x0 : Int) : Option (Bool) := if (-16777216) ≤ x0 then (some (decide (x0 ≤ 16777216))) else (some false)
def zaE.f (x0_0 : Bool) (x0_1 : List Int) (x0_2 : Int) : Option (Bool) := (zQ.f x0_1).bind fun t123 => (if (!t123) = true then (some false) else (if (x0_1.length : Int) = 0 then (if (!x0_0) = true then (some (decide (x0_2 = 0))) else (some false)) else (if 0 < (x0_1.length : Int) then (if (Go.bits .and .u32 (rd x0_1 0) 1) = 1 then ((zb6.f x0_2).bind fun t124 => (some t124)) else (some false)) else (none))))
def zah.l0 : Nat → List (Bool × List Int × Int) → Int → Int → Option (Bool)
 | 0, _, _, _ => none
 | k + 1, x5, x6, x7 => if x7 < x6 then (if 0 ≤ x7 then (if x7 < (x5.length : Int) then ((zaE.f ((rdT [.b, .is .u32, .i .i64] x5 x7).1) ((rdT [.b, .is .u32, .i .i64] x5 x7).2.1) ((rdT [.b, .is .u32, .i .i64] x5 x7).2.2)).bind fun t125 => (if (!t125) = true then (some false) else (zah.l0 k x5 x6 (wrap64 (x7 + 1))))) else (none)) else (none)) else (some true)
def zah.f (k : Nat) (x0 : List (Bool × List Int × Int)) : Option (Bool) := zah.l0 k x0 (x0.length : Int) 0
def zaI.f (x0_0 : Bool) (x0_1 : List Int) (x0_2 : Int) : Option (Bool × List Int × Int) := if x0_1.length < 35184372088832 then (some (x0_0, x0_1, x0_2)) else (none)
def zb7.f (x0_0 : Bool) (x0_1 : List Int) (x0_2 : Int) : Option (Bool × List Int × Int) := if x0_1.length < 35184372088832 then (some (x0_0, x0_1, x0_2)) else (none)
mutual
def zS.l0 : Nat → List Int → List Int → List Int → Int → Int → Int → Option (List Int)
 | 0, _, _, _, _, _, _ => none
 | k + 1, x0, x1, x5, x6, x13, x14 => if x14 < x13 then (if x14 < (x1.length : Int) then (if 0 ≤ x14 then (if x14 < (x1.length : Int) then (zS.j1 k x0 x1 x5 x6 x14 (rd x1 x14) x13 x14) else (none)) else (none)) else (zS.j1 k x0 x1 x5 x6 x14 0 x13 x14)) else ((zh.f k x5).bind fun t141 => (some t141))
def zS.j1 : Nat → List Int → List Int → List Int → Int → Int → Int → Int → Int → Option (List Int)
 | 0, _, _, _, _, _, _, _, _ => none
 | k + 1, x0, x1, x5, x6, x7, x8, x13, x14 => if 0 ≤ x7 then (if x7 < (x0.length : Int) then ((zaO.f (rd x0 x7) x8 x6).bind fun t140 => (if 0 ≤ x7 then (if x7 < (x5.length : Int) then (zS.l0 k x0 x1 (x5.set (x7 : Int).toNat t140.1) t140.2 x13 (wrap64 (x14 + 1))) else (none)) else (none))) else (none)) else (none)
end
def zS.f (k : Nat) (x0 : List Int) (x1 : List Int) : Option (List Int) := if 0 ≤ (x0.length : Int) then (if ((x0.length : Int) : Int).toNat ≤ 70368744177664 then (zS.l0 k x0 x1 (List.replicate ((x0.length : Int) : Int).toNat (0 : Int)) 0 (x0.length : Int) 0) else (none)) else (none)
def zaR.f (k : Nat) (x0 : List Int) (x1 : List Int) : Option (List Int × Int) := (zL.f k [x0, x1]).bind fun t135 => (if (!t135) = true then (some (([] : List Int), 2)) else ((zaa.f k x0 x1).bind fun t136 => (if t136 < 0 then (some (([] : List Int), 10)) else ((zS.f k x0 x1).bind fun t142 => (some (t142, 0))))))
def zaj.f (x0 : List Int) : Option (List Int × Int) := if (x0.length : Int) > 4096 then (some (([] : List Int), 3)) else (some (x0, 0))
mutual
def zp.l0 : Nat → List Int → List Int → List Int → Int → Int → Int → Option (List Int × Int)
 | 0, _, _, _, _, _, _ => none
 | k + 1, x0, x1, x6, x7, x27, x28 => if x28 < x27 then (if x28 < (x1.length : Int) then (if 0 ≤ x28 then (if x28 < (x1.length : Int) then (zp.j3 k x0 x1 x6 x7 x28 (rd x1 x28) x27 x28) else (none)) else (none)) else (zp.j3 k x0 x1 x6 x7 x28 0 x27 x28)) else (if 0 ≤ (x0.length : Int) then (if (x0.length : Int) < (x6.length : Int) then ((zh.f k (x6.set ((x0.length : Int) : Int).toNat x7)).bind fun t158 => ((zaj.f t158).bind fun t159 => (some (t159.1, t159.2)))) else (none)) else (none))
def zp.j1 : Nat → List Int → List Int → Option (List Int × Int)
 | 0, _, _ => none
 | k + 1, x0, x1 => if 0 ≤ (wrap64 ((x0.length : Int) + 1)) then (if (wrap64 ((x0.length : Int) + 1) : Int).toNat ≤ 70368744177664 then (zp.l0 k x0 x1 (List.replicate (wrap64 ((x0.length : Int) + 1) : Int).toNat (0 : Int)) 0 (x0.length : Int) 0) else (none)) else (none)
def zp.j3 : Nat → List Int → List Int → List Int → Int → Int → Int → Int → Int → Option (List Int × Int)
 | 0, _, _, _, _, _, _, _, _ => none
 | k + 1, x0, x1, x6, x7, x8, x9, x27, x28 => if 0 ≤ x8 then (if x8 < (x0.length : Int) then ((zaX.f (rd x0 x8) x9 x7).bind fun t157 => (if 0 ≤ x8 then (if x8 < (x6.length : Int) then (zp.l0 k x0 x1 (x6.set (x8 : Int).toNat t157.1) t157.2 x27 (wrap64 (x28 + 1))) else (none)) else (none))) else (none)) else (none)
end
def zp.f (k : Nat) (x0 : List Int) (x1 : List Int) : Option (List Int × Int) := (zL.f k [x0, x1]).bind fun t156 => (if (!t156) = true then (some (([] : List Int), 2)) else (if (x0.length : Int) < (x1.length : Int) then (zp.j1 k x1 x0) else (zp.j1 k x0 x1)))
def zcr.f (k : Nat) (x0_0 : Bool) (x0_1 : List Int) (x0_2 : Int) (x1_0 : Bool) (x1_1 : List Int) (x1_2 : Int) (x2 : Int) : Option (Bool × List Int × Int × Int) := if (x0_0) = (x1_0) then (some (false, ([] : List Int), 0, 3)) else ((zC.f k x0_1 (wrap64 (x2 - 1))).bind fun t133 => ((zC.f k x1_1 (-1)).bind fun t134 => ((zaR.f k t133.1 t134.1).bind fun t143 => (if ¬ (t143.2 = 0) then (some (false, ([] : List Int), 0, 3)) else ((zp.f k t143.1 t143.1).bind fun t160 => (if t160.2 = 0 then ((zY.f k 1).bind fun t161 => ((zaR.f k t160.1 t161).bind fun t162 => ((zz.f k x0_0 t162.1 x1_2).bind fun t163 => (some (t163.1, t163.2.1, t163.2.2.1, t163.2.2.2))))) else ((z9.f k t143.1).bind fun t164 => ((zK.f k t143.1).bind fun t165 => (if t164 = (wrap64 (t165 + 1)) then ((zY.f k 1).bind fun t166 => ((zaR.f k t143.1 t166).bind fun t167 => ((zp.f k t167.1 t143.1).bind fun t168 => ((zz.f k x0_0 t168.1 x1_2).bind fun t169 => (some (t169.1, t169.2.1, t169.2.2.1, t169.2.2.2)))))) else (some (false, ([] : List Int), 0, 3)))))))))))
def zba.j1 : Nat → Bool → Int → Bool → List Int → Int → List Int → Option (Bool × List Int × Int × Int)
 | 0, _, _, _, _, _, _ => none
 | k + 1, x0, x3, x8_0, x8_1, x8_2, x16 => (zz.f k x0 x16 (wrap64 (x3 + 1))).bind fun t183 => (some (t183.1, t183.2.1, t183.2.2.1, t183.2.2.2))
def zba.f (k : Nat) (x0 : Bool) (x1 : List Int) (x2 : List Int) (x3 : Int) : Option (Bool × List Int × Int × Int) := if 0 < (x1.length : Int) then (if 0 < (x2.length : Int) then (if ¬ (Go.bits .and .u32 (rd x1 0) 1 = Go.bits .and .u32 (rd x2 0) 1) then (some (false, ([] : List Int), 0, 3)) else ((zC.f k x1 (-1)).bind fun t178 => ((zC.f k x2 (-1)).bind fun t179 => ((zp.f k t178.1 t179.1).bind fun t180 => (if 0 < (x1.length : Int) then (if (Go.bits .and .u32 (rd x1 0) 1) = 1 then ((zY.f k 1).bind fun t181 => ((zp.f k t180.1 t181).bind fun t182 => (zba.j1 k x0 x3 false ([] : List Int) 0 t182.1))) else (zba.j1 k x0 x3 false ([] : List Int) 0 t180.1)) else (none)))))) else (none)) else (none)
def zbN.f (k : Nat) (x0 : List Int) (x1 : List Int) : Option (Int × Int) := (zL.f k [x0, x1]).bind fun t186 => (if (!t186) = true then (some (0, 2)) else ((zaa.f k x0 x1).bind fun t187 => (some (t187, 0))))
def zaH.j2 : Nat → Bool → List Int → List Int → Int → Bool → List Int → Int → Option (Bool × List Int × Int × Int)
 | 0, _, _, _, _, _, _, _ => none
 | k + 1, x0, x1, x3, x4, x10_0, x10_1, x10_2 => (zaR.f k x1 x3).bind fun t193 => ((zz.f k x0 t193.1 x4).bind fun t194 => (some (t194.1, t194.2.1, t194.2.2.1, t194.2.2.2)))
def zaH.f (k : Nat) (x0 : Bool) (x1 : List Int) (x2 : Bool) (x3 : List Int) (x4 : Int) : Option (Bool × List Int × Int × Int) := if (x0) = (x2) then ((zp.f k x1 x3).bind fun t189 => (if ¬ (t189.2 = 0) then ((zba.f k x0 x1 x3 x4).bind fun t190 => (some (t190.1, t190.2.1, t190.2.2.1, t190.2.2.2))) else ((zz.f k x0 t189.1 x4).bind fun t191 => (some (t191.1, t191.2.1, t191.2.2.1, t191.2.2.2))))) else ((zbN.f k x1 x3).bind fun t192 => (if t192.1 < 0 then (zaH.j2 k x2 x3 x1 x4 false ([] : List Int) 0) else (zaH.j2 k x0 x1 x3 x4 false ([] : List Int) 0)))
def zaF.j1 : Nat → Bool → List Int → Int → Bool → List Int → Int → Bool → List Int → Int → Option (Bool × List Int × Int × Int)
 | 0, _, _, _, _, _, _, _, _, _ => none
 | k + 1, x2_0, x2_1, x2_2, x3_0, x3_1, x3_2, x4_0, x4_1, x4_2 => (z9.f k x2_1).bind fun t131 => (if (wrap64 ((wrap64 (x2_2 - x3_2)) + t131)) > 131073 then (some (false, ([] : List Int), 0, 3)) else ((z9.f k x2_1).bind fun t132 => (if (wrap64 ((wrap64 (x2_2 - x3_2)) + t132)) > 131072 then ((zcr.f k x2_0 x2_1 x2_2 x3_0 x3_1 x3_2 (wrap64 (x2_2 - x3_2))).bind fun t170 => (some (t170.1, t170.2.1, t170.2.2.1, t170.2.2.2))) else ((zC.f k x2_1 (wrap64 (x2_2 - x3_2))).bind fun t171 => ((zaH.f k x2_0 t171.1 x3_0 x3_1 x3_2).bind fun t195 => (some (t195.1, t195.2.1, t195.2.2.1, t195.2.2.2)))))))
def zaF.f (k : Nat) (x0_0 : Bool) (x0_1 : List Int) (x0_2 : Int) (x1_0 : Bool) (x1_1 : List Int) (x1_2 : Int) : Option (Bool × List Int × Int × Int) := if (x0_1.length : Int) = 0 then ((zaI.f x1_0 x1_1 x1_2).bind fun t129 => (some (t129.1, t129.2.1, t129.2.2, 0))) else (if (x1_1.length : Int) = 0 then ((zaI.f x0_0 x0_1 x0_2).bind fun t130 => (some (t130.1, t130.2.1, t130.2.2, 0))) else (if x0_2 < x1_2 then (zaF.j1 k x1_0 x1_1 x1_2 x0_0 x0_1 x0_2 false ([] : List Int) 0) else (zaF.j1 k x0_0 x0_1 x0_2 x1_0 x1_1 x1_2 false ([] : List Int) 0)))
def zaZ.f (k : Nat) (x0_0 : Bool) (x0_1 : List Int) (x0_2 : Int) (x1_0 : Bool) (x1_1 : List Int) (x1_2 : Int) : Option (Bool × List Int × Int × Int) := (zah.f k [(x0_0, x0_1, x0_2), (x1_0, x1_1, x1_2)]).bind fun t126 => (if (!t126) = true then (some (false, ([] : List Int), 0, 2)) else ((zaF.f k x0_0 x0_1 x0_2 x1_0 x1_1 x1_2).bind fun t196 => (some (t196.1, t196.2.1, t196.2.2.1, t196.2.2.2))))
mutual
def zI.l0 : Nat → Int → Int → Bool → List Int → Int → List Int → Bool → List Int → Int → Int → Option (Bool × List Int × Int)
 | 0, _, _, _, _, _, _, _, _, _, _ => none
 | k + 1, x2_0, x2_1, x4_0, x4_1, x4_2, x8, x11_0, x11_1, x11_2, x12 => if (x8.length : Int) > 0 then ((zY.f k x12).bind fun t231 => ((za2.f k x8 t231).bind fun t232 => ((zbz.f x2_0 x2_1).bind fun t233 => (if t233 = true then ((zz.f k (decide (¬ (Go.bits .and .u64 x12 2 = 0))) t232.1 0).bind fun t234 => (zI.j1 k x2_0 x2_1 x4_0 x4_1 x4_2 x8 x11_0 x11_1 x11_2 x12 t234.1 t234.2.1 t234.2.2.1)) else ((zz.f k false t232.1 0).bind fun t235 => (zI.j1 k x2_0 x2_1 x4_0 x4_1 x4_2 x8 x11_0 x11_1 x11_2 x12 t235.1 t235.2.1 t235.2.2.1)))))) else (some (x11_0, x11_1, x11_2))
def zI.j1 : Nat → Int → Int → Bool → List Int → Int → List Int → Bool → List Int → Int → Int → Bool → List Int → Int → Option (Bool × List Int × Int)
 | 0, _, _, _, _, _, _, _, _, _, _, _, _, _ => none
 | k + 1, x2_0, x2_1, x4_0, x4_1, x4_2, x8, x11_0, x11_1, x11_2, x12, x16_0, x16_1, x16_2 => (zaZ.f k x11_0 x11_1 x11_2 x16_0 x16_1 x16_2).bind fun t228 => ((zY.f k (IntKind.u64.wrap (x2_1 * x2_1))).bind fun t229 => ((za2.f k x8 t229).bind fun t230 => (zI.l0 k x2_0 x2_1 x4_0 x4_1 x4_2 t230.1 t228.1 t228.2.1 t228.2.2.1 (IntKind.u64.wrap (x12 + 2)))))
end
def zI.f (k : Nat) (x0_0 : Int) (x0_1 : Int) (x1 : Int) : Option (Bool × List Int × Int) := (zY.f k 1).bind fun t224 => ((zC.f k t224 x1).bind fun t225 => ((zY.f k x0_1).bind fun t226 => ((za2.f k t225.1 t226).bind fun t227 => (zI.l0 k x0_0 x0_1 false ([] : List Int) 0 t227.1 false ([] : List Int) 0 1))))
mutual
def zA.l0 : Nat → List Int → List Int → List Int → Int → Int → Option (List Int)
 | 0, _, _, _, _, _ => none
 | k + 1, x1, x5, x18, x19, x20 => if x20 < x19 then (if 0 ≤ x20 then (if x20 < (x18.length : Int) then (zA.l1 k x1 x5 x20 (rd x18 x20) 0 x18 x19 x20 x1 (x1.length : Int) 0) else (none)) else (none)) else ((zh.f k x5).bind fun t241 => (some t241))
def zA.l1 : Nat → List Int → List Int → Int → Int → Int → List Int → Int → Int → List Int → Int → Int → Option (List Int)
 | 0, _, _, _, _, _, _, _, _, _, _, _ => none
 | k + 1, x1, x5, x6, x7, x8, x18, x19, x20, x25, x26, x27 => if x27 < x26 then (if 0 ≤ x27 then (if x27 < (x25.length : Int) then (if 0 ≤ wrap64 (x6 + x27) then (if wrap64 (x6 + x27) < (x5.length : Int) then (if 0 ≤ wrap64 (x6 + x27) then (if wrap64 (x6 + x27) < (x5.length : Int) then (zA.l1 k x1 (x5.set (wrap64 (x6 + x27) : Int).toNat ((IntKind.u64.wrap ((IntKind.u64.wrap ((IntKind.u64.wrap ((IntKind.u64.wrap x7) * (IntKind.u64.wrap (rd x25 x27)))) + (IntKind.u64.wrap (rd x5 (wrap64 (x6 + x27)))))) + x8)) % 4294967296)) x6 x7 ((IntKind.u64.wrap ((IntKind.u64.wrap ((IntKind.u64.wrap ((IntKind.u64.wrap x7) * (IntKind.u64.wrap (rd x25 x27)))) + (IntKind.u64.wrap (rd x5 (wrap64 (x6 + x27)))))) + x8)) / 4294967296) x18 x19 x20 x25 x26 (wrap64 (x27 + 1))) else (none)) else (none)) else (none)) else (none)) else (none)) else (none)) else (if 0 ≤ wrap64 (x6 + (x1.length : Int)) then (if wrap64 (x6 + (x1.length : Int)) < (x5.length : Int) then (zA.l0 k x1 (x5.set (wrap64 (x6 + (x1.length : Int)) : Int).toNat (x8 % 4294967296)) x18 x19 (wrap64 (x20 + 1))) else (none)) else (none))
end
def zA.f (k : Nat) (x0 : List Int) (x1 : List Int) : Option (List Int) := if 0 ≤ (wrap64 ((x0.length : Int) + (x1.length : Int))) then (if (wrap64 ((x0.length : Int) + (x1.length : Int)) : Int).toNat ≤ 70368744177664 then (zA.l0 k x1 (List.replicate (wrap64 ((x0.length : Int) + (x1.length : Int)) : Int).toNat (0 : Int)) x0 (x0.length : Int) 0) else (none)) else (none)
def zbO.f (k : Nat) (x0 : List Int) (x1 : List Int) : Option (List Int × Int) := (zL.f k [x0, x1]).bind fun t248 => (if (!t248) = true then (some (([] : List Int), 2)) else (if (x0.length : Int) > 0 then (if (x1.length : Int) > 0 then (if (wrap64 ((wrap64 ((x0.length : Int) + (x1.length : Int))) - 1)) > 4096 then (some (([] : List Int), 3)) else ((zA.f k x0 x1).bind fun t249 => ((zaj.f t249).bind fun t250 => (some (t250.1, t250.2))))) else ((zA.f k x0 x1).bind fun t251 => ((zaj.f t251).bind fun t252 => (some (t252.1, t252.2))))) else ((zA.f k x0 x1).bind fun t253 => ((zaj.f t253).bind fun t254 => (some (t254.1, t254.2))))))
def zbe.f (k : Nat) (x0_0 : Bool) (x0_1 : List Int) (x0_2 : Int) (x1_0 : Bool) (x1_1 : List Int) (x1_2 : Int) : Option (Bool × List Int × Int × Int) := (zah.f k [(x0_0, x0_1, x0_2), (x1_0, x1_1, x1_2)]).bind fun t237 => (if (!t237) = true then (some (false, ([] : List Int), 0, 2)) else ((zbO.f k x0_1 x1_1).bind fun t255 => (if ¬ (t255.2 = 0) then (some (false, ([] : List Int), 0, t255.2)) else ((zz.f k (decide (¬ ((x0_0) = (x1_0)))) t255.1 (wrap64 (x0_2 + x1_2))).bind fun t256 => (some (t256.1, t256.2.1, t256.2.2.1, t256.2.2.2))))))
def zbH.f (x0_0 : Bool) (x0_1 : List Int) (x0_2 : Int) (x1 : Int) : Option (Bool × List Int × Int × Int) := (zaE.f x0_0 x0_1 x0_2).bind fun t266 => (if (!t266) = true then (some (false, ([] : List Int), 0, 2)) else (if (x0_1.length : Int) = 0 then (some (false, ([] : List Int), 0, 0)) else (if x1 > (wrap64 (16777216 - x0_2)) then (some (false, ([] : List Int), 0, 20)) else (if x1 < (wrap64 ((-16777216) - x0_2)) then (some (false, ([] : List Int), 0, 20)) else ((zaI.f x0_0 x0_1 x0_2).bind fun t267 => (some (t267.1, t267.2.1, wrap64 (t267.2.2 + x1), 0)))))))
def zH.l0 : Nat → Int → Bool → List Int → Int → Bool → List Int → Int → List (Int × Int) → Int → Int → Option (Bool × List Int × Int)
 | 0, _, _, _, _, _, _, _, _, _, _ => none
 | k + 1, x0, x4_0, x4_1, x4_2, x5_0, x5_1, x5_2, x11, x12, x13 => if x13 < x12 then (if 0 ≤ x13 then (if x13 < (x11.length : Int) then ((zaD.f k ((rdT [.i .i64, .i .u64] x11 x13).1)).bind fun t63 => ((zI.f k ((rdT [.i .i64, .i .u64] x11 x13).1) ((rdT [.i .i64, .i .u64] x11 x13).2) x0).bind fun t236 => ((zbe.f k t63.1 t63.2.1 t63.2.2 t236.1 t236.2.1 t236.2.2).bind fun t257 => ((zaZ.f k x5_0 x5_1 x5_2 t257.1 t257.2.1 t257.2.2.1).bind fun t258 => (zH.l0 k x0 x4_0 x4_1 x4_2 t258.1 t258.2.1 t258.2.2.1 x11 x12 (wrap64 (x13 + 1))))))) else (none)) else (none)) else ((zbH.f x5_0 x5_1 x5_2 (wrap64 (-x0))).bind fun t268 => (some (t268.1, t268.2.1, t268.2.2.1)))
def zH.f (k : Nat) (x0 : Int) (x1 : List (Int × Int)) : Option (Bool × List Int × Int) := zH.l0 k x0 false ([] : List Int) 0 false ([] : List Int) 0 x1 (x1.length : Int) 0
def zx.f (k : Nat) (d s z : Int) (p0 : Bool) (p1 : List Int) (p2 : Int) (q0 : Bool) (q1 : List Int) (q2 : Int) : Option (Int × Int × Int × Bool × List Int × Int × Bool × List Int × Int) :=
 if d = 0 then (if s = 0 then ((zH.f k 8320 [(16, 5), ((-4), 239)]).bind fun P => (zH.f k 8320 [(18, 26), ((-2), 4801), (8, 8749)]).bind fun Q => some (1, 0, z, P.1, P.2.1, P.2.2, Q.1, Q.2.1, Q.2.2)) else none) else some (d, s, z, p0, p1, p2, q0, q1, q2)
abbrev zx.S : Sig := { ps := [.bb [.i .u32, .i .i32, .i .u32, .b, .is .u32, .i .i64, .b, .is .u32, .i .i64]], rs := [], wb := [.i .u32, .i .i32, .i .u32, .b, .is .u32, .i .i64, .b, .is .u32, .i .i64], R := Int × Int × Int × Bool × List Int × Int × Bool × List Int × Int, mkR := fun y0 y1 y2 y3 y4 y5 y6 y7 y8 => some (y0, y1, y2, y3, y4, y5, y6, y7, y8), un := fun r => [.int .u32 r.1, .int .i32 r.2.1, .int .u32 r.2.2.1, .bool r.2.2.2.1, .ints .u32 r.2.2.2.2.1, .int .i64 r.2.2.2.2.2.1, .bool r.2.2.2.2.2.2.1, .ints .u32 r.2.2.2.2.2.2.2.1, .int .i64 r.2.2.2.2.2.2.2.2] }
def zx.F (k : Nat) : Fun := { S := zx.S, f := zx.f k }
def zaG.f (x0 : Int) : Option (Int) := if x0 < 1 then (some 2) else (if x0 > 8192 then (some 3) else (some 0))
def za0.f (k : Nat) (x0_0 : Bool) (x0_1 : List Int) (x0_2 : Int) (x1 : Int) : Option (Bool × List Int × Int × Bool × Int) := (z9.f k x0_1).bind fun t272 => (if (wrap64 (t272 - x1)) ≤ 0 then ((zaI.f x0_0 x0_1 x0_2).bind fun t273 => (some (t273.1, t273.2.1, t273.2.2, false, 0))) else ((zC.f k x0_1 (wrap64 (-(wrap64 (t272 - x1))))).bind fun t274 => ((zz.f k x0_0 t274.1 (wrap64 (x0_2 + (wrap64 (t272 - x1))))).bind fun t275 => (some (t275.1, t275.2.1, t275.2.2.1, decide (t275.2.2.2 = 0), t275.2.2.2)))))
def zbI.f (k : Nat) (x0_0 : Bool) (x0_1 : List Int) (x0_2 : Int) (x1 : Int) : Option (Bool × List Int × Int × Bool × Int) := (z9.f k x0_1).bind fun t276 => (if (wrap64 (t276 - x1)) ≤ 0 then ((zb7.f x0_0 x0_1 x0_2).bind fun t277 => (some (t277.1, t277.2.1, t277.2.2, false, 0))) else ((zC.f k x0_1 (wrap64 (-(wrap64 (t276 - x1))))).bind fun t278 => ((zbG.f k x0_0 t278.1 (wrap64 (x0_2 + (wrap64 (t276 - x1))))).bind fun t279 => (some (t279.1, t279.2.1, t279.2.2.1, decide (t279.2.2.2 = 0), t279.2.2.2)))))
def zag.f (k : Nat) (x0_0 : Bool) (x0_1 : List Int) (x0_2 : Int) (x1 : Int) : Option (Bool × List Int × Int × Bool × Int) := (zaE.f x0_0 x0_1 x0_2).bind fun t270 => (if (!t270) = true then (some (false, ([] : List Int), 0, false, 2)) else ((zaG.f x1).bind fun t271 => (if ¬ (t271 = 0) then (some (false, ([] : List Int), 0, false, t271)) else ((za0.f k x0_0 x0_1 x0_2 x1).bind fun t280 => (some (t280.1, t280.2.1, t280.2.2.1, t280.2.2.2.1, t280.2.2.2.2))))))
def zbF.f (k : Nat) (x0_0 : Bool) (x0_1 : List Int) (x0_2 : Int) (x1 : Int) : Option (Bool × List Int × Int × Bool × Int) := (zaE.f x0_0 x0_1 x0_2).bind fun t281 => (if (!t281) = true then (some (false, ([] : List Int), 0, false, 2)) else ((zaG.f x1).bind fun t282 => (if ¬ (t282 = 0) then (some (false, ([] : List Int), 0, false, t282)) else ((zbI.f k x0_0 x0_1 x0_2 x1).bind fun t283 => (some (t283.1, t283.2.1, t283.2.2.1, t283.2.2.2.1, t283.2.2.2.2))))))
def zaL.f (k : Nat) (x0_0 : Int) (x0_1 : Int) (x0_2 : Int) (x0_3 : Bool) (x0_4 : List Int) (x0_5 : Int) (x0_6 : Bool) (x0_7 : List Int) (x0_8 : Int) (x1 : Int) : Option (Bool × List Int × Int × Int × Int × Int × Int × Bool × List Int × Int × Bool × List Int × Int) := (zx.f k x0_0 x0_1 x0_2 x0_3 x0_4 x0_5 x0_6 x0_7 x0_8).bind fun t269 => ((zag.f k t269.2.2.2.1 t269.2.2.2.2.1 t269.2.2.2.2.2.1 x1).bind fun t284 => (some (t284.1, t284.2.1, t284.2.2.1, t284.2.2.2.2, t269.1, t269.2.1, t269.2.2.1, t269.2.2.2.1, t269.2.2.2.2.1, t269.2.2.2.2.2.1, t269.2.2.2.2.2.2.1, t269.2.2.2.2.2.2.2.1, t269.2.2.2.2.2.2.2.2)))
def zeh.f (x1 : Int) : Option (Bool × List Int × Int × Int) := some (false, ([] : List Int), 0, 1)
def zbx.f (k : Nat) (x0_0 : Int) (x0_1 : Int) (x0_2 : Int) (x0_3 : Bool) (x0_4 : List Int) (x0_5 : Int) (x0_6 : Bool) (x0_7 : List Int) (x0_8 : Int) (x1 : Int) : Option (Bool × List Int × Int × Int × Int × Int × Int × Bool × List Int × Int × Bool × List Int × Int) := (zx.f k x0_0 x0_1 x0_2 x0_3 x0_4 x0_5 x0_6 x0_7 x0_8).bind fun t285 => ((zbF.f k t285.2.2.2.1 t285.2.2.2.2.1 t285.2.2.2.2.2.1 x1).bind fun t286 => (some (t286.1, t286.2.1, t286.2.2.1, t286.2.2.2.2, t285.1, t285.2.1, t285.2.2.1, t285.2.2.2.1, t285.2.2.2.2.1, t285.2.2.2.2.2.1, t285.2.2.2.2.2.2.1, t285.2.2.2.2.2.2.2.1, t285.2.2.2.2.2.2.2.2)))
def za5.f (k : Nat) (x0_0 : Int) (x0_1 : Int) (x0_2 : Int) (x0_3 : Bool) (x0_4 : List Int) (x0_5 : Int) (x0_6 : Bool) (x0_7 : List Int) (x0_8 : Int) (x1 : Int) : Option (Bool × List Int × Int × Int × Int × Int × Int × Bool × List Int × Int × Bool × List Int × Int) := (zx.f k x0_0 x0_1 x0_2 x0_3 x0_4 x0_5 x0_6 x0_7 x0_8).bind fun t288 => ((zag.f k t288.2.2.2.2.2.2.1 t288.2.2.2.2.2.2.2.1 t288.2.2.2.2.2.2.2.2 x1).bind fun t289 => (some (t289.1, t289.2.1, t289.2.2.1, t289.2.2.2.2, t288.1, t288.2.1, t288.2.2.1, t288.2.2.2.1, t288.2.2.2.2.1, t288.2.2.2.2.2.1, t288.2.2.2.2.2.2.1, t288.2.2.2.2.2.2.2.1, t288.2.2.2.2.2.2.2.2)))
def zeg.f (x1 : Int) : Option (Bool × List Int × Int × Int) := some (false, ([] : List Int), 0, 1)
def za6.f (x0 : Int) : Option (Int) := if x0 < 1 then (some 2) else (if x0 > 8192 then (some 3) else (some 0))
def zap.l0 : Nat → List Int → List Int → Int → Option (Bool)
 | 0, _, _, _ => none
 | k + 1, x0, x1, x5 => if x5 < (x0.length : Int) then (if 0 ≤ x5 then (if x5 < (x0.length : Int) then (if 0 ≤ x5 then (if x5 < (x1.length : Int) then (if ¬ (rd x0 x5 = rd x1 x5) then (some false) else (zap.l0 k x0 x1 (wrap64 (x5 + 1)))) else (none)) else (none)) else (none)) else (none)) else (some true)
def zap.f (k : Nat) (x0 : List Int) (x1 : List Int) : Option (Bool) := if ¬ ((x0.length : Int) = (x1.length : Int)) then (some false) else (zap.l0 k x0 x1 0)
def zad.f (k : Nat) (x0_0 : Bool) (x0_1 : List Int) (x0_2 : Int) (x1_0 : Bool) (x1_1 : List Int) (x1_2 : Int) : Option (Bool) := if (x0_0) = (x1_0) then (if x0_2 = x1_2 then ((zap.f k x0_1 x1_1).bind fun t294 => (some t294)) else (some false)) else (some false)
def zk.l0 : Nat → List Int → Int → Option (List Int)
 | 0, _, _ => none
 | k + 1, x0, x3 => if x3 > 0 then (if 0 ≤ wrap64 (x3 - 1) then (if wrap64 (x3 - 1) < (x0.length : Int) then (if (rd x0 (wrap64 (x3 - 1))) = 0 then (zk.l0 k x0 (wrap64 (x3 - 1))) else (if 0 ≤ x3 then (if x3 ≤ (x0.length : Int) then (some (x0.take (x3 : Int).toNat)) else (none)) else (none))) else (none)) else (none)) else (if 0 ≤ x3 then (if x3 ≤ (x0.length : Int) then (some (x0.take (x3 : Int).toNat)) else (none)) else (none))
def zk.f (k : Nat) (x0 : List Int) : Option (List Int) := zk.l0 k x0 (x0.length : Int)
def z7.l0 : Nat → List Int → List Int → Int → Int → Int → Option (List Int)
 | 0, _, _, _, _, _ => none
 | k + 1, x0, x5, x6, x7, x8 => if x8 < (x0.length : Int) then (if 0 ≤ x8 then (if x8 < (x0.length : Int) then (if 0 ≤ x6 then (if x5.length + ([(Go.bits .or .u64 x7 (shl .u64 (IntKind.u64.wrap (rd x0 x8)) x6)) % 4294967296] : List Int).length < 35184372088832 then (z7.l0 k x0 (x5 ++ ([(Go.bits .or .u64 x7 (shl .u64 (IntKind.u64.wrap (rd x0 x8)) x6)) % 4294967296] : List Int)) x6 ((Go.bits .or .u64 x7 (shl .u64 (IntKind.u64.wrap (rd x0 x8)) x6)) / 4294967296) (wrap64 (x8 + 1))) else (none)) else (none)) else (none)) else (none)) else (if x5.length + ([x7 % 4294967296] : List Int).length < 35184372088832 then ((zk.f k (x5 ++ ([x7 % 4294967296] : List Int))).bind fun t304 => (some t304)) else (none))
def z7.f (k : Nat) (x0 : List Int) (x1 : Int) : Option (List Int) := if (x0.length : Int) = 0 then (some ([] : List Int)) else (if 0 ≤ (wrap64 (Int.tdiv x1 32)) then (if (wrap64 (Int.tdiv x1 32) : Int).toNat ≤ 70368744177664 then (z7.l0 k x0 (List.replicate (wrap64 (Int.tdiv x1 32) : Int).toNat (0 : Int)) (Int.tmod x1 32) 0 0) else (none)) else (none))
def z6.f (k : Nat) (x0 : Int) : Option (List Int) := (zk.f k ([x0 % 4294967296, (x0 / 4294967296) % 4294967296] : List Int)).bind fun t306 => (some t306)
def zaq.l0 : Nat → List Int → Int → List Int → Int → Int → Option (List Int × List Int)
 | 0, _, _, _, _, _ => none
 | k + 1, x0, x1, x6, x7, x8 => if x8 ≥ 0 then (if 0 ≤ x8 then (if x8 < (x0.length : Int) then (if (IntKind.u64.wrap x1) = 0 then (none) else (if 0 ≤ x8 then (if x8 < (x6.length : Int) then (if (IntKind.u64.wrap x1) = 0 then (none) else (zaq.l0 k x0 x1 (x6.set (x8 : Int).toNat ((IntKind.u64.wrap (Int.tdiv (Go.bits .or .u64 (IntKind.u64.wrap (x7 * 4294967296)) (IntKind.u64.wrap (rd x0 x8))) (IntKind.u64.wrap x1))) % 4294967296)) (Int.tmod (Go.bits .or .u64 (IntKind.u64.wrap (x7 * 4294967296)) (IntKind.u64.wrap (rd x0 x8))) (IntKind.u64.wrap x1)) (wrap64 (x8 - 1)))) else (none)) else (none))) else (none)) else (none)) else ((zk.f k x6).bind fun t308 => ((z6.f k x7).bind fun t309 => (some (t308, t309))))
def zaq.f (k : Nat) (x0 : List Int) (x1 : Int) : Option (List Int × List Int) := if 0 ≤ (x0.length : Int) then (if ((x0.length : Int) : Int).toNat ≤ 70368744177664 then (zaq.l0 k x0 x1 (List.replicate ((x0.length : Int) : Int).toNat (0 : Int)) 0 (wrap64 ((x0.length : Int) - 1))) else (none)) else (none)
def z5.l0 : Nat → Int → Int → Option (Int)
 | 0, _, _ => none
 | k + 1, x3, x4 => if x4 > 0 then (z5.l0 k (wrap64 (x3 + 1)) (x4 / 2)) else (some x3)
def z5.f (k : Nat) (x0 : List Int) : Option (Int) := if (x0.length : Int) = 0 then (some 0) else (if 0 ≤ wrap64 ((x0.length : Int) - 1) then (if wrap64 ((x0.length : Int) - 1) < (x0.length : Int) then (z5.l0 k (wrap64 (32 * (wrap64 ((x0.length : Int) - 1)))) (rd x0 (wrap64 ((x0.length : Int) - 1)))) else (none)) else (none))
def za7.f (x0 : List Int) (x1 : Int) : Option (Int) := if x1 < 0 then (some 0) else (if (wrap64 (Int.tdiv x1 32)) ≥ (x0.length : Int) then (some 0) else (if 0 ≤ wrap64 (Int.tdiv x1 32) then (if wrap64 (Int.tdiv x1 32) < (x0.length : Int) then (if 0 ≤ (Int.tmod x1 32) then (some (Go.bits .and .u32 (shr .u32 (rd x0 (wrap64 (Int.tdiv x1 32))) (Int.tmod x1 32)) 1)) else (none)) else (none)) else (none)))
def zJ.l0 : Nat → List Int → Int → Option (Int)
 | 0, _, _ => none
 | k + 1, x0, x3 => if x3 < (wrap64 (32 * (x0.length : Int))) then ((za7.f x0 x3).bind fun t318 => (if t318 = 0 then (if 0 ≤ wrap64 (Int.tdiv x3 32) then (if wrap64 (Int.tdiv x3 32) < (x0.length : Int) then (if (rd x0 (wrap64 (Int.tdiv x3 32))) = 0 then (zJ.l0 k x0 (wrap64 (x3 + 32))) else (zJ.l0 k x0 (wrap64 (x3 + 1)))) else (none)) else (none)) else (if x3 = (wrap64 (32 * (x0.length : Int))) then (some 0) else (some x3)))) else (if x3 = (wrap64 (32 * (x0.length : Int))) then (some 0) else (some x3))
def zJ.f (k : Nat) (x0 : List Int) : Option (Int) := zJ.l0 k x0 0
def zP.l0 : Nat → List Int → Bool → List Int → Int → Int → Option (List Int × Bool)
 | 0, _, _, _, _, _ => none
 | k + 1, x0, x6, x7, x8, x9 => if x9 < (x0.length : Int) then (if 0 ≤ x9 then (if x9 < (x0.length : Int) then (if 0 ≤ x8 then (if (wrap64 (x9 + 1)) < (x0.length : Int) then (if 0 ≤ wrap64 (x9 + 1) then (if wrap64 (x9 + 1) < (x0.length : Int) then (if 0 ≤ (wrap64 (32 - x8)) then (if x7.length + ([(Go.bits .or .u64 (shr .u64 (IntKind.u64.wrap (rd x0 x9)) x8) (shl .u64 (IntKind.u64.wrap (rd x0 (wrap64 (x9 + 1)))) (wrap64 (32 - x8)))) % 4294967296] : List Int).length < 35184372088832 then (zP.l0 k x0 x6 (x7 ++ ([(Go.bits .or .u64 (shr .u64 (IntKind.u64.wrap (rd x0 x9)) x8) (shl .u64 (IntKind.u64.wrap (rd x0 (wrap64 (x9 + 1)))) (wrap64 (32 - x8)))) % 4294967296] : List Int)) x8 (wrap64 (x9 + 1))) else (none)) else (none)) else (none)) else (none)) else (if x7.length + ([(shr .u64 (IntKind.u64.wrap (rd x0 x9)) x8) % 4294967296] : List Int).length < 35184372088832 then (zP.l0 k x0 x6 (x7 ++ ([(shr .u64 (IntKind.u64.wrap (rd x0 x9)) x8) % 4294967296] : List Int)) x8 (wrap64 (x9 + 1))) else (none))) else (none)) else (none)) else (none)) else ((zk.f k x7).bind fun t344 => (some (t344, x6)))
def zP.f (k : Nat) (x0 : List Int) (x1 : Int) : Option (List Int × Bool) := (z5.f k x0).bind fun t342 => (if x1 ≥ t342 then (some (([] : List Int), decide ((x0.length : Int) > 0))) else ((zJ.f k x0).bind fun t343 => (zP.l0 k x0 (decide (x1 > t343)) ([] : List Int) (Int.tmod x1 32) (wrap64 (Int.tdiv x1 32)))))
mutual
def zl.l0 : Nat → List Int → List Int → List Int → Int → Int → Option (List Int)
 | 0, _, _, _, _, _ => none
 | k + 1, x0, x1, x5, x6, x7 => if x7 < (x0.length : Int) then (if x7 < (x0.length : Int) then (if 0 ≤ x7 then (if x7 < (x0.length : Int) then (zl.j2 k x0 x1 x5 (IntKind.u64.wrap (x6 + (IntKind.u64.wrap (rd x0 x7)))) x7) else (none)) else (none)) else (zl.j2 k x0 x1 x5 x6 x7)) else (if x7 < (x1.length : Int) then (if x7 < (x0.length : Int) then (if 0 ≤ x7 then (if x7 < (x0.length : Int) then (zl.j2 k x0 x1 x5 (IntKind.u64.wrap (x6 + (IntKind.u64.wrap (rd x0 x7)))) x7) else (none)) else (none)) else (zl.j2 k x0 x1 x5 x6 x7)) else (if x5.length + ([x6 % 4294967296] : List Int).length < 35184372088832 then ((zk.f k (x5 ++ ([x6 % 4294967296] : List Int))).bind fun t354 => (some t354)) else (none)))
def zl.j2 : Nat → List Int → List Int → List Int → Int → Int → Option (List Int)
 | 0, _, _, _, _, _ => none
 | k + 1, x0, x1, x5, x6, x7 => if x7 < (x1.length : Int) then (if 0 ≤ x7 then (if x7 < (x1.length : Int) then (zl.j3 k x0 x1 x5 (IntKind.u64.wrap (x6 + (IntKind.u64.wrap (rd x1 x7)))) x7) else (none)) else (none)) else (zl.j3 k x0 x1 x5 x6 x7)
def zl.j3 : Nat → List Int → List Int → List Int → Int → Int → Option (List Int)
 | 0, _, _, _, _, _ => none
 | k + 1, x0, x1, x5, x6, x7 => if x5.length + ([x6 % 4294967296] : List Int).length < 35184372088832 then (zl.l0 k x0 x1 (x5 ++ ([x6 % 4294967296] : List Int)) (x6 / 4294967296) (wrap64 (x7 + 1))) else (none)
end
def zl.f (k : Nat) (x0 : List Int) (x1 : List Int) : Option (List Int) := zl.l0 k x0 x1 ([] : List Int) 0 0
def zao.l0 : Nat → List Int → List Int → Int → Option (Int)
 | 0, _, _, _ => none
 | k + 1, x0, x1, x5 => if x5 ≥ 0 then (if 0 ≤ x5 then (if x5 < (x0.length : Int) then (if 0 ≤ x5 then (if x5 < (x1.length : Int) then (if (rd x0 x5) < (rd x1 x5) then (some (-1)) else (if 0 ≤ x5 then (if x5 < (x0.length : Int) then (if 0 ≤ x5 then (if x5 < (x1.length : Int) then (if (rd x0 x5) > (rd x1 x5) then (some 1) else (zao.l0 k x0 x1 (wrap64 (x5 - 1)))) else (none)) else (none)) else (none)) else (none))) else (none)) else (none)) else (none)) else (none)) else (some 0)
def zao.f (k : Nat) (x0 : List Int) (x1 : List Int) : Option (Int) := if ¬ ((x0.length : Int) = (x1.length : Int)) then (if (x0.length : Int) < (x1.length : Int) then (some (-1)) else (some 1)) else (zao.l0 k x0 x1 (wrap64 ((x0.length : Int) - 1)))
mutual
def zn.l0 : Nat → List Int → List Int → List Int → Int → Int → Option (List Int)
 | 0, _, _, _, _, _ => none
 | k + 1, x0, x1, x5, x6, x7 => if x7 < (x0.length : Int) then (if x7 < (x1.length : Int) then (if 0 ≤ x7 then (if x7 < (x1.length : Int) then (zn.j1 k x0 x1 x5 x7 (IntKind.u64.wrap (x6 + (IntKind.u64.wrap (rd x1 x7))))) else (none)) else (none)) else (zn.j1 k x0 x1 x5 x7 x6)) else ((zk.f k x5).bind fun t362 => (some t362))
def zn.j1 : Nat → List Int → List Int → List Int → Int → Int → Option (List Int)
 | 0, _, _, _, _, _ => none
 | k + 1, x0, x1, x5, x7, x8 => if 0 ≤ x7 then (if x7 < (x0.length : Int) then (if (IntKind.u64.wrap (rd x0 x7)) < x8 then (zn.j2 k x0 x1 x5 1 x7 x8 (IntKind.u64.wrap ((IntKind.u64.wrap (rd x0 x7)) + 4294967296))) else (zn.j2 k x0 x1 x5 0 x7 x8 (IntKind.u64.wrap (rd x0 x7)))) else (none)) else (none)
def zn.j2 : Nat → List Int → List Int → List Int → Int → Int → Int → Int → Option (List Int)
 | 0, _, _, _, _, _, _, _ => none
 | k + 1, x0, x1, x5, x6, x7, x8, x9 => if x5.length + ([(IntKind.u64.wrap (x9 - x8)) % 4294967296] : List Int).length < 35184372088832 then (zn.l0 k x0 x1 (x5 ++ ([(IntKind.u64.wrap (x9 - x8)) % 4294967296] : List Int)) x6 (wrap64 (x7 + 1))) else (none)
end
def zn.f (k : Nat) (x0 : List Int) (x1 : List Int) : Option (List Int) := zn.l0 k x0 x1 ([] : List Int) 0 0
mutual
def zB.l0 : Nat → List Int → List Int → List Int → List Int → Int → Option (List Int × List Int)
 | 0, _, _, _, _, _ => none
 | k + 1, x0, x1, x6, x8, x10 => if x10 ≥ 0 then ((z7.f k x8 1).bind fun t391 => ((za7.f x0 x10).bind fun t392 => (if t392 = 1 then ((zl.f k t391 ([1] : List Int)).bind fun t393 => (zB.j2 k x0 x1 x6 t393 x10)) else (zB.j2 k x0 x1 x6 t391 x10)))) else ((zk.f k x6).bind fun t394 => (some (t394, x8)))
def zB.j2 : Nat → List Int → List Int → List Int → List Int → Int → Option (List Int × List Int)
 | 0, _, _, _, _, _ => none
 | k + 1, x0, x1, x6, x8, x10 => (zao.f k x8 x1).bind fun t389 => (if t389 ≥ 0 then ((zn.f k x8 x1).bind fun t390 => (if 0 ≤ wrap64 (Int.tdiv x10 32) then (if wrap64 (Int.tdiv x10 32) < (x6.length : Int) then (if 0 ≤ (Int.tmod x10 32) then (if 0 ≤ wrap64 (Int.tdiv x10 32) then (if wrap64 (Int.tdiv x10 32) < (x6.length : Int) then (zB.l0 k x0 x1 (x6.set (wrap64 (Int.tdiv x10 32) : Int).toNat (Go.bits .or .u32 (rd x6 (wrap64 (Int.tdiv x10 32))) (shl .u32 1 (Int.tmod x10 32)))) t390 (wrap64 (x10 - 1))) else (none)) else (none)) else (none)) else (none)) else (none))) else (zB.l0 k x0 x1 x6 x8 (wrap64 (x10 - 1))))
end
def zB.f (k : Nat) (x0 : List Int) (x1 : List Int) : Option (List Int × List Int) := if (x1.length : Int) = 1 then (if 0 < (x1.length : Int) then ((zaq.f k x0 (rd x1 0)).bind fun t385 => (some (t385.1, t385.2))) else (none)) else (if 0 ≤ (x0.length : Int) then (if ((x0.length : Int) : Int).toNat ≤ 70368744177664 then ((z5.f k x0).bind fun t386 => ((z5.f k x1).bind fun t387 => ((zP.f k x0 (mx 0 (wrap64 ((wrap64 (t386 - t387)) + 1)))).bind fun t388 => (zB.l0 k x0 x1 (List.replicate ((x0.length : Int) : Int).toNat (0 : Int)) t388.1 (wrap64 ((mx 0 (wrap64 ((wrap64 (t386 - t387)) + 1))) - 1)))))) else (none)) else (none))
mutual
def zu.l0 : Nat → Bool → List Int → List Int → List Int → List Int → Int → Int → Option (List Int × Int)
 | 0, _, _, _, _, _, _, _ => none
 | k + 1, x2, x8, x9, x10, x12, x13, x14 => if (x10.length : Int) > 0 then ((z6.f k x14).bind fun t500 => ((zB.f k x10 t500).bind fun t501 => (if x2 = true then (zu.j1 k x2 x8 x9 x10 x12 x13 x14 t501.1 (decide ((Int.tmod x14 4) = 3))) else (zu.j1 k x2 x8 x9 x10 x12 x13 x14 t501.1 false)))) else ((zn.f k x8 x9).bind fun t502 => (some (t502, x13)))
def zu.j1 : Nat → Bool → List Int → List Int → List Int → List Int → Int → Int → List Int → Bool → Option (List Int × Int)
 | 0, _, _, _, _, _, _, _, _, _ => none
 | k + 1, x2, x8, x9, x10, x12, x13, x14, x15, x47 => if x47 = true then ((zl.f k x9 x15).bind fun t498 => (zu.j2 k x2 x8 t498 x10 x12 x13 x14)) else ((zl.f k x8 x15).bind fun t499 => (zu.j2 k x2 t499 x9 x10 x12 x13 x14))
def zu.j2 : Nat → Bool → List Int → List Int → List Int → List Int → Int → Int → Option (List Int × Int)
 | 0, _, _, _, _, _, _, _ => none
 | k + 1, x2, x8, x9, x10, x12, x13, x14 => (zB.f k x10 x12).bind fun t497 => (zu.l0 k x2 x8 x9 t497.1 x12 (wrap64 (x13 + 1)) (IntKind.u64.wrap (x14 + 2)))
end
def zu.f (k : Nat) (x0 : Int) (x1 : Int) (x2 : Bool) : Option (List Int × Int) := (z7.f k ([1] : List Int) x1).bind fun t493 => ((z6.f k x0).bind fun t494 => ((zB.f k t493 t494).bind fun t495 => ((z6.f k (IntKind.u64.wrap (x0 * x0))).bind fun t496 => (zu.l0 k x2 ([] : List Int) ([] : List Int) t495.1 t496 0 1))))
mutual
def zr.l0 : Nat → List Int → List Int → List Int → Int → Int → Int → Option (List Int)
 | 0, _, _, _, _, _, _ => none
 | k + 1, x0, x1, x5, x6, x7, x8 => if x8 < (wrap64 ((x0.length : Int) + (x1.length : Int))) then (if x8 ≥ (x1.length : Int) then (zr.j3 k x0 x1 x5 x6 x7 x8 (wrap64 ((wrap64 (x8 - (x1.length : Int))) + 1))) else (zr.j3 k x0 x1 x5 x6 x7 x8 0)) else ((zk.f k x5).bind fun t507 => (some t507))
def zr.l1 : Nat → List Int → List Int → List Int → Int → Int → Int → Int → Option (List Int)
 | 0, _, _, _, _, _, _, _ => none
 | k + 1, x0, x1, x5, x6, x7, x8, x10 => if x10 ≤ x8 then (if x10 < (x0.length : Int) then (if 0 ≤ x10 then (if x10 < (x0.length : Int) then (if 0 ≤ wrap64 (x8 - x10) then (if wrap64 (x8 - x10) < (x1.length : Int) then (if (IntKind.u64.wrap (x6 + (IntKind.u64.wrap ((IntKind.u64.wrap (rd x0 x10)) * (IntKind.u64.wrap (rd x1 (wrap64 (x8 - x10)))))))) < (IntKind.u64.wrap ((IntKind.u64.wrap (rd x0 x10)) * (IntKind.u64.wrap (rd x1 (wrap64 (x8 - x10)))))) then (zr.l1 k x0 x1 x5 (IntKind.u64.wrap (x6 + (IntKind.u64.wrap ((IntKind.u64.wrap (rd x0 x10)) * (IntKind.u64.wrap (rd x1 (wrap64 (x8 - x10)))))))) (IntKind.u64.wrap (x7 + 1)) x8 (wrap64 (x10 + 1))) else (zr.l1 k x0 x1 x5 (IntKind.u64.wrap (x6 + (IntKind.u64.wrap ((IntKind.u64.wrap (rd x0 x10)) * (IntKind.u64.wrap (rd x1 (wrap64 (x8 - x10)))))))) x7 x8 (wrap64 (x10 + 1)))) else (none)) else (none)) else (none)) else (none)) else (if x5.length + ([x6 % 4294967296] : List Int).length < 35184372088832 then (zr.l0 k x0 x1 (x5 ++ ([x6 % 4294967296] : List Int)) (Go.bits .or .u64 (x6 / 4294967296) (IntKind.u64.wrap (x7 * 4294967296))) (x7 / 4294967296) (wrap64 (x8 + 1))) else (none))) else (if x5.length + ([x6 % 4294967296] : List Int).length < 35184372088832 then (zr.l0 k x0 x1 (x5 ++ ([x6 % 4294967296] : List Int)) (Go.bits .or .u64 (x6 / 4294967296) (IntKind.u64.wrap (x7 * 4294967296))) (x7 / 4294967296) (wrap64 (x8 + 1))) else (none))
def zr.j3 : Nat → List Int → List Int → List Int → Int → Int → Int → Int → Option (List Int)
 | 0, _, _, _, _, _, _, _ => none
 | k + 1, x0, x1, x5, x6, x7, x8, x9 => zr.l1 k x0 x1 x5 x6 x7 x8 x9
end
def zr.f (k : Nat) (x0 : List Int) (x1 : List Int) : Option (List Int) := if (x0.length : Int) = 0 then (some ([] : List Int)) else (if (x1.length : Int) = 0 then (some ([] : List Int)) else (zr.l0 k x0 x1 ([] : List Int) 0 0 0))
def zaB.f (k : Nat) (x0 : Bool) (x1 : List Int) (x2 : Int) : Option (Bool × List Int × Int) := if (x1.length : Int) = 0 then (some (false, ([] : List Int), 0)) else ((zJ.f k x1).bind fun t516 => ((zP.f k x1 t516).bind fun t517 => (some (x0, t517.1, wrap64 (x2 + t516)))))
def zW.l0 : Nat → List (Int × Int) → Int → Bool → Bool → List Int → Int → Bool → List Int → Int → List Int → Int → Int → Option (Bool × List Int × Int × Bool × List Int × Int)
 | 0, _, _, _, _, _, _, _, _, _, _, _, _ => none
 | k + 1, x0, x1, x2, x6_0, x6_1, x6_2, x7_0, x7_1, x7_2, x8, x9, x10 => if x10 < (x0.length : Int) then (if 0 ≤ x10 then (if x10 < (x0.length : Int) then ((zu.f k ((rdT [.i .u64, .i .u64] x0 x10).2) x1 x2).bind fun t510 => (if 0 ≤ x10 then (if x10 < (x0.length : Int) then ((z6.f k ((rdT [.i .u64, .i .u64] x0 x10).1)).bind fun t511 => ((zr.f k t511 t510.1).bind fun t512 => ((zl.f k x8 t512).bind fun t513 => (if 0 ≤ x10 then (if x10 < (x0.length : Int) then (zW.l0 k x0 x1 x2 x6_0 x6_1 x6_2 x7_0 x7_1 x7_2 t513 (IntKind.u64.wrap (x9 + (IntKind.u64.wrap (((rdT [.i .u64, .i .u64] x0 x10).1) * (IntKind.u64.wrap (wrap64 ((wrap64 (2 * t510.2)) + 4))))))) (wrap64 (x10 + 1))) else (none)) else (none))))) else (none)) else (none))) else (none)) else (none)) else ((z6.f k x9).bind fun t514 => ((zn.f k x8 t514).bind fun t515 => ((zaB.f k false t515 (wrap64 (-x1))).bind fun t518 => ((z6.f k x9).bind fun t519 => ((zl.f k x8 t519).bind fun t520 => ((zaB.f k false t520 (wrap64 (-x1))).bind fun t521 => (some (t518.1, t518.2.1, t518.2.2, t521.1, t521.2.1, t521.2.2))))))))
def zW.f (k : Nat) (x0 : List (Int × Int)) (x1 : Int) (x2 : Bool) : Option (Bool × List Int × Int × Bool × List Int × Int) := zW.l0 k x0 x1 x2 false ([] : List Int) 0 false ([] : List Int) 0 ([] : List Int) 0 0
def za8.f (k : Nat) (x0_0 : Bool) (x0_1 : List Int) (x0_2 : Int) (x1 : Int) : Option (Bool × List Int × Int × Bool) := (z5.f k x0_1).bind fun t523 => (if (wrap64 (t523 - x1)) ≤ 0 then (some (x0_0, x0_1, x0_2, false)) else ((zP.f k x0_1 (wrap64 (t523 - x1))).bind fun t524 => ((zaB.f k x0_0 t524.1 (wrap64 (x0_2 + (wrap64 (t523 - x1))))).bind fun t525 => (some (t525.1, t525.2.1, t525.2.2, t524.2)))))
def zar.l0 : Nat → List (Int × Int) → Int → Bool → Bool → List Int → Int → Int → Option (Bool × List Int × Int)
 | 0, _, _, _, _, _, _, _ => none
 | k + 1, x0, x1, x2, x6_0, x6_1, x6_2, x7 => (zW.f k x0 (wrap64 (x1 + x7)) x2).bind fun t522 => ((za8.f k t522.1 t522.2.1 t522.2.2.1 x1).bind fun t526 => ((za8.f k t522.2.2.2.1 t522.2.2.2.2.1 t522.2.2.2.2.2 x1).bind fun t527 => ((zad.f k t526.1 t526.2.1 t526.2.2.1 t527.1 t527.2.1 t527.2.2.1).bind fun t528 => (if t528 = true then (some (t526.1, t526.2.1, t526.2.2.1)) else (zar.l0 k x0 x1 x2 x6_0 x6_1 x6_2 (wrap64 (2 * x7)))))))
def zar.f (k : Nat) (x0 : List (Int × Int)) (x1 : Int) (x2 : Bool) : Option (Bool × List Int × Int) := zar.l0 k x0 x1 x2 false ([] : List Int) 0 64
def zbE.f (k : Nat) (x0 : Int) : Option (Bool × List Int × Int) := (zar.f k [(24, 8), (8, 57), (4, 239)] x0 true).bind fun t529 => (some (t529.1, t529.2.1, t529.2.2))
def zbD.f (k : Nat) (x0 : Int) : Option (Bool × List Int × Int) := (zar.f k [(14, 31), (10, 49), (6, 161)] x0 false).bind fun t542 => (some (t542.1, t542.2.1, t542.2.2))
def zaC.j0 : Nat → Int → Bool → List Int → Int → Int → Option (Bool × List Int × Int)
 | 0, _, _, _, _, _ => none
 | k + 1, x0, x2_0, x2_1, x2_2, x3 => (z6.f k x3).bind fun t548 => ((zaB.f k (decide (x0 < 0)) t548 0).bind fun t549 => (some (t549.1, t549.2.1, t549.2.2)))
def zaC.f (k : Nat) (x0 : Int) : Option (Bool × List Int × Int) := if x0 < 0 then (zaC.j0 k x0 false ([] : List Int) 0 (IntKind.u64.wrap (-(IntKind.u64.wrap x0)))) else (zaC.j0 k x0 false ([] : List Int) 0 (IntKind.u64.wrap x0))
def zbC.f (x0 : Int) : Option (Bool × List Int × Int) := some (false, ([1] : List Int), x0)
def zbB.f (k : Nat) : Option (Bool) := (zby.f).bind fun t561 => ((zaL.f k t561.1 t561.2.1 t561.2.2.1 t561.2.2.2.1 t561.2.2.2.2.1 t561.2.2.2.2.2.1 t561.2.2.2.2.2.2.1 t561.2.2.2.2.2.2.2.1 t561.2.2.2.2.2.2.2.2 2).bind fun t562 => ((za5.f k t562.2.2.2.2.1 t562.2.2.2.2.2.1 t562.2.2.2.2.2.2.1 t562.2.2.2.2.2.2.2.1 t562.2.2.2.2.2.2.2.2.1 t562.2.2.2.2.2.2.2.2.2.1 t562.2.2.2.2.2.2.2.2.2.2.1 t562.2.2.2.2.2.2.2.2.2.2.2.1 t562.2.2.2.2.2.2.2.2.2.2.2.2 1).bind fun t563 => ((zaC.f k 3).bind fun t564 => ((zad.f k t562.1 t562.2.1 t562.2.2.1 t564.1 t564.2.1 t564.2.2).bind fun t565 => (if t565 = true then (if t562.2.2.2.1 = 0 then ((zbC.f (-1)).bind fun t566 => ((zad.f k t563.1 t563.2.1 t563.2.2.1 t566.1 t566.2.1 t566.2.2).bind fun t567 => (if t567 = true then (some (decide (t563.2.2.2.1 = 0))) else (some false)))) else (some false)) else (some false))))))
mutual
def zD.l0 : Nat → Int → Int → Int → Int → Bool → List Int → Int → Bool → List Int → Int → Int → Option (Bool)
 | 0, _, _, _, _, _, _, _, _, _, _, _ => none
 | k + 1, x0, x3_0, x3_1, x3_2, x3_3, x3_4, x3_5, x3_6, x3_7, x3_8, x4 => if x4 < 2 then ((zbx.f k x3_0 x3_1 x3_2 x3_3 x3_4 x3_5 x3_6 x3_7 x3_8 x0).bind fun t608 => ((za5.f k t608.2.2.2.2.1 t608.2.2.2.2.2.1 t608.2.2.2.2.2.2.1 t608.2.2.2.2.2.2.2.1 t608.2.2.2.2.2.2.2.2.1 t608.2.2.2.2.2.2.2.2.2.1 t608.2.2.2.2.2.2.2.2.2.2.1 t608.2.2.2.2.2.2.2.2.2.2.2.1 t608.2.2.2.2.2.2.2.2.2.2.2.2 x0).bind fun t609 => ((za6.f x0).bind fun t610 => (if ¬ (t610 = 0) then ((zad.f k t608.1 t608.2.1 t608.2.2.1 false ([] : List Int) 0).bind fun t611 => (if (!t611) = true then (some false) else (if ¬ (t608.2.2.2.1 = t610) then (some false) else ((zad.f k t609.1 t609.2.1 t609.2.2.1 false ([] : List Int) 0).bind fun t612 => (if (!t612) = true then (some false) else (if ¬ (t609.2.2.2.1 = t610) then (some false) else (zD.l0 k x0 t609.2.2.2.2.1 t609.2.2.2.2.2.1 t609.2.2.2.2.2.2.1 t609.2.2.2.2.2.2.2.1 t609.2.2.2.2.2.2.2.2.1 t609.2.2.2.2.2.2.2.2.2.1 t609.2.2.2.2.2.2.2.2.2.2.1 t609.2.2.2.2.2.2.2.2.2.2.2.1 t609.2.2.2.2.2.2.2.2.2.2.2.2 (wrap64 (x4 + 1))))))))) else ((zbE.f k x0).bind fun t613 => ((zad.f k t608.1 t608.2.1 t608.2.2.1 t613.1 t613.2.1 t613.2.2).bind fun t614 => (if (!t614) = true then (some false) else (if ¬ (t608.2.2.2.1 = 0) then (some false) else ((zbD.f k x0).bind fun t615 => ((zad.f k t609.1 t609.2.1 t609.2.2.1 t615.1 t615.2.1 t615.2.2).bind fun t616 => (if (!t616) = true then (some false) else (if ¬ (t609.2.2.2.1 = 0) then (some false) else (zD.l1 k x0 t609.2.2.2.2.1 t609.2.2.2.2.2.1 t609.2.2.2.2.2.2.1 t609.2.2.2.2.2.2.2.1 t609.2.2.2.2.2.2.2.2.1 t609.2.2.2.2.2.2.2.2.2.1 t609.2.2.2.2.2.2.2.2.2.2.1 t609.2.2.2.2.2.2.2.2.2.2.2.1 t609.2.2.2.2.2.2.2.2.2.2.2.2 x4 t608.1 t608.2.1 t608.2.2.1 0))))))))))))) else ((zbB.f k).bind fun t617 => (some t617))
def zD.l1 : Nat → Int → Int → Int → Int → Bool → List Int → Int → Bool → List Int → Int → Int → Bool → List Int → Int → Int → Option (Bool)
 | 0, _, _, _, _, _, _, _, _, _, _, _, _, _, _, _ => none
 | k + 1, x0, x3_0, x3_1, x3_2, x3_3, x3_4, x3_5, x3_6, x3_7, x3_8, x4, x5_0, x5_1, x5_2, x10 => if x10 < (x5_1.length : Int) then (if 0 ≤ x10 then (if x10 < (x5_1.length : Int) then (zD.l1 k x0 x3_0 x3_1 x3_2 x3_3 x3_4 x3_5 x3_6 x3_7 x3_8 x4 x5_0 (x5_1.set (x10 : Int).toNat 7) x5_2 (wrap64 (x10 + 1))) else (none)) else (none)) else (zD.l0 k x0 x3_0 x3_1 x3_2 x3_3 x3_4 x3_5 x3_6 x3_7 x3_8 (wrap64 (x4 + 1)))
end
def zD.f (k : Nat) (x0 : Int) : Option (Bool) := (zby.f).bind fun t607 => (zD.l0 k x0 t607.1 t607.2.1 t607.2.2.1 t607.2.2.2.1 t607.2.2.2.2.1 t607.2.2.2.2.2.1 t607.2.2.2.2.2.2.1 t607.2.2.2.2.2.2.2.1 t607.2.2.2.2.2.2.2.2 0)
end Go.Proofs.YtlngoohfkaceoaaGreatDoor.Eng
