import Derived.Test.YtlngoohfkaceoaaGreatDoorEng2
import Derived.Test.YtlngoohfkaceoaaGreatDoorProg
import Derived.KernelRfl
import Derived.Lib.TrailingZeros
import Derived.Lib.Repeat
import Derived.Lib.Bytealg
set_option linter.unusedVariables false
set_option linter.unusedSimpArgs false
namespace Go.Proofs.YtlngoohfkaceoaaGreatDoor.Eng
open Go.RowKit Go.Proofs
set_option maxRecDepth 100000
def TL : List (Nat × TI) := [(2, ⟨.int .i64, 1, 8, [(.int .i64)]⟩),
 (3, ⟨.int .i64, 1, 8, [(.int .i64)]⟩),
 (4, ⟨.bool, 1, 1, [.bool]⟩),
 (5, ⟨.int .u8, 1, 1, [(.int .u8)]⟩),
 (6, ⟨.int .u8, 1, 1, [(.int .u8)]⟩),
 (7, ⟨.struct [(0, 2), (1, 3), (2, 4), (3, 6)], 4, 24, [(.int .i64), (.int .i64), .bool, (.int .u8)]⟩),
 (8, ⟨.struct [(0, 2), (1, 3), (2, 4), (3, 6)], 4, 24, [(.int .i64), (.int .i64), .bool, (.int .u8)]⟩),
 (9, ⟨.str, 1, 16, [.str]⟩),
 (10, ⟨.str, 1, 16, [.str]⟩),
 (11, ⟨.str, 1, 16, [.str]⟩),
 (12, ⟨.int .u64, 1, 8, [(.int .u64)]⟩),
 (13, ⟨.struct [(0, 9), (1, 12)], 2, 24, [.str, (.int .u64)]⟩),
 (14, ⟨.struct [(0, 9), (1, 12)], 2, 24, [.str, (.int .u64)]⟩),
 (15, ⟨.ptr 140, 1, 8, [.ptr]⟩),
 (16, ⟨.ptr 143, 1, 8, [.ptr]⟩),
 (17, ⟨.ptr 152, 1, 8, [.ptr]⟩),
 (18, ⟨.struct [(0, 17)], 1, 8, [.ptr]⟩),
 (19, ⟨.struct [(0, 17)], 1, 8, [.ptr]⟩),
 (21, ⟨.int .i32, 1, 4, [(.int .i32)]⟩),
 (22, ⟨.ptr 62, 1, 8, [.ptr]⟩),
 (24, ⟨.slice 33, 1, 24, [(.slice (some .u32))]⟩),
 (25, ⟨.struct [(0, 4), (1, 24), (2, 3)], 3, 40, [.bool, (.slice (some .u32)), (.int .i64)]⟩),
 (26, ⟨.struct [(0, 4), (1, 24), (2, 3)], 3, 40, [.bool, (.slice (some .u32)), (.int .i64)]⟩),
 (27, ⟨.int .i64, 1, 8, [(.int .i64)]⟩),
 (33, ⟨.int .u32, 1, 4, [(.int .u32)]⟩),
 (38, ⟨.int .u64, 1, 8, [(.int .u64)]⟩),
 (50, ⟨.struct [], 0, 0, []⟩),
 (51, ⟨.struct [], 0, 0, []⟩),
 (52, ⟨.struct [], 0, 0, []⟩),
 (55, ⟨.struct [(0, 21), (1, 33)], 2, 8, [(.int .i32), (.int .u32)]⟩),
 (56, ⟨.struct [(0, 21), (1, 33)], 2, 8, [(.int .i32), (.int .u32)]⟩),
 (61, ⟨.struct [(0, 60), (3, 26), (6, 26)], 9, 96, [(.int .u32), (.int .i32), (.int .u32), .bool, (.slice (some .u32)), (.int .i64), .bool, (.slice (some .u32)), (.int .i64)]⟩),
 (62, ⟨.struct [(0, 60), (3, 26), (6, 26)], 9, 96, [(.int .u32), (.int .i32), (.int .u32), .bool, (.slice (some .u32)), (.int .i64), .bool, (.slice (some .u32)), (.int .i64)]⟩),
 (67, ⟨.struct [(0, 38), (1, 38)], 2, 16, [(.int .u64), (.int .u64)]⟩),
 (68, ⟨.struct [(0, 38), (1, 38)], 2, 16, [(.int .u64), (.int .u64)]⟩),
 (69, ⟨.slice 68, 1, 24, [(.slice none)]⟩),
 (70, ⟨.int .u64, 1, 8, [(.int .u64)]⟩),
 (81, ⟨.struct [(0, 2), (1, 38)], 2, 16, [(.int .i64), (.int .u64)]⟩),
 (82, ⟨.struct [(0, 2), (1, 38)], 2, 16, [(.int .i64), (.int .u64)]⟩),
 (88, ⟨.ptr 60, 1, 8, [.ptr]⟩),
 (89, ⟨.slice 82, 1, 24, [(.slice none)]⟩),
 (98, ⟨.ptr 54, 1, 8, [.ptr]⟩),
 (100, ⟨.ptr 33, 1, 8, [.ptr]⟩),
 (108, ⟨.ptr 58, 1, 8, [.ptr]⟩),
 (111, ⟨.slice 26, 1, 24, [(.slice none)]⟩),
 (118, ⟨.ptr 56, 1, 8, [.ptr]⟩),
 (120, ⟨.ptr 21, 1, 8, [.ptr]⟩),
 (125, ⟨.slice 24, 1, 24, [(.slice none)]⟩),
 (132, ⟨.arr 32 5, 32, 32, [(.int .u8), (.int .u8), (.int .u8), (.int .u8), (.int .u8), (.int .u8), (.int .u8), (.int .u8), (.int .u8), (.int .u8), (.int .u8), (.int .u8), (.int .u8), (.int .u8), (.int .u8), (.int .u8), (.int .u8), (.int .u8), (.int .u8), (.int .u8), (.int .u8), (.int .u8), (.int .u8), (.int .u8), (.int .u8), (.int .u8), (.int .u8), (.int .u8), (.int .u8), (.int .u8), (.int .u8), (.int .u8)]⟩),
 (139, ⟨.struct [(0, 17), (1, 17), (2, 17), (3, 9)], 4, 40, [.ptr, .ptr, .ptr, .str]⟩),
 (140, ⟨.struct [(0, 17), (1, 17), (2, 17), (3, 9)], 4, 40, [.ptr, .ptr, .ptr, .str]⟩),
 (141, ⟨.arr 0 16, 0, 0, []⟩),
 (142, ⟨.struct [(0, 141)], 0, 0, []⟩),
 (143, ⟨.struct [(0, 141)], 0, 0, []⟩),
 (145, ⟨.int .u8, 1, 1, [(.int .u8)]⟩),
 (146, ⟨.int .u8, 1, 1, [(.int .u8)]⟩),
 (148, ⟨.ptr 5, 1, 8, [.ptr]⟩),
 (149, ⟨.int .i32, 1, 4, [(.int .i32)]⟩),
 (150, ⟨.int .i32, 1, 4, [(.int .i32)]⟩)]
def TT : Nat → Option TI := qef TL
def zdO : ByteArray := ⟨#[0, 1, 2, 2, 3, 3, 3, 3, 4, 4, 4, 4, 4, 4, 4, 4, 5, 5, 5, 5, 5, 5, 5, 5, 5, 5, 5, 5, 5, 5, 5, 5, 6, 6, 6, 6, 6, 6, 6, 6, 6, 6, 6, 6, 6, 6, 6, 6, 6, 6, 6, 6, 6, 6, 6, 6, 6, 6, 6, 6, 6, 6, 6, 6, 7, 7, 7, 7, 7, 7, 7, 7, 7, 7, 7, 7, 7, 7, 7, 7, 7, 7, 7, 7, 7, 7, 7, 7, 7, 7, 7, 7, 7, 7, 7, 7, 7, 7, 7, 7, 7, 7, 7, 7, 7, 7, 7, 7, 7, 7, 7, 7, 7, 7, 7, 7, 7, 7, 7, 7, 7, 7, 7, 7, 7, 7, 7, 7, 8, 8, 8, 8, 8, 8, 8, 8, 8, 8, 8, 8, 8, 8, 8, 8, 8, 8, 8, 8, 8, 8, 8, 8, 8, 8, 8, 8, 8, 8, 8, 8, 8, 8, 8, 8, 8, 8, 8, 8, 8, 8, 8, 8, 8, 8, 8, 8, 8, 8, 8, 8, 8, 8, 8, 8, 8, 8, 8, 8, 8, 8, 8, 8, 8, 8, 8, 8, 8, 8, 8, 8, 8, 8, 8, 8, 8, 8, 8, 8, 8, 8, 8, 8, 8, 8, 8, 8, 8, 8, 8, 8, 8, 8, 8, 8, 8, 8, 8, 8, 8, 8, 8, 8, 8, 8, 8, 8, 8, 8, 8, 8, 8, 8, 8, 8, 8, 8, 8, 8, 8, 8, 8, 8, 8, 8, 8, 8]⟩
def zan.f (x : Int) : Option Int := if 0 ≤ x ∧ x < 4294967296 then some (Lib.ctz 32 x.toNat : Int) else none
def zv : Nat → Nat → Option Value := fun b o => if b = 0 ∧ o < 32 then some (.int .u8 (Lib.deBruijn32tab.getD o 0)) else none
def zbI.f : Option (Int × Int × Int × Bool × List Int × Int × Bool × List Int × Int) := some (0, 0, 0, false, ([] : List Int), 0, false, ([] : List Int), 0)
def zh.l0 : Nat → List Int → Option (List Int)
 | 0, _ => none
 | k + 1, x0 => if (x0.length : Int) > 0 then (if 0 ≤ wrap64 ((x0.length : Int) - 1) then (if wrap64 ((x0.length : Int) - 1) < (x0.length : Int) then (if (rd x0 (wrap64 ((x0.length : Int) - 1))) = 0 then (if 0 ≤ (wrap64 ((x0.length : Int) - 1)) then (if (wrap64 ((x0.length : Int) - 1)) ≤ (x0.length : Int) then (zh.l0 k (x0.take (wrap64 ((x0.length : Int) - 1) : Int).toNat)) else (none)) else (none)) else (some x0)) else (none)) else (none)) else (some x0)
def zh.f (k : Nat) (x0 : List Int) : Option (List Int) := zh.l0 k x0
def zY.f (k : Nat) (x0 : Int) : Option (List Int) := (zh.f k ([x0 % 4294967296, (x0 / 4294967296) % 4294967296] : List Int)).bind fun t2 => (some t2)
def zac.f (x0 : List Int) : Option (Bool) := if (x0.length : Int) ≤ 4096 then (if (x0.length : Int) = 0 then (some true) else (if 0 ≤ wrap64 ((x0.length : Int) - 1) then (if wrap64 ((x0.length : Int) - 1) < (x0.length : Int) then (some (decide (¬ (rd x0 (wrap64 ((x0.length : Int) - 1)) = 0)))) else (none)) else (none))) else (some false)
abbrev zan.S : Sig := { ps := [.lf (.i .u32)], rs := [.lf (.i .i64)], wb := [], R := Int, mkR := fun y0 => some y0, un := fun r => [.int .i64 r] }
def zan.F (k : Nat) : Fun := { S := zan.S, f := zan.f }
def z6.l0 : Nat → List Int → Int → Int → Option (Int)
 | 0, _, _, _ => none
 | k + 1, x8, x9, x10 => if x10 < x9 then (if 0 ≤ x10 then (if x10 < (x8.length : Int) then (if ¬ (rd x8 x10 = 0) then ((zan.f (rd x8 x10)).bind fun t7 => (some (wrap64 ((wrap64 (32 * x10)) + t7)))) else (z6.l0 k x8 x9 (wrap64 (x10 + 1)))) else (none)) else (none)) else (some 0)
def z6.f (k : Nat) (x0 : List Int) : Option (Int) := (zac.f x0).bind fun t6 => (if (!t6) = true then (some 0) else (z6.l0 k x0 (x0.length : Int) 0))
def zad.l0 : Nat → List Int → Int → List Int → List Int → Int → Int → Option (List Int)
 | 0, _, _, _, _, _, _ => none
 | k + 1, x0, x5, x6, x23, x24, x25 => if x25 < x24 then (if 0 ≤ x25 then (if x25 < (x23.length : Int) then (if 0 ≤ x5 then (if 0 ≤ x25 then (if x25 < (x6.length : Int) then (if (wrap64 (x25 + 1)) < (x0.length : Int) then (if 0 ≤ x25 then (if x25 < ((x6.set (x25 : Int).toNat (shr .u32 (rd x23 x25) x5)).length : Int) then (if 0 ≤ wrap64 (x25 + 1) then (if wrap64 (x25 + 1) < (x0.length : Int) then (if 0 ≤ (wrap64 (32 - x5)) then (if 0 ≤ x25 then (if x25 < ((x6.set (x25 : Int).toNat (shr .u32 (rd x23 x25) x5)).length : Int) then (zad.l0 k x0 x5 ((x6.set (x25 : Int).toNat (shr .u32 (rd x23 x25) x5)).set (x25 : Int).toNat (Go.bits .or .u32 (rd (x6.set (x25 : Int).toNat (shr .u32 (rd x23 x25) x5)) x25) ((shl .u64 (IntKind.u64.wrap (rd x0 (wrap64 (x25 + 1)))) (wrap64 (32 - x5))) % 4294967296))) x23 x24 (wrap64 (x25 + 1))) else (none)) else (none)) else (none)) else (none)) else (none)) else (none)) else (none)) else (zad.l0 k x0 x5 (x6.set (x25 : Int).toNat (shr .u32 (rd x23 x25) x5)) x23 x24 (wrap64 (x25 + 1)))) else (none)) else (none)) else (none)) else (none)) else (none)) else ((zh.f k x6).bind fun t15 => (some t15))
def zad.f (k : Nat) (x0 : List Int) (x1 : Int) : Option (List Int) := if (wrap64 (Int.tdiv x1 32)) ≥ (x0.length : Int) then (some ([] : List Int)) else (if 0 ≤ (wrap64 (Int.tdiv x1 32)) then (if (wrap64 (Int.tdiv x1 32)) ≤ (x0.length : Int) then (if 0 ≤ ((x0.drop (wrap64 (Int.tdiv x1 32) : Int).toNat).length : Int) then (if (((x0.drop (wrap64 (Int.tdiv x1 32) : Int).toNat).length : Int) : Int).toNat ≤ 70368744177664 then (zad.l0 k (x0.drop (wrap64 (Int.tdiv x1 32) : Int).toNat) (Int.tmod x1 32) (List.replicate (((x0.drop (wrap64 (Int.tdiv x1 32) : Int).toNat).length : Int) : Int).toNat (0 : Int)) (x0.drop (wrap64 (Int.tdiv x1 32) : Int).toNat) ((x0.drop (wrap64 (Int.tdiv x1 32) : Int).toNat).length : Int) 0) else (none)) else (none)) else (none)) else (none))
mutual
def zL.j0 : Nat → Int → Int → Option (Int)
 | 0, _, _ => none
 | k + 1, x0, x2 => if x0 ≥ 256 then (zL.j1 k (x0 / 256) (wrap64 (x2 + 8))) else (zL.j1 k x0 x2)
def zL.j1 : Nat → Int → Int → Option (Int)
 | 0, _, _ => none
 | k + 1, x0, x2 => if 0 ≤ x0 % 256 then (if x0 % 256 < (zdO.size : Int) then (some (wrap64 (x2 + (wrap64 (bt zdO (x0 % 256)))))) else (none)) else (none)
end
def zL.f (k : Nat) (x0 : Int) : Option (Int) := if x0 ≥ 65536 then (zL.j0 k (x0 / 65536) 16) else (zL.j0 k x0 0)
def zay.f (k : Nat) (x0 : List Int) : Option (Int) := (zac.f x0).bind fun t25 => (if (!t25) = true then (some 0) else (if (x0.length : Int) = 0 then (some 0) else (if 0 ≤ wrap64 ((x0.length : Int) - 1) then (if wrap64 ((x0.length : Int) - 1) < (x0.length : Int) then ((zL.f k (rd x0 (wrap64 ((x0.length : Int) - 1)))).bind fun t26 => (some (wrap64 ((wrap64 (32 * (wrap64 ((x0.length : Int) - 1)))) + t26)))) else (none)) else (none))))
def zae.l0 : Nat → List Int → Int → Int → List Int → Int → Int → Option (List Int)
 | 0, _, _, _, _, _, _ => none
 | k + 1, x5, x6, x7, x24, x25, x26 => if x26 < x25 then (if 0 ≤ x26 then (if x26 < (x24.length : Int) then (if 0 ≤ x6 then (if x5.length + ([Go.bits .or .u32 (shl .u32 (rd x24 x26) x6) x7] : List Int).length < 35184372088832 then (if 0 ≤ (wrap64 (32 - x6)) then (zae.l0 k (x5 ++ ([Go.bits .or .u32 (shl .u32 (rd x24 x26) x6) x7] : List Int)) x6 ((shr .u64 (IntKind.u64.wrap (rd x24 x26)) (wrap64 (32 - x6))) % 4294967296) x24 x25 (wrap64 (x26 + 1))) else (none)) else (none)) else (none)) else (none)) else (none)) else (if x5.length + ([x7] : List Int).length < 35184372088832 then ((zh.f k (x5 ++ ([x7] : List Int))).bind fun t28 => (some t28)) else (none))
def zae.f (k : Nat) (x0 : List Int) (x1 : Int) : Option (List Int) := if (x0.length : Int) = 0 then (some ([] : List Int)) else (if 0 ≤ (wrap64 (Int.tdiv x1 32)) then (if (wrap64 (Int.tdiv x1 32)) ≤ (wrap64 ((wrap64 ((wrap64 (Int.tdiv x1 32)) + (x0.length : Int))) + 1)) then (if (wrap64 ((wrap64 ((wrap64 (Int.tdiv x1 32)) + (x0.length : Int))) + 1) : Int).toNat ≤ 70368744177664 then (zae.l0 k (List.replicate (wrap64 (Int.tdiv x1 32) : Int).toNat (0 : Int)) (Int.tmod x1 32) 0 x0 (x0.length : Int) 0) else (none)) else (none)) else (none))
def zP.f (k : Nat) (x0 : List Int) (x1 : Int) : Option (List Int × Bool × Int) := (zac.f x0).bind fun t13 => (if (!t13) = true then (some (([] : List Int), false, 2)) else (if (x0.length : Int) = 0 then (some (([] : List Int), false, 0)) else (if x1 < (-131072) then (some (([] : List Int), true, 0)) else (if x1 < 0 then ((zad.f k x0 (wrap64 (-x1))).bind fun t16 => ((z6.f k x0).bind fun t17 => (some (t16, decide (t17 < (wrap64 (-x1))), 0)))) else ((zay.f k x0).bind fun t27 => (if x1 > (wrap64 (131072 - t27)) then (some (([] : List Int), false, 3)) else ((zae.f k x0 x1).bind fun t29 => (some (t29, false, 0)))))))))
def zC.f (k : Nat) (x0 : Bool) (x1 : List Int) (x2 : Int) : Option (Bool × List Int × Int × Int) := (zac.f x1).bind fun t36 => (if (!t36) = true then (some (false, ([] : List Int), 0, 2)) else (if (x1.length : Int) = 0 then (some (false, ([] : List Int), 0, 0)) else ((z6.f k x1).bind fun t37 => (if x2 > (wrap64 (16777216 - t37)) then (some (false, ([] : List Int), 0, 20)) else (if x2 < (wrap64 ((-16777216) - t37)) then (some (false, ([] : List Int), 0, 20)) else ((zP.f k x1 (wrap64 (-t37))).bind fun t38 => (some (x0, t38.1, wrap64 (x2 + t37), 0))))))))
def zaG.j0 : Nat → Int → Bool → List Int → Int → Int → Option (Bool × List Int × Int)
 | 0, _, _, _, _, _ => none
 | k + 1, x0, x2_0, x2_1, x2_2, x3 => (zY.f k x3).bind fun t3 => ((zC.f k (decide (x0 < 0)) t3 0).bind fun t39 => (some (t39.1, t39.2.1, t39.2.2.1)))
def zaG.f (k : Nat) (x0 : Int) : Option (Bool × List Int × Int) := if x0 < 0 then (zaG.j0 k x0 false ([] : List Int) 0 (IntKind.u64.wrap (-(IntKind.u64.wrap x0)))) else (zaG.j0 k x0 false ([] : List Int) 0 (IntKind.u64.wrap x0))
def zH.l0 : Nat → List (List Int) → Int → Int → Option (Bool)
 | 0, _, _, _ => none
 | k + 1, x5, x6, x7 => if x7 < x6 then (if 0 ≤ x7 then (if x7 < (x5.length : Int) then ((zac.f (rdT [.is .u32] x5 x7)).bind fun t44 => (if (!t44) = true then (some false) else (zH.l0 k x5 x6 (wrap64 (x7 + 1))))) else (none)) else (none)) else (some true)
def zH.f (k : Nat) (x0 : List (List Int)) : Option (Bool) := zH.l0 k x0 (x0.length : Int) 0
def z7.l0 : Nat → List Int → List Int → Int → Option (Int)
 | 0, _, _, _ => none
 | k + 1, x0, x1, x5 => if x5 ≥ 0 then (if 0 ≤ x5 then (if x5 < (x0.length : Int) then (if 0 ≤ x5 then (if x5 < (x1.length : Int) then (if ¬ (rd x0 x5 = rd x1 x5) then (if 0 ≤ x5 then (if x5 < (x0.length : Int) then (if 0 ≤ x5 then (if x5 < (x1.length : Int) then (if (rd x0 x5) < (rd x1 x5) then (some (-1)) else (some 1)) else (none)) else (none)) else (none)) else (none)) else (z7.l0 k x0 x1 (wrap64 (x5 - 1)))) else (none)) else (none)) else (none)) else (none)) else (some 0)
def z7.f (k : Nat) (x0 : List Int) (x1 : List Int) : Option (Int) := if (x0.length : Int) < (x1.length : Int) then (some (-1)) else (if (x0.length : Int) > (x1.length : Int) then (some 1) else (z7.l0 k x0 x1 (wrap64 ((x0.length : Int) - 1))))
def zbD.f (x0 : Int) (x1 : Int) (x2 : Int) : Option (Int × Int) := if ¬ (x2 = 0) then (if x2 ≤ x0 then (none) else (if (IntKind.u64.wrap x2) = 0 then (none) else (if (IntKind.u64.wrap x2) = 0 then (none) else (some ((IntKind.u64.wrap (Int.tdiv (Go.bits .or .u64 (IntKind.u64.wrap ((IntKind.u64.wrap x0) * 4294967296)) (IntKind.u64.wrap x1)) (IntKind.u64.wrap x2))) % 4294967296, (Int.tmod (Go.bits .or .u64 (IntKind.u64.wrap ((IntKind.u64.wrap x0) * 4294967296)) (IntKind.u64.wrap x1)) (IntKind.u64.wrap x2)) % 4294967296))))) else (if (IntKind.u64.wrap x2) = 0 then (none) else (if (IntKind.u64.wrap x2) = 0 then (none) else (some ((IntKind.u64.wrap (Int.tdiv (Go.bits .or .u64 (IntKind.u64.wrap ((IntKind.u64.wrap x0) * 4294967296)) (IntKind.u64.wrap x1)) (IntKind.u64.wrap x2))) % 4294967296, (Int.tmod (Go.bits .or .u64 (IntKind.u64.wrap ((IntKind.u64.wrap x0) * 4294967296)) (IntKind.u64.wrap x1)) (IntKind.u64.wrap x2)) % 4294967296))))
def zaz.l0 : Nat → List Int → Int → List Int → Int → Int → Option (List Int × Int)
 | 0, _, _, _, _, _ => none
 | k + 1, x0, x1, x6, x7, x8 => if x8 ≥ 0 then (if 0 ≤ x8 then (if x8 < (x0.length : Int) then ((zbD.f x7 (rd x0 x8) x1).bind fun t47 => (if 0 ≤ x8 then (if x8 < (x6.length : Int) then (zaz.l0 k x0 x1 (x6.set (x8 : Int).toNat t47.1) t47.2 (wrap64 (x8 - 1))) else (none)) else (none))) else (none)) else (none)) else ((zh.f k x6).bind fun t48 => (some (t48, x7)))
def zaz.f (k : Nat) (x0 : List Int) (x1 : Int) : Option (List Int × Int) := if 0 ≤ (x0.length : Int) then (if ((x0.length : Int) : Int).toNat ≤ 70368744177664 then (zaz.l0 k x0 x1 (List.replicate ((x0.length : Int) : Int).toNat (0 : Int)) 0 (wrap64 ((x0.length : Int) - 1))) else (none)) else (none)
def zbE.f (k : Nat) (x0 : Int) : Option (Int) := (zL.f k x0).bind fun t51 => (some (wrap64 (32 - t51)))
def zaQ.f (x0 : Int) (x1 : Int) (x2 : Int) : Option (Int × Int) := some ((((x0 - x1) % 4294967296) - x2) % 4294967296, (Go.bits .or .u32 (Go.bits .and .u32 (Go.bits .xor .u32 4294967295 x0) x1) (Go.bits .and .u32 (Go.bits .xor .u32 4294967295 (Go.bits .xor .u32 x0 x1)) ((((x0 - x1) % 4294967296) - x2) % 4294967296))) / 2147483648)
def za6.f (x0 : Int) (x1 : Int) (x2 : Int) : Option (Int × Int) := some ((IntKind.u64.wrap ((IntKind.u64.wrap ((IntKind.u64.wrap x0) + (IntKind.u64.wrap x1))) + (IntKind.u64.wrap x2))) % 4294967296, ((IntKind.u64.wrap ((IntKind.u64.wrap ((IntKind.u64.wrap x0) + (IntKind.u64.wrap x1))) + (IntKind.u64.wrap x2))) / 4294967296) % 4294967296)
mutual
def zo.l0 : Nat → List Int → List Int → Int → Int → Int → Option (Int × List Int)
 | 0, _, _, _, _, _ => none
 | k + 1, x0, x1, x5, x7, x8 => if x7 ≥ 4294967296 then (if 0 ≤ wrap64 (x5 - 1) then (if wrap64 (x5 - 1) < (x1.length : Int) then (if (IntKind.u64.wrap (x8 + (IntKind.u64.wrap (rd x1 (wrap64 (x5 - 1)))))) ≥ 4294967296 then (zo.l1 k x0 x1 x5 (IntKind.u64.wrap (x7 - 1)) 0 0 x1 (x1.length : Int) 0) else (zo.l0 k x0 x1 x5 (IntKind.u64.wrap (x7 - 1)) (IntKind.u64.wrap (x8 + (IntKind.u64.wrap (rd x1 (wrap64 (x5 - 1)))))))) else (none)) else (none)) else (if 0 ≤ wrap64 (x5 - 2) then (if wrap64 (x5 - 2) < (x1.length : Int) then (if 0 ≤ wrap64 (x5 - 2) then (if wrap64 (x5 - 2) < (x0.length : Int) then (if (IntKind.u64.wrap (x7 * (IntKind.u64.wrap (rd x1 (wrap64 (x5 - 2)))))) > (Go.bits .or .u64 (IntKind.u64.wrap (x8 * 4294967296)) (IntKind.u64.wrap (rd x0 (wrap64 (x5 - 2))))) then (if 0 ≤ wrap64 (x5 - 1) then (if wrap64 (x5 - 1) < (x1.length : Int) then (if (IntKind.u64.wrap (x8 + (IntKind.u64.wrap (rd x1 (wrap64 (x5 - 1)))))) ≥ 4294967296 then (zo.l1 k x0 x1 x5 (IntKind.u64.wrap (x7 - 1)) 0 0 x1 (x1.length : Int) 0) else (zo.l0 k x0 x1 x5 (IntKind.u64.wrap (x7 - 1)) (IntKind.u64.wrap (x8 + (IntKind.u64.wrap (rd x1 (wrap64 (x5 - 1)))))))) else (none)) else (none)) else (zo.l1 k x0 x1 x5 x7 0 0 x1 (x1.length : Int) 0)) else (none)) else (none)) else (none)) else (none))
def zo.l1 : Nat → List Int → List Int → Int → Int → Int → Int → List Int → Int → Int → Option (Int × List Int)
 | 0, _, _, _, _, _, _, _, _, _ => none
 | k + 1, x0, x1, x5, x7, x9, x10, x81, x82, x83 => if x83 < x82 then (if 0 ≤ x83 then (if x83 < (x81.length : Int) then (if 0 ≤ x83 then (if x83 < (x0.length : Int) then ((zaQ.f (rd x0 x83) ((IntKind.u64.wrap (x10 + (IntKind.u64.wrap (x7 * (IntKind.u64.wrap (rd x81 x83)))))) % 4294967296) x9).bind fun t74 => (if 0 ≤ x83 then (if x83 < (x0.length : Int) then (zo.l1 k (x0.set (x83 : Int).toNat t74.1) x1 x5 x7 t74.2 ((IntKind.u64.wrap (x10 + (IntKind.u64.wrap (x7 * (IntKind.u64.wrap (rd x81 x83)))))) / 4294967296) x81 x82 (wrap64 (x83 + 1))) else (none)) else (none))) else (none)) else (none)) else (none)) else (none)) else (if 0 ≤ x5 then (if x5 < (x0.length : Int) then ((zaQ.f (rd x0 x5) (x10 % 4294967296) x9).bind fun t75 => (if 0 ≤ x5 then (if x5 < (x0.length : Int) then (if t75.2 = 0 then (some (x7 % 4294967296, x0.set (x5 : Int).toNat t75.1)) else (zo.l2 k (x0.set (x5 : Int).toNat t75.1) x5 x7 0 x1 (x1.length : Int) 0)) else (none)) else (none))) else (none)) else (none))
def zo.l2 : Nat → List Int → Int → Int → Int → List Int → Int → Int → Option (Int × List Int)
 | 0, _, _, _, _, _, _, _ => none
 | k + 1, x0, x5, x7, x13, x129, x130, x131 => if x131 < x130 then (if 0 ≤ x131 then (if x131 < (x129.length : Int) then (if 0 ≤ x131 then (if x131 < (x0.length : Int) then ((za6.f (rd x0 x131) (rd x129 x131) x13).bind fun t73 => (if 0 ≤ x131 then (if x131 < (x0.length : Int) then (zo.l2 k (x0.set (x131 : Int).toNat t73.1) x5 x7 t73.2 x129 x130 (wrap64 (x131 + 1))) else (none)) else (none))) else (none)) else (none)) else (none)) else (none)) else (if 0 ≤ x5 then (if x5 < (x0.length : Int) then (if 0 ≤ x5 then (if x5 < (x0.length : Int) then (some ((IntKind.u64.wrap (x7 - 1)) % 4294967296, x0.set (x5 : Int).toNat (((rd x0 x5) + x13) % 4294967296))) else (none)) else (none)) else (none)) else (none))
end
def zo.f (k : Nat) (x0 : List Int) (x1 : List Int) : Option (Int × List Int) := if 0 ≤ (x1.length : Int) then (if (x1.length : Int) < (x0.length : Int) then (if 0 ≤ wrap64 ((x1.length : Int) - 1) then (if wrap64 ((x1.length : Int) - 1) < (x0.length : Int) then (if 0 ≤ wrap64 ((x1.length : Int) - 1) then (if wrap64 ((x1.length : Int) - 1) < (x1.length : Int) then (if (IntKind.u64.wrap (rd x1 (wrap64 ((x1.length : Int) - 1)))) = 0 then (none) else (if 0 ≤ wrap64 ((x1.length : Int) - 1) then (if wrap64 ((x1.length : Int) - 1) < (x1.length : Int) then (if (IntKind.u64.wrap (rd x1 (wrap64 ((x1.length : Int) - 1)))) = 0 then (none) else (zo.l0 k x0 x1 (x1.length : Int) (IntKind.u64.wrap (Int.tdiv (Go.bits .or .u64 (IntKind.u64.wrap ((IntKind.u64.wrap (rd x0 (x1.length : Int))) * 4294967296)) (IntKind.u64.wrap (rd x0 (wrap64 ((x1.length : Int) - 1))))) (IntKind.u64.wrap (rd x1 (wrap64 ((x1.length : Int) - 1)))))) (Int.tmod (Go.bits .or .u64 (IntKind.u64.wrap ((IntKind.u64.wrap (rd x0 (x1.length : Int))) * 4294967296)) (IntKind.u64.wrap (rd x0 (wrap64 ((x1.length : Int) - 1))))) (IntKind.u64.wrap (rd x1 (wrap64 ((x1.length : Int) - 1))))))) else (none)) else (none))) else (none)) else (none)) else (none)) else (none)) else (none)) else (none)
mutual
def zI.l0 : Nat → List Int → Int → List Int → List Int → Option (List Int × List Int)
 | 0, _, _, _, _ => none
 | k + 1, x0, x6, x7, x8 => if (x8.length : Int) ≤ (x0.length : Int) then (if x8.length + ([0] : List Int).length < 35184372088832 then (zI.l0 k x0 x6 x7 (x8 ++ ([0] : List Int))) else (none)) else (if 0 ≤ (wrap64 ((x8.length : Int) - (x7.length : Int))) then (if (wrap64 ((x8.length : Int) - (x7.length : Int)) : Int).toNat ≤ 70368744177664 then (zI.l1 k x6 x7 x8 (x7.length : Int) (List.replicate (wrap64 ((x8.length : Int) - (x7.length : Int)) : Int).toNat (0 : Int)) (wrap64 (((List.replicate (wrap64 ((x8.length : Int) - (x7.length : Int)) : Int).toNat (0 : Int)).length : Int) - 1))) else (none)) else (none))
def zI.l1 : Nat → Int → List Int → List Int → Int → List Int → Int → Option (List Int × List Int)
 | 0, _, _, _, _, _, _ => none
 | k + 1, x6, x7, x8, x9, x10, x11 => if x11 ≥ 0 then (if 0 ≤ x11 then (if x11 ≤ (wrap64 ((wrap64 (x11 + x9)) + 1)) then (if (wrap64 ((wrap64 (x11 + x9)) + 1)) ≤ (x8.length : Int) then ((zo.f k ((x8.take (wrap64 ((wrap64 (x11 + x9)) + 1) : Int).toNat).drop (x11 : Int).toNat) x7).bind fun t76 => (if 0 ≤ x11 then (if x11 < (x10.length : Int) then (zI.l1 k x6 x7 (x8.take (x11 : Int).toNat ++ t76.2 ++ x8.drop (wrap64 ((wrap64 (x11 + x9)) + 1) : Int).toNat) x9 (x10.set (x11 : Int).toNat t76.1) (wrap64 (x11 - 1))) else (none)) else (none))) else (none)) else (none)) else (none)) else ((zh.f k x10).bind fun t77 => (if 0 ≤ x9 then (if x9 ≤ (x8.length : Int) then ((zh.f k (x8.take (x9 : Int).toNat)).bind fun t78 => ((zad.f k t78 x6).bind fun t79 => ((zh.f k t79).bind fun t80 => (some (t77, t80))))) else (none)) else (none)))
end
def zI.f (k : Nat) (x0 : List Int) (x1 : List Int) : Option (List Int × List Int) := if 0 ≤ wrap64 ((x1.length : Int) - 1) then (if wrap64 ((x1.length : Int) - 1) < (x1.length : Int) then ((zbE.f k (rd x1 (wrap64 ((x1.length : Int) - 1)))).bind fun t58 => ((zae.f k x1 t58).bind fun t59 => ((zae.f k x0 t58).bind fun t60 => (zI.l0 k x0 t58 t59 t60)))) else (none)) else (none)
def za9.f (k : Nat) (x0 : List Int) (x1 : List Int) : Option (List Int × List Int × Int) := (zH.f k [x0, x1]).bind fun t45 => (if (!t45) = true then (some (([] : List Int), ([] : List Int), 2)) else (if (x1.length : Int) = 0 then (some (([] : List Int), ([] : List Int), 11)) else ((z7.f k x0 x1).bind fun t46 => (if t46 < 0 then (if x0.length < 35184372088832 then (some (([] : List Int), x0, 0)) else (none)) else (if (x1.length : Int) = 1 then (if 0 < (x1.length : Int) then ((zaz.f k x0 (rd x1 0)).bind fun t49 => ((zh.f k ([t49.2] : List Int)).bind fun t50 => (some (t49.1, t50, 0)))) else (none)) else ((zI.f k x0 x1).bind fun t81 => (some (t81.1, t81.2, 0))))))))
def zbJ.f (x0_0 : Int) (x0_1 : Int) : Option (Bool) := if x0_1 = 5 then (some true) else (some (decide (x0_1 = 239)))
def zcd.f (x0 : Int) : Option (Bool) := if (-16777216) ≤ x0 then (some (decide (x0 ≤ 16777216))) else (some false)
def zaV.f (x0_0 : Bool) (x0_1 : List Int) (x0_2 : Int) : Option (Bool) := (zac.f x0_1).bind fun t100 => (if (!t100) = true then (some false) else (if (x0_1.length : Int) = 0 then (if (!x0_0) = true then (some (decide (x0_2 = 0))) else (some false)) else (if 0 < (x0_1.length : Int) then (if (Go.bits .and .u32 (rd x0_1 0) 1) = 1 then ((zcd.f x0_2).bind fun t101 => (some t101)) else (some false)) else (none))))
def zai.l0 : Nat → List (Bool × List Int × Int) → Int → Int → Option (Bool)
 | 0, _, _, _ => none
 | k + 1, x5, x6, x7 => if x7 < x6 then (if 0 ≤ x7 then (if x7 < (x5.length : Int) then ((zaV.f ((rdT [.b, .is .u32, .i .i64] x5 x7).1) ((rdT [.b, .is .u32, .i .i64] x5 x7).2.1) ((rdT [.b, .is .u32, .i .i64] x5 x7).2.2)).bind fun t102 => (if (!t102) = true then (some false) else (zai.l0 k x5 x6 (wrap64 (x7 + 1))))) else (none)) else (none)) else (some true)
def zai.f (k : Nat) (x0 : List (Bool × List Int × Int)) : Option (Bool) := zai.l0 k x0 (x0.length : Int) 0
def zaL.f (x0_0 : Bool) (x0_1 : List Int) (x0_2 : Int) : Option (Bool × List Int × Int) := if x0_1.length < 35184372088832 then (some (x0_0, x0_1, x0_2)) else (none)
mutual
def zM.l0 : Nat → List Int → List Int → List Int → Int → Int → Int → Option (List Int)
 | 0, _, _, _, _, _, _ => none
 | k + 1, x0, x1, x5, x6, x13, x14 => if x14 < x13 then (if x14 < (x1.length : Int) then (if 0 ≤ x14 then (if x14 < (x1.length : Int) then (zM.j1 k x0 x1 x5 x6 x14 (rd x1 x14) x13 x14) else (none)) else (none)) else (zM.j1 k x0 x1 x5 x6 x14 0 x13 x14)) else ((zh.f k x5).bind fun t118 => (some t118))
def zM.j1 : Nat → List Int → List Int → List Int → Int → Int → Int → Int → Int → Option (List Int)
 | 0, _, _, _, _, _, _, _, _ => none
 | k + 1, x0, x1, x5, x6, x7, x8, x13, x14 => if 0 ≤ x7 then (if x7 < (x0.length : Int) then ((zaQ.f (rd x0 x7) x8 x6).bind fun t117 => (if 0 ≤ x7 then (if x7 < (x5.length : Int) then (zM.l0 k x0 x1 (x5.set (x7 : Int).toNat t117.1) t117.2 x13 (wrap64 (x14 + 1))) else (none)) else (none))) else (none)) else (none)
end
def zM.f (k : Nat) (x0 : List Int) (x1 : List Int) : Option (List Int) := if 0 ≤ (x0.length : Int) then (if ((x0.length : Int) : Int).toNat ≤ 70368744177664 then (zM.l0 k x0 x1 (List.replicate ((x0.length : Int) : Int).toNat (0 : Int)) 0 (x0.length : Int) 0) else (none)) else (none)
def zaZ.f (k : Nat) (x0 : List Int) (x1 : List Int) : Option (List Int × Int) := (zH.f k [x0, x1]).bind fun t112 => (if (!t112) = true then (some (([] : List Int), 2)) else ((z7.f k x0 x1).bind fun t113 => (if t113 < 0 then (some (([] : List Int), 10)) else ((zM.f k x0 x1).bind fun t119 => (some (t119, 0))))))
def zal.f (x0 : List Int) : Option (List Int × Int) := if (x0.length : Int) > 4096 then (some (([] : List Int), 3)) else (some (x0, 0))
mutual
def zp.l0 : Nat → List Int → List Int → List Int → Int → Int → Int → Option (List Int × Int)
 | 0, _, _, _, _, _, _ => none
 | k + 1, x0, x1, x6, x7, x27, x28 => if x28 < x27 then (if x28 < (x1.length : Int) then (if 0 ≤ x28 then (if x28 < (x1.length : Int) then (zp.j3 k x0 x1 x6 x7 x28 (rd x1 x28) x27 x28) else (none)) else (none)) else (zp.j3 k x0 x1 x6 x7 x28 0 x27 x28)) else (if 0 ≤ (x0.length : Int) then (if (x0.length : Int) < (x6.length : Int) then ((zh.f k (x6.set ((x0.length : Int) : Int).toNat x7)).bind fun t135 => ((zal.f t135).bind fun t136 => (some (t136.1, t136.2)))) else (none)) else (none))
def zp.j1 : Nat → List Int → List Int → Option (List Int × Int)
 | 0, _, _ => none
 | k + 1, x0, x1 => if 0 ≤ (wrap64 ((x0.length : Int) + 1)) then (if (wrap64 ((x0.length : Int) + 1) : Int).toNat ≤ 70368744177664 then (zp.l0 k x0 x1 (List.replicate (wrap64 ((x0.length : Int) + 1) : Int).toNat (0 : Int)) 0 (x0.length : Int) 0) else (none)) else (none)
def zp.j3 : Nat → List Int → List Int → List Int → Int → Int → Int → Int → Int → Option (List Int × Int)
 | 0, _, _, _, _, _, _, _, _ => none
 | k + 1, x0, x1, x6, x7, x8, x9, x27, x28 => if 0 ≤ x8 then (if x8 < (x0.length : Int) then ((za6.f (rd x0 x8) x9 x7).bind fun t134 => (if 0 ≤ x8 then (if x8 < (x6.length : Int) then (zp.l0 k x0 x1 (x6.set (x8 : Int).toNat t134.1) t134.2 x27 (wrap64 (x28 + 1))) else (none)) else (none))) else (none)) else (none)
end
def zp.f (k : Nat) (x0 : List Int) (x1 : List Int) : Option (List Int × Int) := (zH.f k [x0, x1]).bind fun t133 => (if (!t133) = true then (some (([] : List Int), 2)) else (if (x0.length : Int) < (x1.length : Int) then (zp.j1 k x1 x0) else (zp.j1 k x0 x1)))
def zcD.f (k : Nat) (x0_0 : Bool) (x0_1 : List Int) (x0_2 : Int) (x1_0 : Bool) (x1_1 : List Int) (x1_2 : Int) (x2 : Int) : Option (Bool × List Int × Int × Int) := if (x0_0) = (x1_0) then (some (false, ([] : List Int), 0, 3)) else ((zP.f k x0_1 (wrap64 (x2 - 1))).bind fun t110 => ((zP.f k x1_1 (-1)).bind fun t111 => ((zaZ.f k t110.1 t111.1).bind fun t120 => (if ¬ (t120.2 = 0) then (some (false, ([] : List Int), 0, 3)) else ((zp.f k t120.1 t120.1).bind fun t137 => (if t137.2 = 0 then ((zY.f k 1).bind fun t138 => ((zaZ.f k t137.1 t138).bind fun t139 => ((zC.f k x0_0 t139.1 x1_2).bind fun t140 => (some (t140.1, t140.2.1, t140.2.2.1, t140.2.2.2))))) else ((zay.f k t120.1).bind fun t141 => ((z6.f k t120.1).bind fun t142 => (if t141 = (wrap64 (t142 + 1)) then ((zY.f k 1).bind fun t143 => ((zaZ.f k t120.1 t143).bind fun t144 => ((zp.f k t144.1 t120.1).bind fun t145 => ((zC.f k x0_0 t145.1 x1_2).bind fun t146 => (some (t146.1, t146.2.1, t146.2.2.1, t146.2.2.2)))))) else (some (false, ([] : List Int), 0, 3)))))))))))
def zbj.j1 : Nat → Bool → Int → Bool → List Int → Int → List Int → Option (Bool × List Int × Int × Int)
 | 0, _, _, _, _, _, _ => none
 | k + 1, x0, x3, x8_0, x8_1, x8_2, x16 => (zC.f k x0 x16 (wrap64 (x3 + 1))).bind fun t160 => (some (t160.1, t160.2.1, t160.2.2.1, t160.2.2.2))
def zbj.f (k : Nat) (x0 : Bool) (x1 : List Int) (x2 : List Int) (x3 : Int) : Option (Bool × List Int × Int × Int) := if 0 < (x1.length : Int) then (if 0 < (x2.length : Int) then (if ¬ (Go.bits .and .u32 (rd x1 0) 1 = Go.bits .and .u32 (rd x2 0) 1) then (some (false, ([] : List Int), 0, 3)) else ((zP.f k x1 (-1)).bind fun t155 => ((zP.f k x2 (-1)).bind fun t156 => ((zp.f k t155.1 t156.1).bind fun t157 => (if 0 < (x1.length : Int) then (if (Go.bits .and .u32 (rd x1 0) 1) = 1 then ((zY.f k 1).bind fun t158 => ((zp.f k t157.1 t158).bind fun t159 => (zbj.j1 k x0 x3 false ([] : List Int) 0 t159.1))) else (zbj.j1 k x0 x3 false ([] : List Int) 0 t157.1)) else (none)))))) else (none)) else (none)
def zbT.f (k : Nat) (x0 : List Int) (x1 : List Int) : Option (Int × Int) := (zH.f k [x0, x1]).bind fun t163 => (if (!t163) = true then (some (0, 2)) else ((z7.f k x0 x1).bind fun t164 => (some (t164, 0))))
def zaI.j2 : Nat → Bool → List Int → List Int → Int → Bool → List Int → Int → Option (Bool × List Int × Int × Int)
 | 0, _, _, _, _, _, _, _ => none
 | k + 1, x0, x1, x3, x4, x10_0, x10_1, x10_2 => (zaZ.f k x1 x3).bind fun t170 => ((zC.f k x0 t170.1 x4).bind fun t171 => (some (t171.1, t171.2.1, t171.2.2.1, t171.2.2.2)))
def zaI.f (k : Nat) (x0 : Bool) (x1 : List Int) (x2 : Bool) (x3 : List Int) (x4 : Int) : Option (Bool × List Int × Int × Int) := if (x0) = (x2) then ((zp.f k x1 x3).bind fun t166 => (if ¬ (t166.2 = 0) then ((zbj.f k x0 x1 x3 x4).bind fun t167 => (some (t167.1, t167.2.1, t167.2.2.1, t167.2.2.2))) else ((zC.f k x0 t166.1 x4).bind fun t168 => (some (t168.1, t168.2.1, t168.2.2.1, t168.2.2.2))))) else ((zbT.f k x1 x3).bind fun t169 => (if t169.1 < 0 then (zaI.j2 k x2 x3 x1 x4 false ([] : List Int) 0) else (zaI.j2 k x0 x1 x3 x4 false ([] : List Int) 0)))
def zaH.j1 : Nat → Bool → List Int → Int → Bool → List Int → Int → Bool → List Int → Int → Option (Bool × List Int × Int × Int)
 | 0, _, _, _, _, _, _, _, _, _ => none
 | k + 1, x2_0, x2_1, x2_2, x3_0, x3_1, x3_2, x4_0, x4_1, x4_2 => (zay.f k x2_1).bind fun t108 => (if (wrap64 ((wrap64 (x2_2 - x3_2)) + t108)) > 131073 then (some (false, ([] : List Int), 0, 3)) else ((zay.f k x2_1).bind fun t109 => (if (wrap64 ((wrap64 (x2_2 - x3_2)) + t109)) > 131072 then ((zcD.f k x2_0 x2_1 x2_2 x3_0 x3_1 x3_2 (wrap64 (x2_2 - x3_2))).bind fun t147 => (some (t147.1, t147.2.1, t147.2.2.1, t147.2.2.2))) else ((zP.f k x2_1 (wrap64 (x2_2 - x3_2))).bind fun t148 => ((zaI.f k x2_0 t148.1 x3_0 x3_1 x3_2).bind fun t172 => (some (t172.1, t172.2.1, t172.2.2.1, t172.2.2.2)))))))
def zaH.f (k : Nat) (x0_0 : Bool) (x0_1 : List Int) (x0_2 : Int) (x1_0 : Bool) (x1_1 : List Int) (x1_2 : Int) : Option (Bool × List Int × Int × Int) := if (x0_1.length : Int) = 0 then ((zaL.f x1_0 x1_1 x1_2).bind fun t106 => (some (t106.1, t106.2.1, t106.2.2, 0))) else (if (x1_1.length : Int) = 0 then ((zaL.f x0_0 x0_1 x0_2).bind fun t107 => (some (t107.1, t107.2.1, t107.2.2, 0))) else (if x0_2 < x1_2 then (zaH.j1 k x1_0 x1_1 x1_2 x0_0 x0_1 x0_2 false ([] : List Int) 0) else (zaH.j1 k x0_0 x0_1 x0_2 x1_0 x1_1 x1_2 false ([] : List Int) 0)))
def za7.f (k : Nat) (x0_0 : Bool) (x0_1 : List Int) (x0_2 : Int) (x1_0 : Bool) (x1_1 : List Int) (x1_2 : Int) : Option (Bool × List Int × Int × Int) := (zai.f k [(x0_0, x0_1, x0_2), (x1_0, x1_1, x1_2)]).bind fun t103 => (if (!t103) = true then (some (false, ([] : List Int), 0, 2)) else ((zaH.f k x0_0 x0_1 x0_2 x1_0 x1_1 x1_2).bind fun t173 => (some (t173.1, t173.2.1, t173.2.2.1, t173.2.2.2))))
mutual
def zF.l0 : Nat → Int → Int → Bool → List Int → Int → List Int → Bool → List Int → Int → Int → Option (Bool × List Int × Int)
 | 0, _, _, _, _, _, _, _, _, _, _ => none
 | k + 1, x2_0, x2_1, x4_0, x4_1, x4_2, x8, x11_0, x11_1, x11_2, x12 => if (x8.length : Int) > 0 then ((zY.f k x12).bind fun t208 => ((za9.f k x8 t208).bind fun t209 => ((zbJ.f x2_0 x2_1).bind fun t210 => (if t210 = true then ((zC.f k (decide (¬ (Go.bits .and .u64 x12 2 = 0))) t209.1 0).bind fun t211 => (zF.j1 k x2_0 x2_1 x4_0 x4_1 x4_2 x8 x11_0 x11_1 x11_2 x12 t211.1 t211.2.1 t211.2.2.1)) else ((zC.f k false t209.1 0).bind fun t212 => (zF.j1 k x2_0 x2_1 x4_0 x4_1 x4_2 x8 x11_0 x11_1 x11_2 x12 t212.1 t212.2.1 t212.2.2.1)))))) else (some (x11_0, x11_1, x11_2))
def zF.j1 : Nat → Int → Int → Bool → List Int → Int → List Int → Bool → List Int → Int → Int → Bool → List Int → Int → Option (Bool × List Int × Int)
 | 0, _, _, _, _, _, _, _, _, _, _, _, _, _ => none
 | k + 1, x2_0, x2_1, x4_0, x4_1, x4_2, x8, x11_0, x11_1, x11_2, x12, x16_0, x16_1, x16_2 => (za7.f k x11_0 x11_1 x11_2 x16_0 x16_1 x16_2).bind fun t205 => ((zY.f k (IntKind.u64.wrap (x2_1 * x2_1))).bind fun t206 => ((za9.f k x8 t206).bind fun t207 => (zF.l0 k x2_0 x2_1 x4_0 x4_1 x4_2 t207.1 t205.1 t205.2.1 t205.2.2.1 (IntKind.u64.wrap (x12 + 2)))))
end
def zF.f (k : Nat) (x0_0 : Int) (x0_1 : Int) (x1 : Int) : Option (Bool × List Int × Int) := (zY.f k 1).bind fun t201 => ((zP.f k t201 x1).bind fun t202 => ((zY.f k x0_1).bind fun t203 => ((za9.f k t202.1 t203).bind fun t204 => (zF.l0 k x0_0 x0_1 false ([] : List Int) 0 t204.1 false ([] : List Int) 0 1))))
mutual
def zy.l0 : Nat → List Int → List Int → List Int → Int → Int → Option (List Int)
 | 0, _, _, _, _, _ => none
 | k + 1, x1, x5, x18, x19, x20 => if x20 < x19 then (if 0 ≤ x20 then (if x20 < (x18.length : Int) then (zy.l1 k x1 x5 x20 (rd x18 x20) 0 x18 x19 x20 x1 (x1.length : Int) 0) else (none)) else (none)) else ((zh.f k x5).bind fun t218 => (some t218))
def zy.l1 : Nat → List Int → List Int → Int → Int → Int → List Int → Int → Int → List Int → Int → Int → Option (List Int)
 | 0, _, _, _, _, _, _, _, _, _, _, _ => none
 | k + 1, x1, x5, x6, x7, x8, x18, x19, x20, x25, x26, x27 => if x27 < x26 then (if 0 ≤ x27 then (if x27 < (x25.length : Int) then (if 0 ≤ wrap64 (x6 + x27) then (if wrap64 (x6 + x27) < (x5.length : Int) then (if 0 ≤ wrap64 (x6 + x27) then (if wrap64 (x6 + x27) < (x5.length : Int) then (zy.l1 k x1 (x5.set (wrap64 (x6 + x27) : Int).toNat ((IntKind.u64.wrap ((IntKind.u64.wrap ((IntKind.u64.wrap ((IntKind.u64.wrap x7) * (IntKind.u64.wrap (rd x25 x27)))) + (IntKind.u64.wrap (rd x5 (wrap64 (x6 + x27)))))) + x8)) % 4294967296)) x6 x7 ((IntKind.u64.wrap ((IntKind.u64.wrap ((IntKind.u64.wrap ((IntKind.u64.wrap x7) * (IntKind.u64.wrap (rd x25 x27)))) + (IntKind.u64.wrap (rd x5 (wrap64 (x6 + x27)))))) + x8)) / 4294967296) x18 x19 x20 x25 x26 (wrap64 (x27 + 1))) else (none)) else (none)) else (none)) else (none)) else (none)) else (none)) else (if 0 ≤ wrap64 (x6 + (x1.length : Int)) then (if wrap64 (x6 + (x1.length : Int)) < (x5.length : Int) then (zy.l0 k x1 (x5.set (wrap64 (x6 + (x1.length : Int)) : Int).toNat (x8 % 4294967296)) x18 x19 (wrap64 (x20 + 1))) else (none)) else (none))
end
def zy.f (k : Nat) (x0 : List Int) (x1 : List Int) : Option (List Int) := if 0 ≤ (wrap64 ((x0.length : Int) + (x1.length : Int))) then (if (wrap64 ((x0.length : Int) + (x1.length : Int)) : Int).toNat ≤ 70368744177664 then (zy.l0 k x1 (List.replicate (wrap64 ((x0.length : Int) + (x1.length : Int)) : Int).toNat (0 : Int)) x0 (x0.length : Int) 0) else (none)) else (none)
def zbU.f (k : Nat) (x0 : List Int) (x1 : List Int) : Option (List Int × Int) := (zH.f k [x0, x1]).bind fun t225 => (if (!t225) = true then (some (([] : List Int), 2)) else (if (x0.length : Int) > 0 then (if (x1.length : Int) > 0 then (if (wrap64 ((wrap64 ((x0.length : Int) + (x1.length : Int))) - 1)) > 4096 then (some (([] : List Int), 3)) else ((zy.f k x0 x1).bind fun t226 => ((zal.f t226).bind fun t227 => (some (t227.1, t227.2))))) else ((zy.f k x0 x1).bind fun t228 => ((zal.f t228).bind fun t229 => (some (t229.1, t229.2))))) else ((zy.f k x0 x1).bind fun t230 => ((zal.f t230).bind fun t231 => (some (t231.1, t231.2))))))
def zbp.f (k : Nat) (x0_0 : Bool) (x0_1 : List Int) (x0_2 : Int) (x1_0 : Bool) (x1_1 : List Int) (x1_2 : Int) : Option (Bool × List Int × Int × Int) := (zai.f k [(x0_0, x0_1, x0_2), (x1_0, x1_1, x1_2)]).bind fun t214 => (if (!t214) = true then (some (false, ([] : List Int), 0, 2)) else ((zbU.f k x0_1 x1_1).bind fun t232 => (if ¬ (t232.2 = 0) then (some (false, ([] : List Int), 0, t232.2)) else ((zC.f k (decide (¬ ((x0_0) = (x1_0)))) t232.1 (wrap64 (x0_2 + x1_2))).bind fun t233 => (some (t233.1, t233.2.1, t233.2.2.1, t233.2.2.2))))))
def zbM.f (x0_0 : Bool) (x0_1 : List Int) (x0_2 : Int) (x1 : Int) : Option (Bool × List Int × Int × Int) := (zaV.f x0_0 x0_1 x0_2).bind fun t243 => (if (!t243) = true then (some (false, ([] : List Int), 0, 2)) else (if (x0_1.length : Int) = 0 then (some (false, ([] : List Int), 0, 0)) else (if x1 > (wrap64 (16777216 - x0_2)) then (some (false, ([] : List Int), 0, 20)) else (if x1 < (wrap64 ((-16777216) - x0_2)) then (some (false, ([] : List Int), 0, 20)) else ((zaL.f x0_0 x0_1 x0_2).bind fun t244 => (some (t244.1, t244.2.1, wrap64 (t244.2.2 + x1), 0)))))))
def zE.l0 : Nat → Int → Bool → List Int → Int → Bool → List Int → Int → List (Int × Int) → Int → Int → Option (Bool × List Int × Int)
 | 0, _, _, _, _, _, _, _, _, _, _ => none
 | k + 1, x0, x4_0, x4_1, x4_2, x5_0, x5_1, x5_2, x11, x12, x13 => if x13 < x12 then (if 0 ≤ x13 then (if x13 < (x11.length : Int) then ((zaG.f k ((rdT [.i .i64, .i .u64] x11 x13).1)).bind fun t40 => ((zF.f k ((rdT [.i .i64, .i .u64] x11 x13).1) ((rdT [.i .i64, .i .u64] x11 x13).2) x0).bind fun t213 => ((zbp.f k t40.1 t40.2.1 t40.2.2 t213.1 t213.2.1 t213.2.2).bind fun t234 => ((za7.f k x5_0 x5_1 x5_2 t234.1 t234.2.1 t234.2.2.1).bind fun t235 => (zE.l0 k x0 x4_0 x4_1 x4_2 t235.1 t235.2.1 t235.2.2.1 x11 x12 (wrap64 (x13 + 1))))))) else (none)) else (none)) else ((zbM.f x5_0 x5_1 x5_2 (wrap64 (-x0))).bind fun t245 => (some (t245.1, t245.2.1, t245.2.2.1)))
def zE.f (k : Nat) (x0 : Int) (x1 : List (Int × Int)) : Option (Bool × List Int × Int) := zE.l0 k x0 false ([] : List Int) 0 false ([] : List Int) 0 x1 (x1.length : Int) 0
def zz.f (k : Nat) (d s z : Int) (p0 : Bool) (p1 : List Int) (p2 : Int) (q0 : Bool) (q1 : List Int) (q2 : Int) : Option (Int × Int × Int × Bool × List Int × Int × Bool × List Int × Int) :=
 if d = 0 then (if s = 0 then ((zE.f k 8320 [(16, 5), ((-4), 239)]).bind fun P => (zE.f k 8320 [(18, 26), ((-2), 4801), (8, 8749)]).bind fun Q => some (1, 0, z, P.1, P.2.1, P.2.2, Q.1, Q.2.1, Q.2.2)) else none) else some (d, s, z, p0, p1, p2, q0, q1, q2)
abbrev zz.S : Sig := { ps := [.bb [.i .u32, .i .i32, .i .u32, .b, .is .u32, .i .i64, .b, .is .u32, .i .i64]], rs := [], wb := [.i .u32, .i .i32, .i .u32, .b, .is .u32, .i .i64, .b, .is .u32, .i .i64], R := Int × Int × Int × Bool × List Int × Int × Bool × List Int × Int, mkR := fun y0 y1 y2 y3 y4 y5 y6 y7 y8 => some (y0, y1, y2, y3, y4, y5, y6, y7, y8), un := fun r => [.int .u32 r.1, .int .i32 r.2.1, .int .u32 r.2.2.1, .bool r.2.2.2.1, .ints .u32 r.2.2.2.2.1, .int .i64 r.2.2.2.2.2.1, .bool r.2.2.2.2.2.2.1, .ints .u32 r.2.2.2.2.2.2.2.1, .int .i64 r.2.2.2.2.2.2.2.2] }
def zz.F (k : Nat) : Fun := { S := zz.S, f := zz.f k }
def zaW.f (x0 : Int) : Option (Int) := if x0 < 1 then (some 2) else (if x0 > 8192 then (some 3) else (some 0))
def zbq.f (k : Nat) (x0_0 : Bool) (x0_1 : List Int) (x0_2 : Int) (x1 : Int) : Option (Bool × List Int × Int × Bool × Int) := (zay.f k x0_1).bind fun t249 => (if (wrap64 (t249 - x1)) ≤ 0 then ((zaL.f x0_0 x0_1 x0_2).bind fun t250 => (some (t250.1, t250.2.1, t250.2.2, false, 0))) else ((zP.f k x0_1 (wrap64 (-(wrap64 (t249 - x1))))).bind fun t251 => ((zC.f k x0_0 t251.1 (wrap64 (x0_2 + (wrap64 (t249 - x1))))).bind fun t252 => (some (t252.1, t252.2.1, t252.2.2.1, decide (t252.2.2.2 = 0), t252.2.2.2)))))
def zaw.f (k : Nat) (x0_0 : Bool) (x0_1 : List Int) (x0_2 : Int) (x1 : Int) : Option (Bool × List Int × Int × Bool × Int) := (zaV.f x0_0 x0_1 x0_2).bind fun t247 => (if (!t247) = true then (some (false, ([] : List Int), 0, false, 2)) else ((zaW.f x1).bind fun t248 => (if ¬ (t248 = 0) then (some (false, ([] : List Int), 0, false, t248)) else ((zbq.f k x0_0 x0_1 x0_2 x1).bind fun t253 => (some (t253.1, t253.2.1, t253.2.2.1, t253.2.2.2.1, t253.2.2.2.2))))))
def zbc.f (k : Nat) (x0_0 : Int) (x0_1 : Int) (x0_2 : Int) (x0_3 : Bool) (x0_4 : List Int) (x0_5 : Int) (x0_6 : Bool) (x0_7 : List Int) (x0_8 : Int) (x1 : Int) : Option (Bool × List Int × Int × Int × Int × Int × Int × Bool × List Int × Int × Bool × List Int × Int) := (zz.f k x0_0 x0_1 x0_2 x0_3 x0_4 x0_5 x0_6 x0_7 x0_8).bind fun t246 => ((zaw.f k t246.2.2.2.1 t246.2.2.2.2.1 t246.2.2.2.2.2.1 x1).bind fun t254 => (some (t254.1, t254.2.1, t254.2.2.1, t254.2.2.2.2, t246.1, t246.2.1, t246.2.2.1, t246.2.2.2.1, t246.2.2.2.2.1, t246.2.2.2.2.2.1, t246.2.2.2.2.2.2.1, t246.2.2.2.2.2.2.2.1, t246.2.2.2.2.2.2.2.2)))
def zeo.f (x1 : Int) : Option (Bool × List Int × Int × Int) := some (false, ([] : List Int), 0, 1)
def zbH.f (k : Nat) (x0_0 : Int) (x0_1 : Int) (x0_2 : Int) (x0_3 : Bool) (x0_4 : List Int) (x0_5 : Int) (x0_6 : Bool) (x0_7 : List Int) (x0_8 : Int) (x1 : Int) : Option (Bool × List Int × Int × Int × Int × Int × Int × Bool × List Int × Int × Bool × List Int × Int) := (zz.f k x0_0 x0_1 x0_2 x0_3 x0_4 x0_5 x0_6 x0_7 x0_8).bind fun t256 => ((zaw.f k t256.2.2.2.2.2.2.1 t256.2.2.2.2.2.2.2.1 t256.2.2.2.2.2.2.2.2 x1).bind fun t257 => (some (t257.1, t257.2.1, t257.2.2.1, t257.2.2.2.2, t256.1, t256.2.1, t256.2.2.1, t256.2.2.2.1, t256.2.2.2.2.1, t256.2.2.2.2.2.1, t256.2.2.2.2.2.2.1, t256.2.2.2.2.2.2.2.1, t256.2.2.2.2.2.2.2.2)))
def zen.f (x1 : Int) : Option (Bool × List Int × Int × Int) := some (false, ([] : List Int), 0, 1)
def zm.l0 : Nat → List Int → Int → Option (List Int)
 | 0, _, _ => none
 | k + 1, x0, x3 => if x3 > 0 then (if 0 ≤ wrap64 (x3 - 1) then (if wrap64 (x3 - 1) < (x0.length : Int) then (if (rd x0 (wrap64 (x3 - 1))) = 0 then (zm.l0 k x0 (wrap64 (x3 - 1))) else (if 0 ≤ x3 then (if x3 ≤ (x0.length : Int) then (some (x0.take (x3 : Int).toNat)) else (none)) else (none))) else (none)) else (none)) else (if 0 ≤ x3 then (if x3 ≤ (x0.length : Int) then (some (x0.take (x3 : Int).toNat)) else (none)) else (none))
def zm.f (k : Nat) (x0 : List Int) : Option (List Int) := zm.l0 k x0 (x0.length : Int)
def zU.f (k : Nat) (x0 : Int) : Option (List Int) := (zm.f k ([x0 % 4294967296, (x0 / 4294967296) % 4294967296] : List Int)).bind fun t259 => (some t259)
def zbd.f (x0 : List Int) (x1 : Int) : Option (Int) := if x1 < 0 then (some 0) else (if (wrap64 (Int.tdiv x1 32)) ≥ (x0.length : Int) then (some 0) else (if 0 ≤ wrap64 (Int.tdiv x1 32) then (if wrap64 (Int.tdiv x1 32) < (x0.length : Int) then (if 0 ≤ (Int.tmod x1 32) then (some (Go.bits .and .u32 (shr .u32 (rd x0 (wrap64 (Int.tdiv x1 32))) (Int.tmod x1 32)) 1)) else (none)) else (none)) else (none)))
def zG.l0 : Nat → List Int → Int → Option (Int)
 | 0, _, _ => none
 | k + 1, x0, x3 => if x3 < (wrap64 (32 * (x0.length : Int))) then ((zbd.f x0 x3).bind fun t265 => (if t265 = 0 then (if 0 ≤ wrap64 (Int.tdiv x3 32) then (if wrap64 (Int.tdiv x3 32) < (x0.length : Int) then (if (rd x0 (wrap64 (Int.tdiv x3 32))) = 0 then (zG.l0 k x0 (wrap64 (x3 + 32))) else (zG.l0 k x0 (wrap64 (x3 + 1)))) else (none)) else (none)) else (if x3 = (wrap64 (32 * (x0.length : Int))) then (some 0) else (some x3)))) else (if x3 = (wrap64 (32 * (x0.length : Int))) then (some 0) else (some x3))
def zG.f (k : Nat) (x0 : List Int) : Option (Int) := zG.l0 k x0 0
def z5.l0 : Nat → Int → Int → Option (Int)
 | 0, _, _ => none
 | k + 1, x3, x4 => if x4 > 0 then (z5.l0 k (wrap64 (x3 + 1)) (x4 / 2)) else (some x3)
def z5.f (k : Nat) (x0 : List Int) : Option (Int) := if (x0.length : Int) = 0 then (some 0) else (if 0 ≤ wrap64 ((x0.length : Int) - 1) then (if wrap64 ((x0.length : Int) - 1) < (x0.length : Int) then (z5.l0 k (wrap64 (32 * (wrap64 ((x0.length : Int) - 1)))) (rd x0 (wrap64 ((x0.length : Int) - 1)))) else (none)) else (none))
def zT.l0 : Nat → List Int → Bool → List Int → Int → Int → Option (List Int × Bool)
 | 0, _, _, _, _, _ => none
 | k + 1, x0, x6, x7, x8, x9 => if x9 < (x0.length : Int) then (if 0 ≤ x9 then (if x9 < (x0.length : Int) then (if 0 ≤ x8 then (if (wrap64 (x9 + 1)) < (x0.length : Int) then (if 0 ≤ wrap64 (x9 + 1) then (if wrap64 (x9 + 1) < (x0.length : Int) then (if 0 ≤ (wrap64 (32 - x8)) then (if x7.length + ([(Go.bits .or .u64 (shr .u64 (IntKind.u64.wrap (rd x0 x9)) x8) (shl .u64 (IntKind.u64.wrap (rd x0 (wrap64 (x9 + 1)))) (wrap64 (32 - x8)))) % 4294967296] : List Int).length < 35184372088832 then (zT.l0 k x0 x6 (x7 ++ ([(Go.bits .or .u64 (shr .u64 (IntKind.u64.wrap (rd x0 x9)) x8) (shl .u64 (IntKind.u64.wrap (rd x0 (wrap64 (x9 + 1)))) (wrap64 (32 - x8)))) % 4294967296] : List Int)) x8 (wrap64 (x9 + 1))) else (none)) else (none)) else (none)) else (none)) else (if x7.length + ([(shr .u64 (IntKind.u64.wrap (rd x0 x9)) x8) % 4294967296] : List Int).length < 35184372088832 then (zT.l0 k x0 x6 (x7 ++ ([(shr .u64 (IntKind.u64.wrap (rd x0 x9)) x8) % 4294967296] : List Int)) x8 (wrap64 (x9 + 1))) else (none))) else (none)) else (none)) else (none)) else ((zm.f k x7).bind fun t293 => (some (t293, x6)))
def zT.f (k : Nat) (x0 : List Int) (x1 : Int) : Option (List Int × Bool) := (z5.f k x0).bind fun t291 => (if x1 ≥ t291 then (some (([] : List Int), decide ((x0.length : Int) > 0))) else ((zG.f k x0).bind fun t292 => (zT.l0 k x0 (decide (x1 > t292)) ([] : List Int) (Int.tmod x1 32) (wrap64 (Int.tdiv x1 32)))))
def zW.f (k : Nat) (x0 : Bool) (x1 : List Int) (x2 : Int) : Option (Bool × List Int × Int) := if (x1.length : Int) = 0 then (some (false, ([] : List Int), 0)) else ((zG.f k x1).bind fun t266 => ((zT.f k x1 t266).bind fun t294 => (some (x0, t294.1, wrap64 (x2 + t266)))))
def zah.j0 : Nat → Int → Bool → List Int → Int → Int → Option (Bool × List Int × Int)
 | 0, _, _, _, _, _ => none
 | k + 1, x0, x2_0, x2_1, x2_2, x3 => (zU.f k x3).bind fun t260 => ((zW.f k (decide (x0 < 0)) t260 0).bind fun t295 => (some (t295.1, t295.2.1, t295.2.2)))
def zah.f (k : Nat) (x0 : Int) : Option (Bool × List Int × Int) := if x0 < 0 then (zah.j0 k x0 false ([] : List Int) 0 (IntKind.u64.wrap (-(IntKind.u64.wrap x0)))) else (zah.j0 k x0 false ([] : List Int) 0 (IntKind.u64.wrap x0))
def zau.l0 : Nat → List Int → List Int → Int → Option (Bool)
 | 0, _, _, _ => none
 | k + 1, x0, x1, x5 => if x5 < (x0.length : Int) then (if 0 ≤ x5 then (if x5 < (x0.length : Int) then (if 0 ≤ x5 then (if x5 < (x1.length : Int) then (if ¬ (rd x0 x5 = rd x1 x5) then (some false) else (zau.l0 k x0 x1 (wrap64 (x5 + 1)))) else (none)) else (none)) else (none)) else (none)) else (some true)
def zau.f (k : Nat) (x0 : List Int) (x1 : List Int) : Option (Bool) := if ¬ ((x0.length : Int) = (x1.length : Int)) then (some false) else (zau.l0 k x0 x1 0)
def zbf.f (k : Nat) (x0_0 : Bool) (x0_1 : List Int) (x0_2 : Int) (x1_0 : Bool) (x1_1 : List Int) (x1_2 : Int) : Option (Bool) := if (x0_0) = (x1_0) then (if x0_2 = x1_2 then ((zau.f k x0_1 x1_1).bind fun t299 => (some t299)) else (some false)) else (some false)
def zbh.f (x0 : Int) : Option (Bool × List Int × Int) := some (false, ([1] : List Int), x0)
def zaS.f (k : Nat) : Option (Bool) := (zbI.f).bind fun t310 => ((zbc.f k t310.1 t310.2.1 t310.2.2.1 t310.2.2.2.1 t310.2.2.2.2.1 t310.2.2.2.2.2.1 t310.2.2.2.2.2.2.1 t310.2.2.2.2.2.2.2.1 t310.2.2.2.2.2.2.2.2 2).bind fun t311 => ((zbH.f k t311.2.2.2.2.1 t311.2.2.2.2.2.1 t311.2.2.2.2.2.2.1 t311.2.2.2.2.2.2.2.1 t311.2.2.2.2.2.2.2.2.1 t311.2.2.2.2.2.2.2.2.2.1 t311.2.2.2.2.2.2.2.2.2.2.1 t311.2.2.2.2.2.2.2.2.2.2.2.1 t311.2.2.2.2.2.2.2.2.2.2.2.2 1).bind fun t312 => ((zah.f k 3).bind fun t313 => ((zbf.f k t311.1 t311.2.1 t311.2.2.1 t313.1 t313.2.1 t313.2.2).bind fun t314 => (if t314 = true then (if t311.2.2.2.1 = 0 then ((zbh.f (-1)).bind fun t315 => ((zbf.f k t312.1 t312.2.1 t312.2.2.1 t315.1 t315.2.1 t315.2.2).bind fun t316 => (if t316 = true then (some (decide (t312.2.2.2.1 = 0))) else (some false)))) else (some false)) else (some false))))))
mutual
def zi.l0 : Nat → List Int → List Int → List Int → Int → Int → Int → Option (List Int)
 | 0, _, _, _, _, _, _ => none
 | k + 1, x0, x1, x5, x6, x7, x8 => if x8 < (wrap64 ((x0.length : Int) + (x1.length : Int))) then (if x8 ≥ (x1.length : Int) then (zi.j3 k x0 x1 x5 x6 x7 x8 (wrap64 ((wrap64 (x8 - (x1.length : Int))) + 1))) else (zi.j3 k x0 x1 x5 x6 x7 x8 0)) else ((zm.f k x5).bind fun t326 => (some t326))
def zi.l1 : Nat → List Int → List Int → List Int → Int → Int → Int → Int → Option (List Int)
 | 0, _, _, _, _, _, _, _ => none
 | k + 1, x0, x1, x5, x6, x7, x8, x10 => if x10 ≤ x8 then (if x10 < (x0.length : Int) then (if 0 ≤ x10 then (if x10 < (x0.length : Int) then (if 0 ≤ wrap64 (x8 - x10) then (if wrap64 (x8 - x10) < (x1.length : Int) then (if (IntKind.u64.wrap (x6 + (IntKind.u64.wrap ((IntKind.u64.wrap (rd x0 x10)) * (IntKind.u64.wrap (rd x1 (wrap64 (x8 - x10)))))))) < (IntKind.u64.wrap ((IntKind.u64.wrap (rd x0 x10)) * (IntKind.u64.wrap (rd x1 (wrap64 (x8 - x10)))))) then (zi.l1 k x0 x1 x5 (IntKind.u64.wrap (x6 + (IntKind.u64.wrap ((IntKind.u64.wrap (rd x0 x10)) * (IntKind.u64.wrap (rd x1 (wrap64 (x8 - x10)))))))) (IntKind.u64.wrap (x7 + 1)) x8 (wrap64 (x10 + 1))) else (zi.l1 k x0 x1 x5 (IntKind.u64.wrap (x6 + (IntKind.u64.wrap ((IntKind.u64.wrap (rd x0 x10)) * (IntKind.u64.wrap (rd x1 (wrap64 (x8 - x10)))))))) x7 x8 (wrap64 (x10 + 1)))) else (none)) else (none)) else (none)) else (none)) else (if x5.length + ([x6 % 4294967296] : List Int).length < 35184372088832 then (zi.l0 k x0 x1 (x5 ++ ([x6 % 4294967296] : List Int)) (Go.bits .or .u64 (x6 / 4294967296) (IntKind.u64.wrap (x7 * 4294967296))) (x7 / 4294967296) (wrap64 (x8 + 1))) else (none))) else (if x5.length + ([x6 % 4294967296] : List Int).length < 35184372088832 then (zi.l0 k x0 x1 (x5 ++ ([x6 % 4294967296] : List Int)) (Go.bits .or .u64 (x6 / 4294967296) (IntKind.u64.wrap (x7 * 4294967296))) (x7 / 4294967296) (wrap64 (x8 + 1))) else (none))
def zi.j3 : Nat → List Int → List Int → List Int → Int → Int → Int → Int → Option (List Int)
 | 0, _, _, _, _, _, _, _ => none
 | k + 1, x0, x1, x5, x6, x7, x8, x9 => zi.l1 k x0 x1 x5 x6 x7 x8 x9
end
def zi.f (k : Nat) (x0 : List Int) (x1 : List Int) : Option (List Int) := if (x0.length : Int) = 0 then (some ([] : List Int)) else (if (x1.length : Int) = 0 then (some ([] : List Int)) else (zi.l0 k x0 x1 ([] : List Int) 0 0 0))
mutual
def zu.l0 : Nat → Int → List Int → List Int → Option (List Int)
 | 0, _, _, _ => none
 | k + 1, x1, x5, x6 => if x1 > 0 then (if (Int.tmod x1 2) = 1 then ((zi.f k x5 x6).bind fun t340 => (zu.j1 k x1 t340 x6)) else (zu.j1 k x1 x5 x6)) else (some x5)
def zu.j1 : Nat → Int → List Int → List Int → Option (List Int)
 | 0, _, _, _ => none
 | k + 1, x1, x5, x6 => if (wrap64 (Int.tdiv x1 2)) > 0 then ((zi.f k x6 x6).bind fun t339 => (zu.l0 k (wrap64 (Int.tdiv x1 2)) x5 t339)) else (zu.l0 k (wrap64 (Int.tdiv x1 2)) x5 x6)
end
def zu.f (k : Nat) (x0 : Int) (x1 : Int) : Option (List Int) := (zU.f k (IntKind.u64.wrap x0)).bind fun t338 => (zu.l0 k x1 ([1] : List Int) t338)
def zav.l0 : Nat → List Int → Int → List Int → Int → Int → Option (List Int × List Int)
 | 0, _, _, _, _, _ => none
 | k + 1, x0, x1, x6, x7, x8 => if x8 ≥ 0 then (if 0 ≤ x8 then (if x8 < (x0.length : Int) then (if (IntKind.u64.wrap x1) = 0 then (none) else (if 0 ≤ x8 then (if x8 < (x6.length : Int) then (if (IntKind.u64.wrap x1) = 0 then (none) else (zav.l0 k x0 x1 (x6.set (x8 : Int).toNat ((IntKind.u64.wrap (Int.tdiv (Go.bits .or .u64 (IntKind.u64.wrap (x7 * 4294967296)) (IntKind.u64.wrap (rd x0 x8))) (IntKind.u64.wrap x1))) % 4294967296)) (Int.tmod (Go.bits .or .u64 (IntKind.u64.wrap (x7 * 4294967296)) (IntKind.u64.wrap (rd x0 x8))) (IntKind.u64.wrap x1)) (wrap64 (x8 - 1)))) else (none)) else (none))) else (none)) else (none)) else ((zm.f k x6).bind fun t349 => ((zU.f k x7).bind fun t350 => (some (t349, t350))))
def zav.f (k : Nat) (x0 : List Int) (x1 : Int) : Option (List Int × List Int) := if 0 ≤ (x0.length : Int) then (if ((x0.length : Int) : Int).toNat ≤ 70368744177664 then (zav.l0 k x0 x1 (List.replicate ((x0.length : Int) : Int).toNat (0 : Int)) 0 (wrap64 ((x0.length : Int) - 1))) else (none)) else (none)
def zaa.l0 : Nat → List Int → List Int → Int → Int → Int → Option (List Int)
 | 0, _, _, _, _, _ => none
 | k + 1, x0, x5, x6, x7, x8 => if x8 < (x0.length : Int) then (if 0 ≤ x8 then (if x8 < (x0.length : Int) then (if 0 ≤ x6 then (if x5.length + ([(Go.bits .or .u64 x7 (shl .u64 (IntKind.u64.wrap (rd x0 x8)) x6)) % 4294967296] : List Int).length < 35184372088832 then (zaa.l0 k x0 (x5 ++ ([(Go.bits .or .u64 x7 (shl .u64 (IntKind.u64.wrap (rd x0 x8)) x6)) % 4294967296] : List Int)) x6 ((Go.bits .or .u64 x7 (shl .u64 (IntKind.u64.wrap (rd x0 x8)) x6)) / 4294967296) (wrap64 (x8 + 1))) else (none)) else (none)) else (none)) else (none)) else (if x5.length + ([x7 % 4294967296] : List Int).length < 35184372088832 then ((zm.f k (x5 ++ ([x7 % 4294967296] : List Int))).bind fun t359 => (some t359)) else (none))
def zaa.f (k : Nat) (x0 : List Int) (x1 : Int) : Option (List Int) := if (x0.length : Int) = 0 then (some ([] : List Int)) else (if 0 ≤ (wrap64 (Int.tdiv x1 32)) then (if (wrap64 (Int.tdiv x1 32) : Int).toNat ≤ 70368744177664 then (zaa.l0 k x0 (List.replicate (wrap64 (Int.tdiv x1 32) : Int).toNat (0 : Int)) (Int.tmod x1 32) 0 0) else (none)) else (none))
mutual
def zq.l0 : Nat → List Int → List Int → List Int → Int → Int → Option (List Int)
 | 0, _, _, _, _, _ => none
 | k + 1, x0, x1, x5, x6, x7 => if x7 < (x0.length : Int) then (if x7 < (x0.length : Int) then (if 0 ≤ x7 then (if x7 < (x0.length : Int) then (zq.j2 k x0 x1 x5 (IntKind.u64.wrap (x6 + (IntKind.u64.wrap (rd x0 x7)))) x7) else (none)) else (none)) else (zq.j2 k x0 x1 x5 x6 x7)) else (if x7 < (x1.length : Int) then (if x7 < (x0.length : Int) then (if 0 ≤ x7 then (if x7 < (x0.length : Int) then (zq.j2 k x0 x1 x5 (IntKind.u64.wrap (x6 + (IntKind.u64.wrap (rd x0 x7)))) x7) else (none)) else (none)) else (zq.j2 k x0 x1 x5 x6 x7)) else (if x5.length + ([x6 % 4294967296] : List Int).length < 35184372088832 then ((zm.f k (x5 ++ ([x6 % 4294967296] : List Int))).bind fun t364 => (some t364)) else (none)))
def zq.j2 : Nat → List Int → List Int → List Int → Int → Int → Option (List Int)
 | 0, _, _, _, _, _ => none
 | k + 1, x0, x1, x5, x6, x7 => if x7 < (x1.length : Int) then (if 0 ≤ x7 then (if x7 < (x1.length : Int) then (zq.j3 k x0 x1 x5 (IntKind.u64.wrap (x6 + (IntKind.u64.wrap (rd x1 x7)))) x7) else (none)) else (none)) else (zq.j3 k x0 x1 x5 x6 x7)
def zq.j3 : Nat → List Int → List Int → List Int → Int → Int → Option (List Int)
 | 0, _, _, _, _, _ => none
 | k + 1, x0, x1, x5, x6, x7 => if x5.length + ([x6 % 4294967296] : List Int).length < 35184372088832 then (zq.l0 k x0 x1 (x5 ++ ([x6 % 4294967296] : List Int)) (x6 / 4294967296) (wrap64 (x7 + 1))) else (none)
end
def zq.f (k : Nat) (x0 : List Int) (x1 : List Int) : Option (List Int) := zq.l0 k x0 x1 ([] : List Int) 0 0
def zag.l0 : Nat → List Int → List Int → Int → Option (Int)
 | 0, _, _, _ => none
 | k + 1, x0, x1, x5 => if x5 ≥ 0 then (if 0 ≤ x5 then (if x5 < (x0.length : Int) then (if 0 ≤ x5 then (if x5 < (x1.length : Int) then (if (rd x0 x5) < (rd x1 x5) then (some (-1)) else (if 0 ≤ x5 then (if x5 < (x0.length : Int) then (if 0 ≤ x5 then (if x5 < (x1.length : Int) then (if (rd x0 x5) > (rd x1 x5) then (some 1) else (zag.l0 k x0 x1 (wrap64 (x5 - 1)))) else (none)) else (none)) else (none)) else (none))) else (none)) else (none)) else (none)) else (none)) else (some 0)
def zag.f (k : Nat) (x0 : List Int) (x1 : List Int) : Option (Int) := if ¬ ((x0.length : Int) = (x1.length : Int)) then (if (x0.length : Int) < (x1.length : Int) then (some (-1)) else (some 1)) else (zag.l0 k x0 x1 (wrap64 ((x0.length : Int) - 1)))
mutual
def zr.l0 : Nat → List Int → List Int → List Int → Int → Int → Option (List Int)
 | 0, _, _, _, _, _ => none
 | k + 1, x0, x1, x5, x6, x7 => if x7 < (x0.length : Int) then (if x7 < (x1.length : Int) then (if 0 ≤ x7 then (if x7 < (x1.length : Int) then (zr.j1 k x0 x1 x5 x7 (IntKind.u64.wrap (x6 + (IntKind.u64.wrap (rd x1 x7))))) else (none)) else (none)) else (zr.j1 k x0 x1 x5 x7 x6)) else ((zm.f k x5).bind fun t372 => (some t372))
def zr.j1 : Nat → List Int → List Int → List Int → Int → Int → Option (List Int)
 | 0, _, _, _, _, _ => none
 | k + 1, x0, x1, x5, x7, x8 => if 0 ≤ x7 then (if x7 < (x0.length : Int) then (if (IntKind.u64.wrap (rd x0 x7)) < x8 then (zr.j2 k x0 x1 x5 1 x7 x8 (IntKind.u64.wrap ((IntKind.u64.wrap (rd x0 x7)) + 4294967296))) else (zr.j2 k x0 x1 x5 0 x7 x8 (IntKind.u64.wrap (rd x0 x7)))) else (none)) else (none)
def zr.j2 : Nat → List Int → List Int → List Int → Int → Int → Int → Int → Option (List Int)
 | 0, _, _, _, _, _, _, _ => none
 | k + 1, x0, x1, x5, x6, x7, x8, x9 => if x5.length + ([(IntKind.u64.wrap (x9 - x8)) % 4294967296] : List Int).length < 35184372088832 then (zr.l0 k x0 x1 (x5 ++ ([(IntKind.u64.wrap (x9 - x8)) % 4294967296] : List Int)) x6 (wrap64 (x7 + 1))) else (none)
end
def zr.f (k : Nat) (x0 : List Int) (x1 : List Int) : Option (List Int) := zr.l0 k x0 x1 ([] : List Int) 0 0
mutual
def zA.l0 : Nat → List Int → List Int → List Int → List Int → Int → Option (List Int × List Int)
 | 0, _, _, _, _, _ => none
 | k + 1, x0, x1, x6, x8, x10 => if x10 ≥ 0 then ((zaa.f k x8 1).bind fun t401 => ((zbd.f x0 x10).bind fun t402 => (if t402 = 1 then ((zq.f k t401 ([1] : List Int)).bind fun t403 => (zA.j2 k x0 x1 x6 t403 x10)) else (zA.j2 k x0 x1 x6 t401 x10)))) else ((zm.f k x6).bind fun t404 => (some (t404, x8)))
def zA.j2 : Nat → List Int → List Int → List Int → List Int → Int → Option (List Int × List Int)
 | 0, _, _, _, _, _ => none
 | k + 1, x0, x1, x6, x8, x10 => (zag.f k x8 x1).bind fun t399 => (if t399 ≥ 0 then ((zr.f k x8 x1).bind fun t400 => (if 0 ≤ wrap64 (Int.tdiv x10 32) then (if wrap64 (Int.tdiv x10 32) < (x6.length : Int) then (if 0 ≤ (Int.tmod x10 32) then (if 0 ≤ wrap64 (Int.tdiv x10 32) then (if wrap64 (Int.tdiv x10 32) < (x6.length : Int) then (zA.l0 k x0 x1 (x6.set (wrap64 (Int.tdiv x10 32) : Int).toNat (Go.bits .or .u32 (rd x6 (wrap64 (Int.tdiv x10 32))) (shl .u32 1 (Int.tmod x10 32)))) t400 (wrap64 (x10 - 1))) else (none)) else (none)) else (none)) else (none)) else (none))) else (zA.l0 k x0 x1 x6 x8 (wrap64 (x10 - 1))))
end
def zA.f (k : Nat) (x0 : List Int) (x1 : List Int) : Option (List Int × List Int) := if (x1.length : Int) = 1 then (if 0 < (x1.length : Int) then ((zav.f k x0 (rd x1 0)).bind fun t395 => (some (t395.1, t395.2))) else (none)) else (if 0 ≤ (x0.length : Int) then (if ((x0.length : Int) : Int).toNat ≤ 70368744177664 then ((z5.f k x0).bind fun t396 => ((z5.f k x1).bind fun t397 => ((zT.f k x0 (mx 0 (wrap64 ((wrap64 (t396 - t397)) + 1)))).bind fun t398 => (zA.l0 k x0 x1 (List.replicate ((x0.length : Int) : Int).toNat (0 : Int)) t398.1 (wrap64 ((mx 0 (wrap64 ((wrap64 (t396 - t397)) + 1))) - 1)))))) else (none)) else (none))
def zV.j2 : Nat → Bool → List Int → Int → Bool → List Int → Int → Bool → List Int → Int → Int → Option (Bool × List Int × Int)
 | 0, _, _, _, _, _, _, _, _, _, _ => none
 | k + 1, x2_0, x2_1, x2_2, x3_0, x3_1, x3_2, x4_0, x4_1, x4_2, x5 => (zaa.f k x2_1 (wrap64 (x2_2 - x5))).bind fun t407 => ((zaa.f k x3_1 (wrap64 (x3_2 - x5))).bind fun t408 => (if (x2_0) = (x3_0) then ((zq.f k t407 t408).bind fun t409 => ((zW.f k x2_0 t409 x5).bind fun t410 => (some (t410.1, t410.2.1, t410.2.2)))) else ((zag.f k t407 t408).bind fun t411 => (if t411 ≥ 0 then ((zr.f k t407 t408).bind fun t412 => ((zW.f k x2_0 t412 x5).bind fun t413 => (some (t413.1, t413.2.1, t413.2.2)))) else ((zr.f k t408 t407).bind fun t414 => ((zW.f k x3_0 t414 x5).bind fun t415 => (some (t415.1, t415.2.1, t415.2.2))))))))
def zV.f (k : Nat) (x0_0 : Bool) (x0_1 : List Int) (x0_2 : Int) (x1_0 : Bool) (x1_1 : List Int) (x1_2 : Int) : Option (Bool × List Int × Int) := if (x0_1.length : Int) = 0 then (some (x1_0, x1_1, x1_2)) else (if (x1_1.length : Int) = 0 then (some (x0_0, x0_1, x0_2)) else (if x1_2 < x0_2 then (zV.j2 k x0_0 x0_1 x0_2 x1_0 x1_1 x1_2 false ([] : List Int) 0 x1_2) else (zV.j2 k x0_0 x0_1 x0_2 x1_0 x1_1 x1_2 false ([] : List Int) 0 x0_2)))
def zap.l0 : Nat → List Int → Int → Int → Bool → List Int → Int → Bool → List Int → Int → Int → Option (Bool × List Int × Int)
 | 0, _, _, _, _, _, _, _, _, _, _ => none
 | k + 1, x0, x1, x2, x6_0, x6_1, x6_2, x7_0, x7_1, x7_2, x8 => if x8 < x2 then ((zU.f k (IntKind.u64.wrap (wrap64 ((wrap64 (2 * x8)) + 1)))).bind fun t346 => ((zu.f k x1 (wrap64 ((wrap64 (2 * x8)) + 1))).bind fun t347 => ((zi.f k t346 t347).bind fun t348 => ((zA.f k x0 t348).bind fun t405 => ((zW.f k (decide ((Int.tmod x8 2) = 1)) t405.1 0).bind fun t406 => ((zV.f k x7_0 x7_1 x7_2 t406.1 t406.2.1 t406.2.2).bind fun t416 => (zap.l0 k x0 x1 x2 x6_0 x6_1 x6_2 t416.1 t416.2.1 t416.2.2 (wrap64 (x8 + 1))))))))) else (some (x7_0, x7_1, x7_2))
def zap.f (k : Nat) (x0 : List Int) (x1 : Int) (x2 : Int) : Option (Bool × List Int × Int) := zap.l0 k x0 x1 x2 false ([] : List Int) 0 false ([] : List Int) 0 0
def zaT.f (k : Nat) (x0_0 : Bool) (x0_1 : List Int) (x0_2 : Int) (x1_0 : Bool) (x1_1 : List Int) (x1_2 : Int) : Option (Bool × List Int × Int) := (zi.f k x0_1 x1_1).bind fun t418 => ((zW.f k (decide (¬ ((x0_0) = (x1_0)))) t418 (wrap64 (x0_2 + x1_2))).bind fun t419 => (some (t419.1, t419.2.1, t419.2.2)))
def zbL.f (x0_0 : Bool) (x0_1 : List Int) (x0_2 : Int) : Option (Bool × List Int × Int) := if (x0_1.length : Int) > 0 then (some ((!x0_0), x0_1, x0_2)) else (some (x0_0, x0_1, x0_2))
def zaU.f (k : Nat) (x0_0 : Bool) (x0_1 : List Int) (x0_2 : Int) (x1_0 : Bool) (x1_1 : List Int) (x1_2 : Int) : Option (Bool × List Int × Int) := (zbL.f x1_0 x1_1 x1_2).bind fun t424 => ((zV.f k x0_0 x0_1 x0_2 t424.1 t424.2.1 t424.2.2).bind fun t425 => (some (t425.1, t425.2.1, t425.2.2)))
def zaF.f (k : Nat) (x0_0 : Bool) (x0_1 : List Int) (x0_2 : Int) : Option (Int) := if (x0_1.length : Int) = 0 then (some 0) else ((z5.f k x0_1).bind fun t435 => (some (wrap64 (x0_2 + t435))))
def zbg.f (x0_0 : Bool) (x0_1 : List Int) (x0_2 : Int) : Option (Int) := if (x0_1.length : Int) = 0 then (some 0) else (if x0_0 = true then (some (-1)) else (some 1))
def zbe.f (k : Nat) (x0_0 : Bool) (x0_1 : List Int) (x0_2 : Int) (x1_0 : Bool) (x1_1 : List Int) (x1_2 : Int) : Option (Int) := (zbg.f x0_0 x0_1 x0_2).bind fun t441 => ((zbg.f x1_0 x1_1 x1_2).bind fun t442 => (if ¬ (t441 = t442) then (if t441 < t442 then (some (-1)) else (some 1)) else (if t441 = 0 then (some 0) else ((zaF.f k x0_0 x0_1 x0_2).bind fun t443 => ((zaF.f k x1_0 x1_1 x1_2).bind fun t444 => (if ¬ (t443 = t444) then ((zaF.f k x0_0 x0_1 x0_2).bind fun t445 => ((zaF.f k x1_0 x1_1 x1_2).bind fun t446 => (if (decide (t445 < t446)) = (decide (t441 > 0)) then (some (-1)) else (some 1)))) else ((zaU.f k x0_0 x0_1 x0_2 x1_0 x1_1 x1_2).bind fun t447 => ((zbg.f t447.1 t447.2.1 t447.2.2).bind fun t448 => (some t448)))))))))
def zao.l0 : Nat → Int → Int → Bool → List Int → Int → Int → List Int → Int → Option (Bool)
 | 0, _, _, _, _, _, _, _, _ => none
 | k + 1, x0, x1, x6_0, x6_1, x6_2, x7, x8, x9 => if x9 ≤ x1 then ((zU.f k (IntKind.u64.wrap (wrap64 ((wrap64 (2 * x9)) + 1)))).bind fun t584 => ((zi.f k x8 t584).bind fun t585 => (zao.l0 k x0 x1 x6_0 x6_1 x6_2 x7 t585 (wrap64 (x9 + 1))))) else ((zu.f k 5 (wrap64 ((wrap64 (2 * x1)) + 1))).bind fun t586 => ((zi.f k x8 t586).bind fun t587 => ((zu.f k 239 (wrap64 ((wrap64 (2 * x1)) + 1))).bind fun t588 => ((zi.f k t587 t588).bind fun t589 => ((zah.f k 16).bind fun t590 => ((zap.f k t589 5 x1).bind fun t591 => ((zaT.f k t590.1 t590.2.1 t590.2.2 t591.1 t591.2.1 t591.2.2).bind fun t592 => ((zah.f k 4).bind fun t593 => ((zap.f k t589 239 x1).bind fun t594 => ((zaT.f k t593.1 t593.2.1 t593.2.2 t594.1 t594.2.1 t594.2.2).bind fun t595 => ((zaU.f k t592.1 t592.2.1 t592.2.2 t595.1 t595.2.1 t595.2.2).bind fun t596 => ((zU.f k (IntKind.u64.wrap (wrap64 ((wrap64 (2 * x1)) + 1)))).bind fun t597 => ((zu.f k 5 (wrap64 ((wrap64 (2 * x1)) + 1))).bind fun t598 => ((zi.f k t597 t598).bind fun t599 => ((zA.f k t589 t599).bind fun t600 => ((zU.f k 17).bind fun t601 => ((zi.f k t601 t600.1).bind fun t602 => ((zW.f k false t602 0).bind fun t603 => ((zW.f k false t589 0).bind fun t604 => ((zaF.f k x6_0 x6_1 x6_2).bind fun t605 => ((zbh.f (wrap64 (t605 - x0))).bind fun t606 => (if x7 = 0 then ((zaU.f k t596.1 t596.2.1 t596.2.2 t603.1 t603.2.1 t603.2.2).bind fun t607 => ((zV.f k x6_0 x6_1 x6_2 t606.1 t606.2.1 t606.2.2).bind fun t608 => ((zaT.f k t604.1 t604.2.1 t604.2.2 t608.1 t608.2.1 t608.2.2).bind fun t609 => ((zbe.f k t607.1 t607.2.1 t607.2.2 t609.1 t609.2.1 t609.2.2).bind fun t610 => (if t610 < 0 then ((zaT.f k t604.1 t604.2.1 t604.2.2 x6_0 x6_1 x6_2).bind fun t611 => ((zV.f k t596.1 t596.2.1 t596.2.2 t603.1 t603.2.1 t603.2.2).bind fun t612 => ((zbe.f k t611.1 t611.2.1 t611.2.2 t612.1 t612.2.1 t612.2.2).bind fun t613 => (if t613 < 0 then ((zaS.f k).bind fun t614 => (some t614)) else (some false))))) else (some false)))))) else (some false)))))))))))))))))))))))
def zao.f (k : Nat) (x0 : Int) (x1 : Int) : Option (Bool) := if x0 < 1 then ((zaS.f k).bind fun t578 => (some t578)) else (if x0 > 200 then ((zaS.f k).bind fun t579 => (some t579)) else (if x1 < 1 then ((zaS.f k).bind fun t580 => (some t580)) else (if x1 > 60 then ((zaS.f k).bind fun t581 => (some t581)) else ((zbI.f).bind fun t582 => ((zbc.f k t582.1 t582.2.1 t582.2.2.1 t582.2.2.2.1 t582.2.2.2.2.1 t582.2.2.2.2.2.1 t582.2.2.2.2.2.2.1 t582.2.2.2.2.2.2.2.1 t582.2.2.2.2.2.2.2.2 x0).bind fun t583 => (zao.l0 k x0 x1 t583.1 t583.2.1 t583.2.2.1 t583.2.2.2.1 ([1] : List Int) 1))))))
end Go.Proofs.YtlngoohfkaceoaaGreatDoor.Eng
