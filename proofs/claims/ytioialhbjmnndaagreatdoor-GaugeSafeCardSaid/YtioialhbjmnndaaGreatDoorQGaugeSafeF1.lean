import Derived.Test.YtioialhbjmnndaaGreatDoorEng2
import Derived.Test.YtioialhbjmnndaaGreatDoorProg
import Derived.KernelRfl
import Derived.Lib.TrailingZeros
import Derived.Lib.Repeat
import Derived.Lib.Bytealg
set_option linter.unusedVariables false
set_option linter.unusedSimpArgs false
namespace Go.Proofs.YtioialhbjmnndaaGreatDoor.Eng
open Go.RowKit Go.Proofs
set_option maxRecDepth 100000
def TL : List (Nat × TI) := [(2, ⟨.int .i64, 1, 8, [(.int .i64)]⟩),
 (3, ⟨.int .i64, 1, 8, [(.int .i64)]⟩),
 (4, ⟨.bool, 1, 1, [.bool]⟩),
 (5, ⟨.int .u8, 1, 1, [(.int .u8)]⟩),
 (6, ⟨.int .u8, 1, 1, [(.int .u8)]⟩),
 (7, ⟨.struct [(0, 2), (1, 3), (2, 4), (3, 6)], 4, 24, [(.int .i64), (.int .i64), .bool, (.int .u8)]⟩),
 (8, ⟨.struct [(0, 2), (1, 3), (2, 4), (3, 6)], 4, 24, [(.int .i64), (.int .i64), .bool, (.int .u8)]⟩),
 (9, ⟨.str, 1, 16, [.str]⟩),
 (10, ⟨.str, 1, 16, [.str]⟩),
 (11, ⟨.str, 1, 16, [.str]⟩),
 (12, ⟨.int .u64, 1, 8, [(.int .u64)]⟩),
 (13, ⟨.struct [(0, 9), (1, 12)], 2, 24, [.str, (.int .u64)]⟩),
 (14, ⟨.struct [(0, 9), (1, 12)], 2, 24, [.str, (.int .u64)]⟩),
 (15, ⟨.ptr 189, 1, 8, [.ptr]⟩),
 (16, ⟨.ptr 192, 1, 8, [.ptr]⟩),
 (17, ⟨.ptr 200, 1, 8, [.ptr]⟩),
 (18, ⟨.struct [(0, 17)], 1, 8, [.ptr]⟩),
 (19, ⟨.struct [(0, 17)], 1, 8, [.ptr]⟩),
 (21, ⟨.int .i32, 1, 4, [(.int .i32)]⟩),
 (22, ⟨.int .u8, 1, 1, [(.int .u8)]⟩),
 (23, ⟨.int .u64, 1, 8, [(.int .u64)]⟩),
 (24, ⟨.struct [(0, 23), (1, 23)], 2, 16, [(.int .u64), (.int .u64)]⟩),
 (25, ⟨.struct [(0, 23), (1, 23)], 2, 16, [(.int .u64), (.int .u64)]⟩),
 (26, ⟨.slice 82, 1, 24, [(.slice (some .u32))]⟩),
 (27, ⟨.struct [(0, 4), (1, 26), (2, 3)], 3, 40, [.bool, (.slice (some .u32)), (.int .i64)]⟩),
 (28, ⟨.struct [(0, 4), (1, 26), (2, 3)], 3, 40, [.bool, (.slice (some .u32)), (.int .i64)]⟩),
 (29, ⟨.struct [(0, 28), (3, 28), (6, 28)], 9, 120, [.bool, (.slice (some .u32)), (.int .i64), .bool, (.slice (some .u32)), (.int .i64), .bool, (.slice (some .u32)), (.int .i64)]⟩),
 (30, ⟨.struct [(0, 28), (3, 28), (6, 28)], 9, 120, [.bool, (.slice (some .u32)), (.int .i64), .bool, (.slice (some .u32)), (.int .i64), .bool, (.slice (some .u32)), (.int .i64)]⟩),
 (33, ⟨.int .i64, 1, 8, [(.int .i64)]⟩),
 (52, ⟨.int .u8, 1, 1, [(.int .u8)]⟩),
 (61, ⟨.int .u8, 1, 1, [(.int .u8)]⟩),
 (62, ⟨.struct [(0, 25), (2, 61), (3, 61)], 4, 24, [(.int .u64), (.int .u64), (.int .u8), (.int .u8)]⟩),
 (63, ⟨.struct [(0, 25), (2, 61), (3, 61)], 4, 24, [(.int .u64), (.int .u64), (.int .u8), (.int .u8)]⟩),
 (65, ⟨.int .u8, 1, 1, [(.int .u8)]⟩),
 (82, ⟨.int .u32, 1, 4, [(.int .u32)]⟩),
 (89, ⟨.struct [(0, 28), (3, 28)], 6, 80, [.bool, (.slice (some .u32)), (.int .i64), .bool, (.slice (some .u32)), (.int .i64)]⟩),
 (90, ⟨.struct [(0, 28), (3, 28)], 6, 80, [.bool, (.slice (some .u32)), (.int .i64), .bool, (.slice (some .u32)), (.int .i64)]⟩),
 (96, ⟨.slice 25, 1, 24, [(.slice none)]⟩),
 (100, ⟨.int .u8, 1, 1, [(.int .u8)]⟩),
 (103, ⟨.struct [(0, 28), (3, 4)], 4, 48, [.bool, (.slice (some .u32)), (.int .i64), .bool]⟩),
 (104, ⟨.struct [(0, 28), (3, 4)], 4, 48, [.bool, (.slice (some .u32)), (.int .i64), .bool]⟩),
 (105, ⟨.arr 2 104, 8, 96, [.bool, (.slice (some .u32)), (.int .i64), .bool, .bool, (.slice (some .u32)), (.int .i64), .bool]⟩),
 (117, ⟨.arr 3 28, 9, 120, [.bool, (.slice (some .u32)), (.int .i64), .bool, (.slice (some .u32)), (.int .i64), .bool, (.slice (some .u32)), (.int .i64)]⟩),
 (120, ⟨.slice 28, 1, 24, [(.slice none)]⟩),
 (130, ⟨.int .u64, 1, 8, [(.int .u64)]⟩),
 (132, ⟨.struct [(0, 3), (1, 3), (2, 23)], 3, 24, [(.int .i64), (.int .i64), (.int .u64)]⟩),
 (133, ⟨.struct [(0, 3), (1, 3), (2, 23)], 3, 24, [(.int .i64), (.int .i64), (.int .u64)]⟩),
 (136, ⟨.struct [(0, 4), (1, 3), (2, 23)], 3, 24, [.bool, (.int .i64), (.int .u64)]⟩),
 (137, ⟨.struct [(0, 4), (1, 3), (2, 23)], 3, 24, [.bool, (.int .i64), (.int .u64)]⟩),
 (151, ⟨.slice 104, 1, 24, [(.slice none)]⟩),
 (165, ⟨.slice 23, 1, 24, [(.slice (some .u64))]⟩),
 (182, ⟨.arr 32 5, 32, 32, [(.int .u8), (.int .u8), (.int .u8), (.int .u8), (.int .u8), (.int .u8), (.int .u8), (.int .u8), (.int .u8), (.int .u8), (.int .u8), (.int .u8), (.int .u8), (.int .u8), (.int .u8), (.int .u8), (.int .u8), (.int .u8), (.int .u8), (.int .u8), (.int .u8), (.int .u8), (.int .u8), (.int .u8), (.int .u8), (.int .u8), (.int .u8), (.int .u8), (.int .u8), (.int .u8), (.int .u8), (.int .u8)]⟩),
 (183, ⟨.slice 26, 1, 24, [(.slice none)]⟩),
 (188, ⟨.struct [(0, 17), (1, 17), (2, 17), (3, 9)], 4, 40, [.ptr, .ptr, .ptr, .str]⟩),
 (189, ⟨.struct [(0, 17), (1, 17), (2, 17), (3, 9)], 4, 40, [.ptr, .ptr, .ptr, .str]⟩),
 (190, ⟨.arr 0 16, 0, 0, []⟩),
 (191, ⟨.struct [(0, 190)], 0, 0, []⟩),
 (192, ⟨.struct [(0, 190)], 0, 0, []⟩),
 (193, ⟨.int .u8, 1, 1, [(.int .u8)]⟩),
 (194, ⟨.int .u8, 1, 1, [(.int .u8)]⟩),
 (196, ⟨.ptr 5, 1, 8, [.ptr]⟩),
 (197, ⟨.int .i32, 1, 4, [(.int .i32)]⟩),
 (198, ⟨.int .i32, 1, 4, [(.int .i32)]⟩)]
def TT : Nat → Option TI := qec TL
def zdx : ByteArray := ⟨#[0, 1, 2, 2, 3, 3, 3, 3, 4, 4, 4, 4, 4, 4, 4, 4, 5, 5, 5, 5, 5, 5, 5, 5, 5, 5, 5, 5, 5, 5, 5, 5, 6, 6, 6, 6, 6, 6, 6, 6, 6, 6, 6, 6, 6, 6, 6, 6, 6, 6, 6, 6, 6, 6, 6, 6, 6, 6, 6, 6, 6, 6, 6, 6, 7, 7, 7, 7, 7, 7, 7, 7, 7, 7, 7, 7, 7, 7, 7, 7, 7, 7, 7, 7, 7, 7, 7, 7, 7, 7, 7, 7, 7, 7, 7, 7, 7, 7, 7, 7, 7, 7, 7, 7, 7, 7, 7, 7, 7, 7, 7, 7, 7, 7, 7, 7, 7, 7, 7, 7, 7, 7, 7, 7, 7, 7, 7, 7, 8, 8, 8, 8, 8, 8, 8, 8, 8, 8, 8, 8, 8, 8, 8, 8, 8, 8, 8, 8, 8, 8, 8, 8, 8, 8, 8, 8, 8, 8, 8, 8, 8, 8, 8, 8, 8, 8, 8, 8, 8, 8, 8, 8, 8, 8, 8, 8, 8, 8, 8, 8, 8, 8, 8, 8, 8, 8, 8, 8, 8, 8, 8, 8, 8, 8, 8, 8, 8, 8, 8, 8, 8, 8, 8, 8, 8, 8, 8, 8, 8, 8, 8, 8, 8, 8, 8, 8, 8, 8, 8, 8, 8, 8, 8, 8, 8, 8, 8, 8, 8, 8, 8, 8, 8, 8, 8, 8, 8, 8, 8, 8, 8, 8, 8, 8, 8, 8, 8, 8, 8, 8, 8, 8, 8, 8, 8, 8]⟩
def z7.f (x : Int) : Option Int := if 0 ≤ x ∧ x < 4294967296 then some (Lib.ctz 32 x.toNat : Int) else none
def za9 : Nat → Nat → Option Value := fun b o => if b = 0 ∧ o < 32 then some (.int .u8 (Lib.deBruijn32tab.getD o 0)) else none
def zby.f (x0_0 : Bool) (x0_1 : List Int) (x0_2 : Int) (x0_3 : Bool) (x0_4 : List Int) (x0_5 : Int) (x0_6 : Bool) (x0_7 : List Int) (x0_8 : Int) : Option (Bool) := some (decide ((wrap64 ((wrap64 ((x0_1.length : Int) + (x0_4.length : Int))) + (x0_7.length : Int))) > 1300))
def zm.l0 : Nat → List Int → Int → Option (List Int)
 | 0, _, _ => none
 | k + 1, x0, x3 => if x3 > 0 then (if 0 ≤ wrap64 (x3 - 1) then (if wrap64 (x3 - 1) < (x0.length : Int) then (if (rd x0 (wrap64 (x3 - 1))) = 0 then (zm.l0 k x0 (wrap64 (x3 - 1))) else (if 0 ≤ x3 then (if x3 ≤ (x0.length : Int) then (some (x0.take (x3 : Int).toNat)) else (none)) else (none))) else (none)) else (none)) else (if 0 ≤ x3 then (if x3 ≤ (x0.length : Int) then (some (x0.take (x3 : Int).toNat)) else (none)) else (none))
def zm.f (k : Nat) (x0 : List Int) : Option (List Int) := zm.l0 k x0 (x0.length : Int)
def zcu.f (k : Nat) (x0 : Int) : Option (List Int) := (zm.f k ([x0 % 4294967296, (x0 / 4294967296) % 4294967296] : List Int)).bind fun t2 => (some t2)
def zbz.f (x0 : List Int) (x1 : Int) : Option (Int) := if x1 < 0 then (some 0) else (if (wrap64 (Int.tdiv x1 32)) ≥ (x0.length : Int) then (some 0) else (if 0 ≤ wrap64 (Int.tdiv x1 32) then (if wrap64 (Int.tdiv x1 32) < (x0.length : Int) then (if 0 ≤ (Int.tmod x1 32) then (some (Go.bits .and .u32 (shr .u32 (rd x0 (wrap64 (Int.tdiv x1 32))) (Int.tmod x1 32)) 1)) else (none)) else (none)) else (none)))
def zX.l0 : Nat → List Int → Int → Option (Int)
 | 0, _, _ => none
 | k + 1, x0, x3 => if x3 < (wrap64 (32 * (x0.length : Int))) then ((zbz.f x0 x3).bind fun t8 => (if t8 = 0 then (if 0 ≤ wrap64 (Int.tdiv x3 32) then (if wrap64 (Int.tdiv x3 32) < (x0.length : Int) then (if (rd x0 (wrap64 (Int.tdiv x3 32))) = 0 then (zX.l0 k x0 (wrap64 (x3 + 32))) else (zX.l0 k x0 (wrap64 (x3 + 1)))) else (none)) else (none)) else (if x3 = (wrap64 (32 * (x0.length : Int))) then (some 0) else (some x3)))) else (if x3 = (wrap64 (32 * (x0.length : Int))) then (some 0) else (some x3))
def zX.f (k : Nat) (x0 : List Int) : Option (Int) := zX.l0 k x0 0
def z9.l0 : Nat → Int → Int → Option (Int)
 | 0, _, _ => none
 | k + 1, x3, x4 => if x4 > 0 then (z9.l0 k (wrap64 (x3 + 1)) (x4 / 2)) else (some x3)
def z9.f (k : Nat) (x0 : List Int) : Option (Int) := if (x0.length : Int) = 0 then (some 0) else (if 0 ≤ wrap64 ((x0.length : Int) - 1) then (if wrap64 ((x0.length : Int) - 1) < (x0.length : Int) then (z9.l0 k (wrap64 (32 * (wrap64 ((x0.length : Int) - 1)))) (rd x0 (wrap64 ((x0.length : Int) - 1)))) else (none)) else (none))
def z8.l0 : Nat → List Int → Bool → List Int → Int → Int → Option (List Int × Bool)
 | 0, _, _, _, _, _ => none
 | k + 1, x0, x6, x7, x8, x9 => if x9 < (x0.length : Int) then (if 0 ≤ x9 then (if x9 < (x0.length : Int) then (if 0 ≤ x8 then (if (wrap64 (x9 + 1)) < (x0.length : Int) then (if 0 ≤ wrap64 (x9 + 1) then (if wrap64 (x9 + 1) < (x0.length : Int) then (if 0 ≤ (wrap64 (32 - x8)) then (if x7.length + ([(Go.bits .or .u64 (shr .u64 (IntKind.u64.wrap (rd x0 x9)) x8) (shl .u64 (IntKind.u64.wrap (rd x0 (wrap64 (x9 + 1)))) (wrap64 (32 - x8)))) % 4294967296] : List Int).length < 35184372088832 then (z8.l0 k x0 x6 (x7 ++ ([(Go.bits .or .u64 (shr .u64 (IntKind.u64.wrap (rd x0 x9)) x8) (shl .u64 (IntKind.u64.wrap (rd x0 (wrap64 (x9 + 1)))) (wrap64 (32 - x8)))) % 4294967296] : List Int)) x8 (wrap64 (x9 + 1))) else (none)) else (none)) else (none)) else (none)) else (if x7.length + ([(shr .u64 (IntKind.u64.wrap (rd x0 x9)) x8) % 4294967296] : List Int).length < 35184372088832 then (z8.l0 k x0 x6 (x7 ++ ([(shr .u64 (IntKind.u64.wrap (rd x0 x9)) x8) % 4294967296] : List Int)) x8 (wrap64 (x9 + 1))) else (none))) else (none)) else (none)) else (none)) else ((zm.f k x7).bind fun t36 => (some (t36, x6)))
def z8.f (k : Nat) (x0 : List Int) (x1 : Int) : Option (List Int × Bool) := (z9.f k x0).bind fun t34 => (if x1 ≥ t34 then (some (([] : List Int), decide ((x0.length : Int) > 0))) else ((zX.f k x0).bind fun t35 => (z8.l0 k x0 (decide (x1 > t35)) ([] : List Int) (Int.tmod x1 32) (wrap64 (Int.tdiv x1 32)))))
def zaq.f (k : Nat) (x0 : Bool) (x1 : List Int) (x2 : Int) : Option (Bool × List Int × Int) := if (x1.length : Int) = 0 then (some (false, ([] : List Int), 0)) else ((zX.f k x1).bind fun t9 => ((z8.f k x1 t9).bind fun t37 => (some (x0, t37.1, wrap64 (x2 + t9)))))
def zat.j0 : Nat → Int → Bool → List Int → Int → Int → Option (Bool × List Int × Int)
 | 0, _, _, _, _, _ => none
 | k + 1, x0, x2_0, x2_1, x2_2, x3 => (zcu.f k x3).bind fun t3 => ((zaq.f k (decide (x0 < 0)) t3 0).bind fun t38 => (some (t38.1, t38.2.1, t38.2.2)))
def zat.f (k : Nat) (x0 : Int) : Option (Bool × List Int × Int) := if x0 < 0 then (zat.j0 k x0 false ([] : List Int) 0 (IntKind.u64.wrap (-(IntKind.u64.wrap x0)))) else (zat.j0 k x0 false ([] : List Int) 0 (IntKind.u64.wrap x0))
def zbr.f (x0 : Int) : Option (Int × Int × Int × Bool) := if x0 = 1 then (some (23, 255, 2147483648, true)) else (if x0 = 2 then (some (52, 2047, 9223372036854775808, true)) else (some (0, 0, 0, false)))
def zN.l0 : Nat → Int → Int → Int → Int → Int → Int → List Int → Int → Int → Option (Int × Int × Int × Int)
 | 0, _, _, _, _, _, _, _, _, _ => none
 | k + 1, x4_0, x4_1, x4_2, x6_0, x6_1, x6_2, x18, x19, x20 => if x20 < x19 then (if 0 ≤ x20 then (if x20 < (x18.length : Int) then (if (rd x18 x20) > (Go.bits .or .u64 x6_2 (IntKind.u64.wrap (x6_2 - 1))) then (some (x6_0, x6_1, x6_2, 6)) else (zN.l0 k x4_0 x4_1 x4_2 x6_0 x6_1 x6_2 x18 x19 (wrap64 (x20 + 1)))) else (none)) else (none)) else (some (x6_0, x6_1, x6_2, 0))
def zN.f (k : Nat) (x0 : Int) (x1 : List Int) : Option (Int × Int × Int × Int) := (zbr.f x0).bind fun t42 => (if (!t42.2.2.2) = true then (some (t42.1, t42.2.1, t42.2.2.1, 4)) else (zN.l0 k 0 0 0 t42.1 t42.2.1 t42.2.2.1 x1 (x1.length : Int) 0))
def zaT.f (k : Nat) (x0 : Int) (x1 : Int) : Option (Int) := (zN.f k x0 ([x1] : List Int)).bind fun t43 => (some t43.2.2.2)
def za6.f (k : Nat) (x0 : Int) (x1_0 : Int) (x1_1 : Int) : Option (Int) := (zaT.f k x0 x1_0).bind fun t44 => (if ¬ (t44 = 0) then (some t44) else ((zaT.f k x0 x1_1).bind fun t45 => (some t45)))
def zbs.f (x0_0 : Int) (x0_1 : Int) (x0_2 : Int) : Option (Int) := if 0 ≤ x0_0 then (some (shl .u64 (IntKind.u64.wrap x0_1) x0_0)) else (none)
def zbb.f (x0_0 : Int) (x0_1 : Int) (x0_2 : Int) (x1 : Int) : Option (Int) := if (Go.bits .andNot .u64 x1 x0_2) = 0 then (some 1) else (if 0 ≤ x0_0 then (if (Go.bits .andNot .u64 x1 x0_2) < (shl .u64 1 x0_0) then (some 2) else ((zbs.f x0_0 x0_1 x0_2).bind fun t48 => (if (Go.bits .andNot .u64 x1 x0_2) < t48 then (some 3) else ((zbs.f x0_0 x0_1 x0_2).bind fun t49 => (if (Go.bits .andNot .u64 x1 x0_2) = t49 then (some 4) else (some 5)))))) else (none))
def zbq.f (k : Nat) (x0 : Int) (x1 : Int) : Option (Int × Int) := (zN.f k x0 ([x1] : List Int)).bind fun t47 => (if ¬ (t47.2.2.2 = 0) then (some (0, t47.2.2.2)) else ((zbb.f t47.1 t47.2.1 t47.2.2.1 x1).bind fun t50 => (some (t50, 0))))
mutual
def zM.j1 : Nat → Int → Int → Bool → Option (Int × Int)
 | 0, _, _, _ => none
 | k + 1, x6, x8, x30 => if x30 = true then (some (3, 0)) else (if x6 = 5 then (zM.j2 k x6 x8 true) else (zM.j2 k x6 x8 (decide (x8 = 5))))
def zM.j2 : Nat → Int → Int → Bool → Option (Int × Int)
 | 0, _, _, _ => none
 | k + 1, x6, x8, x37 => if x37 = true then (some (4, 0)) else (if x6 = 1 then (if x8 = 1 then (some (1, 0)) else (some (2, 0))) else (some (2, 0)))
end
def zM.f (k : Nat) (x0 : Int) (x1_0 : Int) (x1_1 : Int) : Option (Int × Int) := (zbq.f k x0 x1_0).bind fun t73 => (if ¬ (t73.2 = 0) then (some (0, t73.2)) else ((zbq.f k x0 x1_1).bind fun t74 => (if ¬ (t74.2 = 0) then (some (0, t74.2)) else (if t73.1 = 4 then (zM.j1 k t73.1 t74.1 true) else (zM.j1 k t73.1 t74.1 (decide (t74.1 = 4)))))))
mutual
def zz.l0 : Nat → Int → List (Int × Int) → List (Int × Int) → Int → Int → Option (Int)
 | 0, _, _, _, _, _ => none
 | k + 1, x0, x1, x12, x13, x14 => if x14 < x13 then (if 0 ≤ x14 then (if x14 < (x12.length : Int) then ((za6.f k x0 ((rdT [.i .u64, .i .u64] x12 x14).1) ((rdT [.i .u64, .i .u64] x12 x14).2)).bind fun t76 => (if ¬ (t76 = 0) then (some t76) else (zz.l0 k x0 x1 x12 x13 (wrap64 (x14 + 1))))) else (none)) else (none)) else (zz.l1 k x0 x1 (x1.length : Int) 0)
def zz.l1 : Nat → Int → List (Int × Int) → Int → Int → Option (Int)
 | 0, _, _, _, _ => none
 | k + 1, x0, x25, x26, x27 => if x27 < x26 then (if 0 ≤ x27 then (if x27 < (x25.length : Int) then ((zM.f k x0 ((rdT [.i .u64, .i .u64] x25 x27).1) ((rdT [.i .u64, .i .u64] x25 x27).2)).bind fun t75 => (if t75.1 > 2 then (some 7) else (zz.l1 k x0 x25 x26 (wrap64 (x27 + 1))))) else (none)) else (none)) else (some 0)
end
def zz.f (k : Nat) (x0 : Int) (x1 : List (Int × Int)) : Option (Int) := zz.l0 k x0 x1 x1 (x1.length : Int) 0
def zR.f (x0 : List Int) : Option (Bool) := if (x0.length : Int) ≤ 4096 then (if (x0.length : Int) = 0 then (some true) else (if 0 ≤ wrap64 ((x0.length : Int) - 1) then (if wrap64 ((x0.length : Int) - 1) < (x0.length : Int) then (some (decide (¬ (rd x0 (wrap64 ((x0.length : Int) - 1)) = 0)))) else (none)) else (none))) else (some false)
def zbk.f (x0 : Int) : Option (Bool) := if (-16777216) ≤ x0 then (some (decide (x0 ≤ 16777216))) else (some false)
def zx.f (x0_0 : Bool) (x0_1 : List Int) (x0_2 : Int) : Option (Bool) := (zR.f x0_1).bind fun t85 => (if (!t85) = true then (some false) else (if (x0_1.length : Int) = 0 then (if (!x0_0) = true then (some (decide (x0_2 = 0))) else (some false)) else (if 0 < (x0_1.length : Int) then (if (Go.bits .and .u32 (rd x0_1 0) 1) = 1 then ((zbk.f x0_2).bind fun t86 => (some t86)) else (some false)) else (none))))
def zac.j0 : Nat → Bool → List Int → Int → Bool → Option (Int)
 | 0, _, _, _, _ => none
 | k + 1, x1_0, x1_1, x1_2, x3 => if x3 = true then (some 0) else (if x1_0 = true then (some (-1)) else (some 1))
def zac.f (k : Nat) (x0_0 : Bool) (x0_1 : List Int) (x0_2 : Int) : Option (Int) := (zx.f x0_0 x0_1 x0_2).bind fun t93 => (if (!t93) = true then (zac.j0 k x0_0 x0_1 x0_2 true) else (zac.j0 k x0_0 x0_1 x0_2 (decide ((x0_1.length : Int) = 0))))
mutual
def zi.l0 : Nat → Bool → List Int → Int → Bool → List Int → Int → Bool → List Int → Int → Int → Option (Int)
 | 0, _, _, _, _, _, _, _, _, _, _ => none
 | k + 1, x56_0, x56_1, x56_2, x56_3, x56_4, x56_5, x56_6, x56_7, x56_8, x57 => if x57 < 3 then (if x57 = 0 then (if (x56_1.length : Int) > 400 then (some 3) else (if x56_2 < (-20000) then (some 3) else (if x56_2 > 20000 then (some 3) else (zi.l0 k x56_0 x56_1 x56_2 x56_3 x56_4 x56_5 x56_6 x56_7 x56_8 (wrap64 (x57 + 1)))))) else (if x57 = 1 then (if (x56_4.length : Int) > 400 then (some 3) else (if x56_5 < (-20000) then (some 3) else (if x56_5 > 20000 then (some 3) else (zi.l0 k x56_0 x56_1 x56_2 x56_3 x56_4 x56_5 x56_6 x56_7 x56_8 (wrap64 (x57 + 1)))))) else (if x57 = 2 then (if (x56_7.length : Int) > 400 then (some 3) else (if x56_8 < (-20000) then (some 3) else (if x56_8 > 20000 then (some 3) else (zi.l0 k x56_0 x56_1 x56_2 x56_3 x56_4 x56_5 x56_6 x56_7 x56_8 (wrap64 (x57 + 1)))))) else (none)))) else (some 0)
def zi.j2 : Nat → Bool → List Int → Int → Bool → List Int → Int → Bool → List Int → Int → Int → Bool → Option (Int)
 | 0, _, _, _, _, _, _, _, _, _, _, _ => none
 | k + 1, x9_0, x9_1, x9_2, x10_0, x10_1, x10_2, x11_0, x11_1, x11_2, x13, x27 => if x27 = true then (some 2) else ((zac.f k x11_0 x11_1 x11_2).bind fun t139 => (if t139 = 0 then (some 11) else (if ¬ (x13 = 0) then (some x13) else (zi.l0 k x9_0 x9_1 x9_2 x10_0 x10_1 x10_2 x11_0 x11_1 x11_2 0))))
end
def zi.f (k : Nat) (x0 : Int) (x1_0 : Int) (x1_1 : Int) (x2 : Int) (x3_0 : Bool) (x3_1 : List Int) (x3_2 : Int) (x4_0 : Bool) (x4_1 : List Int) (x4_2 : Int) (x5_0 : Bool) (x5_1 : List Int) (x5_2 : Int) : Option (Int) := (zz.f k x0 [(x1_0, x1_1)]).bind fun t132 => (if ¬ (t132 = 0) then (if ¬ (t132 = 7) then (some t132) else ((zx.f x3_0 x3_1 x3_2).bind fun t133 => (if (!t133) = true then (zi.j2 k x3_0 x3_1 x3_2 x4_0 x4_1 x4_2 x5_0 x5_1 x5_2 t132 true) else ((zx.f x4_0 x4_1 x4_2).bind fun t134 => (if (!t134) = true then (zi.j2 k x3_0 x3_1 x3_2 x4_0 x4_1 x4_2 x5_0 x5_1 x5_2 t132 true) else ((zx.f x5_0 x5_1 x5_2).bind fun t135 => (if (!t135) = true then (zi.j2 k x3_0 x3_1 x3_2 x4_0 x4_1 x4_2 x5_0 x5_1 x5_2 t132 true) else (zi.j2 k x3_0 x3_1 x3_2 x4_0 x4_1 x4_2 x5_0 x5_1 x5_2 t132 (decide (x2 < 0)))))))))) else ((zx.f x3_0 x3_1 x3_2).bind fun t136 => (if (!t136) = true then (zi.j2 k x3_0 x3_1 x3_2 x4_0 x4_1 x4_2 x5_0 x5_1 x5_2 t132 true) else ((zx.f x4_0 x4_1 x4_2).bind fun t137 => (if (!t137) = true then (zi.j2 k x3_0 x3_1 x3_2 x4_0 x4_1 x4_2 x5_0 x5_1 x5_2 t132 true) else ((zx.f x5_0 x5_1 x5_2).bind fun t138 => (if (!t138) = true then (zi.j2 k x3_0 x3_1 x3_2 x4_0 x4_1 x4_2 x5_0 x5_1 x5_2 t132 true) else (zi.j2 k x3_0 x3_1 x3_2 x4_0 x4_1 x4_2 x5_0 x5_1 x5_2 t132 (decide (x2 < 0))))))))))
def zbU.f (k : Nat) (x0 : Int) (x1 : Int) : Option (Int × Int × Int × Int) := (zN.f k x0 ([x1] : List Int)).bind fun t147 => (if t147.2.2.2 = 0 then ((zbb.f t147.1 t147.2.1 t147.2.2.1 x1).bind fun t148 => (if t148 ≥ 4 then (some (t147.1, t147.2.1, t147.2.2.1, 7)) else (some (t147.1, t147.2.1, t147.2.2.1, t147.2.2.2)))) else (some (t147.1, t147.2.1, t147.2.2.1, t147.2.2.2)))
def zbW.f (x0_0 : Int) (x0_1 : Int) (x0_2 : Int) (x1 : Int) : Option (Bool × Int × Int) := if 0 ≤ x0_0 then (if 0 ≤ x0_0 then (some (decide (¬ (Go.bits .and .u64 x1 x0_2 = 0)), wrap64 (shr .u64 (Go.bits .andNot .u64 x1 x0_2) x0_0), Go.bits .and .u64 (Go.bits .andNot .u64 x1 x0_2) (IntKind.u64.wrap ((shl .u64 1 x0_0) - 1)))) else (none)) else (none)
def zk.l0 : Nat → List Int → Option (List Int)
 | 0, _ => none
 | k + 1, x0 => if (x0.length : Int) > 0 then (if 0 ≤ wrap64 ((x0.length : Int) - 1) then (if wrap64 ((x0.length : Int) - 1) < (x0.length : Int) then (if (rd x0 (wrap64 ((x0.length : Int) - 1))) = 0 then (if 0 ≤ (wrap64 ((x0.length : Int) - 1)) then (if (wrap64 ((x0.length : Int) - 1)) ≤ (x0.length : Int) then (zk.l0 k (x0.take (wrap64 ((x0.length : Int) - 1) : Int).toNat)) else (none)) else (none)) else (some x0)) else (none)) else (none)) else (some x0)
def zk.f (k : Nat) (x0 : List Int) : Option (List Int) := zk.l0 k x0
def zal.f (k : Nat) (x0 : Int) : Option (List Int) := (zk.f k ([x0 % 4294967296, (x0 / 4294967296) % 4294967296] : List Int)).bind fun t153 => (some t153)
def zbV.f (x0_0 : Int) (x0_1 : Int) (x0_2 : Int) : Option (Int) := some (wrap64 ((wrap64 (1 - (wrap64 (Int.tdiv x0_1 2)))) - x0_0))
abbrev z7.S : Sig := { ps := [.lf (.i .u32)], rs := [.lf (.i .i64)], wb := [], R := Int, mkR := fun y0 => some y0, un := fun r => [.int .i64 r] }
def z7.F (k : Nat) : Fun := { S := z7.S, f := z7.f }
def zQ.l0 : Nat → List Int → Int → Int → Option (Int)
 | 0, _, _, _ => none
 | k + 1, x8, x9, x10 => if x10 < x9 then (if 0 ≤ x10 then (if x10 < (x8.length : Int) then (if ¬ (rd x8 x10 = 0) then ((z7.f (rd x8 x10)).bind fun t159 => (some (wrap64 ((wrap64 (32 * x10)) + t159)))) else (zQ.l0 k x8 x9 (wrap64 (x10 + 1)))) else (none)) else (none)) else (some 0)
def zQ.f (k : Nat) (x0 : List Int) : Option (Int) := (zR.f x0).bind fun t158 => (if (!t158) = true then (some 0) else (zQ.l0 k x0 (x0.length : Int) 0))
def zaf.l0 : Nat → List Int → Int → List Int → List Int → Int → Int → Option (List Int)
 | 0, _, _, _, _, _, _ => none
 | k + 1, x0, x5, x6, x23, x24, x25 => if x25 < x24 then (if 0 ≤ x25 then (if x25 < (x23.length : Int) then (if 0 ≤ x5 then (if 0 ≤ x25 then (if x25 < (x6.length : Int) then (if (wrap64 (x25 + 1)) < (x0.length : Int) then (if 0 ≤ x25 then (if x25 < ((x6.set (x25 : Int).toNat (shr .u32 (rd x23 x25) x5)).length : Int) then (if 0 ≤ wrap64 (x25 + 1) then (if wrap64 (x25 + 1) < (x0.length : Int) then (if 0 ≤ (wrap64 (32 - x5)) then (if 0 ≤ x25 then (if x25 < ((x6.set (x25 : Int).toNat (shr .u32 (rd x23 x25) x5)).length : Int) then (zaf.l0 k x0 x5 ((x6.set (x25 : Int).toNat (shr .u32 (rd x23 x25) x5)).set (x25 : Int).toNat (Go.bits .or .u32 (rd (x6.set (x25 : Int).toNat (shr .u32 (rd x23 x25) x5)) x25) ((shl .u64 (IntKind.u64.wrap (rd x0 (wrap64 (x25 + 1)))) (wrap64 (32 - x5))) % 4294967296))) x23 x24 (wrap64 (x25 + 1))) else (none)) else (none)) else (none)) else (none)) else (none)) else (none)) else (none)) else (zaf.l0 k x0 x5 (x6.set (x25 : Int).toNat (shr .u32 (rd x23 x25) x5)) x23 x24 (wrap64 (x25 + 1)))) else (none)) else (none)) else (none)) else (none)) else (none)) else ((zk.f k x6).bind fun t167 => (some t167))
def zaf.f (k : Nat) (x0 : List Int) (x1 : Int) : Option (List Int) := if (wrap64 (Int.tdiv x1 32)) ≥ (x0.length : Int) then (some ([] : List Int)) else (if 0 ≤ (wrap64 (Int.tdiv x1 32)) then (if (wrap64 (Int.tdiv x1 32)) ≤ (x0.length : Int) then (if 0 ≤ ((x0.drop (wrap64 (Int.tdiv x1 32) : Int).toNat).length : Int) then (if (((x0.drop (wrap64 (Int.tdiv x1 32) : Int).toNat).length : Int) : Int).toNat ≤ 70368744177664 then (zaf.l0 k (x0.drop (wrap64 (Int.tdiv x1 32) : Int).toNat) (Int.tmod x1 32) (List.replicate (((x0.drop (wrap64 (Int.tdiv x1 32) : Int).toNat).length : Int) : Int).toNat (0 : Int)) (x0.drop (wrap64 (Int.tdiv x1 32) : Int).toNat) ((x0.drop (wrap64 (Int.tdiv x1 32) : Int).toNat).length : Int) 0) else (none)) else (none)) else (none)) else (none))
mutual
def zJ.j0 : Nat → Int → Int → Option (Int)
 | 0, _, _ => none
 | k + 1, x0, x2 => if x0 ≥ 256 then (zJ.j1 k (x0 / 256) (wrap64 (x2 + 8))) else (zJ.j1 k x0 x2)
def zJ.j1 : Nat → Int → Int → Option (Int)
 | 0, _, _ => none
 | k + 1, x0, x2 => if 0 ≤ x0 % 256 then (if x0 % 256 < (zdx.size : Int) then (some (wrap64 (x2 + (wrap64 (bt zdx (x0 % 256)))))) else (none)) else (none)
end
def zJ.f (k : Nat) (x0 : Int) : Option (Int) := if x0 ≥ 65536 then (zJ.j0 k (x0 / 65536) 16) else (zJ.j0 k x0 0)
def zP.f (k : Nat) (x0 : List Int) : Option (Int) := (zR.f x0).bind fun t177 => (if (!t177) = true then (some 0) else (if (x0.length : Int) = 0 then (some 0) else (if 0 ≤ wrap64 ((x0.length : Int) - 1) then (if wrap64 ((x0.length : Int) - 1) < (x0.length : Int) then ((zJ.f k (rd x0 (wrap64 ((x0.length : Int) - 1)))).bind fun t178 => (some (wrap64 ((wrap64 (32 * (wrap64 ((x0.length : Int) - 1)))) + t178)))) else (none)) else (none))))
def zam.l0 : Nat → List Int → Int → Int → List Int → Int → Int → Option (List Int)
 | 0, _, _, _, _, _, _ => none
 | k + 1, x5, x6, x7, x24, x25, x26 => if x26 < x25 then (if 0 ≤ x26 then (if x26 < (x24.length : Int) then (if 0 ≤ x6 then (if x5.length + ([Go.bits .or .u32 (shl .u32 (rd x24 x26) x6) x7] : List Int).length < 35184372088832 then (if 0 ≤ (wrap64 (32 - x6)) then (zam.l0 k (x5 ++ ([Go.bits .or .u32 (shl .u32 (rd x24 x26) x6) x7] : List Int)) x6 ((shr .u64 (IntKind.u64.wrap (rd x24 x26)) (wrap64 (32 - x6))) % 4294967296) x24 x25 (wrap64 (x26 + 1))) else (none)) else (none)) else (none)) else (none)) else (none)) else (if x5.length + ([x7] : List Int).length < 35184372088832 then ((zk.f k (x5 ++ ([x7] : List Int))).bind fun t180 => (some t180)) else (none))
def zam.f (k : Nat) (x0 : List Int) (x1 : Int) : Option (List Int) := if (x0.length : Int) = 0 then (some ([] : List Int)) else (if 0 ≤ (wrap64 (Int.tdiv x1 32)) then (if (wrap64 (Int.tdiv x1 32)) ≤ (wrap64 ((wrap64 ((wrap64 (Int.tdiv x1 32)) + (x0.length : Int))) + 1)) then (if (wrap64 ((wrap64 ((wrap64 (Int.tdiv x1 32)) + (x0.length : Int))) + 1) : Int).toNat ≤ 70368744177664 then (zam.l0 k (List.replicate (wrap64 (Int.tdiv x1 32) : Int).toNat (0 : Int)) (Int.tmod x1 32) 0 x0 (x0.length : Int) 0) else (none)) else (none)) else (none))
def zL.f (k : Nat) (x0 : List Int) (x1 : Int) : Option (List Int × Bool × Int) := (zR.f x0).bind fun t165 => (if (!t165) = true then (some (([] : List Int), false, 2)) else (if (x0.length : Int) = 0 then (some (([] : List Int), false, 0)) else (if x1 < (-131072) then (some (([] : List Int), true, 0)) else (if x1 < 0 then ((zaf.f k x0 (wrap64 (-x1))).bind fun t168 => ((zQ.f k x0).bind fun t169 => (some (t168, decide (t169 < (wrap64 (-x1))), 0)))) else ((zP.f k x0).bind fun t179 => (if x1 > (wrap64 (131072 - t179)) then (some (([] : List Int), false, 3)) else ((zam.f k x0 x1).bind fun t181 => (some (t181, false, 0)))))))))
def zF.f (k : Nat) (x0 : Bool) (x1 : List Int) (x2 : Int) : Option (Bool × List Int × Int × Int) := (zR.f x1).bind fun t188 => (if (!t188) = true then (some (false, ([] : List Int), 0, 2)) else (if (x1.length : Int) = 0 then (some (false, ([] : List Int), 0, 0)) else ((zQ.f k x1).bind fun t189 => (if x2 > (wrap64 (16777216 - t189)) then (some (false, ([] : List Int), 0, 20)) else (if x2 < (wrap64 ((-16777216) - t189)) then (some (false, ([] : List Int), 0, 20)) else ((zL.f k x1 (wrap64 (-t189))).bind fun t190 => (some (x0, t190.1, wrap64 (x2 + t189), 0))))))))
def zaU.j1 : Nat → Bool → List Int → Int → Int → Int → Int → Bool → Int → Int → Option (Bool × List Int × Int × Int)
 | 0, _, _, _, _, _, _, _, _, _ => none
 | k + 1, x4_0, x4_1, x4_2, x6_0, x6_1, x6_2, x8_0, x8_1, x8_2 => (zal.f k x8_2).bind fun t154 => ((zbV.f x6_0 x6_1 x6_2).bind fun t155 => ((zF.f k x8_0 t154 (wrap64 ((wrap64 ((mx x8_1 1) - 1)) + t155))).bind fun t191 => (some (t191.1, t191.2.1, t191.2.2.1, t191.2.2.2))))
def zaU.f (k : Nat) (x0 : Int) (x1 : Int) : Option (Bool × List Int × Int × Int) := (zbU.f k x0 x1).bind fun t151 => (if ¬ (t151.2.2.2 = 0) then (some (false, ([] : List Int), 0, t151.2.2.2)) else ((zbW.f t151.1 t151.2.1 t151.2.2.1 x1).bind fun t152 => (if t152.2.1 > 0 then (if 0 ≤ t151.1 then (zaU.j1 k false ([] : List Int) 0 t151.1 t151.2.1 t151.2.2.1 t152.1 t152.2.1 (Go.bits .or .u64 t152.2.2 (shl .u64 1 t151.1))) else (none)) else (zaU.j1 k false ([] : List Int) 0 t151.1 t151.2.1 t151.2.2.1 t152.1 t152.2.1 t152.2.2))))
def zcB.f (k : Nat) (x0 : Int) (x1_0 : Int) (x1_1 : Int) : Option (Bool × List Int × Int × Bool × List Int × Int) := (zaU.f k x0 x1_0).bind fun t192 => ((zaU.f k x0 x1_1).bind fun t193 => (some (t192.1, t192.2.1, t192.2.2.1, t193.1, t193.2.1, t193.2.2.1)))
def zH.l0 : Nat → List (Bool × List Int × Int) → Int → Int → Option (Bool)
 | 0, _, _, _ => none
 | k + 1, x5, x6, x7 => if x7 < x6 then (if 0 ≤ x7 then (if x7 < (x5.length : Int) then ((zx.f ((rdT [.b, .is .u32, .i .i64] x5 x7).1) ((rdT [.b, .is .u32, .i .i64] x5 x7).2.1) ((rdT [.b, .is .u32, .i .i64] x5 x7).2.2)).bind fun t195 => (if (!t195) = true then (some false) else (zH.l0 k x5 x6 (wrap64 (x7 + 1))))) else (none)) else (none)) else (some true)
def zH.f (k : Nat) (x0 : List (Bool × List Int × Int)) : Option (Bool) := zH.l0 k x0 (x0.length : Int) 0
def zI.l0 : Nat → List (List Int) → Int → Int → Option (Bool)
 | 0, _, _, _ => none
 | k + 1, x5, x6, x7 => if x7 < x6 then (if 0 ≤ x7 then (if x7 < (x5.length : Int) then ((zR.f (rdT [.is .u32] x5 x7)).bind fun t197 => (if (!t197) = true then (some false) else (zI.l0 k x5 x6 (wrap64 (x7 + 1))))) else (none)) else (none)) else (some true)
def zI.f (k : Nat) (x0 : List (List Int)) : Option (Bool) := zI.l0 k x0 (x0.length : Int) 0
mutual
def zy.l0 : Nat → List Int → List Int → List Int → Int → Int → Option (List Int)
 | 0, _, _, _, _, _ => none
 | k + 1, x1, x5, x18, x19, x20 => if x20 < x19 then (if 0 ≤ x20 then (if x20 < (x18.length : Int) then (zy.l1 k x1 x5 x20 (rd x18 x20) 0 x18 x19 x20 x1 (x1.length : Int) 0) else (none)) else (none)) else ((zk.f k x5).bind fun t201 => (some t201))
def zy.l1 : Nat → List Int → List Int → Int → Int → Int → List Int → Int → Int → List Int → Int → Int → Option (List Int)
 | 0, _, _, _, _, _, _, _, _, _, _, _ => none
 | k + 1, x1, x5, x6, x7, x8, x18, x19, x20, x25, x26, x27 => if x27 < x26 then (if 0 ≤ x27 then (if x27 < (x25.length : Int) then (if 0 ≤ wrap64 (x6 + x27) then (if wrap64 (x6 + x27) < (x5.length : Int) then (if 0 ≤ wrap64 (x6 + x27) then (if wrap64 (x6 + x27) < (x5.length : Int) then (zy.l1 k x1 (x5.set (wrap64 (x6 + x27) : Int).toNat ((IntKind.u64.wrap ((IntKind.u64.wrap ((IntKind.u64.wrap ((IntKind.u64.wrap x7) * (IntKind.u64.wrap (rd x25 x27)))) + (IntKind.u64.wrap (rd x5 (wrap64 (x6 + x27)))))) + x8)) % 4294967296)) x6 x7 ((IntKind.u64.wrap ((IntKind.u64.wrap ((IntKind.u64.wrap ((IntKind.u64.wrap x7) * (IntKind.u64.wrap (rd x25 x27)))) + (IntKind.u64.wrap (rd x5 (wrap64 (x6 + x27)))))) + x8)) / 4294967296) x18 x19 x20 x25 x26 (wrap64 (x27 + 1))) else (none)) else (none)) else (none)) else (none)) else (none)) else (none)) else (if 0 ≤ wrap64 (x6 + (x1.length : Int)) then (if wrap64 (x6 + (x1.length : Int)) < (x5.length : Int) then (zy.l0 k x1 (x5.set (wrap64 (x6 + (x1.length : Int)) : Int).toNat (x8 % 4294967296)) x18 x19 (wrap64 (x20 + 1))) else (none)) else (none))
end
def zy.f (k : Nat) (x0 : List Int) (x1 : List Int) : Option (List Int) := if 0 ≤ (wrap64 ((x0.length : Int) + (x1.length : Int))) then (if (wrap64 ((x0.length : Int) + (x1.length : Int)) : Int).toNat ≤ 70368744177664 then (zy.l0 k x1 (List.replicate (wrap64 ((x0.length : Int) + (x1.length : Int)) : Int).toNat (0 : Int)) x0 (x0.length : Int) 0) else (none)) else (none)
def z4.f (x0 : List Int) : Option (List Int × Int) := if (x0.length : Int) > 4096 then (some (([] : List Int), 3)) else (some (x0, 0))
def zbP.f (k : Nat) (x0 : List Int) (x1 : List Int) : Option (List Int × Int) := (zI.f k [x0, x1]).bind fun t208 => (if (!t208) = true then (some (([] : List Int), 2)) else (if (x0.length : Int) > 0 then (if (x1.length : Int) > 0 then (if (wrap64 ((wrap64 ((x0.length : Int) + (x1.length : Int))) - 1)) > 4096 then (some (([] : List Int), 3)) else ((zy.f k x0 x1).bind fun t209 => ((z4.f t209).bind fun t210 => (some (t210.1, t210.2))))) else ((zy.f k x0 x1).bind fun t211 => ((z4.f t211).bind fun t212 => (some (t212.1, t212.2))))) else ((zy.f k x0 x1).bind fun t213 => ((z4.f t213).bind fun t214 => (some (t214.1, t214.2))))))
def zbj.f (k : Nat) (x0_0 : Bool) (x0_1 : List Int) (x0_2 : Int) (x1_0 : Bool) (x1_1 : List Int) (x1_2 : Int) : Option (Bool × List Int × Int × Int) := (zH.f k [(x0_0, x0_1, x0_2), (x1_0, x1_1, x1_2)]).bind fun t196 => (if (!t196) = true then (some (false, ([] : List Int), 0, 2)) else ((zbP.f k x0_1 x1_1).bind fun t215 => (if ¬ (t215.2 = 0) then (some (false, ([] : List Int), 0, t215.2)) else ((zF.f k (decide (¬ ((x0_0) = (x1_0)))) t215.1 (wrap64 (x0_2 + x1_2))).bind fun t216 => (some (t216.1, t216.2.1, t216.2.2.1, t216.2.2.2))))))
def zV.f (k : Nat) (x0_0 : Bool) (x0_1 : List Int) (x0_2 : Int) (x1_0 : Bool) (x1_1 : List Int) (x1_2 : Int) : Option (Bool × List Int × Int) := (zbj.f k x0_0 x0_1 x0_2 x1_0 x1_1 x1_2).bind fun t217 => (some (t217.1, t217.2.1, t217.2.2.1))
def zav.f (x0_0 : Bool) (x0_1 : List Int) (x0_2 : Int) : Option (Bool × List Int × Int) := if x0_1.length < 35184372088832 then (some (x0_0, x0_1, x0_2)) else (none)
def zcz.f (x0_0 : Bool) (x0_1 : List Int) (x0_2 : Int) (x1 : Bool) : Option (Bool × List Int × Int) := (zav.f x0_0 x0_1 x0_2).bind fun t222 => (if x1 = true then (some (decide ((t222.2.1.length : Int) > 0), t222.2.1, t222.2.2)) else (some (false, t222.2.1, t222.2.2)))
def z5.l0 : Nat → List Int → List Int → Int → Option (Int)
 | 0, _, _, _ => none
 | k + 1, x0, x1, x5 => if x5 ≥ 0 then (if 0 ≤ x5 then (if x5 < (x0.length : Int) then (if 0 ≤ x5 then (if x5 < (x1.length : Int) then (if ¬ (rd x0 x5 = rd x1 x5) then (if 0 ≤ x5 then (if x5 < (x0.length : Int) then (if 0 ≤ x5 then (if x5 < (x1.length : Int) then (if (rd x0 x5) < (rd x1 x5) then (some (-1)) else (some 1)) else (none)) else (none)) else (none)) else (none)) else (z5.l0 k x0 x1 (wrap64 (x5 - 1)))) else (none)) else (none)) else (none)) else (none)) else (some 0)
def z5.f (k : Nat) (x0 : List Int) (x1 : List Int) : Option (Int) := if (x0.length : Int) < (x1.length : Int) then (some (-1)) else (if (x0.length : Int) > (x1.length : Int) then (some 1) else (z5.l0 k x0 x1 (wrap64 ((x0.length : Int) - 1))))
def zbe.f (x0 : Int) (x1 : Int) (x2 : Int) : Option (Int × Int) := some ((((x0 - x1) % 4294967296) - x2) % 4294967296, (Go.bits .or .u32 (Go.bits .and .u32 (Go.bits .xor .u32 4294967295 x0) x1) (Go.bits .and .u32 (Go.bits .xor .u32 4294967295 (Go.bits .xor .u32 x0 x1)) ((((x0 - x1) % 4294967296) - x2) % 4294967296))) / 2147483648)
mutual
def zG.l0 : Nat → List Int → List Int → List Int → Int → Int → Int → Option (List Int)
 | 0, _, _, _, _, _, _ => none
 | k + 1, x0, x1, x5, x6, x13, x14 => if x14 < x13 then (if x14 < (x1.length : Int) then (if 0 ≤ x14 then (if x14 < (x1.length : Int) then (zG.j1 k x0 x1 x5 x6 x14 (rd x1 x14) x13 x14) else (none)) else (none)) else (zG.j1 k x0 x1 x5 x6 x14 0 x13 x14)) else ((zk.f k x5).bind fun t238 => (some t238))
def zG.j1 : Nat → List Int → List Int → List Int → Int → Int → Int → Int → Int → Option (List Int)
 | 0, _, _, _, _, _, _, _, _ => none
 | k + 1, x0, x1, x5, x6, x7, x8, x13, x14 => if 0 ≤ x7 then (if x7 < (x0.length : Int) then ((zbe.f (rd x0 x7) x8 x6).bind fun t237 => (if 0 ≤ x7 then (if x7 < (x5.length : Int) then (zG.l0 k x0 x1 (x5.set (x7 : Int).toNat t237.1) t237.2 x13 (wrap64 (x14 + 1))) else (none)) else (none))) else (none)) else (none)
end
def zG.f (k : Nat) (x0 : List Int) (x1 : List Int) : Option (List Int) := if 0 ≤ (x0.length : Int) then (if ((x0.length : Int) : Int).toNat ≤ 70368744177664 then (zG.l0 k x0 x1 (List.replicate ((x0.length : Int) : Int).toNat (0 : Int)) 0 (x0.length : Int) 0) else (none)) else (none)
def zaH.f (k : Nat) (x0 : List Int) (x1 : List Int) : Option (List Int × Int) := (zI.f k [x0, x1]).bind fun t232 => (if (!t232) = true then (some (([] : List Int), 2)) else ((z5.f k x0 x1).bind fun t233 => (if t233 < 0 then (some (([] : List Int), 10)) else ((zG.f k x0 x1).bind fun t239 => (some (t239, 0))))))
def zbd.f (x0 : Int) (x1 : Int) (x2 : Int) : Option (Int × Int) := some ((IntKind.u64.wrap ((IntKind.u64.wrap ((IntKind.u64.wrap x0) + (IntKind.u64.wrap x1))) + (IntKind.u64.wrap x2))) % 4294967296, ((IntKind.u64.wrap ((IntKind.u64.wrap ((IntKind.u64.wrap x0) + (IntKind.u64.wrap x1))) + (IntKind.u64.wrap x2))) / 4294967296) % 4294967296)
mutual
def zl.l0 : Nat → List Int → List Int → List Int → Int → Int → Int → Option (List Int × Int)
 | 0, _, _, _, _, _, _ => none
 | k + 1, x0, x1, x6, x7, x27, x28 => if x28 < x27 then (if x28 < (x1.length : Int) then (if 0 ≤ x28 then (if x28 < (x1.length : Int) then (zl.j3 k x0 x1 x6 x7 x28 (rd x1 x28) x27 x28) else (none)) else (none)) else (zl.j3 k x0 x1 x6 x7 x28 0 x27 x28)) else (if 0 ≤ (x0.length : Int) then (if (x0.length : Int) < (x6.length : Int) then ((zk.f k (x6.set ((x0.length : Int) : Int).toNat x7)).bind fun t255 => ((z4.f t255).bind fun t256 => (some (t256.1, t256.2)))) else (none)) else (none))
def zl.j1 : Nat → List Int → List Int → Option (List Int × Int)
 | 0, _, _ => none
 | k + 1, x0, x1 => if 0 ≤ (wrap64 ((x0.length : Int) + 1)) then (if (wrap64 ((x0.length : Int) + 1) : Int).toNat ≤ 70368744177664 then (zl.l0 k x0 x1 (List.replicate (wrap64 ((x0.length : Int) + 1) : Int).toNat (0 : Int)) 0 (x0.length : Int) 0) else (none)) else (none)
def zl.j3 : Nat → List Int → List Int → List Int → Int → Int → Int → Int → Int → Option (List Int × Int)
 | 0, _, _, _, _, _, _, _, _ => none
 | k + 1, x0, x1, x6, x7, x8, x9, x27, x28 => if 0 ≤ x8 then (if x8 < (x0.length : Int) then ((zbd.f (rd x0 x8) x9 x7).bind fun t254 => (if 0 ≤ x8 then (if x8 < (x6.length : Int) then (zl.l0 k x0 x1 (x6.set (x8 : Int).toNat t254.1) t254.2 x27 (wrap64 (x28 + 1))) else (none)) else (none))) else (none)) else (none)
end
def zl.f (k : Nat) (x0 : List Int) (x1 : List Int) : Option (List Int × Int) := (zI.f k [x0, x1]).bind fun t253 => (if (!t253) = true then (some (([] : List Int), 2)) else (if (x0.length : Int) < (x1.length : Int) then (zl.j1 k x1 x0) else (zl.j1 k x0 x1)))
def zcy.f (k : Nat) (x0_0 : Bool) (x0_1 : List Int) (x0_2 : Int) (x1_0 : Bool) (x1_1 : List Int) (x1_2 : Int) (x2 : Int) : Option (Bool × List Int × Int × Int) := if (x0_0) = (x1_0) then (some (false, ([] : List Int), 0, 3)) else ((zL.f k x0_1 (wrap64 (x2 - 1))).bind fun t230 => ((zL.f k x1_1 (-1)).bind fun t231 => ((zaH.f k t230.1 t231.1).bind fun t240 => (if ¬ (t240.2 = 0) then (some (false, ([] : List Int), 0, 3)) else ((zl.f k t240.1 t240.1).bind fun t257 => (if t257.2 = 0 then ((zal.f k 1).bind fun t258 => ((zaH.f k t257.1 t258).bind fun t259 => ((zF.f k x0_0 t259.1 x1_2).bind fun t260 => (some (t260.1, t260.2.1, t260.2.2.1, t260.2.2.2))))) else ((zP.f k t240.1).bind fun t261 => ((zQ.f k t240.1).bind fun t262 => (if t261 = (wrap64 (t262 + 1)) then ((zal.f k 1).bind fun t263 => ((zaH.f k t240.1 t263).bind fun t264 => ((zl.f k t264.1 t240.1).bind fun t265 => ((zF.f k x0_0 t265.1 x1_2).bind fun t266 => (some (t266.1, t266.2.1, t266.2.2.1, t266.2.2.2)))))) else (some (false, ([] : List Int), 0, 3)))))))))))
def za3.j1 : Nat → Bool → Int → Bool → List Int → Int → List Int → Option (Bool × List Int × Int × Int)
 | 0, _, _, _, _, _, _ => none
 | k + 1, x0, x3, x8_0, x8_1, x8_2, x16 => (zF.f k x0 x16 (wrap64 (x3 + 1))).bind fun t280 => (some (t280.1, t280.2.1, t280.2.2.1, t280.2.2.2))
def za3.f (k : Nat) (x0 : Bool) (x1 : List Int) (x2 : List Int) (x3 : Int) : Option (Bool × List Int × Int × Int) := if 0 < (x1.length : Int) then (if 0 < (x2.length : Int) then (if ¬ (Go.bits .and .u32 (rd x1 0) 1 = Go.bits .and .u32 (rd x2 0) 1) then (some (false, ([] : List Int), 0, 3)) else ((zL.f k x1 (-1)).bind fun t275 => ((zL.f k x2 (-1)).bind fun t276 => ((zl.f k t275.1 t276.1).bind fun t277 => (if 0 < (x1.length : Int) then (if (Go.bits .and .u32 (rd x1 0) 1) = 1 then ((zal.f k 1).bind fun t278 => ((zl.f k t277.1 t278).bind fun t279 => (za3.j1 k x0 x3 false ([] : List Int) 0 t279.1))) else (za3.j1 k x0 x3 false ([] : List Int) 0 t277.1)) else (none)))))) else (none)) else (none)
def za5.f (k : Nat) (x0 : List Int) (x1 : List Int) : Option (Int × Int) := (zI.f k [x0, x1]).bind fun t283 => (if (!t283) = true then (some (0, 2)) else ((z5.f k x0 x1).bind fun t284 => (some (t284, 0))))
def zaj.j2 : Nat → Bool → List Int → List Int → Int → Bool → List Int → Int → Option (Bool × List Int × Int × Int)
 | 0, _, _, _, _, _, _, _ => none
 | k + 1, x0, x1, x3, x4, x10_0, x10_1, x10_2 => (zaH.f k x1 x3).bind fun t290 => ((zF.f k x0 t290.1 x4).bind fun t291 => (some (t291.1, t291.2.1, t291.2.2.1, t291.2.2.2)))
def zaj.f (k : Nat) (x0 : Bool) (x1 : List Int) (x2 : Bool) (x3 : List Int) (x4 : Int) : Option (Bool × List Int × Int × Int) := if (x0) = (x2) then ((zl.f k x1 x3).bind fun t286 => (if ¬ (t286.2 = 0) then ((za3.f k x0 x1 x3 x4).bind fun t287 => (some (t287.1, t287.2.1, t287.2.2.1, t287.2.2.2))) else ((zF.f k x0 t286.1 x4).bind fun t288 => (some (t288.1, t288.2.1, t288.2.2.1, t288.2.2.2))))) else ((za5.f k x1 x3).bind fun t289 => (if t289.1 < 0 then (zaj.j2 k x2 x3 x1 x4 false ([] : List Int) 0) else (zaj.j2 k x0 x1 x3 x4 false ([] : List Int) 0)))
def zad.j1 : Nat → Bool → List Int → Int → Bool → List Int → Int → Bool → List Int → Int → Option (Bool × List Int × Int × Int)
 | 0, _, _, _, _, _, _, _, _, _ => none
 | k + 1, x2_0, x2_1, x2_2, x3_0, x3_1, x3_2, x4_0, x4_1, x4_2 => (zP.f k x2_1).bind fun t228 => (if (wrap64 ((wrap64 (x2_2 - x3_2)) + t228)) > 131073 then (some (false, ([] : List Int), 0, 3)) else ((zP.f k x2_1).bind fun t229 => (if (wrap64 ((wrap64 (x2_2 - x3_2)) + t229)) > 131072 then ((zcy.f k x2_0 x2_1 x2_2 x3_0 x3_1 x3_2 (wrap64 (x2_2 - x3_2))).bind fun t267 => (some (t267.1, t267.2.1, t267.2.2.1, t267.2.2.2))) else ((zL.f k x2_1 (wrap64 (x2_2 - x3_2))).bind fun t268 => ((zaj.f k x2_0 t268.1 x3_0 x3_1 x3_2).bind fun t292 => (some (t292.1, t292.2.1, t292.2.2.1, t292.2.2.2)))))))
def zad.f (k : Nat) (x0_0 : Bool) (x0_1 : List Int) (x0_2 : Int) (x1_0 : Bool) (x1_1 : List Int) (x1_2 : Int) : Option (Bool × List Int × Int × Int) := if (x0_1.length : Int) = 0 then ((zav.f x1_0 x1_1 x1_2).bind fun t226 => (some (t226.1, t226.2.1, t226.2.2, 0))) else (if (x1_1.length : Int) = 0 then ((zav.f x0_0 x0_1 x0_2).bind fun t227 => (some (t227.1, t227.2.1, t227.2.2, 0))) else (if x0_2 < x1_2 then (zad.j1 k x1_0 x1_1 x1_2 x0_0 x0_1 x0_2 false ([] : List Int) 0) else (zad.j1 k x0_0 x0_1 x0_2 x1_0 x1_1 x1_2 false ([] : List Int) 0)))
def zcx.f (k : Nat) (x0_0 : Bool) (x0_1 : List Int) (x0_2 : Int) (x1_0 : Bool) (x1_1 : List Int) (x1_2 : Int) : Option (Bool × List Int × Int × Int) := (zH.f k [(x0_0, x0_1, x0_2), (x1_0, x1_1, x1_2)]).bind fun t219 => (if (!t219) = true then (some (false, ([] : List Int), 0, 2)) else ((zcz.f x1_0 x1_1 x1_2 (!x1_0)).bind fun t223 => ((zad.f k x0_0 x0_1 x0_2 t223.1 t223.2.1 t223.2.2).bind fun t293 => (some (t293.1, t293.2.1, t293.2.2.1, t293.2.2.2)))))
def zb9.f (k : Nat) (x0_0 : Bool) (x0_1 : List Int) (x0_2 : Int) (x1_0 : Bool) (x1_1 : List Int) (x1_2 : Int) : Option (Bool × List Int × Int) := (zcx.f k x0_0 x0_1 x0_2 x1_0 x1_1 x1_2).bind fun t294 => (some (t294.1, t294.2.1, t294.2.2.1))
def zbi.f (k : Nat) (x0_0 : Bool) (x0_1 : List Int) (x0_2 : Int) (x1_0 : Bool) (x1_1 : List Int) (x1_2 : Int) : Option (Bool × List Int × Int × Int) := (zH.f k [(x0_0, x0_1, x0_2), (x1_0, x1_1, x1_2)]).bind fun t300 => (if (!t300) = true then (some (false, ([] : List Int), 0, 2)) else ((zad.f k x0_0 x0_1 x0_2 x1_0 x1_1 x1_2).bind fun t301 => (some (t301.1, t301.2.1, t301.2.2.1, t301.2.2.2))))
def zbK.f (k : Nat) (x0_0 : Bool) (x0_1 : List Int) (x0_2 : Int) (x1_0 : Bool) (x1_1 : List Int) (x1_2 : Int) : Option (Bool × List Int × Int) := (zbi.f k x0_0 x0_1 x0_2 x1_0 x1_1 x1_2).bind fun t302 => (some (t302.1, t302.2.1, t302.2.2.1))
def zaP.f (k : Nat) (x0_0 : Bool) (x0_1 : List Int) (x0_2 : Int) (x0_3 : Bool) (x0_4 : List Int) (x0_5 : Int) : Option (Bool × List Int × Int) := (zV.f k x0_0 x0_1 x0_2 x0_0 x0_1 x0_2).bind fun t298 => ((zV.f k x0_3 x0_4 x0_5 x0_3 x0_4 x0_5).bind fun t299 => ((zbK.f k t298.1 t298.2.1 t298.2.2 t299.1 t299.2.1 t299.2.2).bind fun t303 => (some (t303.1, t303.2.1, t303.2.2))))
def zbm.f (x0 : Int) : Option (Int) := if x0 = 1 then (some 24) else (some 53)
def za2.f (x0_0 : Bool) (x0_1 : List Int) (x0_2 : Int) (x1 : Int) : Option (Bool × List Int × Int × Int) := (zx.f x0_0 x0_1 x0_2).bind fun t313 => (if (!t313) = true then (some (false, ([] : List Int), 0, 2)) else (if (x0_1.length : Int) = 0 then (some (false, ([] : List Int), 0, 0)) else (if x1 > (wrap64 (16777216 - x0_2)) then (some (false, ([] : List Int), 0, 20)) else (if x1 < (wrap64 ((-16777216) - x0_2)) then (some (false, ([] : List Int), 0, 20)) else ((zav.f x0_0 x0_1 x0_2).bind fun t314 => (some (t314.1, t314.2.1, wrap64 (t314.2.2 + x1), 0)))))))
def zbL.f (k : Nat) (x0 : Int) (x1_0 : Int) (x1_1 : Int) (x2_0 : Bool) (x2_1 : List Int) (x2_2 : Int) (x3_0 : Bool) (x3_1 : List Int) (x3_2 : Int) (x4_0 : Bool) (x4_1 : List Int) (x4_2 : Int) : Option (Bool × List Int × Int × Bool × List Int × Int) := (zcB.f k x0 x1_0 x1_1).bind fun t194 => ((zV.f k t194.1 t194.2.1 t194.2.2.1 x4_0 x4_1 x4_2).bind fun t218 => ((zb9.f k t218.1 t218.2.1 t218.2.2 x2_0 x2_1 x2_2).bind fun t295 => ((zV.f k t194.2.2.2.1 t194.2.2.2.2.1 t194.2.2.2.2.2 x4_0 x4_1 x4_2).bind fun t296 => ((zb9.f k t296.1 t296.2.1 t296.2.2 x3_0 x3_1 x3_2).bind fun t297 => ((zaP.f k t295.1 t295.2.1 t295.2.2 t297.1 t297.2.1 t297.2.2).bind fun t304 => ((zbm.f x0).bind fun t305 => ((za2.f t304.1 t304.2.1 t304.2.2 (wrap64 (2 * t305))).bind fun t315 => ((zaP.f k x2_0 x2_1 x2_2 x3_0 x3_1 x3_2).bind fun t316 => (some (t315.1, t315.2.1, t315.2.2.1, t316.1, t316.2.1, t316.2.2))))))))))
def zaN.f (k : Nat) (x0_0 : Bool) (x0_1 : List Int) (x0_2 : Int) : Option (Int) := (zx.f x0_0 x0_1 x0_2).bind fun t332 => (if (!t332) = true then (some 0) else (if (x0_1.length : Int) = 0 then (some 0) else ((zP.f k x0_1).bind fun t333 => (some (wrap64 (x0_2 + t333))))))
def z3.j1 : Nat → List Int → List Int → Option (Int)
 | 0, _, _ => none
 | k + 1, x5, x6 => (za5.f k x5 x6).bind fun t349 => (some t349.1)
def z3.f (k : Nat) (x0_0 : Bool) (x0_1 : List Int) (x0_2 : Int) (x1_0 : Bool) (x1_1 : List Int) (x1_2 : Int) : Option (Int) := (zaN.f k x0_0 x0_1 x0_2).bind fun t341 => ((zaN.f k x1_0 x1_1 x1_2).bind fun t342 => (if t341 < t342 then (some (-1)) else ((zaN.f k x0_0 x0_1 x0_2).bind fun t343 => ((zaN.f k x1_0 x1_1 x1_2).bind fun t344 => (if t343 > t344 then (some 1) else ((zP.f k x0_1).bind fun t345 => ((zP.f k x1_1).bind fun t346 => (if (wrap64 (t345 - t346)) > 0 then ((zL.f k x1_1 (wrap64 (t345 - t346))).bind fun t347 => (z3.j1 k x0_1 t347.1)) else ((zL.f k x0_1 (wrap64 (-(wrap64 (t345 - t346))))).bind fun t348 => (z3.j1 k t348.1 x1_1))))))))))
def zaM.f (k : Nat) (x0_0 : Bool) (x0_1 : List Int) (x0_2 : Int) (x1_0 : Bool) (x1_1 : List Int) (x1_2 : Int) : Option (Int × Int) := (zH.f k [(x0_0, x0_1, x0_2), (x1_0, x1_1, x1_2)]).bind fun t322 => (if (!t322) = true then (some (0, 2)) else ((zac.f k x0_0 x0_1 x0_2).bind fun t323 => ((zac.f k x1_0 x1_1 x1_2).bind fun t324 => (if t323 < t324 then (some ((-1), 0)) else (if t323 > t324 then (some (1, 0)) else ((z3.f k x0_0 x0_1 x0_2 x1_0 x1_1 x1_2).bind fun t350 => (some (wrap64 (t323 * t350), 0))))))))
def zbl.f (k : Nat) (x0_0 : Bool) (x0_1 : List Int) (x0_2 : Int) (x1_0 : Bool) (x1_1 : List Int) (x1_2 : Int) (x2 : Int) : Option (Bool) := (zal.f k x2).bind fun t318 => ((zF.f k false t318 0).bind fun t319 => ((zV.f k t319.1 t319.2.1 t319.2.2.1 t319.1 t319.2.1 t319.2.2.1).bind fun t320 => ((zV.f k t320.1 t320.2.1 t320.2.2 x1_0 x1_1 x1_2).bind fun t321 => ((zaM.f k x0_0 x0_1 x0_2 t321.1 t321.2.1 t321.2.2).bind fun t351 => (some (decide (t351.1 ≤ 0)))))))
def zaO.l0 : Nat → Bool → List Int → Int → Bool → List Int → Int → Int → Int → Option (Int × Int)
 | 0, _, _, _, _, _, _, _, _ => none
 | k + 1, x13_0, x13_1, x13_2, x14_0, x14_1, x14_2, x15, x16 => if x15 < x16 then ((zbl.f k x13_0 x13_1 x13_2 x14_0 x14_1 x14_2 (IntKind.u64.wrap (Int.tdiv (IntKind.u64.wrap (x15 + x16)) 2))).bind fun t356 => (if t356 = true then (zaO.l0 k x13_0 x13_1 x13_2 x14_0 x14_1 x14_2 x15 (IntKind.u64.wrap (Int.tdiv (IntKind.u64.wrap (x15 + x16)) 2))) else (zaO.l0 k x13_0 x13_1 x13_2 x14_0 x14_1 x14_2 (IntKind.u64.wrap ((IntKind.u64.wrap (Int.tdiv (IntKind.u64.wrap (x15 + x16)) 2)) + 1)) x16))) else (some (x15, 0))
def zaO.f (k : Nat) (x0 : Int) (x1_0 : Int) (x1_1 : Int) (x2_0 : Bool) (x2_1 : List Int) (x2_2 : Int) (x3_0 : Bool) (x3_1 : List Int) (x3_2 : Int) (x4_0 : Bool) (x4_1 : List Int) (x4_2 : Int) : Option (Int × Int) := (zi.f k x0 x1_0 x1_1 0 x2_0 x2_1 x2_2 x3_0 x3_1 x3_2 x4_0 x4_1 x4_2).bind fun t353 => (if ¬ (t353 = 0) then (some (0, t353)) else ((zbL.f k x0 x1_0 x1_1 x2_0 x2_1 x2_2 x3_0 x3_1 x3_2 x4_0 x4_1 x4_2).bind fun t354 => ((zbl.f k t354.1 t354.2.1 t354.2.2.1 t354.2.2.2.1 t354.2.2.2.2.1 t354.2.2.2.2.2 4294967295).bind fun t355 => (if (!t355) = true then (some (0, 20)) else (zaO.l0 k t354.1 t354.2.1 t354.2.2.1 t354.2.2.2.1 t354.2.2.2.2.1 t354.2.2.2.2.2 0 4294967295)))))
def zcA.f (k : Nat) (x0 : Int) (x1_0 : Int) (x1_1 : Int) (x2_0 : Bool) (x2_1 : List Int) (x2_2 : Int) (x3_0 : Bool) (x3_1 : List Int) (x3_2 : Int) (x4_0 : Bool) (x4_1 : List Int) (x4_2 : Int) (x5 : Int) : Option (Bool × Int) := (zi.f k x0 x1_0 x1_1 x5 x2_0 x2_1 x2_2 x3_0 x3_1 x3_2 x4_0 x4_1 x4_2).bind fun t360 => (if ¬ (t360 = 0) then (some (false, t360)) else ((zbL.f k x0 x1_0 x1_1 x2_0 x2_1 x2_2 x3_0 x3_1 x3_2 x4_0 x4_1 x4_2).bind fun t361 => ((zbl.f k t361.1 t361.2.1 t361.2.2.1 t361.2.2.2.1 t361.2.2.2.2.1 t361.2.2.2.2.2 (IntKind.u64.wrap x5)).bind fun t362 => (some (t362, 0)))))
def zaX.f (k : Nat) : Option (Bool) := (zat.f k 1).bind fun t370 => ((zat.f k 1).bind fun t371 => ((zaO.f k 1 1065353217 0 t370.1 t370.2.1 t370.2.2 false ([] : List Int) 0 t371.1 t371.2.1 t371.2.2).bind fun t372 => ((zat.f k 1).bind fun t373 => ((zat.f k 1).bind fun t374 => ((zcA.f k 1 1065353217 0 t373.1 t373.2.1 t373.2.2 false ([] : List Int) 0 t374.1 t374.2.1 t374.2.2 1).bind fun t375 => (if t372.1 = 2 then (if t372.2 = 0 then (if (!t375.1) = true then (some (decide (t375.2 = 0))) else (some false)) else (some false)) else (some false)))))))
def zcj.f (k : Nat) (x0 : Int) (x1 : Int) : Option (Bool × List Int × Int × Int) := (zbU.f k x0 x1).bind fun t378 => (if ¬ (t378.2.2.2 = 0) then (some (false, ([] : List Int), 0, t378.2.2.2)) else ((zal.f k 1).bind fun t379 => ((zbW.f t378.1 t378.2.1 t378.2.2.1 x1).bind fun t380 => ((zbV.f t378.1 t378.2.1 t378.2.2.1).bind fun t381 => ((zF.f k false t379 (wrap64 ((wrap64 ((mx t380.2.1 1) - 1)) + t381))).bind fun t382 => (some (t382.1, t382.2.1, t382.2.2.1, t382.2.2.2)))))))
def zaE.f (k : Nat) (x0 : Int) (x1_0 : Bool) (x1_1 : List Int) (x1_2 : Int) (x2_0 : Bool) (x2_1 : List Int) (x2_2 : Int) (x3_0 : Bool) (x3_1 : List Int) (x3_2 : Int) : Option (Bool × Int) := (zi.f k x0 0 0 0 x1_0 x1_1 x1_2 x2_0 x2_1 x2_2 x3_0 x3_1 x3_2).bind fun t377 => (if ¬ (t377 = 0) then (some (false, t377)) else ((zcj.f k x0 0).bind fun t383 => ((zbm.f x0).bind fun t384 => ((za2.f t383.1 t383.2.1 t383.2.2.1 (wrap64 ((wrap64 (t384 - 1)) + 64))).bind fun t385 => ((zV.f k t385.1 t385.2.1 t385.2.2.1 x3_0 x3_1 x3_2).bind fun t386 => ((zaP.f k x1_0 x1_1 x1_2 x2_0 x2_1 x2_2).bind fun t387 => ((zV.f k t386.1 t386.2.1 t386.2.2 t386.1 t386.2.1 t386.2.2).bind fun t388 => ((zaM.f k t387.1 t387.2.1 t387.2.2 t388.1 t388.2.1 t388.2.2).bind fun t389 => (some (decide (t389.1 ≥ 0), 0))))))))))
def za1.f (x0 : Int) : Option (Bool) := if x0 = 1 then (some true) else (some (decide (x0 = 2)))
def zbh.f (x0 : Int) (x1 : Int) : Option (Int) := (za1.f x0).bind fun t398 => (if (!t398) = true then (some 4) else (if x0 = 1 then (if x1 ≥ 4294967296 then (some 6) else (some 0)) else (some 0)))
def zZ.l0 : Nat → Int → List (Int × Int) → Int → Option (Int)
 | 0, _, _, _ => none
 | k + 1, x0, x1, x5 => if x5 < (x1.length : Int) then (if 0 ≤ x5 then (if x5 < (x1.length : Int) then ((zbh.f x0 ((rdT [.i .u64, .i .u64] x1 x5).1)).bind fun t412 => (if ¬ (t412 = 0) then (some 6) else (if 0 ≤ x5 then (if x5 < (x1.length : Int) then ((zbh.f x0 ((rdT [.i .u64, .i .u64] x1 x5).2)).bind fun t413 => (if ¬ (t413 = 0) then (some 6) else (zZ.l0 k x0 x1 (wrap64 (x5 + 1))))) else (none)) else (none)))) else (none)) else (none)) else (some 0)
def zZ.f (k : Nat) (x0 : Int) (x1 : List (Int × Int)) : Option (Int) := (za1.f x0).bind fun t411 => (if (!t411) = true then (some 4) else (zZ.l0 k x0 x1 0))
def zb4.f (x0 : List Int) : Option (Bool) := if (x0.length : Int) ≤ 4096 then (if (x0.length : Int) = 0 then (some true) else (if 0 ≤ wrap64 ((x0.length : Int) - 1) then (if wrap64 ((x0.length : Int) - 1) < (x0.length : Int) then (some (decide (¬ (rd x0 (wrap64 ((x0.length : Int) - 1)) = 0)))) else (none)) else (none))) else (some false)
def zaZ.f (x0_0 : Bool) (x0_1 : List Int) (x0_2 : Int) : Option (Bool) := (zb4.f x0_1).bind fun t418 => (if (!t418) = true then (some false) else (if (x0_1.length : Int) = 0 then (if (!x0_0) = true then (some (decide (x0_2 = 0))) else (some false)) else (if 0 < (x0_1.length : Int) then (if (Int.tmod (rd x0_1 0) 2) = 1 then (if x0_2 ≥ (-16777216) then (some (decide (x0_2 ≤ 16777216))) else (some false)) else (some false)) else (none))))
def zaD.f (x0_0 : Bool) (x0_1 : List Int) (x0_2 : Int) : Option (Int) := if (x0_1.length : Int) = 0 then (some 0) else (if x0_0 = true then (some (-1)) else (some 1))
def zbF.f (x0 : Int) : Option (Int) := if x0 = 1 then (some 2147483648) else (some 9223372036854775808)
def za0.f (x0 : Int) : Option (Int) := if x0 = 1 then (some 23) else (some 52)
def zbG.f (x0 : Int) (x1 : Int) : Option (Bool × Int × Int) := (zbF.f x0).bind fun t429 => ((zbF.f x0).bind fun t430 => (if t430 = 0 then (none) else ((za0.f x0).bind fun t431 => (if 0 ≤ t431 then (if (shl .u64 1 t431) = 0 then (none) else ((za0.f x0).bind fun t432 => (if 0 ≤ t432 then (some (decide (x1 ≥ t429), wrap64 (shr .u64 (Int.tmod x1 t430) t432), Int.tmod (Int.tmod x1 t430) (shl .u64 1 t431))) else (none)))) else (none)))))
def zbE.f (x0 : Int) : Option (Int) := if x0 = 1 then (some 255) else (some 2047)
def zbD.f (x0 : Int) (x1 : Int) : Option (Int) := (zbG.f x0 x1).bind fun t440 => (if t440.2.1 = 0 then (if t440.2.2 = 0 then (some 1) else (if t440.2.1 = 0 then (some 2) else ((zbE.f x0).bind fun t441 => (if t440.2.1 < t441 then (some 3) else (if t440.2.2 = 0 then (some 4) else (some 5)))))) else (if t440.2.1 = 0 then (some 2) else ((zbE.f x0).bind fun t442 => (if t440.2.1 < t442 then (some 3) else (if t440.2.2 = 0 then (some 4) else (some 5))))))
def zbg.f (x0 : Int) (x1 : Int) : Option (Bool) := (zbD.f x0 x1).bind fun t445 => (if ¬ (t445 = 4) then (some (decide (¬ (t445 = 5)))) else (some false))
def zbH.f (x0 : Int) (x1_0 : Int) (x1_1 : Int) : Option (Bool) := (zbg.f x0 x1_0).bind fun t450 => (if t450 = true then ((zbg.f x0 x1_1).bind fun t451 => (some t451)) else (some false))
def zab.l0 : Nat → List (Bool × List Int × Int) → Int → Option (Bool)
 | 0, _, _ => none
 | k + 1, x0, x3 => if x3 < (x0.length : Int) then (if 0 ≤ x3 then (if x3 < (x0.length : Int) then (if (((rdT [.b, .is .u32, .i .i64] x0 x3).2.1).length : Int) > 400 then (some false) else (if 0 ≤ x3 then (if x3 < (x0.length : Int) then (if ((rdT [.b, .is .u32, .i .i64] x0 x3).2.2) < (-20000) then (some false) else (if 0 ≤ x3 then (if x3 < (x0.length : Int) then (if ((rdT [.b, .is .u32, .i .i64] x0 x3).2.2) > 20000 then (some false) else (zab.l0 k x0 (wrap64 (x3 + 1)))) else (none)) else (none))) else (none)) else (none))) else (none)) else (none)) else (some true)
def zab.f (k : Nat) (x0 : List (Bool × List Int × Int)) : Option (Bool) := zab.l0 k x0 0
def zaY.f (k : Nat) (x0 : Int) (x1_0 : Int) (x1_1 : Int) (x2_0 : Bool) (x2_1 : List Int) (x2_2 : Int) (x2_3 : Bool) (x2_4 : List Int) (x2_5 : Int) (x2_6 : Bool) (x2_7 : List Int) (x2_8 : Int) (x3 : Int) : Option (Int) := (zZ.f k x0 [(x1_0, x1_1)]).bind fun t463 => (if ¬ (t463 = 0) then (some t463) else ((zaZ.f x2_0 x2_1 x2_2).bind fun t464 => (if (!t464) = true then (some 2) else ((zaZ.f x2_3 x2_4 x2_5).bind fun t465 => (if (!t465) = true then (some 2) else ((zaZ.f x2_6 x2_7 x2_8).bind fun t466 => (if (!t466) = true then (some 2) else (if x3 < 0 then (some 2) else ((zaD.f x2_6 x2_7 x2_8).bind fun t467 => (if t467 = 0 then (some 11) else ((zbH.f x0 x1_0 x1_1).bind fun t468 => (if (!t468) = true then (some 7) else ((zab.f k [(x2_0, x2_1, x2_2), (x2_3, x2_4, x2_5), (x2_6, x2_7, x2_8)]).bind fun t469 => (if (!t469) = true then (some 3) else (some 0)))))))))))))))
def zb5.f (x0 : Int) : Option (Int) := if x0 = 1 then (some (-149)) else (some (-1074))
def zbC.f (x0 : Int) : Option (Bool × List Int × Int) := some (false, ([1] : List Int), x0)
mutual
def zo.l0 : Nat → List Int → List Int → List Int → Int → Int → Int → Option (List Int)
 | 0, _, _, _, _, _, _ => none
 | k + 1, x0, x1, x5, x6, x7, x8 => if x8 < (wrap64 ((x0.length : Int) + (x1.length : Int))) then (if x8 ≥ (x1.length : Int) then (zo.j3 k x0 x1 x5 x6 x7 x8 (wrap64 ((wrap64 (x8 - (x1.length : Int))) + 1))) else (zo.j3 k x0 x1 x5 x6 x7 x8 0)) else ((zm.f k x5).bind fun t482 => (some t482))
def zo.l1 : Nat → List Int → List Int → List Int → Int → Int → Int → Int → Option (List Int)
 | 0, _, _, _, _, _, _, _ => none
 | k + 1, x0, x1, x5, x6, x7, x8, x10 => if x10 ≤ x8 then (if x10 < (x0.length : Int) then (if 0 ≤ x10 then (if x10 < (x0.length : Int) then (if 0 ≤ wrap64 (x8 - x10) then (if wrap64 (x8 - x10) < (x1.length : Int) then (if (IntKind.u64.wrap (x6 + (IntKind.u64.wrap ((IntKind.u64.wrap (rd x0 x10)) * (IntKind.u64.wrap (rd x1 (wrap64 (x8 - x10)))))))) < (IntKind.u64.wrap ((IntKind.u64.wrap (rd x0 x10)) * (IntKind.u64.wrap (rd x1 (wrap64 (x8 - x10)))))) then (zo.l1 k x0 x1 x5 (IntKind.u64.wrap (x6 + (IntKind.u64.wrap ((IntKind.u64.wrap (rd x0 x10)) * (IntKind.u64.wrap (rd x1 (wrap64 (x8 - x10)))))))) (IntKind.u64.wrap (x7 + 1)) x8 (wrap64 (x10 + 1))) else (zo.l1 k x0 x1 x5 (IntKind.u64.wrap (x6 + (IntKind.u64.wrap ((IntKind.u64.wrap (rd x0 x10)) * (IntKind.u64.wrap (rd x1 (wrap64 (x8 - x10)))))))) x7 x8 (wrap64 (x10 + 1)))) else (none)) else (none)) else (none)) else (none)) else (if x5.length + ([x6 % 4294967296] : List Int).length < 35184372088832 then (zo.l0 k x0 x1 (x5 ++ ([x6 % 4294967296] : List Int)) (Go.bits .or .u64 (x6 / 4294967296) (IntKind.u64.wrap (x7 * 4294967296))) (x7 / 4294967296) (wrap64 (x8 + 1))) else (none))) else (if x5.length + ([x6 % 4294967296] : List Int).length < 35184372088832 then (zo.l0 k x0 x1 (x5 ++ ([x6 % 4294967296] : List Int)) (Go.bits .or .u64 (x6 / 4294967296) (IntKind.u64.wrap (x7 * 4294967296))) (x7 / 4294967296) (wrap64 (x8 + 1))) else (none))
def zo.j3 : Nat → List Int → List Int → List Int → Int → Int → Int → Int → Option (List Int)
 | 0, _, _, _, _, _, _, _ => none
 | k + 1, x0, x1, x5, x6, x7, x8, x9 => zo.l1 k x0 x1 x5 x6 x7 x8 x9
end
def zo.f (k : Nat) (x0 : List Int) (x1 : List Int) : Option (List Int) := if (x0.length : Int) = 0 then (some ([] : List Int)) else (if (x1.length : Int) = 0 then (some ([] : List Int)) else (zo.l0 k x0 x1 ([] : List Int) 0 0 0))
def zau.f (k : Nat) (x0_0 : Bool) (x0_1 : List Int) (x0_2 : Int) (x1_0 : Bool) (x1_1 : List Int) (x1_2 : Int) : Option (Bool × List Int × Int) := (zo.f k x0_1 x1_1).bind fun t483 => ((zaq.f k (decide (¬ ((x0_0) = (x1_0)))) t483 (wrap64 (x0_2 + x1_2))).bind fun t484 => (some (t484.1, t484.2.1, t484.2.2)))
def zaa.l0 : Nat → List Int → List Int → Int → Int → Int → Option (List Int)
 | 0, _, _, _, _, _ => none
 | k + 1, x0, x5, x6, x7, x8 => if x8 < (x0.length : Int) then (if 0 ≤ x8 then (if x8 < (x0.length : Int) then (if 0 ≤ x6 then (if x5.length + ([(Go.bits .or .u64 x7 (shl .u64 (IntKind.u64.wrap (rd x0 x8)) x6)) % 4294967296] : List Int).length < 35184372088832 then (zaa.l0 k x0 (x5 ++ ([(Go.bits .or .u64 x7 (shl .u64 (IntKind.u64.wrap (rd x0 x8)) x6)) % 4294967296] : List Int)) x6 ((Go.bits .or .u64 x7 (shl .u64 (IntKind.u64.wrap (rd x0 x8)) x6)) / 4294967296) (wrap64 (x8 + 1))) else (none)) else (none)) else (none)) else (none)) else (if x5.length + ([x7 % 4294967296] : List Int).length < 35184372088832 then ((zm.f k (x5 ++ ([x7 % 4294967296] : List Int))).bind fun t488 => (some t488)) else (none))
def zaa.f (k : Nat) (x0 : List Int) (x1 : Int) : Option (List Int) := if (x0.length : Int) = 0 then (some ([] : List Int)) else (if 0 ≤ (wrap64 (Int.tdiv x1 32)) then (if (wrap64 (Int.tdiv x1 32) : Int).toNat ≤ 70368744177664 then (zaa.l0 k x0 (List.replicate (wrap64 (Int.tdiv x1 32) : Int).toNat (0 : Int)) (Int.tmod x1 32) 0 0) else (none)) else (none))
mutual
def zp.l0 : Nat → List Int → List Int → List Int → Int → Int → Option (List Int)
 | 0, _, _, _, _, _ => none
 | k + 1, x0, x1, x5, x6, x7 => if x7 < (x0.length : Int) then (if x7 < (x0.length : Int) then (if 0 ≤ x7 then (if x7 < (x0.length : Int) then (zp.j2 k x0 x1 x5 (IntKind.u64.wrap (x6 + (IntKind.u64.wrap (rd x0 x7)))) x7) else (none)) else (none)) else (zp.j2 k x0 x1 x5 x6 x7)) else (if x7 < (x1.length : Int) then (if x7 < (x0.length : Int) then (if 0 ≤ x7 then (if x7 < (x0.length : Int) then (zp.j2 k x0 x1 x5 (IntKind.u64.wrap (x6 + (IntKind.u64.wrap (rd x0 x7)))) x7) else (none)) else (none)) else (zp.j2 k x0 x1 x5 x6 x7)) else (if x5.length + ([x6 % 4294967296] : List Int).length < 35184372088832 then ((zm.f k (x5 ++ ([x6 % 4294967296] : List Int))).bind fun t493 => (some t493)) else (none)))
def zp.j2 : Nat → List Int → List Int → List Int → Int → Int → Option (List Int)
 | 0, _, _, _, _, _ => none
 | k + 1, x0, x1, x5, x6, x7 => if x7 < (x1.length : Int) then (if 0 ≤ x7 then (if x7 < (x1.length : Int) then (zp.j3 k x0 x1 x5 (IntKind.u64.wrap (x6 + (IntKind.u64.wrap (rd x1 x7)))) x7) else (none)) else (none)) else (zp.j3 k x0 x1 x5 x6 x7)
def zp.j3 : Nat → List Int → List Int → List Int → Int → Int → Option (List Int)
 | 0, _, _, _, _, _ => none
 | k + 1, x0, x1, x5, x6, x7 => if x5.length + ([x6 % 4294967296] : List Int).length < 35184372088832 then (zp.l0 k x0 x1 (x5 ++ ([x6 % 4294967296] : List Int)) (x6 / 4294967296) (wrap64 (x7 + 1))) else (none)
end
def zp.f (k : Nat) (x0 : List Int) (x1 : List Int) : Option (List Int) := zp.l0 k x0 x1 ([] : List Int) 0 0
def zai.l0 : Nat → List Int → List Int → Int → Option (Int)
 | 0, _, _, _ => none
 | k + 1, x0, x1, x5 => if x5 ≥ 0 then (if 0 ≤ x5 then (if x5 < (x0.length : Int) then (if 0 ≤ x5 then (if x5 < (x1.length : Int) then (if (rd x0 x5) < (rd x1 x5) then (some (-1)) else (if 0 ≤ x5 then (if x5 < (x0.length : Int) then (if 0 ≤ x5 then (if x5 < (x1.length : Int) then (if (rd x0 x5) > (rd x1 x5) then (some 1) else (zai.l0 k x0 x1 (wrap64 (x5 - 1)))) else (none)) else (none)) else (none)) else (none))) else (none)) else (none)) else (none)) else (none)) else (some 0)
def zai.f (k : Nat) (x0 : List Int) (x1 : List Int) : Option (Int) := if ¬ ((x0.length : Int) = (x1.length : Int)) then (if (x0.length : Int) < (x1.length : Int) then (some (-1)) else (some 1)) else (zai.l0 k x0 x1 (wrap64 ((x0.length : Int) - 1)))
mutual
def zq.l0 : Nat → List Int → List Int → List Int → Int → Int → Option (List Int)
 | 0, _, _, _, _, _ => none
 | k + 1, x0, x1, x5, x6, x7 => if x7 < (x0.length : Int) then (if x7 < (x1.length : Int) then (if 0 ≤ x7 then (if x7 < (x1.length : Int) then (zq.j1 k x0 x1 x5 x7 (IntKind.u64.wrap (x6 + (IntKind.u64.wrap (rd x1 x7))))) else (none)) else (none)) else (zq.j1 k x0 x1 x5 x7 x6)) else ((zm.f k x5).bind fun t498 => (some t498))
def zq.j1 : Nat → List Int → List Int → List Int → Int → Int → Option (List Int)
 | 0, _, _, _, _, _ => none
 | k + 1, x0, x1, x5, x7, x8 => if 0 ≤ x7 then (if x7 < (x0.length : Int) then (if (IntKind.u64.wrap (rd x0 x7)) < x8 then (zq.j2 k x0 x1 x5 1 x7 x8 (IntKind.u64.wrap ((IntKind.u64.wrap (rd x0 x7)) + 4294967296))) else (zq.j2 k x0 x1 x5 0 x7 x8 (IntKind.u64.wrap (rd x0 x7)))) else (none)) else (none)
def zq.j2 : Nat → List Int → List Int → List Int → Int → Int → Int → Int → Option (List Int)
 | 0, _, _, _, _, _, _, _ => none
 | k + 1, x0, x1, x5, x6, x7, x8, x9 => if x5.length + ([(IntKind.u64.wrap (x9 - x8)) % 4294967296] : List Int).length < 35184372088832 then (zq.l0 k x0 x1 (x5 ++ ([(IntKind.u64.wrap (x9 - x8)) % 4294967296] : List Int)) x6 (wrap64 (x7 + 1))) else (none)
end
def zq.f (k : Nat) (x0 : List Int) (x1 : List Int) : Option (List Int) := zq.l0 k x0 x1 ([] : List Int) 0 0
def zY.j2 : Nat → Bool → List Int → Int → Bool → List Int → Int → Bool → List Int → Int → Int → Option (Bool × List Int × Int)
 | 0, _, _, _, _, _, _, _, _, _, _ => none
 | k + 1, x2_0, x2_1, x2_2, x3_0, x3_1, x3_2, x4_0, x4_1, x4_2, x5 => (zaa.f k x2_1 (wrap64 (x2_2 - x5))).bind fun t489 => ((zaa.f k x3_1 (wrap64 (x3_2 - x5))).bind fun t490 => (if (x2_0) = (x3_0) then ((zp.f k t489 t490).bind fun t494 => ((zaq.f k x2_0 t494 x5).bind fun t495 => (some (t495.1, t495.2.1, t495.2.2)))) else ((zai.f k t489 t490).bind fun t496 => (if t496 ≥ 0 then ((zq.f k t489 t490).bind fun t499 => ((zaq.f k x2_0 t499 x5).bind fun t500 => (some (t500.1, t500.2.1, t500.2.2)))) else ((zq.f k t490 t489).bind fun t501 => ((zaq.f k x3_0 t501 x5).bind fun t502 => (some (t502.1, t502.2.1, t502.2.2))))))))
def zY.f (k : Nat) (x0_0 : Bool) (x0_1 : List Int) (x0_2 : Int) (x1_0 : Bool) (x1_1 : List Int) (x1_2 : Int) : Option (Bool × List Int × Int) := if (x0_1.length : Int) = 0 then (some (x1_0, x1_1, x1_2)) else (if (x1_1.length : Int) = 0 then (some (x0_0, x0_1, x0_2)) else (if x1_2 < x0_2 then (zY.j2 k x0_0 x0_1 x0_2 x1_0 x1_1 x1_2 false ([] : List Int) 0 x1_2) else (zY.j2 k x0_0 x0_1 x0_2 x1_0 x1_1 x1_2 false ([] : List Int) 0 x0_2)))
def zbJ.f (k : Nat) (x0_0 : Bool) (x0_1 : List Int) (x0_2 : Int) (x1_0 : Bool) (x1_1 : List Int) (x1_2 : Int) : Option (Bool × List Int × Int) := (zau.f k x0_0 x0_1 x0_2 x0_0 x0_1 x0_2).bind fun t486 => ((zau.f k x1_0 x1_1 x1_2 x1_0 x1_1 x1_2).bind fun t487 => ((zY.f k t486.1 t486.2.1 t486.2.2 t487.1 t487.2.1 t487.2.2).bind fun t503 => (some (t503.1, t503.2.1, t503.2.2))))
def zaL.f (k : Nat) (x0_0 : Bool) (x0_1 : List Int) (x0_2 : Int) : Option (Int) := if (x0_1.length : Int) = 0 then (some 0) else ((z9.f k x0_1).bind fun t508 => (some (wrap64 (x0_2 + t508))))
def zbA.f (x0_0 : Bool) (x0_1 : List Int) (x0_2 : Int) : Option (Bool × List Int × Int) := if (x0_1.length : Int) > 0 then (some ((!x0_0), x0_1, x0_2)) else (some (x0_0, x0_1, x0_2))
def zbB.f (k : Nat) (x0_0 : Bool) (x0_1 : List Int) (x0_2 : Int) (x1_0 : Bool) (x1_1 : List Int) (x1_2 : Int) : Option (Bool × List Int × Int) := (zbA.f x1_0 x1_1 x1_2).bind fun t513 => ((zY.f k x0_0 x0_1 x0_2 t513.1 t513.2.1 t513.2.2).bind fun t514 => (some (t514.1, t514.2.1, t514.2.2)))
def zbf.f (k : Nat) (x0_0 : Bool) (x0_1 : List Int) (x0_2 : Int) (x1_0 : Bool) (x1_1 : List Int) (x1_2 : Int) : Option (Int) := (zaD.f x0_0 x0_1 x0_2).bind fun t506 => ((zaD.f x1_0 x1_1 x1_2).bind fun t507 => (if ¬ (t506 = t507) then (if t506 < t507 then (some (-1)) else (some 1)) else (if t506 = 0 then (some 0) else ((zaL.f k x0_0 x0_1 x0_2).bind fun t509 => ((zaL.f k x1_0 x1_1 x1_2).bind fun t510 => (if ¬ (t509 = t510) then ((zaL.f k x0_0 x0_1 x0_2).bind fun t511 => ((zaL.f k x1_0 x1_1 x1_2).bind fun t512 => (if (decide (t511 < t512)) = (decide (t506 > 0)) then (some (-1)) else (some 1)))) else ((zbB.f k x0_0 x0_1 x0_2 x1_0 x1_1 x1_2).bind fun t515 => ((zaD.f t515.1 t515.2.1 t515.2.2).bind fun t516 => (some t516)))))))))
def zbI.f (k : Nat) (x0 : Int) (x1_0 : Bool) (x1_1 : List Int) (x1_2 : Int) (x2_0 : Bool) (x2_1 : List Int) (x2_2 : Int) (x3_0 : Bool) (x3_1 : List Int) (x3_2 : Int) : Option (Bool) := (zb5.f x0).bind fun t477 => ((za0.f x0).bind fun t478 => ((zbC.f (wrap64 ((wrap64 (t477 + t478)) + 64))).bind fun t479 => ((zau.f k t479.1 t479.2.1 t479.2.2 x3_0 x3_1 x3_2).bind fun t485 => ((zbJ.f k x1_0 x1_1 x1_2 x2_0 x2_1 x2_2).bind fun t504 => ((zau.f k t485.1 t485.2.1 t485.2.2 t485.1 t485.2.1 t485.2.2).bind fun t505 => ((zbf.f k t504.1 t504.2.1 t504.2.2 t505.1 t505.2.1 t505.2.2).bind fun t517 => (some (decide (t517 ≥ 0)))))))))
def zbx.f (k : Nat) (x0 : Int) (x1_0 : Bool) (x1_1 : List Int) (x1_2 : Int) (x1_3 : Bool) (x1_4 : List Int) (x1_5 : Int) (x1_6 : Bool) (x1_7 : List Int) (x1_8 : Int) : Option (Bool) := (zby.f x1_0 x1_1 x1_2 x1_3 x1_4 x1_5 x1_6 x1_7 x1_8).bind fun t527 => (if t527 = true then ((zaX.f k).bind fun t528 => (some t528)) else ((zaE.f k x0 x1_0 x1_1 x1_2 x1_3 x1_4 x1_5 x1_6 x1_7 x1_8).bind fun t529 => ((zaY.f k x0 0 0 x1_0 x1_1 x1_2 x1_3 x1_4 x1_5 x1_6 x1_7 x1_8 0).bind fun t530 => (if ¬ (t530 = 0) then (if (!t529.1) = true then (if t529.2 = t530 then ((zaX.f k).bind fun t531 => (some t531)) else (some false)) else (some false)) else ((zbI.f k x0 x1_0 x1_1 x1_2 x1_3 x1_4 x1_5 x1_6 x1_7 x1_8).bind fun t532 => (if (t529.1) = (t532) then (if t529.2 = 0 then ((zaX.f k).bind fun t533 => (some t533)) else (some false)) else (some false)))))))
end Go.Proofs.YtioialhbjmnndaaGreatDoor.Eng
