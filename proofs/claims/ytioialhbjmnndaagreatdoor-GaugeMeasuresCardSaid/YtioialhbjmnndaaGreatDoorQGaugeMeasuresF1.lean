import Derived.Test.YtioialhbjmnndaaGreatDoorEng2
import Derived.Test.YtioialhbjmnndaaGreatDoorProg
import Derived.KernelRfl
import Derived.Lib.TrailingZeros
import Derived.Lib.Repeat
import Derived.Lib.Bytealg
set_option linter.unusedVariables false
set_option linter.unusedSimpArgs false
namespace Go.Proofs.YtioialhbjmnndaaGreatDoor.Eng
open Go.RowKit Go.Proofs
set_option maxRecDepth 100000
def TL : List (Nat × TI) := [(2, ⟨.int .i64, 1, 8, [(.int .i64)]⟩),
 (3, ⟨.int .i64, 1, 8, [(.int .i64)]⟩),
 (4, ⟨.bool, 1, 1, [.bool]⟩),
 (5, ⟨.int .u8, 1, 1, [(.int .u8)]⟩),
 (6, ⟨.int .u8, 1, 1, [(.int .u8)]⟩),
 (7, ⟨.struct [(0, 2), (1, 3), (2, 4), (3, 6)], 4, 24, [(.int .i64), (.int .i64), .bool, (.int .u8)]⟩),
 (8, ⟨.struct [(0, 2), (1, 3), (2, 4), (3, 6)], 4, 24, [(.int .i64), (.int .i64), .bool, (.int .u8)]⟩),
 (9, ⟨.str, 1, 16, [.str]⟩),
 (10, ⟨.str, 1, 16, [.str]⟩),
 (11, ⟨.str, 1, 16, [.str]⟩),
 (12, ⟨.int .u64, 1, 8, [(.int .u64)]⟩),
 (13, ⟨.struct [(0, 9), (1, 12)], 2, 24, [.str, (.int .u64)]⟩),
 (14, ⟨.struct [(0, 9), (1, 12)], 2, 24, [.str, (.int .u64)]⟩),
 (15, ⟨.ptr 189, 1, 8, [.ptr]⟩),
 (16, ⟨.ptr 192, 1, 8, [.ptr]⟩),
 (17, ⟨.ptr 200, 1, 8, [.ptr]⟩),
 (18, ⟨.struct [(0, 17)], 1, 8, [.ptr]⟩),
 (19, ⟨.struct [(0, 17)], 1, 8, [.ptr]⟩),
 (21, ⟨.int .i32, 1, 4, [(.int .i32)]⟩),
 (22, ⟨.int .u8, 1, 1, [(.int .u8)]⟩),
 (23, ⟨.int .u64, 1, 8, [(.int .u64)]⟩),
 (24, ⟨.struct [(0, 23), (1, 23)], 2, 16, [(.int .u64), (.int .u64)]⟩),
 (25, ⟨.struct [(0, 23), (1, 23)], 2, 16, [(.int .u64), (.int .u64)]⟩),
 (26, ⟨.slice 82, 1, 24, [(.slice (some .u32))]⟩),
 (27, ⟨.struct [(0, 4), (1, 26), (2, 3)], 3, 40, [.bool, (.slice (some .u32)), (.int .i64)]⟩),
 (28, ⟨.struct [(0, 4), (1, 26), (2, 3)], 3, 40, [.bool, (.slice (some .u32)), (.int .i64)]⟩),
 (29, ⟨.struct [(0, 28), (3, 28), (6, 28)], 9, 120, [.bool, (.slice (some .u32)), (.int .i64), .bool, (.slice (some .u32)), (.int .i64), .bool, (.slice (some .u32)), (.int .i64)]⟩),
 (30, ⟨.struct [(0, 28), (3, 28), (6, 28)], 9, 120, [.bool, (.slice (some .u32)), (.int .i64), .bool, (.slice (some .u32)), (.int .i64), .bool, (.slice (some .u32)), (.int .i64)]⟩),
 (33, ⟨.int .i64, 1, 8, [(.int .i64)]⟩),
 (52, ⟨.int .u8, 1, 1, [(.int .u8)]⟩),
 (61, ⟨.int .u8, 1, 1, [(.int .u8)]⟩),
 (62, ⟨.struct [(0, 25), (2, 61), (3, 61)], 4, 24, [(.int .u64), (.int .u64), (.int .u8), (.int .u8)]⟩),
 (63, ⟨.struct [(0, 25), (2, 61), (3, 61)], 4, 24, [(.int .u64), (.int .u64), (.int .u8), (.int .u8)]⟩),
 (65, ⟨.int .u8, 1, 1, [(.int .u8)]⟩),
 (82, ⟨.int .u32, 1, 4, [(.int .u32)]⟩),
 (89, ⟨.struct [(0, 28), (3, 28)], 6, 80, [.bool, (.slice (some .u32)), (.int .i64), .bool, (.slice (some .u32)), (.int .i64)]⟩),
 (90, ⟨.struct [(0, 28), (3, 28)], 6, 80, [.bool, (.slice (some .u32)), (.int .i64), .bool, (.slice (some .u32)), (.int .i64)]⟩),
 (96, ⟨.slice 25, 1, 24, [(.slice none)]⟩),
 (100, ⟨.int .u8, 1, 1, [(.int .u8)]⟩),
 (103, ⟨.struct [(0, 28), (3, 4)], 4, 48, [.bool, (.slice (some .u32)), (.int .i64), .bool]⟩),
 (104, ⟨.struct [(0, 28), (3, 4)], 4, 48, [.bool, (.slice (some .u32)), (.int .i64), .bool]⟩),
 (105, ⟨.arr 2 104, 8, 96, [.bool, (.slice (some .u32)), (.int .i64), .bool, .bool, (.slice (some .u32)), (.int .i64), .bool]⟩),
 (117, ⟨.arr 3 28, 9, 120, [.bool, (.slice (some .u32)), (.int .i64), .bool, (.slice (some .u32)), (.int .i64), .bool, (.slice (some .u32)), (.int .i64)]⟩),
 (120, ⟨.slice 28, 1, 24, [(.slice none)]⟩),
 (130, ⟨.int .u64, 1, 8, [(.int .u64)]⟩),
 (132, ⟨.struct [(0, 3), (1, 3), (2, 23)], 3, 24, [(.int .i64), (.int .i64), (.int .u64)]⟩),
 (133, ⟨.struct [(0, 3), (1, 3), (2, 23)], 3, 24, [(.int .i64), (.int .i64), (.int .u64)]⟩),
 (136, ⟨.struct [(0, 4), (1, 3), (2, 23)], 3, 24, [.bool, (.int .i64), (.int .u64)]⟩),
 (137, ⟨.struct [(0, 4), (1, 3), (2, 23)], 3, 24, [.bool, (.int .i64), (.int .u64)]⟩),
 (151, ⟨.slice 104, 1, 24, [(.slice none)]⟩),
 (165, ⟨.slice 23, 1, 24, [(.slice (some .u64))]⟩),
 (182, ⟨.arr 32 5, 32, 32, [(.int .u8), (.int .u8), (.int .u8), (.int .u8), (.int .u8), (.int .u8), (.int .u8), (.int .u8), (.int .u8), (.int .u8), (.int .u8), (.int .u8), (.int .u8), (.int .u8), (.int .u8), (.int .u8), (.int .u8), (.int .u8), (.int .u8), (.int .u8), (.int .u8), (.int .u8), (.int .u8), (.int .u8), (.int .u8), (.int .u8), (.int .u8), (.int .u8), (.int .u8), (.int .u8), (.int .u8), (.int .u8)]⟩),
 (183, ⟨.slice 26, 1, 24, [(.slice none)]⟩),
 (188, ⟨.struct [(0, 17), (1, 17), (2, 17), (3, 9)], 4, 40, [.ptr, .ptr, .ptr, .str]⟩),
 (189, ⟨.struct [(0, 17), (1, 17), (2, 17), (3, 9)], 4, 40, [.ptr, .ptr, .ptr, .str]⟩),
 (190, ⟨.arr 0 16, 0, 0, []⟩),
 (191, ⟨.struct [(0, 190)], 0, 0, []⟩),
 (192, ⟨.struct [(0, 190)], 0, 0, []⟩),
 (193, ⟨.int .u8, 1, 1, [(.int .u8)]⟩),
 (194, ⟨.int .u8, 1, 1, [(.int .u8)]⟩),
 (196, ⟨.ptr 5, 1, 8, [.ptr]⟩),
 (197, ⟨.int .i32, 1, 4, [(.int .i32)]⟩),
 (198, ⟨.int .i32, 1, 4, [(.int .i32)]⟩)]
def TT : Nat → Option TI := qec TL
def zeH : ByteArray := ⟨#[0, 1, 2, 2, 3, 3, 3, 3, 4, 4, 4, 4, 4, 4, 4, 4, 5, 5, 5, 5, 5, 5, 5, 5, 5, 5, 5, 5, 5, 5, 5, 5, 6, 6, 6, 6, 6, 6, 6, 6, 6, 6, 6, 6, 6, 6, 6, 6, 6, 6, 6, 6, 6, 6, 6, 6, 6, 6, 6, 6, 6, 6, 6, 6, 7, 7, 7, 7, 7, 7, 7, 7, 7, 7, 7, 7, 7, 7, 7, 7, 7, 7, 7, 7, 7, 7, 7, 7, 7, 7, 7, 7, 7, 7, 7, 7, 7, 7, 7, 7, 7, 7, 7, 7, 7, 7, 7, 7, 7, 7, 7, 7, 7, 7, 7, 7, 7, 7, 7, 7, 7, 7, 7, 7, 7, 7, 7, 7, 8, 8, 8, 8, 8, 8, 8, 8, 8, 8, 8, 8, 8, 8, 8, 8, 8, 8, 8, 8, 8, 8, 8, 8, 8, 8, 8, 8, 8, 8, 8, 8, 8, 8, 8, 8, 8, 8, 8, 8, 8, 8, 8, 8, 8, 8, 8, 8, 8, 8, 8, 8, 8, 8, 8, 8, 8, 8, 8, 8, 8, 8, 8, 8, 8, 8, 8, 8, 8, 8, 8, 8, 8, 8, 8, 8, 8, 8, 8, 8, 8, 8, 8, 8, 8, 8, 8, 8, 8, 8, 8, 8, 8, 8, 8, 8, 8, 8, 8, 8, 8, 8, 8, 8, 8, 8, 8, 8, 8, 8, 8, 8, 8, 8, 8, 8, 8, 8, 8, 8, 8, 8, 8, 8, 8, 8, 8, 8]⟩
def zaD.f (x : Int) : Option Int := if 0 ≤ x ∧ x < 4294967296 then some (Lib.ctz 32 x.toNat : Int) else none
def zbW : Nat → Nat → Option Value := fun b o => if b = 0 ∧ o < 32 then some (.int .u8 (Lib.deBruijn32tab.getD o 0)) else none
def zcE.f (x0_0 : Bool) (x0_1 : List Int) (x0_2 : Int) (x0_3 : Bool) (x0_4 : List Int) (x0_5 : Int) (x0_6 : Bool) (x0_7 : List Int) (x0_8 : Int) : Option (Bool) := some (decide ((wrap64 ((wrap64 ((x0_1.length : Int) + (x0_4.length : Int))) + (x0_7.length : Int))) > 1300))
def zl.l0 : Nat → List Int → Int → Option (List Int)
 | 0, _, _ => none
 | k + 1, x0, x3 => if x3 > 0 then (if 0 ≤ wrap64 (x3 - 1) then (if wrap64 (x3 - 1) < (x0.length : Int) then (if (rd x0 (wrap64 (x3 - 1))) = 0 then (zl.l0 k x0 (wrap64 (x3 - 1))) else (if 0 ≤ x3 then (if x3 ≤ (x0.length : Int) then (some (x0.take (x3 : Int).toNat)) else (none)) else (none))) else (none)) else (none)) else (if 0 ≤ x3 then (if x3 ≤ (x0.length : Int) then (some (x0.take (x3 : Int).toNat)) else (none)) else (none))
def zl.f (k : Nat) (x0 : List Int) : Option (List Int) := zl.l0 k x0 (x0.length : Int)
def zaP.f (k : Nat) (x0 : Int) : Option (List Int) := (zl.f k ([x0 % 4294967296, (x0 / 4294967296) % 4294967296] : List Int)).bind fun t2 => (some t2)
def za7.f (x0 : List Int) (x1 : Int) : Option (Int) := if x1 < 0 then (some 0) else (if (wrap64 (Int.tdiv x1 32)) ≥ (x0.length : Int) then (some 0) else (if 0 ≤ wrap64 (Int.tdiv x1 32) then (if wrap64 (Int.tdiv x1 32) < (x0.length : Int) then (if 0 ≤ (Int.tmod x1 32) then (some (Go.bits .and .u32 (shr .u32 (rd x0 (wrap64 (Int.tdiv x1 32))) (Int.tmod x1 32)) 1)) else (none)) else (none)) else (none)))
def zU.l0 : Nat → List Int → Int → Option (Int)
 | 0, _, _ => none
 | k + 1, x0, x3 => if x3 < (wrap64 (32 * (x0.length : Int))) then ((za7.f x0 x3).bind fun t8 => (if t8 = 0 then (if 0 ≤ wrap64 (Int.tdiv x3 32) then (if wrap64 (Int.tdiv x3 32) < (x0.length : Int) then (if (rd x0 (wrap64 (Int.tdiv x3 32))) = 0 then (zU.l0 k x0 (wrap64 (x3 + 32))) else (zU.l0 k x0 (wrap64 (x3 + 1)))) else (none)) else (none)) else (if x3 = (wrap64 (32 * (x0.length : Int))) then (some 0) else (some x3)))) else (if x3 = (wrap64 (32 * (x0.length : Int))) then (some 0) else (some x3))
def zU.f (k : Nat) (x0 : List Int) : Option (Int) := zU.l0 k x0 0
def zF.l0 : Nat → Int → Int → Option (Int)
 | 0, _, _ => none
 | k + 1, x3, x4 => if x4 > 0 then (zF.l0 k (wrap64 (x3 + 1)) (x4 / 2)) else (some x3)
def zF.f (k : Nat) (x0 : List Int) : Option (Int) := if (x0.length : Int) = 0 then (some 0) else (if 0 ≤ wrap64 ((x0.length : Int) - 1) then (if wrap64 ((x0.length : Int) - 1) < (x0.length : Int) then (zF.l0 k (wrap64 (32 * (wrap64 ((x0.length : Int) - 1)))) (rd x0 (wrap64 ((x0.length : Int) - 1)))) else (none)) else (none))
def zP.l0 : Nat → List Int → Bool → List Int → Int → Int → Option (List Int × Bool)
 | 0, _, _, _, _, _ => none
 | k + 1, x0, x6, x7, x8, x9 => if x9 < (x0.length : Int) then (if 0 ≤ x9 then (if x9 < (x0.length : Int) then (if 0 ≤ x8 then (if (wrap64 (x9 + 1)) < (x0.length : Int) then (if 0 ≤ wrap64 (x9 + 1) then (if wrap64 (x9 + 1) < (x0.length : Int) then (if 0 ≤ (wrap64 (32 - x8)) then (if x7.length + ([(Go.bits .or .u64 (shr .u64 (IntKind.u64.wrap (rd x0 x9)) x8) (shl .u64 (IntKind.u64.wrap (rd x0 (wrap64 (x9 + 1)))) (wrap64 (32 - x8)))) % 4294967296] : List Int).length < 35184372088832 then (zP.l0 k x0 x6 (x7 ++ ([(Go.bits .or .u64 (shr .u64 (IntKind.u64.wrap (rd x0 x9)) x8) (shl .u64 (IntKind.u64.wrap (rd x0 (wrap64 (x9 + 1)))) (wrap64 (32 - x8)))) % 4294967296] : List Int)) x8 (wrap64 (x9 + 1))) else (none)) else (none)) else (none)) else (none)) else (if x7.length + ([(shr .u64 (IntKind.u64.wrap (rd x0 x9)) x8) % 4294967296] : List Int).length < 35184372088832 then (zP.l0 k x0 x6 (x7 ++ ([(shr .u64 (IntKind.u64.wrap (rd x0 x9)) x8) % 4294967296] : List Int)) x8 (wrap64 (x9 + 1))) else (none))) else (none)) else (none)) else (none)) else ((zl.f k x7).bind fun t36 => (some (t36, x6)))
def zP.f (k : Nat) (x0 : List Int) (x1 : Int) : Option (List Int × Bool) := (zF.f k x0).bind fun t34 => (if x1 ≥ t34 then (some (([] : List Int), decide ((x0.length : Int) > 0))) else ((zU.f k x0).bind fun t35 => (zP.l0 k x0 (decide (x1 > t35)) ([] : List Int) (Int.tmod x1 32) (wrap64 (Int.tdiv x1 32)))))
def zL.f (k : Nat) (x0 : Bool) (x1 : List Int) (x2 : Int) : Option (Bool × List Int × Int) := if (x1.length : Int) = 0 then (some (false, ([] : List Int), 0)) else ((zU.f k x1).bind fun t9 => ((zP.f k x1 t9).bind fun t37 => (some (x0, t37.1, wrap64 (x2 + t9)))))
def zz.j0 : Nat → Int → Bool → List Int → Int → Int → Option (Bool × List Int × Int)
 | 0, _, _, _, _, _ => none
 | k + 1, x0, x2_0, x2_1, x2_2, x3 => (zaP.f k x3).bind fun t3 => ((zL.f k (decide (x0 < 0)) t3 0).bind fun t38 => (some (t38.1, t38.2.1, t38.2.2)))
def zz.f (k : Nat) (x0 : Int) : Option (Bool × List Int × Int) := if x0 < 0 then (zz.j0 k x0 false ([] : List Int) 0 (IntKind.u64.wrap (-(IntKind.u64.wrap x0)))) else (zz.j0 k x0 false ([] : List Int) 0 (IntKind.u64.wrap x0))
def zcs.f (x0 : Int) : Option (Int × Int × Int × Bool) := if x0 = 1 then (some (23, 255, 2147483648, true)) else (if x0 = 2 then (some (52, 2047, 9223372036854775808, true)) else (some (0, 0, 0, false)))
def zaf.l0 : Nat → Int → Int → Int → Int → Int → Int → List Int → Int → Int → Option (Int × Int × Int × Int)
 | 0, _, _, _, _, _, _, _, _, _ => none
 | k + 1, x4_0, x4_1, x4_2, x6_0, x6_1, x6_2, x18, x19, x20 => if x20 < x19 then (if 0 ≤ x20 then (if x20 < (x18.length : Int) then (if (rd x18 x20) > (Go.bits .or .u64 x6_2 (IntKind.u64.wrap (x6_2 - 1))) then (some (x6_0, x6_1, x6_2, 6)) else (zaf.l0 k x4_0 x4_1 x4_2 x6_0 x6_1 x6_2 x18 x19 (wrap64 (x20 + 1)))) else (none)) else (none)) else (some (x6_0, x6_1, x6_2, 0))
def zaf.f (k : Nat) (x0 : Int) (x1 : List Int) : Option (Int × Int × Int × Int) := (zcs.f x0).bind fun t42 => (if (!t42.2.2.2) = true then (some (t42.1, t42.2.1, t42.2.2.1, 4)) else (zaf.l0 k 0 0 0 t42.1 t42.2.1 t42.2.2.1 x1 (x1.length : Int) 0))
def zbx.f (k : Nat) (x0 : Int) (x1 : Int) : Option (Int) := (zaf.f k x0 ([x1] : List Int)).bind fun t43 => (some t43.2.2.2)
def zbR.f (k : Nat) (x0 : Int) (x1_0 : Int) (x1_1 : Int) : Option (Int) := (zbx.f k x0 x1_0).bind fun t44 => (if ¬ (t44 = 0) then (some t44) else ((zbx.f k x0 x1_1).bind fun t45 => (some t45)))
def zct.f (x0_0 : Int) (x0_1 : Int) (x0_2 : Int) : Option (Int) := if 0 ≤ x0_0 then (some (shl .u64 (IntKind.u64.wrap x0_1) x0_0)) else (none)
def zbX.f (x0_0 : Int) (x0_1 : Int) (x0_2 : Int) (x1 : Int) : Option (Int) := if (Go.bits .andNot .u64 x1 x0_2) = 0 then (some 1) else (if 0 ≤ x0_0 then (if (Go.bits .andNot .u64 x1 x0_2) < (shl .u64 1 x0_0) then (some 2) else ((zct.f x0_0 x0_1 x0_2).bind fun t48 => (if (Go.bits .andNot .u64 x1 x0_2) < t48 then (some 3) else ((zct.f x0_0 x0_1 x0_2).bind fun t49 => (if (Go.bits .andNot .u64 x1 x0_2) = t49 then (some 4) else (some 5)))))) else (none))
def zcr.f (k : Nat) (x0 : Int) (x1 : Int) : Option (Int × Int) := (zaf.f k x0 ([x1] : List Int)).bind fun t47 => (if ¬ (t47.2.2.2 = 0) then (some (0, t47.2.2.2)) else ((zbX.f t47.1 t47.2.1 t47.2.2.1 x1).bind fun t50 => (some (t50, 0))))
mutual
def zae.j1 : Nat → Int → Int → Bool → Option (Int × Int)
 | 0, _, _, _ => none
 | k + 1, x6, x8, x30 => if x30 = true then (some (3, 0)) else (if x6 = 5 then (zae.j2 k x6 x8 true) else (zae.j2 k x6 x8 (decide (x8 = 5))))
def zae.j2 : Nat → Int → Int → Bool → Option (Int × Int)
 | 0, _, _, _ => none
 | k + 1, x6, x8, x37 => if x37 = true then (some (4, 0)) else (if x6 = 1 then (if x8 = 1 then (some (1, 0)) else (some (2, 0))) else (some (2, 0)))
end
def zae.f (k : Nat) (x0 : Int) (x1_0 : Int) (x1_1 : Int) : Option (Int × Int) := (zcr.f k x0 x1_0).bind fun t73 => (if ¬ (t73.2 = 0) then (some (0, t73.2)) else ((zcr.f k x0 x1_1).bind fun t74 => (if ¬ (t74.2 = 0) then (some (0, t74.2)) else (if t73.1 = 4 then (zae.j1 k t73.1 t74.1 true) else (zae.j1 k t73.1 t74.1 (decide (t74.1 = 4)))))))
mutual
def zM.l0 : Nat → Int → List (Int × Int) → List (Int × Int) → Int → Int → Option (Int)
 | 0, _, _, _, _, _ => none
 | k + 1, x0, x1, x12, x13, x14 => if x14 < x13 then (if 0 ≤ x14 then (if x14 < (x12.length : Int) then ((zbR.f k x0 ((rdT [.i .u64, .i .u64] x12 x14).1) ((rdT [.i .u64, .i .u64] x12 x14).2)).bind fun t76 => (if ¬ (t76 = 0) then (some t76) else (zM.l0 k x0 x1 x12 x13 (wrap64 (x14 + 1))))) else (none)) else (none)) else (zM.l1 k x0 x1 (x1.length : Int) 0)
def zM.l1 : Nat → Int → List (Int × Int) → Int → Int → Option (Int)
 | 0, _, _, _, _ => none
 | k + 1, x0, x25, x26, x27 => if x27 < x26 then (if 0 ≤ x27 then (if x27 < (x25.length : Int) then ((zae.f k x0 ((rdT [.i .u64, .i .u64] x25 x27).1) ((rdT [.i .u64, .i .u64] x25 x27).2)).bind fun t75 => (if t75.1 > 2 then (some 7) else (zM.l1 k x0 x25 x26 (wrap64 (x27 + 1))))) else (none)) else (none)) else (some 0)
end
def zM.f (k : Nat) (x0 : Int) (x1 : List (Int × Int)) : Option (Int) := zM.l0 k x0 x1 x1 (x1.length : Int) 0
def zak.f (x0 : List Int) : Option (Bool) := if (x0.length : Int) ≤ 4096 then (if (x0.length : Int) = 0 then (some true) else (if 0 ≤ wrap64 ((x0.length : Int) - 1) then (if wrap64 ((x0.length : Int) - 1) < (x0.length : Int) then (some (decide (¬ (rd x0 (wrap64 ((x0.length : Int) - 1)) = 0)))) else (none)) else (none))) else (some false)
def zcc.f (x0 : Int) : Option (Bool) := if (-16777216) ≤ x0 then (some (decide (x0 ≤ 16777216))) else (some false)
def zH.f (x0_0 : Bool) (x0_1 : List Int) (x0_2 : Int) : Option (Bool) := (zak.f x0_1).bind fun t85 => (if (!t85) = true then (some false) else (if (x0_1.length : Int) = 0 then (if (!x0_0) = true then (some (decide (x0_2 = 0))) else (some false)) else (if 0 < (x0_1.length : Int) then (if (Go.bits .and .u32 (rd x0_1 0) 1) = 1 then ((zcc.f x0_2).bind fun t86 => (some t86)) else (some false)) else (none))))
def zaG.j0 : Nat → Bool → List Int → Int → Bool → Option (Int)
 | 0, _, _, _, _ => none
 | k + 1, x1_0, x1_1, x1_2, x3 => if x3 = true then (some 0) else (if x1_0 = true then (some (-1)) else (some 1))
def zaG.f (k : Nat) (x0_0 : Bool) (x0_1 : List Int) (x0_2 : Int) : Option (Int) := (zH.f x0_0 x0_1 x0_2).bind fun t93 => (if (!t93) = true then (zaG.j0 k x0_0 x0_1 x0_2 true) else (zaG.j0 k x0_0 x0_1 x0_2 (decide ((x0_1.length : Int) = 0))))
mutual
def zm.l0 : Nat → Bool → List Int → Int → Bool → List Int → Int → Bool → List Int → Int → Int → Option (Int)
 | 0, _, _, _, _, _, _, _, _, _, _ => none
 | k + 1, x56_0, x56_1, x56_2, x56_3, x56_4, x56_5, x56_6, x56_7, x56_8, x57 => if x57 < 3 then (if x57 = 0 then (if (x56_1.length : Int) > 400 then (some 3) else (if x56_2 < (-20000) then (some 3) else (if x56_2 > 20000 then (some 3) else (zm.l0 k x56_0 x56_1 x56_2 x56_3 x56_4 x56_5 x56_6 x56_7 x56_8 (wrap64 (x57 + 1)))))) else (if x57 = 1 then (if (x56_4.length : Int) > 400 then (some 3) else (if x56_5 < (-20000) then (some 3) else (if x56_5 > 20000 then (some 3) else (zm.l0 k x56_0 x56_1 x56_2 x56_3 x56_4 x56_5 x56_6 x56_7 x56_8 (wrap64 (x57 + 1)))))) else (if x57 = 2 then (if (x56_7.length : Int) > 400 then (some 3) else (if x56_8 < (-20000) then (some 3) else (if x56_8 > 20000 then (some 3) else (zm.l0 k x56_0 x56_1 x56_2 x56_3 x56_4 x56_5 x56_6 x56_7 x56_8 (wrap64 (x57 + 1)))))) else (none)))) else (some 0)
def zm.j2 : Nat → Bool → List Int → Int → Bool → List Int → Int → Bool → List Int → Int → Int → Bool → Option (Int)
 | 0, _, _, _, _, _, _, _, _, _, _, _ => none
 | k + 1, x9_0, x9_1, x9_2, x10_0, x10_1, x10_2, x11_0, x11_1, x11_2, x13, x27 => if x27 = true then (some 2) else ((zaG.f k x11_0 x11_1 x11_2).bind fun t139 => (if t139 = 0 then (some 11) else (if ¬ (x13 = 0) then (some x13) else (zm.l0 k x9_0 x9_1 x9_2 x10_0 x10_1 x10_2 x11_0 x11_1 x11_2 0))))
end
def zm.f (k : Nat) (x0 : Int) (x1_0 : Int) (x1_1 : Int) (x2 : Int) (x3_0 : Bool) (x3_1 : List Int) (x3_2 : Int) (x4_0 : Bool) (x4_1 : List Int) (x4_2 : Int) (x5_0 : Bool) (x5_1 : List Int) (x5_2 : Int) : Option (Int) := (zM.f k x0 [(x1_0, x1_1)]).bind fun t132 => (if ¬ (t132 = 0) then (if ¬ (t132 = 7) then (some t132) else ((zH.f x3_0 x3_1 x3_2).bind fun t133 => (if (!t133) = true then (zm.j2 k x3_0 x3_1 x3_2 x4_0 x4_1 x4_2 x5_0 x5_1 x5_2 t132 true) else ((zH.f x4_0 x4_1 x4_2).bind fun t134 => (if (!t134) = true then (zm.j2 k x3_0 x3_1 x3_2 x4_0 x4_1 x4_2 x5_0 x5_1 x5_2 t132 true) else ((zH.f x5_0 x5_1 x5_2).bind fun t135 => (if (!t135) = true then (zm.j2 k x3_0 x3_1 x3_2 x4_0 x4_1 x4_2 x5_0 x5_1 x5_2 t132 true) else (zm.j2 k x3_0 x3_1 x3_2 x4_0 x4_1 x4_2 x5_0 x5_1 x5_2 t132 (decide (x2 < 0)))))))))) else ((zH.f x3_0 x3_1 x3_2).bind fun t136 => (if (!t136) = true then (zm.j2 k x3_0 x3_1 x3_2 x4_0 x4_1 x4_2 x5_0 x5_1 x5_2 t132 true) else ((zH.f x4_0 x4_1 x4_2).bind fun t137 => (if (!t137) = true then (zm.j2 k x3_0 x3_1 x3_2 x4_0 x4_1 x4_2 x5_0 x5_1 x5_2 t132 true) else ((zH.f x5_0 x5_1 x5_2).bind fun t138 => (if (!t138) = true then (zm.j2 k x3_0 x3_1 x3_2 x4_0 x4_1 x4_2 x5_0 x5_1 x5_2 t132 true) else (zm.j2 k x3_0 x3_1 x3_2 x4_0 x4_1 x4_2 x5_0 x5_1 x5_2 t132 (decide (x2 < 0))))))))))
def zcV.f (k : Nat) (x0 : Int) (x1 : Int) : Option (Int × Int × Int × Int) := (zaf.f k x0 ([x1] : List Int)).bind fun t147 => (if t147.2.2.2 = 0 then ((zbX.f t147.1 t147.2.1 t147.2.2.1 x1).bind fun t148 => (if t148 ≥ 4 then (some (t147.1, t147.2.1, t147.2.2.1, 7)) else (some (t147.1, t147.2.1, t147.2.2.1, t147.2.2.2)))) else (some (t147.1, t147.2.1, t147.2.2.1, t147.2.2.2)))
def zcX.f (x0_0 : Int) (x0_1 : Int) (x0_2 : Int) (x1 : Int) : Option (Bool × Int × Int) := if 0 ≤ x0_0 then (if 0 ≤ x0_0 then (some (decide (¬ (Go.bits .and .u64 x1 x0_2 = 0)), wrap64 (shr .u64 (Go.bits .andNot .u64 x1 x0_2) x0_0), Go.bits .and .u64 (Go.bits .andNot .u64 x1 x0_2) (IntKind.u64.wrap ((shl .u64 1 x0_0) - 1)))) else (none)) else (none)
def zt.l0 : Nat → List Int → Option (List Int)
 | 0, _ => none
 | k + 1, x0 => if (x0.length : Int) > 0 then (if 0 ≤ wrap64 ((x0.length : Int) - 1) then (if wrap64 ((x0.length : Int) - 1) < (x0.length : Int) then (if (rd x0 (wrap64 ((x0.length : Int) - 1))) = 0 then (if 0 ≤ (wrap64 ((x0.length : Int) - 1)) then (if (wrap64 ((x0.length : Int) - 1)) ≤ (x0.length : Int) then (zt.l0 k (x0.take (wrap64 ((x0.length : Int) - 1) : Int).toNat)) else (none)) else (none)) else (some x0)) else (none)) else (none)) else (some x0)
def zt.f (k : Nat) (x0 : List Int) : Option (List Int) := zt.l0 k x0
def zaT.f (k : Nat) (x0 : Int) : Option (List Int) := (zt.f k ([x0 % 4294967296, (x0 / 4294967296) % 4294967296] : List Int)).bind fun t153 => (some t153)
def zcW.f (x0_0 : Int) (x0_1 : Int) (x0_2 : Int) : Option (Int) := some (wrap64 ((wrap64 (1 - (wrap64 (Int.tdiv x0_1 2)))) - x0_0))
abbrev zaD.S : Sig := { ps := [.lf (.i .u32)], rs := [.lf (.i .i64)], wb := [], R := Int, mkR := fun y0 => some y0, un := fun r => [.int .i64 r] }
def zaD.F (k : Nat) : Fun := { S := zaD.S, f := zaD.f }
def zaj.l0 : Nat → List Int → Int → Int → Option (Int)
 | 0, _, _, _ => none
 | k + 1, x8, x9, x10 => if x10 < x9 then (if 0 ≤ x10 then (if x10 < (x8.length : Int) then (if ¬ (rd x8 x10 = 0) then ((zaD.f (rd x8 x10)).bind fun t159 => (some (wrap64 ((wrap64 (32 * x10)) + t159)))) else (zaj.l0 k x8 x9 (wrap64 (x10 + 1)))) else (none)) else (none)) else (some 0)
def zaj.f (k : Nat) (x0 : List Int) : Option (Int) := (zak.f x0).bind fun t158 => (if (!t158) = true then (some 0) else (zaj.l0 k x0 (x0.length : Int) 0))
def zaL.l0 : Nat → List Int → Int → List Int → List Int → Int → Int → Option (List Int)
 | 0, _, _, _, _, _, _ => none
 | k + 1, x0, x5, x6, x23, x24, x25 => if x25 < x24 then (if 0 ≤ x25 then (if x25 < (x23.length : Int) then (if 0 ≤ x5 then (if 0 ≤ x25 then (if x25 < (x6.length : Int) then (if (wrap64 (x25 + 1)) < (x0.length : Int) then (if 0 ≤ x25 then (if x25 < ((x6.set (x25 : Int).toNat (shr .u32 (rd x23 x25) x5)).length : Int) then (if 0 ≤ wrap64 (x25 + 1) then (if wrap64 (x25 + 1) < (x0.length : Int) then (if 0 ≤ (wrap64 (32 - x5)) then (if 0 ≤ x25 then (if x25 < ((x6.set (x25 : Int).toNat (shr .u32 (rd x23 x25) x5)).length : Int) then (zaL.l0 k x0 x5 ((x6.set (x25 : Int).toNat (shr .u32 (rd x23 x25) x5)).set (x25 : Int).toNat (Go.bits .or .u32 (rd (x6.set (x25 : Int).toNat (shr .u32 (rd x23 x25) x5)) x25) ((shl .u64 (IntKind.u64.wrap (rd x0 (wrap64 (x25 + 1)))) (wrap64 (32 - x5))) % 4294967296))) x23 x24 (wrap64 (x25 + 1))) else (none)) else (none)) else (none)) else (none)) else (none)) else (none)) else (none)) else (zaL.l0 k x0 x5 (x6.set (x25 : Int).toNat (shr .u32 (rd x23 x25) x5)) x23 x24 (wrap64 (x25 + 1)))) else (none)) else (none)) else (none)) else (none)) else (none)) else ((zt.f k x6).bind fun t167 => (some t167))
def zaL.f (k : Nat) (x0 : List Int) (x1 : Int) : Option (List Int) := if (wrap64 (Int.tdiv x1 32)) ≥ (x0.length : Int) then (some ([] : List Int)) else (if 0 ≤ (wrap64 (Int.tdiv x1 32)) then (if (wrap64 (Int.tdiv x1 32)) ≤ (x0.length : Int) then (if 0 ≤ ((x0.drop (wrap64 (Int.tdiv x1 32) : Int).toNat).length : Int) then (if (((x0.drop (wrap64 (Int.tdiv x1 32) : Int).toNat).length : Int) : Int).toNat ≤ 70368744177664 then (zaL.l0 k (x0.drop (wrap64 (Int.tdiv x1 32) : Int).toNat) (Int.tmod x1 32) (List.replicate (((x0.drop (wrap64 (Int.tdiv x1 32) : Int).toNat).length : Int) : Int).toNat (0 : Int)) (x0.drop (wrap64 (Int.tdiv x1 32) : Int).toNat) ((x0.drop (wrap64 (Int.tdiv x1 32) : Int).toNat).length : Int) 0) else (none)) else (none)) else (none)) else (none))
mutual
def zaa.j0 : Nat → Int → Int → Option (Int)
 | 0, _, _ => none
 | k + 1, x0, x2 => if x0 ≥ 256 then (zaa.j1 k (x0 / 256) (wrap64 (x2 + 8))) else (zaa.j1 k x0 x2)
def zaa.j1 : Nat → Int → Int → Option (Int)
 | 0, _, _ => none
 | k + 1, x0, x2 => if 0 ≤ x0 % 256 then (if x0 % 256 < (zeH.size : Int) then (some (wrap64 (x2 + (wrap64 (bt zeH (x0 % 256)))))) else (none)) else (none)
end
def zaa.f (k : Nat) (x0 : Int) : Option (Int) := if x0 ≥ 65536 then (zaa.j0 k (x0 / 65536) 16) else (zaa.j0 k x0 0)
def zai.f (k : Nat) (x0 : List Int) : Option (Int) := (zak.f x0).bind fun t177 => (if (!t177) = true then (some 0) else (if (x0.length : Int) = 0 then (some 0) else (if 0 ≤ wrap64 ((x0.length : Int) - 1) then (if wrap64 ((x0.length : Int) - 1) < (x0.length : Int) then ((zaa.f k (rd x0 (wrap64 ((x0.length : Int) - 1)))).bind fun t178 => (some (wrap64 ((wrap64 (32 * (wrap64 ((x0.length : Int) - 1)))) + t178)))) else (none)) else (none))))
def zaU.l0 : Nat → List Int → Int → Int → List Int → Int → Int → Option (List Int)
 | 0, _, _, _, _, _, _ => none
 | k + 1, x5, x6, x7, x24, x25, x26 => if x26 < x25 then (if 0 ≤ x26 then (if x26 < (x24.length : Int) then (if 0 ≤ x6 then (if x5.length + ([Go.bits .or .u32 (shl .u32 (rd x24 x26) x6) x7] : List Int).length < 35184372088832 then (if 0 ≤ (wrap64 (32 - x6)) then (zaU.l0 k (x5 ++ ([Go.bits .or .u32 (shl .u32 (rd x24 x26) x6) x7] : List Int)) x6 ((shr .u64 (IntKind.u64.wrap (rd x24 x26)) (wrap64 (32 - x6))) % 4294967296) x24 x25 (wrap64 (x26 + 1))) else (none)) else (none)) else (none)) else (none)) else (none)) else (if x5.length + ([x7] : List Int).length < 35184372088832 then ((zt.f k (x5 ++ ([x7] : List Int))).bind fun t180 => (some t180)) else (none))
def zaU.f (k : Nat) (x0 : List Int) (x1 : Int) : Option (List Int) := if (x0.length : Int) = 0 then (some ([] : List Int)) else (if 0 ≤ (wrap64 (Int.tdiv x1 32)) then (if (wrap64 (Int.tdiv x1 32)) ≤ (wrap64 ((wrap64 ((wrap64 (Int.tdiv x1 32)) + (x0.length : Int))) + 1)) then (if (wrap64 ((wrap64 ((wrap64 (Int.tdiv x1 32)) + (x0.length : Int))) + 1) : Int).toNat ≤ 70368744177664 then (zaU.l0 k (List.replicate (wrap64 (Int.tdiv x1 32) : Int).toNat (0 : Int)) (Int.tmod x1 32) 0 x0 (x0.length : Int) 0) else (none)) else (none)) else (none))
def zac.f (k : Nat) (x0 : List Int) (x1 : Int) : Option (List Int × Bool × Int) := (zak.f x0).bind fun t165 => (if (!t165) = true then (some (([] : List Int), false, 2)) else (if (x0.length : Int) = 0 then (some (([] : List Int), false, 0)) else (if x1 < (-131072) then (some (([] : List Int), true, 0)) else (if x1 < 0 then ((zaL.f k x0 (wrap64 (-x1))).bind fun t168 => ((zaj.f k x0).bind fun t169 => (some (t168, decide (t169 < (wrap64 (-x1))), 0)))) else ((zai.f k x0).bind fun t179 => (if x1 > (wrap64 (131072 - t179)) then (some (([] : List Int), false, 3)) else ((zaU.f k x0 x1).bind fun t181 => (some (t181, false, 0)))))))))
def zab.f (k : Nat) (x0 : Bool) (x1 : List Int) (x2 : Int) : Option (Bool × List Int × Int × Int) := (zak.f x1).bind fun t188 => (if (!t188) = true then (some (false, ([] : List Int), 0, 2)) else (if (x1.length : Int) = 0 then (some (false, ([] : List Int), 0, 0)) else ((zaj.f k x1).bind fun t189 => (if x2 > (wrap64 (16777216 - t189)) then (some (false, ([] : List Int), 0, 20)) else (if x2 < (wrap64 ((-16777216) - t189)) then (some (false, ([] : List Int), 0, 20)) else ((zac.f k x1 (wrap64 (-t189))).bind fun t190 => (some (x0, t190.1, wrap64 (x2 + t189), 0))))))))
def zaW.j1 : Nat → Bool → List Int → Int → Int → Int → Int → Bool → Int → Int → Option (Bool × List Int × Int × Int)
 | 0, _, _, _, _, _, _, _, _, _ => none
 | k + 1, x4_0, x4_1, x4_2, x6_0, x6_1, x6_2, x8_0, x8_1, x8_2 => (zaT.f k x8_2).bind fun t154 => ((zcW.f x6_0 x6_1 x6_2).bind fun t155 => ((zab.f k x8_0 t154 (wrap64 ((wrap64 ((mx x8_1 1) - 1)) + t155))).bind fun t191 => (some (t191.1, t191.2.1, t191.2.2.1, t191.2.2.2))))
def zaW.f (k : Nat) (x0 : Int) (x1 : Int) : Option (Bool × List Int × Int × Int) := (zcV.f k x0 x1).bind fun t151 => (if ¬ (t151.2.2.2 = 0) then (some (false, ([] : List Int), 0, t151.2.2.2)) else ((zcX.f t151.1 t151.2.1 t151.2.2.1 x1).bind fun t152 => (if t152.2.1 > 0 then (if 0 ≤ t151.1 then (zaW.j1 k false ([] : List Int) 0 t151.1 t151.2.1 t151.2.2.1 t152.1 t152.2.1 (Go.bits .or .u64 t152.2.2 (shl .u64 1 t151.1))) else (none)) else (zaW.j1 k false ([] : List Int) 0 t151.1 t151.2.1 t151.2.2.1 t152.1 t152.2.1 t152.2.2))))
def zcd.f (k : Nat) (x0 : Int) (x1_0 : Int) (x1_1 : Int) : Option (Bool × List Int × Int × Bool × List Int × Int) := (zaW.f k x0 x1_0).bind fun t192 => ((zaW.f k x0 x1_1).bind fun t193 => (some (t192.1, t192.2.1, t192.2.2.1, t193.1, t193.2.1, t193.2.2.1)))
def z6.l0 : Nat → List (Bool × List Int × Int) → Int → Int → Option (Bool)
 | 0, _, _, _ => none
 | k + 1, x5, x6, x7 => if x7 < x6 then (if 0 ≤ x7 then (if x7 < (x5.length : Int) then ((zH.f ((rdT [.b, .is .u32, .i .i64] x5 x7).1) ((rdT [.b, .is .u32, .i .i64] x5 x7).2.1) ((rdT [.b, .is .u32, .i .i64] x5 x7).2.2)).bind fun t195 => (if (!t195) = true then (some false) else (z6.l0 k x5 x6 (wrap64 (x7 + 1))))) else (none)) else (none)) else (some true)
def z6.f (k : Nat) (x0 : List (Bool × List Int × Int)) : Option (Bool) := z6.l0 k x0 (x0.length : Int) 0
def z8.l0 : Nat → List (List Int) → Int → Int → Option (Bool)
 | 0, _, _, _ => none
 | k + 1, x5, x6, x7 => if x7 < x6 then (if 0 ≤ x7 then (if x7 < (x5.length : Int) then ((zak.f (rdT [.is .u32] x5 x7)).bind fun t197 => (if (!t197) = true then (some false) else (z8.l0 k x5 x6 (wrap64 (x7 + 1))))) else (none)) else (none)) else (some true)
def z8.f (k : Nat) (x0 : List (List Int)) : Option (Bool) := z8.l0 k x0 (x0.length : Int) 0
mutual
def zI.l0 : Nat → List Int → List Int → List Int → Int → Int → Option (List Int)
 | 0, _, _, _, _, _ => none
 | k + 1, x1, x5, x18, x19, x20 => if x20 < x19 then (if 0 ≤ x20 then (if x20 < (x18.length : Int) then (zI.l1 k x1 x5 x20 (rd x18 x20) 0 x18 x19 x20 x1 (x1.length : Int) 0) else (none)) else (none)) else ((zt.f k x5).bind fun t201 => (some t201))
def zI.l1 : Nat → List Int → List Int → Int → Int → Int → List Int → Int → Int → List Int → Int → Int → Option (List Int)
 | 0, _, _, _, _, _, _, _, _, _, _, _ => none
 | k + 1, x1, x5, x6, x7, x8, x18, x19, x20, x25, x26, x27 => if x27 < x26 then (if 0 ≤ x27 then (if x27 < (x25.length : Int) then (if 0 ≤ wrap64 (x6 + x27) then (if wrap64 (x6 + x27) < (x5.length : Int) then (if 0 ≤ wrap64 (x6 + x27) then (if wrap64 (x6 + x27) < (x5.length : Int) then (zI.l1 k x1 (x5.set (wrap64 (x6 + x27) : Int).toNat ((IntKind.u64.wrap ((IntKind.u64.wrap ((IntKind.u64.wrap ((IntKind.u64.wrap x7) * (IntKind.u64.wrap (rd x25 x27)))) + (IntKind.u64.wrap (rd x5 (wrap64 (x6 + x27)))))) + x8)) % 4294967296)) x6 x7 ((IntKind.u64.wrap ((IntKind.u64.wrap ((IntKind.u64.wrap ((IntKind.u64.wrap x7) * (IntKind.u64.wrap (rd x25 x27)))) + (IntKind.u64.wrap (rd x5 (wrap64 (x6 + x27)))))) + x8)) / 4294967296) x18 x19 x20 x25 x26 (wrap64 (x27 + 1))) else (none)) else (none)) else (none)) else (none)) else (none)) else (none)) else (if 0 ≤ wrap64 (x6 + (x1.length : Int)) then (if wrap64 (x6 + (x1.length : Int)) < (x5.length : Int) then (zI.l0 k x1 (x5.set (wrap64 (x6 + (x1.length : Int)) : Int).toNat (x8 % 4294967296)) x18 x19 (wrap64 (x20 + 1))) else (none)) else (none))
end
def zI.f (k : Nat) (x0 : List Int) (x1 : List Int) : Option (List Int) := if 0 ≤ (wrap64 ((x0.length : Int) + (x1.length : Int))) then (if (wrap64 ((x0.length : Int) + (x1.length : Int)) : Int).toNat ≤ 70368744177664 then (zI.l0 k x1 (List.replicate (wrap64 ((x0.length : Int) + (x1.length : Int)) : Int).toNat (0 : Int)) x0 (x0.length : Int) 0) else (none)) else (none)
def zaz.f (x0 : List Int) : Option (List Int × Int) := if (x0.length : Int) > 4096 then (some (([] : List Int), 3)) else (some (x0, 0))
def zcQ.f (k : Nat) (x0 : List Int) (x1 : List Int) : Option (List Int × Int) := (z8.f k [x0, x1]).bind fun t208 => (if (!t208) = true then (some (([] : List Int), 2)) else (if (x0.length : Int) > 0 then (if (x1.length : Int) > 0 then (if (wrap64 ((wrap64 ((x0.length : Int) + (x1.length : Int))) - 1)) > 4096 then (some (([] : List Int), 3)) else ((zI.f k x0 x1).bind fun t209 => ((zaz.f t209).bind fun t210 => (some (t210.1, t210.2))))) else ((zI.f k x0 x1).bind fun t211 => ((zaz.f t211).bind fun t212 => (some (t212.1, t212.2))))) else ((zI.f k x0 x1).bind fun t213 => ((zaz.f t213).bind fun t214 => (some (t214.1, t214.2))))))
def zca.f (k : Nat) (x0_0 : Bool) (x0_1 : List Int) (x0_2 : Int) (x1_0 : Bool) (x1_1 : List Int) (x1_2 : Int) : Option (Bool × List Int × Int × Int) := (z6.f k [(x0_0, x0_1, x0_2), (x1_0, x1_1, x1_2)]).bind fun t196 => (if (!t196) = true then (some (false, ([] : List Int), 0, 2)) else ((zcQ.f k x0_1 x1_1).bind fun t215 => (if ¬ (t215.2 = 0) then (some (false, ([] : List Int), 0, t215.2)) else ((zab.f k (decide (¬ ((x0_0) = (x1_0)))) t215.1 (wrap64 (x0_2 + x1_2))).bind fun t216 => (some (t216.1, t216.2.1, t216.2.2.1, t216.2.2.2))))))
def zaJ.f (k : Nat) (x0_0 : Bool) (x0_1 : List Int) (x0_2 : Int) (x1_0 : Bool) (x1_1 : List Int) (x1_2 : Int) : Option (Bool × List Int × Int) := (zca.f k x0_0 x0_1 x0_2 x1_0 x1_1 x1_2).bind fun t217 => (some (t217.1, t217.2.1, t217.2.2.1))
def za8.f (x0_0 : Bool) (x0_1 : List Int) (x0_2 : Int) : Option (Bool × List Int × Int) := if x0_1.length < 35184372088832 then (some (x0_0, x0_1, x0_2)) else (none)
def zcM.f (x0_0 : Bool) (x0_1 : List Int) (x0_2 : Int) (x1 : Bool) : Option (Bool × List Int × Int) := (za8.f x0_0 x0_1 x0_2).bind fun t222 => (if x1 = true then (some (decide ((t222.2.1.length : Int) > 0), t222.2.1, t222.2.2)) else (some (false, t222.2.1, t222.2.2)))
def zaA.l0 : Nat → List Int → List Int → Int → Option (Int)
 | 0, _, _, _ => none
 | k + 1, x0, x1, x5 => if x5 ≥ 0 then (if 0 ≤ x5 then (if x5 < (x0.length : Int) then (if 0 ≤ x5 then (if x5 < (x1.length : Int) then (if ¬ (rd x0 x5 = rd x1 x5) then (if 0 ≤ x5 then (if x5 < (x0.length : Int) then (if 0 ≤ x5 then (if x5 < (x1.length : Int) then (if (rd x0 x5) < (rd x1 x5) then (some (-1)) else (some 1)) else (none)) else (none)) else (none)) else (none)) else (zaA.l0 k x0 x1 (wrap64 (x5 - 1)))) else (none)) else (none)) else (none)) else (none)) else (some 0)
def zaA.f (k : Nat) (x0 : List Int) (x1 : List Int) : Option (Int) := if (x0.length : Int) < (x1.length : Int) then (some (-1)) else (if (x0.length : Int) > (x1.length : Int) then (some 1) else (zaA.l0 k x0 x1 (wrap64 ((x0.length : Int) - 1))))
def zb0.f (x0 : Int) (x1 : Int) (x2 : Int) : Option (Int × Int) := some ((((x0 - x1) % 4294967296) - x2) % 4294967296, (Go.bits .or .u32 (Go.bits .and .u32 (Go.bits .xor .u32 4294967295 x0) x1) (Go.bits .and .u32 (Go.bits .xor .u32 4294967295 (Go.bits .xor .u32 x0 x1)) ((((x0 - x1) % 4294967296) - x2) % 4294967296))) / 2147483648)
mutual
def z4.l0 : Nat → List Int → List Int → List Int → Int → Int → Int → Option (List Int)
 | 0, _, _, _, _, _, _ => none
 | k + 1, x0, x1, x5, x6, x13, x14 => if x14 < x13 then (if x14 < (x1.length : Int) then (if 0 ≤ x14 then (if x14 < (x1.length : Int) then (z4.j1 k x0 x1 x5 x6 x14 (rd x1 x14) x13 x14) else (none)) else (none)) else (z4.j1 k x0 x1 x5 x6 x14 0 x13 x14)) else ((zt.f k x5).bind fun t238 => (some t238))
def z4.j1 : Nat → List Int → List Int → List Int → Int → Int → Int → Int → Int → Option (List Int)
 | 0, _, _, _, _, _, _, _, _ => none
 | k + 1, x0, x1, x5, x6, x7, x8, x13, x14 => if 0 ≤ x7 then (if x7 < (x0.length : Int) then ((zb0.f (rd x0 x7) x8 x6).bind fun t237 => (if 0 ≤ x7 then (if x7 < (x5.length : Int) then (z4.l0 k x0 x1 (x5.set (x7 : Int).toNat t237.1) t237.2 x13 (wrap64 (x14 + 1))) else (none)) else (none))) else (none)) else (none)
end
def z4.f (k : Nat) (x0 : List Int) (x1 : List Int) : Option (List Int) := if 0 ≤ (x0.length : Int) then (if ((x0.length : Int) : Int).toNat ≤ 70368744177664 then (z4.l0 k x0 x1 (List.replicate ((x0.length : Int) : Int).toNat (0 : Int)) 0 (x0.length : Int) 0) else (none)) else (none)
def zbj.f (k : Nat) (x0 : List Int) (x1 : List Int) : Option (List Int × Int) := (z8.f k [x0, x1]).bind fun t232 => (if (!t232) = true then (some (([] : List Int), 2)) else ((zaA.f k x0 x1).bind fun t233 => (if t233 < 0 then (some (([] : List Int), 10)) else ((z4.f k x0 x1).bind fun t239 => (some (t239, 0))))))
def zbZ.f (x0 : Int) (x1 : Int) (x2 : Int) : Option (Int × Int) := some ((IntKind.u64.wrap ((IntKind.u64.wrap ((IntKind.u64.wrap x0) + (IntKind.u64.wrap x1))) + (IntKind.u64.wrap x2))) % 4294967296, ((IntKind.u64.wrap ((IntKind.u64.wrap ((IntKind.u64.wrap x0) + (IntKind.u64.wrap x1))) + (IntKind.u64.wrap x2))) / 4294967296) % 4294967296)
mutual
def zu.l0 : Nat → List Int → List Int → List Int → Int → Int → Int → Option (List Int × Int)
 | 0, _, _, _, _, _, _ => none
 | k + 1, x0, x1, x6, x7, x27, x28 => if x28 < x27 then (if x28 < (x1.length : Int) then (if 0 ≤ x28 then (if x28 < (x1.length : Int) then (zu.j3 k x0 x1 x6 x7 x28 (rd x1 x28) x27 x28) else (none)) else (none)) else (zu.j3 k x0 x1 x6 x7 x28 0 x27 x28)) else (if 0 ≤ (x0.length : Int) then (if (x0.length : Int) < (x6.length : Int) then ((zt.f k (x6.set ((x0.length : Int) : Int).toNat x7)).bind fun t255 => ((zaz.f t255).bind fun t256 => (some (t256.1, t256.2)))) else (none)) else (none))
def zu.j1 : Nat → List Int → List Int → Option (List Int × Int)
 | 0, _, _ => none
 | k + 1, x0, x1 => if 0 ≤ (wrap64 ((x0.length : Int) + 1)) then (if (wrap64 ((x0.length : Int) + 1) : Int).toNat ≤ 70368744177664 then (zu.l0 k x0 x1 (List.replicate (wrap64 ((x0.length : Int) + 1) : Int).toNat (0 : Int)) 0 (x0.length : Int) 0) else (none)) else (none)
def zu.j3 : Nat → List Int → List Int → List Int → Int → Int → Int → Int → Int → Option (List Int × Int)
 | 0, _, _, _, _, _, _, _, _ => none
 | k + 1, x0, x1, x6, x7, x8, x9, x27, x28 => if 0 ≤ x8 then (if x8 < (x0.length : Int) then ((zbZ.f (rd x0 x8) x9 x7).bind fun t254 => (if 0 ≤ x8 then (if x8 < (x6.length : Int) then (zu.l0 k x0 x1 (x6.set (x8 : Int).toNat t254.1) t254.2 x27 (wrap64 (x28 + 1))) else (none)) else (none))) else (none)) else (none)
end
def zu.f (k : Nat) (x0 : List Int) (x1 : List Int) : Option (List Int × Int) := (z8.f k [x0, x1]).bind fun t253 => (if (!t253) = true then (some (([] : List Int), 2)) else (if (x0.length : Int) < (x1.length : Int) then (zu.j1 k x1 x0) else (zu.j1 k x0 x1)))
def zdA.f (k : Nat) (x0_0 : Bool) (x0_1 : List Int) (x0_2 : Int) (x1_0 : Bool) (x1_1 : List Int) (x1_2 : Int) (x2 : Int) : Option (Bool × List Int × Int × Int) := if (x0_0) = (x1_0) then (some (false, ([] : List Int), 0, 3)) else ((zac.f k x0_1 (wrap64 (x2 - 1))).bind fun t230 => ((zac.f k x1_1 (-1)).bind fun t231 => ((zbj.f k t230.1 t231.1).bind fun t240 => (if ¬ (t240.2 = 0) then (some (false, ([] : List Int), 0, 3)) else ((zu.f k t240.1 t240.1).bind fun t257 => (if t257.2 = 0 then ((zaT.f k 1).bind fun t258 => ((zbj.f k t257.1 t258).bind fun t259 => ((zab.f k x0_0 t259.1 x1_2).bind fun t260 => (some (t260.1, t260.2.1, t260.2.2.1, t260.2.2.2))))) else ((zai.f k t240.1).bind fun t261 => ((zaj.f k t240.1).bind fun t262 => (if t261 = (wrap64 (t262 + 1)) then ((zaT.f k 1).bind fun t263 => ((zbj.f k t240.1 t263).bind fun t264 => ((zu.f k t264.1 t240.1).bind fun t265 => ((zab.f k x0_0 t265.1 x1_2).bind fun t266 => (some (t266.1, t266.2.1, t266.2.2.1, t266.2.2.2)))))) else (some (false, ([] : List Int), 0, 3)))))))))))
def zbJ.j1 : Nat → Bool → Int → Bool → List Int → Int → List Int → Option (Bool × List Int × Int × Int)
 | 0, _, _, _, _, _, _ => none
 | k + 1, x0, x3, x8_0, x8_1, x8_2, x16 => (zab.f k x0 x16 (wrap64 (x3 + 1))).bind fun t280 => (some (t280.1, t280.2.1, t280.2.2.1, t280.2.2.2))
def zbJ.f (k : Nat) (x0 : Bool) (x1 : List Int) (x2 : List Int) (x3 : Int) : Option (Bool × List Int × Int × Int) := if 0 < (x1.length : Int) then (if 0 < (x2.length : Int) then (if ¬ (Go.bits .and .u32 (rd x1 0) 1 = Go.bits .and .u32 (rd x2 0) 1) then (some (false, ([] : List Int), 0, 3)) else ((zac.f k x1 (-1)).bind fun t275 => ((zac.f k x2 (-1)).bind fun t276 => ((zu.f k t275.1 t276.1).bind fun t277 => (if 0 < (x1.length : Int) then (if (Go.bits .and .u32 (rd x1 0) 1) = 1 then ((zaT.f k 1).bind fun t278 => ((zu.f k t277.1 t278).bind fun t279 => (zbJ.j1 k x0 x3 false ([] : List Int) 0 t279.1))) else (zbJ.j1 k x0 x3 false ([] : List Int) 0 t277.1)) else (none)))))) else (none)) else (none)
def zbP.f (k : Nat) (x0 : List Int) (x1 : List Int) : Option (Int × Int) := (z8.f k [x0, x1]).bind fun t283 => (if (!t283) = true then (some (0, 2)) else ((zaA.f k x0 x1).bind fun t284 => (some (t284, 0))))
def zaS.j2 : Nat → Bool → List Int → List Int → Int → Bool → List Int → Int → Option (Bool × List Int × Int × Int)
 | 0, _, _, _, _, _, _, _ => none
 | k + 1, x0, x1, x3, x4, x10_0, x10_1, x10_2 => (zbj.f k x1 x3).bind fun t290 => ((zab.f k x0 t290.1 x4).bind fun t291 => (some (t291.1, t291.2.1, t291.2.2.1, t291.2.2.2)))
def zaS.f (k : Nat) (x0 : Bool) (x1 : List Int) (x2 : Bool) (x3 : List Int) (x4 : Int) : Option (Bool × List Int × Int × Int) := if (x0) = (x2) then ((zu.f k x1 x3).bind fun t286 => (if ¬ (t286.2 = 0) then ((zbJ.f k x0 x1 x3 x4).bind fun t287 => (some (t287.1, t287.2.1, t287.2.2.1, t287.2.2.2))) else ((zab.f k x0 t286.1 x4).bind fun t288 => (some (t288.1, t288.2.1, t288.2.2.1, t288.2.2.2))))) else ((zbP.f k x1 x3).bind fun t289 => (if t289.1 < 0 then (zaS.j2 k x2 x3 x1 x4 false ([] : List Int) 0) else (zaS.j2 k x0 x1 x3 x4 false ([] : List Int) 0)))
def zaH.j1 : Nat → Bool → List Int → Int → Bool → List Int → Int → Bool → List Int → Int → Option (Bool × List Int × Int × Int)
 | 0, _, _, _, _, _, _, _, _, _ => none
 | k + 1, x2_0, x2_1, x2_2, x3_0, x3_1, x3_2, x4_0, x4_1, x4_2 => (zai.f k x2_1).bind fun t228 => (if (wrap64 ((wrap64 (x2_2 - x3_2)) + t228)) > 131073 then (some (false, ([] : List Int), 0, 3)) else ((zai.f k x2_1).bind fun t229 => (if (wrap64 ((wrap64 (x2_2 - x3_2)) + t229)) > 131072 then ((zdA.f k x2_0 x2_1 x2_2 x3_0 x3_1 x3_2 (wrap64 (x2_2 - x3_2))).bind fun t267 => (some (t267.1, t267.2.1, t267.2.2.1, t267.2.2.2))) else ((zac.f k x2_1 (wrap64 (x2_2 - x3_2))).bind fun t268 => ((zaS.f k x2_0 t268.1 x3_0 x3_1 x3_2).bind fun t292 => (some (t292.1, t292.2.1, t292.2.2.1, t292.2.2.2)))))))
def zaH.f (k : Nat) (x0_0 : Bool) (x0_1 : List Int) (x0_2 : Int) (x1_0 : Bool) (x1_1 : List Int) (x1_2 : Int) : Option (Bool × List Int × Int × Int) := if (x0_1.length : Int) = 0 then ((za8.f x1_0 x1_1 x1_2).bind fun t226 => (some (t226.1, t226.2.1, t226.2.2, 0))) else (if (x1_1.length : Int) = 0 then ((za8.f x0_0 x0_1 x0_2).bind fun t227 => (some (t227.1, t227.2.1, t227.2.2, 0))) else (if x0_2 < x1_2 then (zaH.j1 k x1_0 x1_1 x1_2 x0_0 x0_1 x0_2 false ([] : List Int) 0) else (zaH.j1 k x0_0 x0_1 x0_2 x1_0 x1_1 x1_2 false ([] : List Int) 0)))
def zcb.f (k : Nat) (x0_0 : Bool) (x0_1 : List Int) (x0_2 : Int) (x1_0 : Bool) (x1_1 : List Int) (x1_2 : Int) : Option (Bool × List Int × Int × Int) := (z6.f k [(x0_0, x0_1, x0_2), (x1_0, x1_1, x1_2)]).bind fun t219 => (if (!t219) = true then (some (false, ([] : List Int), 0, 2)) else ((zcM.f x1_0 x1_1 x1_2 (!x1_0)).bind fun t223 => ((zaH.f k x0_0 x0_1 x0_2 t223.1 t223.2.1 t223.2.2).bind fun t293 => (some (t293.1, t293.2.1, t293.2.2.1, t293.2.2.2)))))
def zbL.f (k : Nat) (x0_0 : Bool) (x0_1 : List Int) (x0_2 : Int) (x1_0 : Bool) (x1_1 : List Int) (x1_2 : Int) : Option (Bool × List Int × Int) := (zcb.f k x0_0 x0_1 x0_2 x1_0 x1_1 x1_2).bind fun t294 => (some (t294.1, t294.2.1, t294.2.2.1))
def zb7.f (k : Nat) (x0_0 : Bool) (x0_1 : List Int) (x0_2 : Int) (x1_0 : Bool) (x1_1 : List Int) (x1_2 : Int) : Option (Bool × List Int × Int × Int) := (z6.f k [(x0_0, x0_1, x0_2), (x1_0, x1_1, x1_2)]).bind fun t300 => (if (!t300) = true then (some (false, ([] : List Int), 0, 2)) else ((zaH.f k x0_0 x0_1 x0_2 x1_0 x1_1 x1_2).bind fun t301 => (some (t301.1, t301.2.1, t301.2.2.1, t301.2.2.2))))
def zcO.f (k : Nat) (x0_0 : Bool) (x0_1 : List Int) (x0_2 : Int) (x1_0 : Bool) (x1_1 : List Int) (x1_2 : Int) : Option (Bool × List Int × Int) := (zb7.f k x0_0 x0_1 x0_2 x1_0 x1_1 x1_2).bind fun t302 => (some (t302.1, t302.2.1, t302.2.2.1))
def zce.f (k : Nat) (x0_0 : Bool) (x0_1 : List Int) (x0_2 : Int) (x0_3 : Bool) (x0_4 : List Int) (x0_5 : Int) : Option (Bool × List Int × Int) := (zaJ.f k x0_0 x0_1 x0_2 x0_0 x0_1 x0_2).bind fun t298 => ((zaJ.f k x0_3 x0_4 x0_5 x0_3 x0_4 x0_5).bind fun t299 => ((zcO.f k t298.1 t298.2.1 t298.2.2 t299.1 t299.2.1 t299.2.2).bind fun t303 => (some (t303.1, t303.2.1, t303.2.2))))
def zc8.f (x0 : Int) : Option (Int) := if x0 = 1 then (some 24) else (some 53)
def zbI.f (x0_0 : Bool) (x0_1 : List Int) (x0_2 : Int) (x1 : Int) : Option (Bool × List Int × Int × Int) := (zH.f x0_0 x0_1 x0_2).bind fun t313 => (if (!t313) = true then (some (false, ([] : List Int), 0, 2)) else (if (x0_1.length : Int) = 0 then (some (false, ([] : List Int), 0, 0)) else (if x1 > (wrap64 (16777216 - x0_2)) then (some (false, ([] : List Int), 0, 20)) else (if x1 < (wrap64 ((-16777216) - x0_2)) then (some (false, ([] : List Int), 0, 20)) else ((za8.f x0_0 x0_1 x0_2).bind fun t314 => (some (t314.1, t314.2.1, wrap64 (t314.2.2 + x1), 0)))))))
def zbK.f (k : Nat) (x0 : Int) (x1_0 : Int) (x1_1 : Int) (x2_0 : Bool) (x2_1 : List Int) (x2_2 : Int) (x3_0 : Bool) (x3_1 : List Int) (x3_2 : Int) (x4_0 : Bool) (x4_1 : List Int) (x4_2 : Int) : Option (Bool × List Int × Int × Bool × List Int × Int) := (zcd.f k x0 x1_0 x1_1).bind fun t194 => ((zaJ.f k t194.1 t194.2.1 t194.2.2.1 x4_0 x4_1 x4_2).bind fun t218 => ((zbL.f k t218.1 t218.2.1 t218.2.2 x2_0 x2_1 x2_2).bind fun t295 => ((zaJ.f k t194.2.2.2.1 t194.2.2.2.2.1 t194.2.2.2.2.2 x4_0 x4_1 x4_2).bind fun t296 => ((zbL.f k t296.1 t296.2.1 t296.2.2 x3_0 x3_1 x3_2).bind fun t297 => ((zce.f k t295.1 t295.2.1 t295.2.2 t297.1 t297.2.1 t297.2.2).bind fun t304 => ((zc8.f x0).bind fun t305 => ((zbI.f t304.1 t304.2.1 t304.2.2 (wrap64 (2 * t305))).bind fun t315 => ((zce.f k x2_0 x2_1 x2_2 x3_0 x3_1 x3_2).bind fun t316 => (some (t315.1, t315.2.1, t315.2.2.1, t316.1, t316.2.1, t316.2.2))))))))))
def zbq.f (k : Nat) (x0_0 : Bool) (x0_1 : List Int) (x0_2 : Int) : Option (Int) := (zH.f x0_0 x0_1 x0_2).bind fun t332 => (if (!t332) = true then (some 0) else (if (x0_1.length : Int) = 0 then (some 0) else ((zai.f k x0_1).bind fun t333 => (some (wrap64 (x0_2 + t333))))))
def zay.j1 : Nat → List Int → List Int → Option (Int)
 | 0, _, _ => none
 | k + 1, x5, x6 => (zbP.f k x5 x6).bind fun t349 => (some t349.1)
def zay.f (k : Nat) (x0_0 : Bool) (x0_1 : List Int) (x0_2 : Int) (x1_0 : Bool) (x1_1 : List Int) (x1_2 : Int) : Option (Int) := (zbq.f k x0_0 x0_1 x0_2).bind fun t341 => ((zbq.f k x1_0 x1_1 x1_2).bind fun t342 => (if t341 < t342 then (some (-1)) else ((zbq.f k x0_0 x0_1 x0_2).bind fun t343 => ((zbq.f k x1_0 x1_1 x1_2).bind fun t344 => (if t343 > t344 then (some 1) else ((zai.f k x0_1).bind fun t345 => ((zai.f k x1_1).bind fun t346 => (if (wrap64 (t345 - t346)) > 0 then ((zac.f k x1_1 (wrap64 (t345 - t346))).bind fun t347 => (zay.j1 k x0_1 t347.1)) else ((zac.f k x0_1 (wrap64 (-(wrap64 (t345 - t346))))).bind fun t348 => (zay.j1 k t348.1 x1_1))))))))))
def zb8.f (k : Nat) (x0_0 : Bool) (x0_1 : List Int) (x0_2 : Int) (x1_0 : Bool) (x1_1 : List Int) (x1_2 : Int) : Option (Int × Int) := (z6.f k [(x0_0, x0_1, x0_2), (x1_0, x1_1, x1_2)]).bind fun t322 => (if (!t322) = true then (some (0, 2)) else ((zaG.f k x0_0 x0_1 x0_2).bind fun t323 => ((zaG.f k x1_0 x1_1 x1_2).bind fun t324 => (if t323 < t324 then (some ((-1), 0)) else (if t323 > t324 then (some (1, 0)) else ((zay.f k x0_0 x0_1 x0_2 x1_0 x1_1 x1_2).bind fun t350 => (some (wrap64 (t323 * t350), 0))))))))
def zbr.f (k : Nat) (x0_0 : Bool) (x0_1 : List Int) (x0_2 : Int) (x1_0 : Bool) (x1_1 : List Int) (x1_2 : Int) (x2 : Int) : Option (Bool) := (zaT.f k x2).bind fun t318 => ((zab.f k false t318 0).bind fun t319 => ((zaJ.f k t319.1 t319.2.1 t319.2.2.1 t319.1 t319.2.1 t319.2.2.1).bind fun t320 => ((zaJ.f k t320.1 t320.2.1 t320.2.2 x1_0 x1_1 x1_2).bind fun t321 => ((zb8.f k x0_0 x0_1 x0_2 t321.1 t321.2.1 t321.2.2).bind fun t351 => (some (decide (t351.1 ≤ 0)))))))
def zE.l0 : Nat → Bool → List Int → Int → Bool → List Int → Int → Int → Int → Option (Int × Int)
 | 0, _, _, _, _, _, _, _, _ => none
 | k + 1, x13_0, x13_1, x13_2, x14_0, x14_1, x14_2, x15, x16 => if x15 < x16 then ((zbr.f k x13_0 x13_1 x13_2 x14_0 x14_1 x14_2 (IntKind.u64.wrap (Int.tdiv (IntKind.u64.wrap (x15 + x16)) 2))).bind fun t356 => (if t356 = true then (zE.l0 k x13_0 x13_1 x13_2 x14_0 x14_1 x14_2 x15 (IntKind.u64.wrap (Int.tdiv (IntKind.u64.wrap (x15 + x16)) 2))) else (zE.l0 k x13_0 x13_1 x13_2 x14_0 x14_1 x14_2 (IntKind.u64.wrap ((IntKind.u64.wrap (Int.tdiv (IntKind.u64.wrap (x15 + x16)) 2)) + 1)) x16))) else (some (x15, 0))
def zE.f (k : Nat) (x0 : Int) (x1_0 : Int) (x1_1 : Int) (x2_0 : Bool) (x2_1 : List Int) (x2_2 : Int) (x3_0 : Bool) (x3_1 : List Int) (x3_2 : Int) (x4_0 : Bool) (x4_1 : List Int) (x4_2 : Int) : Option (Int × Int) := (zm.f k x0 x1_0 x1_1 0 x2_0 x2_1 x2_2 x3_0 x3_1 x3_2 x4_0 x4_1 x4_2).bind fun t353 => (if ¬ (t353 = 0) then (some (0, t353)) else ((zbK.f k x0 x1_0 x1_1 x2_0 x2_1 x2_2 x3_0 x3_1 x3_2 x4_0 x4_1 x4_2).bind fun t354 => ((zbr.f k t354.1 t354.2.1 t354.2.2.1 t354.2.2.2.1 t354.2.2.2.2.1 t354.2.2.2.2.2 4294967295).bind fun t355 => (if (!t355) = true then (some (0, 20)) else (zE.l0 k t354.1 t354.2.1 t354.2.2.1 t354.2.2.2.1 t354.2.2.2.2.1 t354.2.2.2.2.2 0 4294967295)))))
def za1.f (k : Nat) (x0 : Int) (x1_0 : Int) (x1_1 : Int) (x2_0 : Bool) (x2_1 : List Int) (x2_2 : Int) (x3_0 : Bool) (x3_1 : List Int) (x3_2 : Int) (x4_0 : Bool) (x4_1 : List Int) (x4_2 : Int) (x5 : Int) : Option (Bool × Int) := (zm.f k x0 x1_0 x1_1 x5 x2_0 x2_1 x2_2 x3_0 x3_1 x3_2 x4_0 x4_1 x4_2).bind fun t360 => (if ¬ (t360 = 0) then (some (false, t360)) else ((zbK.f k x0 x1_0 x1_1 x2_0 x2_1 x2_2 x3_0 x3_1 x3_2 x4_0 x4_1 x4_2).bind fun t361 => ((zbr.f k t361.1 t361.2.1 t361.2.2.1 t361.2.2.2.1 t361.2.2.2.2.1 t361.2.2.2.2.2 (IntKind.u64.wrap x5)).bind fun t362 => (some (t362, 0)))))
def zbm.f (k : Nat) : Option (Bool) := (zz.f k 1).bind fun t370 => ((zz.f k 1).bind fun t371 => ((zE.f k 1 1065353217 0 t370.1 t370.2.1 t370.2.2 false ([] : List Int) 0 t371.1 t371.2.1 t371.2.2).bind fun t372 => ((zz.f k 1).bind fun t373 => ((zz.f k 1).bind fun t374 => ((za1.f k 1 1065353217 0 t373.1 t373.2.1 t373.2.2 false ([] : List Int) 0 t374.1 t374.2.1 t374.2.2 1).bind fun t375 => (if t372.1 = 2 then (if t372.2 = 0 then (if (!t375.1) = true then (some (decide (t375.2 = 0))) else (some false)) else (some false)) else (some false)))))))
def zbF.f (x0 : Int) : Option (Bool) := if x0 = 1 then (some true) else (some (decide (x0 = 2)))
def zb5.f (x0 : Int) (x1 : Int) : Option (Int) := (zbF.f x0).bind fun t386 => (if (!t386) = true then (some 4) else (if x0 = 1 then (if x1 ≥ 4294967296 then (some 6) else (some 0)) else (some 0)))
def zax.l0 : Nat → Int → List (Int × Int) → Int → Option (Int)
 | 0, _, _, _ => none
 | k + 1, x0, x1, x5 => if x5 < (x1.length : Int) then (if 0 ≤ x5 then (if x5 < (x1.length : Int) then ((zb5.f x0 ((rdT [.i .u64, .i .u64] x1 x5).1)).bind fun t400 => (if ¬ (t400 = 0) then (some 6) else (if 0 ≤ x5 then (if x5 < (x1.length : Int) then ((zb5.f x0 ((rdT [.i .u64, .i .u64] x1 x5).2)).bind fun t401 => (if ¬ (t401 = 0) then (some 6) else (zax.l0 k x0 x1 (wrap64 (x5 + 1))))) else (none)) else (none)))) else (none)) else (none)) else (some 0)
def zax.f (k : Nat) (x0 : Int) (x1 : List (Int × Int)) : Option (Int) := (zbF.f x0).bind fun t399 => (if (!t399) = true then (some 4) else (zax.l0 k x0 x1 0))
def zc4.f (x0 : List Int) : Option (Bool) := if (x0.length : Int) ≤ 4096 then (if (x0.length : Int) = 0 then (some true) else (if 0 ≤ wrap64 ((x0.length : Int) - 1) then (if wrap64 ((x0.length : Int) - 1) < (x0.length : Int) then (some (decide (¬ (rd x0 (wrap64 ((x0.length : Int) - 1)) = 0)))) else (none)) else (none))) else (some false)
def zbE.f (x0_0 : Bool) (x0_1 : List Int) (x0_2 : Int) : Option (Bool) := (zc4.f x0_1).bind fun t406 => (if (!t406) = true then (some false) else (if (x0_1.length : Int) = 0 then (if (!x0_0) = true then (some (decide (x0_2 = 0))) else (some false)) else (if 0 < (x0_1.length : Int) then (if (Int.tmod (rd x0_1 0) 2) = 1 then (if x0_2 ≥ (-16777216) then (some (decide (x0_2 ≤ 16777216))) else (some false)) else (some false)) else (none))))
def zaq.f (x0_0 : Bool) (x0_1 : List Int) (x0_2 : Int) : Option (Int) := if (x0_1.length : Int) = 0 then (some 0) else (if x0_0 = true then (some (-1)) else (some 1))
def zcJ.f (x0 : Int) : Option (Int) := if x0 = 1 then (some 2147483648) else (some 9223372036854775808)
def zbf.f (x0 : Int) : Option (Int) := if x0 = 1 then (some 23) else (some 52)
def zbG.f (x0 : Int) (x1 : Int) : Option (Bool × Int × Int) := (zcJ.f x0).bind fun t417 => ((zcJ.f x0).bind fun t418 => (if t418 = 0 then (none) else ((zbf.f x0).bind fun t419 => (if 0 ≤ t419 then (if (shl .u64 1 t419) = 0 then (none) else ((zbf.f x0).bind fun t420 => (if 0 ≤ t420 then (some (decide (x1 ≥ t417), wrap64 (shr .u64 (Int.tmod x1 t418) t420), Int.tmod (Int.tmod x1 t418) (shl .u64 1 t419))) else (none)))) else (none)))))
def zcI.f (x0 : Int) : Option (Int) := if x0 = 1 then (some 255) else (some 2047)
def zcG.f (x0 : Int) (x1 : Int) : Option (Int) := (zbG.f x0 x1).bind fun t428 => (if t428.2.1 = 0 then (if t428.2.2 = 0 then (some 1) else (if t428.2.1 = 0 then (some 2) else ((zcI.f x0).bind fun t429 => (if t428.2.1 < t429 then (some 3) else (if t428.2.2 = 0 then (some 4) else (some 5)))))) else (if t428.2.1 = 0 then (some 2) else ((zcI.f x0).bind fun t430 => (if t428.2.1 < t430 then (some 3) else (if t428.2.2 = 0 then (some 4) else (some 5))))))
def zb4.f (x0 : Int) (x1 : Int) : Option (Bool) := (zcG.f x0 x1).bind fun t433 => (if ¬ (t433 = 4) then (some (decide (¬ (t433 = 5)))) else (some false))
def zcK.f (x0 : Int) (x1_0 : Int) (x1_1 : Int) : Option (Bool) := (zb4.f x0 x1_0).bind fun t438 => (if t438 = true then ((zb4.f x0 x1_1).bind fun t439 => (some t439)) else (some false))
def zaF.l0 : Nat → List (Bool × List Int × Int) → Int → Option (Bool)
 | 0, _, _ => none
 | k + 1, x0, x3 => if x3 < (x0.length : Int) then (if 0 ≤ x3 then (if x3 < (x0.length : Int) then (if (((rdT [.b, .is .u32, .i .i64] x0 x3).2.1).length : Int) > 400 then (some false) else (if 0 ≤ x3 then (if x3 < (x0.length : Int) then (if ((rdT [.b, .is .u32, .i .i64] x0 x3).2.2) < (-20000) then (some false) else (if 0 ≤ x3 then (if x3 < (x0.length : Int) then (if ((rdT [.b, .is .u32, .i .i64] x0 x3).2.2) > 20000 then (some false) else (zaF.l0 k x0 (wrap64 (x3 + 1)))) else (none)) else (none))) else (none)) else (none))) else (none)) else (none)) else (some true)
def zaF.f (k : Nat) (x0 : List (Bool × List Int × Int)) : Option (Bool) := zaF.l0 k x0 0
def zbn.f (k : Nat) (x0 : Int) (x1_0 : Int) (x1_1 : Int) (x2_0 : Bool) (x2_1 : List Int) (x2_2 : Int) (x2_3 : Bool) (x2_4 : List Int) (x2_5 : Int) (x2_6 : Bool) (x2_7 : List Int) (x2_8 : Int) (x3 : Int) : Option (Int) := (zax.f k x0 [(x1_0, x1_1)]).bind fun t451 => (if ¬ (t451 = 0) then (some t451) else ((zbE.f x2_0 x2_1 x2_2).bind fun t452 => (if (!t452) = true then (some 2) else ((zbE.f x2_3 x2_4 x2_5).bind fun t453 => (if (!t453) = true then (some 2) else ((zbE.f x2_6 x2_7 x2_8).bind fun t454 => (if (!t454) = true then (some 2) else (if x3 < 0 then (some 2) else ((zaq.f x2_6 x2_7 x2_8).bind fun t455 => (if t455 = 0 then (some 11) else ((zcK.f x0 x1_0 x1_1).bind fun t456 => (if (!t456) = true then (some 7) else ((zaF.f k [(x2_0, x2_1, x2_2), (x2_3, x2_4, x2_5), (x2_6, x2_7, x2_8)]).bind fun t457 => (if (!t457) = true then (some 3) else (some 0)))))))))))))))
def zcH.f (x0 : Int) : Option (Int) := if x0 = 1 then (some (-149)) else (some (-1074))
def zbp.f (k : Nat) (x0 : Int) (x1 : Int) : Option (Bool × List Int × Int) := (zbG.f x0 x1).bind fun t464 => (if t464.2.1 = 0 then ((zaP.f k t464.2.2).bind fun t465 => ((zcH.f x0).bind fun t466 => ((zL.f k t464.1 t465 t466).bind fun t467 => (some (t467.1, t467.2.1, t467.2.2))))) else ((zbf.f x0).bind fun t468 => (if 0 ≤ t468 then ((zaP.f k (IntKind.u64.wrap ((shl .u64 1 t468) + t464.2.2))).bind fun t469 => ((zcH.f x0).bind fun t470 => ((zL.f k t464.1 t469 (wrap64 ((wrap64 (t464.2.1 - 1)) + t470))).bind fun t471 => (some (t471.1, t471.2.1, t471.2.2))))) else (none))))
mutual
def zx.l0 : Nat → List Int → List Int → List Int → Int → Int → Int → Option (List Int)
 | 0, _, _, _, _, _, _ => none
 | k + 1, x0, x1, x5, x6, x7, x8 => if x8 < (wrap64 ((x0.length : Int) + (x1.length : Int))) then (if x8 ≥ (x1.length : Int) then (zx.j3 k x0 x1 x5 x6 x7 x8 (wrap64 ((wrap64 (x8 - (x1.length : Int))) + 1))) else (zx.j3 k x0 x1 x5 x6 x7 x8 0)) else ((zl.f k x5).bind fun t475 => (some t475))
def zx.l1 : Nat → List Int → List Int → List Int → Int → Int → Int → Int → Option (List Int)
 | 0, _, _, _, _, _, _, _ => none
 | k + 1, x0, x1, x5, x6, x7, x8, x10 => if x10 ≤ x8 then (if x10 < (x0.length : Int) then (if 0 ≤ x10 then (if x10 < (x0.length : Int) then (if 0 ≤ wrap64 (x8 - x10) then (if wrap64 (x8 - x10) < (x1.length : Int) then (if (IntKind.u64.wrap (x6 + (IntKind.u64.wrap ((IntKind.u64.wrap (rd x0 x10)) * (IntKind.u64.wrap (rd x1 (wrap64 (x8 - x10)))))))) < (IntKind.u64.wrap ((IntKind.u64.wrap (rd x0 x10)) * (IntKind.u64.wrap (rd x1 (wrap64 (x8 - x10)))))) then (zx.l1 k x0 x1 x5 (IntKind.u64.wrap (x6 + (IntKind.u64.wrap ((IntKind.u64.wrap (rd x0 x10)) * (IntKind.u64.wrap (rd x1 (wrap64 (x8 - x10)))))))) (IntKind.u64.wrap (x7 + 1)) x8 (wrap64 (x10 + 1))) else (zx.l1 k x0 x1 x5 (IntKind.u64.wrap (x6 + (IntKind.u64.wrap ((IntKind.u64.wrap (rd x0 x10)) * (IntKind.u64.wrap (rd x1 (wrap64 (x8 - x10)))))))) x7 x8 (wrap64 (x10 + 1)))) else (none)) else (none)) else (none)) else (none)) else (if x5.length + ([x6 % 4294967296] : List Int).length < 35184372088832 then (zx.l0 k x0 x1 (x5 ++ ([x6 % 4294967296] : List Int)) (Go.bits .or .u64 (x6 / 4294967296) (IntKind.u64.wrap (x7 * 4294967296))) (x7 / 4294967296) (wrap64 (x8 + 1))) else (none))) else (if x5.length + ([x6 % 4294967296] : List Int).length < 35184372088832 then (zx.l0 k x0 x1 (x5 ++ ([x6 % 4294967296] : List Int)) (Go.bits .or .u64 (x6 / 4294967296) (IntKind.u64.wrap (x7 * 4294967296))) (x7 / 4294967296) (wrap64 (x8 + 1))) else (none))
def zx.j3 : Nat → List Int → List Int → List Int → Int → Int → Int → Int → Option (List Int)
 | 0, _, _, _, _, _, _, _ => none
 | k + 1, x0, x1, x5, x6, x7, x8, x9 => zx.l1 k x0 x1 x5 x6 x7 x8 x9
end
def zx.f (k : Nat) (x0 : List Int) (x1 : List Int) : Option (List Int) := if (x0.length : Int) = 0 then (some ([] : List Int)) else (if (x1.length : Int) = 0 then (some ([] : List Int)) else (zx.l0 k x0 x1 ([] : List Int) 0 0 0))
def zap.f (k : Nat) (x0_0 : Bool) (x0_1 : List Int) (x0_2 : Int) (x1_0 : Bool) (x1_1 : List Int) (x1_2 : Int) : Option (Bool × List Int × Int) := (zx.f k x0_1 x1_1).bind fun t476 => ((zL.f k (decide (¬ ((x0_0) = (x1_0)))) t476 (wrap64 (x0_2 + x1_2))).bind fun t477 => (some (t477.1, t477.2.1, t477.2.2)))
def zcF.f (x0_0 : Bool) (x0_1 : List Int) (x0_2 : Int) : Option (Bool × List Int × Int) := if (x0_1.length : Int) > 0 then (some ((!x0_0), x0_1, x0_2)) else (some (x0_0, x0_1, x0_2))
def zG.l0 : Nat → List Int → List Int → Int → Int → Int → Option (List Int)
 | 0, _, _, _, _, _ => none
 | k + 1, x0, x5, x6, x7, x8 => if x8 < (x0.length : Int) then (if 0 ≤ x8 then (if x8 < (x0.length : Int) then (if 0 ≤ x6 then (if x5.length + ([(Go.bits .or .u64 x7 (shl .u64 (IntKind.u64.wrap (rd x0 x8)) x6)) % 4294967296] : List Int).length < 35184372088832 then (zG.l0 k x0 (x5 ++ ([(Go.bits .or .u64 x7 (shl .u64 (IntKind.u64.wrap (rd x0 x8)) x6)) % 4294967296] : List Int)) x6 ((Go.bits .or .u64 x7 (shl .u64 (IntKind.u64.wrap (rd x0 x8)) x6)) / 4294967296) (wrap64 (x8 + 1))) else (none)) else (none)) else (none)) else (none)) else (if x5.length + ([x7 % 4294967296] : List Int).length < 35184372088832 then ((zl.f k (x5 ++ ([x7 % 4294967296] : List Int))).bind fun t480 => (some t480)) else (none))
def zG.f (k : Nat) (x0 : List Int) (x1 : Int) : Option (List Int) := if (x0.length : Int) = 0 then (some ([] : List Int)) else (if 0 ≤ (wrap64 (Int.tdiv x1 32)) then (if (wrap64 (Int.tdiv x1 32) : Int).toNat ≤ 70368744177664 then (zG.l0 k x0 (List.replicate (wrap64 (Int.tdiv x1 32) : Int).toNat (0 : Int)) (Int.tmod x1 32) 0 0) else (none)) else (none))
mutual
def zk.l0 : Nat → List Int → List Int → List Int → Int → Int → Option (List Int)
 | 0, _, _, _, _, _ => none
 | k + 1, x0, x1, x5, x6, x7 => if x7 < (x0.length : Int) then (if x7 < (x0.length : Int) then (if 0 ≤ x7 then (if x7 < (x0.length : Int) then (zk.j2 k x0 x1 x5 (IntKind.u64.wrap (x6 + (IntKind.u64.wrap (rd x0 x7)))) x7) else (none)) else (none)) else (zk.j2 k x0 x1 x5 x6 x7)) else (if x7 < (x1.length : Int) then (if x7 < (x0.length : Int) then (if 0 ≤ x7 then (if x7 < (x0.length : Int) then (zk.j2 k x0 x1 x5 (IntKind.u64.wrap (x6 + (IntKind.u64.wrap (rd x0 x7)))) x7) else (none)) else (none)) else (zk.j2 k x0 x1 x5 x6 x7)) else (if x5.length + ([x6 % 4294967296] : List Int).length < 35184372088832 then ((zl.f k (x5 ++ ([x6 % 4294967296] : List Int))).bind fun t485 => (some t485)) else (none)))
def zk.j2 : Nat → List Int → List Int → List Int → Int → Int → Option (List Int)
 | 0, _, _, _, _, _ => none
 | k + 1, x0, x1, x5, x6, x7 => if x7 < (x1.length : Int) then (if 0 ≤ x7 then (if x7 < (x1.length : Int) then (zk.j3 k x0 x1 x5 (IntKind.u64.wrap (x6 + (IntKind.u64.wrap (rd x1 x7)))) x7) else (none)) else (none)) else (zk.j3 k x0 x1 x5 x6 x7)
def zk.j3 : Nat → List Int → List Int → List Int → Int → Int → Option (List Int)
 | 0, _, _, _, _, _ => none
 | k + 1, x0, x1, x5, x6, x7 => if x5.length + ([x6 % 4294967296] : List Int).length < 35184372088832 then (zk.l0 k x0 x1 (x5 ++ ([x6 % 4294967296] : List Int)) (x6 / 4294967296) (wrap64 (x7 + 1))) else (none)
end
def zk.f (k : Nat) (x0 : List Int) (x1 : List Int) : Option (List Int) := zk.l0 k x0 x1 ([] : List Int) 0 0
def zah.l0 : Nat → List Int → List Int → Int → Option (Int)
 | 0, _, _, _ => none
 | k + 1, x0, x1, x5 => if x5 ≥ 0 then (if 0 ≤ x5 then (if x5 < (x0.length : Int) then (if 0 ≤ x5 then (if x5 < (x1.length : Int) then (if (rd x0 x5) < (rd x1 x5) then (some (-1)) else (if 0 ≤ x5 then (if x5 < (x0.length : Int) then (if 0 ≤ x5 then (if x5 < (x1.length : Int) then (if (rd x0 x5) > (rd x1 x5) then (some 1) else (zah.l0 k x0 x1 (wrap64 (x5 - 1)))) else (none)) else (none)) else (none)) else (none))) else (none)) else (none)) else (none)) else (none)) else (some 0)
def zah.f (k : Nat) (x0 : List Int) (x1 : List Int) : Option (Int) := if ¬ ((x0.length : Int) = (x1.length : Int)) then (if (x0.length : Int) < (x1.length : Int) then (some (-1)) else (some 1)) else (zah.l0 k x0 x1 (wrap64 ((x0.length : Int) - 1)))
mutual
def zq.l0 : Nat → List Int → List Int → List Int → Int → Int → Option (List Int)
 | 0, _, _, _, _, _ => none
 | k + 1, x0, x1, x5, x6, x7 => if x7 < (x0.length : Int) then (if x7 < (x1.length : Int) then (if 0 ≤ x7 then (if x7 < (x1.length : Int) then (zq.j1 k x0 x1 x5 x7 (IntKind.u64.wrap (x6 + (IntKind.u64.wrap (rd x1 x7))))) else (none)) else (none)) else (zq.j1 k x0 x1 x5 x7 x6)) else ((zl.f k x5).bind fun t490 => (some t490))
def zq.j1 : Nat → List Int → List Int → List Int → Int → Int → Option (List Int)
 | 0, _, _, _, _, _ => none
 | k + 1, x0, x1, x5, x7, x8 => if 0 ≤ x7 then (if x7 < (x0.length : Int) then (if (IntKind.u64.wrap (rd x0 x7)) < x8 then (zq.j2 k x0 x1 x5 1 x7 x8 (IntKind.u64.wrap ((IntKind.u64.wrap (rd x0 x7)) + 4294967296))) else (zq.j2 k x0 x1 x5 0 x7 x8 (IntKind.u64.wrap (rd x0 x7)))) else (none)) else (none)
def zq.j2 : Nat → List Int → List Int → List Int → Int → Int → Int → Int → Option (List Int)
 | 0, _, _, _, _, _, _, _ => none
 | k + 1, x0, x1, x5, x6, x7, x8, x9 => if x5.length + ([(IntKind.u64.wrap (x9 - x8)) % 4294967296] : List Int).length < 35184372088832 then (zq.l0 k x0 x1 (x5 ++ ([(IntKind.u64.wrap (x9 - x8)) % 4294967296] : List Int)) x6 (wrap64 (x7 + 1))) else (none)
end
def zq.f (k : Nat) (x0 : List Int) (x1 : List Int) : Option (List Int) := zq.l0 k x0 x1 ([] : List Int) 0 0
def zD.j2 : Nat → Bool → List Int → Int → Bool → List Int → Int → Bool → List Int → Int → Int → Option (Bool × List Int × Int)
 | 0, _, _, _, _, _, _, _, _, _, _ => none
 | k + 1, x2_0, x2_1, x2_2, x3_0, x3_1, x3_2, x4_0, x4_1, x4_2, x5 => (zG.f k x2_1 (wrap64 (x2_2 - x5))).bind fun t481 => ((zG.f k x3_1 (wrap64 (x3_2 - x5))).bind fun t482 => (if (x2_0) = (x3_0) then ((zk.f k t481 t482).bind fun t486 => ((zL.f k x2_0 t486 x5).bind fun t487 => (some (t487.1, t487.2.1, t487.2.2)))) else ((zah.f k t481 t482).bind fun t488 => (if t488 ≥ 0 then ((zq.f k t481 t482).bind fun t491 => ((zL.f k x2_0 t491 x5).bind fun t492 => (some (t492.1, t492.2.1, t492.2.2)))) else ((zq.f k t482 t481).bind fun t493 => ((zL.f k x3_0 t493 x5).bind fun t494 => (some (t494.1, t494.2.1, t494.2.2))))))))
def zD.f (k : Nat) (x0_0 : Bool) (x0_1 : List Int) (x0_2 : Int) (x1_0 : Bool) (x1_1 : List Int) (x1_2 : Int) : Option (Bool × List Int × Int) := if (x0_1.length : Int) = 0 then (some (x1_0, x1_1, x1_2)) else (if (x1_1.length : Int) = 0 then (some (x0_0, x0_1, x0_2)) else (if x1_2 < x0_2 then (zD.j2 k x0_0 x0_1 x0_2 x1_0 x1_1 x1_2 false ([] : List Int) 0 x1_2) else (zD.j2 k x0_0 x0_1 x0_2 x1_0 x1_1 x1_2 false ([] : List Int) 0 x0_2)))
def za0.f (k : Nat) (x0_0 : Bool) (x0_1 : List Int) (x0_2 : Int) (x1_0 : Bool) (x1_1 : List Int) (x1_2 : Int) : Option (Bool × List Int × Int) := (zcF.f x1_0 x1_1 x1_2).bind fun t479 => ((zD.f k x0_0 x0_1 x0_2 t479.1 t479.2.1 t479.2.2).bind fun t495 => (some (t495.1, t495.2.1, t495.2.2)))
def zb6.f (k : Nat) (x0_0 : Bool) (x0_1 : List Int) (x0_2 : Int) (x1_0 : Bool) (x1_1 : List Int) (x1_2 : Int) : Option (Bool × List Int × Int) := (zap.f k x0_0 x0_1 x0_2 x0_0 x0_1 x0_2).bind fun t500 => ((zap.f k x1_0 x1_1 x1_2 x1_0 x1_1 x1_2).bind fun t501 => ((zD.f k t500.1 t500.2.1 t500.2.2 t501.1 t501.2.1 t501.2.2).bind fun t502 => (some (t502.1, t502.2.1, t502.2.2))))
def zbo.f (x0_0 : Bool) (x0_1 : List Int) (x0_2 : Int) (x1 : Int) : Option (Bool × List Int × Int) := if (x0_1.length : Int) > 0 then (some (x0_0, x0_1, wrap64 (x0_2 + x1))) else (some (x0_0, x0_1, x0_2))
def zbH.f (k : Nat) (x0 : Int) (x1_0 : Int) (x1_1 : Int) (x2_0 : Bool) (x2_1 : List Int) (x2_2 : Int) (x3_0 : Bool) (x3_1 : List Int) (x3_2 : Int) (x4_0 : Bool) (x4_1 : List Int) (x4_2 : Int) : Option (Bool × List Int × Int × Bool × List Int × Int) := (zbp.f k x0 x1_0).bind fun t472 => ((zap.f k t472.1 t472.2.1 t472.2.2 x4_0 x4_1 x4_2).bind fun t478 => ((za0.f k t478.1 t478.2.1 t478.2.2 x2_0 x2_1 x2_2).bind fun t496 => ((zbp.f k x0 x1_1).bind fun t497 => ((zap.f k t497.1 t497.2.1 t497.2.2 x4_0 x4_1 x4_2).bind fun t498 => ((za0.f k t498.1 t498.2.1 t498.2.2 x3_0 x3_1 x3_2).bind fun t499 => ((zb6.f k t496.1 t496.2.1 t496.2.2 t499.1 t499.2.1 t499.2.2).bind fun t503 => ((zbf.f x0).bind fun t504 => ((zbo.f t503.1 t503.2.1 t503.2.2 (wrap64 (2 * (wrap64 (t504 + 1))))).bind fun t505 => ((zb6.f k x2_0 x2_1 x2_2 x3_0 x3_1 x3_2).bind fun t506 => (some (t505.1, t505.2.1, t505.2.2, t506.1, t506.2.1, t506.2.2)))))))))))
def z5.f (k : Nat) (x0_0 : Bool) (x0_1 : List Int) (x0_2 : Int) : Option (Int) := if (x0_1.length : Int) = 0 then (some 0) else ((zF.f k x0_1).bind fun t513 => (some (wrap64 (x0_2 + t513))))
def zbD.f (k : Nat) (x0_0 : Bool) (x0_1 : List Int) (x0_2 : Int) (x1_0 : Bool) (x1_1 : List Int) (x1_2 : Int) : Option (Int) := (zaq.f x0_0 x0_1 x0_2).bind fun t511 => ((zaq.f x1_0 x1_1 x1_2).bind fun t512 => (if ¬ (t511 = t512) then (if t511 < t512 then (some (-1)) else (some 1)) else (if t511 = 0 then (some 0) else ((z5.f k x0_0 x0_1 x0_2).bind fun t514 => ((z5.f k x1_0 x1_1 x1_2).bind fun t515 => (if ¬ (t514 = t515) then ((z5.f k x0_0 x0_1 x0_2).bind fun t516 => ((z5.f k x1_0 x1_1 x1_2).bind fun t517 => (if (decide (t516 < t517)) = (decide (t511 > 0)) then (some (-1)) else (some 1)))) else ((za0.f k x0_0 x0_1 x0_2 x1_0 x1_1 x1_2).bind fun t518 => ((zaq.f t518.1 t518.2.1 t518.2.2).bind fun t519 => (some t519)))))))))
def zcL.f (k : Nat) (x0 : Int) (x1_0 : Int) (x1_1 : Int) (x2_0 : Bool) (x2_1 : List Int) (x2_2 : Int) (x3_0 : Bool) (x3_1 : List Int) (x3_2 : Int) (x4_0 : Bool) (x4_1 : List Int) (x4_2 : Int) (x5 : Int) : Option (Bool) := (zbH.f k x0 x1_0 x1_1 x2_0 x2_1 x2_2 x3_0 x3_1 x3_2 x4_0 x4_1 x4_2).bind fun t507 => ((zz.f k x5).bind fun t508 => ((zap.f k t508.1 t508.2.1 t508.2.2 t508.1 t508.2.1 t508.2.2).bind fun t509 => ((zap.f k t509.1 t509.2.1 t509.2.2 t507.2.2.2.1 t507.2.2.2.2.1 t507.2.2.2.2.2).bind fun t510 => ((zbD.f k t507.1 t507.2.1 t507.2.2.1 t510.1 t510.2.1 t510.2.2).bind fun t520 => (some (decide (t520 ≤ 0)))))))
def zaR.l0 : Nat → List Int → Int → List Int → Int → Int → Option (List Int × List Int)
 | 0, _, _, _, _, _ => none
 | k + 1, x0, x1, x6, x7, x8 => if x8 ≥ 0 then (if 0 ≤ x8 then (if x8 < (x0.length : Int) then (if (IntKind.u64.wrap x1) = 0 then (none) else (if 0 ≤ x8 then (if x8 < (x6.length : Int) then (if (IntKind.u64.wrap x1) = 0 then (none) else (zaR.l0 k x0 x1 (x6.set (x8 : Int).toNat ((IntKind.u64.wrap (Int.tdiv (Go.bits .or .u64 (IntKind.u64.wrap (x7 * 4294967296)) (IntKind.u64.wrap (rd x0 x8))) (IntKind.u64.wrap x1))) % 4294967296)) (Int.tmod (Go.bits .or .u64 (IntKind.u64.wrap (x7 * 4294967296)) (IntKind.u64.wrap (rd x0 x8))) (IntKind.u64.wrap x1)) (wrap64 (x8 - 1)))) else (none)) else (none))) else (none)) else (none)) else ((zl.f k x6).bind fun t564 => ((zaP.f k x7).bind fun t565 => (some (t564, t565))))
def zaR.f (k : Nat) (x0 : List Int) (x1 : Int) : Option (List Int × List Int) := if 0 ≤ (x0.length : Int) then (if ((x0.length : Int) : Int).toNat ≤ 70368744177664 then (zaR.l0 k x0 x1 (List.replicate ((x0.length : Int) : Int).toNat (0 : Int)) 0 (wrap64 ((x0.length : Int) - 1))) else (none)) else (none)
mutual
def zY.l0 : Nat → List Int → List Int → List Int → List Int → Int → Option (List Int × List Int)
 | 0, _, _, _, _, _ => none
 | k + 1, x0, x1, x6, x8, x10 => if x10 ≥ 0 then ((zG.f k x8 1).bind fun t610 => ((za7.f x0 x10).bind fun t611 => (if t611 = 1 then ((zk.f k t610 ([1] : List Int)).bind fun t612 => (zY.j2 k x0 x1 x6 t612 x10)) else (zY.j2 k x0 x1 x6 t610 x10)))) else ((zl.f k x6).bind fun t613 => (some (t613, x8)))
def zY.j2 : Nat → List Int → List Int → List Int → List Int → Int → Option (List Int × List Int)
 | 0, _, _, _, _, _ => none
 | k + 1, x0, x1, x6, x8, x10 => (zah.f k x8 x1).bind fun t608 => (if t608 ≥ 0 then ((zq.f k x8 x1).bind fun t609 => (if 0 ≤ wrap64 (Int.tdiv x10 32) then (if wrap64 (Int.tdiv x10 32) < (x6.length : Int) then (if 0 ≤ (Int.tmod x10 32) then (if 0 ≤ wrap64 (Int.tdiv x10 32) then (if wrap64 (Int.tdiv x10 32) < (x6.length : Int) then (zY.l0 k x0 x1 (x6.set (wrap64 (Int.tdiv x10 32) : Int).toNat (Go.bits .or .u32 (rd x6 (wrap64 (Int.tdiv x10 32))) (shl .u32 1 (Int.tmod x10 32)))) t609 (wrap64 (x10 - 1))) else (none)) else (none)) else (none)) else (none)) else (none))) else (zY.l0 k x0 x1 x6 x8 (wrap64 (x10 - 1))))
end
def zY.f (k : Nat) (x0 : List Int) (x1 : List Int) : Option (List Int × List Int) := if (x1.length : Int) = 1 then (if 0 < (x1.length : Int) then ((zaR.f k x0 (rd x1 0)).bind fun t604 => (some (t604.1, t604.2))) else (none)) else (if 0 ≤ (x0.length : Int) then (if ((x0.length : Int) : Int).toNat ≤ 70368744177664 then ((zF.f k x0).bind fun t605 => ((zF.f k x1).bind fun t606 => ((zP.f k x0 (mx 0 (wrap64 ((wrap64 (t605 - t606)) + 1)))).bind fun t607 => (zY.l0 k x0 x1 (List.replicate ((x0.length : Int) : Int).toNat (0 : Int)) t607.1 (wrap64 ((mx 0 (wrap64 ((wrap64 (t605 - t606)) + 1))) - 1)))))) else (none)) else (none))
def zb3.f (k : Nat) (x0_0 : Bool) (x0_1 : List Int) (x0_2 : Int) (x1 : Int) : Option (Bool × List Int × Int × Bool) := (zF.f k x0_1).bind fun t616 => (if (wrap64 (t616 - x1)) ≤ 0 then (some (x0_0, x0_1, x0_2, false)) else ((zP.f k x0_1 (wrap64 (t616 - x1))).bind fun t617 => ((zL.f k x0_0 t617.1 (wrap64 (x0_2 + (wrap64 (t616 - x1))))).bind fun t618 => (some (t618.1, t618.2.1, t618.2.2, t617.2)))))
def zaE.j1 : Nat → Int → Bool → List Int → Int → Bool → List Int → Int → Bool → List Int → Int → Int → Option (Bool × List Int × Int × Bool)
 | 0, _, _, _, _, _, _, _, _, _, _, _ => none
 | k + 1, x2, x3_0, x3_1, x3_2, x4_0, x4_1, x4_2, x6_0, x6_1, x6_2, x8 => (zG.f k x3_1 x8).bind fun t630 => ((zY.f k t630 x4_1).bind fun t631 => ((zL.f k (decide (¬ ((x3_0) = (x4_0)))) t631.1 (wrap64 ((wrap64 (x3_2 - x4_2)) - x8))).bind fun t632 => ((zb3.f k t632.1 t632.2.1 t632.2.2 x2).bind fun t633 => (if t633.2.2.2 = true then (some (t633.1, t633.2.1, t633.2.2.1, true)) else (some (t633.1, t633.2.1, t633.2.2.1, decide ((t631.2.length : Int) > 0)))))))
def zaE.f (k : Nat) (x0_0 : Bool) (x0_1 : List Int) (x0_2 : Int) (x1_0 : Bool) (x1_1 : List Int) (x1_2 : Int) (x2 : Int) : Option (Bool × List Int × Int × Bool) := if (x0_1.length : Int) = 0 then (some (false, ([] : List Int), 0, false)) else ((zF.f k x1_1).bind fun t628 => ((zF.f k x0_1).bind fun t629 => (if (wrap64 ((wrap64 ((wrap64 (x2 + 1)) + t628)) - t629)) < 0 then (zaE.j1 k x2 x0_0 x0_1 x0_2 x1_0 x1_1 x1_2 false ([] : List Int) 0 0) else (zaE.j1 k x2 x0_0 x0_1 x0_2 x1_0 x1_1 x1_2 false ([] : List Int) 0 (wrap64 ((wrap64 ((wrap64 (x2 + 1)) + t628)) - t629))))))
def zbd.f (k : Nat) (x0_0 : Bool) (x0_1 : List Int) (x0_2 : Int) : Option (Bool × List Int × Int) := if x0_2 ≥ 0 then (some (x0_0, x0_1, x0_2)) else ((zP.f k x0_1 (wrap64 (-x0_2))).bind fun t641 => (if x0_0 = true then (if t641.2 = true then ((zk.f k t641.1 ([1] : List Int)).bind fun t642 => ((zL.f k x0_0 t642 0).bind fun t643 => (some (t643.1, t643.2.1, t643.2.2)))) else ((zL.f k x0_0 t641.1 0).bind fun t644 => (some (t644.1, t644.2.1, t644.2.2)))) else ((zL.f k x0_0 t641.1 0).bind fun t645 => (some (t645.1, t645.2.1, t645.2.2)))))
mutual
def zZ.l0 : Nat → List Int → List Int → List Int → Int → Option (List Int × Bool)
 | 0, _, _, _, _ => none
 | k + 1, x0, x4, x5, x7 => if x7 ≥ 0 then ((zG.f k x5 2).bind fun t702 => ((za7.f x0 (wrap64 (x7 + 1))).bind fun t703 => ((za7.f x0 x7).bind fun t704 => ((zaP.f k (IntKind.u64.wrap ((((2 * t703) % 4294967296) + t704) % 4294967296))).bind fun t705 => ((zk.f k t702 t705).bind fun t706 => ((zG.f k x4 2).bind fun t707 => ((zk.f k t707 ([1] : List Int)).bind fun t708 => ((zG.f k x4 1).bind fun t709 => ((zah.f k t706 t708).bind fun t710 => (if t710 ≥ 0 then ((zq.f k t706 t708).bind fun t711 => ((zk.f k t709 ([1] : List Int)).bind fun t712 => (zZ.l0 k x0 t712 t711 (wrap64 (x7 - 2))))) else (zZ.l0 k x0 t709 t706 (wrap64 (x7 - 2))))))))))))) else (some (x4, decide ((x5.length : Int) = 0)))
def zZ.j0 : Nat → List Int → List Int → List Int → Int → Option (List Int × Bool)
 | 0, _, _, _, _ => none
 | k + 1, x0, x4, x5, x6 => zZ.l0 k x0 x4 x5 (wrap64 (x6 - 2))
end
def zZ.f (k : Nat) (x0 : List Int) : Option (List Int × Bool) := (zF.f k x0).bind fun t701 => (if (Int.tmod t701 2) = 1 then (zZ.j0 k x0 ([] : List Int) ([] : List Int) (wrap64 (t701 + 1))) else (zZ.j0 k x0 ([] : List Int) ([] : List Int) t701))
def zaQ.l0 : Nat → List Int → List Int → Int → Option (Bool)
 | 0, _, _, _ => none
 | k + 1, x0, x1, x5 => if x5 < (x0.length : Int) then (if 0 ≤ x5 then (if x5 < (x0.length : Int) then (if 0 ≤ x5 then (if x5 < (x1.length : Int) then (if ¬ (rd x0 x5 = rd x1 x5) then (some false) else (zaQ.l0 k x0 x1 (wrap64 (x5 + 1)))) else (none)) else (none)) else (none)) else (none)) else (some true)
def zaQ.f (k : Nat) (x0 : List Int) (x1 : List Int) : Option (Bool) := if ¬ ((x0.length : Int) = (x1.length : Int)) then (some false) else (zaQ.l0 k x0 x1 0)
def zbe.f (k : Nat) (x0_0 : Bool) (x0_1 : List Int) (x0_2 : Int) (x1_0 : Bool) (x1_1 : List Int) (x1_2 : Int) : Option (Bool) := if (x0_0) = (x1_0) then (if x0_2 = x1_2 then ((zaQ.f k x0_1 x1_1).bind fun t731 => (some t731)) else (some false)) else (some false)
mutual
def zr.j5 : Nat → Bool → List Int → Int → Option (Int × Bool)
 | 0, _, _, _ => none
 | k + 1, x16_0, x16_1, x16_2 => (zG.f k x16_1 x16_2).bind fun t817 => ((zZ.f k t817).bind fun t818 => (if (!t818.2) = true then ((zk.f k t818.1 ([1] : List Int)).bind fun t819 => (zr.j6 k t819)) else (zr.j6 k t818.1)))
def zr.j6 : Nat → List Int → Option (Int × Bool)
 | 0, _ => none
 | k + 1, x17 => if (x17.length : Int) > 1 then (some (0, false)) else (if 0 < (x17.length : Int) then (some (IntKind.u64.wrap (rd x17 0), true)) else (none))
end
def zr.f (k : Nat) (x0 : Int) (x1_0 : Int) (x1_1 : Int) (x2_0 : Bool) (x2_1 : List Int) (x2_2 : Int) (x3_0 : Bool) (x3_1 : List Int) (x3_2 : Int) (x4_0 : Bool) (x4_1 : List Int) (x4_2 : Int) : Option (Int × Bool) := (zbH.f k x0 x1_0 x1_1 x2_0 x2_1 x2_2 x3_0 x3_1 x3_2 x4_0 x4_1 x4_2).bind fun t803 => ((zaq.f t803.1 t803.2.1 t803.2.2.1).bind fun t804 => (if t804 = 0 then (some (0, true)) else ((zaq.f t803.2.2.2.1 t803.2.2.2.2.1 t803.2.2.2.2.2).bind fun t805 => (if t805 = 0 then (some (0, false)) else ((z5.f k t803.1 t803.2.1 t803.2.2.1).bind fun t806 => ((z5.f k t803.2.2.2.1 t803.2.2.2.2.1 t803.2.2.2.2.2).bind fun t807 => (if (wrap64 (t806 - t807)) > 66 then (some (0, false)) else ((z5.f k t803.1 t803.2.1 t803.2.2.1).bind fun t808 => ((z5.f k t803.2.2.2.1 t803.2.2.2.2.1 t803.2.2.2.2.2).bind fun t809 => (if (wrap64 (t808 - t809)) < (-2) then (some (1, true)) else ((zaE.f k t803.1 t803.2.1 t803.2.2.1 t803.2.2.2.1 t803.2.2.2.2.1 t803.2.2.2.2.2 80).bind fun t810 => ((zbd.f k t810.1 t810.2.1 t810.2.2.1).bind fun t811 => (if t810.2.2.2 = true then ((zz.f k 1).bind fun t812 => ((zD.f k t811.1 t811.2.1 t811.2.2 t812.1 t812.2.1 t812.2.2).bind fun t813 => (zr.j5 k t813.1 t813.2.1 t813.2.2))) else ((zbe.f k t811.1 t811.2.1 t811.2.2 t810.1 t810.2.1 t810.2.2.1).bind fun t814 => (if (!t814) = true then ((zz.f k 1).bind fun t815 => ((zD.f k t811.1 t811.2.1 t811.2.2 t815.1 t815.2.1 t815.2.2).bind fun t816 => (zr.j5 k t816.1 t816.2.1 t816.2.2))) else (zr.j5 k t811.1 t811.2.1 t811.2.2))))))))))))))))
def zao.j3 : Nat → Int → Int → Int → Bool → List Int → Int → Bool → List Int → Int → Bool → List Int → Int → Int → Int → Option (Bool)
 | 0, _, _, _, _, _, _, _, _, _, _, _, _, _, _ => none
 | k + 1, x0, x5_0, x5_1, x6_0, x6_1, x6_2, x6_3, x6_4, x6_5, x6_6, x6_7, x6_8, x11, x12 => (zbn.f k x0 x5_0 x5_1 x6_0 x6_1 x6_2 x6_3 x6_4 x6_5 x6_6 x6_7 x6_8 0).bind fun t855 => (if ¬ (t855 = 0) then (if x11 = 0 then (if x12 = t855 then ((zbm.f k).bind fun t856 => (some t856)) else (some false)) else (some false)) else ((zr.f k x0 x5_0 x5_1 x6_0 x6_1 x6_2 x6_3 x6_4 x6_5 x6_6 x6_7 x6_8).bind fun t857 => (if (!t857.2) = true then (if x11 = 0 then (if x12 = 20 then ((zbm.f k).bind fun t858 => (some t858)) else (some false)) else (some false)) else (if x11 = t857.1 then (if x12 = 0 then ((zbm.f k).bind fun t859 => (some t859)) else (some false)) else (some false)))))
def zao.f (k : Nat) (x0 : Int) (x1_0 : Int) (x1_1 : Int) (x2_0 : Bool) (x2_1 : List Int) (x2_2 : Int) (x2_3 : Bool) (x2_4 : List Int) (x2_5 : Int) (x2_6 : Bool) (x2_7 : List Int) (x2_8 : Int) (x3 : Int) : Option (Bool) := (zcE.f x2_0 x2_1 x2_2 x2_3 x2_4 x2_5 x2_6 x2_7 x2_8).bind fun t849 => (if t849 = true then ((zbm.f k).bind fun t850 => (some t850)) else ((za1.f k x0 x1_0 x1_1 x2_0 x2_1 x2_2 x2_3 x2_4 x2_5 x2_6 x2_7 x2_8 x3).bind fun t851 => ((zE.f k x0 x1_0 x1_1 x2_0 x2_1 x2_2 x2_3 x2_4 x2_5 x2_6 x2_7 x2_8).bind fun t852 => ((zbn.f k x0 x1_0 x1_1 x2_0 x2_1 x2_2 x2_3 x2_4 x2_5 x2_6 x2_7 x2_8 x3).bind fun t853 => (if ¬ (t853 = 0) then (if t851.1 = true then (some false) else (if ¬ (t851.2 = t853) then (some false) else (zao.j3 k x0 x1_0 x1_1 x2_0 x2_1 x2_2 x2_3 x2_4 x2_5 x2_6 x2_7 x2_8 t852.1 t852.2))) else ((zcL.f k x0 x1_0 x1_1 x2_0 x2_1 x2_2 x2_3 x2_4 x2_5 x2_6 x2_7 x2_8 x3).bind fun t854 => (if ¬ ((t851.1) = (t854)) then (some false) else (if ¬ (t851.2 = 0) then (some false) else (zao.j3 k x0 x1_0 x1_1 x2_0 x2_1 x2_2 x2_3 x2_4 x2_5 x2_6 x2_7 x2_8 t852.1 t852.2)))))))))
end Go.Proofs.YtioialhbjmnndaaGreatDoor.Eng
