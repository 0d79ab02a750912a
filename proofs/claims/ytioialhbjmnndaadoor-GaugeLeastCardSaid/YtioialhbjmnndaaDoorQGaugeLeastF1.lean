import Derived.Test.YtioialhbjmnndaaDoorEng2
import Derived.Test.YtioialhbjmnndaaDoorProg
import Derived.KernelRfl
import Derived.Lib.TrailingZeros
import Derived.Lib.Repeat
import Derived.Lib.Bytealg
set_option linter.unusedVariables false
set_option linter.unusedSimpArgs false
namespace Go.Proofs.YtioialhbjmnndaaDoor.Eng
open Go.RowKit Go.Proofs
set_option maxRecDepth 100000
def TL : List (Nat × TI) := [(2, ⟨.int .i64, 1, 8, [(.int .i64)]⟩),
 (3, ⟨.int .i64, 1, 8, [(.int .i64)]⟩),
 (4, ⟨.bool, 1, 1, [.bool]⟩),
 (5, ⟨.int .u8, 1, 1, [(.int .u8)]⟩),
 (6, ⟨.int .u8, 1, 1, [(.int .u8)]⟩),
 (7, ⟨.struct [(0, 2), (1, 3), (2, 4), (3, 6)], 4, 24, [(.int .i64), (.int .i64), .bool, (.int .u8)]⟩),
 (8, ⟨.struct [(0, 2), (1, 3), (2, 4), (3, 6)], 4, 24, [(.int .i64), (.int .i64), .bool, (.int .u8)]⟩),
 (9, ⟨.str, 1, 16, [.str]⟩),
 (10, ⟨.str, 1, 16, [.str]⟩),
 (11, ⟨.str, 1, 16, [.str]⟩),
 (12, ⟨.int .u64, 1, 8, [(.int .u64)]⟩),
 (13, ⟨.struct [(0, 9), (1, 12)], 2, 24, [.str, (.int .u64)]⟩),
 (14, ⟨.struct [(0, 9), (1, 12)], 2, 24, [.str, (.int .u64)]⟩),
 (15, ⟨.ptr 130, 1, 8, [.ptr]⟩),
 (16, ⟨.ptr 133, 1, 8, [.ptr]⟩),
 (17, ⟨.ptr 141, 1, 8, [.ptr]⟩),
 (18, ⟨.struct [(0, 17)], 1, 8, [.ptr]⟩),
 (19, ⟨.struct [(0, 17)], 1, 8, [.ptr]⟩),
 (21, ⟨.int .i32, 1, 4, [(.int .i32)]⟩),
 (22, ⟨.int .u8, 1, 1, [(.int .u8)]⟩),
 (23, ⟨.int .u64, 1, 8, [(.int .u64)]⟩),
 (24, ⟨.struct [(0, 23), (1, 23)], 2, 16, [(.int .u64), (.int .u64)]⟩),
 (25, ⟨.struct [(0, 23), (1, 23)], 2, 16, [(.int .u64), (.int .u64)]⟩),
 (26, ⟨.slice 65, 1, 24, [(.slice (some .u32))]⟩),
 (27, ⟨.struct [(0, 4), (1, 26), (2, 3)], 3, 40, [.bool, (.slice (some .u32)), (.int .i64)]⟩),
 (28, ⟨.struct [(0, 4), (1, 26), (2, 3)], 3, 40, [.bool, (.slice (some .u32)), (.int .i64)]⟩),
 (29, ⟨.struct [(0, 28), (3, 28), (6, 28)], 9, 120, [.bool, (.slice (some .u32)), (.int .i64), .bool, (.slice (some .u32)), (.int .i64), .bool, (.slice (some .u32)), (.int .i64)]⟩),
 (30, ⟨.struct [(0, 28), (3, 28), (6, 28)], 9, 120, [.bool, (.slice (some .u32)), (.int .i64), .bool, (.slice (some .u32)), (.int .i64), .bool, (.slice (some .u32)), (.int .i64)]⟩),
 (32, ⟨.int .i64, 1, 8, [(.int .i64)]⟩),
 (56, ⟨.struct [(0, 4), (1, 3), (2, 23)], 3, 24, [.bool, (.int .i64), (.int .u64)]⟩),
 (57, ⟨.struct [(0, 4), (1, 3), (2, 23)], 3, 24, [.bool, (.int .i64), (.int .u64)]⟩),
 (61, ⟨.slice 25, 1, 24, [(.slice none)]⟩),
 (65, ⟨.int .u32, 1, 4, [(.int .u32)]⟩),
 (67, ⟨.slice 28, 1, 24, [(.slice none)]⟩),
 (68, ⟨.arr 3 28, 9, 120, [.bool, (.slice (some .u32)), (.int .i64), .bool, (.slice (some .u32)), (.int .i64), .bool, (.slice (some .u32)), (.int .i64)]⟩),
 (69, ⟨.struct [(0, 28), (3, 28)], 6, 80, [.bool, (.slice (some .u32)), (.int .i64), .bool, (.slice (some .u32)), (.int .i64)]⟩),
 (70, ⟨.struct [(0, 28), (3, 28)], 6, 80, [.bool, (.slice (some .u32)), (.int .i64), .bool, (.slice (some .u32)), (.int .i64)]⟩),
 (81, ⟨.int .u64, 1, 8, [(.int .u64)]⟩),
 (84, ⟨.int .u8, 1, 1, [(.int .u8)]⟩),
 (87, ⟨.int .u8, 1, 1, [(.int .u8)]⟩),
 (100, ⟨.struct [(0, 3), (1, 3), (2, 23)], 3, 24, [(.int .i64), (.int .i64), (.int .u64)]⟩),
 (101, ⟨.struct [(0, 3), (1, 3), (2, 23)], 3, 24, [(.int .i64), (.int .i64), (.int .u64)]⟩),
 (118, ⟨.arr 32 5, 32, 32, [(.int .u8), (.int .u8), (.int .u8), (.int .u8), (.int .u8), (.int .u8), (.int .u8), (.int .u8), (.int .u8), (.int .u8), (.int .u8), (.int .u8), (.int .u8), (.int .u8), (.int .u8), (.int .u8), (.int .u8), (.int .u8), (.int .u8), (.int .u8), (.int .u8), (.int .u8), (.int .u8), (.int .u8), (.int .u8), (.int .u8), (.int .u8), (.int .u8), (.int .u8), (.int .u8), (.int .u8), (.int .u8)]⟩),
 (120, ⟨.slice 23, 1, 24, [(.slice (some .u64))]⟩),
 (125, ⟨.slice 26, 1, 24, [(.slice none)]⟩),
 (129, ⟨.struct [(0, 17), (1, 17), (2, 17), (3, 9)], 4, 40, [.ptr, .ptr, .ptr, .str]⟩),
 (130, ⟨.struct [(0, 17), (1, 17), (2, 17), (3, 9)], 4, 40, [.ptr, .ptr, .ptr, .str]⟩),
 (131, ⟨.arr 0 16, 0, 0, []⟩),
 (132, ⟨.struct [(0, 131)], 0, 0, []⟩),
 (133, ⟨.struct [(0, 131)], 0, 0, []⟩),
 (134, ⟨.int .u8, 1, 1, [(.int .u8)]⟩),
 (135, ⟨.int .u8, 1, 1, [(.int .u8)]⟩),
 (137, ⟨.ptr 5, 1, 8, [.ptr]⟩),
 (138, ⟨.int .i32, 1, 4, [(.int .i32)]⟩),
 (139, ⟨.int .i32, 1, 4, [(.int .i32)]⟩)]
def TT : Nat → Option TI := qec TL
def zdv : ByteArray := ⟨#[0, 1, 2, 2, 3, 3, 3, 3, 4, 4, 4, 4, 4, 4, 4, 4, 5, 5, 5, 5, 5, 5, 5, 5, 5, 5, 5, 5, 5, 5, 5, 5, 6, 6, 6, 6, 6, 6, 6, 6, 6, 6, 6, 6, 6, 6, 6, 6, 6, 6, 6, 6, 6, 6, 6, 6, 6, 6, 6, 6, 6, 6, 6, 6, 7, 7, 7, 7, 7, 7, 7, 7, 7, 7, 7, 7, 7, 7, 7, 7, 7, 7, 7, 7, 7, 7, 7, 7, 7, 7, 7, 7, 7, 7, 7, 7, 7, 7, 7, 7, 7, 7, 7, 7, 7, 7, 7, 7, 7, 7, 7, 7, 7, 7, 7, 7, 7, 7, 7, 7, 7, 7, 7, 7, 7, 7, 7, 7, 8, 8, 8, 8, 8, 8, 8, 8, 8, 8, 8, 8, 8, 8, 8, 8, 8, 8, 8, 8, 8, 8, 8, 8, 8, 8, 8, 8, 8, 8, 8, 8, 8, 8, 8, 8, 8, 8, 8, 8, 8, 8, 8, 8, 8, 8, 8, 8, 8, 8, 8, 8, 8, 8, 8, 8, 8, 8, 8, 8, 8, 8, 8, 8, 8, 8, 8, 8, 8, 8, 8, 8, 8, 8, 8, 8, 8, 8, 8, 8, 8, 8, 8, 8, 8, 8, 8, 8, 8, 8, 8, 8, 8, 8, 8, 8, 8, 8, 8, 8, 8, 8, 8, 8, 8, 8, 8, 8, 8, 8, 8, 8, 8, 8, 8, 8, 8, 8, 8, 8, 8, 8, 8, 8, 8, 8, 8, 8]⟩
def z9.f (x : Int) : Option Int := if 0 ≤ x ∧ x < 4294967296 then some (Lib.ctz 32 x.toNat : Int) else none
def zbc : Nat → Nat → Option Value := fun b o => if b = 0 ∧ o < 32 then some (.int .u8 (Lib.deBruijn32tab.getD o 0)) else none
def zbK.f (x0_0 : Bool) (x0_1 : List Int) (x0_2 : Int) (x0_3 : Bool) (x0_4 : List Int) (x0_5 : Int) (x0_6 : Bool) (x0_7 : List Int) (x0_8 : Int) : Option (Bool) := some (decide ((wrap64 ((wrap64 ((x0_1.length : Int) + (x0_4.length : Int))) + (x0_7.length : Int))) > 1300))
def za1.f (x0 : Int) : Option (Bool) := if x0 = 1 then (some true) else (some (decide (x0 = 2)))
def zbk.f (x0 : Int) (x1 : Int) : Option (Int) := (za1.f x0).bind fun t10 => (if (!t10) = true then (some 4) else (if x0 = 1 then (if x1 ≥ 4294967296 then (some 6) else (some 0)) else (some 0)))
def zZ.l0 : Nat → Int → List (Int × Int) → Int → Option (Int)
 | 0, _, _, _ => none
 | k + 1, x0, x1, x5 => if x5 < (x1.length : Int) then (if 0 ≤ x5 then (if x5 < (x1.length : Int) then ((zbk.f x0 ((rdT [.i .u64, .i .u64] x1 x5).1)).bind fun t24 => (if ¬ (t24 = 0) then (some 6) else (if 0 ≤ x5 then (if x5 < (x1.length : Int) then ((zbk.f x0 ((rdT [.i .u64, .i .u64] x1 x5).2)).bind fun t25 => (if ¬ (t25 = 0) then (some 6) else (zZ.l0 k x0 x1 (wrap64 (x5 + 1))))) else (none)) else (none)))) else (none)) else (none)) else (some 0)
def zZ.f (k : Nat) (x0 : Int) (x1 : List (Int × Int)) : Option (Int) := (za1.f x0).bind fun t23 => (if (!t23) = true then (some 4) else (zZ.l0 k x0 x1 0))
def zca.f (x0 : List Int) : Option (Bool) := if (x0.length : Int) ≤ 4096 then (if (x0.length : Int) = 0 then (some true) else (if 0 ≤ wrap64 ((x0.length : Int) - 1) then (if wrap64 ((x0.length : Int) - 1) < (x0.length : Int) then (some (decide (¬ (rd x0 (wrap64 ((x0.length : Int) - 1)) = 0)))) else (none)) else (none))) else (some false)
def zaY.f (x0_0 : Bool) (x0_1 : List Int) (x0_2 : Int) : Option (Bool) := (zca.f x0_1).bind fun t30 => (if (!t30) = true then (some false) else (if (x0_1.length : Int) = 0 then (if (!x0_0) = true then (some (decide (x0_2 = 0))) else (some false)) else (if 0 < (x0_1.length : Int) then (if (Int.tmod (rd x0_1 0) 2) = 1 then (if x0_2 ≥ (-16777216) then (some (decide (x0_2 ≤ 16777216))) else (some false)) else (some false)) else (none))))
def zbM.f (x0_0 : Bool) (x0_1 : List Int) (x0_2 : Int) : Option (Int) := if (x0_1.length : Int) = 0 then (some 0) else (if x0_0 = true then (some (-1)) else (some 1))
def zbQ.f (x0 : Int) : Option (Int) := if x0 = 1 then (some 2147483648) else (some 9223372036854775808)
def za0.f (x0 : Int) : Option (Int) := if x0 = 1 then (some 23) else (some 52)
def za2.f (x0 : Int) (x1 : Int) : Option (Bool × Int × Int) := (zbQ.f x0).bind fun t41 => ((zbQ.f x0).bind fun t42 => (if t42 = 0 then (none) else ((za0.f x0).bind fun t43 => (if 0 ≤ t43 then (if (shl .u64 1 t43) = 0 then (none) else ((za0.f x0).bind fun t44 => (if 0 ≤ t44 then (some (decide (x1 ≥ t41), wrap64 (shr .u64 (Int.tmod x1 t42) t44), Int.tmod (Int.tmod x1 t42) (shl .u64 1 t43))) else (none)))) else (none)))))
def zbP.f (x0 : Int) : Option (Int) := if x0 = 1 then (some 255) else (some 2047)
def zbN.f (x0 : Int) (x1 : Int) : Option (Int) := (za2.f x0 x1).bind fun t52 => (if t52.2.1 = 0 then (if t52.2.2 = 0 then (some 1) else (if t52.2.1 = 0 then (some 2) else ((zbP.f x0).bind fun t53 => (if t52.2.1 < t53 then (some 3) else (if t52.2.2 = 0 then (some 4) else (some 5)))))) else (if t52.2.1 = 0 then (some 2) else ((zbP.f x0).bind fun t54 => (if t52.2.1 < t54 then (some 3) else (if t52.2.2 = 0 then (some 4) else (some 5))))))
def zbj.f (x0 : Int) (x1 : Int) : Option (Bool) := (zbN.f x0 x1).bind fun t57 => (if ¬ (t57 = 4) then (some (decide (¬ (t57 = 5)))) else (some false))
def zbR.f (x0 : Int) (x1_0 : Int) (x1_1 : Int) : Option (Bool) := (zbj.f x0 x1_0).bind fun t62 => (if t62 = true then ((zbj.f x0 x1_1).bind fun t63 => (some t63)) else (some false))
def zac.l0 : Nat → List (Bool × List Int × Int) → Int → Option (Bool)
 | 0, _, _ => none
 | k + 1, x0, x3 => if x3 < (x0.length : Int) then (if 0 ≤ x3 then (if x3 < (x0.length : Int) then (if (((rdT [.b, .is .u32, .i .i64] x0 x3).2.1).length : Int) > 400 then (some false) else (if 0 ≤ x3 then (if x3 < (x0.length : Int) then (if ((rdT [.b, .is .u32, .i .i64] x0 x3).2.2) < (-20000) then (some false) else (if 0 ≤ x3 then (if x3 < (x0.length : Int) then (if ((rdT [.b, .is .u32, .i .i64] x0 x3).2.2) > 20000 then (some false) else (zac.l0 k x0 (wrap64 (x3 + 1)))) else (none)) else (none))) else (none)) else (none))) else (none)) else (none)) else (some true)
def zac.f (k : Nat) (x0 : List (Bool × List Int × Int)) : Option (Bool) := zac.l0 k x0 0
def zaX.f (k : Nat) (x0 : Int) (x1_0 : Int) (x1_1 : Int) (x2_0 : Bool) (x2_1 : List Int) (x2_2 : Int) (x2_3 : Bool) (x2_4 : List Int) (x2_5 : Int) (x2_6 : Bool) (x2_7 : List Int) (x2_8 : Int) (x3 : Int) : Option (Int) := (zZ.f k x0 [(x1_0, x1_1)]).bind fun t75 => (if ¬ (t75 = 0) then (some t75) else ((zaY.f x2_0 x2_1 x2_2).bind fun t76 => (if (!t76) = true then (some 2) else ((zaY.f x2_3 x2_4 x2_5).bind fun t77 => (if (!t77) = true then (some 2) else ((zaY.f x2_6 x2_7 x2_8).bind fun t78 => (if (!t78) = true then (some 2) else (if x3 < 0 then (some 2) else ((zbM.f x2_6 x2_7 x2_8).bind fun t79 => (if t79 = 0 then (some 11) else ((zbR.f x0 x1_0 x1_1).bind fun t80 => (if (!t80) = true then (some 7) else ((zac.f k [(x2_0, x2_1, x2_2), (x2_3, x2_4, x2_5), (x2_6, x2_7, x2_8)]).bind fun t81 => (if (!t81) = true then (some 3) else (some 0)))))))))))))))
def zx.l0 : Nat → List Int → Int → Option (List Int)
 | 0, _, _ => none
 | k + 1, x0, x3 => if x3 > 0 then (if 0 ≤ wrap64 (x3 - 1) then (if wrap64 (x3 - 1) < (x0.length : Int) then (if (rd x0 (wrap64 (x3 - 1))) = 0 then (zx.l0 k x0 (wrap64 (x3 - 1))) else (if 0 ≤ x3 then (if x3 ≤ (x0.length : Int) then (some (x0.take (x3 : Int).toNat)) else (none)) else (none))) else (none)) else (none)) else (if 0 ≤ x3 then (if x3 ≤ (x0.length : Int) then (some (x0.take (x3 : Int).toNat)) else (none)) else (none))
def zx.f (k : Nat) (x0 : List Int) : Option (List Int) := zx.l0 k x0 (x0.length : Int)
def zaN.f (k : Nat) (x0 : Int) : Option (List Int) := (zx.f k ([x0 % 4294967296, (x0 / 4294967296) % 4294967296] : List Int)).bind fun t83 => (some t83)
def zbL.f (x0 : List Int) (x1 : Int) : Option (Int) := if x1 < 0 then (some 0) else (if (wrap64 (Int.tdiv x1 32)) ≥ (x0.length : Int) then (some 0) else (if 0 ≤ wrap64 (Int.tdiv x1 32) then (if wrap64 (Int.tdiv x1 32) < (x0.length : Int) then (if 0 ≤ (Int.tmod x1 32) then (some (Go.bits .and .u32 (shr .u32 (rd x0 (wrap64 (Int.tdiv x1 32))) (Int.tmod x1 32)) 1)) else (none)) else (none)) else (none)))
def zY.l0 : Nat → List Int → Int → Option (Int)
 | 0, _, _ => none
 | k + 1, x0, x3 => if x3 < (wrap64 (32 * (x0.length : Int))) then ((zbL.f x0 x3).bind fun t89 => (if t89 = 0 then (if 0 ≤ wrap64 (Int.tdiv x3 32) then (if wrap64 (Int.tdiv x3 32) < (x0.length : Int) then (if (rd x0 (wrap64 (Int.tdiv x3 32))) = 0 then (zY.l0 k x0 (wrap64 (x3 + 32))) else (zY.l0 k x0 (wrap64 (x3 + 1)))) else (none)) else (none)) else (if x3 = (wrap64 (32 * (x0.length : Int))) then (some 0) else (some x3)))) else (if x3 = (wrap64 (32 * (x0.length : Int))) then (some 0) else (some x3))
def zY.f (k : Nat) (x0 : List Int) : Option (Int) := zY.l0 k x0 0
def zaw.l0 : Nat → Int → Int → Option (Int)
 | 0, _, _ => none
 | k + 1, x3, x4 => if x4 > 0 then (zaw.l0 k (wrap64 (x3 + 1)) (x4 / 2)) else (some x3)
def zaw.f (k : Nat) (x0 : List Int) : Option (Int) := if (x0.length : Int) = 0 then (some 0) else (if 0 ≤ wrap64 ((x0.length : Int) - 1) then (if wrap64 ((x0.length : Int) - 1) < (x0.length : Int) then (zaw.l0 k (wrap64 (32 * (wrap64 ((x0.length : Int) - 1)))) (rd x0 (wrap64 ((x0.length : Int) - 1)))) else (none)) else (none))
def zab.l0 : Nat → List Int → Bool → List Int → Int → Int → Option (List Int × Bool)
 | 0, _, _, _, _, _ => none
 | k + 1, x0, x6, x7, x8, x9 => if x9 < (x0.length : Int) then (if 0 ≤ x9 then (if x9 < (x0.length : Int) then (if 0 ≤ x8 then (if (wrap64 (x9 + 1)) < (x0.length : Int) then (if 0 ≤ wrap64 (x9 + 1) then (if wrap64 (x9 + 1) < (x0.length : Int) then (if 0 ≤ (wrap64 (32 - x8)) then (if x7.length + ([(Go.bits .or .u64 (shr .u64 (IntKind.u64.wrap (rd x0 x9)) x8) (shl .u64 (IntKind.u64.wrap (rd x0 (wrap64 (x9 + 1)))) (wrap64 (32 - x8)))) % 4294967296] : List Int).length < 35184372088832 then (zab.l0 k x0 x6 (x7 ++ ([(Go.bits .or .u64 (shr .u64 (IntKind.u64.wrap (rd x0 x9)) x8) (shl .u64 (IntKind.u64.wrap (rd x0 (wrap64 (x9 + 1)))) (wrap64 (32 - x8)))) % 4294967296] : List Int)) x8 (wrap64 (x9 + 1))) else (none)) else (none)) else (none)) else (none)) else (if x7.length + ([(shr .u64 (IntKind.u64.wrap (rd x0 x9)) x8) % 4294967296] : List Int).length < 35184372088832 then (zab.l0 k x0 x6 (x7 ++ ([(shr .u64 (IntKind.u64.wrap (rd x0 x9)) x8) % 4294967296] : List Int)) x8 (wrap64 (x9 + 1))) else (none))) else (none)) else (none)) else (none)) else ((zx.f k x7).bind fun t117 => (some (t117, x6)))
def zab.f (k : Nat) (x0 : List Int) (x1 : Int) : Option (List Int × Bool) := (zaw.f k x0).bind fun t115 => (if x1 ≥ t115 then (some (([] : List Int), decide ((x0.length : Int) > 0))) else ((zY.f k x0).bind fun t116 => (zab.l0 k x0 (decide (x1 > t116)) ([] : List Int) (Int.tmod x1 32) (wrap64 (Int.tdiv x1 32)))))
def zaz.f (k : Nat) (x0 : Bool) (x1 : List Int) (x2 : Int) : Option (Bool × List Int × Int) := if (x1.length : Int) = 0 then (some (false, ([] : List Int), 0)) else ((zY.f k x1).bind fun t90 => ((zab.f k x1 t90).bind fun t118 => (some (x0, t118.1, wrap64 (x2 + t90)))))
def zaA.j0 : Nat → Int → Bool → List Int → Int → Int → Option (Bool × List Int × Int)
 | 0, _, _, _, _, _ => none
 | k + 1, x0, x2_0, x2_1, x2_2, x3 => (zaN.f k x3).bind fun t84 => ((zaz.f k (decide (x0 < 0)) t84 0).bind fun t119 => (some (t119.1, t119.2.1, t119.2.2)))
def zaA.f (k : Nat) (x0 : Int) : Option (Bool × List Int × Int) := if x0 < 0 then (zaA.j0 k x0 false ([] : List Int) 0 (IntKind.u64.wrap (-(IntKind.u64.wrap x0)))) else (zaA.j0 k x0 false ([] : List Int) 0 (IntKind.u64.wrap x0))
def zco.f (x0 : Int) : Option (Int × Int × Int × Bool) := if x0 = 1 then (some (23, 255, 2147483648, true)) else (if x0 = 2 then (some (52, 2047, 9223372036854775808, true)) else (some (0, 0, 0, false)))
def zW.l0 : Nat → Int → Int → Int → Int → Int → Int → List Int → Int → Int → Option (Int × Int × Int × Int)
 | 0, _, _, _, _, _, _, _, _, _ => none
 | k + 1, x4_0, x4_1, x4_2, x6_0, x6_1, x6_2, x18, x19, x20 => if x20 < x19 then (if 0 ≤ x20 then (if x20 < (x18.length : Int) then (if (rd x18 x20) > (Go.bits .or .u64 x6_2 (IntKind.u64.wrap (x6_2 - 1))) then (some (x6_0, x6_1, x6_2, 6)) else (zW.l0 k x4_0 x4_1 x4_2 x6_0 x6_1 x6_2 x18 x19 (wrap64 (x20 + 1)))) else (none)) else (none)) else (some (x6_0, x6_1, x6_2, 0))
def zW.f (k : Nat) (x0 : Int) (x1 : List Int) : Option (Int × Int × Int × Int) := (zco.f x0).bind fun t123 => (if (!t123.2.2.2) = true then (some (t123.1, t123.2.1, t123.2.2.1, 4)) else (zW.l0 k 0 0 0 t123.1 t123.2.1 t123.2.2.1 x1 (x1.length : Int) 0))
def zbC.f (k : Nat) (x0 : Int) (x1 : Int) : Option (Int) := (zW.f k x0 ([x1] : List Int)).bind fun t124 => (some t124.2.2.2)
def zbZ.f (k : Nat) (x0 : Int) (x1_0 : Int) (x1_1 : Int) : Option (Int) := (zbC.f k x0 x1_0).bind fun t125 => (if ¬ (t125 = 0) then (some t125) else ((zbC.f k x0 x1_1).bind fun t126 => (some t126)))
def zbD.f (x0_0 : Int) (x0_1 : Int) (x0_2 : Int) : Option (Int) := if 0 ≤ x0_0 then (some (shl .u64 (IntKind.u64.wrap x0_1) x0_0)) else (none)
def zbe.f (x0_0 : Int) (x0_1 : Int) (x0_2 : Int) (x1 : Int) : Option (Int) := if (Go.bits .andNot .u64 x1 x0_2) = 0 then (some 1) else (if 0 ≤ x0_0 then (if (Go.bits .andNot .u64 x1 x0_2) < (shl .u64 1 x0_0) then (some 2) else ((zbD.f x0_0 x0_1 x0_2).bind fun t129 => (if (Go.bits .andNot .u64 x1 x0_2) < t129 then (some 3) else ((zbD.f x0_0 x0_1 x0_2).bind fun t130 => (if (Go.bits .andNot .u64 x1 x0_2) = t130 then (some 4) else (some 5)))))) else (none))
def zbB.f (k : Nat) (x0 : Int) (x1 : Int) : Option (Int × Int) := (zW.f k x0 ([x1] : List Int)).bind fun t128 => (if ¬ (t128.2.2.2 = 0) then (some (0, t128.2.2.2)) else ((zbe.f t128.1 t128.2.1 t128.2.2.1 x1).bind fun t131 => (some (t131, 0))))
mutual
def zO.j1 : Nat → Int → Int → Bool → Option (Int × Int)
 | 0, _, _, _ => none
 | k + 1, x6, x8, x30 => if x30 = true then (some (3, 0)) else (if x6 = 5 then (zO.j2 k x6 x8 true) else (zO.j2 k x6 x8 (decide (x8 = 5))))
def zO.j2 : Nat → Int → Int → Bool → Option (Int × Int)
 | 0, _, _, _ => none
 | k + 1, x6, x8, x37 => if x37 = true then (some (4, 0)) else (if x6 = 1 then (if x8 = 1 then (some (1, 0)) else (some (2, 0))) else (some (2, 0)))
end
def zO.f (k : Nat) (x0 : Int) (x1_0 : Int) (x1_1 : Int) : Option (Int × Int) := (zbB.f k x0 x1_0).bind fun t154 => (if ¬ (t154.2 = 0) then (some (0, t154.2)) else ((zbB.f k x0 x1_1).bind fun t155 => (if ¬ (t155.2 = 0) then (some (0, t155.2)) else (if t154.1 = 4 then (zO.j1 k t154.1 t155.1 true) else (zO.j1 k t154.1 t155.1 (decide (t155.1 = 4)))))))
mutual
def zF.l0 : Nat → Int → List (Int × Int) → List (Int × Int) → Int → Int → Option (Int)
 | 0, _, _, _, _, _ => none
 | k + 1, x0, x1, x12, x13, x14 => if x14 < x13 then (if 0 ≤ x14 then (if x14 < (x12.length : Int) then ((zbZ.f k x0 ((rdT [.i .u64, .i .u64] x12 x14).1) ((rdT [.i .u64, .i .u64] x12 x14).2)).bind fun t157 => (if ¬ (t157 = 0) then (some t157) else (zF.l0 k x0 x1 x12 x13 (wrap64 (x14 + 1))))) else (none)) else (none)) else (zF.l1 k x0 x1 (x1.length : Int) 0)
def zF.l1 : Nat → Int → List (Int × Int) → Int → Int → Option (Int)
 | 0, _, _, _, _ => none
 | k + 1, x0, x25, x26, x27 => if x27 < x26 then (if 0 ≤ x27 then (if x27 < (x25.length : Int) then ((zO.f k x0 ((rdT [.i .u64, .i .u64] x25 x27).1) ((rdT [.i .u64, .i .u64] x25 x27).2)).bind fun t156 => (if t156.1 > 2 then (some 7) else (zF.l1 k x0 x25 x26 (wrap64 (x27 + 1))))) else (none)) else (none)) else (some 0)
end
def zF.f (k : Nat) (x0 : Int) (x1 : List (Int × Int)) : Option (Int) := zF.l0 k x0 x1 x1 (x1.length : Int) 0
def zT.f (x0 : List Int) : Option (Bool) := if (x0.length : Int) ≤ 4096 then (if (x0.length : Int) = 0 then (some true) else (if 0 ≤ wrap64 ((x0.length : Int) - 1) then (if wrap64 ((x0.length : Int) - 1) < (x0.length : Int) then (some (decide (¬ (rd x0 (wrap64 ((x0.length : Int) - 1)) = 0)))) else (none)) else (none))) else (some false)
def zbq.f (x0 : Int) : Option (Bool) := if (-16777216) ≤ x0 then (some (decide (x0 ≤ 16777216))) else (some false)
def zt.f (x0_0 : Bool) (x0_1 : List Int) (x0_2 : Int) : Option (Bool) := (zT.f x0_1).bind fun t166 => (if (!t166) = true then (some false) else (if (x0_1.length : Int) = 0 then (if (!x0_0) = true then (some (decide (x0_2 = 0))) else (some false)) else (if 0 < (x0_1.length : Int) then (if (Go.bits .and .u32 (rd x0_1 0) 1) = 1 then ((zbq.f x0_2).bind fun t167 => (some t167)) else (some false)) else (none))))
def zad.j0 : Nat → Bool → List Int → Int → Bool → Option (Int)
 | 0, _, _, _, _ => none
 | k + 1, x1_0, x1_1, x1_2, x3 => if x3 = true then (some 0) else (if x1_0 = true then (some (-1)) else (some 1))
def zad.f (k : Nat) (x0_0 : Bool) (x0_1 : List Int) (x0_2 : Int) : Option (Int) := (zt.f x0_0 x0_1 x0_2).bind fun t174 => (if (!t174) = true then (zad.j0 k x0_0 x0_1 x0_2 true) else (zad.j0 k x0_0 x0_1 x0_2 (decide ((x0_1.length : Int) = 0))))
mutual
def zj.l0 : Nat → Bool → List Int → Int → Bool → List Int → Int → Bool → List Int → Int → Int → Option (Int)
 | 0, _, _, _, _, _, _, _, _, _, _ => none
 | k + 1, x56_0, x56_1, x56_2, x56_3, x56_4, x56_5, x56_6, x56_7, x56_8, x57 => if x57 < 3 then (if x57 = 0 then (if (x56_1.length : Int) > 400 then (some 3) else (if x56_2 < (-20000) then (some 3) else (if x56_2 > 20000 then (some 3) else (zj.l0 k x56_0 x56_1 x56_2 x56_3 x56_4 x56_5 x56_6 x56_7 x56_8 (wrap64 (x57 + 1)))))) else (if x57 = 1 then (if (x56_4.length : Int) > 400 then (some 3) else (if x56_5 < (-20000) then (some 3) else (if x56_5 > 20000 then (some 3) else (zj.l0 k x56_0 x56_1 x56_2 x56_3 x56_4 x56_5 x56_6 x56_7 x56_8 (wrap64 (x57 + 1)))))) else (if x57 = 2 then (if (x56_7.length : Int) > 400 then (some 3) else (if x56_8 < (-20000) then (some 3) else (if x56_8 > 20000 then (some 3) else (zj.l0 k x56_0 x56_1 x56_2 x56_3 x56_4 x56_5 x56_6 x56_7 x56_8 (wrap64 (x57 + 1)))))) else (none)))) else (some 0)
def zj.j2 : Nat → Bool → List Int → Int → Bool → List Int → Int → Bool → List Int → Int → Int → Bool → Option (Int)
 | 0, _, _, _, _, _, _, _, _, _, _, _ => none
 | k + 1, x9_0, x9_1, x9_2, x10_0, x10_1, x10_2, x11_0, x11_1, x11_2, x13, x27 => if x27 = true then (some 2) else ((zad.f k x11_0 x11_1 x11_2).bind fun t220 => (if t220 = 0 then (some 11) else (if ¬ (x13 = 0) then (some x13) else (zj.l0 k x9_0 x9_1 x9_2 x10_0 x10_1 x10_2 x11_0 x11_1 x11_2 0))))
end
def zj.f (k : Nat) (x0 : Int) (x1_0 : Int) (x1_1 : Int) (x2 : Int) (x3_0 : Bool) (x3_1 : List Int) (x3_2 : Int) (x4_0 : Bool) (x4_1 : List Int) (x4_2 : Int) (x5_0 : Bool) (x5_1 : List Int) (x5_2 : Int) : Option (Int) := (zF.f k x0 [(x1_0, x1_1)]).bind fun t213 => (if ¬ (t213 = 0) then (if ¬ (t213 = 7) then (some t213) else ((zt.f x3_0 x3_1 x3_2).bind fun t214 => (if (!t214) = true then (zj.j2 k x3_0 x3_1 x3_2 x4_0 x4_1 x4_2 x5_0 x5_1 x5_2 t213 true) else ((zt.f x4_0 x4_1 x4_2).bind fun t215 => (if (!t215) = true then (zj.j2 k x3_0 x3_1 x3_2 x4_0 x4_1 x4_2 x5_0 x5_1 x5_2 t213 true) else ((zt.f x5_0 x5_1 x5_2).bind fun t216 => (if (!t216) = true then (zj.j2 k x3_0 x3_1 x3_2 x4_0 x4_1 x4_2 x5_0 x5_1 x5_2 t213 true) else (zj.j2 k x3_0 x3_1 x3_2 x4_0 x4_1 x4_2 x5_0 x5_1 x5_2 t213 (decide (x2 < 0)))))))))) else ((zt.f x3_0 x3_1 x3_2).bind fun t217 => (if (!t217) = true then (zj.j2 k x3_0 x3_1 x3_2 x4_0 x4_1 x4_2 x5_0 x5_1 x5_2 t213 true) else ((zt.f x4_0 x4_1 x4_2).bind fun t218 => (if (!t218) = true then (zj.j2 k x3_0 x3_1 x3_2 x4_0 x4_1 x4_2 x5_0 x5_1 x5_2 t213 true) else ((zt.f x5_0 x5_1 x5_2).bind fun t219 => (if (!t219) = true then (zj.j2 k x3_0 x3_1 x3_2 x4_0 x4_1 x4_2 x5_0 x5_1 x5_2 t213 true) else (zj.j2 k x3_0 x3_1 x3_2 x4_0 x4_1 x4_2 x5_0 x5_1 x5_2 t213 (decide (x2 < 0))))))))))
def zb3.f (k : Nat) (x0 : Int) (x1 : Int) : Option (Int × Int × Int × Int) := (zW.f k x0 ([x1] : List Int)).bind fun t228 => (if t228.2.2.2 = 0 then ((zbe.f t228.1 t228.2.1 t228.2.2.1 x1).bind fun t229 => (if t229 ≥ 4 then (some (t228.1, t228.2.1, t228.2.2.1, 7)) else (some (t228.1, t228.2.1, t228.2.2.1, t228.2.2.2)))) else (some (t228.1, t228.2.1, t228.2.2.1, t228.2.2.2)))
def zb5.f (x0_0 : Int) (x0_1 : Int) (x0_2 : Int) (x1 : Int) : Option (Bool × Int × Int) := if 0 ≤ x0_0 then (if 0 ≤ x0_0 then (some (decide (¬ (Go.bits .and .u64 x1 x0_2 = 0)), wrap64 (shr .u64 (Go.bits .andNot .u64 x1 x0_2) x0_0), Go.bits .and .u64 (Go.bits .andNot .u64 x1 x0_2) (IntKind.u64.wrap ((shl .u64 1 x0_0) - 1)))) else (none)) else (none)
def zk.l0 : Nat → List Int → Option (List Int)
 | 0, _ => none
 | k + 1, x0 => if (x0.length : Int) > 0 then (if 0 ≤ wrap64 ((x0.length : Int) - 1) then (if wrap64 ((x0.length : Int) - 1) < (x0.length : Int) then (if (rd x0 (wrap64 ((x0.length : Int) - 1))) = 0 then (if 0 ≤ (wrap64 ((x0.length : Int) - 1)) then (if (wrap64 ((x0.length : Int) - 1)) ≤ (x0.length : Int) then (zk.l0 k (x0.take (wrap64 ((x0.length : Int) - 1) : Int).toNat)) else (none)) else (none)) else (some x0)) else (none)) else (none)) else (some x0)
def zk.f (k : Nat) (x0 : List Int) : Option (List Int) := zk.l0 k x0
def zaq.f (k : Nat) (x0 : Int) : Option (List Int) := (zk.f k ([x0 % 4294967296, (x0 / 4294967296) % 4294967296] : List Int)).bind fun t234 => (some t234)
def zb4.f (x0_0 : Int) (x0_1 : Int) (x0_2 : Int) : Option (Int) := some (wrap64 ((wrap64 (1 - (wrap64 (Int.tdiv x0_1 2)))) - x0_0))
abbrev z9.S : Sig := { ps := [.lf (.i .u32)], rs := [.lf (.i .i64)], wb := [], R := Int, mkR := fun y0 => some y0, un := fun r => [.int .i64 r] }
def z9.F (k : Nat) : Fun := { S := z9.S, f := z9.f }
def zS.l0 : Nat → List Int → Int → Int → Option (Int)
 | 0, _, _, _ => none
 | k + 1, x8, x9, x10 => if x10 < x9 then (if 0 ≤ x10 then (if x10 < (x8.length : Int) then (if ¬ (rd x8 x10 = 0) then ((z9.f (rd x8 x10)).bind fun t240 => (some (wrap64 ((wrap64 (32 * x10)) + t240)))) else (zS.l0 k x8 x9 (wrap64 (x10 + 1)))) else (none)) else (none)) else (some 0)
def zS.f (k : Nat) (x0 : List Int) : Option (Int) := (zT.f x0).bind fun t239 => (if (!t239) = true then (some 0) else (zS.l0 k x0 (x0.length : Int) 0))
def zah.l0 : Nat → List Int → Int → List Int → List Int → Int → Int → Option (List Int)
 | 0, _, _, _, _, _, _ => none
 | k + 1, x0, x5, x6, x23, x24, x25 => if x25 < x24 then (if 0 ≤ x25 then (if x25 < (x23.length : Int) then (if 0 ≤ x5 then (if 0 ≤ x25 then (if x25 < (x6.length : Int) then (if (wrap64 (x25 + 1)) < (x0.length : Int) then (if 0 ≤ x25 then (if x25 < ((x6.set (x25 : Int).toNat (shr .u32 (rd x23 x25) x5)).length : Int) then (if 0 ≤ wrap64 (x25 + 1) then (if wrap64 (x25 + 1) < (x0.length : Int) then (if 0 ≤ (wrap64 (32 - x5)) then (if 0 ≤ x25 then (if x25 < ((x6.set (x25 : Int).toNat (shr .u32 (rd x23 x25) x5)).length : Int) then (zah.l0 k x0 x5 ((x6.set (x25 : Int).toNat (shr .u32 (rd x23 x25) x5)).set (x25 : Int).toNat (Go.bits .or .u32 (rd (x6.set (x25 : Int).toNat (shr .u32 (rd x23 x25) x5)) x25) ((shl .u64 (IntKind.u64.wrap (rd x0 (wrap64 (x25 + 1)))) (wrap64 (32 - x5))) % 4294967296))) x23 x24 (wrap64 (x25 + 1))) else (none)) else (none)) else (none)) else (none)) else (none)) else (none)) else (none)) else (zah.l0 k x0 x5 (x6.set (x25 : Int).toNat (shr .u32 (rd x23 x25) x5)) x23 x24 (wrap64 (x25 + 1)))) else (none)) else (none)) else (none)) else (none)) else (none)) else ((zk.f k x6).bind fun t248 => (some t248))
def zah.f (k : Nat) (x0 : List Int) (x1 : Int) : Option (List Int) := if (wrap64 (Int.tdiv x1 32)) ≥ (x0.length : Int) then (some ([] : List Int)) else (if 0 ≤ (wrap64 (Int.tdiv x1 32)) then (if (wrap64 (Int.tdiv x1 32)) ≤ (x0.length : Int) then (if 0 ≤ ((x0.drop (wrap64 (Int.tdiv x1 32) : Int).toNat).length : Int) then (if (((x0.drop (wrap64 (Int.tdiv x1 32) : Int).toNat).length : Int) : Int).toNat ≤ 70368744177664 then (zah.l0 k (x0.drop (wrap64 (Int.tdiv x1 32) : Int).toNat) (Int.tmod x1 32) (List.replicate (((x0.drop (wrap64 (Int.tdiv x1 32) : Int).toNat).length : Int) : Int).toNat (0 : Int)) (x0.drop (wrap64 (Int.tdiv x1 32) : Int).toNat) ((x0.drop (wrap64 (Int.tdiv x1 32) : Int).toNat).length : Int) 0) else (none)) else (none)) else (none)) else (none))
mutual
def zK.j0 : Nat → Int → Int → Option (Int)
 | 0, _, _ => none
 | k + 1, x0, x2 => if x0 ≥ 256 then (zK.j1 k (x0 / 256) (wrap64 (x2 + 8))) else (zK.j1 k x0 x2)
def zK.j1 : Nat → Int → Int → Option (Int)
 | 0, _, _ => none
 | k + 1, x0, x2 => if 0 ≤ x0 % 256 then (if x0 % 256 < (zdv.size : Int) then (some (wrap64 (x2 + (wrap64 (bt zdv (x0 % 256)))))) else (none)) else (none)
end
def zK.f (k : Nat) (x0 : Int) : Option (Int) := if x0 ≥ 65536 then (zK.j0 k (x0 / 65536) 16) else (zK.j0 k x0 0)
def zR.f (k : Nat) (x0 : List Int) : Option (Int) := (zT.f x0).bind fun t258 => (if (!t258) = true then (some 0) else (if (x0.length : Int) = 0 then (some 0) else (if 0 ≤ wrap64 ((x0.length : Int) - 1) then (if wrap64 ((x0.length : Int) - 1) < (x0.length : Int) then ((zK.f k (rd x0 (wrap64 ((x0.length : Int) - 1)))).bind fun t259 => (some (wrap64 ((wrap64 (32 * (wrap64 ((x0.length : Int) - 1)))) + t259)))) else (none)) else (none))))
def zar.l0 : Nat → List Int → Int → Int → List Int → Int → Int → Option (List Int)
 | 0, _, _, _, _, _, _ => none
 | k + 1, x5, x6, x7, x24, x25, x26 => if x26 < x25 then (if 0 ≤ x26 then (if x26 < (x24.length : Int) then (if 0 ≤ x6 then (if x5.length + ([Go.bits .or .u32 (shl .u32 (rd x24 x26) x6) x7] : List Int).length < 35184372088832 then (if 0 ≤ (wrap64 (32 - x6)) then (zar.l0 k (x5 ++ ([Go.bits .or .u32 (shl .u32 (rd x24 x26) x6) x7] : List Int)) x6 ((shr .u64 (IntKind.u64.wrap (rd x24 x26)) (wrap64 (32 - x6))) % 4294967296) x24 x25 (wrap64 (x26 + 1))) else (none)) else (none)) else (none)) else (none)) else (none)) else (if x5.length + ([x7] : List Int).length < 35184372088832 then ((zk.f k (x5 ++ ([x7] : List Int))).bind fun t261 => (some t261)) else (none))
def zar.f (k : Nat) (x0 : List Int) (x1 : Int) : Option (List Int) := if (x0.length : Int) = 0 then (some ([] : List Int)) else (if 0 ≤ (wrap64 (Int.tdiv x1 32)) then (if (wrap64 (Int.tdiv x1 32)) ≤ (wrap64 ((wrap64 ((wrap64 (Int.tdiv x1 32)) + (x0.length : Int))) + 1)) then (if (wrap64 ((wrap64 ((wrap64 (Int.tdiv x1 32)) + (x0.length : Int))) + 1) : Int).toNat ≤ 70368744177664 then (zar.l0 k (List.replicate (wrap64 (Int.tdiv x1 32) : Int).toNat (0 : Int)) (Int.tmod x1 32) 0 x0 (x0.length : Int) 0) else (none)) else (none)) else (none))
def zN.f (k : Nat) (x0 : List Int) (x1 : Int) : Option (List Int × Bool × Int) := (zT.f x0).bind fun t246 => (if (!t246) = true then (some (([] : List Int), false, 2)) else (if (x0.length : Int) = 0 then (some (([] : List Int), false, 0)) else (if x1 < (-131072) then (some (([] : List Int), true, 0)) else (if x1 < 0 then ((zah.f k x0 (wrap64 (-x1))).bind fun t249 => ((zS.f k x0).bind fun t250 => (some (t249, decide (t250 < (wrap64 (-x1))), 0)))) else ((zR.f k x0).bind fun t260 => (if x1 > (wrap64 (131072 - t260)) then (some (([] : List Int), false, 3)) else ((zar.f k x0 x1).bind fun t262 => (some (t262, false, 0)))))))))
def zM.f (k : Nat) (x0 : Bool) (x1 : List Int) (x2 : Int) : Option (Bool × List Int × Int × Int) := (zT.f x1).bind fun t269 => (if (!t269) = true then (some (false, ([] : List Int), 0, 2)) else (if (x1.length : Int) = 0 then (some (false, ([] : List Int), 0, 0)) else ((zS.f k x1).bind fun t270 => (if x2 > (wrap64 (16777216 - t270)) then (some (false, ([] : List Int), 0, 20)) else (if x2 < (wrap64 ((-16777216) - t270)) then (some (false, ([] : List Int), 0, 20)) else ((zN.f k x1 (wrap64 (-t270))).bind fun t271 => (some (x0, t271.1, wrap64 (x2 + t270), 0))))))))
def zat.j1 : Nat → Bool → List Int → Int → Int → Int → Int → Bool → Int → Int → Option (Bool × List Int × Int × Int)
 | 0, _, _, _, _, _, _, _, _, _ => none
 | k + 1, x4_0, x4_1, x4_2, x6_0, x6_1, x6_2, x8_0, x8_1, x8_2 => (zaq.f k x8_2).bind fun t235 => ((zb4.f x6_0 x6_1 x6_2).bind fun t236 => ((zM.f k x8_0 t235 (wrap64 ((wrap64 ((mx x8_1 1) - 1)) + t236))).bind fun t272 => (some (t272.1, t272.2.1, t272.2.2.1, t272.2.2.2))))
def zat.f (k : Nat) (x0 : Int) (x1 : Int) : Option (Bool × List Int × Int × Int) := (zb3.f k x0 x1).bind fun t232 => (if ¬ (t232.2.2.2 = 0) then (some (false, ([] : List Int), 0, t232.2.2.2)) else ((zb5.f t232.1 t232.2.1 t232.2.2.1 x1).bind fun t233 => (if t233.2.1 > 0 then (if 0 ≤ t232.1 then (zat.j1 k false ([] : List Int) 0 t232.1 t232.2.1 t232.2.2.1 t233.1 t233.2.1 (Go.bits .or .u64 t233.2.2 (shl .u64 1 t232.1))) else (none)) else (zat.j1 k false ([] : List Int) 0 t232.1 t232.2.1 t232.2.2.1 t233.1 t233.2.1 t233.2.2))))
def zbr.f (k : Nat) (x0 : Int) (x1_0 : Int) (x1_1 : Int) : Option (Bool × List Int × Int × Bool × List Int × Int) := (zat.f k x0 x1_0).bind fun t273 => ((zat.f k x0 x1_1).bind fun t274 => (some (t273.1, t273.2.1, t273.2.2.1, t274.1, t274.2.1, t274.2.2.1)))
def zI.l0 : Nat → List (Bool × List Int × Int) → Int → Int → Option (Bool)
 | 0, _, _, _ => none
 | k + 1, x5, x6, x7 => if x7 < x6 then (if 0 ≤ x7 then (if x7 < (x5.length : Int) then ((zt.f ((rdT [.b, .is .u32, .i .i64] x5 x7).1) ((rdT [.b, .is .u32, .i .i64] x5 x7).2.1) ((rdT [.b, .is .u32, .i .i64] x5 x7).2.2)).bind fun t276 => (if (!t276) = true then (some false) else (zI.l0 k x5 x6 (wrap64 (x7 + 1))))) else (none)) else (none)) else (some true)
def zI.f (k : Nat) (x0 : List (Bool × List Int × Int)) : Option (Bool) := zI.l0 k x0 (x0.length : Int) 0
def zJ.l0 : Nat → List (List Int) → Int → Int → Option (Bool)
 | 0, _, _, _ => none
 | k + 1, x5, x6, x7 => if x7 < x6 then (if 0 ≤ x7 then (if x7 < (x5.length : Int) then ((zT.f (rdT [.is .u32] x5 x7)).bind fun t278 => (if (!t278) = true then (some false) else (zJ.l0 k x5 x6 (wrap64 (x7 + 1))))) else (none)) else (none)) else (some true)
def zJ.f (k : Nat) (x0 : List (List Int)) : Option (Bool) := zJ.l0 k x0 (x0.length : Int) 0
mutual
def zu.l0 : Nat → List Int → List Int → List Int → Int → Int → Option (List Int)
 | 0, _, _, _, _, _ => none
 | k + 1, x1, x5, x18, x19, x20 => if x20 < x19 then (if 0 ≤ x20 then (if x20 < (x18.length : Int) then (zu.l1 k x1 x5 x20 (rd x18 x20) 0 x18 x19 x20 x1 (x1.length : Int) 0) else (none)) else (none)) else ((zk.f k x5).bind fun t282 => (some t282))
def zu.l1 : Nat → List Int → List Int → Int → Int → Int → List Int → Int → Int → List Int → Int → Int → Option (List Int)
 | 0, _, _, _, _, _, _, _, _, _, _, _ => none
 | k + 1, x1, x5, x6, x7, x8, x18, x19, x20, x25, x26, x27 => if x27 < x26 then (if 0 ≤ x27 then (if x27 < (x25.length : Int) then (if 0 ≤ wrap64 (x6 + x27) then (if wrap64 (x6 + x27) < (x5.length : Int) then (if 0 ≤ wrap64 (x6 + x27) then (if wrap64 (x6 + x27) < (x5.length : Int) then (zu.l1 k x1 (x5.set (wrap64 (x6 + x27) : Int).toNat ((IntKind.u64.wrap ((IntKind.u64.wrap ((IntKind.u64.wrap ((IntKind.u64.wrap x7) * (IntKind.u64.wrap (rd x25 x27)))) + (IntKind.u64.wrap (rd x5 (wrap64 (x6 + x27)))))) + x8)) % 4294967296)) x6 x7 ((IntKind.u64.wrap ((IntKind.u64.wrap ((IntKind.u64.wrap ((IntKind.u64.wrap x7) * (IntKind.u64.wrap (rd x25 x27)))) + (IntKind.u64.wrap (rd x5 (wrap64 (x6 + x27)))))) + x8)) / 4294967296) x18 x19 x20 x25 x26 (wrap64 (x27 + 1))) else (none)) else (none)) else (none)) else (none)) else (none)) else (none)) else (if 0 ≤ wrap64 (x6 + (x1.length : Int)) then (if wrap64 (x6 + (x1.length : Int)) < (x5.length : Int) then (zu.l0 k x1 (x5.set (wrap64 (x6 + (x1.length : Int)) : Int).toNat (x8 % 4294967296)) x18 x19 (wrap64 (x20 + 1))) else (none)) else (none))
end
def zu.f (k : Nat) (x0 : List Int) (x1 : List Int) : Option (List Int) := if 0 ≤ (wrap64 ((x0.length : Int) + (x1.length : Int))) then (if (wrap64 ((x0.length : Int) + (x1.length : Int)) : Int).toNat ≤ 70368744177664 then (zu.l0 k x1 (List.replicate (wrap64 ((x0.length : Int) + (x1.length : Int)) : Int).toNat (0 : Int)) x0 (x0.length : Int) 0) else (none)) else (none)
def z6.f (x0 : List Int) : Option (List Int × Int) := if (x0.length : Int) > 4096 then (some (([] : List Int), 3)) else (some (x0, 0))
def zbX.f (k : Nat) (x0 : List Int) (x1 : List Int) : Option (List Int × Int) := (zJ.f k [x0, x1]).bind fun t289 => (if (!t289) = true then (some (([] : List Int), 2)) else (if (x0.length : Int) > 0 then (if (x1.length : Int) > 0 then (if (wrap64 ((wrap64 ((x0.length : Int) + (x1.length : Int))) - 1)) > 4096 then (some (([] : List Int), 3)) else ((zu.f k x0 x1).bind fun t290 => ((z6.f t290).bind fun t291 => (some (t291.1, t291.2))))) else ((zu.f k x0 x1).bind fun t292 => ((z6.f t292).bind fun t293 => (some (t293.1, t293.2))))) else ((zu.f k x0 x1).bind fun t294 => ((z6.f t294).bind fun t295 => (some (t295.1, t295.2))))))
def zbo.f (k : Nat) (x0_0 : Bool) (x0_1 : List Int) (x0_2 : Int) (x1_0 : Bool) (x1_1 : List Int) (x1_2 : Int) : Option (Bool × List Int × Int × Int) := (zI.f k [(x0_0, x0_1, x0_2), (x1_0, x1_1, x1_2)]).bind fun t277 => (if (!t277) = true then (some (false, ([] : List Int), 0, 2)) else ((zbX.f k x0_1 x1_1).bind fun t296 => (if ¬ (t296.2 = 0) then (some (false, ([] : List Int), 0, t296.2)) else ((zM.f k (decide (¬ ((x0_0) = (x1_0)))) t296.1 (wrap64 (x0_2 + x1_2))).bind fun t297 => (some (t297.1, t297.2.1, t297.2.2.1, t297.2.2.2))))))
def zaf.f (k : Nat) (x0_0 : Bool) (x0_1 : List Int) (x0_2 : Int) (x1_0 : Bool) (x1_1 : List Int) (x1_2 : Int) : Option (Bool × List Int × Int) := (zbo.f k x0_0 x0_1 x0_2 x1_0 x1_1 x1_2).bind fun t298 => (some (t298.1, t298.2.1, t298.2.2.1))
def zaB.f (x0_0 : Bool) (x0_1 : List Int) (x0_2 : Int) : Option (Bool × List Int × Int) := if x0_1.length < 35184372088832 then (some (x0_0, x0_1, x0_2)) else (none)
def zbS.f (x0_0 : Bool) (x0_1 : List Int) (x0_2 : Int) (x1 : Bool) : Option (Bool × List Int × Int) := (zaB.f x0_0 x0_1 x0_2).bind fun t303 => (if x1 = true then (some (decide ((t303.2.1.length : Int) > 0), t303.2.1, t303.2.2)) else (some (false, t303.2.1, t303.2.2)))
def z7.l0 : Nat → List Int → List Int → Int → Option (Int)
 | 0, _, _, _ => none
 | k + 1, x0, x1, x5 => if x5 ≥ 0 then (if 0 ≤ x5 then (if x5 < (x0.length : Int) then (if 0 ≤ x5 then (if x5 < (x1.length : Int) then (if ¬ (rd x0 x5 = rd x1 x5) then (if 0 ≤ x5 then (if x5 < (x0.length : Int) then (if 0 ≤ x5 then (if x5 < (x1.length : Int) then (if (rd x0 x5) < (rd x1 x5) then (some (-1)) else (some 1)) else (none)) else (none)) else (none)) else (none)) else (z7.l0 k x0 x1 (wrap64 (x5 - 1)))) else (none)) else (none)) else (none)) else (none)) else (some 0)
def z7.f (k : Nat) (x0 : List Int) (x1 : List Int) : Option (Int) := if (x0.length : Int) < (x1.length : Int) then (some (-1)) else (if (x0.length : Int) > (x1.length : Int) then (some 1) else (z7.l0 k x0 x1 (wrap64 ((x0.length : Int) - 1))))
def zbi.f (x0 : Int) (x1 : Int) (x2 : Int) : Option (Int × Int) := some ((((x0 - x1) % 4294967296) - x2) % 4294967296, (Go.bits .or .u32 (Go.bits .and .u32 (Go.bits .xor .u32 4294967295 x0) x1) (Go.bits .and .u32 (Go.bits .xor .u32 4294967295 (Go.bits .xor .u32 x0 x1)) ((((x0 - x1) % 4294967296) - x2) % 4294967296))) / 2147483648)
mutual
def zG.l0 : Nat → List Int → List Int → List Int → Int → Int → Int → Option (List Int)
 | 0, _, _, _, _, _, _ => none
 | k + 1, x0, x1, x5, x6, x13, x14 => if x14 < x13 then (if x14 < (x1.length : Int) then (if 0 ≤ x14 then (if x14 < (x1.length : Int) then (zG.j1 k x0 x1 x5 x6 x14 (rd x1 x14) x13 x14) else (none)) else (none)) else (zG.j1 k x0 x1 x5 x6 x14 0 x13 x14)) else ((zk.f k x5).bind fun t319 => (some t319))
def zG.j1 : Nat → List Int → List Int → List Int → Int → Int → Int → Int → Int → Option (List Int)
 | 0, _, _, _, _, _, _, _, _ => none
 | k + 1, x0, x1, x5, x6, x7, x8, x13, x14 => if 0 ≤ x7 then (if x7 < (x0.length : Int) then ((zbi.f (rd x0 x7) x8 x6).bind fun t318 => (if 0 ≤ x7 then (if x7 < (x5.length : Int) then (zG.l0 k x0 x1 (x5.set (x7 : Int).toNat t318.1) t318.2 x13 (wrap64 (x14 + 1))) else (none)) else (none))) else (none)) else (none)
end
def zG.f (k : Nat) (x0 : List Int) (x1 : List Int) : Option (List Int) := if 0 ≤ (x0.length : Int) then (if ((x0.length : Int) : Int).toNat ≤ 70368744177664 then (zG.l0 k x0 x1 (List.replicate ((x0.length : Int) : Int).toNat (0 : Int)) 0 (x0.length : Int) 0) else (none)) else (none)
def zaI.f (k : Nat) (x0 : List Int) (x1 : List Int) : Option (List Int × Int) := (zJ.f k [x0, x1]).bind fun t313 => (if (!t313) = true then (some (([] : List Int), 2)) else ((z7.f k x0 x1).bind fun t314 => (if t314 < 0 then (some (([] : List Int), 10)) else ((zG.f k x0 x1).bind fun t320 => (some (t320, 0))))))
def zbh.f (x0 : Int) (x1 : Int) (x2 : Int) : Option (Int × Int) := some ((IntKind.u64.wrap ((IntKind.u64.wrap ((IntKind.u64.wrap x0) + (IntKind.u64.wrap x1))) + (IntKind.u64.wrap x2))) % 4294967296, ((IntKind.u64.wrap ((IntKind.u64.wrap ((IntKind.u64.wrap x0) + (IntKind.u64.wrap x1))) + (IntKind.u64.wrap x2))) / 4294967296) % 4294967296)
mutual
def zl.l0 : Nat → List Int → List Int → List Int → Int → Int → Int → Option (List Int × Int)
 | 0, _, _, _, _, _, _ => none
 | k + 1, x0, x1, x6, x7, x27, x28 => if x28 < x27 then (if x28 < (x1.length : Int) then (if 0 ≤ x28 then (if x28 < (x1.length : Int) then (zl.j3 k x0 x1 x6 x7 x28 (rd x1 x28) x27 x28) else (none)) else (none)) else (zl.j3 k x0 x1 x6 x7 x28 0 x27 x28)) else (if 0 ≤ (x0.length : Int) then (if (x0.length : Int) < (x6.length : Int) then ((zk.f k (x6.set ((x0.length : Int) : Int).toNat x7)).bind fun t336 => ((z6.f t336).bind fun t337 => (some (t337.1, t337.2)))) else (none)) else (none))
def zl.j1 : Nat → List Int → List Int → Option (List Int × Int)
 | 0, _, _ => none
 | k + 1, x0, x1 => if 0 ≤ (wrap64 ((x0.length : Int) + 1)) then (if (wrap64 ((x0.length : Int) + 1) : Int).toNat ≤ 70368744177664 then (zl.l0 k x0 x1 (List.replicate (wrap64 ((x0.length : Int) + 1) : Int).toNat (0 : Int)) 0 (x0.length : Int) 0) else (none)) else (none)
def zl.j3 : Nat → List Int → List Int → List Int → Int → Int → Int → Int → Int → Option (List Int × Int)
 | 0, _, _, _, _, _, _, _, _ => none
 | k + 1, x0, x1, x6, x7, x8, x9, x27, x28 => if 0 ≤ x8 then (if x8 < (x0.length : Int) then ((zbh.f (rd x0 x8) x9 x7).bind fun t335 => (if 0 ≤ x8 then (if x8 < (x6.length : Int) then (zl.l0 k x0 x1 (x6.set (x8 : Int).toNat t335.1) t335.2 x27 (wrap64 (x28 + 1))) else (none)) else (none))) else (none)) else (none)
end
def zl.f (k : Nat) (x0 : List Int) (x1 : List Int) : Option (List Int × Int) := (zJ.f k [x0, x1]).bind fun t334 => (if (!t334) = true then (some (([] : List Int), 2)) else (if (x0.length : Int) < (x1.length : Int) then (zl.j1 k x1 x0) else (zl.j1 k x0 x1)))
def zcz.f (k : Nat) (x0_0 : Bool) (x0_1 : List Int) (x0_2 : Int) (x1_0 : Bool) (x1_1 : List Int) (x1_2 : Int) (x2 : Int) : Option (Bool × List Int × Int × Int) := if (x0_0) = (x1_0) then (some (false, ([] : List Int), 0, 3)) else ((zN.f k x0_1 (wrap64 (x2 - 1))).bind fun t311 => ((zN.f k x1_1 (-1)).bind fun t312 => ((zaI.f k t311.1 t312.1).bind fun t321 => (if ¬ (t321.2 = 0) then (some (false, ([] : List Int), 0, 3)) else ((zl.f k t321.1 t321.1).bind fun t338 => (if t338.2 = 0 then ((zaq.f k 1).bind fun t339 => ((zaI.f k t338.1 t339).bind fun t340 => ((zM.f k x0_0 t340.1 x1_2).bind fun t341 => (some (t341.1, t341.2.1, t341.2.2.1, t341.2.2.2))))) else ((zR.f k t321.1).bind fun t342 => ((zS.f k t321.1).bind fun t343 => (if t342 = (wrap64 (t343 + 1)) then ((zaq.f k 1).bind fun t344 => ((zaI.f k t321.1 t344).bind fun t345 => ((zl.f k t345.1 t321.1).bind fun t346 => ((zM.f k x0_0 t346.1 x1_2).bind fun t347 => (some (t347.1, t347.2.1, t347.2.2.1, t347.2.2.2)))))) else (some (false, ([] : List Int), 0, 3)))))))))))
def za5.j1 : Nat → Bool → Int → Bool → List Int → Int → List Int → Option (Bool × List Int × Int × Int)
 | 0, _, _, _, _, _, _ => none
 | k + 1, x0, x3, x8_0, x8_1, x8_2, x16 => (zM.f k x0 x16 (wrap64 (x3 + 1))).bind fun t361 => (some (t361.1, t361.2.1, t361.2.2.1, t361.2.2.2))
def za5.f (k : Nat) (x0 : Bool) (x1 : List Int) (x2 : List Int) (x3 : Int) : Option (Bool × List Int × Int × Int) := if 0 < (x1.length : Int) then (if 0 < (x2.length : Int) then (if ¬ (Go.bits .and .u32 (rd x1 0) 1 = Go.bits .and .u32 (rd x2 0) 1) then (some (false, ([] : List Int), 0, 3)) else ((zN.f k x1 (-1)).bind fun t356 => ((zN.f k x2 (-1)).bind fun t357 => ((zl.f k t356.1 t357.1).bind fun t358 => (if 0 < (x1.length : Int) then (if (Go.bits .and .u32 (rd x1 0) 1) = 1 then ((zaq.f k 1).bind fun t359 => ((zl.f k t358.1 t359).bind fun t360 => (za5.j1 k x0 x3 false ([] : List Int) 0 t360.1))) else (za5.j1 k x0 x3 false ([] : List Int) 0 t358.1)) else (none)))))) else (none)) else (none)
def za9.f (k : Nat) (x0 : List Int) (x1 : List Int) : Option (Int × Int) := (zJ.f k [x0, x1]).bind fun t364 => (if (!t364) = true then (some (0, 2)) else ((z7.f k x0 x1).bind fun t365 => (some (t365, 0))))
def zan.j2 : Nat → Bool → List Int → List Int → Int → Bool → List Int → Int → Option (Bool × List Int × Int × Int)
 | 0, _, _, _, _, _, _, _ => none
 | k + 1, x0, x1, x3, x4, x10_0, x10_1, x10_2 => (zaI.f k x1 x3).bind fun t371 => ((zM.f k x0 t371.1 x4).bind fun t372 => (some (t372.1, t372.2.1, t372.2.2.1, t372.2.2.2)))
def zan.f (k : Nat) (x0 : Bool) (x1 : List Int) (x2 : Bool) (x3 : List Int) (x4 : Int) : Option (Bool × List Int × Int × Int) := if (x0) = (x2) then ((zl.f k x1 x3).bind fun t367 => (if ¬ (t367.2 = 0) then ((za5.f k x0 x1 x3 x4).bind fun t368 => (some (t368.1, t368.2.1, t368.2.2.1, t368.2.2.2))) else ((zM.f k x0 t367.1 x4).bind fun t369 => (some (t369.1, t369.2.1, t369.2.2.1, t369.2.2.2))))) else ((za9.f k x1 x3).bind fun t370 => (if t370.1 < 0 then (zan.j2 k x2 x3 x1 x4 false ([] : List Int) 0) else (zan.j2 k x0 x1 x3 x4 false ([] : List Int) 0)))
def zae.j1 : Nat → Bool → List Int → Int → Bool → List Int → Int → Bool → List Int → Int → Option (Bool × List Int × Int × Int)
 | 0, _, _, _, _, _, _, _, _, _ => none
 | k + 1, x2_0, x2_1, x2_2, x3_0, x3_1, x3_2, x4_0, x4_1, x4_2 => (zR.f k x2_1).bind fun t309 => (if (wrap64 ((wrap64 (x2_2 - x3_2)) + t309)) > 131073 then (some (false, ([] : List Int), 0, 3)) else ((zR.f k x2_1).bind fun t310 => (if (wrap64 ((wrap64 (x2_2 - x3_2)) + t310)) > 131072 then ((zcz.f k x2_0 x2_1 x2_2 x3_0 x3_1 x3_2 (wrap64 (x2_2 - x3_2))).bind fun t348 => (some (t348.1, t348.2.1, t348.2.2.1, t348.2.2.2))) else ((zN.f k x2_1 (wrap64 (x2_2 - x3_2))).bind fun t349 => ((zan.f k x2_0 t349.1 x3_0 x3_1 x3_2).bind fun t373 => (some (t373.1, t373.2.1, t373.2.2.1, t373.2.2.2)))))))
def zae.f (k : Nat) (x0_0 : Bool) (x0_1 : List Int) (x0_2 : Int) (x1_0 : Bool) (x1_1 : List Int) (x1_2 : Int) : Option (Bool × List Int × Int × Int) := if (x0_1.length : Int) = 0 then ((zaB.f x1_0 x1_1 x1_2).bind fun t307 => (some (t307.1, t307.2.1, t307.2.2, 0))) else (if (x1_1.length : Int) = 0 then ((zaB.f x0_0 x0_1 x0_2).bind fun t308 => (some (t308.1, t308.2.1, t308.2.2, 0))) else (if x0_2 < x1_2 then (zae.j1 k x1_0 x1_1 x1_2 x0_0 x0_1 x0_2 false ([] : List Int) 0) else (zae.j1 k x0_0 x0_1 x0_2 x1_0 x1_1 x1_2 false ([] : List Int) 0)))
def zbp.f (k : Nat) (x0_0 : Bool) (x0_1 : List Int) (x0_2 : Int) (x1_0 : Bool) (x1_1 : List Int) (x1_2 : Int) : Option (Bool × List Int × Int × Int) := (zI.f k [(x0_0, x0_1, x0_2), (x1_0, x1_1, x1_2)]).bind fun t300 => (if (!t300) = true then (some (false, ([] : List Int), 0, 2)) else ((zbS.f x1_0 x1_1 x1_2 (!x1_0)).bind fun t304 => ((zae.f k x0_0 x0_1 x0_2 t304.1 t304.2.1 t304.2.2).bind fun t374 => (some (t374.1, t374.2.1, t374.2.2.1, t374.2.2.2)))))
def za7.f (k : Nat) (x0_0 : Bool) (x0_1 : List Int) (x0_2 : Int) (x1_0 : Bool) (x1_1 : List Int) (x1_2 : Int) : Option (Bool × List Int × Int) := (zbp.f k x0_0 x0_1 x0_2 x1_0 x1_1 x1_2).bind fun t375 => (some (t375.1, t375.2.1, t375.2.2.1))
def zbl.f (k : Nat) (x0_0 : Bool) (x0_1 : List Int) (x0_2 : Int) (x1_0 : Bool) (x1_1 : List Int) (x1_2 : Int) : Option (Bool × List Int × Int × Int) := (zI.f k [(x0_0, x0_1, x0_2), (x1_0, x1_1, x1_2)]).bind fun t381 => (if (!t381) = true then (some (false, ([] : List Int), 0, 2)) else ((zae.f k x0_0 x0_1 x0_2 x1_0 x1_1 x1_2).bind fun t382 => (some (t382.1, t382.2.1, t382.2.2.1, t382.2.2.2))))
def zbT.f (k : Nat) (x0_0 : Bool) (x0_1 : List Int) (x0_2 : Int) (x1_0 : Bool) (x1_1 : List Int) (x1_2 : Int) : Option (Bool × List Int × Int) := (zbl.f k x0_0 x0_1 x0_2 x1_0 x1_1 x1_2).bind fun t383 => (some (t383.1, t383.2.1, t383.2.2.1))
def zbs.f (k : Nat) (x0_0 : Bool) (x0_1 : List Int) (x0_2 : Int) (x0_3 : Bool) (x0_4 : List Int) (x0_5 : Int) : Option (Bool × List Int × Int) := (zaf.f k x0_0 x0_1 x0_2 x0_0 x0_1 x0_2).bind fun t379 => ((zaf.f k x0_3 x0_4 x0_5 x0_3 x0_4 x0_5).bind fun t380 => ((zbT.f k t379.1 t379.2.1 t379.2.2 t380.1 t380.2.1 t380.2.2).bind fun t384 => (some (t384.1, t384.2.1, t384.2.2))))
def zcd.f (x0 : Int) : Option (Int) := if x0 = 1 then (some 24) else (some 53)
def za4.f (x0_0 : Bool) (x0_1 : List Int) (x0_2 : Int) (x1 : Int) : Option (Bool × List Int × Int × Int) := (zt.f x0_0 x0_1 x0_2).bind fun t394 => (if (!t394) = true then (some (false, ([] : List Int), 0, 2)) else (if (x0_1.length : Int) = 0 then (some (false, ([] : List Int), 0, 0)) else (if x1 > (wrap64 (16777216 - x0_2)) then (some (false, ([] : List Int), 0, 20)) else (if x1 < (wrap64 ((-16777216) - x0_2)) then (some (false, ([] : List Int), 0, 20)) else ((zaB.f x0_0 x0_1 x0_2).bind fun t395 => (some (t395.1, t395.2.1, wrap64 (t395.2.2 + x1), 0)))))))
def za6.f (k : Nat) (x0 : Int) (x1_0 : Int) (x1_1 : Int) (x2_0 : Bool) (x2_1 : List Int) (x2_2 : Int) (x3_0 : Bool) (x3_1 : List Int) (x3_2 : Int) (x4_0 : Bool) (x4_1 : List Int) (x4_2 : Int) : Option (Bool × List Int × Int × Bool × List Int × Int) := (zbr.f k x0 x1_0 x1_1).bind fun t275 => ((zaf.f k t275.1 t275.2.1 t275.2.2.1 x4_0 x4_1 x4_2).bind fun t299 => ((za7.f k t299.1 t299.2.1 t299.2.2 x2_0 x2_1 x2_2).bind fun t376 => ((zaf.f k t275.2.2.2.1 t275.2.2.2.2.1 t275.2.2.2.2.2 x4_0 x4_1 x4_2).bind fun t377 => ((za7.f k t377.1 t377.2.1 t377.2.2 x3_0 x3_1 x3_2).bind fun t378 => ((zbs.f k t376.1 t376.2.1 t376.2.2 t378.1 t378.2.1 t378.2.2).bind fun t385 => ((zcd.f x0).bind fun t386 => ((za4.f t385.1 t385.2.1 t385.2.2 (wrap64 (2 * t386))).bind fun t396 => ((zbs.f k x2_0 x2_1 x2_2 x3_0 x3_1 x3_2).bind fun t397 => (some (t396.1, t396.2.1, t396.2.2.1, t397.1, t397.2.1, t397.2.2))))))))))
def zaP.f (k : Nat) (x0_0 : Bool) (x0_1 : List Int) (x0_2 : Int) : Option (Int) := (zt.f x0_0 x0_1 x0_2).bind fun t413 => (if (!t413) = true then (some 0) else (if (x0_1.length : Int) = 0 then (some 0) else ((zR.f k x0_1).bind fun t414 => (some (wrap64 (x0_2 + t414))))))
def z3.j1 : Nat → List Int → List Int → Option (Int)
 | 0, _, _ => none
 | k + 1, x5, x6 => (za9.f k x5 x6).bind fun t430 => (some t430.1)
def z3.f (k : Nat) (x0_0 : Bool) (x0_1 : List Int) (x0_2 : Int) (x1_0 : Bool) (x1_1 : List Int) (x1_2 : Int) : Option (Int) := (zaP.f k x0_0 x0_1 x0_2).bind fun t422 => ((zaP.f k x1_0 x1_1 x1_2).bind fun t423 => (if t422 < t423 then (some (-1)) else ((zaP.f k x0_0 x0_1 x0_2).bind fun t424 => ((zaP.f k x1_0 x1_1 x1_2).bind fun t425 => (if t424 > t425 then (some 1) else ((zR.f k x0_1).bind fun t426 => ((zR.f k x1_1).bind fun t427 => (if (wrap64 (t426 - t427)) > 0 then ((zN.f k x1_1 (wrap64 (t426 - t427))).bind fun t428 => (z3.j1 k x0_1 t428.1)) else ((zN.f k x0_1 (wrap64 (-(wrap64 (t426 - t427))))).bind fun t429 => (z3.j1 k t429.1 x1_1))))))))))
def zbm.f (k : Nat) (x0_0 : Bool) (x0_1 : List Int) (x0_2 : Int) (x1_0 : Bool) (x1_1 : List Int) (x1_2 : Int) : Option (Int × Int) := (zI.f k [(x0_0, x0_1, x0_2), (x1_0, x1_1, x1_2)]).bind fun t403 => (if (!t403) = true then (some (0, 2)) else ((zad.f k x0_0 x0_1 x0_2).bind fun t404 => ((zad.f k x1_0 x1_1 x1_2).bind fun t405 => (if t404 < t405 then (some ((-1), 0)) else (if t404 > t405 then (some (1, 0)) else ((z3.f k x0_0 x0_1 x0_2 x1_0 x1_1 x1_2).bind fun t431 => (some (wrap64 (t404 * t431), 0))))))))
def zaQ.f (k : Nat) (x0_0 : Bool) (x0_1 : List Int) (x0_2 : Int) (x1_0 : Bool) (x1_1 : List Int) (x1_2 : Int) (x2 : Int) : Option (Bool) := (zaq.f k x2).bind fun t399 => ((zM.f k false t399 0).bind fun t400 => ((zaf.f k t400.1 t400.2.1 t400.2.2.1 t400.1 t400.2.1 t400.2.2.1).bind fun t401 => ((zaf.f k t401.1 t401.2.1 t401.2.2 x1_0 x1_1 x1_2).bind fun t402 => ((zbm.f k x0_0 x0_1 x0_2 t402.1 t402.2.1 t402.2.2).bind fun t432 => (some (decide (t432.1 ≤ 0)))))))
def zE.l0 : Nat → Bool → List Int → Int → Bool → List Int → Int → Int → Int → Option (Int × Int)
 | 0, _, _, _, _, _, _, _, _ => none
 | k + 1, x13_0, x13_1, x13_2, x14_0, x14_1, x14_2, x15, x16 => if x15 < x16 then ((zaQ.f k x13_0 x13_1 x13_2 x14_0 x14_1 x14_2 (IntKind.u64.wrap (Int.tdiv (IntKind.u64.wrap (x15 + x16)) 2))).bind fun t437 => (if t437 = true then (zE.l0 k x13_0 x13_1 x13_2 x14_0 x14_1 x14_2 x15 (IntKind.u64.wrap (Int.tdiv (IntKind.u64.wrap (x15 + x16)) 2))) else (zE.l0 k x13_0 x13_1 x13_2 x14_0 x14_1 x14_2 (IntKind.u64.wrap ((IntKind.u64.wrap (Int.tdiv (IntKind.u64.wrap (x15 + x16)) 2)) + 1)) x16))) else (some (x15, 0))
def zE.f (k : Nat) (x0 : Int) (x1_0 : Int) (x1_1 : Int) (x2_0 : Bool) (x2_1 : List Int) (x2_2 : Int) (x3_0 : Bool) (x3_1 : List Int) (x3_2 : Int) (x4_0 : Bool) (x4_1 : List Int) (x4_2 : Int) : Option (Int × Int) := (zj.f k x0 x1_0 x1_1 0 x2_0 x2_1 x2_2 x3_0 x3_1 x3_2 x4_0 x4_1 x4_2).bind fun t434 => (if ¬ (t434 = 0) then (some (0, t434)) else ((za6.f k x0 x1_0 x1_1 x2_0 x2_1 x2_2 x3_0 x3_1 x3_2 x4_0 x4_1 x4_2).bind fun t435 => ((zaQ.f k t435.1 t435.2.1 t435.2.2.1 t435.2.2.2.1 t435.2.2.2.2.1 t435.2.2.2.2.2 4294967295).bind fun t436 => (if (!t436) = true then (some (0, 20)) else (zE.l0 k t435.1 t435.2.1 t435.2.2.1 t435.2.2.2.1 t435.2.2.2.2.1 t435.2.2.2.2.2 0 4294967295)))))
def zaG.f (k : Nat) (x0 : Int) (x1_0 : Int) (x1_1 : Int) (x2_0 : Bool) (x2_1 : List Int) (x2_2 : Int) (x3_0 : Bool) (x3_1 : List Int) (x3_2 : Int) (x4_0 : Bool) (x4_1 : List Int) (x4_2 : Int) (x5 : Int) : Option (Bool × Int) := (zj.f k x0 x1_0 x1_1 x5 x2_0 x2_1 x2_2 x3_0 x3_1 x3_2 x4_0 x4_1 x4_2).bind fun t441 => (if ¬ (t441 = 0) then (some (false, t441)) else ((za6.f k x0 x1_0 x1_1 x2_0 x2_1 x2_2 x3_0 x3_1 x3_2 x4_0 x4_1 x4_2).bind fun t442 => ((zaQ.f k t442.1 t442.2.1 t442.2.2.1 t442.2.2.2.1 t442.2.2.2.2.1 t442.2.2.2.2.2 (IntKind.u64.wrap x5)).bind fun t443 => (some (t443, 0)))))
def zaF.f (k : Nat) : Option (Bool) := (zaA.f k 1).bind fun t451 => ((zaA.f k 1).bind fun t452 => ((zE.f k 1 1065353217 0 t451.1 t451.2.1 t451.2.2 false ([] : List Int) 0 t452.1 t452.2.1 t452.2.2).bind fun t453 => ((zaA.f k 1).bind fun t454 => ((zaA.f k 1).bind fun t455 => ((zaG.f k 1 1065353217 0 t454.1 t454.2.1 t454.2.2 false ([] : List Int) 0 t455.1 t455.2.1 t455.2.2 1).bind fun t456 => (if t453.1 = 2 then (if t453.2 = 0 then (if (!t456.1) = true then (some (decide (t456.2 = 0))) else (some false)) else (some false)) else (some false)))))))
def zbO.f (x0 : Int) : Option (Int) := if x0 = 1 then (some (-149)) else (some (-1074))
def za3.f (k : Nat) (x0 : Int) (x1 : Int) : Option (Bool × List Int × Int) := (za2.f x0 x1).bind fun t473 => (if t473.2.1 = 0 then ((zaN.f k t473.2.2).bind fun t474 => ((zbO.f x0).bind fun t475 => ((zaz.f k t473.1 t474 t475).bind fun t476 => (some (t476.1, t476.2.1, t476.2.2))))) else ((za0.f x0).bind fun t477 => (if 0 ≤ t477 then ((zaN.f k (IntKind.u64.wrap ((shl .u64 1 t477) + t473.2.2))).bind fun t478 => ((zbO.f x0).bind fun t479 => ((zaz.f k t473.1 t478 (wrap64 ((wrap64 (t473.2.1 - 1)) + t479))).bind fun t480 => (some (t480.1, t480.2.1, t480.2.2))))) else (none))))
mutual
def zn.l0 : Nat → List Int → List Int → List Int → Int → Int → Int → Option (List Int)
 | 0, _, _, _, _, _, _ => none
 | k + 1, x0, x1, x5, x6, x7, x8 => if x8 < (wrap64 ((x0.length : Int) + (x1.length : Int))) then (if x8 ≥ (x1.length : Int) then (zn.j3 k x0 x1 x5 x6 x7 x8 (wrap64 ((wrap64 (x8 - (x1.length : Int))) + 1))) else (zn.j3 k x0 x1 x5 x6 x7 x8 0)) else ((zx.f k x5).bind fun t484 => (some t484))
def zn.l1 : Nat → List Int → List Int → List Int → Int → Int → Int → Int → Option (List Int)
 | 0, _, _, _, _, _, _, _ => none
 | k + 1, x0, x1, x5, x6, x7, x8, x10 => if x10 ≤ x8 then (if x10 < (x0.length : Int) then (if 0 ≤ x10 then (if x10 < (x0.length : Int) then (if 0 ≤ wrap64 (x8 - x10) then (if wrap64 (x8 - x10) < (x1.length : Int) then (if (IntKind.u64.wrap (x6 + (IntKind.u64.wrap ((IntKind.u64.wrap (rd x0 x10)) * (IntKind.u64.wrap (rd x1 (wrap64 (x8 - x10)))))))) < (IntKind.u64.wrap ((IntKind.u64.wrap (rd x0 x10)) * (IntKind.u64.wrap (rd x1 (wrap64 (x8 - x10)))))) then (zn.l1 k x0 x1 x5 (IntKind.u64.wrap (x6 + (IntKind.u64.wrap ((IntKind.u64.wrap (rd x0 x10)) * (IntKind.u64.wrap (rd x1 (wrap64 (x8 - x10)))))))) (IntKind.u64.wrap (x7 + 1)) x8 (wrap64 (x10 + 1))) else (zn.l1 k x0 x1 x5 (IntKind.u64.wrap (x6 + (IntKind.u64.wrap ((IntKind.u64.wrap (rd x0 x10)) * (IntKind.u64.wrap (rd x1 (wrap64 (x8 - x10)))))))) x7 x8 (wrap64 (x10 + 1)))) else (none)) else (none)) else (none)) else (none)) else (if x5.length + ([x6 % 4294967296] : List Int).length < 35184372088832 then (zn.l0 k x0 x1 (x5 ++ ([x6 % 4294967296] : List Int)) (Go.bits .or .u64 (x6 / 4294967296) (IntKind.u64.wrap (x7 * 4294967296))) (x7 / 4294967296) (wrap64 (x8 + 1))) else (none))) else (if x5.length + ([x6 % 4294967296] : List Int).length < 35184372088832 then (zn.l0 k x0 x1 (x5 ++ ([x6 % 4294967296] : List Int)) (Go.bits .or .u64 (x6 / 4294967296) (IntKind.u64.wrap (x7 * 4294967296))) (x7 / 4294967296) (wrap64 (x8 + 1))) else (none))
def zn.j3 : Nat → List Int → List Int → List Int → Int → Int → Int → Int → Option (List Int)
 | 0, _, _, _, _, _, _, _ => none
 | k + 1, x0, x1, x5, x6, x7, x8, x9 => zn.l1 k x0 x1 x5 x6 x7 x8 x9
end
def zn.f (k : Nat) (x0 : List Int) (x1 : List Int) : Option (List Int) := if (x0.length : Int) = 0 then (some ([] : List Int)) else (if (x1.length : Int) = 0 then (some ([] : List Int)) else (zn.l0 k x0 x1 ([] : List Int) 0 0 0))
def zaO.f (k : Nat) (x0_0 : Bool) (x0_1 : List Int) (x0_2 : Int) (x1_0 : Bool) (x1_1 : List Int) (x1_2 : Int) : Option (Bool × List Int × Int) := (zn.f k x0_1 x1_1).bind fun t485 => ((zaz.f k (decide (¬ ((x0_0) = (x1_0)))) t485 (wrap64 (x0_2 + x1_2))).bind fun t486 => (some (t486.1, t486.2.1, t486.2.2)))
def zam.l0 : Nat → List Int → List Int → Int → Option (Bool)
 | 0, _, _, _ => none
 | k + 1, x0, x1, x5 => if x5 < (x0.length : Int) then (if 0 ≤ x5 then (if x5 < (x0.length : Int) then (if 0 ≤ x5 then (if x5 < (x1.length : Int) then (if ¬ (rd x0 x5 = rd x1 x5) then (some false) else (zam.l0 k x0 x1 (wrap64 (x5 + 1)))) else (none)) else (none)) else (none)) else (none)) else (some true)
def zam.f (k : Nat) (x0 : List Int) (x1 : List Int) : Option (Bool) := if ¬ ((x0.length : Int) = (x1.length : Int)) then (some false) else (zam.l0 k x0 x1 0)
def zaZ.f (k : Nat) (x0_0 : Bool) (x0_1 : List Int) (x0_2 : Int) (x1_0 : Bool) (x1_1 : List Int) (x1_2 : Int) : Option (Bool) := if (x0_0) = (x1_0) then (if x0_2 = x1_2 then ((zam.f k x0_1 x1_1).bind fun t490 => (some t490)) else (some false)) else (some false)
def zbJ.f (k : Nat) (x0 : Int) (x1_0 : Int) (x1_1 : Int) (x2_0 : Bool) (x2_1 : List Int) (x2_2 : Int) (x2_3 : Bool) (x2_4 : List Int) (x2_5 : Int) (x2_6 : Bool) (x2_7 : List Int) (x2_8 : Int) : Option (Bool) := (zbK.f x2_0 x2_1 x2_2 x2_3 x2_4 x2_5 x2_6 x2_7 x2_8).bind fun t573 => (if t573 = true then ((zaF.f k).bind fun t574 => (some t574)) else ((zaX.f k x0 x1_0 x1_1 x2_0 x2_1 x2_2 x2_3 x2_4 x2_5 x2_6 x2_7 x2_8 0).bind fun t575 => (if ¬ (t575 = 0) then ((zaF.f k).bind fun t576 => (some t576)) else ((zE.f k x0 x1_0 x1_1 x2_0 x2_1 x2_2 x2_3 x2_4 x2_5 x2_6 x2_7 x2_8).bind fun t577 => (if ¬ (t577.2 = 0) then ((zaG.f k x0 x1_0 x1_1 x2_0 x2_1 x2_2 x2_3 x2_4 x2_5 x2_6 x2_7 x2_8 4294967295).bind fun t578 => (if t577.2 = 20 then (if (!t578.1) = true then (if t578.2 = 0 then ((zaF.f k).bind fun t579 => (some t579)) else (some false)) else (some false)) else (some false))) else ((zaG.f k x0 x1_0 x1_1 x2_0 x2_1 x2_2 x2_3 x2_4 x2_5 x2_6 x2_7 x2_8 (wrap64 t577.1)).bind fun t580 => (if (!t580.1) = true then (some false) else (if ¬ (t580.2 = 0) then (some false) else (if t577.1 = 0 then ((za3.f k x0 x1_0).bind fun t581 => ((zaO.f k t581.1 t581.2.1 t581.2.2 x2_6 x2_7 x2_8).bind fun t582 => ((zaZ.f k t582.1 t582.2.1 t582.2.2 x2_0 x2_1 x2_2).bind fun t583 => (if t583 = true then ((za3.f k x0 x1_1).bind fun t584 => ((zaO.f k t584.1 t584.2.1 t584.2.2 x2_6 x2_7 x2_8).bind fun t585 => ((zaZ.f k t585.1 t585.2.1 t585.2.2 x2_3 x2_4 x2_5).bind fun t586 => (if t586 = true then ((zaF.f k).bind fun t587 => (some t587)) else (some false))))) else (some false))))) else ((zaG.f k x0 x1_0 x1_1 x2_0 x2_1 x2_2 x2_3 x2_4 x2_5 x2_6 x2_7 x2_8 (wrap64 ((wrap64 t577.1) - 1))).bind fun t588 => (if (!t588.1) = true then (if t588.2 = 0 then ((zaF.f k).bind fun t589 => (some t589)) else (some false)) else (some false))))))))))))
end Go.Proofs.YtioialhbjmnndaaDoor.Eng
