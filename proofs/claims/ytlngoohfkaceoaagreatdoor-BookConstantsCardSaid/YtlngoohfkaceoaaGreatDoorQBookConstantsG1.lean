import Derived.Test.YtlngoohfkaceoaaGreatDoorQBookConstantsF1
import Derived.Tactics
import Derived.BigQuiet
import Derived.WalkKit
import Derived.OwnWalk
import Derived.Lib.TrailingZeros
import Derived.ChangeAlike
import Derived.Deep.RegionWith
import Derived.Defers
import Derived.Laws.LoneSync
import Derived.Laws.NewBlocks
import Derived.Laws.Pointers
import Derived.Laws.Tables
import Derived.RegionCalls
import Derived.RegionTactic
import Derived.Tactics2
set_option linter.unusedVariables false
set_option linter.unusedSimpArgs false
namespace Go.Proofs.YtlngoohfkaceoaaGreatDoor.Eng
open Go.RowKit Go.Proofs Go
set_option maxRecDepth 100000
def zdT (w : World) : Prop := ∀ j, j < 32 → w.cell? ⟨0, j, none⟩ = some (.int .u8 (Lib.deBruijn32tab.getD j 0))
theorem ziJ (x k idx : Nat) (w : World) (hx0 : ((x : Int) == 0) = false)
  (key : bits BinOp.and IntKind.u32 (x : Int) (-(x : Int) % 4294967296) * 125613361 % 4294967296 / 134217728 = (idx : Int))
  (hi : idx < 32) (hk : k < 32) (hcell : w.cell? ⟨0, idx, none⟩ = some (.int .u8 k)) :
  Calls Tryz.prog 92 #[.int .u32 x] w fun e w' => e = .returned (.int .i64 k) ∧ w' = w := by
 go_enter Tryz.func92, Tryz.ntmps92
 go_wp2_with (simp only [key])
 go_ret
 exact ⟨rfl, rfl⟩
theorem ziM (w : World) : Calls Tryz.prog 92 #[.int .u32 0] w fun e w' => e = .returned (.int .i64 32) ∧ w' = w := by
 go_enter Tryz.func92, Tryz.ntmps92
 go_wp2
 go_ret
 exact ⟨rfl, rfl⟩
theorem zgo (a b : Nat) (ha : a < 4294967296) (hb : b < 4294967296) : bits .and .u32 (a : Int) (b : Int) = ((a &&& b : Nat) : Int) := by
 have hx : a &&& b < 2 ^ 32 := Nat.and_lt_two_pow _ (by omega)
 have h1 : (BitVec.ofInt 32 (a : Int)).toNat = a := by
  rw [BitVec.ofInt_natCast, BitVec.toNat_ofNat]; exact Nat.mod_eq_of_lt (by omega)
 have h2 : (BitVec.ofInt 32 (b : Int)).toNat = b := by
  rw [BitVec.ofInt_natCast, BitVec.toNat_ofNat]; exact Nat.mod_eq_of_lt (by omega)
 show IntKind.u32.wrap ((BitVec.ofInt 32 (a : Int) &&& BitVec.ofInt 32 (b : Int)).toNat : Int) = _
 have h3 : ∀ n : Int, IntKind.u32.wrap n = n % 4294967296 := fun n => by simp [IntKind.wrap, IntKind.signed, IntKind.bits]
 rw [BitVec.toNat_and, h1, h2, h3]
 omega
theorem ziL (x a : Nat) (hx : x < 4294967296) (hx0 : x ≠ 0) (hlow : x &&& (4294967296 - x) = a) :
  bits BinOp.and IntKind.u32 (x : Int) (-(x : Int) % 4294967296) * 125613361 % 4294967296 / 134217728 = ((a * 125613361 % 4294967296 / 134217728 : Nat) : Int) := by
 have e1 : -(x : Int) % 4294967296 = ((4294967296 - x : Nat) : Int) := by omega
 rw [e1, zgo x _ hx (by omega), hlow]
 omega
theorem ziI (a0 r : Int) (w : World) (hT : zdT w) (h : zal.f a0 = some r) :
  Calls Tryz.prog 92 #[.int .u32 a0] w fun e w' => e = .returned (.int .i64 r) ∧ w' = w := by
 unfold zal.f at h
 split at h
 case isFalse => cases h
 rename_i hx
 obtain ⟨x, rfl⟩ := Int.eq_ofNat_of_zero_le hx.1
 obtain rfl := Option.some.inj h
 rw [Int.toNat_natCast]
 by_cases hx0 : x = 0
 ·subst hx0
  exact ziM w
 ·obtain ⟨hlow, hk⟩ := Lib.lowest_bit 32 x hx0 (by omega)
  obtain ⟨hi, htab⟩ := Lib.deBruijn32_at _ hk
  have hcell := hT _ hi
  rw [htab] at hcell
  exact ziJ x _ _ w (by simp; omega) (ziL x _ (by omega) hx0 hlow) hi hk hcell
theorem zal.ok : ∀ k, qR Tryz.prog zy 92 (zal.F k) := by
 intro k
 refine ⟨⟨Tryz.f92, qdS Tryz.f92, Tryz.func92, by kernel_rfl, by kernel_rfl⟩, rfl, rfl, fun M φ w args ls r hgl hc hr => ?_⟩
 have hlf := qas hr
 obtain ⟨x, rfl⟩ : ∃ x, ls = [.int .u32 x] := by
  clear hc hr
  obtain ⟨y, rfl⟩ := List.length_eq_one_iff.1 (qab hlf).1
  simp only [zal.F, qo, qA, qd, qF, Bool.and_true, List.append_nil] at hlf
  cases y <;> first | (cases hlf; done) | exact ⟨_, by rw [← qE hlf]⟩
 have hr : zal.f x = some r := hr
 have ha : args = #[.int .u32 x] := by
  have hs := hc.size
  have hs : args.size = 1 := hs
  have h1 := (hc.args 0 args[0] (by simp [hs])).1
  apply Array.ext
  ·simp [hs]
  ·intro i h1' h2'
   have : i = 0 := by simp at h2'; omega
   subst this
   exact h1
 have hT : zdT w := fun j hj => hc.rel.holds 0 j _ (hgl 0 j _ (by unfold zy; rw [if_pos ⟨rfl, hj⟩]))
 subst ha
 refine (ziI x r w hT hr).mono fun e w' h => ⟨_, h.1, rfl, M, φ, ⟨rfl, qbb _⟩, ?_, ?_, qr.refl φ⟩
 ·rw [h.2]; exact hc.rel
 ·rw [h.2]; exact Stp.refl M φ _ w
open Go.RowKit Go.Proofs
theorem zf6 : TOk Tryz.prog TT := qiG (by kernel_rfl)
theorem zgV : Tryz.prog.follows .mixedOrders = true := by kernel_rfl
abbrev Fo (n : Nat) (S : Sig) (f : Nat → Fn (qo S.ps) (Option S.R)) : Prop := ∀ k, qR Tryz.prog zy n ⟨S, f k⟩
theorem fo {n : Nat} {ps rs : List Kx} {f : Nat → Fn (qo ps) (Option (sg ps rs).R)} {G : Nat → List (Nat × List Fun)} {fn : Func}
  (nt : Nat) (hf : Tryz.prog.funcs[n]? = some fn) (gs : GP Tryz.prog zy G) (ds : List (List Bool) := []) (H : Nat → List (qaI (sg ps rs).R) := fun _ => []) (frz : List Nat := [])
  (hname : (fn.name == "runtime.NumGoroutine") = false := by kernel_rfl) (hbody : fn.body = some (qdS fn) := by kernel_rfl) (hnt : nt = fn.ntmps := by kernel_rfl) (hr : rs.all qan = true := by kernel_rfl)
  (hck : qch (qaV (sg ps rs)) (zc ds (H 0)) = true := by kernel_rfl)
  (h0 : qb5 (H 0) := by ((repeat (refine ⟨by ((repeat (intro _)); show _ = _; kernel_rfl), ?_⟩)); trivial))
  (hs : ∀ k, qcc (mkC TT zy G nt (zc ds (H 0)) frz k) (sg ps rs) (qdS fn) fn.results.toList (qaS (H k)) (zc ds (H 0)) (H (k + 1)) := by (intro k; (repeat (refine ⟨rfl, by ((repeat (intro _)); show _ = _; kernel_rfl), ?_⟩)); trivial))
  (he : ∀ k, qV (qo ps) (fun ls y => qeE (mkC TT zy G nt (zc ds (H 0)) frz k) (sg ps rs) (qdS fn) fn.results.toList (qaS (H k)) ls = y) (f k) := by ((repeat (intro _)); show _ = _; kernel_rfl)) : Fo n (sg ps rs) f :=
 qR.mk' zf6 zgV nt hf gs ds H frz hname hbody hnt hr hck h0 hs he
theorem zby.ok : Fo 6 (sg [] [.bx [.i .u32, .i .i32, .i .u32, .b, .is .u32, .i .i64, .b, .is .u32, .i .i64]]) fun _ => zby.f := fo 2 Tryz.func6 .z
theorem zh.ok : Fo 86 (sg [.ow .u32] [.ow .u32]) zh.f := fo 21 Tryz.func86 .z [[tt, ff, ff]] fun k => [⟨[(0, .ow .u32)], zh.l0 k⟩]
theorem zh.ok1 : Fo 86 (sg [.lf (.is .u32)] [.lf (.is .u32)]) zh.f := fo 21 Tryz.func86 .z [[tt, ff, ff]] fun k => [⟨[(0, .lf (.is .u32))], zh.l0 k⟩]
theorem zY.ok : Fo 71 (sg [.lf (.i .u64)] [.lf (.is .u32)]) zY.f := fo 10 Tryz.func71 (.t zh.ok zh.ok1 .z)
theorem zQ.ok : Fo 58 (sg [.lf (.is .u32)] [.lf (.b)]) fun _ => zQ.f := fo 20 Tryz.func58 .z
theorem zK.ok : Fo 77 (sg [.lf (.is .u32)] [.lf (.i .i64)]) zK.f := fo 23 Tryz.func77 (.o zQ.ok (.o zal.ok .z)) [[tt, tt, ff, tt, ff]] fun k => [⟨[(8, .lf (.is .u32)), (9, .lf (.i .i64)), (10, .lf (.i .i64))], zK.l0 k⟩]
theorem zR.ok : Fo 76 (sg [.lf (.is .u32), .lf (.i .i64)] [.lf (.is .u32)]) zR.f := fo 60 Tryz.func76 (.t zh.ok zh.ok1 .z) [[tt, tt, tt, tt, tt, ff, tt, ff]] fun k => [⟨[(0, .lf (.is .u32)), (5, .lf (.i .i64)), (6, .ow .u32), (23, .lf (.is .u32)), (24, .lf (.i .i64)), (25, .lf (.i .i64))], zR.l0 k⟩]
theorem zat.ok : Fo 76 (sg [.lf (.is .u32), .lf (.i .i64)] [.ow .u32]) zat.f := fo 60 Tryz.func76 (.t zh.ok zh.ok1 .z) [[tt, tt, tt, tt, tt, ff, tt, ff]] fun k => [⟨[(0, .lf (.is .u32)), (5, .lf (.i .i64)), (6, .ow .u32), (23, .lf (.is .u32)), (24, .lf (.i .i64)), (25, .lf (.i .i64))], zat.l0 k⟩]
theorem zO.ok : Fo 75 (sg [.lf (.i .u32)] [.lf (.i .i64)]) zO.f := fo 19 Tryz.func75 .z [[tt, tt], [tt, tt, tt]] fun k => [⟨[(0, .lf (.i .u32)), (2, .lf (.i .i64))], zO.j0 k⟩, ⟨[(0, .lf (.i .u32)), (2, .lf (.i .i64))], zO.j1 k⟩]
theorem z9.ok : Fo 60 (sg [.lf (.is .u32)] [.lf (.i .i64)]) z9.f := fo 23 Tryz.func60 (.o zQ.ok (.o zO.ok .z))
theorem zZ.ok : Fo 78 (sg [.lf (.is .u32), .lf (.i .i64)] [.ow .u32]) zZ.f := fo 50 Tryz.func78 (.t zh.ok zh.ok1 .z) [[tt, tt, tt, tt, ff, tt, ff]] fun k => [⟨[(5, .ow .u32), (6, .lf (.i .i64)), (7, .lf (.i .u32)), (24, .lf (.is .u32)), (25, .lf (.i .i64)), (26, .lf (.i .i64))], zZ.l0 k⟩]
theorem zC.ok : Fo 62 (sg [.lf (.is .u32), .lf (.i .i64)] [.lf (.is .u32), .lf (.b), .lf (.i .i64)]) zC.f := fo 39 Tryz.func62 (.o zQ.ok (.o z9.ok (.o zR.ok (.o zK.ok (.o zZ.ok .z)))))
theorem zbP.ok : Fo 62 (sg [.lf (.is .u32), .lf (.i .i64)] [.ow .u32, .lf (.b), .lf (.i .i64)]) zbP.f := fo 39 Tryz.func62 (.o zQ.ok (.o z9.ok (.o zat.ok (.o zK.ok (.o zZ.ok .z)))))
theorem zz.ok : Fo 63 (sg [.lf (.b), .lf (.is .u32), .lf (.i .i64)] [.ag [.b, .is .u32, .i .i64], .lf (.i .i64)]) zz.f := fo 47 Tryz.func63 (.o zQ.ok (.o zC.ok (.o zK.ok .z)))
theorem zbG.ok : Fo 63 (sg [.lf (.b), .lf (.is .u32), .lf (.i .i64)] [.ao [.b] .u32 [.i .i64], .lf (.i .i64)]) zbG.f := fo 47 Tryz.func63 (.o zQ.ok (.o zbP.ok (.o zK.ok .z)))
theorem zaD.ok : Fo 54 (sg [.lf (.i .i64)] [.ag [.b, .is .u32, .i .i64]]) zaD.f := fo 21 Tryz.func54 (.o zz.ok (.o zY.ok .z)) [[tt, tt, tt]] fun k => [⟨[(0, .lf (.i .i64)), (2, .bx [.b, .is .u32, .i .i64]), (3, .lf (.i .u64))], zaD.j0 k⟩]
theorem zL.ok : Fo 83 (sg [.lf (.rw [.is .u32])] [.lf (.b)]) zL.f := fo 15 Tryz.func83 (.o zQ.ok .z) [[tt, ff, tt, ff]] fun k => [⟨[(5, .lf (.rw [.is .u32])), (6, .lf (.i .i64)), (7, .lf (.i .i64))], zL.l0 k⟩]
theorem zaa.ok : Fo 87 (sg [.lf (.is .u32), .lf (.is .u32)] [.lf (.i .i64)]) zaa.f := fo 43 Tryz.func87 .z [[tt, tt, ff, tt, ff]] fun k => [⟨[(0, .lf (.is .u32)), (1, .lf (.is .u32)), (5, .lf (.i .i64))], zaa.l0 k⟩]
theorem zbt.ok : Fo 101 (sg [.lf (.i .u32), .lf (.i .u32), .lf (.i .u32)] [.lf (.i .u32), .lf (.i .u32)]) fun _ => zbt.f := fo 33 Tryz.func101 .z
theorem zau.ok : Fo 88 (sg [.lf (.is .u32), .lf (.i .u32)] [.lf (.is .u32), .lf (.i .u32)]) zau.f := fo 35 Tryz.func88 (.t zh.ok zh.ok1 (.o zbt.ok .z)) [[tt, tt, tt, ff, tt, ff]] fun k => [⟨[(0, .lf (.is .u32)), (1, .lf (.i .u32)), (6, .ow .u32), (7, .lf (.i .u32)), (8, .lf (.i .i64))], zau.l0 k⟩]
theorem zbu.ok : Fo 102 (sg [.lf (.i .u32)] [.lf (.i .i64)]) zbu.f := fo 6 Tryz.func102 (.o zO.ok .z)
theorem zaO.ok : Fo 115 (sg [.lf (.i .u32), .lf (.i .u32), .lf (.i .u32)] [.lf (.i .u32), .lf (.i .u32)]) fun _ => zaO.f := fo 25 Tryz.func115 .z
theorem zaX.ok : Fo 116 (sg [.lf (.i .u32), .lf (.i .u32), .lf (.i .u32)] [.lf (.i .u32), .lf (.i .u32)]) fun _ => zaX.f := fo 22 Tryz.func116 .z
theorem zo.ok : Fo 103 (sg [.bo .u32, .lf (.is .u32)] [.lf (.i .u32)]) zo.f := fo 160 Tryz.func103 (.o zaO.ok (.o zaX.ok .z)) [[tt, tt, tt, tt, ff, ff], [tt, tt, tt, tt, tt, tt, ff, tt, ff], [tt, tt, tt, tt, tt, tt, tt, tt, tt, tt, ff, tt, ff]] fun k => [⟨[(0, .bo .u32), (1, .lf (.is .u32)), (5, .lf (.i .i64)), (7, .lf (.i .u64)), (8, .lf (.i .u64))], zo.l0 k⟩, ⟨[(0, .bo .u32), (1, .lf (.is .u32)), (5, .lf (.i .i64)), (7, .lf (.i .u64)), (9, .lf (.i .u32)), (10, .lf (.i .u64)), (81, .lf (.is .u32)), (82, .lf (.i .i64)), (83, .lf (.i .i64))], zo.l1 k⟩, ⟨[(0, .bo .u32), (5, .lf (.i .i64)), (7, .lf (.i .u64)), (13, .lf (.i .u32)), (129, .lf (.is .u32)), (130, .lf (.i .i64)), (131, .lf (.i .i64))], zo.l2 k⟩]
theorem zM.ok : Fo 89 (sg [.lf (.is .u32), .lf (.is .u32)] [.lf (.is .u32), .lf (.is .u32)]) zM.f := fo 68 Tryz.func89 (.o zR.ok (.o zZ.ok (.t zh.ok zh.ok1 (.o zbu.ok (.o zo.ok .z))))) [[tt, tt, tt, tt, ff, ff], [tt, tt, tt, tt, tt, tt, tt, ff, tt, ff]] fun k => [⟨[(0, .lf (.is .u32)), (6, .lf (.i .i64)), (7, .ow .u32), (8, .ow .u32)], zM.l0 k⟩, ⟨[(6, .lf (.i .i64)), (7, .ow .u32), (8, .ow .u32), (9, .lf (.i .i64)), (10, .ow .u32), (11, .lf (.i .i64))], zM.l1 k⟩]
theorem za2.ok : Fo 72 (sg [.lf (.is .u32), .lf (.is .u32)] [.lf (.is .u32), .lf (.is .u32), .lf (.i .i64)]) za2.f := fo 49 Tryz.func72 (.o zL.ok (.t zh.ok zh.ok1 (.o zaa.ok (.o zau.ok (.o zM.ok .z)))))
theorem zbz.ok : Fo 73 (sg [.ag [.i .i64, .i .u64]] [.lf (.b)]) fun _ => zbz.f := fo 11 Tryz.func73 .z
theorem zb6.ok : Fo 59 (sg [.lf (.i .i64)] [.lf (.b)]) fun _ => zb6.f := fo 9 Tryz.func59 .z
theorem zaE.ok : Fo 46 (sg [.ag [.b, .is .u32, .i .i64]] [.lf (.b)]) fun _ => zaE.f := fo 30 Tryz.func46 (.o zQ.ok (.o zb6.ok .z))
theorem zah.ok : Fo 69 (sg [.lf (.rw [.b, .is .u32, .i .i64])] [.lf (.b)]) zah.f := fo 15 Tryz.func69 (.o zaE.ok .z) [[tt, ff, tt, ff]] fun k => [⟨[(5, .lf (.rw [.b, .is .u32, .i .i64])), (6, .lf (.i .i64)), (7, .lf (.i .i64))], zah.l0 k⟩]
theorem zaI.ok : Fo 61 (sg [.ag [.b, .is .u32, .i .i64]] [.ag [.b, .is .u32, .i .i64]]) fun _ => zaI.f := fo 8 Tryz.func61 .z
theorem zb7.ok : Fo 61 (sg [.ag [.b, .is .u32, .i .i64]] [.ao [.b] .u32 [.i .i64]]) fun _ => zb7.f := fo 8 Tryz.func61 .z
theorem zS.ok : Fo 117 (sg [.lf (.is .u32), .lf (.is .u32)] [.lf (.is .u32)]) zS.f := fo 41 Tryz.func117 (.t zh.ok zh.ok1 (.o zaO.ok .z)) [[tt, tt, tt, ff, tt, ff], [tt, tt, tt, ff, tt, ff, ff, tt, tt, ff, ff, tt, tt, tt]] fun k => [⟨[(0, .lf (.is .u32)), (1, .lf (.is .u32)), (5, .ow .u32), (6, .lf (.i .u32)), (13, .lf (.i .i64)), (14, .lf (.i .i64))], zS.l0 k⟩, ⟨[(0, .lf (.is .u32)), (1, .lf (.is .u32)), (5, .ow .u32), (6, .lf (.i .u32)), (7, .lf (.i .i64)), (8, .lf (.i .u32)), (13, .lf (.i .i64)), (14, .lf (.i .i64))], zS.j1 k⟩]
theorem zaR.ok : Fo 104 (sg [.lf (.is .u32), .lf (.is .u32)] [.lf (.is .u32), .lf (.i .i64)]) zaR.f := fo 18 Tryz.func104 (.o zL.ok (.o zaa.ok (.o zS.ok .z)))
theorem zaj.ok : Fo 84 (sg [.ow .u32] [.ow .u32, .lf (.i .i64)]) fun _ => zaj.f := fo 8 Tryz.func84 .z
theorem zaj.ok1 : Fo 84 (sg [.lf (.is .u32)] [.lf (.is .u32), .lf (.i .i64)]) fun _ => zaj.f := fo 8 Tryz.func84 .z
theorem zp.ok : Fo 105 (sg [.lf (.is .u32), .lf (.is .u32)] [.lf (.is .u32), .lf (.i .i64)]) zp.f := fo 63 Tryz.func105 (.o zL.ok (.t zaj.ok zaj.ok1 (.t zh.ok zh.ok1 (.o zaX.ok .z)))) [[tt, tt, tt, tt, tt, ff, tt, ff], [tt, tt, tt], [tt, tt, tt, tt, tt, ff, tt, ff, ff, tt, tt, ff, ff, tt, tt, tt]] fun k => [⟨[(0, .lf (.is .u32)), (1, .lf (.is .u32)), (6, .ow .u32), (7, .lf (.i .u32)), (27, .lf (.i .i64)), (28, .lf (.i .i64))], zp.l0 k⟩, ⟨[(0, .lf (.is .u32)), (1, .lf (.is .u32))], zp.j1 k⟩, ⟨[(0, .lf (.is .u32)), (1, .lf (.is .u32)), (6, .ow .u32), (7, .lf (.i .u32)), (8, .lf (.i .i64)), (9, .lf (.i .u32)), (27, .lf (.i .i64)), (28, .lf (.i .i64))], zp.j3 k⟩]
theorem zcr.ok : Fo 90 (sg [.ag [.b, .is .u32, .i .i64], .ag [.b, .is .u32, .i .i64], .lf (.i .i64)] [.ag [.b, .is .u32, .i .i64], .lf (.i .i64)]) zcr.f := fo 97 Tryz.func90 (.o z9.ok (.o zC.ok (.o zz.ok (.o zY.ok (.o zK.ok (.o zaR.ok (.o zp.ok .z)))))))
theorem zba.ok : Fo 106 (sg [.lf (.b), .lf (.is .u32), .lf (.is .u32), .lf (.i .i64)] [.ag [.b, .is .u32, .i .i64], .lf (.i .i64)]) zba.f := fo 64 Tryz.func106 (.o zC.ok (.o zz.ok (.o zY.ok (.o zp.ok .z)))) [[tt, tt, tt, tt, tt, tt]] fun k => [⟨[(0, .lf (.b)), (3, .lf (.i .i64)), (8, .bx [.b, .is .u32, .i .i64]), (16, .lf (.is .u32))], zba.j1 k⟩]
theorem zbN.ok : Fo 107 (sg [.lf (.is .u32), .lf (.is .u32)] [.lf (.i .i64), .lf (.i .i64)]) zbN.f := fo 14 Tryz.func107 (.o zL.ok (.o zaa.ok .z))
theorem zaH.ok : Fo 91 (sg [.lf (.b), .lf (.is .u32), .lf (.b), .lf (.is .u32), .lf (.i .i64)] [.ag [.b, .is .u32, .i .i64], .lf (.i .i64)]) zaH.f := fo 65 Tryz.func91 (.o zz.ok (.o zaR.ok (.o zp.ok (.o zba.ok (.o zbN.ok .z))))) [[tt, tt, tt]] fun k => [⟨[(0, .lf (.b)), (1, .lf (.is .u32)), (3, .lf (.is .u32)), (4, .lf (.i .i64)), (10, .bx [.b, .is .u32, .i .i64])], zaH.j2 k⟩]
theorem zaF.ok : Fo 74 (sg [.ag [.b, .is .u32, .i .i64], .ag [.b, .is .u32, .i .i64]] [.ag [.b, .is .u32, .i .i64], .lf (.i .i64)]) zaF.f := fo 79 Tryz.func74 (.o z9.ok (.o zaI.ok (.o zC.ok (.o zcr.ok (.o zaH.ok .z))))) [[tt, tt, tt]] fun k => [⟨[(2, .bx [.b, .is .u32, .i .i64]), (3, .bx [.b, .is .u32, .i .i64]), (4, .bx [.b, .is .u32, .i .i64])], zaF.j1 k⟩]
theorem zaZ.ok : Fo 56 (sg [.ag [.b, .is .u32, .i .i64], .ag [.b, .is .u32, .i .i64]] [.ag [.b, .is .u32, .i .i64], .lf (.i .i64)]) zaZ.f := fo 17 Tryz.func56 (.o zah.ok (.o zaF.ok .z))
theorem zI.ok : Fo 55 (sg [.ag [.i .i64, .i .u64], .lf (.i .i64)] [.ag [.b, .is .u32, .i .i64]]) zI.f := fo 79 Tryz.func55 (.o zaZ.ok (.o zC.ok (.o zz.ok (.o zY.ok (.o za2.ok (.o zbz.ok .z)))))) [[tt, tt, tt, tt, ff, tt, ff], [tt, tt, tt, tt, ff, tt, ff, ff, tt, ff, ff, tt, tt]] fun k => [⟨[(2, .bx [.i .i64, .i .u64]), (4, .bx [.b, .is .u32, .i .i64]), (8, .lf (.is .u32)), (11, .bx [.b, .is .u32, .i .i64]), (12, .lf (.i .u64))], zI.l0 k⟩, ⟨[(2, .bx [.i .i64, .i .u64]), (4, .bx [.b, .is .u32, .i .i64]), (8, .lf (.is .u32)), (11, .bx [.b, .is .u32, .i .i64]), (12, .lf (.i .u64)), (16, .bx [.b, .is .u32, .i .i64])], zI.j1 k⟩]
theorem zA.ok : Fo 85 (sg [.lf (.is .u32), .lf (.is .u32)] [.lf (.is .u32)]) zA.f := fo 68 Tryz.func85 (.t zh.ok zh.ok1 .z) [[tt, tt, ff, tt, ff], [tt, tt, ff, tt, ff, ff, tt, tt, ff, ff, tt, tt, ff, tt, ff]] fun k => [⟨[(1, .lf (.is .u32)), (5, .ow .u32), (18, .lf (.is .u32)), (19, .lf (.i .i64)), (20, .lf (.i .i64))], zA.l0 k⟩, ⟨[(1, .lf (.is .u32)), (5, .ow .u32), (6, .lf (.i .i64)), (7, .lf (.i .u32)), (8, .lf (.i .u64)), (18, .lf (.is .u32)), (19, .lf (.i .i64)), (20, .lf (.i .i64)), (25, .lf (.is .u32)), (26, .lf (.i .i64)), (27, .lf (.i .i64))], zA.l1 k⟩]
theorem zbO.ok : Fo 70 (sg [.lf (.is .u32), .lf (.is .u32)] [.lf (.is .u32), .lf (.i .i64)]) zbO.f := fo 34 Tryz.func70 (.o zL.ok (.t zaj.ok zaj.ok1 (.o zA.ok .z)))
theorem zbe.ok : Fo 53 (sg [.ag [.b, .is .u32, .i .i64], .ag [.b, .is .u32, .i .i64]] [.ag [.b, .is .u32, .i .i64], .lf (.i .i64)]) zbe.f := fo 40 Tryz.func53 (.o zz.ok (.o zah.ok (.o zbO.ok .z)))
theorem zbH.ok : Fo 57 (sg [.ag [.b, .is .u32, .i .i64], .lf (.i .i64)] [.ag [.b, .is .u32, .i .i64], .lf (.i .i64)]) fun _ => zbH.f := fo 39 Tryz.func57 (.o zaE.ok (.o zaI.ok .z))
theorem zH.ok : Fo 45 (sg [.lf (.i .i64), .lf (.rw [.i .i64, .i .u64])] [.ag [.b, .is .u32, .i .i64]]) zH.f := fo 42 Tryz.func45 (.o zbe.ok (.o zaD.ok (.o zI.ok (.o zaZ.ok (.o zbH.ok .z))))) [[tt, tt, ff, tt, ff]] fun k => [⟨[(0, .lf (.i .i64)), (4, .bx [.b, .is .u32, .i .i64]), (5, .bx [.b, .is .u32, .i .i64]), (11, .lf (.rw [.i .i64, .i .u64])), (12, .lf (.i .i64)), (13, .lf (.i .i64))], zH.l0 k⟩]
set_option maxHeartbeats 1600000
theorem zex (w : World) : (callFunc 93 #[]).run Tryz.prog w = .ok (.value (.tuple #[])) w := run_call_mark0 Tryz.func93 (by kernel_rfl) (by kernel_rfl) (by kernel_rfl) .disable (by kernel_rfl) w
theorem zeF (w : World) : (callFunc 95 #[]).run Tryz.prog w = .ok (.value (.tuple #[])) w := run_call_mark0 Tryz.func95 (by kernel_rfl) (by kernel_rfl) (by kernel_rfl) .enable (by kernel_rfl) w
theorem zga (a : Addr) (w : World) : (callFunc 96 #[.pointer (some a)]).run Tryz.prog w = .ok (.value (.tuple #[])) w := run_call_marked Tryz.func96 (by kernel_rfl) (by kernel_rfl) (by kernel_rfl) .acquire (by kernel_rfl) a w
theorem zid (a : Addr) (w : World) : (callFunc 98 #[.pointer (some a)]).run Tryz.prog w = .ok (.value (.tuple #[])) w := run_call_marked Tryz.func98 (by kernel_rfl) (by kernel_rfl) (by kernel_rfl) .releaseMerge (by kernel_rfl) a w
theorem ziu (a : Addr) (x : Value) (u : FrameMode) (w : World) (hc : w.cell? a = some x) (hz : w.frozen? a = false) :
  CallsD Tryz.prog 68 #[.pointer (some a), .bool true] u w fun e u' w' => u' = u ∧ (e = .returned (.tuple #[]) ∧ w' = w.drew.setCell a (.int .u32 1)) := by
 have hc' : w.drew.cell? a = some x := by go_simp
 have hz' : w.drew.frozen? a = false := by go_simp
 have hst := run_call_store (P := Tryz.prog) Tryz.func81 (by kernel_rfl) (by kernel_rfl) (by kernel_rfl) (by kernel_rfl) (k := .u32) (y := 1) hc' hz'
 go_enter_d Tryz.func68, Tryz.ntmps68
 go_wp2
 go_region_calls
 all_goals (go_end0; exact ⟨rfl, rfl⟩)
theorem ziO (a : Addr) (w : World) (hc : w.cell? a = some (.int .i32 1)) (hz : w.frozen? a = false) :
  Calls Tryz.prog 80 #[.pointer (some a)] w fun e w' => e = .returned (.tuple #[]) ∧ w' = w.setCell a (.int .i32 0) := by
 have hd := zex
 have he := zeF
 have hr := zid
 have hadd := run_call_add (P := Tryz.prog) Tryz.func99 (by kernel_rfl) (by kernel_rfl) (by kernel_rfl) .i32 (by kernel_rfl) (y := -1) (s := 0) hc hz (by simp [go_sem]; rfl)
 have hcv := run_convert_to_unsafe (P := Tryz.prog) (src := 118) (dst := 122) Tryz.underlying118 Tryz.underlying122 (by kernel_rfl) hc
 go_enter Tryz.func80, Tryz.ntmps80
 go_wp2
 go_end0
 exact ⟨rfl, rfl⟩
theorem ziN (a : Addr) (u : FrameMode) (w : World) (hc : w.cell? a = some (.int .i32 1)) (hz : w.frozen? a = false) :
  CallsD Tryz.prog 67 #[.pointer (some a)] u w fun e u' w' => u' = u ∧ (e = .returned (.tuple #[]) ∧ w' = w.setCell a (.int .i32 0)) := by
 go_enter_d Tryz.func67, Tryz.ntmps67
 go_wp2_with (go_at_call 80; refine (ziO _ _ (by go_simp) (by go_simp)).mono ?_; rintro e w' ⟨rfl, rfl⟩)
 go_end0
 exact ⟨rfl, rfl⟩
theorem zhh (a : Addr) (w : World) (hc : w.cell? a = some (.int .i32 0)) (hz : w.frozen? a = false) :
  Calls Tryz.prog 79 #[.pointer (some a)] w fun e w' => e = .returned (.tuple #[]) ∧ w' = w.setCell a (.int .i32 1) := by
 have hd := zex
 have he := zeF
 have ha := zga
 have hcas := run_call_cas_hit (P := Tryz.prog) Tryz.func94 (by kernel_rfl) (by kernel_rfl) (by kernel_rfl) .i32 (by kernel_rfl) (y := 1) hc hz
 have hc' : (w.setCell a (.int .i32 1)).cell? a = some (.int .i32 1) := World.cell?_setCell_same w a _ hc
 have hcv := run_convert_to_unsafe (P := Tryz.prog) (src := 118) (dst := 122) Tryz.underlying118 Tryz.underlying122 (by kernel_rfl) hc'
 go_enter Tryz.func79, Tryz.ntmps79
 go_wp2
 first | go_end0 | (simp only [Exit.inBlock, Exit.then]; refine bodyPost_ret (results_none rfl _ _ _) rfl ?_) | refine bodyPost_ret (results_none rfl _ _ _) rfl ?_
 exact ⟨rfl, rfl⟩
theorem zhg (a : Addr) (w : World) (hc : w.cell? a = some (.int .i32 0)) (hz : w.frozen? a = false) :
  Calls Tryz.prog 66 #[.pointer (some a)] w fun e w' => e = .returned (.tuple #[]) ∧ w' = w.setCell a (.int .i32 1) := by
 go_enter Tryz.func66, Tryz.ntmps66
 go_wp2_with (go_at_call 79; refine (zhh _ _ (by go_simp) (by go_simp)).mono ?_; rintro e w' ⟨rfl, rfl⟩)
 go_end0
 exact ⟨rfl, rfl⟩
theorem zc3 (a : Addr) (x : Int) (w : World) (hc : w.cell? a = some (.int .u32 x)) :
  Calls Tryz.prog 51 #[.pointer (some a)] w fun e w' => e = .returned (.bool (x != 0)) ∧ w' = w := by
 have hl := run_call_load (P := Tryz.prog) Tryz.func65 (by kernel_rfl) (by kernel_rfl) (by kernel_rfl) .u32 (by kernel_rfl) hc
 go_enter Tryz.func51, Tryz.ntmps51
 go_wp2
 go_ret
 exact ⟨rfl, rfl⟩
def Nw (n : Nat) (M : Mem) (w : World) : Mem := fun b o => if b < n then M b o else qb0 w b o
theorem Nw.mono {n : Nat} {M : Mem} {X : Nat → Nat → Prop} {w w' : World} (h : Kp X w w') (hX : ∀ b o, X b o → b < n) : Ext (Nw n M w) (Nw n M w') := by
 intro b o v hv
 unfold Nw at hv ⊢
 by_cases hb : b < n
 ·rwa [if_pos hb] at hv ⊢
 ·rw [if_neg hb] at hv ⊢
  exact h.cell b o v hv fun hx => hb (hX b o hx)
theorem Nw.ext {n : Nat} {M : Mem} (w : World) (hlow : ∀ b o v, M b o = some v → b < n) : Ext M (Nw n M w) := by
 intro b o v hv
 unfold Nw
 rwa [if_pos (hlow b o v hv)]
theorem Nw.holds {n : Nat} {M : Mem} {w : World} (h : qdG M w) : qdG (Nw n M w) w := by
 intro b o v hv
 unfold Nw at hv
 by_cases hb : b < n
 ·rw [if_pos hb] at hv; exact h b o v hv
 ·rwa [if_neg hb] at hv
abbrev zaS : Sig := sg [.lf (.i .i64), .lf (.rw [.i .i64, .i .u64])] [.ag [.b, .is .u32, .i .i64]]
theorem ziy {f : Int → List (Int × Int) → Option (Bool × List Int × Int)} (ok : qR Tryz.prog zy 45 ⟨zaS, f⟩) {M : Mem} {n : Nat} {w : World} (h0 : Ext zy M) (hM : qdG M w)
  (hn : n ≤ w.heap.size) (hlow : ∀ b o v, M b o = some v → b < n) {bits : Int} {l : List (Int × Int)} {sl : Value} (hl : qb8 (Nw n M w) [.i .i64, .i .u64] l sl)
  {r : Bool × List Int × Int} (hr : f bits l = some r) :
  Calls Tryz.prog 45 #[.int .i64 bits, sl] w fun e w' => ∃ s, e = .returned (.agg #[.bool r.1, s, .int .i64 r.2.2]) ∧ qbm (Nw n M w') .u32 r.2.1 s ∧ Kp (fun _ _ => False) w w' := by
 have hrel : Rel (Nw n M w) (fun _ => none) (qc (Ent zaS [.int .i64 bits, .rows [.i .i64, .i .u64] l]).O) w := by
  refine ⟨Nw.holds hM, ?_, ?_, ?_⟩
  ·intro id p h; cases h
  ·intro id p h; cases h
  ·intro id id' p p' _ h; cases h
 refine (ok.call (Nw n M w) (fun _ => none) w _ [.int .i64 bits, .rows [.i .i64, .i .u64] l] r (h0.trans (Nw.ext w hlow)) ⟨hrel, rfl, ?_, fun _ _ => rfl⟩ ?_).mono fun e w' h => ?_
 ·intro i v hv
  match i, hv with
  | 0, hv => cases hv; exact ⟨rfl, fun h => by cases h⟩
  | 1, hv => cases hv; exact hl
  | i + 2, hv => simp at hv
 ·exact hr
 ·obtain ⟨v, he, _, M', φ', hrv, hrel', hst, _⟩ := h
  obtain ⟨a, ha, hsz, hat⟩ := hrv
  have hk : Kp (fun _ _ => False) w w' := by
   have := hst.kept
   have e : qK (fun _ => none) (qc (Ent zaS [.int .i64 bits, .rows [.i .i64, .i .u64] l]).O) = fun _ _ => False := by
    funext b o; exact eq_false qhg
   rwa [e] at this
  obtain ⟨u0, h0, r0⟩ := hat 0 _ rfl
  obtain ⟨u1, h1, r1⟩ := hat 1 _ rfl
  obtain ⟨u2, h2, r2⟩ := hat 2 _ rfl
  refine ⟨u1, ?_, ?_, hk⟩
  ·rw [he, ha]
   congr 2
   refine Array.ext (by rw [hsz]; rfl) fun i hi1 hi2 => ?_
   have r0' : u0 = .bool r.1 := r0
   have r2' : u2 = .int .i64 r.2.2 := r2.1
   match i, hi2 with
   | 0, _ => rw [r0'] at h0; exact (Array.getElem?_eq_some_iff.1 h0).2
   | 1, _ => exact (Array.getElem?_eq_some_iff.1 h1).2
   | 2, _ => rw [r2'] at h2; exact (Array.getElem?_eq_some_iff.1 h2).2
   | i + 3, h => exact absurd h (by simp)
  ·refine qbm.mono ?_ r1
   intro b o v hv
   unfold Nw
   by_cases hb : b < n
   ·rw [if_pos hb]
    rcases hst.new b o v hv with x | x | x
    ·unfold Nw at x; rwa [if_pos hb] at x
    ·exact absurd x qhg
    ·omega
   ·rw [if_neg hb]; exact hrel'.holds b o v hv
theorem zaM {X : Nat → Nat → Prop} {a b c : World} (h : Kp X a b) (k : Kp X b c) : Kp X a c := h.trans k fun _ _ h => .inl h
theorem qbm.one {M : Mem} {k : IntKind} {l : List Int} {v : Value} (h : qbm M k l v) : v.oneCell' = true := by
 obtain ⟨_, ⟨rfl, _⟩ | ⟨b, o, cap, rfl, _⟩⟩ := h <;> rfl
theorem ziv {P : Program} {w : World} {a : Addr} {v x : Value} (hv : v.oneCell' = true) (h : w.cell? a = some x) (hz : w.frozen? a = false) : (store a v).run P w = .ok () (w.setCell a v) := by
 rw [run_store P w a v _ hv, h]
 simp [hz]
def st3 (w : World) (b o : Nat) (x y z : Value) : World := ((w.setCell ⟨b, o, none⟩ x).setCell ⟨b, o + 1, none⟩ y).setCell ⟨b, o + 2, none⟩ z
theorem zfy {w : World} {b o : Nat} {x y z u0 u1 u2 : Value} (h0 : w.cell? ⟨b, o, none⟩ = some u0) (h1 : w.cell? ⟨b, o + 1, none⟩ = some u1) (h2 : w.cell? ⟨b, o + 2, none⟩ = some u2) :
  (st3 w b o x y z).cell? ⟨b, o, none⟩ = some x ∧ (st3 w b o x y z).cell? ⟨b, o + 1, none⟩ = some y ∧ (st3 w b o x y z).cell? ⟨b, o + 2, none⟩ = some z := by
 have := World.cell?_setCells_in b [x, y, z] o w (fun i hi => by
  match i, hi with
  | 0, _ => rw [Nat.add_zero, h0]; rfl
  | 1, _ => rw [h1]; rfl
  | 2, _ => rw [h2]; rfl)
 exact ⟨this 0 (by simp), this 1 (by simp), this 2 (by simp)⟩
theorem zcI {w : World} {b o : Nat} {x y z : Value} {X : Nat → Nat → Prop} (h : ∀ j, j < 3 → X b (o + j)) : Kp X w (st3 w b o x y z) :=
 qia (w := w) (b := b) (o := o) (vs := [x, y, z]) h
theorem zbT (w : World) (b o : Nat) (x y z : Value) (a : Addr) : (st3 w b o x y z).frozen? a = w.frozen? a := World.frozen?_setCells b [x, y, z] o w a
theorem zfE {f : Int → List (Int × Int) → Option (Bool × List Int × Int)} (ok : qR Tryz.prog zy 45 ⟨zaS, f⟩) {M : Mem} {n : Nat} {X : Nat → Nat → Prop} {w W : World} (h0 : Ext zy M) (hM : qdG M w)
  (hn : n ≤ w.heap.size) (hlow : ∀ b o v, M b o = some v → b < n) (hk : Kp X w W) (hX : ∀ b o, X b o → M b o = none) {bits : Int} {l : List (Int × Int)} {sl : Value} (hl : qb8 (Nw n M W) [.i .i64, .i .u64] l sl)
  {r : Bool × List Int × Int} (hr : f bits l = some r) :
  Calls Tryz.prog 45 #[.int .i64 bits, sl] W fun e w' => ∃ s, e = .returned (.agg #[.bool r.1, s, .int .i64 r.2.2]) ∧ qbm (Nw n M w') .u32 r.2.1 s ∧ Kp (fun _ _ => False) W w' ∧ Kp X w w' := by
 refine (ziy ok h0 (M := M) (n := n) ?_ (Nat.le_trans hn hk.size) hlow hl hr).mono ?_
 ·intro b o v hv
  refine hk.cell b o v (hM b o v hv) fun hx => ?_
  rw [hX b o hx] at hv; cases hv
 ·rintro e w' ⟨s, h1, h2, h3⟩
  exact ⟨s, h1, h2, h3, zaM hk (h3.mono fun _ _ h => h.elim)⟩
theorem zfj {n : Nat} {M : Mem} {w : World} (hn : n ≤ w.heap.size) (l : List (Int × Int)) {cs : Array Value} (h : ∀ (i : Nat) x, l[i]? = some x → cs[i * 2]? = some (.int .i64 x.1) ∧ cs[i * 2 + 1]? = some (.int .u64 x.2) ∧ 0 ≤ x.2) :
  qb8 (Nw n M (w.alloc (.cells cs 82))) [.i .i64, .i .u64] l (.slice (some ⟨w.heap.size, 0, none⟩) l.length l.length) := by
 refine .inr ⟨_, _, _, rfl, Nat.le_refl _, fun i x hx j y hy => ?_⟩
 obtain ⟨a1, a2, a3⟩ := h i x hx
 have e : ∀ o v, cs[o]? = some v → Nw n M (w.alloc (.cells cs 82)) w.heap.size o = some v := fun o v hv => by
  unfold Nw qb0
  rw [if_neg (by omega)]
  simpa using hv
 match j, hy with
 | 0, hy => cases hy; exact ⟨_, e _ _ (by rw [← a1]; congr 1; simp), rfl, fun h => by cases h⟩
 | 1, hy => cases hy; exact ⟨_, e _ _ (by rw [← a2]; congr 1; simp), rfl, fun _ => a3⟩
 | j + 2, hy => simp [tpV] at hy
theorem zgW {a b : Int × Int} {p : Nat → Int × Int → Prop} (h0 : p 0 a) (h1 : p 1 b) : ∀ (i : Nat) x, [a, b][i]? = some x → p i x
 | 0, x, h => by cases h; exact h0
 | 1, x, h => by cases h; exact h1
 | i + 2, x, h => by simp at h
theorem zgX {a b c : Int × Int} {p : Nat → Int × Int → Prop} (h0 : p 0 a) (h1 : p 1 b) (h2 : p 2 c) : ∀ (i : Nat) x, [a, b, c][i]? = some x → p i x
 | 0, x, h => by cases h; exact h0
 | 1, x, h => by cases h; exact h1
 | 2, x, h => by cases h; exact h2
 | i + 3, x, h => by simp at h
theorem zbA {w W w' : World} (g : qt w W) (k : Kp (fun _ _ => False) W w') {b o : Nat} {v : Value} (h : w.cell? ⟨b, o, none⟩ = some v) (hz : w.frozen? ⟨b, o, none⟩ = false) :
  w'.cell? ⟨b, o, none⟩ = some v ∧ w'.frozen? ⟨b, o, none⟩ = false :=
 ⟨k.cell _ _ _ (g.cell h) fun h => h, by rw [k.froz _ _ _ (g.cell h) fun h => h, g.froz h]; exact hz⟩
theorem mid {w' : World} {b o : Nat} {x s u1 : Value} (hs : s.oneCell' = true)
  (h1 : w'.cell? ⟨b, o + 1, none⟩ = some u1 ∧ w'.frozen? ⟨b, o + 1, none⟩ = false) (P : Program) :
  Sem.run P (store ⟨b, o + 1, none⟩ s) (w'.setCell ⟨b, o, none⟩ x) = .ok () ((w'.setCell ⟨b, o, none⟩ x).setCell ⟨b, o + 1, none⟩ s) :=
 ziv hs ((World.cell?_setCell_other _ ⟨b, o, none⟩ ⟨b, o + 1, none⟩ _ (by simp)).trans h1.1) (by rw [← h1.2]; exact World.frozen?_setCells b [x] o w' ⟨b, o + 1, none⟩)
def BX (b off m : Nat) : Nat → Nat → Prop := fun b' o => b' = b ∧ off + 3 ≤ o ∧ o < off + m
def zcj (n : Nat) (M : Mem) (P Q : Bool × List Int × Int) (w : World) (b off : Nat) (w' : World) : Prop := ∃ s t, qbm (Nw n M w') .u32 P.2.1 s ∧ qbm (Nw n M w') .u32 Q.2.1 t ∧ Kp (BX b off 9) w w' ∧
      (w'.cell? ⟨b, off + 3, none⟩ = some (.bool P.1) ∧ w'.cell? ⟨b, off + 3 + 1, none⟩ = some s ∧ w'.cell? ⟨b, off + 3 + 2, none⟩ = some (.int .i64 P.2.2)) ∧
      (w'.cell? ⟨b, off + 6, none⟩ = some (.bool Q.1) ∧ w'.cell? ⟨b, off + 6 + 1, none⟩ = some t ∧ w'.cell? ⟨b, off + 6 + 2, none⟩ = some (.int .i64 Q.2.2)) ∧ ∀ j, 3 ≤ j → j < 9 → w'.frozen? ⟨b, off + j, none⟩ = false
theorem zgU {f : Int → List (Int × Int) → Option (Bool × List Int × Int)} (ok : qR Tryz.prog zy 45 ⟨zaS, f⟩) {M : Mem} {n : Nat} {w : World} (h0 : Ext zy M) (hM : qdG M w)
  (hn : n ≤ w.heap.size) (hlow : ∀ b o v, M b o = some v → b < n) {P Q : Bool × List Int × Int}
  (hP : f 8320 [(16, 5), (-4, 239)] = some P) (hQ : f 8320 [(18, 26), (-2, 4801), (8, 8749)] = some Q)
  (b off pb po : Nat) (hbn : b < n) (hpb : pb ≠ b) (hX : ∀ b' o, BX b off 9 b' o → M b' o = none)
  (x3 x4 x5 x6 x7 x8 : Value) (hp : w.cell? ⟨pb, po, none⟩ = some (.pointer (some ⟨b, off, none⟩)))
  (h3 : w.cell? ⟨b, off + 3, none⟩ = some x3) (h4 : w.cell? ⟨b, off + 3 + 1, none⟩ = some x4) (h5 : w.cell? ⟨b, off + 3 + 2, none⟩ = some x5)
  (h6 : w.cell? ⟨b, off + 6, none⟩ = some x6) (h7 : w.cell? ⟨b, off + 6 + 1, none⟩ = some x7) (h8 : w.cell? ⟨b, off + 6 + 2, none⟩ = some x8)
  (hz : ∀ j, j < 9 → w.frozen? ⟨b, off + j, none⟩ = false) :
  Calls Tryz.prog 44 #[.pointer (some ⟨pb, po, none⟩)] w fun e w' => e = .returned (.tuple #[]) ∧ zcj n M P Q w b off w' := by
 have hb : ∀ (t m : Int) w, (Instr.build 82 #[(0, Value.int IntKind.i64 t), (1, Value.int IntKind.u64 m)]).run Tryz.prog w = .ok (.agg #[.int .i64 t, .int .u64 m]) w := fun t m w => run_build w 82 _ _ (by rfl)
 have hlt : pb < w.heap.size := qbd hp
 have hX1n : ∀ b' o, BX b off 6 b' o → M b' o = none := fun b' o h => hX b' o ⟨h.1, h.2.1, by have := h.2.2; omega⟩
 have hpA : ∀ o, (w.drew.alloc o).cell? ⟨pb, po, none⟩ = some (.pointer (some ⟨b, off, none⟩)) := fun o => (((qt.refl w).drew).alloc o).cell hp
 go_enter Tryz.func44, Tryz.ntmps44
 go_wp2
 go_region_with (go_at_call 45; refine (zfE (M := M) (n := n) (f := f) (X := BX b off 6) (w := w) ok h0 hM hn hlow ((((qt.refl w).drew).alloc _).kp _) hX1n (l := [(16, 5), (-4, 239)]) (by exact zfj hn _ (zgW ⟨rfl, rfl, by decide⟩ ⟨rfl, rfl, by decide⟩)) hP).mono ?_; rintro e w' ⟨s, rfl, hs, hkF, hk⟩; have hp' := hkF.cell _ _ _ ((((qt.refl w).drew).alloc _).cell hp) (fun h => h); have d3 := zbA (((qt.refl w).drew).alloc _) hkF h3 (hz 3 (by omega)); have d4 := zbA (((qt.refl w).drew).alloc _) hkF h4 (hz 4 (by omega)); have d5 := zbA (((qt.refl w).drew).alloc _) hkF h5 (hz 5 (by omega)); obtain ⟨h3', z3'⟩ := id d3; obtain ⟨h4', z4'⟩ := id d4; obtain ⟨h5', z5'⟩ := id d5; have hst4 := mid (x := .bool P.1) hs.one d4 Tryz.prog)
 all_goals
  rename_i K1 hK1
  refine hK1 _ _ ?_
  have kW : Kp (BX b off 6) w (st3 w' b (off + 3) (.bool P.1) s (.int .i64 P.2.2)) := zaM hk (zcI fun j hj => ⟨rfl, by omega, by omega⟩)
  have cW := zfy (x := .bool P.1) (y := s) (z := .int .i64 P.2.2) h3' h4' h5'
  have e : st3 w' b (off + 3) (.bool P.1) s (.int .i64 P.2.2) = ((w'.setCell ⟨b, off + 3, none⟩ (Value.bool P.fst)).setCell ⟨b, off + 3 + 1, none⟩ s).setCell ⟨b, off + 3 + 2, none⟩ (Value.int IntKind.i64 P.snd.snd) := rfl
  have kF : Kp (BX b off 6) w' (st3 w' b (off + 3) (.bool P.1) s (.int .i64 P.2.2)) := zcI fun j hj => ⟨rfl, by omega, by omega⟩
  have y3 := (zbT w' b (off + 3) (.bool P.1) s (.int .i64 P.2.2) ⟨b, off + 3, none⟩).trans z3'
  have y4 := (zbT w' b (off + 3) (.bool P.1) s (.int .i64 P.2.2) ⟨b, off + 3 + 1, none⟩).trans z4'
  have y5 := (zbT w' b (off + 3) (.bool P.1) s (.int .i64 P.2.2) ⟨b, off + 3 + 2, none⟩).trans z5'
  rw [← e]
  generalize st3 w' b (off + 3) (.bool P.1) s (.int .i64 P.2.2) = W0 at *
  have hkX : Kp (BX b off 9) w W0 := kW.mono fun _ _ h => ⟨h.1, h.2.1, by have := h.2.2; omega⟩
  have no : ∀ j, 6 ≤ j → ¬ BX b off 6 b (off + j) := fun j hj h => by have := h.2.2; omega
  have hp2 := kW.cell _ _ _ hp (fun h => hpb h.1)
  have g6 := kW.cell _ _ _ h6 (no 6 (by omega))
  have g7 := kW.cell _ _ _ h7 (no 7 (by omega))
  have g8 := kW.cell _ _ _ h8 (no 8 (by omega))
  have y6 := (kW.froz _ _ _ h6 (no 6 (by omega))).trans (hz 6 (by omega))
  have y7 := (kW.froz _ _ _ h7 (no 7 (by omega))).trans (hz 7 (by omega))
  have y8 := (kW.froz _ _ _ h8 (no 8 (by omega))).trans (hz 8 (by omega))
  have hpA2 : ∀ o, (W0.drew.alloc o).cell? ⟨pb, po, none⟩ = some (.pointer (some ⟨b, off, none⟩)) := fun o => (((qt.refl W0).drew).alloc o).cell hp2
  have hs0 : qbm (Nw n M W0) .u32 P.2.1 s := hs.mono (Nw.mono kF fun _ _ h => h.1 ▸ hbn)
  have hnW : n ≤ W0.heap.size := Nat.le_trans hn kW.size
  have hltW : pb < W0.heap.size := qbd hp2
  obtain ⟨c3, c4, c5⟩ := cW
  clear e kF hst4 h3' z3' h4' z4' h5' z5' d3 d4 d5 hp' hkF hs hk hK1 hpA
  clear K1 w'
  go_wp2
  go_region_with (go_at_call 45; refine (zfE (M := M) (n := n) (f := f) (X := BX b off 9) (w := w) ok h0 hM hn hlow (zaM hkX ((((qt.refl W0).drew).alloc _).kp _)) hX (l := [(18, 26), (-2, 4801), (8, 8749)]) (by exact zfj hnW _ (zgX ⟨rfl, rfl, by decide⟩ ⟨rfl, rfl, by decide⟩ ⟨rfl, rfl, by decide⟩)) hQ).mono ?_; rintro e w' ⟨t, rfl, ht, hkF, hk⟩; have hp' := hkF.cell _ _ _ ((((qt.refl W0).drew).alloc _).cell hp2) (fun h => h); have d6 := zbA (((qt.refl W0).drew).alloc _) hkF g6 y6; have d7 := zbA (((qt.refl W0).drew).alloc _) hkF g7 y7; have d8 := zbA (((qt.refl W0).drew).alloc _) hkF g8 y8; obtain ⟨h6', z6'⟩ := id d6; obtain ⟨h7', z7'⟩ := id d7; obtain ⟨h8', z8'⟩ := id d8; have hst7 := mid (x := .bool Q.1) ht.one d7 Tryz.prog)
  all_goals
   have cc := zfy (x := .bool Q.1) (y := t) (z := .int .i64 Q.2.2) h6' h7' h8'
   have kF : Kp (BX b off 9) w' (st3 w' b (off + 6) (.bool Q.1) t (.int .i64 Q.2.2)) := zcI fun j hj => ⟨rfl, by omega, by omega⟩
   have kO : Kp (fun b' o => b' = b ∧ off + 6 ≤ o) w' (st3 w' b (off + 6) (.bool Q.1) t (.int .i64 Q.2.2)) := zcI fun j hj => ⟨rfl, by omega⟩
   have kA : Kp (fun b' o => b' = b ∧ off + 6 ≤ o) W0 (st3 w' b (off + 6) (.bool Q.1) t (.int .i64 Q.2.2)) := zaM ((((qt.refl W0).drew).alloc _).kp _) (zaM (hkF.mono fun _ _ h => h.elim) kO)
   have fin : zcj n M P Q w b off (st3 w' b (off + 6) (.bool Q.1) t (.int .i64 Q.2.2)) :=
    ⟨s, t, hs0.mono (Nw.mono kA fun _ _ h => h.1 ▸ hbn), ht.mono (Nw.mono kF fun _ _ h => h.1 ▸ hbn), zaM hk kF,
     ⟨kA.cell _ _ _ c3 (fun h => by have := h.2; omega), kA.cell _ _ _ c4 (fun h => by have := h.2; omega), kA.cell _ _ _ c5 (fun h => by have := h.2; omega)⟩, cc, fun j h3 h9 => by
      rcases (by omega : j = 3 ∨ j = 4 ∨ j = 5 ∨ j = 6 ∨ j = 7 ∨ j = 8) with rfl | rfl | rfl | rfl | rfl | rfl
      ·exact (kA.froz _ _ _ c3 (fun h => by have := h.2; omega)).trans y3
      ·exact (kA.froz _ _ _ c4 (fun h => by have := h.2; omega)).trans y4
      ·exact (kA.froz _ _ _ c5 (fun h => by have := h.2; omega)).trans y5
      ·exact (zbT w' b (off + 6) (.bool Q.1) t (.int .i64 Q.2.2) ⟨b, off + 6, none⟩).trans z6'
      ·exact (zbT w' b (off + 6) (.bool Q.1) t (.int .i64 Q.2.2) ⟨b, off + 6 + 1, none⟩).trans z7'
      ·exact (zbT w' b (off + 6) (.bool Q.1) t (.int .i64 Q.2.2) ⟨b, off + 6 + 2, none⟩).trans z8'⟩
   have e : st3 w' b (off + 6) (.bool Q.1) t (.int .i64 Q.2.2) = ((w'.setCell ⟨b, off + 6, none⟩ (Value.bool Q.fst)).setCell ⟨b, off + 6 + 1, none⟩ t).setCell ⟨b, off + 6 + 2, none⟩ (Value.int IntKind.i64 Q.snd.snd) := rfl
   rw [← e]
   generalize st3 w' b (off + 6) (.bool Q.1) t (.int .i64 Q.2.2) = W1 at *
   clear e hst7
   go_end0
   exact ⟨rfl, fin⟩
def zbp (n : Nat) (M : Mem) (P Q : Bool × List Int × Int) (w : World) (b off : Nat) (w' : World) : Prop :=
 ∃ w2, zcj n M P Q (w.setCell ⟨b, off + 1, none⟩ (.int .i32 1)) b off w2 ∧ w' = (w2.drew.setCell ⟨b, off, none⟩ (.int .u32 1)).setCell ⟨b, off + 1, none⟩ (.int .i32 0)
structure Bk (n : Nat) (M : Mem) (w : World) (b off : Nat) : Prop where
 hM : qdG M w
 hn : n ≤ w.heap.size
 hbn : b < n
 mn : ∀ j, j < 9 → M b (off + j) = none
 d : w.cell? ⟨b, off, none⟩ = some (.int .u32 0)
 s : w.cell? ⟨b, off + 1, none⟩ = some (.int .i32 0)
 c : ∀ j, j < 9 → ∃ u, w.cell? ⟨b, off + j, none⟩ = some u
 z : ∀ j, j < 9 → w.frozen? ⟨b, off + j, none⟩ = false
theorem Bk.fill {f : Int → List (Int × Int) → Option (Bool × List Int × Int)} (ok : qR Tryz.prog zy 45 ⟨zaS, f⟩) {M : Mem} {n : Nat} {w : World} (h0 : Ext zy M)
  (hlow : ∀ b o v, M b o = some v → b < n) {P Q : Bool × List Int × Int}
  (hP : f 8320 [(16, 5), (-4, 239)] = some P) (hQ : f 8320 [(18, 26), (-2, 4801), (8, 8749)] = some Q)
  (b off pb po : Nat) (hB : Bk n M w b off) (hpb : pb ≠ b) (hp : w.cell? ⟨pb, po, none⟩ = some (.pointer (some ⟨b, off, none⟩))) :
  Calls Tryz.prog 44 #[.pointer (some ⟨pb, po, none⟩)] (w.setCell ⟨b, off + 1, none⟩ (.int .i32 1)) fun e w' => e = .returned (.tuple #[]) ∧ zcj n M P Q (w.setCell ⟨b, off + 1, none⟩ (.int .i32 1)) b off w' := by
 have kk : Kp (fun b' o => b' = b ∧ o = off + 1) w (w.setCell ⟨b, off + 1, none⟩ (.int .i32 1)) := qia (w := w) (b := b) (o := off + 1) (vs := [.int .i32 1]) fun j hj => ⟨rfl, by simp at hj; omega⟩
 have co : ∀ j, 2 ≤ j → j < 9 → ∃ u, (w.setCell ⟨b, off + 1, none⟩ (.int .i32 1)).cell? ⟨b, off + j, none⟩ = some u := fun j h2 hj => by
  obtain ⟨u, hu⟩ := hB.c j hj
  exact ⟨u, kk.cell _ _ _ hu fun h => by have := h.2; omega⟩
 obtain ⟨x3, h3⟩ := co 3 (by omega) (by omega)
 obtain ⟨x4, h4⟩ := co 4 (by omega) (by omega)
 obtain ⟨x5, h5⟩ := co 5 (by omega) (by omega)
 obtain ⟨x6, h6⟩ := co 6 (by omega) (by omega)
 obtain ⟨x7, h7⟩ := co 7 (by omega) (by omega)
 obtain ⟨x8, h8⟩ := co 8 (by omega) (by omega)
 refine Go.Proofs.YtlngoohfkaceoaaGreatDoor.Eng.zgU ok h0 ?_ (by simpa using hB.hn) hlow hP hQ b off pb po hB.hbn hpb ?_ x3 x4 x5 x6 x7 x8 (kk.cell _ _ _ hp fun h => hpb h.1) h3 h4 h5 h6 h7 h8 ?_
 ·intro b' o v hv
  refine kk.cell _ _ _ (hB.hM b' o v hv) fun h => ?_
  have := hB.mn 1 (by omega)
  rw [h.1, h.2, this] at hv; cases hv
 ·intro b' o h
  have := hB.mn (o - off) (by have := h.2; omega)
  rwa [show off + (o - off) = o by have := h.2; omega, ← h.1] at this
 ·intro j hj
  rw [← hB.z j hj]
  exact World.frozen?_setCells b [.int .i32 1] (off + 1) w ⟨b, off + j, none⟩
theorem zio {f : Int → List (Int × Int) → Option (Bool × List Int × Int)} (ok : qR Tryz.prog zy 45 ⟨zaS, f⟩) {M : Mem} {n : Nat} {w : World} (h0 : Ext zy M)
  (hlow : ∀ b o v, M b o = some v → b < n) {P Q : Bool × List Int × Int}
  (hP : f 8320 [(16, 5), (-4, 239)] = some P) (hQ : f 8320 [(18, 26), (-2, 4801), (8, 8749)] = some Q)
  (b off pb po : Nat) (hB : Bk n M w b off) (hpb : pb ≠ b) (hp : w.cell? ⟨pb, po, none⟩ = some (.pointer (some ⟨b, off, none⟩))) :
  Calls Tryz.prog 52 #[.pointer (some ⟨b, off, none⟩), .func (.func 44) #[] #[.pointer (some ⟨pb, po, none⟩)]] w fun e w' => e = .returned (.tuple #[]) ∧ zbp n M P Q w b off w' := by
 have d0 := hB.d
 have d1 := hB.s
 have f0 := hB.z 0 (by omega)
 have f1 := hB.z 1 (by omega)
 rw [Nat.add_zero] at f0
 have hF := hB.fill ok h0 hlow hP hQ b off pb po hpb hp
 have l0 : (w.setCell ⟨b, off + 1, none⟩ (.int .i32 1)).cell? ⟨b, off, none⟩ = some (.int .u32 0) := (World.cell?_setCell_other _ ⟨b, off + 1, none⟩ ⟨b, off, none⟩ _ (by simp)).trans d0
 have l1 : (w.setCell ⟨b, off + 1, none⟩ (.int .i32 1)).cell? ⟨b, off + 1, none⟩ = some (.int .i32 1) := World.cell?_setCell_same w _ _ d1
 have q0 : (w.setCell ⟨b, off + 1, none⟩ (.int .i32 1)).frozen? ⟨b, off, none⟩ = false := by rw [← f0]; exact World.frozen?_setCells b [.int .i32 1] (off + 1) w ⟨b, off, none⟩
 have q1 : (w.setCell ⟨b, off + 1, none⟩ (.int .i32 1)).frozen? ⟨b, off + 1, none⟩ = false := by rw [← f1]; exact World.frozen?_setCells b [.int .i32 1] (off + 1) w ⟨b, off + 1, none⟩
 have hnot : ∀ (x : Bool) (w : World), (Op.unary .not (.bool x)).run Tryz.prog w = .ok (.bool (!x)) w := fun _ _ => rfl
 clear hB
 go_enter_defers Tryz.func52, Tryz.ntmps52
 go_wp2_with (first
  | (go_at_call 66; refine (zhg ⟨b, off + 1, none⟩ _ (by go_simp) (by go_simp)).mono ?_; rintro e w' ⟨rfl, rfl⟩)
  | (go_at_call 51; refine (zc3 ⟨b, off, none⟩ 0 _ l0).mono ?_; rintro e w' ⟨rfl, rfl⟩)
  | (go_at_call 44; refine hF.mono ?_; rintro e w2 ⟨rfl, hf⟩))
 have k2 : Kp (BX b off 9) (w.setCell ⟨b, off + 1, none⟩ (.int .i32 1)) w2 := by obtain ⟨_, _, _, _, k, _⟩ := hf; exact k
 have no : ∀ j, j < 3 → ¬ BX b off 9 b (off + j) := fun j hj h => by have := h.2; omega
 have m0 := k2.cell _ _ _ l0 (no 0 (by omega))
 have m1 := k2.cell _ _ _ l1 (no 1 (by omega))
 have p0 := (k2.froz _ _ _ l0 (no 0 (by omega))).trans q0
 have p1 := (k2.froz _ _ _ l1 (no 1 (by omega))).trans q1
 have fin : zbp n M P Q w b off ((w2.drew.setCell ⟨b, off, none⟩ (.int .u32 1)).setCell ⟨b, off + 1, none⟩ (.int .i32 0)) := ⟨w2, hf, rfl⟩
 clear k2 hF hf l0 l1 q0 q1 d0 d1 f0 f1
 go_wp2
 refine leaves_cons (f := 68) (args := #[.pointer (some ⟨b, off, none⟩), .bool true]) (by simp) (by simp [go_sem]) ?_
 refine (ziu ⟨b, off, none⟩ (.int .u32 0) .returning _ m0 p0).mono ?_
 rintro e u' w'' ⟨rfl, rfl, rfl⟩
 refine leaves_cons (f := 67) (args := #[.pointer (some ⟨b, off + 1, none⟩)]) (by simp [settle]) (by simp [go_sem]) ?_
 refine (ziN ⟨b, off + 1, none⟩ _ _ ?_ ?_).mono ?_
 ·exact (World.cell?_setCell_other _ ⟨b, off, none⟩ ⟨b, off + 1, none⟩ _ (by simp)).trans m1
 ·rw [← p1]; exact World.frozen?_setCells b [.int .u32 1] off w2.drew ⟨b, off + 1, none⟩
 rintro e u' w'' ⟨rfl, rfl, rfl⟩
 simp [Leaves, settle, results, Tryz.results52]
 exact fin
theorem zgI {f : Int → List (Int × Int) → Option (Bool × List Int × Int)} (ok : qR Tryz.prog zy 45 ⟨zaS, f⟩) {M : Mem} {n : Nat} {w : World} (h0 : Ext zy M)
  (hlow : ∀ b o v, M b o = some v → b < n) {P Q : Bool × List Int × Int}
  (hP : f 8320 [(16, 5), (-4, 239)] = some P) (hQ : f 8320 [(18, 26), (-2, 4801), (8, 8749)] = some Q)
  (b off pb po : Nat) (hB : Bk n M w b off) (hpb : pb ≠ b) (hp : w.cell? ⟨pb, po, none⟩ = some (.pointer (some ⟨b, off, none⟩))) :
  Calls Tryz.prog 43 #[.pointer (some ⟨b, off, none⟩), .func (.func 44) #[] #[.pointer (some ⟨pb, po, none⟩)]] w fun e w' => e = .returned (.tuple #[]) ∧ zbp n M P Q w b off w' := by
 have d0 := hB.d
 have hS := zio ok h0 hlow hP hQ b off pb po hB hpb hp
 have hnot : ∀ (x : Bool) (w : World), (Op.unary .not (.bool x)).run Tryz.prog w = .ok (.bool (!x)) w := fun _ _ => rfl
 clear hB
 go_enter Tryz.func43, Tryz.ntmps43
 go_wp2_with (first
  | (go_at_call 51; refine (zc3 ⟨b, off, none⟩ 0 _ d0).mono ?_; rintro e w' ⟨rfl, rfl⟩)
  | (go_at_call 52; refine hS.mono ?_; rintro e w2 ⟨rfl, hf⟩))
 go_end0
 exact ⟨rfl, hf⟩
theorem zgH (a : Addr) (d : Int) (hd : ¬ d = 0) (fv : Value) (w : World) (h0 : w.cell? a = some (.int .u32 d)) :
  Calls Tryz.prog 43 #[.pointer (some a), fv] w fun e w' => e = .returned (.tuple #[]) ∧ w' = w := by
 have hnot : ∀ (x : Bool) (w : World), (Op.unary .not (.bool x)).run Tryz.prog w = .ok (.bool (!x)) w := fun _ _ => rfl
 have hd' : (d != 0) = true := by simp [hd]
 go_enter Tryz.func43, Tryz.ntmps43
 go_wp2_with (go_at_call 51; refine (zc3 _ d _ (by go_simp)).mono ?_; rintro e w' ⟨rfl, rfl⟩)
 go_end0
 exact ⟨rfl, rfl⟩
theorem zhZ {f : Int → List (Int × Int) → Option (Bool × List Int × Int)} (ok : qR Tryz.prog zy 45 ⟨zaS, f⟩) {M : Mem} {n : Nat} {w : World} (h0 : Ext zy M)
  (hlow : ∀ b o v, M b o = some v → b < n) {P Q : Bool × List Int × Int}
  (hP : f 8320 [(16, 5), (-4, 239)] = some P) (hQ : f 8320 [(18, 26), (-2, 4801), (8, 8749)] = some Q)
  (b off : Nat) (hB : ∀ o, Bk n M (w.alloc o) b off) (hbn : b < w.heap.size) :
  Calls Tryz.prog 29 #[.pointer (some ⟨b, off, none⟩)] w fun e w' => e = .returned (.tuple #[]) ∧ zbp n M P Q (w.alloc (.cells #[.pointer (some ⟨b, off, none⟩)] 22)) b off w' := by
 have hmf : ∀ (fn : Go.Fn) (first cap : Array Value) (w : World), (Instr.makeFunc fn first cap).run Tryz.prog w = .ok (.func fn first cap) w := fun _ _ _ _ => rfl
 have p0 : (w.alloc (.cells #[.pointer (some ⟨b, off, none⟩)] 22)).cell? ⟨w.heap.size, 0, none⟩ = some (.pointer (some ⟨b, off, none⟩)) := by simp
 have hD := zgI ok h0 hlow hP hQ b off w.heap.size 0 (hB (.cells #[.pointer (some ⟨b, off, none⟩)] 22)) (by omega) p0
 clear hB
 go_enter Tryz.func29, Tryz.ntmps29
 go_wp2_with (go_at_call 43; refine hD.mono ?_; rintro e w' ⟨rfl, hf⟩)
 go_end0
 exact ⟨rfl, hf⟩
theorem zhY (b off : Nat) (d : Int) (hd : ¬ d = 0) (w : World) (hb : b < w.heap.size) (h0 : w.cell? ⟨b, off, none⟩ = some (.int .u32 d)) :
  Calls Tryz.prog 29 #[.pointer (some ⟨b, off, none⟩)] w fun e w' => e = .returned (.tuple #[]) ∧ w' = w.alloc (.cells #[.pointer (some ⟨b, off, none⟩)] 22) := by
 have hmf : ∀ (fn : Go.Fn) (first cap : Array Value) (w : World), (Instr.makeFunc fn first cap).run Tryz.prog w = .ok (.func fn first cap) w := fun _ _ _ _ => rfl
 have a0 : (w.alloc (.cells #[.pointer (some ⟨b, off, none⟩)] 22)).cell? ⟨b, off, none⟩ = some (.int .u32 d) := by rw [World.cell?_alloc_past _ _ _ hb]; exact h0
 go_enter Tryz.func29, Tryz.ntmps29
 go_wp2_with (go_at_call 43; refine (zgH ⟨b, off, none⟩ d hd _ _ a0).mono ?_; rintro e w' ⟨rfl, rfl⟩)
 go_end0
 exact ⟨rfl, rfl⟩
structure Out (n : Nat) (M : Mem) (P Q : Bool × List Int × Int) (w : World) (b off : Nat) (w' : World) (s t : Value) : Prop where
 rs : qbm (Nw n M w') .u32 P.2.1 s
 rt : qbm (Nw n M w') .u32 Q.2.1 t
 k : Kp (fun b' o => b' = b ∧ off ≤ o ∧ o < off + 9) w w'
 c0 : w'.cell? ⟨b, off, none⟩ = some (.int .u32 1)
 c1 : w'.cell? ⟨b, off + 1, none⟩ = some (.int .i32 0)
 c2 : ∀ u, w.cell? ⟨b, off + 2, none⟩ = some u → w'.cell? ⟨b, off + 2, none⟩ = some u
 c3 : w'.cell? ⟨b, off + 3, none⟩ = some (.bool P.1)
 c4 : w'.cell? ⟨b, off + 4, none⟩ = some s
 c5 : w'.cell? ⟨b, off + 5, none⟩ = some (.int .i64 P.2.2)
 c6 : w'.cell? ⟨b, off + 6, none⟩ = some (.bool Q.1)
 c7 : w'.cell? ⟨b, off + 7, none⟩ = some t
 c8 : w'.cell? ⟨b, off + 8, none⟩ = some (.int .i64 Q.2.2)
 z : ∀ j, j < 9 → w'.frozen? ⟨b, off + j, none⟩ = false
theorem zdw (w : World) (b o : Nat) (v : Value) : Kp (fun b' o' => b' = b ∧ o' = o) w (w.setCell ⟨b, o, none⟩ v) :=
 qia (w := w) (b := b) (o := o) (vs := [v]) fun j hj => ⟨rfl, by simp at hj; omega⟩
theorem zdv (w : World) (b o : Nat) (v : Value) (a : Addr) : (w.setCell ⟨b, o, none⟩ v).frozen? a = w.frozen? a := World.frozen?_setCells b [v] o w a
theorem zbp.out {n : Nat} {M : Mem} {P Q : Bool × List Int × Int} {w : World} {b off : Nat} {w' : World} (h : zbp n M P Q w b off w') (hB : Bk n M w b off) : ∃ s t, Out n M P Q w b off w' s t := by
 obtain ⟨w2, ⟨s, t, hs, ht, hk, ⟨e3, e4, e5⟩, ⟨e6, e7, e8⟩, hz⟩, rfl⟩ := h
 have ka := zdw w b (off + 1) (.int .i32 1)
 have kb := zdw w2.drew b off (.int .u32 1)
 have kc := zdw (w2.drew.setCell ⟨b, off, none⟩ (.int .u32 1)) b (off + 1) (.int .i32 0)
 have kd : Kp (fun _ _ => False) w2 w2.drew := ((qt.refl w2).drew).kp _
 have kx : Kp (fun b' o => b' = b ∧ off ≤ o ∧ o < off + 2) w2 ((w2.drew.setCell ⟨b, off, none⟩ (.int .u32 1)).setCell ⟨b, off + 1, none⟩ (.int .i32 0)) :=
  zaM (kd.mono fun _ _ h => h.elim) (zaM (kb.mono fun _ _ h => ⟨h.1, by omega, by omega⟩) (kc.mono fun _ _ h => ⟨h.1, by omega, by omega⟩))
 have g0 : w2.cell? ⟨b, off, none⟩ = some (.int .u32 0) := hk.cell _ _ _ (ka.cell _ _ _ hB.d fun h => by have := h.2; omega) fun h => by have := h.2; omega
 have g1 : w2.cell? ⟨b, off + 1, none⟩ = some (.int .i32 1) := hk.cell _ _ _ (World.cell?_setCell_same w ⟨b, off + 1, none⟩ _ hB.s) fun h => by have := h.2; omega
 have no : ∀ j, 2 ≤ j → ¬ (b = b ∧ off ≤ off + j ∧ off + j < off + 2) := fun j hj h => by have := h.2; omega
 refine ⟨s, t, hs.mono (Nw.mono kx fun _ _ h => h.1 ▸ hB.hbn), ht.mono (Nw.mono kx fun _ _ h => h.1 ▸ hB.hbn),
  zaM (ka.mono fun _ _ h => ⟨h.1, by omega, by omega⟩) (zaM (hk.mono fun _ _ h => ⟨h.1, by have := h.2; omega, by have := h.2; omega⟩) (kx.mono fun _ _ h => ⟨h.1, by omega, by omega⟩)), ?_, ?_, ?_, kx.cell _ _ _ e3 (no 3 (by omega)), kx.cell _ _ _ e4 (no 4 (by omega)), kx.cell _ _ _ e5 (no 5 (by omega)), kx.cell _ _ _ e6 (no 6 (by omega)), kx.cell _ _ _ e7 (no 7 (by omega)), kx.cell _ _ _ e8 (no 8 (by omega)), ?_⟩
 ·exact kc.cell _ _ _ (World.cell?_setCell_same w2.drew ⟨b, off, none⟩ _ g0) fun h => by have := h.2; omega
 ·exact World.cell?_setCell_same _ ⟨b, off + 1, none⟩ _ (kb.cell _ _ _ g1 fun h => by have := h.2; omega)
 ·intro u hu
  exact kx.cell _ _ _ (hk.cell _ _ _ (ka.cell _ _ _ hu fun h => by have := h.2; omega) fun h => by have := h.2; omega) (no 2 (by omega))
 ·intro j hj
  rw [zdv, zdv]
  show w2.frozen? _ = false
  by_cases h3 : 3 ≤ j
  ·exact hz j h3 hj
  ·obtain ⟨u, hu⟩ := hB.c j hj
   have hc : ∃ u, (w.setCell ⟨b, off + 1, none⟩ (.int .i32 1)).cell? ⟨b, off + j, none⟩ = some u := by
    by_cases e : j = 1
    ·subst e; exact ⟨_, World.cell?_setCell_same w ⟨b, off + 1, none⟩ _ hB.s⟩
    ·exact ⟨u, ka.cell _ _ _ hu fun h => by have := h.2; omega⟩
   obtain ⟨u', hu'⟩ := hc
   rw [hk.froz _ _ _ hu' fun h => by have := h.2; omega, zdv]
   exact hB.z j hj
theorem zb1 {R : Type} {k : IntKind} {ks : List Kd} {f : Fn (.i k :: ks) (Option R)} {ls : List V} {r : R} (h : app (.i k :: ks) f ls = some r) : ∃ n l, ls = .int k n :: l ∧ app ks (f n) l = some r := by
 rcases ls with _ | ⟨x, l⟩
 ·cases h
 ·cases x <;> first | (cases h; done) | skip
  rename_i k' n
  rcases qat h with ⟨h1, h2⟩ | ⟨_, h2⟩
  ·have := qE h1
   subst this
   exact ⟨n, l, rfl, h2⟩
  ·cases h2
theorem zea {R : Type} {k : IntKind} {ks : List Kd} {f : Fn (.is k :: ks) (Option R)} {ls : List V} {r : R} (h : app (.is k :: ks) f ls = some r) : ∃ n l, ls = .ints k n :: l ∧ app ks (f n) l = some r := by
 rcases ls with _ | ⟨x, l⟩
 ·cases h
 ·cases x <;> first | (cases h; done) | skip
  rename_i k' n
  rcases qat h with ⟨h1, h2⟩ | ⟨_, h2⟩
  ·have := qE h1
   subst this
   exact ⟨n, l, rfl, h2⟩
  ·cases h2
theorem zd9 {R : Type} {ks : List Kd} {f : Fn (.b :: ks) (Option R)} {ls : List V} {r : R} (h : app (.b :: ks) f ls = some r) : ∃ n l, ls = .bool n :: l ∧ app ks (f n) l = some r := by
 rcases ls with _ | ⟨x, l⟩
 ·cases h
 ·cases x <;> first | (cases h; done) | skip
  exact ⟨_, _, rfl, h⟩
theorem zgj {R : Type} {f : Fn [] (Option R)} {ls : List V} {r : R} (h : app [] f ls = some r) : ls = [] ∧ f = some r := by
 rcases ls with _ | ⟨x, l⟩
 ·exact ⟨rfl, h⟩
 ·cases h
theorem ze2 {S : Sig} {ls : List V} {y : List V} {M : Mem} {φ : Plc} {w w' : World} {p : Pl} {v : Value} (r : S.R) (hps : S.ps.length = 1) (hrs : S.rs = []) (hO : (Ent S ls).O = [(0, .cells ls)]) (hnx : (Ent S ls).nx = 1)
  (hB' : qaf S (Ent S ls).nx r = fun id => if id = 0 then .cells y else .gone) (hun : qd (qo S.rs ++ S.wb) (S.un r) = true) (hv : v = .tuple #[])
  (hrel : Rel M φ (qc (Ent S ls).O) w) (hp : φ 0 = some p) (hnil : p.nl = false) (hc : p.c = ls.length) (hy : y.length = ls.length) (hk : Kp (fun b' o => b' = p.b ∧ p.s ≤ o ∧ o < p.s + p.c) w w') (hpb : p.b < w.heap.size)
  (hcells : ∀ (j : Nat) x, y[j]? = some x → ∃ u, w'.cell? ⟨p.b, p.s + j, none⟩ = some u ∧ RL (Nw w.heap.size M w') φ u x) (hz : ∀ j, j < p.c → w'.frozen? ⟨p.b, p.s + j, none⟩ = false)
  (hmn : ∀ j, j < p.c → M p.b (p.s + j) = none) : qeN S ls r M φ w v w' := by
 have hlow : ∀ b o u, M b o = some u → b < w.heap.size := fun b o u h => qbd (hrel.holds b o u h)
 have hX : ∀ b o, qK φ (qc (Ent S ls).O) b o ↔ b = p.b ∧ p.s ≤ o ∧ o < p.s + p.c := by
  intro b o
  rw [hO]
  constructor
  ·rintro ⟨id, q, j, h1, h2, h3, h4, h5⟩
   rw [qej] at h2
   by_cases e : id = 0
   ·subst e; rw [hp] at h1; cases h1; exact ⟨h4, by omega, by omega⟩
   ·rw [if_neg e] at h2; cases h2
  ·rintro ⟨h1, h2, h3⟩
   exact ⟨0, p, o - p.s, hp, rfl, by omega, h1, by omega⟩
 have hX' : ∀ b o, qK φ (fun id => if id = 0 then .cells y else .gone) b o ↔ b = p.b ∧ p.s ≤ o ∧ o < p.s + p.c := by
  intro b o
  constructor
  ·rintro ⟨id, q, j, h1, h2, h3, h4, h5⟩
   by_cases e : id = 0
   ·subst e; rw [hp] at h1; cases h1; exact ⟨h4, by omega, by omega⟩
   ·have h2' : qs (if id = 0 then Blk.cells y else .gone) = true := h2
    rw [if_neg e] at h2'; cases h2'
  ·rintro ⟨h1, h2, h3⟩
   exact ⟨0, p, o - p.s, hp, rfl, by omega, h1, by omega⟩
 have hN : qdG (Nw w.heap.size M w') w' := Nw.holds fun b o u h => by
  refine hk.cell _ _ _ (hrel.holds b o u h) fun hx => ?_
  have := hmn (o - p.s) (by omega)
  rw [show p.s + (o - p.s) = o by omega, ← hx.1, h] at this
  cases this
 refine ⟨hun, Nw w.heap.size M w', φ, ?_, ?_, ?_, qr.refl φ⟩
 ·rw [hrs, hv]
  exact ⟨#[], rfl, rfl, fun j y hy => by simp [qg] at hy⟩
 ·rw [hB']
  refine ⟨hN, fun id q hq => ?_, fun id q hq ha => ?_, ?_⟩
  ·show RB _ _ _ _ (if id = 0 then _ else _)
   by_cases e : id = 0
   ·subst e
    rw [hp] at hq; cases hq
    rw [if_pos rfl]
    exact ⟨hnil, by rw [hc, hy], hcells⟩
   ·rw [if_neg e]; trivial
  ·by_cases e : id = 0
   ·subst e
    rw [hp] at hq; cases hq
    intro j hj
    refine ⟨?_, hz j hj, ?_⟩
    ·show ∃ u, _
     obtain ⟨x, hx⟩ : ∃ x, y[j]? = some x := ⟨_, List.getElem?_eq_getElem (by omega)⟩
     obtain ⟨u, hu, _⟩ := hcells j x hx
     exact ⟨u, hu⟩
    ·unfold Nw; rw [if_pos hpb]; exact hmn j hj
   ·have : qs (if id = 0 then Blk.cells y else .gone) = true := ha
    rw [if_neg e] at this; cases this
  ·intro id id' q q' hne h1 h2 h3 h4
   have h3' : qs (if id = 0 then Blk.cells y else .gone) = true := h3
   have h4' : qs (if id' = 0 then Blk.cells y else .gone) = true := h4
   by_cases e : id = 0
   ·by_cases e' : id' = 0
    ·omega
    ·rw [if_neg e'] at h4'; cases h4'
   ·rw [if_neg e] at h3'; cases h3'
 ·rw [hB']
  refine ⟨Nw.ext w' hlow, hk.mono fun b o h => (hX b o).2 h, fun b o h => .inl ((hX b o).2 ((hX' b o).1 h)), fun b o u h => ?_⟩
  unfold Nw at h
  by_cases e : b < w.heap.size
  ·rw [if_pos e] at h; exact .inl h
  ·exact .inr (.inr (by omega))
theorem zx.ok' (ok : ∀ k, qR Tryz.prog zy 45 ⟨zaS, zH.f k⟩) : ∀ k, qR Tryz.prog zy 29 (zx.F k) := by
 intro k
 refine ⟨⟨Tryz.f29, _, Tryz.func29, by kernel_rfl, rfl⟩, rfl, rfl, ?_⟩
 intro M φ w args ls r h0 hin happ
 obtain ⟨d, l1, rfl, a1⟩ := zb1 (ks := [.i .i32, .i .u32, .b, .is .u32, .i .i64, .b, .is .u32, .i .i64]) happ
 obtain ⟨s, l2, rfl, a2⟩ := zb1 a1
 obtain ⟨z, l3, rfl, a3⟩ := zb1 a2
 obtain ⟨p0, l4, rfl, a4⟩ := zd9 a3
 obtain ⟨p1, l5, rfl, a5⟩ := zea a4
 obtain ⟨p2, l6, rfl, a6⟩ := zb1 a5
 obtain ⟨q0, l7, rfl, a7⟩ := zd9 a6
 obtain ⟨q1, l8, rfl, a8⟩ := zea a7
 obtain ⟨q2, l9, rfl, a9⟩ := zb1 a8
 obtain ⟨rfl, a10⟩ := zgj a9
 have hf : zx.f k d s z p0 p1 p2 q0 q1 q2 = some r := a10
 clear happ a1 a2 a3 a4 a5 a6 a7 a8 a9 a10
 have hlow : ∀ b o u, M b o = some u → b < w.heap.size := fun b o u h => qbd (hin.rel.holds b o u h)
 have hsz : args.size = 1 := hin.size
 obtain ⟨v0, hv0⟩ : ∃ v, args[0]? = some v := ⟨_, Array.getElem?_eq_getElem (by omega)⟩
 obtain ⟨p, hp, rfl⟩ := hin.args 0 v0 hv0
 obtain rfl : args = #[.pointer (some ⟨p.b, p.s + 0, none⟩)] := by
  refine Array.ext (by rw [hsz]; rfl) fun i h1 h2 => ?_
  obtain rfl : i = 0 := by omega
  exact (Array.getElem?_eq_some_iff.1 hv0).2
 obtain ⟨hnl, hc, hcells⟩ := hin.rel.blk 0 p hp
 have hown := hin.rel.own 0 p hp rfl
 have hc9 : p.c = 9 := hc
 have hcell : ∀ j, j < 9 → ∃ u, w.cell? ⟨p.b, p.s + j, none⟩ = some u := fun j hj => (hown j (by omega)).1
 have hz : ∀ j, j < 9 → w.frozen? ⟨p.b, p.s + j, none⟩ = false := fun j hj => (hown j (by omega)).2.1
 have hmn : ∀ j, j < 9 → M p.b (p.s + j) = none := fun j hj => (hown j (by omega)).2.2
 have hpb : p.b < w.heap.size := by obtain ⟨u, hu⟩ := hcell 0 (by omega); exact qbd hu
 have hB' : qaf zx.S (Ent zx.S [.int .u32 d, .int .i32 s, .int .u32 z, .bool p0, .ints .u32 p1, .int .i64 p2, .bool q0, .ints .u32 q1, .int .i64 q2]).nx r = fun id => if id = 0 then .cells (zx.S.un r) else .gone := by
  funext id
  show bc (Nat.beq 0 id) (Blk.cells (zx.S.un r)) .gone = _
  cases id <;> rfl
 obtain ⟨u0, hu0, e0⟩ := hcells 0 _ rfl
 obtain ⟨rfl, _⟩ : u0 = .int .u32 d ∧ _ := e0
 rw [Nat.add_zero] at hu0 ⊢
 have gA : ∀ o, qt w (w.alloc o) := fun o => (qt.refl w).alloc o
 unfold zx.f at hf
 by_cases hd : d = 0
 ·rw [if_pos hd] at hf
  subst hd
  by_cases hs : s = 0
  case neg => rw [if_neg hs] at hf; cases hf
  rw [if_pos hs] at hf
  subst hs
  obtain ⟨P, hP, hf⟩ := Option.bind_eq_some_iff.1 hf
  obtain ⟨Q, hQ, hf⟩ := Option.bind_eq_some_iff.1 hf
  obtain rfl := Option.some.inj hf
  obtain ⟨u1, hu1, e1⟩ := hcells 1 _ rfl
  obtain ⟨rfl, _⟩ : u1 = .int .i32 0 ∧ _ := e1
  obtain ⟨u2, hu2, e2⟩ := hcells 2 _ rfl
  obtain ⟨rfl, e2⟩ : u2 = .int .u32 z ∧ _ := e2
  have hB : ∀ o, Bk w.heap.size M (w.alloc o) p.b p.s := fun o =>
   ⟨fun b o' u h => (gA o).cell (hin.rel.holds b o' u h), (gA o).size, hpb, hmn, (gA o).cell hu0, (gA o).cell hu1, fun j hj => let ⟨u, hu⟩ := hcell j hj; ⟨u, (gA o).cell hu⟩,
    fun j hj => by obtain ⟨u, hu⟩ := hcell j hj; rw [(gA o).froz hu]; exact hz j hj⟩
  refine (zhZ (ok k) h0 hlow hP hQ p.b p.s hB hpb).mono ?_
  rintro e w' ⟨rfl, hS⟩
  obtain ⟨s, t, O⟩ := hS.out (hB _)
  refine ⟨_, rfl, ze2 (p := p) (y := zx.S.un _) _ rfl rfl rfl rfl hB' rfl rfl hin.rel hp hnl hc rfl (zaM ((gA _).kp _) (O.k.mono fun _ _ h => ⟨h.1, h.2.1, by omega⟩)) hpb ?_ (fun j hj => O.z j (by omega)) (fun j hj => hmn j (by omega))⟩
  intro j x hx
  match j, hx with
  | 0, hx => cases hx; exact ⟨_, O.c0, rfl, fun _ => show (0 : Int) ≤ 1 by decide⟩
  | 1, hx => cases hx; exact ⟨_, O.c1, rfl, fun h => by cases h⟩
  | 2, hx => cases hx; exact ⟨_, O.c2 _ ((gA _).cell hu2), rfl, e2⟩
  | 3, hx => cases hx; exact ⟨_, O.c3, rfl⟩
  | 4, hx => cases hx; exact ⟨_, O.c4, O.rs⟩
  | 5, hx => cases hx; exact ⟨_, O.c5, rfl, fun h => by cases h⟩
  | 6, hx => cases hx; exact ⟨_, O.c6, rfl⟩
  | 7, hx => cases hx; exact ⟨_, O.c7, O.rt⟩
  | 8, hx => cases hx; exact ⟨_, O.c8, rfl, fun h => by cases h⟩
  | j + 9, hx => exact absurd hx (by simp)
 ·rw [if_neg hd] at hf
  obtain rfl := Option.some.inj hf
  refine (zhY p.b p.s d hd w hpb hu0).mono ?_
  rintro e w' ⟨rfl, rfl⟩
  refine ⟨_, rfl, ze2 (p := p) (y := zx.S.un _) _ rfl rfl rfl rfl hB' rfl rfl hin.rel hp hnl hc rfl ((gA _).kp _) hpb ?_ (fun j hj => ?_) (fun j hj => hmn j (by omega))⟩
  ·intro j x hx
   obtain ⟨u, hu, hr⟩ := hcells j x hx
   exact ⟨u, (gA _).cell hu, hr.mono (Nw.ext _ hlow) (qr.refl φ)⟩
  ·obtain ⟨u, hu⟩ := hcell j (by omega)
   rw [(gA _).froz hu]; exact hz j (by omega)
theorem zx.ok : ∀ k, qR Tryz.prog zy 29 (zx.F k) := zx.ok' zH.ok
theorem zaG.ok : Fo 47 (sg [.lf (.i .i64)] [.lf (.i .i64)]) fun _ => zaG.f := fo 9 Tryz.func47 .z
theorem za0.ok : Fo 48 (sg [.ag [.b, .is .u32, .i .i64], .lf (.i .i64)] [.ag [.b, .is .u32, .i .i64], .lf (.b), .lf (.i .i64)]) za0.f := fo 46 Tryz.func48 (.o z9.ok (.o zaI.ok (.o zC.ok (.o zz.ok .z))))
theorem zbI.ok : Fo 48 (sg [.ag [.b, .is .u32, .i .i64], .lf (.i .i64)] [.ao [.b] .u32 [.i .i64], .lf (.b), .lf (.i .i64)]) zbI.f := fo 46 Tryz.func48 (.o z9.ok (.o zb7.ok (.o zC.ok (.o zbG.ok .z))))
theorem zag.ok : Fo 30 (sg [.ag [.b, .is .u32, .i .i64], .lf (.i .i64)] [.ag [.b, .is .u32, .i .i64], .lf (.b), .lf (.i .i64)]) zag.f := fo 31 Tryz.func30 (.o zaE.ok (.o zaG.ok (.o za0.ok .z)))
theorem zbF.ok : Fo 30 (sg [.ag [.b, .is .u32, .i .i64], .lf (.i .i64)] [.ao [.b] .u32 [.i .i64], .lf (.b), .lf (.i .i64)]) zbF.f := fo 31 Tryz.func30 (.o zaE.ok (.o zaG.ok (.o zbI.ok .z)))
theorem zaL.ok : Fo 7 (sg [.bb [.i .u32, .i .i32, .i .u32, .b, .is .u32, .i .i64, .b, .is .u32, .i .i64], .lf (.i .i64)] [.ag [.b, .is .u32, .i .i64], .lf (.i .i64)]) zaL.f := fo 26 Tryz.func7 (.o zx.ok (.o zag.ok .z))
theorem zeh.ok : Fo 7 (sg [.lf (.np), .lf (.i .i64)] [.ag [.b, .is .u32, .i .i64], .lf (.i .i64)]) fun _ => zeh.f := fo 26 Tryz.func7 .z
theorem zbx.ok : Fo 7 (sg [.bb [.i .u32, .i .i32, .i .u32, .b, .is .u32, .i .i64, .b, .is .u32, .i .i64], .lf (.i .i64)] [.ao [.b] .u32 [.i .i64], .lf (.i .i64)]) zbx.f := fo 26 Tryz.func7 (.o zx.ok (.o zbF.ok .z))
theorem za5.ok : Fo 8 (sg [.bb [.i .u32, .i .i32, .i .u32, .b, .is .u32, .i .i64, .b, .is .u32, .i .i64], .lf (.i .i64)] [.ag [.b, .is .u32, .i .i64], .lf (.i .i64)]) za5.f := fo 26 Tryz.func8 (.o zx.ok (.o zag.ok .z))
theorem zeg.ok : Fo 8 (sg [.lf (.np), .lf (.i .i64)] [.ag [.b, .is .u32, .i .i64], .lf (.i .i64)]) fun _ => zeg.f := fo 26 Tryz.func8 .z
theorem za6.ok : Fo 9 (sg [.lf (.i .i64)] [.lf (.i .i64)]) fun _ => za6.f := fo 7 Tryz.func9 .z
theorem zap.ok : Fo 31 (sg [.lf (.is .u32), .lf (.is .u32)] [.lf (.b)]) zap.f := fo 26 Tryz.func31 .z [[tt, tt, ff, tt, ff]] fun k => [⟨[(0, .lf (.is .u32)), (1, .lf (.is .u32)), (5, .lf (.i .i64))], zap.l0 k⟩]
theorem zad.ok : Fo 10 (sg [.ag [.b, .is .u32, .i .i64], .ag [.b, .is .u32, .i .i64]] [.lf (.b)]) zad.f := fo 24 Tryz.func10 (.o zap.ok .z)
theorem zk.ok : Fo 33 (sg [.ow .u32] [.ow .u32]) zk.f := fo 21 Tryz.func33 .z [[tt, tt, ff, ff]] fun k => [⟨[(0, .ow .u32), (3, .lf (.i .i64))], zk.l0 k⟩]
theorem zk.ok1 : Fo 33 (sg [.lf (.is .u32)] [.lf (.is .u32)]) zk.f := fo 21 Tryz.func33 .z [[tt, tt, ff, ff]] fun k => [⟨[(0, .lf (.is .u32)), (3, .lf (.i .i64))], zk.l0 k⟩]
theorem z7.ok : Fo 18 (sg [.lf (.is .u32), .lf (.i .i64)] [.lf (.is .u32)]) z7.f := fo 45 Tryz.func18 (.t zk.ok zk.ok1 .z) [[tt, tt, tt, tt, tt, ff, tt, ff]] fun k => [⟨[(0, .lf (.is .u32)), (5, .ow .u32), (6, .lf (.i .i64)), (7, .lf (.i .u64)), (8, .lf (.i .i64))], z7.l0 k⟩]
theorem z6.ok : Fo 15 (sg [.lf (.i .u64)] [.lf (.is .u32)]) z6.f := fo 10 Tryz.func15 (.t zk.ok zk.ok1 .z)
theorem zaq.ok : Fo 34 (sg [.lf (.is .u32), .lf (.i .u32)] [.lf (.is .u32), .lf (.is .u32)]) zaq.f := fo 43 Tryz.func34 (.o z6.ok (.t zk.ok zk.ok1 .z)) [[tt, tt, tt, ff, tt, ff]] fun k => [⟨[(0, .lf (.is .u32)), (1, .lf (.i .u32)), (6, .ow .u32), (7, .lf (.i .u64)), (8, .lf (.i .i64))], zaq.l0 k⟩]
theorem z5.ok : Fo 35 (sg [.lf (.is .u32)] [.lf (.i .i64)]) z5.f := fo 25 Tryz.func35 .z [[tt, tt, tt, ff, tt, ff]] fun k => [⟨[(3, .lf (.i .i64)), (4, .lf (.i .u32))], z5.l0 k⟩]
theorem za7.ok : Fo 37 (sg [.lf (.is .u32), .lf (.i .i64)] [.lf (.i .u32)]) fun _ => za7.f := fo 23 Tryz.func37 .z
theorem zJ.ok : Fo 40 (sg [.lf (.is .u32)] [.lf (.i .i64)]) zJ.f := fo 31 Tryz.func40 (.o za7.ok .z) [[tt, tt, ff, ff]] fun k => [⟨[(0, .lf (.is .u32)), (3, .lf (.i .i64))], zJ.l0 k⟩]
theorem zP.ok : Fo 36 (sg [.lf (.is .u32), .lf (.i .i64)] [.lf (.is .u32), .lf (.b)]) zP.f := fo 63 Tryz.func36 (.t zk.ok zk.ok1 (.o z5.ok (.o zJ.ok .z))) [[tt, tt, tt, tt, tt, ff, tt, ff]] fun k => [⟨[(0, .lf (.is .u32)), (6, .lf (.b)), (7, .ow .u32), (8, .lf (.i .i64)), (9, .lf (.i .i64))], zP.l0 k⟩]
theorem zl.ok : Fo 17 (sg [.lf (.is .u32), .lf (.is .u32)] [.lf (.is .u32)]) zl.f := fo 55 Tryz.func17 (.t zk.ok zk.ok1 .z) [[tt, tt, tt, ff, tt, ff], [tt, tt, tt, ff, tt, ff, ff, tt, ff, ff, tt], [tt, tt, tt, ff, tt, ff, ff, tt, ff, ff, tt, tt]] fun k => [⟨[(0, .lf (.is .u32)), (1, .lf (.is .u32)), (5, .ow .u32), (6, .lf (.i .u64)), (7, .lf (.i .i64))], zl.l0 k⟩, ⟨[(0, .lf (.is .u32)), (1, .lf (.is .u32)), (5, .ow .u32), (6, .lf (.i .u64)), (7, .lf (.i .i64))], zl.j2 k⟩, ⟨[(0, .lf (.is .u32)), (1, .lf (.is .u32)), (5, .ow .u32), (6, .lf (.i .u64)), (7, .lf (.i .i64))], zl.j3 k⟩]
theorem zao.ok : Fo 38 (sg [.lf (.is .u32), .lf (.is .u32)] [.lf (.i .i64)]) zao.f := fo 41 Tryz.func38 .z [[tt, tt, ff, tt, ff]] fun k => [⟨[(0, .lf (.is .u32)), (1, .lf (.is .u32)), (5, .lf (.i .i64))], zao.l0 k⟩]
theorem zn.ok : Fo 39 (sg [.lf (.is .u32), .lf (.is .u32)] [.lf (.is .u32)]) zn.f := fo 47 Tryz.func39 (.t zk.ok zk.ok1 .z) [[tt, tt, tt, ff, tt, ff], [tt, tt, tt, ff, tt, ff, ff, tt, ff, ff, tt, tt], [tt, tt, tt, ff, tt, ff, ff, tt, ff, ff, tt, tt, tt, tt, tt]] fun k => [⟨[(0, .lf (.is .u32)), (1, .lf (.is .u32)), (5, .ow .u32), (6, .lf (.i .u64)), (7, .lf (.i .i64))], zn.l0 k⟩, ⟨[(0, .lf (.is .u32)), (1, .lf (.is .u32)), (5, .ow .u32), (7, .lf (.i .i64)), (8, .lf (.i .u64))], zn.j1 k⟩, ⟨[(0, .lf (.is .u32)), (1, .lf (.is .u32)), (5, .ow .u32), (6, .lf (.i .u64)), (7, .lf (.i .i64)), (8, .lf (.i .u64)), (9, .lf (.i .u64))], zn.j2 k⟩]
theorem zB.ok : Fo 16 (sg [.lf (.is .u32), .lf (.is .u32)] [.lf (.is .u32), .lf (.is .u32)]) zB.f := fo 75 Tryz.func16 (.o zl.ok (.o z7.ok (.t zk.ok zk.ok1 (.o zaq.ok (.o z5.ok (.o zP.ok (.o za7.ok (.o zao.ok (.o zn.ok .z))))))))) [[tt, tt, tt, tt, tt, ff, tt, ff], [tt, tt, tt, tt, tt, ff, tt, ff, ff, tt, ff, ff, tt, tt]] fun k => [⟨[(0, .lf (.is .u32)), (1, .lf (.is .u32)), (6, .ow .u32), (8, .lf (.is .u32)), (10, .lf (.i .i64))], zB.l0 k⟩, ⟨[(0, .lf (.is .u32)), (1, .lf (.is .u32)), (6, .ow .u32), (8, .lf (.is .u32)), (10, .lf (.i .i64))], zB.j2 k⟩]
theorem zu.ok : Fo 64 (sg [.lf (.i .u64), .lf (.i .i64), .lf (.b)] [.lf (.is .u32), .lf (.i .i64)]) zu.f := fo 66 Tryz.func64 (.o z6.ok (.o zB.ok (.o zl.ok (.o z7.ok (.o zn.ok .z))))) [[tt, tt, tt, tt, tt, ff, tt, ff], [tt, tt, tt, tt, tt, ff, tt, ff, ff, tt, ff, ff, tt, ff, tt], [tt, tt, tt, tt, tt, ff, tt, ff, ff, tt, ff, ff, tt, tt]] fun k => [⟨[(2, .lf (.b)), (8, .lf (.is .u32)), (9, .lf (.is .u32)), (10, .lf (.is .u32)), (12, .lf (.is .u32)), (13, .lf (.i .i64)), (14, .lf (.i .u64))], zu.l0 k⟩, ⟨[(2, .lf (.b)), (8, .lf (.is .u32)), (9, .lf (.is .u32)), (10, .lf (.is .u32)), (12, .lf (.is .u32)), (13, .lf (.i .i64)), (14, .lf (.i .u64)), (15, .lf (.is .u32)), (47, .lf (.b))], zu.j1 k⟩, ⟨[(2, .lf (.b)), (8, .lf (.is .u32)), (9, .lf (.is .u32)), (10, .lf (.is .u32)), (12, .lf (.is .u32)), (13, .lf (.i .i64)), (14, .lf (.i .u64))], zu.j2 k⟩]
theorem zr.ok : Fo 14 (sg [.lf (.is .u32), .lf (.is .u32)] [.lf (.is .u32)]) zr.f := fo 85 Tryz.func14 (.t zk.ok zk.ok1 .z) [[tt, tt, tt, tt, tt, ff, tt, ff], [tt, tt, tt, tt, tt, ff, tt, ff, ff, tt, ff, ff, tt, tt, ff, tt, ff], [tt, tt, tt, tt, tt, ff, tt, ff, ff, tt, ff, ff, tt, tt]] fun k => [⟨[(0, .lf (.is .u32)), (1, .lf (.is .u32)), (5, .ow .u32), (6, .lf (.i .u64)), (7, .lf (.i .u64)), (8, .lf (.i .i64))], zr.l0 k⟩, ⟨[(0, .lf (.is .u32)), (1, .lf (.is .u32)), (5, .ow .u32), (6, .lf (.i .u64)), (7, .lf (.i .u64)), (8, .lf (.i .i64)), (10, .lf (.i .i64))], zr.l1 k⟩, ⟨[(0, .lf (.is .u32)), (1, .lf (.is .u32)), (5, .ow .u32), (6, .lf (.i .u64)), (7, .lf (.i .u64)), (8, .lf (.i .i64)), (9, .lf (.i .i64))], zr.j3 k⟩]
theorem zaB.ok : Fo 19 (sg [.lf (.b), .lf (.is .u32), .lf (.i .i64)] [.ag [.b, .is .u32, .i .i64]]) zaB.f := fo 28 Tryz.func19 (.o zP.ok (.o zJ.ok .z))
theorem zW.ok : Fo 49 (sg [.lf (.rw [.i .u64, .i .u64]), .lf (.i .i64), .lf (.b)] [.ag [.b, .is .u32, .i .i64], .ag [.b, .is .u32, .i .i64]]) zW.f := fo 66 Tryz.func49 (.o zr.ok (.o z6.ok (.o zl.ok (.o zaB.ok (.o zn.ok (.o zu.ok .z)))))) [[tt, tt, tt, ff, tt, ff]] fun k => [⟨[(0, .lf (.rw [.i .u64, .i .u64])), (1, .lf (.i .i64)), (2, .lf (.b)), (6, .bx [.b, .is .u32, .i .i64]), (7, .bx [.b, .is .u32, .i .i64]), (8, .lf (.is .u32)), (9, .lf (.i .u64)), (10, .lf (.i .i64))], zW.l0 k⟩]
theorem za8.ok : Fo 50 (sg [.ag [.b, .is .u32, .i .i64], .lf (.i .i64)] [.ag [.b, .is .u32, .i .i64], .lf (.b)]) za8.f := fo 33 Tryz.func50 (.o zaB.ok (.o z5.ok (.o zP.ok .z)))
theorem zar.ok : Fo 32 (sg [.lf (.rw [.i .u64, .i .u64]), .lf (.i .i64), .lf (.b)] [.ag [.b, .is .u32, .i .i64]]) zar.f := fo 41 Tryz.func32 (.o zad.ok (.o zW.ok (.o za8.ok .z))) [[tt, tt, ff]] fun k => [⟨[(0, .lf (.rw [.i .u64, .i .u64])), (1, .lf (.i .i64)), (2, .lf (.b)), (6, .bx [.b, .is .u32, .i .i64]), (7, .lf (.i .i64))], zar.l0 k⟩]
theorem zbE.ok : Fo 11 (sg [.lf (.i .i64)] [.ag [.b, .is .u32, .i .i64]]) zbE.f := fo 9 Tryz.func11 (.o zar.ok .z)
theorem zbD.ok : Fo 12 (sg [.lf (.i .i64)] [.ag [.b, .is .u32, .i .i64]]) zbD.f := fo 9 Tryz.func12 (.o zar.ok .z)
theorem zaC.ok : Fo 27 (sg [.lf (.i .i64)] [.ag [.b, .is .u32, .i .i64]]) zaC.f := fo 15 Tryz.func27 (.o z6.ok (.o zaB.ok .z)) [[tt, tt, tt]] fun k => [⟨[(0, .lf (.i .i64)), (2, .bx [.b, .is .u32, .i .i64]), (3, .lf (.i .u64))], zaC.j0 k⟩]
theorem zbC.ok : Fo 20 (sg [.lf (.i .i64)] [.ag [.b, .is .u32, .i .i64]]) fun _ => zbC.f := fo 6 Tryz.func20 .z
theorem zbB.ok : Fo 13 (sg [] [.lf (.b)]) zbB.f := fo 37 Tryz.func13 (.o zby.ok (.o zaL.ok (.o za5.ok (.o zad.ok (.o zbC.ok (.o zaC.ok .z))))))
theorem zD.ok : Fo 3 (sg [.lf (.i .i64)] [.lf (.b)]) zD.f := fo 86 Tryz.func3 (.o zby.ok (.o zbx.ok (.o za5.ok (.o za6.ok (.o zad.ok (.o zbE.ok (.o zbD.ok (.o zbB.ok .z)))))))) [[tt, tt, tt, ff, tt, ff], [tt, tt, tt, ff, tt, ff, ff, tt, ff, ff, tt, tt, tt, tt, tt, ff]] fun k => [⟨[(0, .lf (.i .i64)), (3, .bx [.i .u32, .i .i32, .i .u32, .b, .is .u32, .i .i64, .b, .is .u32, .i .i64]), (4, .lf (.i .i64))], zD.l0 k⟩, ⟨[(0, .lf (.i .i64)), (3, .bx [.i .u32, .i .i32, .i .u32, .b, .is .u32, .i .i64, .b, .is .u32, .i .i64]), (4, .lf (.i .i64)), (5, .bxo [.b] .u32 [.i .i64]), (10, .lf (.i .i64))], zD.l1 k⟩]
end Go.Proofs.YtlngoohfkaceoaaGreatDoor.Eng
