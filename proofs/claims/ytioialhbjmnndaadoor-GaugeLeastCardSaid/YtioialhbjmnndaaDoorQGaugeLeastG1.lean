import Derived.Test.YtioialhbjmnndaaDoorQGaugeLeastF1
import Derived.Tactics
import Derived.BigQuiet
import Derived.WalkKit
import Derived.OwnWalk
import Derived.Lib.TrailingZeros
set_option linter.unusedVariables false
set_option linter.unusedSimpArgs false
namespace Go.Proofs.YtioialhbjmnndaaDoor.Eng
open Go.RowKit Go.Proofs Go
set_option maxRecDepth 100000
def zdJ (w : World) : Prop := ∀ j, j < 32 → w.cell? ⟨0, j, none⟩ = some (.int .u8 (Lib.deBruijn32tab.getD j 0))
theorem zhL (x k idx : Nat) (w : World) (hx0 : ((x : Int) == 0) = false)
  (key : bits BinOp.and IntKind.u32 (x : Int) (-(x : Int) % 4294967296) * 125613361 % 4294967296 / 134217728 = (idx : Int))
  (hi : idx < 32) (hk : k < 32) (hcell : w.cell? ⟨0, idx, none⟩ = some (.int .u8 k)) :
  Calls Tryd.prog 75 #[.int .u32 x] w fun e w' => e = .returned (.int .i64 k) ∧ w' = w := by
 go_enter Tryd.func75, Tryd.ntmps75
 go_wp2_with (simp only [key])
 go_ret
 exact ⟨rfl, rfl⟩
theorem zhO (w : World) : Calls Tryd.prog 75 #[.int .u32 0] w fun e w' => e = .returned (.int .i64 32) ∧ w' = w := by
 go_enter Tryd.func75, Tryd.ntmps75
 go_wp2
 go_ret
 exact ⟨rfl, rfl⟩
theorem zfP (a b : Nat) (ha : a < 4294967296) (hb : b < 4294967296) : bits .and .u32 (a : Int) (b : Int) = ((a &&& b : Nat) : Int) := by
 have hx : a &&& b < 2 ^ 32 := Nat.and_lt_two_pow _ (by omega)
 have h1 : (BitVec.ofInt 32 (a : Int)).toNat = a := by
  rw [BitVec.ofInt_natCast, BitVec.toNat_ofNat]; exact Nat.mod_eq_of_lt (by omega)
 have h2 : (BitVec.ofInt 32 (b : Int)).toNat = b := by
  rw [BitVec.ofInt_natCast, BitVec.toNat_ofNat]; exact Nat.mod_eq_of_lt (by omega)
 show IntKind.u32.wrap ((BitVec.ofInt 32 (a : Int) &&& BitVec.ofInt 32 (b : Int)).toNat : Int) = _
 have h3 : ∀ n : Int, IntKind.u32.wrap n = n % 4294967296 := fun n => by simp [IntKind.wrap, IntKind.signed, IntKind.bits]
 rw [BitVec.toNat_and, h1, h2, h3]
 omega
theorem zhN (x a : Nat) (hx : x < 4294967296) (hx0 : x ≠ 0) (hlow : x &&& (4294967296 - x) = a) :
  bits BinOp.and IntKind.u32 (x : Int) (-(x : Int) % 4294967296) * 125613361 % 4294967296 / 134217728 = ((a * 125613361 % 4294967296 / 134217728 : Nat) : Int) := by
 have e1 : -(x : Int) % 4294967296 = ((4294967296 - x : Nat) : Int) := by omega
 rw [e1, zfP x _ hx (by omega), hlow]
 omega
theorem zhK (a0 r : Int) (w : World) (hT : zdJ w) (h : z9.f a0 = some r) :
  Calls Tryd.prog 75 #[.int .u32 a0] w fun e w' => e = .returned (.int .i64 r) ∧ w' = w := by
 unfold z9.f at h
 split at h
 case isFalse => cases h
 rename_i hx
 obtain ⟨x, rfl⟩ := Int.eq_ofNat_of_zero_le hx.1
 obtain rfl := Option.some.inj h
 rw [Int.toNat_natCast]
 by_cases hx0 : x = 0
 ·subst hx0
  exact zhO w
 ·obtain ⟨hlow, hk⟩ := Lib.lowest_bit 32 x hx0 (by omega)
  obtain ⟨hi, htab⟩ := Lib.deBruijn32_at _ hk
  have hcell := hT _ hi
  rw [htab] at hcell
  exact zhL x _ _ w (by simp; omega) (zhN x _ (by omega) hx0 hlow) hi hk hcell
theorem z9.ok : ∀ k, qK Tryd.prog zbc 75 (z9.F k) := by
 intro k
 refine ⟨⟨Tryd.f75, qdJ Tryd.f75, Tryd.func75, by kernel_rfl, by kernel_rfl⟩, rfl, rfl, fun M φ w args ls r hgl hc hr => ?_⟩
 have hlf := qap hr
 obtain ⟨x, rfl⟩ : ∃ x, ls = [.int .u32 x] := by
  clear hc hr
  obtain ⟨y, rfl⟩ := List.length_eq_one_iff.1 (qaq hlf).1
  simp only [z9.F, qo, qD, qf, qB, Bool.and_true, List.append_nil] at hlf
  cases y <;> first | (cases hlf; done) | exact ⟨_, by rw [← qz hlf]⟩
 have hr : z9.f x = some r := hr
 have ha : args = #[.int .u32 x] := by
  have hs := hc.size
  have hs : args.size = 1 := hs
  have h1 := (hc.args 0 args[0] (by simp [hs])).1
  apply Array.ext
  ·simp [hs]
  ·intro i h1' h2'
   have : i = 0 := by simp at h2'; omega
   subst this
   exact h1
 have hT : zdJ w := fun j hj => hc.rel.holds 0 j _ (hgl 0 j _ (by unfold zbc; rw [if_pos ⟨rfl, hj⟩]))
 subst ha
 refine (zhK x r w hT hr).mono fun e w' h => ⟨_, h.1, rfl, M, φ, ⟨rfl, qa6 _⟩, ?_, ?_, qp.refl φ⟩
 ·rw [h.2]; exact hc.rel
 ·rw [h.2]; exact Stp.refl M φ _ w
open Go.RowKit Go.Proofs
theorem zfB : TOk Tryd.prog TT := qio (by kernel_rfl)
theorem zgo : Tryd.prog.follows .mixedOrders = true := by kernel_rfl
abbrev Fo (n : Nat) (S : Sig) (f : Nat → Fn (qo S.ps) (Option S.R)) : Prop := ∀ k, qK Tryd.prog zbc n ⟨S, f k⟩
theorem fo {n : Nat} {ps rs : List Kx} {f : Nat → Fn (qo ps) (Option (sg ps rs).R)} {G : Nat → List (Nat × List Fun)} {fn : Func}
  (nt : Nat) (hf : Tryd.prog.funcs[n]? = some fn) (gs : GP Tryd.prog zbc G) (ds : List (List Bool) := []) (H : Nat → List (qaA (sg ps rs).R) := fun _ => []) (frz : List Nat := [])
  (hname : (fn.name == "runtime.NumGoroutine") = false := by kernel_rfl) (hbody : fn.body = some (qdJ fn) := by kernel_rfl) (hnt : nt = fn.ntmps := by kernel_rfl) (hr : rs.all qah = true := by kernel_rfl)
  (hck : qca (qaO (sg ps rs)) (zc ds (H 0)) = true := by kernel_rfl)
  (h0 : qbZ (H 0) := by ((repeat (refine ⟨by ((repeat (intro _)); show _ = _; kernel_rfl), ?_⟩)); trivial))
  (hs : ∀ k, qb6 (mkC TT zbc G nt (zc ds (H 0)) frz k) (sg ps rs) (qdJ fn) fn.results.toList (qaL (H k)) (zc ds (H 0)) (H (k + 1)) := by (intro k; (repeat (refine ⟨rfl, by ((repeat (intro _)); show _ = _; kernel_rfl), ?_⟩)); trivial))
  (he : ∀ k, qW (qo ps) (fun ls y => qet (mkC TT zbc G nt (zc ds (H 0)) frz k) (sg ps rs) (qdJ fn) fn.results.toList (qaL (H k)) ls = y) (f k) := by ((repeat (intro _)); show _ = _; kernel_rfl)) : Fo n (sg ps rs) f :=
 qK.mk' zfB zgo nt hf gs ds H frz hname hbody hnt hr hck h0 hs he
theorem zbK.ok : Fo 4 (sg [.ag [.b, .is .u32, .i .i64, .b, .is .u32, .i .i64, .b, .is .u32, .i .i64]] [.lf (.b)]) fun _ => zbK.f := fo 18 Tryd.func4 .z
theorem za1.ok : Fo 28 (sg [.lf (.i .u8)] [.lf (.b)]) fun _ => za1.f := fo 9 Tryd.func28 .z
theorem zbk.ok : Fo 29 (sg [.lf (.i .u8), .lf (.i .u64)] [.lf (.i .i64)]) fun _ => zbk.f := fo 14 Tryd.func29 (.o za1.ok .z)
theorem zZ.ok : Fo 12 (sg [.lf (.i .u8), .lf (.rw [.i .u64, .i .u64])] [.lf (.i .i64)]) zZ.f := fo 33 Tryd.func12 (.o za1.ok (.o zbk.ok .z)) [[tt, tt, ff, tt, ff]] fun k => [⟨[(0, .lf (.i .u8)), (1, .lf (.rw [.i .u64, .i .u64])), (5, .lf (.i .i64))], zZ.l0 k⟩]
theorem zca.ok : Fo 30 (sg [.lf (.is .u32)] [.lf (.b)]) fun _ => zca.f := fo 20 Tryd.func30 .z
theorem zaY.ok : Fo 13 (sg [.ag [.b, .is .u32, .i .i64]] [.lf (.b)]) fun _ => zaY.f := fo 35 Tryd.func13 (.o zca.ok .z)
theorem zbM.ok : Fo 14 (sg [.ag [.b, .is .u32, .i .i64]] [.lf (.i .i64)]) fun _ => zbM.f := fo 9 Tryd.func14 .z
theorem zbQ.ok : Fo 47 (sg [.lf (.i .u8)] [.lf (.i .u64)]) fun _ => zbQ.f := fo 5 Tryd.func47 .z
theorem za0.ok : Fo 27 (sg [.lf (.i .u8)] [.lf (.i .i64)]) fun _ => za0.f := fo 5 Tryd.func27 .z
theorem za2.ok : Fo 24 (sg [.lf (.i .u8), .lf (.i .u64)] [.ag [.b, .i .i64, .i .u64]]) fun _ => za2.f := fo 28 Tryd.func24 (.o za0.ok (.o zbQ.ok .z))
theorem zbP.ok : Fo 65 (sg [.lf (.i .u8)] [.lf (.i .i64)]) fun _ => zbP.f := fo 5 Tryd.func65 .z
theorem zbN.ok : Fo 48 (sg [.lf (.i .u8), .lf (.i .u64)] [.lf (.i .u8)]) fun _ => zbN.f := fo 28 Tryd.func48 (.o za2.ok (.o zbP.ok .z))
theorem zbj.ok : Fo 31 (sg [.lf (.i .u8), .lf (.i .u64)] [.lf (.b)]) fun _ => zbj.f := fo 15 Tryd.func31 (.o zbN.ok .z)
theorem zbR.ok : Fo 15 (sg [.lf (.i .u8), .ag [.i .u64, .i .u64]] [.lf (.b)]) fun _ => zbR.f := fo 15 Tryd.func15 (.o zbj.ok .z)
theorem zac.ok : Fo 16 (sg [.lf (.rw [.b, .is .u32, .i .i64])] [.lf (.b)]) zac.f := fo 33 Tryd.func16 .z [[tt, ff, tt, ff]] fun k => [⟨[(0, .lf (.rw [.b, .is .u32, .i .i64])), (3, .lf (.i .i64))], zac.l0 k⟩]
theorem zaX.ok : Fo 5 (sg [.lf (.i .u8), .ag [.i .u64, .i .u64], .ag [.b, .is .u32, .i .i64, .b, .is .u32, .i .i64, .b, .is .u32, .i .i64], .lf (.i .i64)] [.lf (.i .i64)]) zaX.f := fo 54 Tryd.func5 (.o zZ.ok (.o zaY.ok (.o zbM.ok (.o zbR.ok (.o zac.ok .z)))))
theorem zx.ok : Fo 46 (sg [.ow .u32] [.ow .u32]) zx.f := fo 21 Tryd.func46 .z [[tt, tt, ff, ff]] fun k => [⟨[(0, .ow .u32), (3, .lf (.i .i64))], zx.l0 k⟩]
theorem zx.ok1 : Fo 46 (sg [.lf (.is .u32)] [.lf (.is .u32)]) zx.f := fo 21 Tryd.func46 .z [[tt, tt, ff, ff]] fun k => [⟨[(0, .lf (.is .u32)), (3, .lf (.i .i64))], zx.l0 k⟩]
theorem zaN.ok : Fo 25 (sg [.lf (.i .u64)] [.lf (.is .u32)]) zaN.f := fo 10 Tryd.func25 (.t zx.ok zx.ok1 .z)
theorem zbL.ok : Fo 63 (sg [.lf (.is .u32), .lf (.i .i64)] [.lf (.i .u32)]) fun _ => zbL.f := fo 23 Tryd.func63 .z
theorem zY.ok : Fo 44 (sg [.lf (.is .u32)] [.lf (.i .i64)]) zY.f := fo 31 Tryd.func44 (.o zbL.ok .z) [[tt, tt, ff, ff]] fun k => [⟨[(0, .lf (.is .u32)), (3, .lf (.i .i64))], zY.l0 k⟩]
theorem zaw.ok : Fo 64 (sg [.lf (.is .u32)] [.lf (.i .i64)]) zaw.f := fo 25 Tryd.func64 .z [[tt, tt, tt, ff, tt, ff]] fun k => [⟨[(3, .lf (.i .i64)), (4, .lf (.i .u32))], zaw.l0 k⟩]
theorem zab.ok : Fo 45 (sg [.lf (.is .u32), .lf (.i .i64)] [.lf (.is .u32), .lf (.b)]) zab.f := fo 63 Tryd.func45 (.o zY.ok (.t zx.ok zx.ok1 (.o zaw.ok .z))) [[tt, tt, tt, tt, tt, ff, tt, ff]] fun k => [⟨[(0, .lf (.is .u32)), (6, .lf (.b)), (7, .ow .u32), (8, .lf (.i .i64)), (9, .lf (.i .i64))], zab.l0 k⟩]
theorem zaz.ok : Fo 22 (sg [.lf (.b), .lf (.is .u32), .lf (.i .i64)] [.ag [.b, .is .u32, .i .i64]]) zaz.f := fo 28 Tryd.func22 (.o zY.ok (.o zab.ok .z))
theorem zaA.ok : Fo 17 (sg [.lf (.i .i64)] [.ag [.b, .is .u32, .i .i64]]) zaA.f := fo 15 Tryd.func17 (.o zaz.ok (.o zaN.ok .z)) [[tt, tt, tt]] fun k => [⟨[(0, .lf (.i .i64)), (2, .bx [.b, .is .u32, .i .i64]), (3, .lf (.i .u64))], zaA.j0 k⟩]
theorem zco.ok : Fo 90 (sg [.lf (.i .u8)] [.ag [.i .i64, .i .i64, .i .u64], .lf (.b)]) fun _ => zco.f := fo 12 Tryd.func90 .z
theorem zW.ok : Fo 81 (sg [.lf (.i .u8), .lf (.is .u64)] [.ag [.i .i64, .i .i64, .i .u64], .lf (.i .i64)]) zW.f := fo 35 Tryd.func81 (.o zco.ok .z) [[tt, tt, tt, ff, tt, ff]] fun k => [⟨[(4, .bx [.i .i64, .i .i64, .i .u64]), (6, .bx [.i .i64, .i .i64, .i .u64]), (18, .lf (.is .u64)), (19, .lf (.i .i64)), (20, .lf (.i .i64))], zW.l0 k⟩]
theorem zbC.ok : Fo 66 (sg [.lf (.i .u8), .lf (.i .u64)] [.lf (.i .i64)]) zbC.f := fo 15 Tryd.func66 (.o zW.ok .z)
theorem zbZ.ok : Fo 49 (sg [.lf (.i .u8), .ag [.i .u64, .i .u64]] [.lf (.i .i64)]) zbZ.f := fo 17 Tryd.func49 (.o zbC.ok .z)
theorem zbD.ok : Fo 91 (sg [.ag [.i .i64, .i .i64, .i .u64]] [.lf (.i .u64)]) fun _ => zbD.f := fo 9 Tryd.func91 .z
theorem zbe.ok : Fo 82 (sg [.ag [.i .i64, .i .i64, .i .u64], .lf (.i .u64)] [.lf (.i .u8)]) fun _ => zbe.f := fo 29 Tryd.func82 (.o zbD.ok .z)
theorem zbB.ok : Fo 67 (sg [.lf (.i .u8), .lf (.i .u64)] [.lf (.i .u8), .lf (.i .i64)]) zbB.f := fo 21 Tryd.func67 (.o zW.ok (.o zbe.ok .z))
theorem zO.ok : Fo 50 (sg [.lf (.i .u8), .ag [.i .u64, .i .u64]] [.lf (.i .u8), .lf (.i .i64)]) zO.f := fo 51 Tryd.func50 (.o zbB.ok .z) [[tt, tt, tt, tt, ff, ff, tt, tt, tt], [tt, tt, tt, tt, ff, ff, tt, tt, tt, tt, tt]] fun k => [⟨[(6, .lf (.i .u8)), (8, .lf (.i .u8)), (30, .lf (.b))], zO.j1 k⟩, ⟨[(6, .lf (.i .u8)), (8, .lf (.i .u8)), (37, .lf (.b))], zO.j2 k⟩]
theorem zF.ok : Fo 32 (sg [.lf (.i .u8), .lf (.rw [.i .u64, .i .u64])] [.lf (.i .i64)]) zF.f := fo 40 Tryd.func32 (.o zbZ.ok (.o zO.ok .z)) [[tt, ff, tt, ff], [tt, tt, ff, tt, ff]] fun k => [⟨[(0, .lf (.i .u8)), (1, .lf (.rw [.i .u64, .i .u64])), (12, .lf (.rw [.i .u64, .i .u64])), (13, .lf (.i .i64)), (14, .lf (.i .i64))], zF.l0 k⟩, ⟨[(0, .lf (.i .u8)), (25, .lf (.rw [.i .u64, .i .u64])), (26, .lf (.i .i64)), (27, .lf (.i .i64))], zF.l1 k⟩]
theorem zT.ok : Fo 51 (sg [.lf (.is .u32)] [.lf (.b)]) fun _ => zT.f := fo 20 Tryd.func51 .z
theorem zbq.ok : Fo 52 (sg [.lf (.i .i64)] [.lf (.b)]) fun _ => zbq.f := fo 9 Tryd.func52 .z
theorem zt.ok : Fo 33 (sg [.ag [.b, .is .u32, .i .i64]] [.lf (.b)]) fun _ => zt.f := fo 30 Tryd.func33 (.o zT.ok (.o zbq.ok .z))
theorem zad.ok : Fo 34 (sg [.ag [.b, .is .u32, .i .i64]] [.lf (.i .i64)]) zad.f := fo 16 Tryd.func34 (.o zt.ok .z) [[tt, ff, ff, tt]] fun k => [⟨[(1, .bx [.b, .is .u32, .i .i64]), (3, .lf (.b))], zad.j0 k⟩]
theorem zj.ok : Fo 18 (sg [.lf (.i .u8), .ag [.i .u64, .i .u64], .lf (.i .i64), .ag [.b, .is .u32, .i .i64], .ag [.b, .is .u32, .i .i64], .ag [.b, .is .u32, .i .i64]] [.lf (.i .i64)]) zj.f := fo 75 Tryd.func18 (.o zF.ok (.o zt.ok (.o zad.ok .z))) [[tt, tt, tt, tt, ff, tt, ff], [tt, tt, tt, ff, ff, tt]] fun k => [⟨[(56, .ag [.b, .is .u32, .i .i64, .b, .is .u32, .i .i64, .b, .is .u32, .i .i64]), (57, .lf (.i .i64))], zj.l0 k⟩, ⟨[(9, .bx [.b, .is .u32, .i .i64]), (10, .bx [.b, .is .u32, .i .i64]), (11, .bx [.b, .is .u32, .i .i64]), (13, .lf (.i .i64)), (27, .lf (.b))], zj.j2 k⟩]
theorem zb3.ok : Fo 68 (sg [.lf (.i .u8), .lf (.i .u64)] [.ag [.i .i64, .i .i64, .i .u64], .lf (.i .i64)]) zb3.f := fo 25 Tryd.func68 (.o zW.ok (.o zbe.ok .z))
theorem zb5.ok : Fo 69 (sg [.ag [.i .i64, .i .i64, .i .u64], .lf (.i .u64)] [.ag [.b, .i .i64, .i .u64]]) fun _ => zb5.f := fo 27 Tryd.func69 .z
theorem zk.ok : Fo 60 (sg [.ow .u32] [.ow .u32]) zk.f := fo 21 Tryd.func60 .z [[tt, ff, ff]] fun k => [⟨[(0, .ow .u32)], zk.l0 k⟩]
theorem zk.ok1 : Fo 60 (sg [.lf (.is .u32)] [.lf (.is .u32)]) zk.f := fo 21 Tryd.func60 .z [[tt, ff, ff]] fun k => [⟨[(0, .lf (.is .u32))], zk.l0 k⟩]
theorem zaq.ok : Fo 42 (sg [.lf (.i .u64)] [.lf (.is .u32)]) zaq.f := fo 10 Tryd.func42 (.t zk.ok zk.ok1 .z)
theorem zb4.ok : Fo 70 (sg [.ag [.i .i64, .i .i64, .i .u64]] [.lf (.i .i64)]) fun _ => zb4.f := fo 10 Tryd.func70 .z
theorem zS.ok : Fo 58 (sg [.lf (.is .u32)] [.lf (.i .i64)]) zS.f := fo 23 Tryd.func58 (.o zT.ok (.o z9.ok .z)) [[tt, tt, ff, tt, ff]] fun k => [⟨[(8, .lf (.is .u32)), (9, .lf (.i .i64)), (10, .lf (.i .i64))], zS.l0 k⟩]
theorem zah.ok : Fo 76 (sg [.lf (.is .u32), .lf (.i .i64)] [.lf (.is .u32)]) zah.f := fo 60 Tryd.func76 (.t zk.ok zk.ok1 .z) [[tt, tt, tt, tt, tt, ff, tt, ff]] fun k => [⟨[(0, .lf (.is .u32)), (5, .lf (.i .i64)), (6, .ow .u32), (23, .lf (.is .u32)), (24, .lf (.i .i64)), (25, .lf (.i .i64))], zah.l0 k⟩]
theorem zK.ok : Fo 88 (sg [.lf (.i .u32)] [.lf (.i .i64)]) zK.f := fo 19 Tryd.func88 .z [[tt, tt], [tt, tt, tt]] fun k => [⟨[(0, .lf (.i .u32)), (2, .lf (.i .i64))], zK.j0 k⟩, ⟨[(0, .lf (.i .u32)), (2, .lf (.i .i64))], zK.j1 k⟩]
theorem zR.ok : Fo 77 (sg [.lf (.is .u32)] [.lf (.i .i64)]) zR.f := fo 23 Tryd.func77 (.o zT.ok (.o zK.ok .z))
theorem zar.ok : Fo 78 (sg [.lf (.is .u32), .lf (.i .i64)] [.ow .u32]) zar.f := fo 50 Tryd.func78 (.t zk.ok zk.ok1 .z) [[tt, tt, tt, tt, ff, tt, ff]] fun k => [⟨[(5, .ow .u32), (6, .lf (.i .i64)), (7, .lf (.i .u32)), (24, .lf (.is .u32)), (25, .lf (.i .i64)), (26, .lf (.i .i64))], zar.l0 k⟩]
theorem zN.ok : Fo 59 (sg [.lf (.is .u32), .lf (.i .i64)] [.lf (.is .u32), .lf (.b), .lf (.i .i64)]) zN.f := fo 39 Tryd.func59 (.o zT.ok (.o zS.ok (.o zah.ok (.o zR.ok (.o zar.ok .z)))))
theorem zM.ok : Fo 41 (sg [.lf (.b), .lf (.is .u32), .lf (.i .i64)] [.ag [.b, .is .u32, .i .i64], .lf (.i .i64)]) zM.f := fo 47 Tryd.func41 (.o zT.ok (.o zS.ok (.o zN.ok .z)))
theorem zat.ok : Fo 53 (sg [.lf (.i .u8), .lf (.i .u64)] [.ag [.b, .is .u32, .i .i64], .lf (.i .i64)]) zat.f := fo 47 Tryd.func53 (.o zM.ok (.o zaq.ok (.o zb3.ok (.o zb5.ok (.o zb4.ok .z))))) [[tt, tt, tt, tt, tt]] fun k => [⟨[(4, .bx [.b, .is .u32, .i .i64]), (6, .bx [.i .i64, .i .i64, .i .u64]), (8, .bx [.b, .i .i64, .i .u64])], zat.j1 k⟩]
theorem zbr.ok : Fo 35 (sg [.lf (.i .u8), .ag [.i .u64, .i .u64]] [.ag [.b, .is .u32, .i .i64, .b, .is .u32, .i .i64]]) zbr.f := fo 26 Tryd.func35 (.o zat.ok .z)
theorem zI.ok : Fo 61 (sg [.lf (.rw [.b, .is .u32, .i .i64])] [.lf (.b)]) zI.f := fo 15 Tryd.func61 (.o zt.ok .z) [[tt, ff, tt, ff]] fun k => [⟨[(5, .lf (.rw [.b, .is .u32, .i .i64])), (6, .lf (.i .i64)), (7, .lf (.i .i64))], zI.l0 k⟩]
theorem zJ.ok : Fo 85 (sg [.lf (.rw [.is .u32])] [.lf (.b)]) zJ.f := fo 15 Tryd.func85 (.o zT.ok .z) [[tt, ff, tt, ff]] fun k => [⟨[(5, .lf (.rw [.is .u32])), (6, .lf (.i .i64)), (7, .lf (.i .i64))], zJ.l0 k⟩]
theorem zu.ok : Fo 87 (sg [.lf (.is .u32), .lf (.is .u32)] [.lf (.is .u32)]) zu.f := fo 68 Tryd.func87 (.t zk.ok zk.ok1 .z) [[tt, tt, ff, tt, ff], [tt, tt, ff, tt, ff, ff, tt, tt, ff, ff, tt, tt, ff, tt, ff]] fun k => [⟨[(1, .lf (.is .u32)), (5, .ow .u32), (18, .lf (.is .u32)), (19, .lf (.i .i64)), (20, .lf (.i .i64))], zu.l0 k⟩, ⟨[(1, .lf (.is .u32)), (5, .ow .u32), (6, .lf (.i .i64)), (7, .lf (.i .u32)), (8, .lf (.i .u64)), (18, .lf (.is .u32)), (19, .lf (.i .i64)), (20, .lf (.i .i64)), (25, .lf (.is .u32)), (26, .lf (.i .i64)), (27, .lf (.i .i64))], zu.l1 k⟩]
theorem z6.ok : Fo 86 (sg [.ow .u32] [.ow .u32, .lf (.i .i64)]) fun _ => z6.f := fo 8 Tryd.func86 .z
theorem z6.ok1 : Fo 86 (sg [.lf (.is .u32)] [.lf (.is .u32), .lf (.i .i64)]) fun _ => z6.f := fo 8 Tryd.func86 .z
theorem zbX.ok : Fo 73 (sg [.lf (.is .u32), .lf (.is .u32)] [.lf (.is .u32), .lf (.i .i64)]) zbX.f := fo 34 Tryd.func73 (.o zJ.ok (.t z6.ok z6.ok1 (.o zu.ok .z)))
theorem zbo.ok : Fo 55 (sg [.ag [.b, .is .u32, .i .i64], .ag [.b, .is .u32, .i .i64]] [.ag [.b, .is .u32, .i .i64], .lf (.i .i64)]) zbo.f := fo 40 Tryd.func55 (.o zM.ok (.o zI.ok (.o zbX.ok .z)))
theorem zaf.ok : Fo 37 (sg [.ag [.b, .is .u32, .i .i64], .ag [.b, .is .u32, .i .i64]] [.ag [.b, .is .u32, .i .i64]]) zaf.f := fo 14 Tryd.func37 (.o zbo.ok .z)
theorem zaB.ok : Fo 57 (sg [.ag [.b, .is .u32, .i .i64]] [.ag [.b, .is .u32, .i .i64]]) fun _ => zaB.f := fo 8 Tryd.func57 .z
theorem zbS.ok : Fo 72 (sg [.ag [.b, .is .u32, .i .i64], .lf (.b)] [.ag [.b, .is .u32, .i .i64]]) fun _ => zbS.f := fo 16 Tryd.func72 (.o zaB.ok .z)
theorem z7.ok : Fo 89 (sg [.lf (.is .u32), .lf (.is .u32)] [.lf (.i .i64)]) z7.f := fo 43 Tryd.func89 .z [[tt, tt, ff, tt, ff]] fun k => [⟨[(0, .lf (.is .u32)), (1, .lf (.is .u32)), (5, .lf (.i .i64))], z7.l0 k⟩]
theorem zbi.ok : Fo 97 (sg [.lf (.i .u32), .lf (.i .u32), .lf (.i .u32)] [.lf (.i .u32), .lf (.i .u32)]) fun _ => zbi.f := fo 25 Tryd.func97 .z
theorem zG.ok : Fo 95 (sg [.lf (.is .u32), .lf (.is .u32)] [.lf (.is .u32)]) zG.f := fo 41 Tryd.func95 (.t zk.ok zk.ok1 (.o zbi.ok .z)) [[tt, tt, tt, ff, tt, ff], [tt, tt, tt, ff, tt, ff, ff, tt, tt, ff, ff, tt, tt, tt]] fun k => [⟨[(0, .lf (.is .u32)), (1, .lf (.is .u32)), (5, .ow .u32), (6, .lf (.i .u32)), (13, .lf (.i .i64)), (14, .lf (.i .i64))], zG.l0 k⟩, ⟨[(0, .lf (.is .u32)), (1, .lf (.is .u32)), (5, .ow .u32), (6, .lf (.i .u32)), (7, .lf (.i .i64)), (8, .lf (.i .u32)), (13, .lf (.i .i64)), (14, .lf (.i .i64))], zG.j1 k⟩]
theorem zaI.ok : Fo 92 (sg [.lf (.is .u32), .lf (.is .u32)] [.lf (.is .u32), .lf (.i .i64)]) zaI.f := fo 18 Tryd.func92 (.o zJ.ok (.o z7.ok (.o zG.ok .z)))
theorem zbh.ok : Fo 96 (sg [.lf (.i .u32), .lf (.i .u32), .lf (.i .u32)] [.lf (.i .u32), .lf (.i .u32)]) fun _ => zbh.f := fo 22 Tryd.func96 .z
theorem zl.ok : Fo 93 (sg [.lf (.is .u32), .lf (.is .u32)] [.lf (.is .u32), .lf (.i .i64)]) zl.f := fo 63 Tryd.func93 (.t zk.ok zk.ok1 (.o zJ.ok (.t z6.ok z6.ok1 (.o zbh.ok .z)))) [[tt, tt, tt, tt, tt, ff, tt, ff], [tt, tt, tt], [tt, tt, tt, tt, tt, ff, tt, ff, ff, tt, tt, ff, ff, tt, tt, tt]] fun k => [⟨[(0, .lf (.is .u32)), (1, .lf (.is .u32)), (6, .ow .u32), (7, .lf (.i .u32)), (27, .lf (.i .i64)), (28, .lf (.i .i64))], zl.l0 k⟩, ⟨[(0, .lf (.is .u32)), (1, .lf (.is .u32))], zl.j1 k⟩, ⟨[(0, .lf (.is .u32)), (1, .lf (.is .u32)), (6, .ow .u32), (7, .lf (.i .u32)), (8, .lf (.i .i64)), (9, .lf (.i .u32)), (27, .lf (.i .i64)), (28, .lf (.i .i64))], zl.j3 k⟩]
theorem zcz.ok : Fo 83 (sg [.ag [.b, .is .u32, .i .i64], .ag [.b, .is .u32, .i .i64], .lf (.i .i64)] [.ag [.b, .is .u32, .i .i64], .lf (.i .i64)]) zcz.f := fo 97 Tryd.func83 (.o zM.ok (.o zaq.ok (.o zS.ok (.o zN.ok (.o zR.ok (.o zaI.ok (.o zl.ok .z)))))))
theorem za5.ok : Fo 94 (sg [.lf (.b), .lf (.is .u32), .lf (.is .u32), .lf (.i .i64)] [.ag [.b, .is .u32, .i .i64], .lf (.i .i64)]) za5.f := fo 64 Tryd.func94 (.o zM.ok (.o zaq.ok (.o zN.ok (.o zl.ok .z)))) [[tt, tt, tt, tt, tt, tt]] fun k => [⟨[(0, .lf (.b)), (3, .lf (.i .i64)), (8, .bx [.b, .is .u32, .i .i64]), (16, .lf (.is .u32))], za5.j1 k⟩]
theorem za9.ok : Fo 80 (sg [.lf (.is .u32), .lf (.is .u32)] [.lf (.i .i64), .lf (.i .i64)]) za9.f := fo 14 Tryd.func80 (.o zJ.ok (.o z7.ok .z))
theorem zan.ok : Fo 84 (sg [.lf (.b), .lf (.is .u32), .lf (.b), .lf (.is .u32), .lf (.i .i64)] [.ag [.b, .is .u32, .i .i64], .lf (.i .i64)]) zan.f := fo 65 Tryd.func84 (.o zM.ok (.o za9.ok (.o zaI.ok (.o zl.ok (.o za5.ok .z))))) [[tt, tt, tt]] fun k => [⟨[(0, .lf (.b)), (1, .lf (.is .u32)), (3, .lf (.is .u32)), (4, .lf (.i .i64)), (10, .bx [.b, .is .u32, .i .i64])], zan.j2 k⟩]
theorem zae.ok : Fo 71 (sg [.ag [.b, .is .u32, .i .i64], .ag [.b, .is .u32, .i .i64]] [.ag [.b, .is .u32, .i .i64], .lf (.i .i64)]) zae.f := fo 79 Tryd.func71 (.o zaB.ok (.o zN.ok (.o zR.ok (.o zcz.ok (.o zan.ok .z))))) [[tt, tt, tt]] fun k => [⟨[(2, .bx [.b, .is .u32, .i .i64]), (3, .bx [.b, .is .u32, .i .i64]), (4, .bx [.b, .is .u32, .i .i64])], zae.j1 k⟩]
theorem zbp.ok : Fo 54 (sg [.ag [.b, .is .u32, .i .i64], .ag [.b, .is .u32, .i .i64]] [.ag [.b, .is .u32, .i .i64], .lf (.i .i64)]) zbp.f := fo 21 Tryd.func54 (.o zI.ok (.o zae.ok (.o zbS.ok .z)))
theorem za7.ok : Fo 36 (sg [.ag [.b, .is .u32, .i .i64], .ag [.b, .is .u32, .i .i64]] [.ag [.b, .is .u32, .i .i64]]) za7.f := fo 14 Tryd.func36 (.o zbp.ok .z)
theorem zbl.ok : Fo 74 (sg [.ag [.b, .is .u32, .i .i64], .ag [.b, .is .u32, .i .i64]] [.ag [.b, .is .u32, .i .i64], .lf (.i .i64)]) zbl.f := fo 17 Tryd.func74 (.o zI.ok (.o zae.ok .z))
theorem zbT.ok : Fo 56 (sg [.ag [.b, .is .u32, .i .i64], .ag [.b, .is .u32, .i .i64]] [.ag [.b, .is .u32, .i .i64]]) zbT.f := fo 14 Tryd.func56 (.o zbl.ok .z)
theorem zbs.ok : Fo 38 (sg [.ag [.b, .is .u32, .i .i64, .b, .is .u32, .i .i64]] [.ag [.b, .is .u32, .i .i64]]) zbs.f := fo 14 Tryd.func38 (.o zaf.ok (.o zbT.ok .z))
theorem zcd.ok : Fo 40 (sg [.lf (.i .u8)] [.lf (.i .i64)]) fun _ => zcd.f := fo 5 Tryd.func40 .z
theorem za4.ok : Fo 39 (sg [.ag [.b, .is .u32, .i .i64], .lf (.i .i64)] [.ag [.b, .is .u32, .i .i64], .lf (.i .i64)]) fun _ => za4.f := fo 39 Tryd.func39 (.o zt.ok (.o zaB.ok .z))
theorem za6.ok : Fo 19 (sg [.lf (.i .u8), .ag [.i .u64, .i .u64], .ag [.b, .is .u32, .i .i64], .ag [.b, .is .u32, .i .i64], .ag [.b, .is .u32, .i .i64]] [.ag [.b, .is .u32, .i .i64], .ag [.b, .is .u32, .i .i64]]) za6.f := fo 44 Tryd.func19 (.o zbr.ok (.o za7.ok (.o zaf.ok (.o zbs.ok (.o za4.ok (.o zcd.ok .z))))))
theorem zaP.ok : Fo 79 (sg [.ag [.b, .is .u32, .i .i64]] [.lf (.i .i64)]) zaP.f := fo 18 Tryd.func79 (.o zt.ok (.o zR.ok .z))
theorem z3.ok : Fo 62 (sg [.ag [.b, .is .u32, .i .i64], .ag [.b, .is .u32, .i .i64]] [.lf (.i .i64)]) z3.f := fo 55 Tryd.func62 (.o zN.ok (.o zR.ok (.o zaP.ok (.o za9.ok .z)))) [[tt, tt, tt, tt]] fun k => [⟨[(5, .lf (.is .u32)), (6, .lf (.is .u32))], z3.j1 k⟩]
theorem zbm.ok : Fo 43 (sg [.ag [.b, .is .u32, .i .i64], .ag [.b, .is .u32, .i .i64]] [.lf (.i .i64), .lf (.i .i64)]) zbm.f := fo 30 Tryd.func43 (.o zad.ok (.o zI.ok (.o z3.ok .z)))
theorem zaQ.ok : Fo 20 (sg [.ag [.b, .is .u32, .i .i64], .ag [.b, .is .u32, .i .i64], .lf (.i .u64)] [.lf (.b)]) zaQ.f := fo 29 Tryd.func20 (.o zaf.ok (.o zM.ok (.o zaq.ok (.o zbm.ok .z))))
theorem zE.ok : Fo 7 (sg [.lf (.i .u8), .ag [.i .u64, .i .u64], .ag [.b, .is .u32, .i .i64], .ag [.b, .is .u32, .i .i64], .ag [.b, .is .u32, .i .i64]] [.lf (.i .u64), .lf (.i .i64)]) zE.f := fo 56 Tryd.func7 (.o zj.ok (.o za6.ok (.o zaQ.ok .z))) [[tt, tt, tt, tt, tt, ff, ff]] fun k => [⟨[(13, .bx [.b, .is .u32, .i .i64]), (14, .bx [.b, .is .u32, .i .i64]), (15, .lf (.i .u64)), (16, .lf (.i .u64))], zE.l0 k⟩]
theorem zaG.ok : Fo 8 (sg [.lf (.i .u8), .ag [.i .u64, .i .u64], .ag [.b, .is .u32, .i .i64], .ag [.b, .is .u32, .i .i64], .ag [.b, .is .u32, .i .i64], .lf (.i .i64)] [.lf (.b), .lf (.i .i64)]) zaG.f := fo 41 Tryd.func8 (.o zj.ok (.o za6.ok (.o zaQ.ok .z)))
theorem zaF.ok : Fo 6 (sg [] [.lf (.b)]) zaF.f := fo 35 Tryd.func6 (.o zE.ok (.o zaG.ok (.o zaA.ok .z)))
theorem zbO.ok : Fo 26 (sg [.lf (.i .u8)] [.lf (.i .i64)]) fun _ => zbO.f := fo 5 Tryd.func26 .z
theorem za3.ok : Fo 11 (sg [.lf (.i .u8), .lf (.i .u64)] [.ag [.b, .is .u32, .i .i64]]) za3.f := fo 36 Tryd.func11 (.o zaz.ok (.o za2.ok (.o zaN.ok (.o zbO.ok (.o za0.ok .z)))))
theorem zn.ok : Fo 23 (sg [.lf (.is .u32), .lf (.is .u32)] [.lf (.is .u32)]) zn.f := fo 85 Tryd.func23 (.t zx.ok zx.ok1 .z) [[tt, tt, tt, tt, tt, ff, tt, ff], [tt, tt, tt, tt, tt, ff, tt, ff, ff, tt, ff, ff, tt, tt, ff, tt, ff], [tt, tt, tt, tt, tt, ff, tt, ff, ff, tt, ff, ff, tt, tt]] fun k => [⟨[(0, .lf (.is .u32)), (1, .lf (.is .u32)), (5, .ow .u32), (6, .lf (.i .u64)), (7, .lf (.i .u64)), (8, .lf (.i .i64))], zn.l0 k⟩, ⟨[(0, .lf (.is .u32)), (1, .lf (.is .u32)), (5, .ow .u32), (6, .lf (.i .u64)), (7, .lf (.i .u64)), (8, .lf (.i .i64)), (10, .lf (.i .i64))], zn.l1 k⟩, ⟨[(0, .lf (.is .u32)), (1, .lf (.is .u32)), (5, .ow .u32), (6, .lf (.i .u64)), (7, .lf (.i .u64)), (8, .lf (.i .i64)), (9, .lf (.i .i64))], zn.j3 k⟩]
theorem zaO.ok : Fo 10 (sg [.ag [.b, .is .u32, .i .i64], .ag [.b, .is .u32, .i .i64]] [.ag [.b, .is .u32, .i .i64]]) zaO.f := fo 21 Tryd.func10 (.o zaz.ok (.o zn.ok .z))
theorem zam.ok : Fo 21 (sg [.lf (.is .u32), .lf (.is .u32)] [.lf (.b)]) zam.f := fo 26 Tryd.func21 .z [[tt, tt, ff, tt, ff]] fun k => [⟨[(0, .lf (.is .u32)), (1, .lf (.is .u32)), (5, .lf (.i .i64))], zam.l0 k⟩]
theorem zaZ.ok : Fo 9 (sg [.ag [.b, .is .u32, .i .i64], .ag [.b, .is .u32, .i .i64]] [.lf (.b)]) zaZ.f := fo 24 Tryd.func9 (.o zam.ok .z)
theorem zbJ.ok : Fo 3 (sg [.lf (.i .u8), .ag [.i .u64, .i .u64], .ag [.b, .is .u32, .i .i64, .b, .is .u32, .i .i64, .b, .is .u32, .i .i64]] [.lf (.b)]) zbJ.f := fo 133 Tryd.func3 (.o zbK.ok (.o zaX.ok (.o zaF.ok (.o zE.ok (.o zaG.ok (.o zaZ.ok (.o zaO.ok (.o za3.ok .z))))))))
end Go.Proofs.YtioialhbjmnndaaDoor.Eng
