import Derived.Test.YtioialhbjmnndaaGreatDoorQGaugeSafeF1
import Derived.Tactics
import Derived.BigQuiet
import Derived.WalkKit
import Derived.OwnWalk
import Derived.Lib.TrailingZeros
set_option linter.unusedVariables false
set_option linter.unusedSimpArgs false
namespace Go.Proofs.YtioialhbjmnndaaGreatDoor.Eng
open Go.RowKit Go.Proofs Go
set_option maxRecDepth 100000
def zdE (w : World) : Prop := ∀ j, j < 32 → w.cell? ⟨0, j, none⟩ = some (.int .u8 (Lib.deBruijn32tab.getD j 0))
theorem zhy (x k idx : Nat) (w : World) (hx0 : ((x : Int) == 0) = false)
  (key : bits BinOp.and IntKind.u32 (x : Int) (-(x : Int) % 4294967296) * 125613361 % 4294967296 / 134217728 = (idx : Int))
  (hi : idx < 32) (hk : k < 32) (hcell : w.cell? ⟨0, idx, none⟩ = some (.int .u8 k)) :
  Calls Tryz.prog 141 #[.int .u32 x] w fun e w' => e = .returned (.int .i64 k) ∧ w' = w := by
 go_enter Tryz.func141, Tryz.ntmps141
 go_wp2_with (simp only [key])
 go_ret
 exact ⟨rfl, rfl⟩
theorem zhB (w : World) : Calls Tryz.prog 141 #[.int .u32 0] w fun e w' => e = .returned (.int .i64 32) ∧ w' = w := by
 go_enter Tryz.func141, Tryz.ntmps141
 go_wp2
 go_ret
 exact ⟨rfl, rfl⟩
theorem zfB (a b : Nat) (ha : a < 4294967296) (hb : b < 4294967296) : bits .and .u32 (a : Int) (b : Int) = ((a &&& b : Nat) : Int) := by
 have hx : a &&& b < 2 ^ 32 := Nat.and_lt_two_pow _ (by omega)
 have h1 : (BitVec.ofInt 32 (a : Int)).toNat = a := by
  rw [BitVec.ofInt_natCast, BitVec.toNat_ofNat]; exact Nat.mod_eq_of_lt (by omega)
 have h2 : (BitVec.ofInt 32 (b : Int)).toNat = b := by
  rw [BitVec.ofInt_natCast, BitVec.toNat_ofNat]; exact Nat.mod_eq_of_lt (by omega)
 show IntKind.u32.wrap ((BitVec.ofInt 32 (a : Int) &&& BitVec.ofInt 32 (b : Int)).toNat : Int) = _
 have h3 : ∀ n : Int, IntKind.u32.wrap n = n % 4294967296 := fun n => by simp [IntKind.wrap, IntKind.signed, IntKind.bits]
 rw [BitVec.toNat_and, h1, h2, h3]
 omega
theorem zhA (x a : Nat) (hx : x < 4294967296) (hx0 : x ≠ 0) (hlow : x &&& (4294967296 - x) = a) :
  bits BinOp.and IntKind.u32 (x : Int) (-(x : Int) % 4294967296) * 125613361 % 4294967296 / 134217728 = ((a * 125613361 % 4294967296 / 134217728 : Nat) : Int) := by
 have e1 : -(x : Int) % 4294967296 = ((4294967296 - x : Nat) : Int) := by omega
 rw [e1, zfB x _ hx (by omega), hlow]
 omega
theorem zhx (a0 r : Int) (w : World) (hT : zdE w) (h : z7.f a0 = some r) :
  Calls Tryz.prog 141 #[.int .u32 a0] w fun e w' => e = .returned (.int .i64 r) ∧ w' = w := by
 unfold z7.f at h
 split at h
 case isFalse => cases h
 rename_i hx
 obtain ⟨x, rfl⟩ := Int.eq_ofNat_of_zero_le hx.1
 obtain rfl := Option.some.inj h
 rw [Int.toNat_natCast]
 by_cases hx0 : x = 0
 ·subst hx0
  exact zhB w
 ·obtain ⟨hlow, hk⟩ := Lib.lowest_bit 32 x hx0 (by omega)
  obtain ⟨hi, htab⟩ := Lib.deBruijn32_at _ hk
  have hcell := hT _ hi
  rw [htab] at hcell
  exact zhy x _ _ w (by simp; omega) (zhA x _ (by omega) hx0 hlow) hi hk hcell
theorem z7.ok : ∀ k, qK Tryz.prog za9 141 (z7.F k) := by
 intro k
 refine ⟨⟨Tryz.f141, qdJ Tryz.f141, Tryz.func141, by kernel_rfl, by kernel_rfl⟩, rfl, rfl, fun M φ w args ls r hgl hc hr => ?_⟩
 have hlf := qap hr
 obtain ⟨x, rfl⟩ : ∃ x, ls = [.int .u32 x] := by
  clear hc hr
  obtain ⟨y, rfl⟩ := List.length_eq_one_iff.1 (qaq hlf).1
  simp only [z7.F, qo, qD, qf, qB, Bool.and_true, List.append_nil] at hlf
  cases y <;> first | (cases hlf; done) | exact ⟨_, by rw [← qz hlf]⟩
 have hr : z7.f x = some r := hr
 have ha : args = #[.int .u32 x] := by
  have hs := hc.size
  have hs : args.size = 1 := hs
  have h1 := (hc.args 0 args[0] (by simp [hs])).1
  apply Array.ext
  ·simp [hs]
  ·intro i h1' h2'
   have : i = 0 := by simp at h2'; omega
   subst this
   exact h1
 have hT : zdE w := fun j hj => hc.rel.holds 0 j _ (hgl 0 j _ (by unfold za9; rw [if_pos ⟨rfl, hj⟩]))
 subst ha
 refine (zhx x r w hT hr).mono fun e w' h => ⟨_, h.1, rfl, M, φ, ⟨rfl, qa6 _⟩, ?_, ?_, qp.refl φ⟩
 ·rw [h.2]; exact hc.rel
 ·rw [h.2]; exact Stp.refl M φ _ w
open Go.RowKit Go.Proofs
theorem zfq : TOk Tryz.prog TT := qio (by kernel_rfl)
theorem zf6 : Tryz.prog.follows .mixedOrders = true := by kernel_rfl
abbrev Fo (n : Nat) (S : Sig) (f : Nat → Fn (qo S.ps) (Option S.R)) : Prop := ∀ k, qK Tryz.prog za9 n ⟨S, f k⟩
theorem fo {n : Nat} {ps rs : List Kx} {f : Nat → Fn (qo ps) (Option (sg ps rs).R)} {G : Nat → List (Nat × List Fun)} {fn : Func}
  (nt : Nat) (hf : Tryz.prog.funcs[n]? = some fn) (gs : GP Tryz.prog za9 G) (ds : List (List Bool) := []) (H : Nat → List (qaA (sg ps rs).R) := fun _ => []) (frz : List Nat := [])
  (hname : (fn.name == "runtime.NumGoroutine") = false := by kernel_rfl) (hbody : fn.body = some (qdJ fn) := by kernel_rfl) (hnt : nt = fn.ntmps := by kernel_rfl) (hr : rs.all qah = true := by kernel_rfl)
  (hck : qca (qaO (sg ps rs)) (zc ds (H 0)) = true := by kernel_rfl)
  (h0 : qbZ (H 0) := by ((repeat (refine ⟨by ((repeat (intro _)); show _ = _; kernel_rfl), ?_⟩)); trivial))
  (hs : ∀ k, qb6 (mkC TT za9 G nt (zc ds (H 0)) frz k) (sg ps rs) (qdJ fn) fn.results.toList (qaL (H k)) (zc ds (H 0)) (H (k + 1)) := by (intro k; (repeat (refine ⟨rfl, by ((repeat (intro _)); show _ = _; kernel_rfl), ?_⟩)); trivial))
  (he : ∀ k, qW (qo ps) (fun ls y => qet (mkC TT za9 G nt (zc ds (H 0)) frz k) (sg ps rs) (qdJ fn) fn.results.toList (qaL (H k)) ls = y) (f k) := by ((repeat (intro _)); show _ = _; kernel_rfl)) : Fo n (sg ps rs) f :=
 qK.mk' zfq zf6 nt hf gs ds H frz hname hbody hnt hr hck h0 hs he
theorem zby.ok : Fo 7 (sg [.ag [.b, .is .u32, .i .i64, .b, .is .u32, .i .i64, .b, .is .u32, .i .i64]] [.lf (.b)]) fun _ => zby.f := fo 18 Tryz.func7 .z
theorem zm.ok : Fo 87 (sg [.ow .u32] [.ow .u32]) zm.f := fo 21 Tryz.func87 .z [[tt, tt, ff, ff]] fun k => [⟨[(0, .ow .u32), (3, .lf (.i .i64))], zm.l0 k⟩]
theorem zm.ok1 : Fo 87 (sg [.lf (.is .u32)] [.lf (.is .u32)]) zm.f := fo 21 Tryz.func87 .z [[tt, tt, ff, ff]] fun k => [⟨[(0, .lf (.is .u32)), (3, .lf (.i .i64))], zm.l0 k⟩]
theorem zcu.ok : Fo 66 (sg [.lf (.i .u64)] [.lf (.is .u32)]) zcu.f := fo 10 Tryz.func66 (.t zm.ok zm.ok1 .z)
theorem zbz.ok : Fo 86 (sg [.lf (.is .u32), .lf (.i .i64)] [.lf (.i .u32)]) fun _ => zbz.f := fo 23 Tryz.func86 .z
theorem zX.ok : Fo 103 (sg [.lf (.is .u32)] [.lf (.i .i64)]) zX.f := fo 31 Tryz.func103 (.o zbz.ok .z) [[tt, tt, ff, ff]] fun k => [⟨[(0, .lf (.is .u32)), (3, .lf (.i .i64))], zX.l0 k⟩]
theorem z9.ok : Fo 80 (sg [.lf (.is .u32)] [.lf (.i .i64)]) z9.f := fo 25 Tryz.func80 .z [[tt, tt, tt, ff, tt, ff]] fun k => [⟨[(3, .lf (.i .i64)), (4, .lf (.i .u32))], z9.l0 k⟩]
theorem z8.ok : Fo 83 (sg [.lf (.is .u32), .lf (.i .i64)] [.lf (.is .u32), .lf (.b)]) z8.f := fo 63 Tryz.func83 (.o z9.ok (.t zm.ok zm.ok1 (.o zX.ok .z))) [[tt, tt, tt, tt, tt, ff, tt, ff]] fun k => [⟨[(0, .lf (.is .u32)), (6, .lf (.b)), (7, .ow .u32), (8, .lf (.i .i64)), (9, .lf (.i .i64))], z8.l0 k⟩]
theorem zaq.ok : Fo 65 (sg [.lf (.b), .lf (.is .u32), .lf (.i .i64)] [.ag [.b, .is .u32, .i .i64]]) zaq.f := fo 28 Tryz.func65 (.o z8.ok (.o zX.ok .z))
theorem zat.ok : Fo 24 (sg [.lf (.i .i64)] [.ag [.b, .is .u32, .i .i64]]) zat.f := fo 15 Tryz.func24 (.o zaq.ok (.o zcu.ok .z)) [[tt, tt, tt]] fun k => [⟨[(0, .lf (.i .i64)), (2, .bx [.b, .is .u32, .i .i64]), (3, .lf (.i .u64))], zat.j0 k⟩]
theorem zbr.ok : Fo 144 (sg [.lf (.i .u8)] [.ag [.i .i64, .i .i64, .i .u64], .lf (.b)]) fun _ => zbr.f := fo 12 Tryz.func144 .z
theorem zN.ok : Fo 120 (sg [.lf (.i .u8), .lf (.is .u64)] [.ag [.i .i64, .i .i64, .i .u64], .lf (.i .i64)]) zN.f := fo 35 Tryz.func120 (.o zbr.ok .z) [[tt, tt, tt, ff, tt, ff]] fun k => [⟨[(4, .bx [.i .i64, .i .i64, .i .u64]), (6, .bx [.i .i64, .i .i64, .i .u64]), (18, .lf (.is .u64)), (19, .lf (.i .i64)), (20, .lf (.i .i64))], zN.l0 k⟩]
theorem zaT.ok : Fo 126 (sg [.lf (.i .u8), .lf (.i .u64)] [.lf (.i .i64)]) zaT.f := fo 15 Tryz.func126 (.o zN.ok .z)
theorem za6.ok : Fo 95 (sg [.lf (.i .u8), .ag [.i .u64, .i .u64]] [.lf (.i .i64)]) za6.f := fo 17 Tryz.func95 (.o zaT.ok .z)
theorem zbs.ok : Fo 145 (sg [.ag [.i .i64, .i .i64, .i .u64]] [.lf (.i .u64)]) fun _ => zbs.f := fo 9 Tryz.func145 .z
theorem zbb.ok : Fo 121 (sg [.ag [.i .i64, .i .i64, .i .u64], .lf (.i .u64)] [.lf (.i .u8)]) fun _ => zbb.f := fo 29 Tryz.func121 (.o zbs.ok .z)
theorem zbq.ok : Fo 99 (sg [.lf (.i .u8), .lf (.i .u64)] [.lf (.i .u8), .lf (.i .i64)]) zbq.f := fo 21 Tryz.func99 (.o zN.ok (.o zbb.ok .z))
theorem zM.ok : Fo 57 (sg [.lf (.i .u8), .ag [.i .u64, .i .u64]] [.lf (.i .u8), .lf (.i .i64)]) zM.f := fo 51 Tryz.func57 (.o zbq.ok .z) [[tt, tt, tt, tt, ff, ff, tt, tt, tt], [tt, tt, tt, tt, ff, ff, tt, tt, tt, tt, tt]] fun k => [⟨[(6, .lf (.i .u8)), (8, .lf (.i .u8)), (30, .lf (.b))], zM.j1 k⟩, ⟨[(6, .lf (.i .u8)), (8, .lf (.i .u8)), (37, .lf (.b))], zM.j2 k⟩]
theorem zz.ok : Fo 53 (sg [.lf (.i .u8), .lf (.rw [.i .u64, .i .u64])] [.lf (.i .i64)]) zz.f := fo 40 Tryz.func53 (.o zM.ok (.o za6.ok .z)) [[tt, ff, tt, ff], [tt, tt, ff, tt, ff]] fun k => [⟨[(0, .lf (.i .u8)), (1, .lf (.rw [.i .u64, .i .u64])), (12, .lf (.rw [.i .u64, .i .u64])), (13, .lf (.i .i64)), (14, .lf (.i .i64))], zz.l0 k⟩, ⟨[(0, .lf (.i .u8)), (25, .lf (.rw [.i .u64, .i .u64])), (26, .lf (.i .i64)), (27, .lf (.i .i64))], zz.l1 k⟩]
theorem zR.ok : Fo 113 (sg [.lf (.is .u32)] [.lf (.b)]) fun _ => zR.f := fo 20 Tryz.func113 .z
theorem zbk.ok : Fo 114 (sg [.lf (.i .i64)] [.lf (.b)]) fun _ => zbk.f := fo 9 Tryz.func114 .z
theorem zx.ok : Fo 71 (sg [.ag [.b, .is .u32, .i .i64]] [.lf (.b)]) fun _ => zx.f := fo 30 Tryz.func71 (.o zR.ok (.o zbk.ok .z))
theorem zac.ok : Fo 72 (sg [.ag [.b, .is .u32, .i .i64]] [.lf (.i .i64)]) zac.f := fo 16 Tryz.func72 (.o zx.ok .z) [[tt, ff, ff, tt]] fun k => [⟨[(1, .bx [.b, .is .u32, .i .i64]), (3, .lf (.b))], zac.j0 k⟩]
theorem zi.ok : Fo 27 (sg [.lf (.i .u8), .ag [.i .u64, .i .u64], .lf (.i .i64), .ag [.b, .is .u32, .i .i64], .ag [.b, .is .u32, .i .i64], .ag [.b, .is .u32, .i .i64]] [.lf (.i .i64)]) zi.f := fo 75 Tryz.func27 (.o zz.ok (.o zx.ok (.o zac.ok .z))) [[tt, tt, tt, tt, ff, tt, ff], [tt, tt, tt, ff, ff, tt]] fun k => [⟨[(56, .ag [.b, .is .u32, .i .i64, .b, .is .u32, .i .i64, .b, .is .u32, .i .i64]), (57, .lf (.i .i64))], zi.l0 k⟩, ⟨[(9, .bx [.b, .is .u32, .i .i64]), (10, .bx [.b, .is .u32, .i .i64]), (11, .bx [.b, .is .u32, .i .i64]), (13, .lf (.i .i64)), (27, .lf (.b))], zi.j2 k⟩]
theorem zbU.ok : Fo 88 (sg [.lf (.i .u8), .lf (.i .u64)] [.ag [.i .i64, .i .i64, .i .u64], .lf (.i .i64)]) zbU.f := fo 25 Tryz.func88 (.o zN.ok (.o zbb.ok .z))
theorem zbW.ok : Fo 89 (sg [.ag [.i .i64, .i .i64, .i .u64], .lf (.i .u64)] [.ag [.b, .i .i64, .i .u64]]) fun _ => zbW.f := fo 27 Tryz.func89 .z
theorem zk.ok : Fo 117 (sg [.ow .u32] [.ow .u32]) zk.f := fo 21 Tryz.func117 .z [[tt, ff, ff]] fun k => [⟨[(0, .ow .u32)], zk.l0 k⟩]
theorem zk.ok1 : Fo 117 (sg [.lf (.is .u32)] [.lf (.is .u32)]) zk.f := fo 21 Tryz.func117 .z [[tt, ff, ff]] fun k => [⟨[(0, .lf (.is .u32))], zk.l0 k⟩]
theorem zal.ok : Fo 74 (sg [.lf (.i .u64)] [.lf (.is .u32)]) zal.f := fo 10 Tryz.func74 (.t zk.ok zk.ok1 .z)
theorem zbV.ok : Fo 90 (sg [.ag [.i .i64, .i .i64, .i .u64]] [.lf (.i .i64)]) fun _ => zbV.f := fo 10 Tryz.func90 .z
theorem zQ.ok : Fo 115 (sg [.lf (.is .u32)] [.lf (.i .i64)]) zQ.f := fo 23 Tryz.func115 (.o zR.ok (.o z7.ok .z)) [[tt, tt, ff, tt, ff]] fun k => [⟨[(8, .lf (.is .u32)), (9, .lf (.i .i64)), (10, .lf (.i .i64))], zQ.l0 k⟩]
theorem zaf.ok : Fo 142 (sg [.lf (.is .u32), .lf (.i .i64)] [.lf (.is .u32)]) zaf.f := fo 60 Tryz.func142 (.t zk.ok zk.ok1 .z) [[tt, tt, tt, tt, tt, ff, tt, ff]] fun k => [⟨[(0, .lf (.is .u32)), (5, .lf (.i .i64)), (6, .ow .u32), (23, .lf (.is .u32)), (24, .lf (.i .i64)), (25, .lf (.i .i64))], zaf.l0 k⟩]
theorem zJ.ok : Fo 149 (sg [.lf (.i .u32)] [.lf (.i .i64)]) zJ.f := fo 19 Tryz.func149 .z [[tt, tt], [tt, tt, tt]] fun k => [⟨[(0, .lf (.i .u32)), (2, .lf (.i .i64))], zJ.j0 k⟩, ⟨[(0, .lf (.i .u32)), (2, .lf (.i .i64))], zJ.j1 k⟩]
theorem zP.ok : Fo 124 (sg [.lf (.is .u32)] [.lf (.i .i64)]) zP.f := fo 23 Tryz.func124 (.o zR.ok (.o zJ.ok .z))
theorem zam.ok : Fo 143 (sg [.lf (.is .u32), .lf (.i .i64)] [.ow .u32]) zam.f := fo 50 Tryz.func143 (.t zk.ok zk.ok1 .z) [[tt, tt, tt, tt, ff, tt, ff]] fun k => [⟨[(5, .ow .u32), (6, .lf (.i .i64)), (7, .lf (.i .u32)), (24, .lf (.is .u32)), (25, .lf (.i .i64)), (26, .lf (.i .i64))], zam.l0 k⟩]
theorem zL.ok : Fo 116 (sg [.lf (.is .u32), .lf (.i .i64)] [.lf (.is .u32), .lf (.b), .lf (.i .i64)]) zL.f := fo 39 Tryz.func116 (.o zR.ok (.o zQ.ok (.o zP.ok (.o zaf.ok (.o zam.ok .z)))))
theorem zF.ok : Fo 73 (sg [.lf (.b), .lf (.is .u32), .lf (.i .i64)] [.ag [.b, .is .u32, .i .i64], .lf (.i .i64)]) zF.f := fo 47 Tryz.func73 (.o zR.ok (.o zQ.ok (.o zL.ok .z)))
theorem zaU.ok : Fo 96 (sg [.lf (.i .u8), .lf (.i .u64)] [.ag [.b, .is .u32, .i .i64], .lf (.i .i64)]) zaU.f := fo 47 Tryz.func96 (.o zF.ok (.o zal.ok (.o zbU.ok (.o zbW.ok (.o zbV.ok .z))))) [[tt, tt, tt, tt, tt]] fun k => [⟨[(4, .bx [.b, .is .u32, .i .i64]), (6, .bx [.i .i64, .i .i64, .i .u64]), (8, .bx [.b, .i .i64, .i .u64])], zaU.j1 k⟩]
theorem zcB.ok : Fo 54 (sg [.lf (.i .u8), .ag [.i .u64, .i .u64]] [.ag [.b, .is .u32, .i .i64, .b, .is .u32, .i .i64]]) zcB.f := fo 26 Tryz.func54 (.o zaU.ok .z)
theorem zH.ok : Fo 93 (sg [.lf (.rw [.b, .is .u32, .i .i64])] [.lf (.b)]) zH.f := fo 15 Tryz.func93 (.o zx.ok .z) [[tt, ff, tt, ff]] fun k => [⟨[(5, .lf (.rw [.b, .is .u32, .i .i64])), (6, .lf (.i .i64)), (7, .lf (.i .i64))], zH.l0 k⟩]
theorem zI.ok : Fo 146 (sg [.lf (.rw [.is .u32])] [.lf (.b)]) zI.f := fo 15 Tryz.func146 (.o zR.ok .z) [[tt, ff, tt, ff]] fun k => [⟨[(5, .lf (.rw [.is .u32])), (6, .lf (.i .i64)), (7, .lf (.i .i64))], zI.l0 k⟩]
theorem zy.ok : Fo 148 (sg [.lf (.is .u32), .lf (.is .u32)] [.lf (.is .u32)]) zy.f := fo 68 Tryz.func148 (.t zk.ok zk.ok1 .z) [[tt, tt, ff, tt, ff], [tt, tt, ff, tt, ff, ff, tt, tt, ff, ff, tt, tt, ff, tt, ff]] fun k => [⟨[(1, .lf (.is .u32)), (5, .ow .u32), (18, .lf (.is .u32)), (19, .lf (.i .i64)), (20, .lf (.i .i64))], zy.l0 k⟩, ⟨[(1, .lf (.is .u32)), (5, .ow .u32), (6, .lf (.i .i64)), (7, .lf (.i .u32)), (8, .lf (.i .u64)), (18, .lf (.is .u32)), (19, .lf (.i .i64)), (20, .lf (.i .i64)), (25, .lf (.is .u32)), (26, .lf (.i .i64)), (27, .lf (.i .i64))], zy.l1 k⟩]
theorem z4.ok : Fo 147 (sg [.ow .u32] [.ow .u32, .lf (.i .i64)]) fun _ => z4.f := fo 8 Tryz.func147 .z
theorem z4.ok1 : Fo 147 (sg [.lf (.is .u32)] [.lf (.is .u32), .lf (.i .i64)]) fun _ => z4.f := fo 8 Tryz.func147 .z
theorem zbP.ok : Fo 122 (sg [.lf (.is .u32), .lf (.is .u32)] [.lf (.is .u32), .lf (.i .i64)]) zbP.f := fo 34 Tryz.func122 (.o zI.ok (.t z4.ok z4.ok1 (.o zy.ok .z)))
theorem zbj.ok : Fo 92 (sg [.ag [.b, .is .u32, .i .i64], .ag [.b, .is .u32, .i .i64]] [.ag [.b, .is .u32, .i .i64], .lf (.i .i64)]) zbj.f := fo 40 Tryz.func92 (.o zF.ok (.o zH.ok (.o zbP.ok .z)))
theorem zV.ok : Fo 46 (sg [.ag [.b, .is .u32, .i .i64], .ag [.b, .is .u32, .i .i64]] [.ag [.b, .is .u32, .i .i64]]) zV.f := fo 14 Tryz.func46 (.o zbj.ok .z)
theorem zav.ok : Fo 91 (sg [.ag [.b, .is .u32, .i .i64]] [.ag [.b, .is .u32, .i .i64]]) fun _ => zav.f := fo 8 Tryz.func91 .z
theorem zcz.ok : Fo 128 (sg [.ag [.b, .is .u32, .i .i64], .lf (.b)] [.ag [.b, .is .u32, .i .i64]]) fun _ => zcz.f := fo 16 Tryz.func128 (.o zav.ok .z)
theorem z5.ok : Fo 150 (sg [.lf (.is .u32), .lf (.is .u32)] [.lf (.i .i64)]) z5.f := fo 43 Tryz.func150 .z [[tt, tt, ff, tt, ff]] fun k => [⟨[(0, .lf (.is .u32)), (1, .lf (.is .u32)), (5, .lf (.i .i64))], z5.l0 k⟩]
theorem zbe.ok : Fo 169 (sg [.lf (.i .u32), .lf (.i .u32), .lf (.i .u32)] [.lf (.i .u32), .lf (.i .u32)]) fun _ => zbe.f := fo 25 Tryz.func169 .z
theorem zG.ok : Fo 167 (sg [.lf (.is .u32), .lf (.is .u32)] [.lf (.is .u32)]) zG.f := fo 41 Tryz.func167 (.t zk.ok zk.ok1 (.o zbe.ok .z)) [[tt, tt, tt, ff, tt, ff], [tt, tt, tt, ff, tt, ff, ff, tt, tt, ff, ff, tt, tt, tt]] fun k => [⟨[(0, .lf (.is .u32)), (1, .lf (.is .u32)), (5, .ow .u32), (6, .lf (.i .u32)), (13, .lf (.i .i64)), (14, .lf (.i .i64))], zG.l0 k⟩, ⟨[(0, .lf (.is .u32)), (1, .lf (.is .u32)), (5, .ow .u32), (6, .lf (.i .u32)), (7, .lf (.i .i64)), (8, .lf (.i .u32)), (13, .lf (.i .i64)), (14, .lf (.i .i64))], zG.j1 k⟩]
theorem zaH.ok : Fo 163 (sg [.lf (.is .u32), .lf (.is .u32)] [.lf (.is .u32), .lf (.i .i64)]) zaH.f := fo 18 Tryz.func163 (.o zI.ok (.o z5.ok (.o zG.ok .z)))
theorem zbd.ok : Fo 168 (sg [.lf (.i .u32), .lf (.i .u32), .lf (.i .u32)] [.lf (.i .u32), .lf (.i .u32)]) fun _ => zbd.f := fo 22 Tryz.func168 .z
theorem zl.ok : Fo 164 (sg [.lf (.is .u32), .lf (.is .u32)] [.lf (.is .u32), .lf (.i .i64)]) zl.f := fo 63 Tryz.func164 (.t zk.ok zk.ok1 (.o zI.ok (.t z4.ok z4.ok1 (.o zbd.ok .z)))) [[tt, tt, tt, tt, tt, ff, tt, ff], [tt, tt, tt], [tt, tt, tt, tt, tt, ff, tt, ff, ff, tt, tt, ff, ff, tt, tt, tt]] fun k => [⟨[(0, .lf (.is .u32)), (1, .lf (.is .u32)), (6, .ow .u32), (7, .lf (.i .u32)), (27, .lf (.i .i64)), (28, .lf (.i .i64))], zl.l0 k⟩, ⟨[(0, .lf (.is .u32)), (1, .lf (.is .u32))], zl.j1 k⟩, ⟨[(0, .lf (.is .u32)), (1, .lf (.is .u32)), (6, .ow .u32), (7, .lf (.i .u32)), (8, .lf (.i .i64)), (9, .lf (.i .u32)), (27, .lf (.i .i64)), (28, .lf (.i .i64))], zl.j3 k⟩]
theorem zcy.ok : Fo 151 (sg [.ag [.b, .is .u32, .i .i64], .ag [.b, .is .u32, .i .i64], .lf (.i .i64)] [.ag [.b, .is .u32, .i .i64], .lf (.i .i64)]) zcy.f := fo 97 Tryz.func151 (.o zF.ok (.o zal.ok (.o zQ.ok (.o zL.ok (.o zP.ok (.o zaH.ok (.o zl.ok .z)))))))
theorem za3.ok : Fo 165 (sg [.lf (.b), .lf (.is .u32), .lf (.is .u32), .lf (.i .i64)] [.ag [.b, .is .u32, .i .i64], .lf (.i .i64)]) za3.f := fo 64 Tryz.func165 (.o zF.ok (.o zal.ok (.o zL.ok (.o zl.ok .z)))) [[tt, tt, tt, tt, tt, tt]] fun k => [⟨[(0, .lf (.b)), (3, .lf (.i .i64)), (8, .bx [.b, .is .u32, .i .i64]), (16, .lf (.is .u32))], za3.j1 k⟩]
theorem za5.ok : Fo 125 (sg [.lf (.is .u32), .lf (.is .u32)] [.lf (.i .i64), .lf (.i .i64)]) za5.f := fo 14 Tryz.func125 (.o zI.ok (.o z5.ok .z))
theorem zaj.ok : Fo 152 (sg [.lf (.b), .lf (.is .u32), .lf (.b), .lf (.is .u32), .lf (.i .i64)] [.ag [.b, .is .u32, .i .i64], .lf (.i .i64)]) zaj.f := fo 65 Tryz.func152 (.o zF.ok (.o za5.ok (.o zaH.ok (.o zl.ok (.o za3.ok .z))))) [[tt, tt, tt]] fun k => [⟨[(0, .lf (.b)), (1, .lf (.is .u32)), (3, .lf (.is .u32)), (4, .lf (.i .i64)), (10, .bx [.b, .is .u32, .i .i64])], zaj.j2 k⟩]
theorem zad.ok : Fo 127 (sg [.ag [.b, .is .u32, .i .i64], .ag [.b, .is .u32, .i .i64]] [.ag [.b, .is .u32, .i .i64], .lf (.i .i64)]) zad.f := fo 79 Tryz.func127 (.o zav.ok (.o zL.ok (.o zP.ok (.o zcy.ok (.o zaj.ok .z))))) [[tt, tt, tt]] fun k => [⟨[(2, .bx [.b, .is .u32, .i .i64]), (3, .bx [.b, .is .u32, .i .i64]), (4, .bx [.b, .is .u32, .i .i64])], zad.j1 k⟩]
theorem zcx.ok : Fo 97 (sg [.ag [.b, .is .u32, .i .i64], .ag [.b, .is .u32, .i .i64]] [.ag [.b, .is .u32, .i .i64], .lf (.i .i64)]) zcx.f := fo 21 Tryz.func97 (.o zH.ok (.o zad.ok (.o zcz.ok .z)))
theorem zb9.ok : Fo 55 (sg [.ag [.b, .is .u32, .i .i64], .ag [.b, .is .u32, .i .i64]] [.ag [.b, .is .u32, .i .i64]]) zb9.f := fo 14 Tryz.func55 (.o zcx.ok .z)
theorem zbi.ok : Fo 98 (sg [.ag [.b, .is .u32, .i .i64], .ag [.b, .is .u32, .i .i64]] [.ag [.b, .is .u32, .i .i64], .lf (.i .i64)]) zbi.f := fo 17 Tryz.func98 (.o zH.ok (.o zad.ok .z))
theorem zbK.ok : Fo 56 (sg [.ag [.b, .is .u32, .i .i64], .ag [.b, .is .u32, .i .i64]] [.ag [.b, .is .u32, .i .i64]]) zbK.f := fo 14 Tryz.func56 (.o zbi.ok .z)
theorem zaP.ok : Fo 48 (sg [.ag [.b, .is .u32, .i .i64, .b, .is .u32, .i .i64]] [.ag [.b, .is .u32, .i .i64]]) zaP.f := fo 14 Tryz.func48 (.o zV.ok (.o zbK.ok .z))
theorem zbm.ok : Fo 45 (sg [.lf (.i .u8)] [.lf (.i .i64)]) fun _ => zbm.f := fo 5 Tryz.func45 .z
theorem za2.ok : Fo 44 (sg [.ag [.b, .is .u32, .i .i64], .lf (.i .i64)] [.ag [.b, .is .u32, .i .i64], .lf (.i .i64)]) fun _ => za2.f := fo 39 Tryz.func44 (.o zx.ok (.o zav.ok .z))
theorem zbL.ok : Fo 28 (sg [.lf (.i .u8), .ag [.i .u64, .i .u64], .ag [.b, .is .u32, .i .i64], .ag [.b, .is .u32, .i .i64], .ag [.b, .is .u32, .i .i64]] [.ag [.b, .is .u32, .i .i64], .ag [.b, .is .u32, .i .i64]]) zbL.f := fo 44 Tryz.func28 (.o za2.ok (.o zbm.ok (.o zV.ok (.o zaP.ok (.o zcB.ok (.o zb9.ok .z))))))
theorem zaN.ok : Fo 123 (sg [.ag [.b, .is .u32, .i .i64]] [.lf (.i .i64)]) zaN.f := fo 18 Tryz.func123 (.o zx.ok (.o zP.ok .z))
theorem z3.ok : Fo 94 (sg [.ag [.b, .is .u32, .i .i64], .ag [.b, .is .u32, .i .i64]] [.lf (.i .i64)]) z3.f := fo 55 Tryz.func94 (.o zL.ok (.o zaN.ok (.o zP.ok (.o za5.ok .z)))) [[tt, tt, tt, tt]] fun k => [⟨[(5, .lf (.is .u32)), (6, .lf (.is .u32))], z3.j1 k⟩]
theorem zaM.ok : Fo 47 (sg [.ag [.b, .is .u32, .i .i64], .ag [.b, .is .u32, .i .i64]] [.lf (.i .i64), .lf (.i .i64)]) zaM.f := fo 30 Tryz.func47 (.o zac.ok (.o zH.ok (.o z3.ok .z)))
theorem zbl.ok : Fo 29 (sg [.ag [.b, .is .u32, .i .i64], .ag [.b, .is .u32, .i .i64], .lf (.i .u64)] [.lf (.b)]) zbl.f := fo 29 Tryz.func29 (.o zV.ok (.o zaM.ok (.o zF.ok (.o zal.ok .z))))
theorem zaO.ok : Fo 10 (sg [.lf (.i .u8), .ag [.i .u64, .i .u64], .ag [.b, .is .u32, .i .i64], .ag [.b, .is .u32, .i .i64], .ag [.b, .is .u32, .i .i64]] [.lf (.i .u64), .lf (.i .i64)]) zaO.f := fo 56 Tryz.func10 (.o zi.ok (.o zbL.ok (.o zbl.ok .z))) [[tt, tt, tt, tt, tt, ff, ff]] fun k => [⟨[(13, .bx [.b, .is .u32, .i .i64]), (14, .bx [.b, .is .u32, .i .i64]), (15, .lf (.i .u64)), (16, .lf (.i .u64))], zaO.l0 k⟩]
theorem zcA.ok : Fo 9 (sg [.lf (.i .u8), .ag [.i .u64, .i .u64], .ag [.b, .is .u32, .i .i64], .ag [.b, .is .u32, .i .i64], .ag [.b, .is .u32, .i .i64], .lf (.i .i64)] [.lf (.b), .lf (.i .i64)]) zcA.f := fo 41 Tryz.func9 (.o zi.ok (.o zbL.ok (.o zbl.ok .z)))
theorem zaX.ok : Fo 8 (sg [] [.lf (.b)]) zaX.f := fo 35 Tryz.func8 (.o zcA.ok (.o zaO.ok (.o zat.ok .z)))
theorem zcj.ok : Fo 43 (sg [.lf (.i .u8), .lf (.i .u64)] [.ag [.b, .is .u32, .i .i64], .lf (.i .i64)]) zcj.f := fo 31 Tryz.func43 (.o zF.ok (.o zal.ok (.o zbU.ok (.o zbW.ok (.o zbV.ok .z)))))
theorem zaE.ok : Fo 14 (sg [.lf (.i .u8), .ag [.b, .is .u32, .i .i64], .ag [.b, .is .u32, .i .i64], .ag [.b, .is .u32, .i .i64]] [.lf (.b), .lf (.i .i64)]) zaE.f := fo 57 Tryz.func14 (.o zi.ok (.o zcj.ok (.o za2.ok (.o zbm.ok (.o zV.ok (.o zaM.ok (.o zaP.ok .z)))))))
theorem za1.ok : Fo 58 (sg [.lf (.i .u8)] [.lf (.b)]) fun _ => za1.f := fo 9 Tryz.func58 .z
theorem zbh.ok : Fo 59 (sg [.lf (.i .u8), .lf (.i .u64)] [.lf (.i .i64)]) fun _ => zbh.f := fo 14 Tryz.func59 (.o za1.ok .z)
theorem zZ.ok : Fo 18 (sg [.lf (.i .u8), .lf (.rw [.i .u64, .i .u64])] [.lf (.i .i64)]) zZ.f := fo 33 Tryz.func18 (.o za1.ok (.o zbh.ok .z)) [[tt, tt, ff, tt, ff]] fun k => [⟨[(0, .lf (.i .u8)), (1, .lf (.rw [.i .u64, .i .u64])), (5, .lf (.i .i64))], zZ.l0 k⟩]
theorem zb4.ok : Fo 75 (sg [.lf (.is .u32)] [.lf (.b)]) fun _ => zb4.f := fo 20 Tryz.func75 .z
theorem zaZ.ok : Fo 30 (sg [.ag [.b, .is .u32, .i .i64]] [.lf (.b)]) fun _ => zaZ.f := fo 35 Tryz.func30 (.o zb4.ok .z)
theorem zaD.ok : Fo 31 (sg [.ag [.b, .is .u32, .i .i64]] [.lf (.i .i64)]) fun _ => zaD.f := fo 9 Tryz.func31 .z
theorem zbF.ok : Fo 129 (sg [.lf (.i .u8)] [.lf (.i .u64)]) fun _ => zbF.f := fo 5 Tryz.func129 .z
theorem za0.ok : Fo 51 (sg [.lf (.i .u8)] [.lf (.i .i64)]) fun _ => za0.f := fo 5 Tryz.func51 .z
theorem zbG.ok : Fo 100 (sg [.lf (.i .u8), .lf (.i .u64)] [.ag [.b, .i .i64, .i .u64]]) fun _ => zbG.f := fo 28 Tryz.func100 (.o za0.ok (.o zbF.ok .z))
theorem zbE.ok : Fo 101 (sg [.lf (.i .u8)] [.lf (.i .i64)]) fun _ => zbE.f := fo 5 Tryz.func101 .z
theorem zbD.ok : Fo 61 (sg [.lf (.i .u8), .lf (.i .u64)] [.lf (.i .u8)]) fun _ => zbD.f := fo 28 Tryz.func61 (.o zbG.ok (.o zbE.ok .z))
theorem zbg.ok : Fo 60 (sg [.lf (.i .u8), .lf (.i .u64)] [.lf (.b)]) fun _ => zbg.f := fo 15 Tryz.func60 (.o zbD.ok .z)
theorem zbH.ok : Fo 19 (sg [.lf (.i .u8), .ag [.i .u64, .i .u64]] [.lf (.b)]) fun _ => zbH.f := fo 15 Tryz.func19 (.o zbg.ok .z)
theorem zab.ok : Fo 32 (sg [.lf (.rw [.b, .is .u32, .i .i64])] [.lf (.b)]) zab.f := fo 33 Tryz.func32 .z [[tt, ff, tt, ff]] fun k => [⟨[(0, .lf (.rw [.b, .is .u32, .i .i64])), (3, .lf (.i .i64))], zab.l0 k⟩]
theorem zaY.ok : Fo 11 (sg [.lf (.i .u8), .ag [.i .u64, .i .u64], .ag [.b, .is .u32, .i .i64, .b, .is .u32, .i .i64, .b, .is .u32, .i .i64], .lf (.i .i64)] [.lf (.i .i64)]) zaY.f := fo 54 Tryz.func11 (.o zZ.ok (.o zbH.ok (.o zaZ.ok (.o zaD.ok (.o zab.ok .z)))))
theorem zb5.ok : Fo 50 (sg [.lf (.i .u8)] [.lf (.i .i64)]) fun _ => zb5.f := fo 5 Tryz.func50 .z
theorem zbC.ok : Fo 49 (sg [.lf (.i .i64)] [.ag [.b, .is .u32, .i .i64]]) fun _ => zbC.f := fo 6 Tryz.func49 .z
theorem zo.ok : Fo 79 (sg [.lf (.is .u32), .lf (.is .u32)] [.lf (.is .u32)]) zo.f := fo 85 Tryz.func79 (.t zm.ok zm.ok1 .z) [[tt, tt, tt, tt, tt, ff, tt, ff], [tt, tt, tt, tt, tt, ff, tt, ff, ff, tt, ff, ff, tt, tt, ff, tt, ff], [tt, tt, tt, tt, tt, ff, tt, ff, ff, tt, ff, ff, tt, tt]] fun k => [⟨[(0, .lf (.is .u32)), (1, .lf (.is .u32)), (5, .ow .u32), (6, .lf (.i .u64)), (7, .lf (.i .u64)), (8, .lf (.i .i64))], zo.l0 k⟩, ⟨[(0, .lf (.is .u32)), (1, .lf (.is .u32)), (5, .ow .u32), (6, .lf (.i .u64)), (7, .lf (.i .u64)), (8, .lf (.i .i64)), (10, .lf (.i .i64))], zo.l1 k⟩, ⟨[(0, .lf (.is .u32)), (1, .lf (.is .u32)), (5, .ow .u32), (6, .lf (.i .u64)), (7, .lf (.i .u64)), (8, .lf (.i .i64)), (9, .lf (.i .i64))], zo.j3 k⟩]
theorem zau.ok : Fo 35 (sg [.ag [.b, .is .u32, .i .i64], .ag [.b, .is .u32, .i .i64]] [.ag [.b, .is .u32, .i .i64]]) zau.f := fo 21 Tryz.func35 (.o zaq.ok (.o zo.ok .z))
theorem zaa.ok : Fo 41 (sg [.lf (.is .u32), .lf (.i .i64)] [.lf (.is .u32)]) zaa.f := fo 45 Tryz.func41 (.t zm.ok zm.ok1 .z) [[tt, tt, tt, tt, tt, ff, tt, ff]] fun k => [⟨[(0, .lf (.is .u32)), (5, .ow .u32), (6, .lf (.i .i64)), (7, .lf (.i .u64)), (8, .lf (.i .i64))], zaa.l0 k⟩]
theorem zp.ok : Fo 42 (sg [.lf (.is .u32), .lf (.is .u32)] [.lf (.is .u32)]) zp.f := fo 55 Tryz.func42 (.t zm.ok zm.ok1 .z) [[tt, tt, tt, ff, tt, ff], [tt, tt, tt, ff, tt, ff, ff, tt, ff, ff, tt], [tt, tt, tt, ff, tt, ff, ff, tt, ff, ff, tt, tt]] fun k => [⟨[(0, .lf (.is .u32)), (1, .lf (.is .u32)), (5, .ow .u32), (6, .lf (.i .u64)), (7, .lf (.i .i64))], zp.l0 k⟩, ⟨[(0, .lf (.is .u32)), (1, .lf (.is .u32)), (5, .ow .u32), (6, .lf (.i .u64)), (7, .lf (.i .i64))], zp.j2 k⟩, ⟨[(0, .lf (.is .u32)), (1, .lf (.is .u32)), (5, .ow .u32), (6, .lf (.i .u64)), (7, .lf (.i .i64))], zp.j3 k⟩]
theorem zai.ok : Fo 84 (sg [.lf (.is .u32), .lf (.is .u32)] [.lf (.i .i64)]) zai.f := fo 41 Tryz.func84 .z [[tt, tt, ff, tt, ff]] fun k => [⟨[(0, .lf (.is .u32)), (1, .lf (.is .u32)), (5, .lf (.i .i64))], zai.l0 k⟩]
theorem zq.ok : Fo 85 (sg [.lf (.is .u32), .lf (.is .u32)] [.lf (.is .u32)]) zq.f := fo 47 Tryz.func85 (.t zm.ok zm.ok1 .z) [[tt, tt, tt, ff, tt, ff], [tt, tt, tt, ff, tt, ff, ff, tt, ff, ff, tt, tt], [tt, tt, tt, ff, tt, ff, ff, tt, ff, ff, tt, tt, tt, tt, tt]] fun k => [⟨[(0, .lf (.is .u32)), (1, .lf (.is .u32)), (5, .ow .u32), (6, .lf (.i .u64)), (7, .lf (.i .i64))], zq.l0 k⟩, ⟨[(0, .lf (.is .u32)), (1, .lf (.is .u32)), (5, .ow .u32), (7, .lf (.i .i64)), (8, .lf (.i .u64))], zq.j1 k⟩, ⟨[(0, .lf (.is .u32)), (1, .lf (.is .u32)), (5, .ow .u32), (6, .lf (.i .u64)), (7, .lf (.i .i64)), (8, .lf (.i .u64)), (9, .lf (.i .u64))], zq.j2 k⟩]
theorem zY.ok : Fo 39 (sg [.ag [.b, .is .u32, .i .i64], .ag [.b, .is .u32, .i .i64]] [.ag [.b, .is .u32, .i .i64]]) zY.f := fo 70 Tryz.func39 (.o zaa.ok (.o zp.ok (.o zaq.ok (.o zai.ok (.o zq.ok .z))))) [[tt, tt, tt, tt, tt]] fun k => [⟨[(2, .bx [.b, .is .u32, .i .i64]), (3, .bx [.b, .is .u32, .i .i64]), (4, .bx [.b, .is .u32, .i .i64]), (5, .lf (.i .i64))], zY.j2 k⟩]
theorem zbJ.ok : Fo 52 (sg [.ag [.b, .is .u32, .i .i64], .ag [.b, .is .u32, .i .i64]] [.ag [.b, .is .u32, .i .i64]]) zbJ.f := fo 12 Tryz.func52 (.o zau.ok (.o zY.ok .z))
theorem zaL.ok : Fo 36 (sg [.ag [.b, .is .u32, .i .i64]] [.lf (.i .i64)]) zaL.f := fo 13 Tryz.func36 (.o z9.ok .z)
theorem zbA.ok : Fo 118 (sg [.ag [.b, .is .u32, .i .i64]] [.ag [.b, .is .u32, .i .i64]]) fun _ => zbA.f := fo 12 Tryz.func118 .z
theorem zbB.ok : Fo 76 (sg [.ag [.b, .is .u32, .i .i64], .ag [.b, .is .u32, .i .i64]] [.ag [.b, .is .u32, .i .i64]]) zbB.f := fo 9 Tryz.func76 (.o zY.ok (.o zbA.ok .z))
theorem zbf.ok : Fo 34 (sg [.ag [.b, .is .u32, .i .i64], .ag [.b, .is .u32, .i .i64]] [.lf (.i .i64)]) zbf.f := fo 36 Tryz.func34 (.o zaD.ok (.o zaL.ok (.o zbB.ok .z)))
theorem zbI.ok : Fo 15 (sg [.lf (.i .u8), .ag [.b, .is .u32, .i .i64], .ag [.b, .is .u32, .i .i64], .ag [.b, .is .u32, .i .i64]] [.lf (.b)]) zbI.f := fo 27 Tryz.func15 (.o zbf.ok (.o zau.ok (.o zbC.ok (.o zb5.ok (.o za0.ok (.o zbJ.ok .z))))))
theorem zbx.ok : Fo 4 (sg [.lf (.i .u8), .ag [.b, .is .u32, .i .i64, .b, .is .u32, .i .i64, .b, .is .u32, .i .i64]] [.lf (.b)]) zbx.f := fo 55 Tryz.func4 (.o zby.ok (.o zaX.ok (.o zaY.ok (.o zaE.ok (.o zbI.ok .z)))))
end Go.Proofs.YtioialhbjmnndaaGreatDoor.Eng
