import Derived.Test.YtioialhbjmnndaaGreatDoorQGaugeMeasuresF1
import Derived.Tactics
import Derived.BigQuiet
import Derived.WalkKit
import Derived.OwnWalk
import Derived.Lib.TrailingZeros
set_option linter.unusedVariables false
set_option linter.unusedSimpArgs false
namespace Go.Proofs.YtioialhbjmnndaaGreatDoor.Eng
open Go.RowKit Go.Proofs Go
set_option maxRecDepth 100000
def zeU (w : World) : Prop := ∀ j, j < 32 → w.cell? ⟨0, j, none⟩ = some (.int .u8 (Lib.deBruijn32tab.getD j 0))
theorem zjQ (x k idx : Nat) (w : World) (hx0 : ((x : Int) == 0) = false)
  (key : bits BinOp.and IntKind.u32 (x : Int) (-(x : Int) % 4294967296) * 125613361 % 4294967296 / 134217728 = (idx : Int))
  (hi : idx < 32) (hk : k < 32) (hcell : w.cell? ⟨0, idx, none⟩ = some (.int .u8 k)) :
  Calls Tryz.prog 141 #[.int .u32 x] w fun e w' => e = .returned (.int .i64 k) ∧ w' = w := by
 go_enter Tryz.func141, Tryz.ntmps141
 go_wp2_with (simp only [key])
 go_ret
 exact ⟨rfl, rfl⟩
theorem zjT (w : World) : Calls Tryz.prog 141 #[.int .u32 0] w fun e w' => e = .returned (.int .i64 32) ∧ w' = w := by
 go_enter Tryz.func141, Tryz.ntmps141
 go_wp2
 go_ret
 exact ⟨rfl, rfl⟩
theorem zhi (a b : Nat) (ha : a < 4294967296) (hb : b < 4294967296) : bits .and .u32 (a : Int) (b : Int) = ((a &&& b : Nat) : Int) := by
 have hx : a &&& b < 2 ^ 32 := Nat.and_lt_two_pow _ (by omega)
 have h1 : (BitVec.ofInt 32 (a : Int)).toNat = a := by
  rw [BitVec.ofInt_natCast, BitVec.toNat_ofNat]; exact Nat.mod_eq_of_lt (by omega)
 have h2 : (BitVec.ofInt 32 (b : Int)).toNat = b := by
  rw [BitVec.ofInt_natCast, BitVec.toNat_ofNat]; exact Nat.mod_eq_of_lt (by omega)
 show IntKind.u32.wrap ((BitVec.ofInt 32 (a : Int) &&& BitVec.ofInt 32 (b : Int)).toNat : Int) = _
 have h3 : ∀ n : Int, IntKind.u32.wrap n = n % 4294967296 := fun n => by simp [IntKind.wrap, IntKind.signed, IntKind.bits]
 rw [BitVec.toNat_and, h1, h2, h3]
 omega
theorem zjS (x a : Nat) (hx : x < 4294967296) (hx0 : x ≠ 0) (hlow : x &&& (4294967296 - x) = a) :
  bits BinOp.and IntKind.u32 (x : Int) (-(x : Int) % 4294967296) * 125613361 % 4294967296 / 134217728 = ((a * 125613361 % 4294967296 / 134217728 : Nat) : Int) := by
 have e1 : -(x : Int) % 4294967296 = ((4294967296 - x : Nat) : Int) := by omega
 rw [e1, zhi x _ hx (by omega), hlow]
 omega
theorem zjP (a0 r : Int) (w : World) (hT : zeU w) (h : zaD.f a0 = some r) :
  Calls Tryz.prog 141 #[.int .u32 a0] w fun e w' => e = .returned (.int .i64 r) ∧ w' = w := by
 unfold zaD.f at h
 split at h
 case isFalse => cases h
 rename_i hx
 obtain ⟨x, rfl⟩ := Int.eq_ofNat_of_zero_le hx.1
 obtain rfl := Option.some.inj h
 rw [Int.toNat_natCast]
 by_cases hx0 : x = 0
 ·subst hx0
  exact zjT w
 ·obtain ⟨hlow, hk⟩ := Lib.lowest_bit 32 x hx0 (by omega)
  obtain ⟨hi, htab⟩ := Lib.deBruijn32_at _ hk
  have hcell := hT _ hi
  rw [htab] at hcell
  exact zjQ x _ _ w (by simp; omega) (zjS x _ (by omega) hx0 hlow) hi hk hcell
theorem zaD.ok : ∀ k, qK Tryz.prog zbW 141 (zaD.F k) := by
 intro k
 refine ⟨⟨Tryz.f141, qdJ Tryz.f141, Tryz.func141, by kernel_rfl, by kernel_rfl⟩, rfl, rfl, fun M φ w args ls r hgl hc hr => ?_⟩
 have hlf := qap hr
 obtain ⟨x, rfl⟩ : ∃ x, ls = [.int .u32 x] := by
  clear hc hr
  obtain ⟨y, rfl⟩ := List.length_eq_one_iff.1 (qaq hlf).1
  simp only [zaD.F, qo, qD, qf, qB, Bool.and_true, List.append_nil] at hlf
  cases y <;> first | (cases hlf; done) | exact ⟨_, by rw [← qz hlf]⟩
 have hr : zaD.f x = some r := hr
 have ha : args = #[.int .u32 x] := by
  have hs := hc.size
  have hs : args.size = 1 := hs
  have h1 := (hc.args 0 args[0] (by simp [hs])).1
  apply Array.ext
  ·simp [hs]
  ·intro i h1' h2'
   have : i = 0 := by simp at h2'; omega
   subst this
   exact h1
 have hT : zeU w := fun j hj => hc.rel.holds 0 j _ (hgl 0 j _ (by unfold zbW; rw [if_pos ⟨rfl, hj⟩]))
 subst ha
 refine (zjP x r w hT hr).mono fun e w' h => ⟨_, h.1, rfl, M, φ, ⟨rfl, qa6 _⟩, ?_, ?_, qp.refl φ⟩
 ·rw [h.2]; exact hc.rel
 ·rw [h.2]; exact Stp.refl M φ _ w
open Go.RowKit Go.Proofs
theorem zg3 : TOk Tryz.prog TT := qio (by kernel_rfl)
theorem zhT : Tryz.prog.follows .mixedOrders = true := by kernel_rfl
abbrev Fo (n : Nat) (S : Sig) (f : Nat → Fn (qo S.ps) (Option S.R)) : Prop := ∀ k, qK Tryz.prog zbW n ⟨S, f k⟩
theorem fo {n : Nat} {ps rs : List Kx} {f : Nat → Fn (qo ps) (Option (sg ps rs).R)} {G : Nat → List (Nat × List Fun)} {fn : Func}
  (nt : Nat) (hf : Tryz.prog.funcs[n]? = some fn) (gs : GP Tryz.prog zbW G) (ds : List (List Bool) := []) (H : Nat → List (qaA (sg ps rs).R) := fun _ => []) (frz : List Nat := [])
  (hname : (fn.name == "runtime.NumGoroutine") = false := by kernel_rfl) (hbody : fn.body = some (qdJ fn) := by kernel_rfl) (hnt : nt = fn.ntmps := by kernel_rfl) (hr : rs.all qah = true := by kernel_rfl)
  (hck : qca (qaO (sg ps rs)) (zc ds (H 0)) = true := by kernel_rfl)
  (h0 : qbZ (H 0) := by ((repeat (refine ⟨by ((repeat (intro _)); show _ = _; kernel_rfl), ?_⟩)); trivial))
  (hs : ∀ k, qb6 (mkC TT zbW G nt (zc ds (H 0)) frz k) (sg ps rs) (qdJ fn) fn.results.toList (qaL (H k)) (zc ds (H 0)) (H (k + 1)) := by (intro k; (repeat (refine ⟨rfl, by ((repeat (intro _)); show _ = _; kernel_rfl), ?_⟩)); trivial))
  (he : ∀ k, qW (qo ps) (fun ls y => qet (mkC TT zbW G nt (zc ds (H 0)) frz k) (sg ps rs) (qdJ fn) fn.results.toList (qaL (H k)) ls = y) (f k) := by ((repeat (intro _)); show _ = _; kernel_rfl)) : Fo n (sg ps rs) f :=
 qK.mk' zg3 zhT nt hf gs ds H frz hname hbody hnt hr hck h0 hs he
theorem zcE.ok : Fo 7 (sg [.ag [.b, .is .u32, .i .i64, .b, .is .u32, .i .i64, .b, .is .u32, .i .i64]] [.lf (.b)]) fun _ => zcE.f := fo 18 Tryz.func7 .z
theorem zl.ok : Fo 87 (sg [.ow .u32] [.ow .u32]) zl.f := fo 21 Tryz.func87 .z [[tt, tt, ff, ff]] fun k => [⟨[(0, .ow .u32), (3, .lf (.i .i64))], zl.l0 k⟩]
theorem zl.ok1 : Fo 87 (sg [.lf (.is .u32)] [.lf (.is .u32)]) zl.f := fo 21 Tryz.func87 .z [[tt, tt, ff, ff]] fun k => [⟨[(0, .lf (.is .u32)), (3, .lf (.i .i64))], zl.l0 k⟩]
theorem zaP.ok : Fo 66 (sg [.lf (.i .u64)] [.lf (.is .u32)]) zaP.f := fo 10 Tryz.func66 (.t zl.ok zl.ok1 .z)
theorem za7.ok : Fo 86 (sg [.lf (.is .u32), .lf (.i .i64)] [.lf (.i .u32)]) fun _ => za7.f := fo 23 Tryz.func86 .z
theorem zU.ok : Fo 103 (sg [.lf (.is .u32)] [.lf (.i .i64)]) zU.f := fo 31 Tryz.func103 (.o za7.ok .z) [[tt, tt, ff, ff]] fun k => [⟨[(0, .lf (.is .u32)), (3, .lf (.i .i64))], zU.l0 k⟩]
theorem zF.ok : Fo 80 (sg [.lf (.is .u32)] [.lf (.i .i64)]) zF.f := fo 25 Tryz.func80 .z [[tt, tt, tt, ff, tt, ff]] fun k => [⟨[(3, .lf (.i .i64)), (4, .lf (.i .u32))], zF.l0 k⟩]
theorem zP.ok : Fo 83 (sg [.lf (.is .u32), .lf (.i .i64)] [.lf (.is .u32), .lf (.b)]) zP.f := fo 63 Tryz.func83 (.o zF.ok (.t zl.ok zl.ok1 (.o zU.ok .z))) [[tt, tt, tt, tt, tt, ff, tt, ff]] fun k => [⟨[(0, .lf (.is .u32)), (6, .lf (.b)), (7, .ow .u32), (8, .lf (.i .i64)), (9, .lf (.i .i64))], zP.l0 k⟩]
theorem zL.ok : Fo 65 (sg [.lf (.b), .lf (.is .u32), .lf (.i .i64)] [.ag [.b, .is .u32, .i .i64]]) zL.f := fo 28 Tryz.func65 (.o zP.ok (.o zU.ok .z))
theorem zz.ok : Fo 24 (sg [.lf (.i .i64)] [.ag [.b, .is .u32, .i .i64]]) zz.f := fo 15 Tryz.func24 (.o zL.ok (.o zaP.ok .z)) [[tt, tt, tt]] fun k => [⟨[(0, .lf (.i .i64)), (2, .bx [.b, .is .u32, .i .i64]), (3, .lf (.i .u64))], zz.j0 k⟩]
theorem zcs.ok : Fo 144 (sg [.lf (.i .u8)] [.ag [.i .i64, .i .i64, .i .u64], .lf (.b)]) fun _ => zcs.f := fo 12 Tryz.func144 .z
theorem zaf.ok : Fo 120 (sg [.lf (.i .u8), .lf (.is .u64)] [.ag [.i .i64, .i .i64, .i .u64], .lf (.i .i64)]) zaf.f := fo 35 Tryz.func120 (.o zcs.ok .z) [[tt, tt, tt, ff, tt, ff]] fun k => [⟨[(4, .bx [.i .i64, .i .i64, .i .u64]), (6, .bx [.i .i64, .i .i64, .i .u64]), (18, .lf (.is .u64)), (19, .lf (.i .i64)), (20, .lf (.i .i64))], zaf.l0 k⟩]
theorem zbx.ok : Fo 126 (sg [.lf (.i .u8), .lf (.i .u64)] [.lf (.i .i64)]) zbx.f := fo 15 Tryz.func126 (.o zaf.ok .z)
theorem zbR.ok : Fo 95 (sg [.lf (.i .u8), .ag [.i .u64, .i .u64]] [.lf (.i .i64)]) zbR.f := fo 17 Tryz.func95 (.o zbx.ok .z)
theorem zct.ok : Fo 145 (sg [.ag [.i .i64, .i .i64, .i .u64]] [.lf (.i .u64)]) fun _ => zct.f := fo 9 Tryz.func145 .z
theorem zbX.ok : Fo 121 (sg [.ag [.i .i64, .i .i64, .i .u64], .lf (.i .u64)] [.lf (.i .u8)]) fun _ => zbX.f := fo 29 Tryz.func121 (.o zct.ok .z)
theorem zcr.ok : Fo 99 (sg [.lf (.i .u8), .lf (.i .u64)] [.lf (.i .u8), .lf (.i .i64)]) zcr.f := fo 21 Tryz.func99 (.o zaf.ok (.o zbX.ok .z))
theorem zae.ok : Fo 57 (sg [.lf (.i .u8), .ag [.i .u64, .i .u64]] [.lf (.i .u8), .lf (.i .i64)]) zae.f := fo 51 Tryz.func57 (.o zcr.ok .z) [[tt, tt, tt, tt, ff, ff, tt, tt, tt], [tt, tt, tt, tt, ff, ff, tt, tt, tt, tt, tt]] fun k => [⟨[(6, .lf (.i .u8)), (8, .lf (.i .u8)), (30, .lf (.b))], zae.j1 k⟩, ⟨[(6, .lf (.i .u8)), (8, .lf (.i .u8)), (37, .lf (.b))], zae.j2 k⟩]
theorem zM.ok : Fo 53 (sg [.lf (.i .u8), .lf (.rw [.i .u64, .i .u64])] [.lf (.i .i64)]) zM.f := fo 40 Tryz.func53 (.o zae.ok (.o zbR.ok .z)) [[tt, ff, tt, ff], [tt, tt, ff, tt, ff]] fun k => [⟨[(0, .lf (.i .u8)), (1, .lf (.rw [.i .u64, .i .u64])), (12, .lf (.rw [.i .u64, .i .u64])), (13, .lf (.i .i64)), (14, .lf (.i .i64))], zM.l0 k⟩, ⟨[(0, .lf (.i .u8)), (25, .lf (.rw [.i .u64, .i .u64])), (26, .lf (.i .i64)), (27, .lf (.i .i64))], zM.l1 k⟩]
theorem zak.ok : Fo 113 (sg [.lf (.is .u32)] [.lf (.b)]) fun _ => zak.f := fo 20 Tryz.func113 .z
theorem zcc.ok : Fo 114 (sg [.lf (.i .i64)] [.lf (.b)]) fun _ => zcc.f := fo 9 Tryz.func114 .z
theorem zH.ok : Fo 71 (sg [.ag [.b, .is .u32, .i .i64]] [.lf (.b)]) fun _ => zH.f := fo 30 Tryz.func71 (.o zak.ok (.o zcc.ok .z))
theorem zaG.ok : Fo 72 (sg [.ag [.b, .is .u32, .i .i64]] [.lf (.i .i64)]) zaG.f := fo 16 Tryz.func72 (.o zH.ok .z) [[tt, ff, ff, tt]] fun k => [⟨[(1, .bx [.b, .is .u32, .i .i64]), (3, .lf (.b))], zaG.j0 k⟩]
theorem zm.ok : Fo 27 (sg [.lf (.i .u8), .ag [.i .u64, .i .u64], .lf (.i .i64), .ag [.b, .is .u32, .i .i64], .ag [.b, .is .u32, .i .i64], .ag [.b, .is .u32, .i .i64]] [.lf (.i .i64)]) zm.f := fo 75 Tryz.func27 (.o zM.ok (.o zH.ok (.o zaG.ok .z))) [[tt, tt, tt, tt, ff, tt, ff], [tt, tt, tt, ff, ff, tt]] fun k => [⟨[(56, .ag [.b, .is .u32, .i .i64, .b, .is .u32, .i .i64, .b, .is .u32, .i .i64]), (57, .lf (.i .i64))], zm.l0 k⟩, ⟨[(9, .bx [.b, .is .u32, .i .i64]), (10, .bx [.b, .is .u32, .i .i64]), (11, .bx [.b, .is .u32, .i .i64]), (13, .lf (.i .i64)), (27, .lf (.b))], zm.j2 k⟩]
theorem zcV.ok : Fo 88 (sg [.lf (.i .u8), .lf (.i .u64)] [.ag [.i .i64, .i .i64, .i .u64], .lf (.i .i64)]) zcV.f := fo 25 Tryz.func88 (.o zaf.ok (.o zbX.ok .z))
theorem zcX.ok : Fo 89 (sg [.ag [.i .i64, .i .i64, .i .u64], .lf (.i .u64)] [.ag [.b, .i .i64, .i .u64]]) fun _ => zcX.f := fo 27 Tryz.func89 .z
theorem zt.ok : Fo 117 (sg [.ow .u32] [.ow .u32]) zt.f := fo 21 Tryz.func117 .z [[tt, ff, ff]] fun k => [⟨[(0, .ow .u32)], zt.l0 k⟩]
theorem zt.ok1 : Fo 117 (sg [.lf (.is .u32)] [.lf (.is .u32)]) zt.f := fo 21 Tryz.func117 .z [[tt, ff, ff]] fun k => [⟨[(0, .lf (.is .u32))], zt.l0 k⟩]
theorem zaT.ok : Fo 74 (sg [.lf (.i .u64)] [.lf (.is .u32)]) zaT.f := fo 10 Tryz.func74 (.t zt.ok zt.ok1 .z)
theorem zcW.ok : Fo 90 (sg [.ag [.i .i64, .i .i64, .i .u64]] [.lf (.i .i64)]) fun _ => zcW.f := fo 10 Tryz.func90 .z
theorem zaj.ok : Fo 115 (sg [.lf (.is .u32)] [.lf (.i .i64)]) zaj.f := fo 23 Tryz.func115 (.o zak.ok (.o zaD.ok .z)) [[tt, tt, ff, tt, ff]] fun k => [⟨[(8, .lf (.is .u32)), (9, .lf (.i .i64)), (10, .lf (.i .i64))], zaj.l0 k⟩]
theorem zaL.ok : Fo 142 (sg [.lf (.is .u32), .lf (.i .i64)] [.lf (.is .u32)]) zaL.f := fo 60 Tryz.func142 (.t zt.ok zt.ok1 .z) [[tt, tt, tt, tt, tt, ff, tt, ff]] fun k => [⟨[(0, .lf (.is .u32)), (5, .lf (.i .i64)), (6, .ow .u32), (23, .lf (.is .u32)), (24, .lf (.i .i64)), (25, .lf (.i .i64))], zaL.l0 k⟩]
theorem zaa.ok : Fo 149 (sg [.lf (.i .u32)] [.lf (.i .i64)]) zaa.f := fo 19 Tryz.func149 .z [[tt, tt], [tt, tt, tt]] fun k => [⟨[(0, .lf (.i .u32)), (2, .lf (.i .i64))], zaa.j0 k⟩, ⟨[(0, .lf (.i .u32)), (2, .lf (.i .i64))], zaa.j1 k⟩]
theorem zai.ok : Fo 124 (sg [.lf (.is .u32)] [.lf (.i .i64)]) zai.f := fo 23 Tryz.func124 (.o zak.ok (.o zaa.ok .z))
theorem zaU.ok : Fo 143 (sg [.lf (.is .u32), .lf (.i .i64)] [.ow .u32]) zaU.f := fo 50 Tryz.func143 (.t zt.ok zt.ok1 .z) [[tt, tt, tt, tt, ff, tt, ff]] fun k => [⟨[(5, .ow .u32), (6, .lf (.i .i64)), (7, .lf (.i .u32)), (24, .lf (.is .u32)), (25, .lf (.i .i64)), (26, .lf (.i .i64))], zaU.l0 k⟩]
theorem zac.ok : Fo 116 (sg [.lf (.is .u32), .lf (.i .i64)] [.lf (.is .u32), .lf (.b), .lf (.i .i64)]) zac.f := fo 39 Tryz.func116 (.o zak.ok (.o zaj.ok (.o zai.ok (.o zaL.ok (.o zaU.ok .z)))))
theorem zab.ok : Fo 73 (sg [.lf (.b), .lf (.is .u32), .lf (.i .i64)] [.ag [.b, .is .u32, .i .i64], .lf (.i .i64)]) zab.f := fo 47 Tryz.func73 (.o zak.ok (.o zaj.ok (.o zac.ok .z)))
theorem zaW.ok : Fo 96 (sg [.lf (.i .u8), .lf (.i .u64)] [.ag [.b, .is .u32, .i .i64], .lf (.i .i64)]) zaW.f := fo 47 Tryz.func96 (.o zab.ok (.o zaT.ok (.o zcV.ok (.o zcX.ok (.o zcW.ok .z))))) [[tt, tt, tt, tt, tt]] fun k => [⟨[(4, .bx [.b, .is .u32, .i .i64]), (6, .bx [.i .i64, .i .i64, .i .u64]), (8, .bx [.b, .i .i64, .i .u64])], zaW.j1 k⟩]
theorem zcd.ok : Fo 54 (sg [.lf (.i .u8), .ag [.i .u64, .i .u64]] [.ag [.b, .is .u32, .i .i64, .b, .is .u32, .i .i64]]) zcd.f := fo 26 Tryz.func54 (.o zaW.ok .z)
theorem z6.ok : Fo 93 (sg [.lf (.rw [.b, .is .u32, .i .i64])] [.lf (.b)]) z6.f := fo 15 Tryz.func93 (.o zH.ok .z) [[tt, ff, tt, ff]] fun k => [⟨[(5, .lf (.rw [.b, .is .u32, .i .i64])), (6, .lf (.i .i64)), (7, .lf (.i .i64))], z6.l0 k⟩]
theorem z8.ok : Fo 146 (sg [.lf (.rw [.is .u32])] [.lf (.b)]) z8.f := fo 15 Tryz.func146 (.o zak.ok .z) [[tt, ff, tt, ff]] fun k => [⟨[(5, .lf (.rw [.is .u32])), (6, .lf (.i .i64)), (7, .lf (.i .i64))], z8.l0 k⟩]
theorem zI.ok : Fo 148 (sg [.lf (.is .u32), .lf (.is .u32)] [.lf (.is .u32)]) zI.f := fo 68 Tryz.func148 (.t zt.ok zt.ok1 .z) [[tt, tt, ff, tt, ff], [tt, tt, ff, tt, ff, ff, tt, tt, ff, ff, tt, tt, ff, tt, ff]] fun k => [⟨[(1, .lf (.is .u32)), (5, .ow .u32), (18, .lf (.is .u32)), (19, .lf (.i .i64)), (20, .lf (.i .i64))], zI.l0 k⟩, ⟨[(1, .lf (.is .u32)), (5, .ow .u32), (6, .lf (.i .i64)), (7, .lf (.i .u32)), (8, .lf (.i .u64)), (18, .lf (.is .u32)), (19, .lf (.i .i64)), (20, .lf (.i .i64)), (25, .lf (.is .u32)), (26, .lf (.i .i64)), (27, .lf (.i .i64))], zI.l1 k⟩]
theorem zaz.ok : Fo 147 (sg [.ow .u32] [.ow .u32, .lf (.i .i64)]) fun _ => zaz.f := fo 8 Tryz.func147 .z
theorem zaz.ok1 : Fo 147 (sg [.lf (.is .u32)] [.lf (.is .u32), .lf (.i .i64)]) fun _ => zaz.f := fo 8 Tryz.func147 .z
theorem zcQ.ok : Fo 122 (sg [.lf (.is .u32), .lf (.is .u32)] [.lf (.is .u32), .lf (.i .i64)]) zcQ.f := fo 34 Tryz.func122 (.o z8.ok (.t zaz.ok zaz.ok1 (.o zI.ok .z)))
theorem zca.ok : Fo 92 (sg [.ag [.b, .is .u32, .i .i64], .ag [.b, .is .u32, .i .i64]] [.ag [.b, .is .u32, .i .i64], .lf (.i .i64)]) zca.f := fo 40 Tryz.func92 (.o zab.ok (.o z6.ok (.o zcQ.ok .z)))
theorem zaJ.ok : Fo 46 (sg [.ag [.b, .is .u32, .i .i64], .ag [.b, .is .u32, .i .i64]] [.ag [.b, .is .u32, .i .i64]]) zaJ.f := fo 14 Tryz.func46 (.o zca.ok .z)
theorem za8.ok : Fo 91 (sg [.ag [.b, .is .u32, .i .i64]] [.ag [.b, .is .u32, .i .i64]]) fun _ => za8.f := fo 8 Tryz.func91 .z
theorem zcM.ok : Fo 128 (sg [.ag [.b, .is .u32, .i .i64], .lf (.b)] [.ag [.b, .is .u32, .i .i64]]) fun _ => zcM.f := fo 16 Tryz.func128 (.o za8.ok .z)
theorem zaA.ok : Fo 150 (sg [.lf (.is .u32), .lf (.is .u32)] [.lf (.i .i64)]) zaA.f := fo 43 Tryz.func150 .z [[tt, tt, ff, tt, ff]] fun k => [⟨[(0, .lf (.is .u32)), (1, .lf (.is .u32)), (5, .lf (.i .i64))], zaA.l0 k⟩]
theorem zb0.ok : Fo 169 (sg [.lf (.i .u32), .lf (.i .u32), .lf (.i .u32)] [.lf (.i .u32), .lf (.i .u32)]) fun _ => zb0.f := fo 25 Tryz.func169 .z
theorem z4.ok : Fo 167 (sg [.lf (.is .u32), .lf (.is .u32)] [.lf (.is .u32)]) z4.f := fo 41 Tryz.func167 (.t zt.ok zt.ok1 (.o zb0.ok .z)) [[tt, tt, tt, ff, tt, ff], [tt, tt, tt, ff, tt, ff, ff, tt, tt, ff, ff, tt, tt, tt]] fun k => [⟨[(0, .lf (.is .u32)), (1, .lf (.is .u32)), (5, .ow .u32), (6, .lf (.i .u32)), (13, .lf (.i .i64)), (14, .lf (.i .i64))], z4.l0 k⟩, ⟨[(0, .lf (.is .u32)), (1, .lf (.is .u32)), (5, .ow .u32), (6, .lf (.i .u32)), (7, .lf (.i .i64)), (8, .lf (.i .u32)), (13, .lf (.i .i64)), (14, .lf (.i .i64))], z4.j1 k⟩]
theorem zbj.ok : Fo 163 (sg [.lf (.is .u32), .lf (.is .u32)] [.lf (.is .u32), .lf (.i .i64)]) zbj.f := fo 18 Tryz.func163 (.o z8.ok (.o zaA.ok (.o z4.ok .z)))
theorem zbZ.ok : Fo 168 (sg [.lf (.i .u32), .lf (.i .u32), .lf (.i .u32)] [.lf (.i .u32), .lf (.i .u32)]) fun _ => zbZ.f := fo 22 Tryz.func168 .z
theorem zu.ok : Fo 164 (sg [.lf (.is .u32), .lf (.is .u32)] [.lf (.is .u32), .lf (.i .i64)]) zu.f := fo 63 Tryz.func164 (.t zt.ok zt.ok1 (.o z8.ok (.t zaz.ok zaz.ok1 (.o zbZ.ok .z)))) [[tt, tt, tt, tt, tt, ff, tt, ff], [tt, tt, tt], [tt, tt, tt, tt, tt, ff, tt, ff, ff, tt, tt, ff, ff, tt, tt, tt]] fun k => [⟨[(0, .lf (.is .u32)), (1, .lf (.is .u32)), (6, .ow .u32), (7, .lf (.i .u32)), (27, .lf (.i .i64)), (28, .lf (.i .i64))], zu.l0 k⟩, ⟨[(0, .lf (.is .u32)), (1, .lf (.is .u32))], zu.j1 k⟩, ⟨[(0, .lf (.is .u32)), (1, .lf (.is .u32)), (6, .ow .u32), (7, .lf (.i .u32)), (8, .lf (.i .i64)), (9, .lf (.i .u32)), (27, .lf (.i .i64)), (28, .lf (.i .i64))], zu.j3 k⟩]
theorem zdA.ok : Fo 151 (sg [.ag [.b, .is .u32, .i .i64], .ag [.b, .is .u32, .i .i64], .lf (.i .i64)] [.ag [.b, .is .u32, .i .i64], .lf (.i .i64)]) zdA.f := fo 97 Tryz.func151 (.o zab.ok (.o zaT.ok (.o zaj.ok (.o zac.ok (.o zai.ok (.o zbj.ok (.o zu.ok .z)))))))
theorem zbJ.ok : Fo 165 (sg [.lf (.b), .lf (.is .u32), .lf (.is .u32), .lf (.i .i64)] [.ag [.b, .is .u32, .i .i64], .lf (.i .i64)]) zbJ.f := fo 64 Tryz.func165 (.o zab.ok (.o zaT.ok (.o zac.ok (.o zu.ok .z)))) [[tt, tt, tt, tt, tt, tt]] fun k => [⟨[(0, .lf (.b)), (3, .lf (.i .i64)), (8, .bx [.b, .is .u32, .i .i64]), (16, .lf (.is .u32))], zbJ.j1 k⟩]
theorem zbP.ok : Fo 125 (sg [.lf (.is .u32), .lf (.is .u32)] [.lf (.i .i64), .lf (.i .i64)]) zbP.f := fo 14 Tryz.func125 (.o z8.ok (.o zaA.ok .z))
theorem zaS.ok : Fo 152 (sg [.lf (.b), .lf (.is .u32), .lf (.b), .lf (.is .u32), .lf (.i .i64)] [.ag [.b, .is .u32, .i .i64], .lf (.i .i64)]) zaS.f := fo 65 Tryz.func152 (.o zab.ok (.o zbP.ok (.o zbj.ok (.o zu.ok (.o zbJ.ok .z))))) [[tt, tt, tt]] fun k => [⟨[(0, .lf (.b)), (1, .lf (.is .u32)), (3, .lf (.is .u32)), (4, .lf (.i .i64)), (10, .bx [.b, .is .u32, .i .i64])], zaS.j2 k⟩]
theorem zaH.ok : Fo 127 (sg [.ag [.b, .is .u32, .i .i64], .ag [.b, .is .u32, .i .i64]] [.ag [.b, .is .u32, .i .i64], .lf (.i .i64)]) zaH.f := fo 79 Tryz.func127 (.o za8.ok (.o zac.ok (.o zai.ok (.o zdA.ok (.o zaS.ok .z))))) [[tt, tt, tt]] fun k => [⟨[(2, .bx [.b, .is .u32, .i .i64]), (3, .bx [.b, .is .u32, .i .i64]), (4, .bx [.b, .is .u32, .i .i64])], zaH.j1 k⟩]
theorem zcb.ok : Fo 97 (sg [.ag [.b, .is .u32, .i .i64], .ag [.b, .is .u32, .i .i64]] [.ag [.b, .is .u32, .i .i64], .lf (.i .i64)]) zcb.f := fo 21 Tryz.func97 (.o z6.ok (.o zaH.ok (.o zcM.ok .z)))
theorem zbL.ok : Fo 55 (sg [.ag [.b, .is .u32, .i .i64], .ag [.b, .is .u32, .i .i64]] [.ag [.b, .is .u32, .i .i64]]) zbL.f := fo 14 Tryz.func55 (.o zcb.ok .z)
theorem zb7.ok : Fo 98 (sg [.ag [.b, .is .u32, .i .i64], .ag [.b, .is .u32, .i .i64]] [.ag [.b, .is .u32, .i .i64], .lf (.i .i64)]) zb7.f := fo 17 Tryz.func98 (.o z6.ok (.o zaH.ok .z))
theorem zcO.ok : Fo 56 (sg [.ag [.b, .is .u32, .i .i64], .ag [.b, .is .u32, .i .i64]] [.ag [.b, .is .u32, .i .i64]]) zcO.f := fo 14 Tryz.func56 (.o zb7.ok .z)
theorem zce.ok : Fo 48 (sg [.ag [.b, .is .u32, .i .i64, .b, .is .u32, .i .i64]] [.ag [.b, .is .u32, .i .i64]]) zce.f := fo 14 Tryz.func48 (.o zaJ.ok (.o zcO.ok .z))
theorem zc8.ok : Fo 45 (sg [.lf (.i .u8)] [.lf (.i .i64)]) fun _ => zc8.f := fo 5 Tryz.func45 .z
theorem zbI.ok : Fo 44 (sg [.ag [.b, .is .u32, .i .i64], .lf (.i .i64)] [.ag [.b, .is .u32, .i .i64], .lf (.i .i64)]) fun _ => zbI.f := fo 39 Tryz.func44 (.o zH.ok (.o za8.ok .z))
theorem zbK.ok : Fo 28 (sg [.lf (.i .u8), .ag [.i .u64, .i .u64], .ag [.b, .is .u32, .i .i64], .ag [.b, .is .u32, .i .i64], .ag [.b, .is .u32, .i .i64]] [.ag [.b, .is .u32, .i .i64], .ag [.b, .is .u32, .i .i64]]) zbK.f := fo 44 Tryz.func28 (.o zbI.ok (.o zc8.ok (.o zaJ.ok (.o zce.ok (.o zcd.ok (.o zbL.ok .z))))))
theorem zbq.ok : Fo 123 (sg [.ag [.b, .is .u32, .i .i64]] [.lf (.i .i64)]) zbq.f := fo 18 Tryz.func123 (.o zH.ok (.o zai.ok .z))
theorem zay.ok : Fo 94 (sg [.ag [.b, .is .u32, .i .i64], .ag [.b, .is .u32, .i .i64]] [.lf (.i .i64)]) zay.f := fo 55 Tryz.func94 (.o zac.ok (.o zbq.ok (.o zai.ok (.o zbP.ok .z)))) [[tt, tt, tt, tt]] fun k => [⟨[(5, .lf (.is .u32)), (6, .lf (.is .u32))], zay.j1 k⟩]
theorem zb8.ok : Fo 47 (sg [.ag [.b, .is .u32, .i .i64], .ag [.b, .is .u32, .i .i64]] [.lf (.i .i64), .lf (.i .i64)]) zb8.f := fo 30 Tryz.func47 (.o zaG.ok (.o z6.ok (.o zay.ok .z)))
theorem zbr.ok : Fo 29 (sg [.ag [.b, .is .u32, .i .i64], .ag [.b, .is .u32, .i .i64], .lf (.i .u64)] [.lf (.b)]) zbr.f := fo 29 Tryz.func29 (.o zaJ.ok (.o zb8.ok (.o zab.ok (.o zaT.ok .z))))
theorem zE.ok : Fo 10 (sg [.lf (.i .u8), .ag [.i .u64, .i .u64], .ag [.b, .is .u32, .i .i64], .ag [.b, .is .u32, .i .i64], .ag [.b, .is .u32, .i .i64]] [.lf (.i .u64), .lf (.i .i64)]) zE.f := fo 56 Tryz.func10 (.o zm.ok (.o zbK.ok (.o zbr.ok .z))) [[tt, tt, tt, tt, tt, ff, ff]] fun k => [⟨[(13, .bx [.b, .is .u32, .i .i64]), (14, .bx [.b, .is .u32, .i .i64]), (15, .lf (.i .u64)), (16, .lf (.i .u64))], zE.l0 k⟩]
theorem za1.ok : Fo 9 (sg [.lf (.i .u8), .ag [.i .u64, .i .u64], .ag [.b, .is .u32, .i .i64], .ag [.b, .is .u32, .i .i64], .ag [.b, .is .u32, .i .i64], .lf (.i .i64)] [.lf (.b), .lf (.i .i64)]) za1.f := fo 41 Tryz.func9 (.o zm.ok (.o zbK.ok (.o zbr.ok .z)))
theorem zbm.ok : Fo 8 (sg [] [.lf (.b)]) zbm.f := fo 35 Tryz.func8 (.o za1.ok (.o zE.ok (.o zz.ok .z)))
theorem zbF.ok : Fo 58 (sg [.lf (.i .u8)] [.lf (.b)]) fun _ => zbF.f := fo 9 Tryz.func58 .z
theorem zb5.ok : Fo 59 (sg [.lf (.i .u8), .lf (.i .u64)] [.lf (.i .i64)]) fun _ => zb5.f := fo 14 Tryz.func59 (.o zbF.ok .z)
theorem zax.ok : Fo 18 (sg [.lf (.i .u8), .lf (.rw [.i .u64, .i .u64])] [.lf (.i .i64)]) zax.f := fo 33 Tryz.func18 (.o zbF.ok (.o zb5.ok .z)) [[tt, tt, ff, tt, ff]] fun k => [⟨[(0, .lf (.i .u8)), (1, .lf (.rw [.i .u64, .i .u64])), (5, .lf (.i .i64))], zax.l0 k⟩]
theorem zc4.ok : Fo 75 (sg [.lf (.is .u32)] [.lf (.b)]) fun _ => zc4.f := fo 20 Tryz.func75 .z
theorem zbE.ok : Fo 30 (sg [.ag [.b, .is .u32, .i .i64]] [.lf (.b)]) fun _ => zbE.f := fo 35 Tryz.func30 (.o zc4.ok .z)
theorem zaq.ok : Fo 31 (sg [.ag [.b, .is .u32, .i .i64]] [.lf (.i .i64)]) fun _ => zaq.f := fo 9 Tryz.func31 .z
theorem zcJ.ok : Fo 129 (sg [.lf (.i .u8)] [.lf (.i .u64)]) fun _ => zcJ.f := fo 5 Tryz.func129 .z
theorem zbf.ok : Fo 51 (sg [.lf (.i .u8)] [.lf (.i .i64)]) fun _ => zbf.f := fo 5 Tryz.func51 .z
theorem zbG.ok : Fo 100 (sg [.lf (.i .u8), .lf (.i .u64)] [.ag [.b, .i .i64, .i .u64]]) fun _ => zbG.f := fo 28 Tryz.func100 (.o zbf.ok (.o zcJ.ok .z))
theorem zcI.ok : Fo 101 (sg [.lf (.i .u8)] [.lf (.i .i64)]) fun _ => zcI.f := fo 5 Tryz.func101 .z
theorem zcG.ok : Fo 61 (sg [.lf (.i .u8), .lf (.i .u64)] [.lf (.i .u8)]) fun _ => zcG.f := fo 28 Tryz.func61 (.o zbG.ok (.o zcI.ok .z))
theorem zb4.ok : Fo 60 (sg [.lf (.i .u8), .lf (.i .u64)] [.lf (.b)]) fun _ => zb4.f := fo 15 Tryz.func60 (.o zcG.ok .z)
theorem zcK.ok : Fo 19 (sg [.lf (.i .u8), .ag [.i .u64, .i .u64]] [.lf (.b)]) fun _ => zcK.f := fo 15 Tryz.func19 (.o zb4.ok .z)
theorem zaF.ok : Fo 32 (sg [.lf (.rw [.b, .is .u32, .i .i64])] [.lf (.b)]) zaF.f := fo 33 Tryz.func32 .z [[tt, ff, tt, ff]] fun k => [⟨[(0, .lf (.rw [.b, .is .u32, .i .i64])), (3, .lf (.i .i64))], zaF.l0 k⟩]
theorem zbn.ok : Fo 11 (sg [.lf (.i .u8), .ag [.i .u64, .i .u64], .ag [.b, .is .u32, .i .i64, .b, .is .u32, .i .i64, .b, .is .u32, .i .i64], .lf (.i .i64)] [.lf (.i .i64)]) zbn.f := fo 54 Tryz.func11 (.o zax.ok (.o zcK.ok (.o zbE.ok (.o zaq.ok (.o zaF.ok .z)))))
theorem zcH.ok : Fo 50 (sg [.lf (.i .u8)] [.lf (.i .i64)]) fun _ => zcH.f := fo 5 Tryz.func50 .z
theorem zbp.ok : Fo 77 (sg [.lf (.i .u8), .lf (.i .u64)] [.ag [.b, .is .u32, .i .i64]]) zbp.f := fo 36 Tryz.func77 (.o zcH.ok (.o zbf.ok (.o zL.ok (.o zaP.ok (.o zbG.ok .z)))))
theorem zx.ok : Fo 79 (sg [.lf (.is .u32), .lf (.is .u32)] [.lf (.is .u32)]) zx.f := fo 85 Tryz.func79 (.t zl.ok zl.ok1 .z) [[tt, tt, tt, tt, tt, ff, tt, ff], [tt, tt, tt, tt, tt, ff, tt, ff, ff, tt, ff, ff, tt, tt, ff, tt, ff], [tt, tt, tt, tt, tt, ff, tt, ff, ff, tt, ff, ff, tt, tt]] fun k => [⟨[(0, .lf (.is .u32)), (1, .lf (.is .u32)), (5, .ow .u32), (6, .lf (.i .u64)), (7, .lf (.i .u64)), (8, .lf (.i .i64))], zx.l0 k⟩, ⟨[(0, .lf (.is .u32)), (1, .lf (.is .u32)), (5, .ow .u32), (6, .lf (.i .u64)), (7, .lf (.i .u64)), (8, .lf (.i .i64)), (10, .lf (.i .i64))], zx.l1 k⟩, ⟨[(0, .lf (.is .u32)), (1, .lf (.is .u32)), (5, .ow .u32), (6, .lf (.i .u64)), (7, .lf (.i .u64)), (8, .lf (.i .i64)), (9, .lf (.i .i64))], zx.j3 k⟩]
theorem zap.ok : Fo 35 (sg [.ag [.b, .is .u32, .i .i64], .ag [.b, .is .u32, .i .i64]] [.ag [.b, .is .u32, .i .i64]]) zap.f := fo 21 Tryz.func35 (.o zL.ok (.o zx.ok .z))
theorem zcF.ok : Fo 118 (sg [.ag [.b, .is .u32, .i .i64]] [.ag [.b, .is .u32, .i .i64]]) fun _ => zcF.f := fo 12 Tryz.func118 .z
theorem zG.ok : Fo 41 (sg [.lf (.is .u32), .lf (.i .i64)] [.lf (.is .u32)]) zG.f := fo 45 Tryz.func41 (.t zl.ok zl.ok1 .z) [[tt, tt, tt, tt, tt, ff, tt, ff]] fun k => [⟨[(0, .lf (.is .u32)), (5, .ow .u32), (6, .lf (.i .i64)), (7, .lf (.i .u64)), (8, .lf (.i .i64))], zG.l0 k⟩]
theorem zk.ok : Fo 42 (sg [.lf (.is .u32), .lf (.is .u32)] [.lf (.is .u32)]) zk.f := fo 55 Tryz.func42 (.t zl.ok zl.ok1 .z) [[tt, tt, tt, ff, tt, ff], [tt, tt, tt, ff, tt, ff, ff, tt, ff, ff, tt], [tt, tt, tt, ff, tt, ff, ff, tt, ff, ff, tt, tt]] fun k => [⟨[(0, .lf (.is .u32)), (1, .lf (.is .u32)), (5, .ow .u32), (6, .lf (.i .u64)), (7, .lf (.i .i64))], zk.l0 k⟩, ⟨[(0, .lf (.is .u32)), (1, .lf (.is .u32)), (5, .ow .u32), (6, .lf (.i .u64)), (7, .lf (.i .i64))], zk.j2 k⟩, ⟨[(0, .lf (.is .u32)), (1, .lf (.is .u32)), (5, .ow .u32), (6, .lf (.i .u64)), (7, .lf (.i .i64))], zk.j3 k⟩]
theorem zah.ok : Fo 84 (sg [.lf (.is .u32), .lf (.is .u32)] [.lf (.i .i64)]) zah.f := fo 41 Tryz.func84 .z [[tt, tt, ff, tt, ff]] fun k => [⟨[(0, .lf (.is .u32)), (1, .lf (.is .u32)), (5, .lf (.i .i64))], zah.l0 k⟩]
theorem zq.ok : Fo 85 (sg [.lf (.is .u32), .lf (.is .u32)] [.lf (.is .u32)]) zq.f := fo 47 Tryz.func85 (.t zl.ok zl.ok1 .z) [[tt, tt, tt, ff, tt, ff], [tt, tt, tt, ff, tt, ff, ff, tt, ff, ff, tt, tt], [tt, tt, tt, ff, tt, ff, ff, tt, ff, ff, tt, tt, tt, tt, tt]] fun k => [⟨[(0, .lf (.is .u32)), (1, .lf (.is .u32)), (5, .ow .u32), (6, .lf (.i .u64)), (7, .lf (.i .i64))], zq.l0 k⟩, ⟨[(0, .lf (.is .u32)), (1, .lf (.is .u32)), (5, .ow .u32), (7, .lf (.i .i64)), (8, .lf (.i .u64))], zq.j1 k⟩, ⟨[(0, .lf (.is .u32)), (1, .lf (.is .u32)), (5, .ow .u32), (6, .lf (.i .u64)), (7, .lf (.i .i64)), (8, .lf (.i .u64)), (9, .lf (.i .u64))], zq.j2 k⟩]
theorem zD.ok : Fo 39 (sg [.ag [.b, .is .u32, .i .i64], .ag [.b, .is .u32, .i .i64]] [.ag [.b, .is .u32, .i .i64]]) zD.f := fo 70 Tryz.func39 (.o zG.ok (.o zk.ok (.o zL.ok (.o zah.ok (.o zq.ok .z))))) [[tt, tt, tt, tt, tt]] fun k => [⟨[(2, .bx [.b, .is .u32, .i .i64]), (3, .bx [.b, .is .u32, .i .i64]), (4, .bx [.b, .is .u32, .i .i64]), (5, .lf (.i .i64))], zD.j2 k⟩]
theorem za0.ok : Fo 76 (sg [.ag [.b, .is .u32, .i .i64], .ag [.b, .is .u32, .i .i64]] [.ag [.b, .is .u32, .i .i64]]) za0.f := fo 9 Tryz.func76 (.o zD.ok (.o zcF.ok .z))
theorem zb6.ok : Fo 52 (sg [.ag [.b, .is .u32, .i .i64], .ag [.b, .is .u32, .i .i64]] [.ag [.b, .is .u32, .i .i64]]) zb6.f := fo 12 Tryz.func52 (.o zap.ok (.o zD.ok .z))
theorem zbo.ok : Fo 78 (sg [.ag [.b, .is .u32, .i .i64], .lf (.i .i64)] [.ag [.b, .is .u32, .i .i64]]) fun _ => zbo.f := fo 15 Tryz.func78 .z
theorem zbH.ok : Fo 33 (sg [.lf (.i .u8), .ag [.i .u64, .i .u64], .ag [.b, .is .u32, .i .i64], .ag [.b, .is .u32, .i .i64], .ag [.b, .is .u32, .i .i64]] [.ag [.b, .is .u32, .i .i64], .ag [.b, .is .u32, .i .i64]]) zbH.f := fo 41 Tryz.func33 (.o zap.ok (.o zbf.ok (.o zb6.ok (.o za0.ok (.o zbp.ok (.o zbo.ok .z))))))
theorem z5.ok : Fo 36 (sg [.ag [.b, .is .u32, .i .i64]] [.lf (.i .i64)]) z5.f := fo 13 Tryz.func36 (.o zF.ok .z)
theorem zbD.ok : Fo 34 (sg [.ag [.b, .is .u32, .i .i64], .ag [.b, .is .u32, .i .i64]] [.lf (.i .i64)]) zbD.f := fo 36 Tryz.func34 (.o zaq.ok (.o z5.ok (.o za0.ok .z)))
theorem zcL.ok : Fo 12 (sg [.lf (.i .u8), .ag [.i .u64, .i .u64], .ag [.b, .is .u32, .i .i64], .ag [.b, .is .u32, .i .i64], .ag [.b, .is .u32, .i .i64], .lf (.i .i64)] [.lf (.b)]) zcL.f := fo 35 Tryz.func12 (.o zz.ok (.o zbH.ok (.o zbD.ok (.o zap.ok .z))))
theorem zaR.ok : Fo 119 (sg [.lf (.is .u32), .lf (.i .u32)] [.lf (.is .u32), .lf (.is .u32)]) zaR.f := fo 43 Tryz.func119 (.o zaP.ok (.t zl.ok zl.ok1 .z)) [[tt, tt, tt, ff, tt, ff]] fun k => [⟨[(0, .lf (.is .u32)), (1, .lf (.i .u32)), (6, .ow .u32), (7, .lf (.i .u64)), (8, .lf (.i .i64))], zaR.l0 k⟩]
theorem zY.ok : Fo 81 (sg [.lf (.is .u32), .lf (.is .u32)] [.lf (.is .u32), .lf (.is .u32)]) zY.f := fo 75 Tryz.func81 (.o zG.ok (.o zk.ok (.o zF.ok (.o zP.ok (.o zah.ok (.o zq.ok (.o za7.ok (.t zl.ok zl.ok1 (.o zaR.ok .z))))))))) [[tt, tt, tt, tt, tt, ff, tt, ff], [tt, tt, tt, tt, tt, ff, tt, ff, ff, tt, ff, ff, tt, tt]] fun k => [⟨[(0, .lf (.is .u32)), (1, .lf (.is .u32)), (6, .ow .u32), (8, .lf (.is .u32)), (10, .lf (.i .i64))], zY.l0 k⟩, ⟨[(0, .lf (.is .u32)), (1, .lf (.is .u32)), (6, .ow .u32), (8, .lf (.is .u32)), (10, .lf (.i .i64))], zY.j2 k⟩]
theorem zb3.ok : Fo 82 (sg [.ag [.b, .is .u32, .i .i64], .lf (.i .i64)] [.ag [.b, .is .u32, .i .i64], .lf (.b)]) zb3.f := fo 33 Tryz.func82 (.o zL.ok (.o zF.ok (.o zP.ok .z)))
theorem zaE.ok : Fo 37 (sg [.ag [.b, .is .u32, .i .i64], .ag [.b, .is .u32, .i .i64], .lf (.i .i64)] [.ag [.b, .is .u32, .i .i64], .lf (.b)]) zaE.f := fo 66 Tryz.func37 (.o zG.ok (.o zL.ok (.o zF.ok (.o zY.ok (.o zb3.ok .z))))) [[tt, tt, tt, tt]] fun k => [⟨[(2, .lf (.i .i64)), (3, .bx [.b, .is .u32, .i .i64]), (4, .bx [.b, .is .u32, .i .i64]), (6, .bx [.b, .is .u32, .i .i64]), (8, .lf (.i .i64))], zaE.j1 k⟩]
theorem zbd.ok : Fo 38 (sg [.ag [.b, .is .u32, .i .i64]] [.ag [.b, .is .u32, .i .i64]]) zbd.f := fo 30 Tryz.func38 (.o zk.ok (.o zL.ok (.o zP.ok .z)))
theorem zZ.ok : Fo 40 (sg [.lf (.is .u32)] [.lf (.is .u32), .lf (.b)]) zZ.f := fo 56 Tryz.func40 (.o zG.ok (.o zk.ok (.o zaP.ok (.o zF.ok (.o zah.ok (.o zq.ok (.o za7.ok .z))))))) [[tt, tt, tt, tt, ff, tt, ff], [tt, tt, tt, tt]] fun k => [⟨[(0, .lf (.is .u32)), (4, .lf (.is .u32)), (5, .lf (.is .u32)), (7, .lf (.i .i64))], zZ.l0 k⟩, ⟨[(0, .lf (.is .u32)), (4, .ow .u32), (5, .ow .u32), (6, .lf (.i .i64))], zZ.j0 k⟩]
theorem zaQ.ok : Fo 62 (sg [.lf (.is .u32), .lf (.is .u32)] [.lf (.b)]) zaQ.f := fo 26 Tryz.func62 .z [[tt, tt, ff, tt, ff]] fun k => [⟨[(0, .lf (.is .u32)), (1, .lf (.is .u32)), (5, .lf (.i .i64))], zaQ.l0 k⟩]
theorem zbe.ok : Fo 21 (sg [.ag [.b, .is .u32, .i .i64], .ag [.b, .is .u32, .i .i64]] [.lf (.b)]) zbe.f := fo 24 Tryz.func21 (.o zaQ.ok .z)
theorem zr.ok : Fo 13 (sg [.lf (.i .u8), .ag [.i .u64, .i .u64], .ag [.b, .is .u32, .i .i64], .ag [.b, .is .u32, .i .i64], .ag [.b, .is .u32, .i .i64]] [.lf (.i .u64), .lf (.b)]) zr.f := fo 87 Tryz.func13 (.o zbe.ok (.o zz.ok (.o zaq.ok (.o zbH.ok (.o z5.ok (.o zaE.ok (.o zbd.ok (.o zD.ok (.o zZ.ok (.o zG.ok (.o zk.ok .z))))))))))) [[tt, tt, tt, tt, tt, tt, tt, tt], [tt, tt, tt, tt, tt, tt, tt, tt, tt, tt]] fun k => [⟨[(16, .bx [.b, .is .u32, .i .i64])], zr.j5 k⟩, ⟨[(17, .lf (.is .u32))], zr.j6 k⟩]
theorem zao.ok : Fo 3 (sg [.lf (.i .u8), .ag [.i .u64, .i .u64], .ag [.b, .is .u32, .i .i64, .b, .is .u32, .i .i64, .b, .is .u32, .i .i64], .lf (.i .i64)] [.lf (.b)]) zao.f := fo 123 Tryz.func3 (.o zcE.ok (.o zbm.ok (.o za1.ok (.o zE.ok (.o zbn.ok (.o zcL.ok (.o zr.ok .z))))))) [[tt, tt, tt, tt, tt]] fun k => [⟨[(0, .lf (.i .u8)), (5, .bx [.i .u64, .i .u64]), (6, .bx [.b, .is .u32, .i .i64, .b, .is .u32, .i .i64, .b, .is .u32, .i .i64]), (11, .lf (.i .u64)), (12, .lf (.i .i64))], zao.j3 k⟩]
end Go.Proofs.YtioialhbjmnndaaGreatDoor.Eng
